-- put together by bundle.py, a program of this session, out of the texts named below
import Derived.Test.YtikepmdhnbnohaaZDiffNone2
import Derived.Test.YtikepmdhnbnohaaZDiffNone6
import Derived.Test.YtikepmdhnbnohaaZDiffNone7
-- text YtikepmdhnbnohaaPx11
section
-- written by mp.py, a program of this session, over the kit's printer
namespace Go.Proofs.Ytikepmdhnbnohaa.P
open Go.RowKit Go.Proofs.YtikepmdhnbnohaaW.PrintWords Go.Proofs.YtikepmdhnbnohaaW.PrintLast Go.Proofs.YtikepmdhnbnohaaW.PrintMore
attribute [local go_sem] max2_int min2_int max_two min_two max_three min_three max_four min_four   -- for this text's walks alone
set_option linter.unusedVariables false
set_option linter.unusedSimpArgs false

/-! ### graftageref08_Right: function 15 -/
mutual
def graftageref08_Right.l0 : Nat → List ByteArray → List ByteArray → List (S44) → Int → Int → Int → Int → Int → Int → Option (Bool)
  | 0, _, _, _, _, _, _, _, _, _ => none
  | k + 1, x0, x1, x2, x12, x13, x219000, x219001, x219002, x219003 => if x13 < x12 then (if 0 ≤ x13 then (if x13 < (x2.length : Int) then ((graftageref08_within.f ((rd_T44 x2 x13).f0) ((rd_T44 x2 x13).f1) ((rd_T44 x2 x13).f2) ((rd_T44 x2 x13).f3) x219000 x219001 x219002 x219003 (x0.length : Int) (x1.length : Int)).bind fun t224 => (if t224 = true then (if ((rd_T44 x2 x13).f1) = 0 then (if ((rd_T44 x2 x13).f3) = 0 then (graftageref08_Right.j1 k x0 x1 x2 x12 x13 true x219000 x219001 x219002 x219003 ((rd_T44 x2 x13).f0) ((rd_T44 x2 x13).f1) ((rd_T44 x2 x13).f2) ((rd_T44 x2 x13).f3)) else (if x13 > 0 then (graftageref08_Right.j1 k x0 x1 x2 x12 x13 (((rd_T44 x2 x13).f0) == x219000) x219000 x219001 x219002 x219003 ((rd_T44 x2 x13).f0) ((rd_T44 x2 x13).f1) ((rd_T44 x2 x13).f2) ((rd_T44 x2 x13).f3)) else (graftageref08_Right.j1 k x0 x1 x2 x12 x13 false x219000 x219001 x219002 x219003 ((rd_T44 x2 x13).f0) ((rd_T44 x2 x13).f1) ((rd_T44 x2 x13).f2) ((rd_T44 x2 x13).f3)))) else (if x13 > 0 then (graftageref08_Right.j1 k x0 x1 x2 x12 x13 (((rd_T44 x2 x13).f0) == x219000) x219000 x219001 x219002 x219003 ((rd_T44 x2 x13).f0) ((rd_T44 x2 x13).f1) ((rd_T44 x2 x13).f2) ((rd_T44 x2 x13).f3)) else (graftageref08_Right.j1 k x0 x1 x2 x12 x13 false x219000 x219001 x219002 x219003 ((rd_T44 x2 x13).f0) ((rd_T44 x2 x13).f1) ((rd_T44 x2 x13).f2) ((rd_T44 x2 x13).f3)))) else (graftageref08_Right.j1 k x0 x1 x2 x12 x13 true x219000 x219001 x219002 x219003 ((rd_T44 x2 x13).f0) ((rd_T44 x2 x13).f1) ((rd_T44 x2 x13).f2) ((rd_T44 x2 x13).f3)))) else (none)) else (none)) else (if 0 ≤ x219000 then (if x219000 ≤ (x0.length : Int) then (if 0 ≤ x219002 then (if x219002 ≤ (x1.length : Int) then ((graftageref08_Same.f k (x0.drop (x219000 : Int).toNat) (x1.drop (x219002 : Int).toNat)).bind fun t221 => (some t221)) else (none)) else (none)) else (none)) else (none))
def graftageref08_Right.j1 : Nat → List ByteArray → List ByteArray → List (S44) → Int → Int → Bool → Int → Int → Int → Int → Int → Int → Int → Int → Option (Bool)
  | 0, _, _, _, _, _, _, _, _, _, _, _, _, _, _ => none
  | k + 1, x0, x1, x2, x12, x13, x48, x219000, x219001, x219002, x219003, x224000, x224001, x224002, x224003 => if x48 = true then (some false) else (if (wrap64 (x224000 - x219000)) = (wrap64 (x224002 - x219002)) then (if 0 ≤ x219000 then (if x219000 ≤ x224000 then (if x224000 ≤ (x0.length : Int) then (if 0 ≤ x219002 then (if x219002 ≤ x224002 then (if x224002 ≤ (x1.length : Int) then ((graftageref08_Same.f k ((x0.take (x224000 : Int).toNat).drop (x219000 : Int).toNat) ((x1.take (x224002 : Int).toNat).drop (x219002 : Int).toNat)).bind fun t227 => (if t227 = true then (graftageref08_Right.l0 k x0 x1 x2 x12 (wrap64 (x13 + 1)) (wrap64 (x224000 + x224001)) 0 (wrap64 (x224002 + x224003)) 0) else (some false))) else (none)) else (none)) else (none)) else (none)) else (none)) else (none)) else (some false))
end
def graftageref08_Right.f (k : Nat) (l0 : List ByteArray) (l1 : List ByteArray) (l2 : List (S44)) : Option (Bool) := graftageref08_Right.l0 k l0 l1 l2 (l2.length : Int) 0 0 0 0 0
set_option maxHeartbeats 8000000 in
set_option maxRecDepth 100000 in
theorem graftageref08_Right.calls (k : Nat) (A0 : Option Addr) (c0 : Nat) (l0 : List ByteArray) (A1 : Option Addr) (c1 : Nat) (l1 : List ByteArray) (A2 : Option Addr) (c2 : Nat) (l2 : List (S44)) (r : Bool) (w : World) (hr0 : Kd.C Kd.string w A0 l0.length l0) (hc0 : l0.length ≤ c0) (hr1 : Kd.C Kd.string w A1 l1.length l1) (hc1 : l1.length ≤ c1) (hr2 : Kd.C k44 w A2 l2.length l2) (hc2 : l2.length ≤ c2) (h : graftageref08_Right.f k l0 l1 l2 = some r) :
    Calls Try.prog 15 #[.slice A0 l0.length c0, .slice A1 l1.length c1, .slice A2 l2.length c2] w fun e w' => e = .returned (.bool r) ∧ Below w.heap.size w w' := by
  have hu44 := Try.underlying44
  have HR0 := Aside0.mk hr0
  have HC0 := Aside0.mk hc0
  clear hr0 hc0
  have HR1 := Aside0.mk hr1
  have HC1 := Aside0.mk hc1
  clear hr1 hc1
  have HR2 := Aside0.mk hr2
  have HC2 := Aside0.mk hc2
  clear hr2 hc2
  have HB := Aside0.mk (Below.refl w.heap.size w)
  have H : (graftageref08_Right.l0 k l0 l1 l2 (l2.length : Int) 0 0 0 0 0) = some r := h
  clear h
  have H' := Aside0.mk H
  clear H
  go_enter Try.func15, Try.ntmps15
  go_wp2_with (first | ((with_reducible refine gate_dst (N := 7) rfl ?_); refine box_event ?hg (N := 7) ?hd (cs := #[.int .i64 0, .int .i64 0, .int .i64 0, .int .i64 0]) (t := 44) ?hr ?_; (case hd => rfl); (case hg => rfl); (case hr => first | (go_simp; done) | (go_simp; rfl)); intro gb218 hg w4 hbox hb; have n0_ := Aside0.mk (below_step (by repeat (first | (with_reducible first | exact HB.out | apply below_alloc | apply pw_below_drewN | apply below_drew1) | exact HB.out)) hb); have n1_ := Aside0.mk (hbox); have n2_ := Aside0.mk ((by rw [hg]; exact (below_size (by repeat (first | (with_reducible first | exact HB.out | apply below_alloc | apply pw_below_drewN | apply below_drew1) | exact HB.out))) : w.heap.size ≤ gb218)); have n3_ := Aside0.mk ((by rw [hg]; exact (below_size (by repeat (first | (with_reducible first | exact HB.out | apply below_alloc | apply pw_below_drewN | apply below_drew1) | exact HB.out))) : w.heap.size ≤ gb218)); clear HB; have HB := n0_; have BK218 := n1_; have GW218 := n2_; have GE218 := n3_; clear n0_ n1_ n2_ n3_; clear hb hbox hg; have hcz5_0 : w4.cell? ⟨gb218, 0, none⟩ = some (.int .i64 0) := (blk_cell BK218.out 0).trans rfl; have hcz5_1 : w4.cell? ⟨gb218, 1, none⟩ = some (.int .i64 0) := (blk_cell BK218.out 1).trans rfl; have hcz5_2 : w4.cell? ⟨gb218, 2, none⟩ = some (.int .i64 0) := (blk_cell BK218.out 2).trans rfl; have hcz5_3 : w4.cell? ⟨gb218, 3, none⟩ = some (.int .i64 0) := (blk_cell BK218.out 3).trans rfl; have hfz5_0 := blk_frozen BK218.out 0; have hfz5_1 := blk_frozen BK218.out 1; have hfz5_2 := blk_frozen BK218.out 2; have hfz5_3 := blk_frozen BK218.out 3))
  repeat (go_quiet (first | ((with_reducible refine gate_dst (N := 7) rfl ?_); refine box_event ?hg (N := 7) ?hd (cs := #[.int .i64 0, .int .i64 0, .int .i64 0, .int .i64 0]) (t := 44) ?hr ?_; (case hd => rfl); (case hg => rfl); (case hr => first | (go_simp; done) | (go_simp; rfl)); intro gb218 hg w4 hbox hb; have n0_ := Aside0.mk (below_step (by repeat (first | (with_reducible first | exact HB.out | apply below_alloc | apply pw_below_drewN | apply below_drew1) | exact HB.out)) hb); have n1_ := Aside0.mk (hbox); have n2_ := Aside0.mk ((by rw [hg]; exact (below_size (by repeat (first | (with_reducible first | exact HB.out | apply below_alloc | apply pw_below_drewN | apply below_drew1) | exact HB.out))) : w.heap.size ≤ gb218)); have n3_ := Aside0.mk ((by rw [hg]; exact (below_size (by repeat (first | (with_reducible first | exact HB.out | apply below_alloc | apply pw_below_drewN | apply below_drew1) | exact HB.out))) : w.heap.size ≤ gb218)); clear HB; have HB := n0_; have BK218 := n1_; have GW218 := n2_; have GE218 := n3_; clear n0_ n1_ n2_ n3_; clear hb hbox hg; have hcz5_0 : w4.cell? ⟨gb218, 0, none⟩ = some (.int .i64 0) := (blk_cell BK218.out 0).trans rfl; have hcz5_1 : w4.cell? ⟨gb218, 1, none⟩ = some (.int .i64 0) := (blk_cell BK218.out 1).trans rfl; have hcz5_2 : w4.cell? ⟨gb218, 2, none⟩ = some (.int .i64 0) := (blk_cell BK218.out 2).trans rfl; have hcz5_3 : w4.cell? ⟨gb218, 3, none⟩ = some (.int .i64 0) := (blk_cell BK218.out 3).trans rfl; have hfz5_0 := blk_frozen BK218.out 0; have hfz5_1 := blk_frozen BK218.out 1; have hfz5_2 := blk_frozen BK218.out 2; have hfz5_3 := blk_frozen BK218.out 3)); try go_wp2_with (first | ((with_reducible refine gate_dst (N := 7) rfl ?_); refine box_event ?hg (N := 7) ?hd (cs := #[.int .i64 0, .int .i64 0, .int .i64 0, .int .i64 0]) (t := 44) ?hr ?_; (case hd => rfl); (case hg => rfl); (case hr => first | (go_simp; done) | (go_simp; rfl)); intro gb218 hg w4 hbox hb; have n0_ := Aside0.mk (below_step (by repeat (first | (with_reducible first | exact HB.out | apply below_alloc | apply pw_below_drewN | apply below_drew1) | exact HB.out)) hb); have n1_ := Aside0.mk (hbox); have n2_ := Aside0.mk ((by rw [hg]; exact (below_size (by repeat (first | (with_reducible first | exact HB.out | apply below_alloc | apply pw_below_drewN | apply below_drew1) | exact HB.out))) : w.heap.size ≤ gb218)); have n3_ := Aside0.mk ((by rw [hg]; exact (below_size (by repeat (first | (with_reducible first | exact HB.out | apply below_alloc | apply pw_below_drewN | apply below_drew1) | exact HB.out))) : w.heap.size ≤ gb218)); clear HB; have HB := n0_; have BK218 := n1_; have GW218 := n2_; have GE218 := n3_; clear n0_ n1_ n2_ n3_; clear hb hbox hg; have hcz5_0 : w4.cell? ⟨gb218, 0, none⟩ = some (.int .i64 0) := (blk_cell BK218.out 0).trans rfl; have hcz5_1 : w4.cell? ⟨gb218, 1, none⟩ = some (.int .i64 0) := (blk_cell BK218.out 1).trans rfl; have hcz5_2 : w4.cell? ⟨gb218, 2, none⟩ = some (.int .i64 0) := (blk_cell BK218.out 2).trans rfl; have hcz5_3 : w4.cell? ⟨gb218, 3, none⟩ = some (.int .i64 0) := (blk_cell BK218.out 3).trans rfl; have hfz5_0 := blk_frozen BK218.out 0; have hfz5_1 := blk_frozen BK218.out 1; have hfz5_2 := blk_frozen BK218.out 2; have hfz5_3 := blk_frozen BK218.out 3)))
  go_loopg [13] k (fun kq v13 w' => ∃ (x13_1 : Int) (x219000_1 : Int) (x219001_1 : Int) (x219002_1 : Int) (x219003_1 : Int), v13 = .int .i64 x13_1 ∧ Aside0 (graftageref08_Right.l0 kq l0 l1 l2 (l2.length : Int) x13_1 x219000_1 x219001_1 x219002_1 x219003_1 = some r) ∧ Aside0 (kq ≤ k) ∧ Aside0 (w'.heap[gb218]? = some (.cells #[.int .i64 x219000_1, .int .i64 x219001_1, .int .i64 x219002_1, .int .i64 x219003_1] 44 (0, 0))) ∧ Aside0 (Below w.heap.size w w'))
  case atStart => exact ⟨(0), (0), (0), (0), (0), (by first | rfl | (simp; done) | (simp [*]; done)), H', ⟨Nat.le_refl _⟩, ⟨by (with_reducible repeat (first | refine blk_drewN ?_ _ | refine blk_drew ?_ | refine blk_alloc ?_ _)); refine blk_put (cs := #[.int .i64 0, .int .i64 0, .int .i64 0, .int .i64 0]) ?_ 3 _ rfl; (with_reducible repeat (first | refine blk_drewN ?_ _ | refine blk_drew ?_ | refine blk_alloc ?_ _)); refine blk_put (cs := #[.int .i64 0, .int .i64 0, .int .i64 0, .int .i64 0]) ?_ 2 _ rfl; (with_reducible repeat (first | refine blk_drewN ?_ _ | refine blk_drew ?_ | refine blk_alloc ?_ _)); refine blk_put (cs := #[.int .i64 0, .int .i64 0, .int .i64 0, .int .i64 0]) ?_ 1 _ rfl; (with_reducible repeat (first | refine blk_drewN ?_ _ | refine blk_drew ?_ | refine blk_alloc ?_ _)); refine blk_put (cs := #[.int .i64 0, .int .i64 0, .int .i64 0, .int .i64 0]) ?_ 0 _ rfl; (with_reducible repeat (first | refine blk_drewN ?_ _ | refine blk_drew ?_ | refine blk_alloc ?_ _)); exact BK218.out⟩, ⟨by repeat (first | (with_reducible first | exact HB.out | apply below_alloc | apply pw_below_drewN | apply below_drew1 | refine below_set ?_ GE218.out) | exact HB.out)⟩⟩
  case round =>
    clear H'
    try clear c1
    try clear c2
    try clear p2
    try clear hcz5_0
    try clear hcz5_1
    try clear hcz5_2
    try clear hcz5_3
    try clear hfz5_0
    try clear hfz5_1
    try clear hfz5_2
    try clear hfz5_3
    obtain ⟨x13_1, x219000_1, x219001_1, x219002_1, x219003_1, rfl, HA, HK1, BK218, HB⟩ := hrel
    cases gk with
    | zero => exact absurd HA.out (by simp [graftageref08_Right.l0])
    | succ k1 =>
      have H := HA.out
      clear HA
      simp only [graftageref08_Right.l0] at H
      by_cases c6 : x13_1 < (l2.length : Int)
      · rw [if_pos c6] at H
        have c6b0 : decide (x13_1 < (l2.length : Int)) = true := decide_eq_true c6
        clear c6
        by_cases c7 : 0 ≤ x13_1
        · rw [if_pos c7] at H
          have c7b0 : decide (0 ≤ x13_1) = true := decide_eq_true c7
          clear c7
          by_cases c8 : x13_1 < (l2.length : Int)
          · rw [if_pos c8] at H
            have c8b0 : decide (x13_1 < (l2.length : Int)) = true := decide_eq_true c8
            clear c8
            have HC9 := Aside0.mk H
            clear H
            have p222 : 0 ≤ (x13_1 : Int) := of_decide_eq_true (by first | (with_reducible assumption) | assumption)
            have q222 : x13_1 < (l2.length : Int) := of_decide_eq_true (by first | (with_reducible assumption) | assumption)
            obtain ⟨ad222, e222, hx222_0, hx222_1, hx222_2, hx222_3⟩ := at_T44 HR2.out x13_1 p222 q222
            cases e222
            replace hx222_0 := (HB.out.cell (World.block_lt_of_cell? w _ hx222_0)).trans hx222_0
            replace hx222_1 := (HB.out.cell (World.block_lt_of_cell? w _ hx222_1)).trans hx222_1
            replace hx222_2 := (HB.out.cell (World.block_lt_of_cell? w _ hx222_2)).trans hx222_2
            replace hx222_3 := (HB.out.cell (World.block_lt_of_cell? w _ hx222_3)).trans hx222_3
            replace p222 := eq_true p222
            replace q222 := eq_true q222
            go_upto_region 6 with (first | ((with_reducible refine gate_dst (N := 9) rfl ?_); refine box_event ?hg (N := 9) ?hd (cs := #[.int .i64 0, .int .i64 0, .int .i64 0, .int .i64 0]) (t := 44) ?hr ?_; (case hd => rfl); (case hg => rfl); (case hr => first | (go_simp; done) | (go_simp; rfl)); intro gb223 hg w10 hbox hb; have n0_ := Aside0.mk (blk_below (g := gb218) (o := .cells #[.int .i64 x219000_1, .int .i64 x219001_1, .int .i64 x219002_1, .int .i64 x219003_1] 44 (0, 0)) (by (with_reducible repeat (first | refine blk_drewN ?_ _ | refine blk_drew ?_ | refine blk_alloc ?_ _)); exact BK218.out) hb); have n1_ := Aside0.mk (below_step (by repeat (first | (with_reducible first | exact HB.out | apply below_alloc | apply pw_below_drewN | apply below_drew1 | refine below_set ?_ GE218.out) | exact HB.out)) hb); have n2_ := Aside0.mk (hbox); have n3_ := Aside0.mk ((by rw [hg]; exact (below_size (by repeat (first | (with_reducible first | exact HB.out | apply below_alloc | apply pw_below_drewN | apply below_drew1 | refine below_set ?_ GE218.out) | exact HB.out))) : w.heap.size ≤ gb223)); have n4_ := Aside0.mk ((by rw [hg]; exact (below_size (by repeat (first | (with_reducible first | exact HB.out | apply below_alloc | apply pw_below_drewN | apply below_drew1 | refine below_set ?_ GE218.out) | exact HB.out))) : w.heap.size ≤ gb223)); have n5_ := Aside0.mk ((by rw [hg]; exact Nat.ne_of_lt (blk_lt (g := gb218) (o := .cells #[.int .i64 x219000_1, .int .i64 x219001_1, .int .i64 x219002_1, .int .i64 x219003_1] 44 (0, 0)) (by (with_reducible repeat (first | refine blk_drewN ?_ _ | refine blk_drew ?_ | refine blk_alloc ?_ _)); exact BK218.out)) : gb218 ≠ gb223)); have n6_ := Aside0.mk ((by rw [hg]; exact Nat.ne_of_gt (blk_lt (g := gb218) (o := .cells #[.int .i64 x219000_1, .int .i64 x219001_1, .int .i64 x219002_1, .int .i64 x219003_1] 44 (0, 0)) (by (with_reducible repeat (first | refine blk_drewN ?_ _ | refine blk_drew ?_ | refine blk_alloc ?_ _)); exact BK218.out)) : gb223 ≠ gb218)); clear BK218; clear HB; have BK218 := n0_; have HB := n1_; have BK223 := n2_; have GW223 := n3_; have GE223 := n4_; have NB218_223 := n5_; have NB223_218 := n6_; clear n0_ n1_ n2_ n3_ n4_ n5_ n6_; clear hb hbox hg; have hnb11 := NB223_218.out; have hnc11 := NB218_223.out; have hcz12_0 : w10.cell? ⟨gb223, 0, none⟩ = some (.int .i64 0) := (blk_cell BK223.out 0).trans rfl; have hcz12_1 : w10.cell? ⟨gb223, 1, none⟩ = some (.int .i64 0) := (blk_cell BK223.out 1).trans rfl; have hcz12_2 : w10.cell? ⟨gb223, 2, none⟩ = some (.int .i64 0) := (blk_cell BK223.out 2).trans rfl; have hcz12_3 : w10.cell? ⟨gb223, 3, none⟩ = some (.int .i64 0) := (blk_cell BK223.out 3).trans rfl; have hfz12_0 := blk_frozen BK223.out 0; have hfz12_1 := blk_frozen BK223.out 1; have hfz12_2 := blk_frozen BK223.out 2; have hfz12_3 := blk_frozen BK223.out 3))
            repeat (go_quiet (first | ((with_reducible refine gate_dst (N := 9) rfl ?_); refine box_event ?hg (N := 9) ?hd (cs := #[.int .i64 0, .int .i64 0, .int .i64 0, .int .i64 0]) (t := 44) ?hr ?_; (case hd => rfl); (case hg => rfl); (case hr => first | (go_simp; done) | (go_simp; rfl)); intro gb223 hg w10 hbox hb; have n0_ := Aside0.mk (blk_below (g := gb218) (o := .cells #[.int .i64 x219000_1, .int .i64 x219001_1, .int .i64 x219002_1, .int .i64 x219003_1] 44 (0, 0)) (by (with_reducible repeat (first | refine blk_drewN ?_ _ | refine blk_drew ?_ | refine blk_alloc ?_ _)); exact BK218.out) hb); have n1_ := Aside0.mk (below_step (by repeat (first | (with_reducible first | exact HB.out | apply below_alloc | apply pw_below_drewN | apply below_drew1 | refine below_set ?_ GE218.out) | exact HB.out)) hb); have n2_ := Aside0.mk (hbox); have n3_ := Aside0.mk ((by rw [hg]; exact (below_size (by repeat (first | (with_reducible first | exact HB.out | apply below_alloc | apply pw_below_drewN | apply below_drew1 | refine below_set ?_ GE218.out) | exact HB.out))) : w.heap.size ≤ gb223)); have n4_ := Aside0.mk ((by rw [hg]; exact (below_size (by repeat (first | (with_reducible first | exact HB.out | apply below_alloc | apply pw_below_drewN | apply below_drew1 | refine below_set ?_ GE218.out) | exact HB.out))) : w.heap.size ≤ gb223)); have n5_ := Aside0.mk ((by rw [hg]; exact Nat.ne_of_lt (blk_lt (g := gb218) (o := .cells #[.int .i64 x219000_1, .int .i64 x219001_1, .int .i64 x219002_1, .int .i64 x219003_1] 44 (0, 0)) (by (with_reducible repeat (first | refine blk_drewN ?_ _ | refine blk_drew ?_ | refine blk_alloc ?_ _)); exact BK218.out)) : gb218 ≠ gb223)); have n6_ := Aside0.mk ((by rw [hg]; exact Nat.ne_of_gt (blk_lt (g := gb218) (o := .cells #[.int .i64 x219000_1, .int .i64 x219001_1, .int .i64 x219002_1, .int .i64 x219003_1] 44 (0, 0)) (by (with_reducible repeat (first | refine blk_drewN ?_ _ | refine blk_drew ?_ | refine blk_alloc ?_ _)); exact BK218.out)) : gb223 ≠ gb218)); clear BK218; clear HB; have BK218 := n0_; have HB := n1_; have BK223 := n2_; have GW223 := n3_; have GE223 := n4_; have NB218_223 := n5_; have NB223_218 := n6_; clear n0_ n1_ n2_ n3_ n4_ n5_ n6_; clear hb hbox hg; have hnb11 := NB223_218.out; have hnc11 := NB218_223.out; have hcz12_0 : w10.cell? ⟨gb223, 0, none⟩ = some (.int .i64 0) := (blk_cell BK223.out 0).trans rfl; have hcz12_1 : w10.cell? ⟨gb223, 1, none⟩ = some (.int .i64 0) := (blk_cell BK223.out 1).trans rfl; have hcz12_2 : w10.cell? ⟨gb223, 2, none⟩ = some (.int .i64 0) := (blk_cell BK223.out 2).trans rfl; have hcz12_3 : w10.cell? ⟨gb223, 3, none⟩ = some (.int .i64 0) := (blk_cell BK223.out 3).trans rfl; have hfz12_0 := blk_frozen BK223.out 0; have hfz12_1 := blk_frozen BK223.out 1; have hfz12_2 := blk_frozen BK223.out 2; have hfz12_3 := blk_frozen BK223.out 3)); go_upto_region 6 with (first | ((with_reducible refine gate_dst (N := 9) rfl ?_); refine box_event ?hg (N := 9) ?hd (cs := #[.int .i64 0, .int .i64 0, .int .i64 0, .int .i64 0]) (t := 44) ?hr ?_; (case hd => rfl); (case hg => rfl); (case hr => first | (go_simp; done) | (go_simp; rfl)); intro gb223 hg w10 hbox hb; have n0_ := Aside0.mk (blk_below (g := gb218) (o := .cells #[.int .i64 x219000_1, .int .i64 x219001_1, .int .i64 x219002_1, .int .i64 x219003_1] 44 (0, 0)) (by (with_reducible repeat (first | refine blk_drewN ?_ _ | refine blk_drew ?_ | refine blk_alloc ?_ _)); exact BK218.out) hb); have n1_ := Aside0.mk (below_step (by repeat (first | (with_reducible first | exact HB.out | apply below_alloc | apply pw_below_drewN | apply below_drew1 | refine below_set ?_ GE218.out) | exact HB.out)) hb); have n2_ := Aside0.mk (hbox); have n3_ := Aside0.mk ((by rw [hg]; exact (below_size (by repeat (first | (with_reducible first | exact HB.out | apply below_alloc | apply pw_below_drewN | apply below_drew1 | refine below_set ?_ GE218.out) | exact HB.out))) : w.heap.size ≤ gb223)); have n4_ := Aside0.mk ((by rw [hg]; exact (below_size (by repeat (first | (with_reducible first | exact HB.out | apply below_alloc | apply pw_below_drewN | apply below_drew1 | refine below_set ?_ GE218.out) | exact HB.out))) : w.heap.size ≤ gb223)); have n5_ := Aside0.mk ((by rw [hg]; exact Nat.ne_of_lt (blk_lt (g := gb218) (o := .cells #[.int .i64 x219000_1, .int .i64 x219001_1, .int .i64 x219002_1, .int .i64 x219003_1] 44 (0, 0)) (by (with_reducible repeat (first | refine blk_drewN ?_ _ | refine blk_drew ?_ | refine blk_alloc ?_ _)); exact BK218.out)) : gb218 ≠ gb223)); have n6_ := Aside0.mk ((by rw [hg]; exact Nat.ne_of_gt (blk_lt (g := gb218) (o := .cells #[.int .i64 x219000_1, .int .i64 x219001_1, .int .i64 x219002_1, .int .i64 x219003_1] 44 (0, 0)) (by (with_reducible repeat (first | refine blk_drewN ?_ _ | refine blk_drew ?_ | refine blk_alloc ?_ _)); exact BK218.out)) : gb223 ≠ gb218)); clear BK218; clear HB; have BK218 := n0_; have HB := n1_; have BK223 := n2_; have GW223 := n3_; have GE223 := n4_; have NB218_223 := n5_; have NB223_218 := n6_; clear n0_ n1_ n2_ n3_ n4_ n5_ n6_; clear hb hbox hg; have hnb11 := NB223_218.out; have hnc11 := NB218_223.out; have hcz12_0 : w10.cell? ⟨gb223, 0, none⟩ = some (.int .i64 0) := (blk_cell BK223.out 0).trans rfl; have hcz12_1 : w10.cell? ⟨gb223, 1, none⟩ = some (.int .i64 0) := (blk_cell BK223.out 1).trans rfl; have hcz12_2 : w10.cell? ⟨gb223, 2, none⟩ = some (.int .i64 0) := (blk_cell BK223.out 2).trans rfl; have hcz12_3 : w10.cell? ⟨gb223, 3, none⟩ = some (.int .i64 0) := (blk_cell BK223.out 3).trans rfl; have hfz12_0 := blk_frozen BK223.out 0; have hfz12_1 := blk_frozen BK223.out 1; have hfz12_2 := blk_frozen BK223.out 2; have hfz12_3 := blk_frozen BK223.out 3)))
            (try simp only [Act.put, List.setIfInBounds_toArray, List.set_cons_zero, List.set_cons_succ])
            go_cut [48] (fun v48 wc => ∃ (kq : Nat) (x48_8 : Bool), v48 = .bool x48_8 ∧ Aside0 (graftageref08_Right.j1 kq l0 l1 l2 (l2.length : Int) x13_1 x48_8 x219000_1 x219001_1 x219002_1 x219003_1 ((rd_T44 l2 x13_1).f0) ((rd_T44 l2 x13_1).f1) ((rd_T44 l2 x13_1).f2) ((rd_T44 l2 x13_1).f3) = some r) ∧ Aside0 (kq ≤ k1) ∧ Aside0 (wc.heap[gb218]? = some (.cells #[.int .i64 x219000_1, .int .i64 x219001_1, .int .i64 x219002_1, .int .i64 x219003_1] 44 (0, 0))) ∧ Aside0 (wc.heap[gb223]? = some (.cells #[.int .i64 ((rd_T44 l2 x13_1).f0), .int .i64 ((rd_T44 l2 x13_1).f1), .int .i64 ((rd_T44 l2 x13_1).f2), .int .i64 ((rd_T44 l2 x13_1).f3)] 44 (0, 0))) ∧ Aside0 (Below w.heap.size w wc))
            case first =>
              have H := HC9.out
              clear HC9
              replace H := Option.bind_eq_some_iff.mp H
              obtain ⟨t224, A130, H⟩ := H
              replace H : (if t224 = true then (if ((rd_T44 l2 x13_1).f1) = 0 then (if ((rd_T44 l2 x13_1).f3) = 0 then (graftageref08_Right.j1 k1 l0 l1 l2 (l2.length : Int) x13_1 true x219000_1 x219001_1 x219002_1 x219003_1 ((rd_T44 l2 x13_1).f0) ((rd_T44 l2 x13_1).f1) ((rd_T44 l2 x13_1).f2) ((rd_T44 l2 x13_1).f3)) else (if x13_1 > 0 then (graftageref08_Right.j1 k1 l0 l1 l2 (l2.length : Int) x13_1 (((rd_T44 l2 x13_1).f0) == x219000_1) x219000_1 x219001_1 x219002_1 x219003_1 ((rd_T44 l2 x13_1).f0) ((rd_T44 l2 x13_1).f1) ((rd_T44 l2 x13_1).f2) ((rd_T44 l2 x13_1).f3)) else (graftageref08_Right.j1 k1 l0 l1 l2 (l2.length : Int) x13_1 false x219000_1 x219001_1 x219002_1 x219003_1 ((rd_T44 l2 x13_1).f0) ((rd_T44 l2 x13_1).f1) ((rd_T44 l2 x13_1).f2) ((rd_T44 l2 x13_1).f3)))) else (if x13_1 > 0 then (graftageref08_Right.j1 k1 l0 l1 l2 (l2.length : Int) x13_1 (((rd_T44 l2 x13_1).f0) == x219000_1) x219000_1 x219001_1 x219002_1 x219003_1 ((rd_T44 l2 x13_1).f0) ((rd_T44 l2 x13_1).f1) ((rd_T44 l2 x13_1).f2) ((rd_T44 l2 x13_1).f3)) else (graftageref08_Right.j1 k1 l0 l1 l2 (l2.length : Int) x13_1 false x219000_1 x219001_1 x219002_1 x219003_1 ((rd_T44 l2 x13_1).f0) ((rd_T44 l2 x13_1).f1) ((rd_T44 l2 x13_1).f2) ((rd_T44 l2 x13_1).f3)))) else (graftageref08_Right.j1 k1 l0 l1 l2 (l2.length : Int) x13_1 true x219000_1 x219001_1 x219002_1 x219003_1 ((rd_T44 l2 x13_1).f0) ((rd_T44 l2 x13_1).f1) ((rd_T44 l2 x13_1).f2) ((rd_T44 l2 x13_1).f3))) = some r := H
              have A13 := Aside0.mk A130
              clear A130
              by_cases c14 : t224 = true
              · subst c14
                have H1 : (if ((rd_T44 l2 x13_1).f1) = 0 then (if ((rd_T44 l2 x13_1).f3) = 0 then (graftageref08_Right.j1 k1 l0 l1 l2 (l2.length : Int) x13_1 true x219000_1 x219001_1 x219002_1 x219003_1 ((rd_T44 l2 x13_1).f0) ((rd_T44 l2 x13_1).f1) ((rd_T44 l2 x13_1).f2) ((rd_T44 l2 x13_1).f3)) else (if x13_1 > 0 then (graftageref08_Right.j1 k1 l0 l1 l2 (l2.length : Int) x13_1 (((rd_T44 l2 x13_1).f0) == x219000_1) x219000_1 x219001_1 x219002_1 x219003_1 ((rd_T44 l2 x13_1).f0) ((rd_T44 l2 x13_1).f1) ((rd_T44 l2 x13_1).f2) ((rd_T44 l2 x13_1).f3)) else (graftageref08_Right.j1 k1 l0 l1 l2 (l2.length : Int) x13_1 false x219000_1 x219001_1 x219002_1 x219003_1 ((rd_T44 l2 x13_1).f0) ((rd_T44 l2 x13_1).f1) ((rd_T44 l2 x13_1).f2) ((rd_T44 l2 x13_1).f3)))) else (if x13_1 > 0 then (graftageref08_Right.j1 k1 l0 l1 l2 (l2.length : Int) x13_1 (((rd_T44 l2 x13_1).f0) == x219000_1) x219000_1 x219001_1 x219002_1 x219003_1 ((rd_T44 l2 x13_1).f0) ((rd_T44 l2 x13_1).f1) ((rd_T44 l2 x13_1).f2) ((rd_T44 l2 x13_1).f3)) else (graftageref08_Right.j1 k1 l0 l1 l2 (l2.length : Int) x13_1 false x219000_1 x219001_1 x219002_1 x219003_1 ((rd_T44 l2 x13_1).f0) ((rd_T44 l2 x13_1).f1) ((rd_T44 l2 x13_1).f2) ((rd_T44 l2 x13_1).f3)))) = some r := by rw [if_pos rfl] at H; exact H
                clear H
                have H := H1
                clear H1
                by_cases c15 : ((rd_T44 l2 x13_1).f1) = 0
                · rw [if_pos c15] at H
                  have c15b0 : (((rd_T44 l2 x13_1).f1) == 0) = true := beq_iff_eq.mpr c15
                  have c15b1 : (((rd_T44 l2 x13_1).f1) != 0) = false := bne_eq_false_iff_eq.mpr c15
                  clear c15
                  (first | rw [c15b0] | (simp only [i64_w, i32_w]; rw [c15b0]) | skip)
                  by_cases c16 : ((rd_T44 l2 x13_1).f3) = 0
                  · rw [if_pos c16] at H
                    have c16b0 : (((rd_T44 l2 x13_1).f3) == 0) = true := beq_iff_eq.mpr c16
                    have c16b1 : (((rd_T44 l2 x13_1).f3) != 0) = false := bne_eq_false_iff_eq.mpr c16
                    clear c16
                    have H' := Aside0.mk H
                    clear H
                    have hnb17 := NB223_218.out
                    have hnc17 := NB218_223.out
                    have hcz18_0 : w10.cell? ⟨gb223, 0, none⟩ = some (.int .i64 0) := (blk_cell BK223.out 0).trans rfl
                    have hcz18_1 : w10.cell? ⟨gb223, 1, none⟩ = some (.int .i64 0) := (blk_cell BK223.out 1).trans rfl
                    have hcz18_2 : w10.cell? ⟨gb223, 2, none⟩ = some (.int .i64 0) := (blk_cell BK223.out 2).trans rfl
                    have hcz18_3 : w10.cell? ⟨gb223, 3, none⟩ = some (.int .i64 0) := (blk_cell BK223.out 3).trans rfl
                    have hfz18_0 := blk_frozen BK223.out 0
                    have hfz18_1 := blk_frozen BK223.out 1
                    have hfz18_2 := blk_frozen BK223.out 2
                    have hfz18_3 := blk_frozen BK223.out 3
                    have hcz19_0 : w10.cell? ⟨gb218, 0, none⟩ = some (.int .i64 x219000_1) := (blk_cell BK218.out 0).trans rfl
                    have hcz19_1 : w10.cell? ⟨gb218, 1, none⟩ = some (.int .i64 x219001_1) := (blk_cell BK218.out 1).trans rfl
                    have hcz19_2 : w10.cell? ⟨gb218, 2, none⟩ = some (.int .i64 x219002_1) := (blk_cell BK218.out 2).trans rfl
                    have hcz19_3 : w10.cell? ⟨gb218, 3, none⟩ = some (.int .i64 x219003_1) := (blk_cell BK218.out 3).trans rfl
                    have hfz19_0 := blk_frozen BK218.out 0
                    have hfz19_1 := blk_frozen BK218.out 1
                    have hfz19_2 := blk_frozen BK218.out 2
                    have hfz19_3 := blk_frozen BK218.out 3
                    go_wp2_with (first | (go_at_call 34; (with_reducible refine (graftageref08_within.calls ((rd_T44 l2 x13_1).f0) ((rd_T44 l2 x13_1).f1) ((rd_T44 l2 x13_1).f2) ((rd_T44 l2 x13_1).f3) x219000_1 x219001_1 x219002_1 x219003_1 (l0.length : Int) (l1.length : Int) true _ A13.out).mono ?_); rintro e w20 ⟨rfl, hb⟩; have n0_ := Aside0.mk (blk_below (g := gb218) (o := .cells #[.int .i64 x219000_1, .int .i64 x219001_1, .int .i64 x219002_1, .int .i64 x219003_1] 44 (0, 0)) (by (with_reducible repeat (first | refine blk_drewN ?_ _ | refine blk_drew ?_ | refine blk_alloc ?_ _)); refine blk_far ?_ NB218_223.out _; (with_reducible repeat (first | refine blk_drewN ?_ _ | refine blk_drew ?_ | refine blk_alloc ?_ _)); refine blk_far ?_ NB218_223.out _; (with_reducible repeat (first | refine blk_drewN ?_ _ | refine blk_drew ?_ | refine blk_alloc ?_ _)); refine blk_far ?_ NB218_223.out _; (with_reducible repeat (first | refine blk_drewN ?_ _ | refine blk_drew ?_ | refine blk_alloc ?_ _)); refine blk_far ?_ NB218_223.out _; (with_reducible repeat (first | refine blk_drewN ?_ _ | refine blk_drew ?_ | refine blk_alloc ?_ _)); exact BK218.out) hb); have n1_ := Aside0.mk (blk_below (g := gb223) (o := .cells #[.int .i64 ((rd_T44 l2 x13_1).f0), .int .i64 ((rd_T44 l2 x13_1).f1), .int .i64 ((rd_T44 l2 x13_1).f2), .int .i64 ((rd_T44 l2 x13_1).f3)] 44 (0, 0)) (by (with_reducible repeat (first | refine blk_drewN ?_ _ | refine blk_drew ?_ | refine blk_alloc ?_ _)); refine blk_put (cs := #[.int .i64 ((rd_T44 l2 x13_1).f0), .int .i64 ((rd_T44 l2 x13_1).f1), .int .i64 ((rd_T44 l2 x13_1).f2), .int .i64 0]) ?_ 3 _ rfl; (with_reducible repeat (first | refine blk_drewN ?_ _ | refine blk_drew ?_ | refine blk_alloc ?_ _)); refine blk_put (cs := #[.int .i64 ((rd_T44 l2 x13_1).f0), .int .i64 ((rd_T44 l2 x13_1).f1), .int .i64 0, .int .i64 0]) ?_ 2 _ rfl; (with_reducible repeat (first | refine blk_drewN ?_ _ | refine blk_drew ?_ | refine blk_alloc ?_ _)); refine blk_put (cs := #[.int .i64 ((rd_T44 l2 x13_1).f0), .int .i64 0, .int .i64 0, .int .i64 0]) ?_ 1 _ rfl; (with_reducible repeat (first | refine blk_drewN ?_ _ | refine blk_drew ?_ | refine blk_alloc ?_ _)); refine blk_put (cs := #[.int .i64 0, .int .i64 0, .int .i64 0, .int .i64 0]) ?_ 0 _ rfl; (with_reducible repeat (first | refine blk_drewN ?_ _ | refine blk_drew ?_ | refine blk_alloc ?_ _)); exact BK223.out) hb); have n2_ := Aside0.mk (below_step (by repeat (first | (with_reducible first | exact HB.out | apply below_alloc | apply pw_below_drewN | apply below_drew1 | refine below_set ?_ GE218.out | refine below_set ?_ GE223.out) | exact HB.out)) hb); clear BK218; clear BK223; clear HB; have BK218 := n0_; have BK223 := n1_; have HB := n2_; clear n0_ n1_ n2_; (try clear hb); (try clear hb2); (try clear hk); (try clear hi); have hcz21_0 : w20.cell? ⟨gb223, 0, none⟩ = some (.int .i64 ((rd_T44 l2 x13_1).f0)) := (blk_cell BK223.out 0).trans rfl; have hcz21_1 : w20.cell? ⟨gb223, 1, none⟩ = some (.int .i64 ((rd_T44 l2 x13_1).f1)) := (blk_cell BK223.out 1).trans rfl; have hcz21_2 : w20.cell? ⟨gb223, 2, none⟩ = some (.int .i64 ((rd_T44 l2 x13_1).f2)) := (blk_cell BK223.out 2).trans rfl; have hcz21_3 : w20.cell? ⟨gb223, 3, none⟩ = some (.int .i64 ((rd_T44 l2 x13_1).f3)) := (blk_cell BK223.out 3).trans rfl; have hfz21_0 := blk_frozen BK223.out 0; have hfz21_1 := blk_frozen BK223.out 1; have hfz21_2 := blk_frozen BK223.out 2; have hfz21_3 := blk_frozen BK223.out 3))
                    repeat (go_quiet (first | (go_at_call 34; (with_reducible refine (graftageref08_within.calls ((rd_T44 l2 x13_1).f0) ((rd_T44 l2 x13_1).f1) ((rd_T44 l2 x13_1).f2) ((rd_T44 l2 x13_1).f3) x219000_1 x219001_1 x219002_1 x219003_1 (l0.length : Int) (l1.length : Int) true _ A13.out).mono ?_); rintro e w20 ⟨rfl, hb⟩; have n0_ := Aside0.mk (blk_below (g := gb218) (o := .cells #[.int .i64 x219000_1, .int .i64 x219001_1, .int .i64 x219002_1, .int .i64 x219003_1] 44 (0, 0)) (by (with_reducible repeat (first | refine blk_drewN ?_ _ | refine blk_drew ?_ | refine blk_alloc ?_ _)); refine blk_far ?_ NB218_223.out _; (with_reducible repeat (first | refine blk_drewN ?_ _ | refine blk_drew ?_ | refine blk_alloc ?_ _)); refine blk_far ?_ NB218_223.out _; (with_reducible repeat (first | refine blk_drewN ?_ _ | refine blk_drew ?_ | refine blk_alloc ?_ _)); refine blk_far ?_ NB218_223.out _; (with_reducible repeat (first | refine blk_drewN ?_ _ | refine blk_drew ?_ | refine blk_alloc ?_ _)); refine blk_far ?_ NB218_223.out _; (with_reducible repeat (first | refine blk_drewN ?_ _ | refine blk_drew ?_ | refine blk_alloc ?_ _)); exact BK218.out) hb); have n1_ := Aside0.mk (blk_below (g := gb223) (o := .cells #[.int .i64 ((rd_T44 l2 x13_1).f0), .int .i64 ((rd_T44 l2 x13_1).f1), .int .i64 ((rd_T44 l2 x13_1).f2), .int .i64 ((rd_T44 l2 x13_1).f3)] 44 (0, 0)) (by (with_reducible repeat (first | refine blk_drewN ?_ _ | refine blk_drew ?_ | refine blk_alloc ?_ _)); refine blk_put (cs := #[.int .i64 ((rd_T44 l2 x13_1).f0), .int .i64 ((rd_T44 l2 x13_1).f1), .int .i64 ((rd_T44 l2 x13_1).f2), .int .i64 0]) ?_ 3 _ rfl; (with_reducible repeat (first | refine blk_drewN ?_ _ | refine blk_drew ?_ | refine blk_alloc ?_ _)); refine blk_put (cs := #[.int .i64 ((rd_T44 l2 x13_1).f0), .int .i64 ((rd_T44 l2 x13_1).f1), .int .i64 0, .int .i64 0]) ?_ 2 _ rfl; (with_reducible repeat (first | refine blk_drewN ?_ _ | refine blk_drew ?_ | refine blk_alloc ?_ _)); refine blk_put (cs := #[.int .i64 ((rd_T44 l2 x13_1).f0), .int .i64 0, .int .i64 0, .int .i64 0]) ?_ 1 _ rfl; (with_reducible repeat (first | refine blk_drewN ?_ _ | refine blk_drew ?_ | refine blk_alloc ?_ _)); refine blk_put (cs := #[.int .i64 0, .int .i64 0, .int .i64 0, .int .i64 0]) ?_ 0 _ rfl; (with_reducible repeat (first | refine blk_drewN ?_ _ | refine blk_drew ?_ | refine blk_alloc ?_ _)); exact BK223.out) hb); have n2_ := Aside0.mk (below_step (by repeat (first | (with_reducible first | exact HB.out | apply below_alloc | apply pw_below_drewN | apply below_drew1 | refine below_set ?_ GE218.out | refine below_set ?_ GE223.out) | exact HB.out)) hb); clear BK218; clear BK223; clear HB; have BK218 := n0_; have BK223 := n1_; have HB := n2_; clear n0_ n1_ n2_; (try clear hb); (try clear hb2); (try clear hk); (try clear hi); have hcz21_0 : w20.cell? ⟨gb223, 0, none⟩ = some (.int .i64 ((rd_T44 l2 x13_1).f0)) := (blk_cell BK223.out 0).trans rfl; have hcz21_1 : w20.cell? ⟨gb223, 1, none⟩ = some (.int .i64 ((rd_T44 l2 x13_1).f1)) := (blk_cell BK223.out 1).trans rfl; have hcz21_2 : w20.cell? ⟨gb223, 2, none⟩ = some (.int .i64 ((rd_T44 l2 x13_1).f2)) := (blk_cell BK223.out 2).trans rfl; have hcz21_3 : w20.cell? ⟨gb223, 3, none⟩ = some (.int .i64 ((rd_T44 l2 x13_1).f3)) := (blk_cell BK223.out 3).trans rfl; have hfz21_0 := blk_frozen BK223.out 0; have hfz21_1 := blk_frozen BK223.out 1; have hfz21_2 := blk_frozen BK223.out 2; have hfz21_3 := blk_frozen BK223.out 3)); try go_wp2_with (first | (go_at_call 34; (with_reducible refine (graftageref08_within.calls ((rd_T44 l2 x13_1).f0) ((rd_T44 l2 x13_1).f1) ((rd_T44 l2 x13_1).f2) ((rd_T44 l2 x13_1).f3) x219000_1 x219001_1 x219002_1 x219003_1 (l0.length : Int) (l1.length : Int) true _ A13.out).mono ?_); rintro e w20 ⟨rfl, hb⟩; have n0_ := Aside0.mk (blk_below (g := gb218) (o := .cells #[.int .i64 x219000_1, .int .i64 x219001_1, .int .i64 x219002_1, .int .i64 x219003_1] 44 (0, 0)) (by (with_reducible repeat (first | refine blk_drewN ?_ _ | refine blk_drew ?_ | refine blk_alloc ?_ _)); refine blk_far ?_ NB218_223.out _; (with_reducible repeat (first | refine blk_drewN ?_ _ | refine blk_drew ?_ | refine blk_alloc ?_ _)); refine blk_far ?_ NB218_223.out _; (with_reducible repeat (first | refine blk_drewN ?_ _ | refine blk_drew ?_ | refine blk_alloc ?_ _)); refine blk_far ?_ NB218_223.out _; (with_reducible repeat (first | refine blk_drewN ?_ _ | refine blk_drew ?_ | refine blk_alloc ?_ _)); refine blk_far ?_ NB218_223.out _; (with_reducible repeat (first | refine blk_drewN ?_ _ | refine blk_drew ?_ | refine blk_alloc ?_ _)); exact BK218.out) hb); have n1_ := Aside0.mk (blk_below (g := gb223) (o := .cells #[.int .i64 ((rd_T44 l2 x13_1).f0), .int .i64 ((rd_T44 l2 x13_1).f1), .int .i64 ((rd_T44 l2 x13_1).f2), .int .i64 ((rd_T44 l2 x13_1).f3)] 44 (0, 0)) (by (with_reducible repeat (first | refine blk_drewN ?_ _ | refine blk_drew ?_ | refine blk_alloc ?_ _)); refine blk_put (cs := #[.int .i64 ((rd_T44 l2 x13_1).f0), .int .i64 ((rd_T44 l2 x13_1).f1), .int .i64 ((rd_T44 l2 x13_1).f2), .int .i64 0]) ?_ 3 _ rfl; (with_reducible repeat (first | refine blk_drewN ?_ _ | refine blk_drew ?_ | refine blk_alloc ?_ _)); refine blk_put (cs := #[.int .i64 ((rd_T44 l2 x13_1).f0), .int .i64 ((rd_T44 l2 x13_1).f1), .int .i64 0, .int .i64 0]) ?_ 2 _ rfl; (with_reducible repeat (first | refine blk_drewN ?_ _ | refine blk_drew ?_ | refine blk_alloc ?_ _)); refine blk_put (cs := #[.int .i64 ((rd_T44 l2 x13_1).f0), .int .i64 0, .int .i64 0, .int .i64 0]) ?_ 1 _ rfl; (with_reducible repeat (first | refine blk_drewN ?_ _ | refine blk_drew ?_ | refine blk_alloc ?_ _)); refine blk_put (cs := #[.int .i64 0, .int .i64 0, .int .i64 0, .int .i64 0]) ?_ 0 _ rfl; (with_reducible repeat (first | refine blk_drewN ?_ _ | refine blk_drew ?_ | refine blk_alloc ?_ _)); exact BK223.out) hb); have n2_ := Aside0.mk (below_step (by repeat (first | (with_reducible first | exact HB.out | apply below_alloc | apply pw_below_drewN | apply below_drew1 | refine below_set ?_ GE218.out | refine below_set ?_ GE223.out) | exact HB.out)) hb); clear BK218; clear BK223; clear HB; have BK218 := n0_; have BK223 := n1_; have HB := n2_; clear n0_ n1_ n2_; (try clear hb); (try clear hb2); (try clear hk); (try clear hi); have hcz21_0 : w20.cell? ⟨gb223, 0, none⟩ = some (.int .i64 ((rd_T44 l2 x13_1).f0)) := (blk_cell BK223.out 0).trans rfl; have hcz21_1 : w20.cell? ⟨gb223, 1, none⟩ = some (.int .i64 ((rd_T44 l2 x13_1).f1)) := (blk_cell BK223.out 1).trans rfl; have hcz21_2 : w20.cell? ⟨gb223, 2, none⟩ = some (.int .i64 ((rd_T44 l2 x13_1).f2)) := (blk_cell BK223.out 2).trans rfl; have hcz21_3 : w20.cell? ⟨gb223, 3, none⟩ = some (.int .i64 ((rd_T44 l2 x13_1).f3)) := (blk_cell BK223.out 3).trans rfl; have hfz21_0 := blk_frozen BK223.out 0; have hfz21_1 := blk_frozen BK223.out 1; have hfz21_2 := blk_frozen BK223.out 2; have hfz21_3 := blk_frozen BK223.out 3)))
                    go_meet
                    case rel => exact ⟨_, (true), (by first | rfl | (simp; done) | (simp [*]; done)), H', ⟨by have := HK1.out; first | omega | exact Nat.le_refl _⟩, ⟨by (with_reducible repeat (first | refine blk_drewN ?_ _ | refine blk_drew ?_ | refine blk_alloc ?_ _)); exact BK218.out⟩, ⟨by (with_reducible repeat (first | refine blk_drewN ?_ _ | refine blk_drew ?_ | refine blk_alloc ?_ _)); exact BK223.out⟩, ⟨by repeat (first | (with_reducible first | exact HB.out | apply below_alloc | apply pw_below_drewN | apply below_drew1 | refine below_set ?_ GE218.out | refine below_set ?_ GE223.out) | exact HB.out)⟩⟩
                  · rw [if_neg c16] at H
                    have c16b0 : (((rd_T44 l2 x13_1).f3) == 0) = false := beq_eq_false_iff_ne.mpr c16
                    have c16b1 : (((rd_T44 l2 x13_1).f3) != 0) = true := bne_iff_ne.mpr c16
                    by_cases c22 : x13_1 > 0
                    · rw [if_pos c22] at H
                      have c22b0 : decide (0 < x13_1) = true := decide_eq_true c22
                      clear c22
                      have H' := Aside0.mk H
                      clear H
                      have hnb23 := NB223_218.out
                      have hnc23 := NB218_223.out
                      have hcz24_0 : w10.cell? ⟨gb223, 0, none⟩ = some (.int .i64 0) := (blk_cell BK223.out 0).trans rfl
                      have hcz24_1 : w10.cell? ⟨gb223, 1, none⟩ = some (.int .i64 0) := (blk_cell BK223.out 1).trans rfl
                      have hcz24_2 : w10.cell? ⟨gb223, 2, none⟩ = some (.int .i64 0) := (blk_cell BK223.out 2).trans rfl
                      have hcz24_3 : w10.cell? ⟨gb223, 3, none⟩ = some (.int .i64 0) := (blk_cell BK223.out 3).trans rfl
                      have hfz24_0 := blk_frozen BK223.out 0
                      have hfz24_1 := blk_frozen BK223.out 1
                      have hfz24_2 := blk_frozen BK223.out 2
                      have hfz24_3 := blk_frozen BK223.out 3
                      have hcz25_0 : w10.cell? ⟨gb218, 0, none⟩ = some (.int .i64 x219000_1) := (blk_cell BK218.out 0).trans rfl
                      have hcz25_1 : w10.cell? ⟨gb218, 1, none⟩ = some (.int .i64 x219001_1) := (blk_cell BK218.out 1).trans rfl
                      have hcz25_2 : w10.cell? ⟨gb218, 2, none⟩ = some (.int .i64 x219002_1) := (blk_cell BK218.out 2).trans rfl
                      have hcz25_3 : w10.cell? ⟨gb218, 3, none⟩ = some (.int .i64 x219003_1) := (blk_cell BK218.out 3).trans rfl
                      have hfz25_0 := blk_frozen BK218.out 0
                      have hfz25_1 := blk_frozen BK218.out 1
                      have hfz25_2 := blk_frozen BK218.out 2
                      have hfz25_3 := blk_frozen BK218.out 3
                      go_wp2_with (first | (go_at_call 34; (with_reducible refine (graftageref08_within.calls ((rd_T44 l2 x13_1).f0) ((rd_T44 l2 x13_1).f1) ((rd_T44 l2 x13_1).f2) ((rd_T44 l2 x13_1).f3) x219000_1 x219001_1 x219002_1 x219003_1 (l0.length : Int) (l1.length : Int) true _ A13.out).mono ?_); rintro e w26 ⟨rfl, hb⟩; have n0_ := Aside0.mk (blk_below (g := gb218) (o := .cells #[.int .i64 x219000_1, .int .i64 x219001_1, .int .i64 x219002_1, .int .i64 x219003_1] 44 (0, 0)) (by (with_reducible repeat (first | refine blk_drewN ?_ _ | refine blk_drew ?_ | refine blk_alloc ?_ _)); refine blk_far ?_ NB218_223.out _; (with_reducible repeat (first | refine blk_drewN ?_ _ | refine blk_drew ?_ | refine blk_alloc ?_ _)); refine blk_far ?_ NB218_223.out _; (with_reducible repeat (first | refine blk_drewN ?_ _ | refine blk_drew ?_ | refine blk_alloc ?_ _)); refine blk_far ?_ NB218_223.out _; (with_reducible repeat (first | refine blk_drewN ?_ _ | refine blk_drew ?_ | refine blk_alloc ?_ _)); refine blk_far ?_ NB218_223.out _; (with_reducible repeat (first | refine blk_drewN ?_ _ | refine blk_drew ?_ | refine blk_alloc ?_ _)); exact BK218.out) hb); have n1_ := Aside0.mk (blk_below (g := gb223) (o := .cells #[.int .i64 ((rd_T44 l2 x13_1).f0), .int .i64 ((rd_T44 l2 x13_1).f1), .int .i64 ((rd_T44 l2 x13_1).f2), .int .i64 ((rd_T44 l2 x13_1).f3)] 44 (0, 0)) (by (with_reducible repeat (first | refine blk_drewN ?_ _ | refine blk_drew ?_ | refine blk_alloc ?_ _)); refine blk_put (cs := #[.int .i64 ((rd_T44 l2 x13_1).f0), .int .i64 ((rd_T44 l2 x13_1).f1), .int .i64 ((rd_T44 l2 x13_1).f2), .int .i64 0]) ?_ 3 _ rfl; (with_reducible repeat (first | refine blk_drewN ?_ _ | refine blk_drew ?_ | refine blk_alloc ?_ _)); refine blk_put (cs := #[.int .i64 ((rd_T44 l2 x13_1).f0), .int .i64 ((rd_T44 l2 x13_1).f1), .int .i64 0, .int .i64 0]) ?_ 2 _ rfl; (with_reducible repeat (first | refine blk_drewN ?_ _ | refine blk_drew ?_ | refine blk_alloc ?_ _)); refine blk_put (cs := #[.int .i64 ((rd_T44 l2 x13_1).f0), .int .i64 0, .int .i64 0, .int .i64 0]) ?_ 1 _ rfl; (with_reducible repeat (first | refine blk_drewN ?_ _ | refine blk_drew ?_ | refine blk_alloc ?_ _)); refine blk_put (cs := #[.int .i64 0, .int .i64 0, .int .i64 0, .int .i64 0]) ?_ 0 _ rfl; (with_reducible repeat (first | refine blk_drewN ?_ _ | refine blk_drew ?_ | refine blk_alloc ?_ _)); exact BK223.out) hb); have n2_ := Aside0.mk (below_step (by repeat (first | (with_reducible first | exact HB.out | apply below_alloc | apply pw_below_drewN | apply below_drew1 | refine below_set ?_ GE218.out | refine below_set ?_ GE223.out) | exact HB.out)) hb); clear BK218; clear BK223; clear HB; have BK218 := n0_; have BK223 := n1_; have HB := n2_; clear n0_ n1_ n2_; (try clear hb); (try clear hb2); (try clear hk); (try clear hi); have hcz27_0 : w26.cell? ⟨gb223, 0, none⟩ = some (.int .i64 ((rd_T44 l2 x13_1).f0)) := (blk_cell BK223.out 0).trans rfl; have hcz27_1 : w26.cell? ⟨gb223, 1, none⟩ = some (.int .i64 ((rd_T44 l2 x13_1).f1)) := (blk_cell BK223.out 1).trans rfl; have hcz27_2 : w26.cell? ⟨gb223, 2, none⟩ = some (.int .i64 ((rd_T44 l2 x13_1).f2)) := (blk_cell BK223.out 2).trans rfl; have hcz27_3 : w26.cell? ⟨gb223, 3, none⟩ = some (.int .i64 ((rd_T44 l2 x13_1).f3)) := (blk_cell BK223.out 3).trans rfl; have hfz27_0 := blk_frozen BK223.out 0; have hfz27_1 := blk_frozen BK223.out 1; have hfz27_2 := blk_frozen BK223.out 2; have hfz27_3 := blk_frozen BK223.out 3; have hcz28_0 : w26.cell? ⟨gb218, 0, none⟩ = some (.int .i64 x219000_1) := (blk_cell BK218.out 0).trans rfl; have hcz28_1 : w26.cell? ⟨gb218, 1, none⟩ = some (.int .i64 x219001_1) := (blk_cell BK218.out 1).trans rfl; have hcz28_2 : w26.cell? ⟨gb218, 2, none⟩ = some (.int .i64 x219002_1) := (blk_cell BK218.out 2).trans rfl; have hcz28_3 : w26.cell? ⟨gb218, 3, none⟩ = some (.int .i64 x219003_1) := (blk_cell BK218.out 3).trans rfl; have hfz28_0 := blk_frozen BK218.out 0; have hfz28_1 := blk_frozen BK218.out 1; have hfz28_2 := blk_frozen BK218.out 2; have hfz28_3 := blk_frozen BK218.out 3))
                      repeat (go_quiet (first | (go_at_call 34; (with_reducible refine (graftageref08_within.calls ((rd_T44 l2 x13_1).f0) ((rd_T44 l2 x13_1).f1) ((rd_T44 l2 x13_1).f2) ((rd_T44 l2 x13_1).f3) x219000_1 x219001_1 x219002_1 x219003_1 (l0.length : Int) (l1.length : Int) true _ A13.out).mono ?_); rintro e w26 ⟨rfl, hb⟩; have n0_ := Aside0.mk (blk_below (g := gb218) (o := .cells #[.int .i64 x219000_1, .int .i64 x219001_1, .int .i64 x219002_1, .int .i64 x219003_1] 44 (0, 0)) (by (with_reducible repeat (first | refine blk_drewN ?_ _ | refine blk_drew ?_ | refine blk_alloc ?_ _)); refine blk_far ?_ NB218_223.out _; (with_reducible repeat (first | refine blk_drewN ?_ _ | refine blk_drew ?_ | refine blk_alloc ?_ _)); refine blk_far ?_ NB218_223.out _; (with_reducible repeat (first | refine blk_drewN ?_ _ | refine blk_drew ?_ | refine blk_alloc ?_ _)); refine blk_far ?_ NB218_223.out _; (with_reducible repeat (first | refine blk_drewN ?_ _ | refine blk_drew ?_ | refine blk_alloc ?_ _)); refine blk_far ?_ NB218_223.out _; (with_reducible repeat (first | refine blk_drewN ?_ _ | refine blk_drew ?_ | refine blk_alloc ?_ _)); exact BK218.out) hb); have n1_ := Aside0.mk (blk_below (g := gb223) (o := .cells #[.int .i64 ((rd_T44 l2 x13_1).f0), .int .i64 ((rd_T44 l2 x13_1).f1), .int .i64 ((rd_T44 l2 x13_1).f2), .int .i64 ((rd_T44 l2 x13_1).f3)] 44 (0, 0)) (by (with_reducible repeat (first | refine blk_drewN ?_ _ | refine blk_drew ?_ | refine blk_alloc ?_ _)); refine blk_put (cs := #[.int .i64 ((rd_T44 l2 x13_1).f0), .int .i64 ((rd_T44 l2 x13_1).f1), .int .i64 ((rd_T44 l2 x13_1).f2), .int .i64 0]) ?_ 3 _ rfl; (with_reducible repeat (first | refine blk_drewN ?_ _ | refine blk_drew ?_ | refine blk_alloc ?_ _)); refine blk_put (cs := #[.int .i64 ((rd_T44 l2 x13_1).f0), .int .i64 ((rd_T44 l2 x13_1).f1), .int .i64 0, .int .i64 0]) ?_ 2 _ rfl; (with_reducible repeat (first | refine blk_drewN ?_ _ | refine blk_drew ?_ | refine blk_alloc ?_ _)); refine blk_put (cs := #[.int .i64 ((rd_T44 l2 x13_1).f0), .int .i64 0, .int .i64 0, .int .i64 0]) ?_ 1 _ rfl; (with_reducible repeat (first | refine blk_drewN ?_ _ | refine blk_drew ?_ | refine blk_alloc ?_ _)); refine blk_put (cs := #[.int .i64 0, .int .i64 0, .int .i64 0, .int .i64 0]) ?_ 0 _ rfl; (with_reducible repeat (first | refine blk_drewN ?_ _ | refine blk_drew ?_ | refine blk_alloc ?_ _)); exact BK223.out) hb); have n2_ := Aside0.mk (below_step (by repeat (first | (with_reducible first | exact HB.out | apply below_alloc | apply pw_below_drewN | apply below_drew1 | refine below_set ?_ GE218.out | refine below_set ?_ GE223.out) | exact HB.out)) hb); clear BK218; clear BK223; clear HB; have BK218 := n0_; have BK223 := n1_; have HB := n2_; clear n0_ n1_ n2_; (try clear hb); (try clear hb2); (try clear hk); (try clear hi); have hcz27_0 : w26.cell? ⟨gb223, 0, none⟩ = some (.int .i64 ((rd_T44 l2 x13_1).f0)) := (blk_cell BK223.out 0).trans rfl; have hcz27_1 : w26.cell? ⟨gb223, 1, none⟩ = some (.int .i64 ((rd_T44 l2 x13_1).f1)) := (blk_cell BK223.out 1).trans rfl; have hcz27_2 : w26.cell? ⟨gb223, 2, none⟩ = some (.int .i64 ((rd_T44 l2 x13_1).f2)) := (blk_cell BK223.out 2).trans rfl; have hcz27_3 : w26.cell? ⟨gb223, 3, none⟩ = some (.int .i64 ((rd_T44 l2 x13_1).f3)) := (blk_cell BK223.out 3).trans rfl; have hfz27_0 := blk_frozen BK223.out 0; have hfz27_1 := blk_frozen BK223.out 1; have hfz27_2 := blk_frozen BK223.out 2; have hfz27_3 := blk_frozen BK223.out 3; have hcz28_0 : w26.cell? ⟨gb218, 0, none⟩ = some (.int .i64 x219000_1) := (blk_cell BK218.out 0).trans rfl; have hcz28_1 : w26.cell? ⟨gb218, 1, none⟩ = some (.int .i64 x219001_1) := (blk_cell BK218.out 1).trans rfl; have hcz28_2 : w26.cell? ⟨gb218, 2, none⟩ = some (.int .i64 x219002_1) := (blk_cell BK218.out 2).trans rfl; have hcz28_3 : w26.cell? ⟨gb218, 3, none⟩ = some (.int .i64 x219003_1) := (blk_cell BK218.out 3).trans rfl; have hfz28_0 := blk_frozen BK218.out 0; have hfz28_1 := blk_frozen BK218.out 1; have hfz28_2 := blk_frozen BK218.out 2; have hfz28_3 := blk_frozen BK218.out 3)); try go_wp2_with (first | (go_at_call 34; (with_reducible refine (graftageref08_within.calls ((rd_T44 l2 x13_1).f0) ((rd_T44 l2 x13_1).f1) ((rd_T44 l2 x13_1).f2) ((rd_T44 l2 x13_1).f3) x219000_1 x219001_1 x219002_1 x219003_1 (l0.length : Int) (l1.length : Int) true _ A13.out).mono ?_); rintro e w26 ⟨rfl, hb⟩; have n0_ := Aside0.mk (blk_below (g := gb218) (o := .cells #[.int .i64 x219000_1, .int .i64 x219001_1, .int .i64 x219002_1, .int .i64 x219003_1] 44 (0, 0)) (by (with_reducible repeat (first | refine blk_drewN ?_ _ | refine blk_drew ?_ | refine blk_alloc ?_ _)); refine blk_far ?_ NB218_223.out _; (with_reducible repeat (first | refine blk_drewN ?_ _ | refine blk_drew ?_ | refine blk_alloc ?_ _)); refine blk_far ?_ NB218_223.out _; (with_reducible repeat (first | refine blk_drewN ?_ _ | refine blk_drew ?_ | refine blk_alloc ?_ _)); refine blk_far ?_ NB218_223.out _; (with_reducible repeat (first | refine blk_drewN ?_ _ | refine blk_drew ?_ | refine blk_alloc ?_ _)); refine blk_far ?_ NB218_223.out _; (with_reducible repeat (first | refine blk_drewN ?_ _ | refine blk_drew ?_ | refine blk_alloc ?_ _)); exact BK218.out) hb); have n1_ := Aside0.mk (blk_below (g := gb223) (o := .cells #[.int .i64 ((rd_T44 l2 x13_1).f0), .int .i64 ((rd_T44 l2 x13_1).f1), .int .i64 ((rd_T44 l2 x13_1).f2), .int .i64 ((rd_T44 l2 x13_1).f3)] 44 (0, 0)) (by (with_reducible repeat (first | refine blk_drewN ?_ _ | refine blk_drew ?_ | refine blk_alloc ?_ _)); refine blk_put (cs := #[.int .i64 ((rd_T44 l2 x13_1).f0), .int .i64 ((rd_T44 l2 x13_1).f1), .int .i64 ((rd_T44 l2 x13_1).f2), .int .i64 0]) ?_ 3 _ rfl; (with_reducible repeat (first | refine blk_drewN ?_ _ | refine blk_drew ?_ | refine blk_alloc ?_ _)); refine blk_put (cs := #[.int .i64 ((rd_T44 l2 x13_1).f0), .int .i64 ((rd_T44 l2 x13_1).f1), .int .i64 0, .int .i64 0]) ?_ 2 _ rfl; (with_reducible repeat (first | refine blk_drewN ?_ _ | refine blk_drew ?_ | refine blk_alloc ?_ _)); refine blk_put (cs := #[.int .i64 ((rd_T44 l2 x13_1).f0), .int .i64 0, .int .i64 0, .int .i64 0]) ?_ 1 _ rfl; (with_reducible repeat (first | refine blk_drewN ?_ _ | refine blk_drew ?_ | refine blk_alloc ?_ _)); refine blk_put (cs := #[.int .i64 0, .int .i64 0, .int .i64 0, .int .i64 0]) ?_ 0 _ rfl; (with_reducible repeat (first | refine blk_drewN ?_ _ | refine blk_drew ?_ | refine blk_alloc ?_ _)); exact BK223.out) hb); have n2_ := Aside0.mk (below_step (by repeat (first | (with_reducible first | exact HB.out | apply below_alloc | apply pw_below_drewN | apply below_drew1 | refine below_set ?_ GE218.out | refine below_set ?_ GE223.out) | exact HB.out)) hb); clear BK218; clear BK223; clear HB; have BK218 := n0_; have BK223 := n1_; have HB := n2_; clear n0_ n1_ n2_; (try clear hb); (try clear hb2); (try clear hk); (try clear hi); have hcz27_0 : w26.cell? ⟨gb223, 0, none⟩ = some (.int .i64 ((rd_T44 l2 x13_1).f0)) := (blk_cell BK223.out 0).trans rfl; have hcz27_1 : w26.cell? ⟨gb223, 1, none⟩ = some (.int .i64 ((rd_T44 l2 x13_1).f1)) := (blk_cell BK223.out 1).trans rfl; have hcz27_2 : w26.cell? ⟨gb223, 2, none⟩ = some (.int .i64 ((rd_T44 l2 x13_1).f2)) := (blk_cell BK223.out 2).trans rfl; have hcz27_3 : w26.cell? ⟨gb223, 3, none⟩ = some (.int .i64 ((rd_T44 l2 x13_1).f3)) := (blk_cell BK223.out 3).trans rfl; have hfz27_0 := blk_frozen BK223.out 0; have hfz27_1 := blk_frozen BK223.out 1; have hfz27_2 := blk_frozen BK223.out 2; have hfz27_3 := blk_frozen BK223.out 3; have hcz28_0 : w26.cell? ⟨gb218, 0, none⟩ = some (.int .i64 x219000_1) := (blk_cell BK218.out 0).trans rfl; have hcz28_1 : w26.cell? ⟨gb218, 1, none⟩ = some (.int .i64 x219001_1) := (blk_cell BK218.out 1).trans rfl; have hcz28_2 : w26.cell? ⟨gb218, 2, none⟩ = some (.int .i64 x219002_1) := (blk_cell BK218.out 2).trans rfl; have hcz28_3 : w26.cell? ⟨gb218, 3, none⟩ = some (.int .i64 x219003_1) := (blk_cell BK218.out 3).trans rfl; have hfz28_0 := blk_frozen BK218.out 0; have hfz28_1 := blk_frozen BK218.out 1; have hfz28_2 := blk_frozen BK218.out 2; have hfz28_3 := blk_frozen BK218.out 3)))
                      go_meet
                      case rel => exact ⟨_, ((((rd_T44 l2 x13_1).f0) == x219000_1)), (by first | rfl | (simp; done) | (simp [*]; done)), H', ⟨by have := HK1.out; first | omega | exact Nat.le_refl _⟩, ⟨by (with_reducible repeat (first | refine blk_drewN ?_ _ | refine blk_drew ?_ | refine blk_alloc ?_ _)); exact BK218.out⟩, ⟨by (with_reducible repeat (first | refine blk_drewN ?_ _ | refine blk_drew ?_ | refine blk_alloc ?_ _)); exact BK223.out⟩, ⟨by repeat (first | (with_reducible first | exact HB.out | apply below_alloc | apply pw_below_drewN | apply below_drew1 | refine below_set ?_ GE218.out | refine below_set ?_ GE223.out) | exact HB.out)⟩⟩
                    · rw [if_neg c22] at H
                      have c22b0 : decide (0 < x13_1) = false := decide_eq_false c22
                      clear c22
                      have H' := Aside0.mk H
                      clear H
                      have hnb29 := NB223_218.out
                      have hnc29 := NB218_223.out
                      have hcz30_0 : w10.cell? ⟨gb223, 0, none⟩ = some (.int .i64 0) := (blk_cell BK223.out 0).trans rfl
                      have hcz30_1 : w10.cell? ⟨gb223, 1, none⟩ = some (.int .i64 0) := (blk_cell BK223.out 1).trans rfl
                      have hcz30_2 : w10.cell? ⟨gb223, 2, none⟩ = some (.int .i64 0) := (blk_cell BK223.out 2).trans rfl
                      have hcz30_3 : w10.cell? ⟨gb223, 3, none⟩ = some (.int .i64 0) := (blk_cell BK223.out 3).trans rfl
                      have hfz30_0 := blk_frozen BK223.out 0
                      have hfz30_1 := blk_frozen BK223.out 1
                      have hfz30_2 := blk_frozen BK223.out 2
                      have hfz30_3 := blk_frozen BK223.out 3
                      have hcz31_0 : w10.cell? ⟨gb218, 0, none⟩ = some (.int .i64 x219000_1) := (blk_cell BK218.out 0).trans rfl
                      have hcz31_1 : w10.cell? ⟨gb218, 1, none⟩ = some (.int .i64 x219001_1) := (blk_cell BK218.out 1).trans rfl
                      have hcz31_2 : w10.cell? ⟨gb218, 2, none⟩ = some (.int .i64 x219002_1) := (blk_cell BK218.out 2).trans rfl
                      have hcz31_3 : w10.cell? ⟨gb218, 3, none⟩ = some (.int .i64 x219003_1) := (blk_cell BK218.out 3).trans rfl
                      have hfz31_0 := blk_frozen BK218.out 0
                      have hfz31_1 := blk_frozen BK218.out 1
                      have hfz31_2 := blk_frozen BK218.out 2
                      have hfz31_3 := blk_frozen BK218.out 3
                      go_wp2_with (first | (go_at_call 34; (with_reducible refine (graftageref08_within.calls ((rd_T44 l2 x13_1).f0) ((rd_T44 l2 x13_1).f1) ((rd_T44 l2 x13_1).f2) ((rd_T44 l2 x13_1).f3) x219000_1 x219001_1 x219002_1 x219003_1 (l0.length : Int) (l1.length : Int) true _ A13.out).mono ?_); rintro e w32 ⟨rfl, hb⟩; have n0_ := Aside0.mk (blk_below (g := gb218) (o := .cells #[.int .i64 x219000_1, .int .i64 x219001_1, .int .i64 x219002_1, .int .i64 x219003_1] 44 (0, 0)) (by (with_reducible repeat (first | refine blk_drewN ?_ _ | refine blk_drew ?_ | refine blk_alloc ?_ _)); refine blk_far ?_ NB218_223.out _; (with_reducible repeat (first | refine blk_drewN ?_ _ | refine blk_drew ?_ | refine blk_alloc ?_ _)); refine blk_far ?_ NB218_223.out _; (with_reducible repeat (first | refine blk_drewN ?_ _ | refine blk_drew ?_ | refine blk_alloc ?_ _)); refine blk_far ?_ NB218_223.out _; (with_reducible repeat (first | refine blk_drewN ?_ _ | refine blk_drew ?_ | refine blk_alloc ?_ _)); refine blk_far ?_ NB218_223.out _; (with_reducible repeat (first | refine blk_drewN ?_ _ | refine blk_drew ?_ | refine blk_alloc ?_ _)); exact BK218.out) hb); have n1_ := Aside0.mk (blk_below (g := gb223) (o := .cells #[.int .i64 ((rd_T44 l2 x13_1).f0), .int .i64 ((rd_T44 l2 x13_1).f1), .int .i64 ((rd_T44 l2 x13_1).f2), .int .i64 ((rd_T44 l2 x13_1).f3)] 44 (0, 0)) (by (with_reducible repeat (first | refine blk_drewN ?_ _ | refine blk_drew ?_ | refine blk_alloc ?_ _)); refine blk_put (cs := #[.int .i64 ((rd_T44 l2 x13_1).f0), .int .i64 ((rd_T44 l2 x13_1).f1), .int .i64 ((rd_T44 l2 x13_1).f2), .int .i64 0]) ?_ 3 _ rfl; (with_reducible repeat (first | refine blk_drewN ?_ _ | refine blk_drew ?_ | refine blk_alloc ?_ _)); refine blk_put (cs := #[.int .i64 ((rd_T44 l2 x13_1).f0), .int .i64 ((rd_T44 l2 x13_1).f1), .int .i64 0, .int .i64 0]) ?_ 2 _ rfl; (with_reducible repeat (first | refine blk_drewN ?_ _ | refine blk_drew ?_ | refine blk_alloc ?_ _)); refine blk_put (cs := #[.int .i64 ((rd_T44 l2 x13_1).f0), .int .i64 0, .int .i64 0, .int .i64 0]) ?_ 1 _ rfl; (with_reducible repeat (first | refine blk_drewN ?_ _ | refine blk_drew ?_ | refine blk_alloc ?_ _)); refine blk_put (cs := #[.int .i64 0, .int .i64 0, .int .i64 0, .int .i64 0]) ?_ 0 _ rfl; (with_reducible repeat (first | refine blk_drewN ?_ _ | refine blk_drew ?_ | refine blk_alloc ?_ _)); exact BK223.out) hb); have n2_ := Aside0.mk (below_step (by repeat (first | (with_reducible first | exact HB.out | apply below_alloc | apply pw_below_drewN | apply below_drew1 | refine below_set ?_ GE218.out | refine below_set ?_ GE223.out) | exact HB.out)) hb); clear BK218; clear BK223; clear HB; have BK218 := n0_; have BK223 := n1_; have HB := n2_; clear n0_ n1_ n2_; (try clear hb); (try clear hb2); (try clear hk); (try clear hi); have hcz33_0 : w32.cell? ⟨gb223, 0, none⟩ = some (.int .i64 ((rd_T44 l2 x13_1).f0)) := (blk_cell BK223.out 0).trans rfl; have hcz33_1 : w32.cell? ⟨gb223, 1, none⟩ = some (.int .i64 ((rd_T44 l2 x13_1).f1)) := (blk_cell BK223.out 1).trans rfl; have hcz33_2 : w32.cell? ⟨gb223, 2, none⟩ = some (.int .i64 ((rd_T44 l2 x13_1).f2)) := (blk_cell BK223.out 2).trans rfl; have hcz33_3 : w32.cell? ⟨gb223, 3, none⟩ = some (.int .i64 ((rd_T44 l2 x13_1).f3)) := (blk_cell BK223.out 3).trans rfl; have hfz33_0 := blk_frozen BK223.out 0; have hfz33_1 := blk_frozen BK223.out 1; have hfz33_2 := blk_frozen BK223.out 2; have hfz33_3 := blk_frozen BK223.out 3))
                      repeat (go_quiet (first | (go_at_call 34; (with_reducible refine (graftageref08_within.calls ((rd_T44 l2 x13_1).f0) ((rd_T44 l2 x13_1).f1) ((rd_T44 l2 x13_1).f2) ((rd_T44 l2 x13_1).f3) x219000_1 x219001_1 x219002_1 x219003_1 (l0.length : Int) (l1.length : Int) true _ A13.out).mono ?_); rintro e w32 ⟨rfl, hb⟩; have n0_ := Aside0.mk (blk_below (g := gb218) (o := .cells #[.int .i64 x219000_1, .int .i64 x219001_1, .int .i64 x219002_1, .int .i64 x219003_1] 44 (0, 0)) (by (with_reducible repeat (first | refine blk_drewN ?_ _ | refine blk_drew ?_ | refine blk_alloc ?_ _)); refine blk_far ?_ NB218_223.out _; (with_reducible repeat (first | refine blk_drewN ?_ _ | refine blk_drew ?_ | refine blk_alloc ?_ _)); refine blk_far ?_ NB218_223.out _; (with_reducible repeat (first | refine blk_drewN ?_ _ | refine blk_drew ?_ | refine blk_alloc ?_ _)); refine blk_far ?_ NB218_223.out _; (with_reducible repeat (first | refine blk_drewN ?_ _ | refine blk_drew ?_ | refine blk_alloc ?_ _)); refine blk_far ?_ NB218_223.out _; (with_reducible repeat (first | refine blk_drewN ?_ _ | refine blk_drew ?_ | refine blk_alloc ?_ _)); exact BK218.out) hb); have n1_ := Aside0.mk (blk_below (g := gb223) (o := .cells #[.int .i64 ((rd_T44 l2 x13_1).f0), .int .i64 ((rd_T44 l2 x13_1).f1), .int .i64 ((rd_T44 l2 x13_1).f2), .int .i64 ((rd_T44 l2 x13_1).f3)] 44 (0, 0)) (by (with_reducible repeat (first | refine blk_drewN ?_ _ | refine blk_drew ?_ | refine blk_alloc ?_ _)); refine blk_put (cs := #[.int .i64 ((rd_T44 l2 x13_1).f0), .int .i64 ((rd_T44 l2 x13_1).f1), .int .i64 ((rd_T44 l2 x13_1).f2), .int .i64 0]) ?_ 3 _ rfl; (with_reducible repeat (first | refine blk_drewN ?_ _ | refine blk_drew ?_ | refine blk_alloc ?_ _)); refine blk_put (cs := #[.int .i64 ((rd_T44 l2 x13_1).f0), .int .i64 ((rd_T44 l2 x13_1).f1), .int .i64 0, .int .i64 0]) ?_ 2 _ rfl; (with_reducible repeat (first | refine blk_drewN ?_ _ | refine blk_drew ?_ | refine blk_alloc ?_ _)); refine blk_put (cs := #[.int .i64 ((rd_T44 l2 x13_1).f0), .int .i64 0, .int .i64 0, .int .i64 0]) ?_ 1 _ rfl; (with_reducible repeat (first | refine blk_drewN ?_ _ | refine blk_drew ?_ | refine blk_alloc ?_ _)); refine blk_put (cs := #[.int .i64 0, .int .i64 0, .int .i64 0, .int .i64 0]) ?_ 0 _ rfl; (with_reducible repeat (first | refine blk_drewN ?_ _ | refine blk_drew ?_ | refine blk_alloc ?_ _)); exact BK223.out) hb); have n2_ := Aside0.mk (below_step (by repeat (first | (with_reducible first | exact HB.out | apply below_alloc | apply pw_below_drewN | apply below_drew1 | refine below_set ?_ GE218.out | refine below_set ?_ GE223.out) | exact HB.out)) hb); clear BK218; clear BK223; clear HB; have BK218 := n0_; have BK223 := n1_; have HB := n2_; clear n0_ n1_ n2_; (try clear hb); (try clear hb2); (try clear hk); (try clear hi); have hcz33_0 : w32.cell? ⟨gb223, 0, none⟩ = some (.int .i64 ((rd_T44 l2 x13_1).f0)) := (blk_cell BK223.out 0).trans rfl; have hcz33_1 : w32.cell? ⟨gb223, 1, none⟩ = some (.int .i64 ((rd_T44 l2 x13_1).f1)) := (blk_cell BK223.out 1).trans rfl; have hcz33_2 : w32.cell? ⟨gb223, 2, none⟩ = some (.int .i64 ((rd_T44 l2 x13_1).f2)) := (blk_cell BK223.out 2).trans rfl; have hcz33_3 : w32.cell? ⟨gb223, 3, none⟩ = some (.int .i64 ((rd_T44 l2 x13_1).f3)) := (blk_cell BK223.out 3).trans rfl; have hfz33_0 := blk_frozen BK223.out 0; have hfz33_1 := blk_frozen BK223.out 1; have hfz33_2 := blk_frozen BK223.out 2; have hfz33_3 := blk_frozen BK223.out 3)); try go_wp2_with (first | (go_at_call 34; (with_reducible refine (graftageref08_within.calls ((rd_T44 l2 x13_1).f0) ((rd_T44 l2 x13_1).f1) ((rd_T44 l2 x13_1).f2) ((rd_T44 l2 x13_1).f3) x219000_1 x219001_1 x219002_1 x219003_1 (l0.length : Int) (l1.length : Int) true _ A13.out).mono ?_); rintro e w32 ⟨rfl, hb⟩; have n0_ := Aside0.mk (blk_below (g := gb218) (o := .cells #[.int .i64 x219000_1, .int .i64 x219001_1, .int .i64 x219002_1, .int .i64 x219003_1] 44 (0, 0)) (by (with_reducible repeat (first | refine blk_drewN ?_ _ | refine blk_drew ?_ | refine blk_alloc ?_ _)); refine blk_far ?_ NB218_223.out _; (with_reducible repeat (first | refine blk_drewN ?_ _ | refine blk_drew ?_ | refine blk_alloc ?_ _)); refine blk_far ?_ NB218_223.out _; (with_reducible repeat (first | refine blk_drewN ?_ _ | refine blk_drew ?_ | refine blk_alloc ?_ _)); refine blk_far ?_ NB218_223.out _; (with_reducible repeat (first | refine blk_drewN ?_ _ | refine blk_drew ?_ | refine blk_alloc ?_ _)); refine blk_far ?_ NB218_223.out _; (with_reducible repeat (first | refine blk_drewN ?_ _ | refine blk_drew ?_ | refine blk_alloc ?_ _)); exact BK218.out) hb); have n1_ := Aside0.mk (blk_below (g := gb223) (o := .cells #[.int .i64 ((rd_T44 l2 x13_1).f0), .int .i64 ((rd_T44 l2 x13_1).f1), .int .i64 ((rd_T44 l2 x13_1).f2), .int .i64 ((rd_T44 l2 x13_1).f3)] 44 (0, 0)) (by (with_reducible repeat (first | refine blk_drewN ?_ _ | refine blk_drew ?_ | refine blk_alloc ?_ _)); refine blk_put (cs := #[.int .i64 ((rd_T44 l2 x13_1).f0), .int .i64 ((rd_T44 l2 x13_1).f1), .int .i64 ((rd_T44 l2 x13_1).f2), .int .i64 0]) ?_ 3 _ rfl; (with_reducible repeat (first | refine blk_drewN ?_ _ | refine blk_drew ?_ | refine blk_alloc ?_ _)); refine blk_put (cs := #[.int .i64 ((rd_T44 l2 x13_1).f0), .int .i64 ((rd_T44 l2 x13_1).f1), .int .i64 0, .int .i64 0]) ?_ 2 _ rfl; (with_reducible repeat (first | refine blk_drewN ?_ _ | refine blk_drew ?_ | refine blk_alloc ?_ _)); refine blk_put (cs := #[.int .i64 ((rd_T44 l2 x13_1).f0), .int .i64 0, .int .i64 0, .int .i64 0]) ?_ 1 _ rfl; (with_reducible repeat (first | refine blk_drewN ?_ _ | refine blk_drew ?_ | refine blk_alloc ?_ _)); refine blk_put (cs := #[.int .i64 0, .int .i64 0, .int .i64 0, .int .i64 0]) ?_ 0 _ rfl; (with_reducible repeat (first | refine blk_drewN ?_ _ | refine blk_drew ?_ | refine blk_alloc ?_ _)); exact BK223.out) hb); have n2_ := Aside0.mk (below_step (by repeat (first | (with_reducible first | exact HB.out | apply below_alloc | apply pw_below_drewN | apply below_drew1 | refine below_set ?_ GE218.out | refine below_set ?_ GE223.out) | exact HB.out)) hb); clear BK218; clear BK223; clear HB; have BK218 := n0_; have BK223 := n1_; have HB := n2_; clear n0_ n1_ n2_; (try clear hb); (try clear hb2); (try clear hk); (try clear hi); have hcz33_0 : w32.cell? ⟨gb223, 0, none⟩ = some (.int .i64 ((rd_T44 l2 x13_1).f0)) := (blk_cell BK223.out 0).trans rfl; have hcz33_1 : w32.cell? ⟨gb223, 1, none⟩ = some (.int .i64 ((rd_T44 l2 x13_1).f1)) := (blk_cell BK223.out 1).trans rfl; have hcz33_2 : w32.cell? ⟨gb223, 2, none⟩ = some (.int .i64 ((rd_T44 l2 x13_1).f2)) := (blk_cell BK223.out 2).trans rfl; have hcz33_3 : w32.cell? ⟨gb223, 3, none⟩ = some (.int .i64 ((rd_T44 l2 x13_1).f3)) := (blk_cell BK223.out 3).trans rfl; have hfz33_0 := blk_frozen BK223.out 0; have hfz33_1 := blk_frozen BK223.out 1; have hfz33_2 := blk_frozen BK223.out 2; have hfz33_3 := blk_frozen BK223.out 3)))
                      go_meet
                      case rel => exact ⟨_, (false), (by first | rfl | (simp; done) | (simp [*]; done)), H', ⟨by have := HK1.out; first | omega | exact Nat.le_refl _⟩, ⟨by (with_reducible repeat (first | refine blk_drewN ?_ _ | refine blk_drew ?_ | refine blk_alloc ?_ _)); exact BK218.out⟩, ⟨by (with_reducible repeat (first | refine blk_drewN ?_ _ | refine blk_drew ?_ | refine blk_alloc ?_ _)); exact BK223.out⟩, ⟨by repeat (first | (with_reducible first | exact HB.out | apply below_alloc | apply pw_below_drewN | apply below_drew1 | refine below_set ?_ GE218.out | refine below_set ?_ GE223.out) | exact HB.out)⟩⟩
                · rw [if_neg c15] at H
                  have c15b0 : (((rd_T44 l2 x13_1).f1) == 0) = false := beq_eq_false_iff_ne.mpr c15
                  have c15b1 : (((rd_T44 l2 x13_1).f1) != 0) = true := bne_iff_ne.mpr c15
                  (first | rw [c15b0] | (simp only [i64_w, i32_w]; rw [c15b0]) | skip)
                  by_cases c34 : x13_1 > 0
                  · rw [if_pos c34] at H
                    have c34b0 : decide (0 < x13_1) = true := decide_eq_true c34
                    clear c34
                    have H' := Aside0.mk H
                    clear H
                    have hnb35 := NB223_218.out
                    have hnc35 := NB218_223.out
                    have hcz36_0 : w10.cell? ⟨gb223, 0, none⟩ = some (.int .i64 0) := (blk_cell BK223.out 0).trans rfl
                    have hcz36_1 : w10.cell? ⟨gb223, 1, none⟩ = some (.int .i64 0) := (blk_cell BK223.out 1).trans rfl
                    have hcz36_2 : w10.cell? ⟨gb223, 2, none⟩ = some (.int .i64 0) := (blk_cell BK223.out 2).trans rfl
                    have hcz36_3 : w10.cell? ⟨gb223, 3, none⟩ = some (.int .i64 0) := (blk_cell BK223.out 3).trans rfl
                    have hfz36_0 := blk_frozen BK223.out 0
                    have hfz36_1 := blk_frozen BK223.out 1
                    have hfz36_2 := blk_frozen BK223.out 2
                    have hfz36_3 := blk_frozen BK223.out 3
                    have hcz37_0 : w10.cell? ⟨gb218, 0, none⟩ = some (.int .i64 x219000_1) := (blk_cell BK218.out 0).trans rfl
                    have hcz37_1 : w10.cell? ⟨gb218, 1, none⟩ = some (.int .i64 x219001_1) := (blk_cell BK218.out 1).trans rfl
                    have hcz37_2 : w10.cell? ⟨gb218, 2, none⟩ = some (.int .i64 x219002_1) := (blk_cell BK218.out 2).trans rfl
                    have hcz37_3 : w10.cell? ⟨gb218, 3, none⟩ = some (.int .i64 x219003_1) := (blk_cell BK218.out 3).trans rfl
                    have hfz37_0 := blk_frozen BK218.out 0
                    have hfz37_1 := blk_frozen BK218.out 1
                    have hfz37_2 := blk_frozen BK218.out 2
                    have hfz37_3 := blk_frozen BK218.out 3
                    go_wp2_with (first | (go_at_call 34; (with_reducible refine (graftageref08_within.calls ((rd_T44 l2 x13_1).f0) ((rd_T44 l2 x13_1).f1) ((rd_T44 l2 x13_1).f2) ((rd_T44 l2 x13_1).f3) x219000_1 x219001_1 x219002_1 x219003_1 (l0.length : Int) (l1.length : Int) true _ A13.out).mono ?_); rintro e w38 ⟨rfl, hb⟩; have n0_ := Aside0.mk (blk_below (g := gb218) (o := .cells #[.int .i64 x219000_1, .int .i64 x219001_1, .int .i64 x219002_1, .int .i64 x219003_1] 44 (0, 0)) (by (with_reducible repeat (first | refine blk_drewN ?_ _ | refine blk_drew ?_ | refine blk_alloc ?_ _)); refine blk_far ?_ NB218_223.out _; (with_reducible repeat (first | refine blk_drewN ?_ _ | refine blk_drew ?_ | refine blk_alloc ?_ _)); refine blk_far ?_ NB218_223.out _; (with_reducible repeat (first | refine blk_drewN ?_ _ | refine blk_drew ?_ | refine blk_alloc ?_ _)); refine blk_far ?_ NB218_223.out _; (with_reducible repeat (first | refine blk_drewN ?_ _ | refine blk_drew ?_ | refine blk_alloc ?_ _)); refine blk_far ?_ NB218_223.out _; (with_reducible repeat (first | refine blk_drewN ?_ _ | refine blk_drew ?_ | refine blk_alloc ?_ _)); exact BK218.out) hb); have n1_ := Aside0.mk (blk_below (g := gb223) (o := .cells #[.int .i64 ((rd_T44 l2 x13_1).f0), .int .i64 ((rd_T44 l2 x13_1).f1), .int .i64 ((rd_T44 l2 x13_1).f2), .int .i64 ((rd_T44 l2 x13_1).f3)] 44 (0, 0)) (by (with_reducible repeat (first | refine blk_drewN ?_ _ | refine blk_drew ?_ | refine blk_alloc ?_ _)); refine blk_put (cs := #[.int .i64 ((rd_T44 l2 x13_1).f0), .int .i64 ((rd_T44 l2 x13_1).f1), .int .i64 ((rd_T44 l2 x13_1).f2), .int .i64 0]) ?_ 3 _ rfl; (with_reducible repeat (first | refine blk_drewN ?_ _ | refine blk_drew ?_ | refine blk_alloc ?_ _)); refine blk_put (cs := #[.int .i64 ((rd_T44 l2 x13_1).f0), .int .i64 ((rd_T44 l2 x13_1).f1), .int .i64 0, .int .i64 0]) ?_ 2 _ rfl; (with_reducible repeat (first | refine blk_drewN ?_ _ | refine blk_drew ?_ | refine blk_alloc ?_ _)); refine blk_put (cs := #[.int .i64 ((rd_T44 l2 x13_1).f0), .int .i64 0, .int .i64 0, .int .i64 0]) ?_ 1 _ rfl; (with_reducible repeat (first | refine blk_drewN ?_ _ | refine blk_drew ?_ | refine blk_alloc ?_ _)); refine blk_put (cs := #[.int .i64 0, .int .i64 0, .int .i64 0, .int .i64 0]) ?_ 0 _ rfl; (with_reducible repeat (first | refine blk_drewN ?_ _ | refine blk_drew ?_ | refine blk_alloc ?_ _)); exact BK223.out) hb); have n2_ := Aside0.mk (below_step (by repeat (first | (with_reducible first | exact HB.out | apply below_alloc | apply pw_below_drewN | apply below_drew1 | refine below_set ?_ GE218.out | refine below_set ?_ GE223.out) | exact HB.out)) hb); clear BK218; clear BK223; clear HB; have BK218 := n0_; have BK223 := n1_; have HB := n2_; clear n0_ n1_ n2_; (try clear hb); (try clear hb2); (try clear hk); (try clear hi); have hcz39_0 : w38.cell? ⟨gb223, 0, none⟩ = some (.int .i64 ((rd_T44 l2 x13_1).f0)) := (blk_cell BK223.out 0).trans rfl; have hcz39_1 : w38.cell? ⟨gb223, 1, none⟩ = some (.int .i64 ((rd_T44 l2 x13_1).f1)) := (blk_cell BK223.out 1).trans rfl; have hcz39_2 : w38.cell? ⟨gb223, 2, none⟩ = some (.int .i64 ((rd_T44 l2 x13_1).f2)) := (blk_cell BK223.out 2).trans rfl; have hcz39_3 : w38.cell? ⟨gb223, 3, none⟩ = some (.int .i64 ((rd_T44 l2 x13_1).f3)) := (blk_cell BK223.out 3).trans rfl; have hfz39_0 := blk_frozen BK223.out 0; have hfz39_1 := blk_frozen BK223.out 1; have hfz39_2 := blk_frozen BK223.out 2; have hfz39_3 := blk_frozen BK223.out 3; have hcz40_0 : w38.cell? ⟨gb218, 0, none⟩ = some (.int .i64 x219000_1) := (blk_cell BK218.out 0).trans rfl; have hcz40_1 : w38.cell? ⟨gb218, 1, none⟩ = some (.int .i64 x219001_1) := (blk_cell BK218.out 1).trans rfl; have hcz40_2 : w38.cell? ⟨gb218, 2, none⟩ = some (.int .i64 x219002_1) := (blk_cell BK218.out 2).trans rfl; have hcz40_3 : w38.cell? ⟨gb218, 3, none⟩ = some (.int .i64 x219003_1) := (blk_cell BK218.out 3).trans rfl; have hfz40_0 := blk_frozen BK218.out 0; have hfz40_1 := blk_frozen BK218.out 1; have hfz40_2 := blk_frozen BK218.out 2; have hfz40_3 := blk_frozen BK218.out 3))
                    repeat (go_quiet (first | (go_at_call 34; (with_reducible refine (graftageref08_within.calls ((rd_T44 l2 x13_1).f0) ((rd_T44 l2 x13_1).f1) ((rd_T44 l2 x13_1).f2) ((rd_T44 l2 x13_1).f3) x219000_1 x219001_1 x219002_1 x219003_1 (l0.length : Int) (l1.length : Int) true _ A13.out).mono ?_); rintro e w38 ⟨rfl, hb⟩; have n0_ := Aside0.mk (blk_below (g := gb218) (o := .cells #[.int .i64 x219000_1, .int .i64 x219001_1, .int .i64 x219002_1, .int .i64 x219003_1] 44 (0, 0)) (by (with_reducible repeat (first | refine blk_drewN ?_ _ | refine blk_drew ?_ | refine blk_alloc ?_ _)); refine blk_far ?_ NB218_223.out _; (with_reducible repeat (first | refine blk_drewN ?_ _ | refine blk_drew ?_ | refine blk_alloc ?_ _)); refine blk_far ?_ NB218_223.out _; (with_reducible repeat (first | refine blk_drewN ?_ _ | refine blk_drew ?_ | refine blk_alloc ?_ _)); refine blk_far ?_ NB218_223.out _; (with_reducible repeat (first | refine blk_drewN ?_ _ | refine blk_drew ?_ | refine blk_alloc ?_ _)); refine blk_far ?_ NB218_223.out _; (with_reducible repeat (first | refine blk_drewN ?_ _ | refine blk_drew ?_ | refine blk_alloc ?_ _)); exact BK218.out) hb); have n1_ := Aside0.mk (blk_below (g := gb223) (o := .cells #[.int .i64 ((rd_T44 l2 x13_1).f0), .int .i64 ((rd_T44 l2 x13_1).f1), .int .i64 ((rd_T44 l2 x13_1).f2), .int .i64 ((rd_T44 l2 x13_1).f3)] 44 (0, 0)) (by (with_reducible repeat (first | refine blk_drewN ?_ _ | refine blk_drew ?_ | refine blk_alloc ?_ _)); refine blk_put (cs := #[.int .i64 ((rd_T44 l2 x13_1).f0), .int .i64 ((rd_T44 l2 x13_1).f1), .int .i64 ((rd_T44 l2 x13_1).f2), .int .i64 0]) ?_ 3 _ rfl; (with_reducible repeat (first | refine blk_drewN ?_ _ | refine blk_drew ?_ | refine blk_alloc ?_ _)); refine blk_put (cs := #[.int .i64 ((rd_T44 l2 x13_1).f0), .int .i64 ((rd_T44 l2 x13_1).f1), .int .i64 0, .int .i64 0]) ?_ 2 _ rfl; (with_reducible repeat (first | refine blk_drewN ?_ _ | refine blk_drew ?_ | refine blk_alloc ?_ _)); refine blk_put (cs := #[.int .i64 ((rd_T44 l2 x13_1).f0), .int .i64 0, .int .i64 0, .int .i64 0]) ?_ 1 _ rfl; (with_reducible repeat (first | refine blk_drewN ?_ _ | refine blk_drew ?_ | refine blk_alloc ?_ _)); refine blk_put (cs := #[.int .i64 0, .int .i64 0, .int .i64 0, .int .i64 0]) ?_ 0 _ rfl; (with_reducible repeat (first | refine blk_drewN ?_ _ | refine blk_drew ?_ | refine blk_alloc ?_ _)); exact BK223.out) hb); have n2_ := Aside0.mk (below_step (by repeat (first | (with_reducible first | exact HB.out | apply below_alloc | apply pw_below_drewN | apply below_drew1 | refine below_set ?_ GE218.out | refine below_set ?_ GE223.out) | exact HB.out)) hb); clear BK218; clear BK223; clear HB; have BK218 := n0_; have BK223 := n1_; have HB := n2_; clear n0_ n1_ n2_; (try clear hb); (try clear hb2); (try clear hk); (try clear hi); have hcz39_0 : w38.cell? ⟨gb223, 0, none⟩ = some (.int .i64 ((rd_T44 l2 x13_1).f0)) := (blk_cell BK223.out 0).trans rfl; have hcz39_1 : w38.cell? ⟨gb223, 1, none⟩ = some (.int .i64 ((rd_T44 l2 x13_1).f1)) := (blk_cell BK223.out 1).trans rfl; have hcz39_2 : w38.cell? ⟨gb223, 2, none⟩ = some (.int .i64 ((rd_T44 l2 x13_1).f2)) := (blk_cell BK223.out 2).trans rfl; have hcz39_3 : w38.cell? ⟨gb223, 3, none⟩ = some (.int .i64 ((rd_T44 l2 x13_1).f3)) := (blk_cell BK223.out 3).trans rfl; have hfz39_0 := blk_frozen BK223.out 0; have hfz39_1 := blk_frozen BK223.out 1; have hfz39_2 := blk_frozen BK223.out 2; have hfz39_3 := blk_frozen BK223.out 3; have hcz40_0 : w38.cell? ⟨gb218, 0, none⟩ = some (.int .i64 x219000_1) := (blk_cell BK218.out 0).trans rfl; have hcz40_1 : w38.cell? ⟨gb218, 1, none⟩ = some (.int .i64 x219001_1) := (blk_cell BK218.out 1).trans rfl; have hcz40_2 : w38.cell? ⟨gb218, 2, none⟩ = some (.int .i64 x219002_1) := (blk_cell BK218.out 2).trans rfl; have hcz40_3 : w38.cell? ⟨gb218, 3, none⟩ = some (.int .i64 x219003_1) := (blk_cell BK218.out 3).trans rfl; have hfz40_0 := blk_frozen BK218.out 0; have hfz40_1 := blk_frozen BK218.out 1; have hfz40_2 := blk_frozen BK218.out 2; have hfz40_3 := blk_frozen BK218.out 3)); try go_wp2_with (first | (go_at_call 34; (with_reducible refine (graftageref08_within.calls ((rd_T44 l2 x13_1).f0) ((rd_T44 l2 x13_1).f1) ((rd_T44 l2 x13_1).f2) ((rd_T44 l2 x13_1).f3) x219000_1 x219001_1 x219002_1 x219003_1 (l0.length : Int) (l1.length : Int) true _ A13.out).mono ?_); rintro e w38 ⟨rfl, hb⟩; have n0_ := Aside0.mk (blk_below (g := gb218) (o := .cells #[.int .i64 x219000_1, .int .i64 x219001_1, .int .i64 x219002_1, .int .i64 x219003_1] 44 (0, 0)) (by (with_reducible repeat (first | refine blk_drewN ?_ _ | refine blk_drew ?_ | refine blk_alloc ?_ _)); refine blk_far ?_ NB218_223.out _; (with_reducible repeat (first | refine blk_drewN ?_ _ | refine blk_drew ?_ | refine blk_alloc ?_ _)); refine blk_far ?_ NB218_223.out _; (with_reducible repeat (first | refine blk_drewN ?_ _ | refine blk_drew ?_ | refine blk_alloc ?_ _)); refine blk_far ?_ NB218_223.out _; (with_reducible repeat (first | refine blk_drewN ?_ _ | refine blk_drew ?_ | refine blk_alloc ?_ _)); refine blk_far ?_ NB218_223.out _; (with_reducible repeat (first | refine blk_drewN ?_ _ | refine blk_drew ?_ | refine blk_alloc ?_ _)); exact BK218.out) hb); have n1_ := Aside0.mk (blk_below (g := gb223) (o := .cells #[.int .i64 ((rd_T44 l2 x13_1).f0), .int .i64 ((rd_T44 l2 x13_1).f1), .int .i64 ((rd_T44 l2 x13_1).f2), .int .i64 ((rd_T44 l2 x13_1).f3)] 44 (0, 0)) (by (with_reducible repeat (first | refine blk_drewN ?_ _ | refine blk_drew ?_ | refine blk_alloc ?_ _)); refine blk_put (cs := #[.int .i64 ((rd_T44 l2 x13_1).f0), .int .i64 ((rd_T44 l2 x13_1).f1), .int .i64 ((rd_T44 l2 x13_1).f2), .int .i64 0]) ?_ 3 _ rfl; (with_reducible repeat (first | refine blk_drewN ?_ _ | refine blk_drew ?_ | refine blk_alloc ?_ _)); refine blk_put (cs := #[.int .i64 ((rd_T44 l2 x13_1).f0), .int .i64 ((rd_T44 l2 x13_1).f1), .int .i64 0, .int .i64 0]) ?_ 2 _ rfl; (with_reducible repeat (first | refine blk_drewN ?_ _ | refine blk_drew ?_ | refine blk_alloc ?_ _)); refine blk_put (cs := #[.int .i64 ((rd_T44 l2 x13_1).f0), .int .i64 0, .int .i64 0, .int .i64 0]) ?_ 1 _ rfl; (with_reducible repeat (first | refine blk_drewN ?_ _ | refine blk_drew ?_ | refine blk_alloc ?_ _)); refine blk_put (cs := #[.int .i64 0, .int .i64 0, .int .i64 0, .int .i64 0]) ?_ 0 _ rfl; (with_reducible repeat (first | refine blk_drewN ?_ _ | refine blk_drew ?_ | refine blk_alloc ?_ _)); exact BK223.out) hb); have n2_ := Aside0.mk (below_step (by repeat (first | (with_reducible first | exact HB.out | apply below_alloc | apply pw_below_drewN | apply below_drew1 | refine below_set ?_ GE218.out | refine below_set ?_ GE223.out) | exact HB.out)) hb); clear BK218; clear BK223; clear HB; have BK218 := n0_; have BK223 := n1_; have HB := n2_; clear n0_ n1_ n2_; (try clear hb); (try clear hb2); (try clear hk); (try clear hi); have hcz39_0 : w38.cell? ⟨gb223, 0, none⟩ = some (.int .i64 ((rd_T44 l2 x13_1).f0)) := (blk_cell BK223.out 0).trans rfl; have hcz39_1 : w38.cell? ⟨gb223, 1, none⟩ = some (.int .i64 ((rd_T44 l2 x13_1).f1)) := (blk_cell BK223.out 1).trans rfl; have hcz39_2 : w38.cell? ⟨gb223, 2, none⟩ = some (.int .i64 ((rd_T44 l2 x13_1).f2)) := (blk_cell BK223.out 2).trans rfl; have hcz39_3 : w38.cell? ⟨gb223, 3, none⟩ = some (.int .i64 ((rd_T44 l2 x13_1).f3)) := (blk_cell BK223.out 3).trans rfl; have hfz39_0 := blk_frozen BK223.out 0; have hfz39_1 := blk_frozen BK223.out 1; have hfz39_2 := blk_frozen BK223.out 2; have hfz39_3 := blk_frozen BK223.out 3; have hcz40_0 : w38.cell? ⟨gb218, 0, none⟩ = some (.int .i64 x219000_1) := (blk_cell BK218.out 0).trans rfl; have hcz40_1 : w38.cell? ⟨gb218, 1, none⟩ = some (.int .i64 x219001_1) := (blk_cell BK218.out 1).trans rfl; have hcz40_2 : w38.cell? ⟨gb218, 2, none⟩ = some (.int .i64 x219002_1) := (blk_cell BK218.out 2).trans rfl; have hcz40_3 : w38.cell? ⟨gb218, 3, none⟩ = some (.int .i64 x219003_1) := (blk_cell BK218.out 3).trans rfl; have hfz40_0 := blk_frozen BK218.out 0; have hfz40_1 := blk_frozen BK218.out 1; have hfz40_2 := blk_frozen BK218.out 2; have hfz40_3 := blk_frozen BK218.out 3)))
                    go_meet
                    case rel => exact ⟨_, ((((rd_T44 l2 x13_1).f0) == x219000_1)), (by first | rfl | (simp; done) | (simp [*]; done)), H', ⟨by have := HK1.out; first | omega | exact Nat.le_refl _⟩, ⟨by (with_reducible repeat (first | refine blk_drewN ?_ _ | refine blk_drew ?_ | refine blk_alloc ?_ _)); exact BK218.out⟩, ⟨by (with_reducible repeat (first | refine blk_drewN ?_ _ | refine blk_drew ?_ | refine blk_alloc ?_ _)); exact BK223.out⟩, ⟨by repeat (first | (with_reducible first | exact HB.out | apply below_alloc | apply pw_below_drewN | apply below_drew1 | refine below_set ?_ GE218.out | refine below_set ?_ GE223.out) | exact HB.out)⟩⟩
                  · rw [if_neg c34] at H
                    have c34b0 : decide (0 < x13_1) = false := decide_eq_false c34
                    clear c34
                    have H' := Aside0.mk H
                    clear H
                    have hnb41 := NB223_218.out
                    have hnc41 := NB218_223.out
                    have hcz42_0 : w10.cell? ⟨gb223, 0, none⟩ = some (.int .i64 0) := (blk_cell BK223.out 0).trans rfl
                    have hcz42_1 : w10.cell? ⟨gb223, 1, none⟩ = some (.int .i64 0) := (blk_cell BK223.out 1).trans rfl
                    have hcz42_2 : w10.cell? ⟨gb223, 2, none⟩ = some (.int .i64 0) := (blk_cell BK223.out 2).trans rfl
                    have hcz42_3 : w10.cell? ⟨gb223, 3, none⟩ = some (.int .i64 0) := (blk_cell BK223.out 3).trans rfl
                    have hfz42_0 := blk_frozen BK223.out 0
                    have hfz42_1 := blk_frozen BK223.out 1
                    have hfz42_2 := blk_frozen BK223.out 2
                    have hfz42_3 := blk_frozen BK223.out 3
                    have hcz43_0 : w10.cell? ⟨gb218, 0, none⟩ = some (.int .i64 x219000_1) := (blk_cell BK218.out 0).trans rfl
                    have hcz43_1 : w10.cell? ⟨gb218, 1, none⟩ = some (.int .i64 x219001_1) := (blk_cell BK218.out 1).trans rfl
                    have hcz43_2 : w10.cell? ⟨gb218, 2, none⟩ = some (.int .i64 x219002_1) := (blk_cell BK218.out 2).trans rfl
                    have hcz43_3 : w10.cell? ⟨gb218, 3, none⟩ = some (.int .i64 x219003_1) := (blk_cell BK218.out 3).trans rfl
                    have hfz43_0 := blk_frozen BK218.out 0
                    have hfz43_1 := blk_frozen BK218.out 1
                    have hfz43_2 := blk_frozen BK218.out 2
                    have hfz43_3 := blk_frozen BK218.out 3
                    go_wp2_with (first | (go_at_call 34; (with_reducible refine (graftageref08_within.calls ((rd_T44 l2 x13_1).f0) ((rd_T44 l2 x13_1).f1) ((rd_T44 l2 x13_1).f2) ((rd_T44 l2 x13_1).f3) x219000_1 x219001_1 x219002_1 x219003_1 (l0.length : Int) (l1.length : Int) true _ A13.out).mono ?_); rintro e w44 ⟨rfl, hb⟩; have n0_ := Aside0.mk (blk_below (g := gb218) (o := .cells #[.int .i64 x219000_1, .int .i64 x219001_1, .int .i64 x219002_1, .int .i64 x219003_1] 44 (0, 0)) (by (with_reducible repeat (first | refine blk_drewN ?_ _ | refine blk_drew ?_ | refine blk_alloc ?_ _)); refine blk_far ?_ NB218_223.out _; (with_reducible repeat (first | refine blk_drewN ?_ _ | refine blk_drew ?_ | refine blk_alloc ?_ _)); refine blk_far ?_ NB218_223.out _; (with_reducible repeat (first | refine blk_drewN ?_ _ | refine blk_drew ?_ | refine blk_alloc ?_ _)); refine blk_far ?_ NB218_223.out _; (with_reducible repeat (first | refine blk_drewN ?_ _ | refine blk_drew ?_ | refine blk_alloc ?_ _)); refine blk_far ?_ NB218_223.out _; (with_reducible repeat (first | refine blk_drewN ?_ _ | refine blk_drew ?_ | refine blk_alloc ?_ _)); exact BK218.out) hb); have n1_ := Aside0.mk (blk_below (g := gb223) (o := .cells #[.int .i64 ((rd_T44 l2 x13_1).f0), .int .i64 ((rd_T44 l2 x13_1).f1), .int .i64 ((rd_T44 l2 x13_1).f2), .int .i64 ((rd_T44 l2 x13_1).f3)] 44 (0, 0)) (by (with_reducible repeat (first | refine blk_drewN ?_ _ | refine blk_drew ?_ | refine blk_alloc ?_ _)); refine blk_put (cs := #[.int .i64 ((rd_T44 l2 x13_1).f0), .int .i64 ((rd_T44 l2 x13_1).f1), .int .i64 ((rd_T44 l2 x13_1).f2), .int .i64 0]) ?_ 3 _ rfl; (with_reducible repeat (first | refine blk_drewN ?_ _ | refine blk_drew ?_ | refine blk_alloc ?_ _)); refine blk_put (cs := #[.int .i64 ((rd_T44 l2 x13_1).f0), .int .i64 ((rd_T44 l2 x13_1).f1), .int .i64 0, .int .i64 0]) ?_ 2 _ rfl; (with_reducible repeat (first | refine blk_drewN ?_ _ | refine blk_drew ?_ | refine blk_alloc ?_ _)); refine blk_put (cs := #[.int .i64 ((rd_T44 l2 x13_1).f0), .int .i64 0, .int .i64 0, .int .i64 0]) ?_ 1 _ rfl; (with_reducible repeat (first | refine blk_drewN ?_ _ | refine blk_drew ?_ | refine blk_alloc ?_ _)); refine blk_put (cs := #[.int .i64 0, .int .i64 0, .int .i64 0, .int .i64 0]) ?_ 0 _ rfl; (with_reducible repeat (first | refine blk_drewN ?_ _ | refine blk_drew ?_ | refine blk_alloc ?_ _)); exact BK223.out) hb); have n2_ := Aside0.mk (below_step (by repeat (first | (with_reducible first | exact HB.out | apply below_alloc | apply pw_below_drewN | apply below_drew1 | refine below_set ?_ GE218.out | refine below_set ?_ GE223.out) | exact HB.out)) hb); clear BK218; clear BK223; clear HB; have BK218 := n0_; have BK223 := n1_; have HB := n2_; clear n0_ n1_ n2_; (try clear hb); (try clear hb2); (try clear hk); (try clear hi); have hcz45_0 : w44.cell? ⟨gb223, 0, none⟩ = some (.int .i64 ((rd_T44 l2 x13_1).f0)) := (blk_cell BK223.out 0).trans rfl; have hcz45_1 : w44.cell? ⟨gb223, 1, none⟩ = some (.int .i64 ((rd_T44 l2 x13_1).f1)) := (blk_cell BK223.out 1).trans rfl; have hcz45_2 : w44.cell? ⟨gb223, 2, none⟩ = some (.int .i64 ((rd_T44 l2 x13_1).f2)) := (blk_cell BK223.out 2).trans rfl; have hcz45_3 : w44.cell? ⟨gb223, 3, none⟩ = some (.int .i64 ((rd_T44 l2 x13_1).f3)) := (blk_cell BK223.out 3).trans rfl; have hfz45_0 := blk_frozen BK223.out 0; have hfz45_1 := blk_frozen BK223.out 1; have hfz45_2 := blk_frozen BK223.out 2; have hfz45_3 := blk_frozen BK223.out 3))
                    repeat (go_quiet (first | (go_at_call 34; (with_reducible refine (graftageref08_within.calls ((rd_T44 l2 x13_1).f0) ((rd_T44 l2 x13_1).f1) ((rd_T44 l2 x13_1).f2) ((rd_T44 l2 x13_1).f3) x219000_1 x219001_1 x219002_1 x219003_1 (l0.length : Int) (l1.length : Int) true _ A13.out).mono ?_); rintro e w44 ⟨rfl, hb⟩; have n0_ := Aside0.mk (blk_below (g := gb218) (o := .cells #[.int .i64 x219000_1, .int .i64 x219001_1, .int .i64 x219002_1, .int .i64 x219003_1] 44 (0, 0)) (by (with_reducible repeat (first | refine blk_drewN ?_ _ | refine blk_drew ?_ | refine blk_alloc ?_ _)); refine blk_far ?_ NB218_223.out _; (with_reducible repeat (first | refine blk_drewN ?_ _ | refine blk_drew ?_ | refine blk_alloc ?_ _)); refine blk_far ?_ NB218_223.out _; (with_reducible repeat (first | refine blk_drewN ?_ _ | refine blk_drew ?_ | refine blk_alloc ?_ _)); refine blk_far ?_ NB218_223.out _; (with_reducible repeat (first | refine blk_drewN ?_ _ | refine blk_drew ?_ | refine blk_alloc ?_ _)); refine blk_far ?_ NB218_223.out _; (with_reducible repeat (first | refine blk_drewN ?_ _ | refine blk_drew ?_ | refine blk_alloc ?_ _)); exact BK218.out) hb); have n1_ := Aside0.mk (blk_below (g := gb223) (o := .cells #[.int .i64 ((rd_T44 l2 x13_1).f0), .int .i64 ((rd_T44 l2 x13_1).f1), .int .i64 ((rd_T44 l2 x13_1).f2), .int .i64 ((rd_T44 l2 x13_1).f3)] 44 (0, 0)) (by (with_reducible repeat (first | refine blk_drewN ?_ _ | refine blk_drew ?_ | refine blk_alloc ?_ _)); refine blk_put (cs := #[.int .i64 ((rd_T44 l2 x13_1).f0), .int .i64 ((rd_T44 l2 x13_1).f1), .int .i64 ((rd_T44 l2 x13_1).f2), .int .i64 0]) ?_ 3 _ rfl; (with_reducible repeat (first | refine blk_drewN ?_ _ | refine blk_drew ?_ | refine blk_alloc ?_ _)); refine blk_put (cs := #[.int .i64 ((rd_T44 l2 x13_1).f0), .int .i64 ((rd_T44 l2 x13_1).f1), .int .i64 0, .int .i64 0]) ?_ 2 _ rfl; (with_reducible repeat (first | refine blk_drewN ?_ _ | refine blk_drew ?_ | refine blk_alloc ?_ _)); refine blk_put (cs := #[.int .i64 ((rd_T44 l2 x13_1).f0), .int .i64 0, .int .i64 0, .int .i64 0]) ?_ 1 _ rfl; (with_reducible repeat (first | refine blk_drewN ?_ _ | refine blk_drew ?_ | refine blk_alloc ?_ _)); refine blk_put (cs := #[.int .i64 0, .int .i64 0, .int .i64 0, .int .i64 0]) ?_ 0 _ rfl; (with_reducible repeat (first | refine blk_drewN ?_ _ | refine blk_drew ?_ | refine blk_alloc ?_ _)); exact BK223.out) hb); have n2_ := Aside0.mk (below_step (by repeat (first | (with_reducible first | exact HB.out | apply below_alloc | apply pw_below_drewN | apply below_drew1 | refine below_set ?_ GE218.out | refine below_set ?_ GE223.out) | exact HB.out)) hb); clear BK218; clear BK223; clear HB; have BK218 := n0_; have BK223 := n1_; have HB := n2_; clear n0_ n1_ n2_; (try clear hb); (try clear hb2); (try clear hk); (try clear hi); have hcz45_0 : w44.cell? ⟨gb223, 0, none⟩ = some (.int .i64 ((rd_T44 l2 x13_1).f0)) := (blk_cell BK223.out 0).trans rfl; have hcz45_1 : w44.cell? ⟨gb223, 1, none⟩ = some (.int .i64 ((rd_T44 l2 x13_1).f1)) := (blk_cell BK223.out 1).trans rfl; have hcz45_2 : w44.cell? ⟨gb223, 2, none⟩ = some (.int .i64 ((rd_T44 l2 x13_1).f2)) := (blk_cell BK223.out 2).trans rfl; have hcz45_3 : w44.cell? ⟨gb223, 3, none⟩ = some (.int .i64 ((rd_T44 l2 x13_1).f3)) := (blk_cell BK223.out 3).trans rfl; have hfz45_0 := blk_frozen BK223.out 0; have hfz45_1 := blk_frozen BK223.out 1; have hfz45_2 := blk_frozen BK223.out 2; have hfz45_3 := blk_frozen BK223.out 3)); try go_wp2_with (first | (go_at_call 34; (with_reducible refine (graftageref08_within.calls ((rd_T44 l2 x13_1).f0) ((rd_T44 l2 x13_1).f1) ((rd_T44 l2 x13_1).f2) ((rd_T44 l2 x13_1).f3) x219000_1 x219001_1 x219002_1 x219003_1 (l0.length : Int) (l1.length : Int) true _ A13.out).mono ?_); rintro e w44 ⟨rfl, hb⟩; have n0_ := Aside0.mk (blk_below (g := gb218) (o := .cells #[.int .i64 x219000_1, .int .i64 x219001_1, .int .i64 x219002_1, .int .i64 x219003_1] 44 (0, 0)) (by (with_reducible repeat (first | refine blk_drewN ?_ _ | refine blk_drew ?_ | refine blk_alloc ?_ _)); refine blk_far ?_ NB218_223.out _; (with_reducible repeat (first | refine blk_drewN ?_ _ | refine blk_drew ?_ | refine blk_alloc ?_ _)); refine blk_far ?_ NB218_223.out _; (with_reducible repeat (first | refine blk_drewN ?_ _ | refine blk_drew ?_ | refine blk_alloc ?_ _)); refine blk_far ?_ NB218_223.out _; (with_reducible repeat (first | refine blk_drewN ?_ _ | refine blk_drew ?_ | refine blk_alloc ?_ _)); refine blk_far ?_ NB218_223.out _; (with_reducible repeat (first | refine blk_drewN ?_ _ | refine blk_drew ?_ | refine blk_alloc ?_ _)); exact BK218.out) hb); have n1_ := Aside0.mk (blk_below (g := gb223) (o := .cells #[.int .i64 ((rd_T44 l2 x13_1).f0), .int .i64 ((rd_T44 l2 x13_1).f1), .int .i64 ((rd_T44 l2 x13_1).f2), .int .i64 ((rd_T44 l2 x13_1).f3)] 44 (0, 0)) (by (with_reducible repeat (first | refine blk_drewN ?_ _ | refine blk_drew ?_ | refine blk_alloc ?_ _)); refine blk_put (cs := #[.int .i64 ((rd_T44 l2 x13_1).f0), .int .i64 ((rd_T44 l2 x13_1).f1), .int .i64 ((rd_T44 l2 x13_1).f2), .int .i64 0]) ?_ 3 _ rfl; (with_reducible repeat (first | refine blk_drewN ?_ _ | refine blk_drew ?_ | refine blk_alloc ?_ _)); refine blk_put (cs := #[.int .i64 ((rd_T44 l2 x13_1).f0), .int .i64 ((rd_T44 l2 x13_1).f1), .int .i64 0, .int .i64 0]) ?_ 2 _ rfl; (with_reducible repeat (first | refine blk_drewN ?_ _ | refine blk_drew ?_ | refine blk_alloc ?_ _)); refine blk_put (cs := #[.int .i64 ((rd_T44 l2 x13_1).f0), .int .i64 0, .int .i64 0, .int .i64 0]) ?_ 1 _ rfl; (with_reducible repeat (first | refine blk_drewN ?_ _ | refine blk_drew ?_ | refine blk_alloc ?_ _)); refine blk_put (cs := #[.int .i64 0, .int .i64 0, .int .i64 0, .int .i64 0]) ?_ 0 _ rfl; (with_reducible repeat (first | refine blk_drewN ?_ _ | refine blk_drew ?_ | refine blk_alloc ?_ _)); exact BK223.out) hb); have n2_ := Aside0.mk (below_step (by repeat (first | (with_reducible first | exact HB.out | apply below_alloc | apply pw_below_drewN | apply below_drew1 | refine below_set ?_ GE218.out | refine below_set ?_ GE223.out) | exact HB.out)) hb); clear BK218; clear BK223; clear HB; have BK218 := n0_; have BK223 := n1_; have HB := n2_; clear n0_ n1_ n2_; (try clear hb); (try clear hb2); (try clear hk); (try clear hi); have hcz45_0 : w44.cell? ⟨gb223, 0, none⟩ = some (.int .i64 ((rd_T44 l2 x13_1).f0)) := (blk_cell BK223.out 0).trans rfl; have hcz45_1 : w44.cell? ⟨gb223, 1, none⟩ = some (.int .i64 ((rd_T44 l2 x13_1).f1)) := (blk_cell BK223.out 1).trans rfl; have hcz45_2 : w44.cell? ⟨gb223, 2, none⟩ = some (.int .i64 ((rd_T44 l2 x13_1).f2)) := (blk_cell BK223.out 2).trans rfl; have hcz45_3 : w44.cell? ⟨gb223, 3, none⟩ = some (.int .i64 ((rd_T44 l2 x13_1).f3)) := (blk_cell BK223.out 3).trans rfl; have hfz45_0 := blk_frozen BK223.out 0; have hfz45_1 := blk_frozen BK223.out 1; have hfz45_2 := blk_frozen BK223.out 2; have hfz45_3 := blk_frozen BK223.out 3)))
                    go_meet
                    case rel => exact ⟨_, (false), (by first | rfl | (simp; done) | (simp [*]; done)), H', ⟨by have := HK1.out; first | omega | exact Nat.le_refl _⟩, ⟨by (with_reducible repeat (first | refine blk_drewN ?_ _ | refine blk_drew ?_ | refine blk_alloc ?_ _)); exact BK218.out⟩, ⟨by (with_reducible repeat (first | refine blk_drewN ?_ _ | refine blk_drew ?_ | refine blk_alloc ?_ _)); exact BK223.out⟩, ⟨by repeat (first | (with_reducible first | exact HB.out | apply below_alloc | apply pw_below_drewN | apply below_drew1 | refine below_set ?_ GE218.out | refine below_set ?_ GE223.out) | exact HB.out)⟩⟩
              · replace c14 := Bool.eq_false_iff.mpr c14
                subst c14
                have H1 : (graftageref08_Right.j1 k1 l0 l1 l2 (l2.length : Int) x13_1 true x219000_1 x219001_1 x219002_1 x219003_1 ((rd_T44 l2 x13_1).f0) ((rd_T44 l2 x13_1).f1) ((rd_T44 l2 x13_1).f2) ((rd_T44 l2 x13_1).f3)) = some r := by rw [if_neg (show ¬ (false = true) by decide)] at H; exact H
                clear H
                have H := H1
                clear H1
                have H' := Aside0.mk H
                clear H
                have hnb46 := NB223_218.out
                have hnc46 := NB218_223.out
                have hcz47_0 : w10.cell? ⟨gb223, 0, none⟩ = some (.int .i64 0) := (blk_cell BK223.out 0).trans rfl
                have hcz47_1 : w10.cell? ⟨gb223, 1, none⟩ = some (.int .i64 0) := (blk_cell BK223.out 1).trans rfl
                have hcz47_2 : w10.cell? ⟨gb223, 2, none⟩ = some (.int .i64 0) := (blk_cell BK223.out 2).trans rfl
                have hcz47_3 : w10.cell? ⟨gb223, 3, none⟩ = some (.int .i64 0) := (blk_cell BK223.out 3).trans rfl
                have hfz47_0 := blk_frozen BK223.out 0
                have hfz47_1 := blk_frozen BK223.out 1
                have hfz47_2 := blk_frozen BK223.out 2
                have hfz47_3 := blk_frozen BK223.out 3
                have hcz48_0 : w10.cell? ⟨gb218, 0, none⟩ = some (.int .i64 x219000_1) := (blk_cell BK218.out 0).trans rfl
                have hcz48_1 : w10.cell? ⟨gb218, 1, none⟩ = some (.int .i64 x219001_1) := (blk_cell BK218.out 1).trans rfl
                have hcz48_2 : w10.cell? ⟨gb218, 2, none⟩ = some (.int .i64 x219002_1) := (blk_cell BK218.out 2).trans rfl
                have hcz48_3 : w10.cell? ⟨gb218, 3, none⟩ = some (.int .i64 x219003_1) := (blk_cell BK218.out 3).trans rfl
                have hfz48_0 := blk_frozen BK218.out 0
                have hfz48_1 := blk_frozen BK218.out 1
                have hfz48_2 := blk_frozen BK218.out 2
                have hfz48_3 := blk_frozen BK218.out 3
                go_wp2_with (first | (go_at_call 34; (with_reducible refine (graftageref08_within.calls ((rd_T44 l2 x13_1).f0) ((rd_T44 l2 x13_1).f1) ((rd_T44 l2 x13_1).f2) ((rd_T44 l2 x13_1).f3) x219000_1 x219001_1 x219002_1 x219003_1 (l0.length : Int) (l1.length : Int) false _ A13.out).mono ?_); rintro e w49 ⟨rfl, hb⟩; have n0_ := Aside0.mk (blk_below (g := gb218) (o := .cells #[.int .i64 x219000_1, .int .i64 x219001_1, .int .i64 x219002_1, .int .i64 x219003_1] 44 (0, 0)) (by (with_reducible repeat (first | refine blk_drewN ?_ _ | refine blk_drew ?_ | refine blk_alloc ?_ _)); refine blk_far ?_ NB218_223.out _; (with_reducible repeat (first | refine blk_drewN ?_ _ | refine blk_drew ?_ | refine blk_alloc ?_ _)); refine blk_far ?_ NB218_223.out _; (with_reducible repeat (first | refine blk_drewN ?_ _ | refine blk_drew ?_ | refine blk_alloc ?_ _)); refine blk_far ?_ NB218_223.out _; (with_reducible repeat (first | refine blk_drewN ?_ _ | refine blk_drew ?_ | refine blk_alloc ?_ _)); refine blk_far ?_ NB218_223.out _; (with_reducible repeat (first | refine blk_drewN ?_ _ | refine blk_drew ?_ | refine blk_alloc ?_ _)); exact BK218.out) hb); have n1_ := Aside0.mk (blk_below (g := gb223) (o := .cells #[.int .i64 ((rd_T44 l2 x13_1).f0), .int .i64 ((rd_T44 l2 x13_1).f1), .int .i64 ((rd_T44 l2 x13_1).f2), .int .i64 ((rd_T44 l2 x13_1).f3)] 44 (0, 0)) (by (with_reducible repeat (first | refine blk_drewN ?_ _ | refine blk_drew ?_ | refine blk_alloc ?_ _)); refine blk_put (cs := #[.int .i64 ((rd_T44 l2 x13_1).f0), .int .i64 ((rd_T44 l2 x13_1).f1), .int .i64 ((rd_T44 l2 x13_1).f2), .int .i64 0]) ?_ 3 _ rfl; (with_reducible repeat (first | refine blk_drewN ?_ _ | refine blk_drew ?_ | refine blk_alloc ?_ _)); refine blk_put (cs := #[.int .i64 ((rd_T44 l2 x13_1).f0), .int .i64 ((rd_T44 l2 x13_1).f1), .int .i64 0, .int .i64 0]) ?_ 2 _ rfl; (with_reducible repeat (first | refine blk_drewN ?_ _ | refine blk_drew ?_ | refine blk_alloc ?_ _)); refine blk_put (cs := #[.int .i64 ((rd_T44 l2 x13_1).f0), .int .i64 0, .int .i64 0, .int .i64 0]) ?_ 1 _ rfl; (with_reducible repeat (first | refine blk_drewN ?_ _ | refine blk_drew ?_ | refine blk_alloc ?_ _)); refine blk_put (cs := #[.int .i64 0, .int .i64 0, .int .i64 0, .int .i64 0]) ?_ 0 _ rfl; (with_reducible repeat (first | refine blk_drewN ?_ _ | refine blk_drew ?_ | refine blk_alloc ?_ _)); exact BK223.out) hb); have n2_ := Aside0.mk (below_step (by repeat (first | (with_reducible first | exact HB.out | apply below_alloc | apply pw_below_drewN | apply below_drew1 | refine below_set ?_ GE218.out | refine below_set ?_ GE223.out) | exact HB.out)) hb); clear BK218; clear BK223; clear HB; have BK218 := n0_; have BK223 := n1_; have HB := n2_; clear n0_ n1_ n2_; (try clear hb); (try clear hb2); (try clear hk); (try clear hi)))
                repeat (go_quiet (first | (go_at_call 34; (with_reducible refine (graftageref08_within.calls ((rd_T44 l2 x13_1).f0) ((rd_T44 l2 x13_1).f1) ((rd_T44 l2 x13_1).f2) ((rd_T44 l2 x13_1).f3) x219000_1 x219001_1 x219002_1 x219003_1 (l0.length : Int) (l1.length : Int) false _ A13.out).mono ?_); rintro e w49 ⟨rfl, hb⟩; have n0_ := Aside0.mk (blk_below (g := gb218) (o := .cells #[.int .i64 x219000_1, .int .i64 x219001_1, .int .i64 x219002_1, .int .i64 x219003_1] 44 (0, 0)) (by (with_reducible repeat (first | refine blk_drewN ?_ _ | refine blk_drew ?_ | refine blk_alloc ?_ _)); refine blk_far ?_ NB218_223.out _; (with_reducible repeat (first | refine blk_drewN ?_ _ | refine blk_drew ?_ | refine blk_alloc ?_ _)); refine blk_far ?_ NB218_223.out _; (with_reducible repeat (first | refine blk_drewN ?_ _ | refine blk_drew ?_ | refine blk_alloc ?_ _)); refine blk_far ?_ NB218_223.out _; (with_reducible repeat (first | refine blk_drewN ?_ _ | refine blk_drew ?_ | refine blk_alloc ?_ _)); refine blk_far ?_ NB218_223.out _; (with_reducible repeat (first | refine blk_drewN ?_ _ | refine blk_drew ?_ | refine blk_alloc ?_ _)); exact BK218.out) hb); have n1_ := Aside0.mk (blk_below (g := gb223) (o := .cells #[.int .i64 ((rd_T44 l2 x13_1).f0), .int .i64 ((rd_T44 l2 x13_1).f1), .int .i64 ((rd_T44 l2 x13_1).f2), .int .i64 ((rd_T44 l2 x13_1).f3)] 44 (0, 0)) (by (with_reducible repeat (first | refine blk_drewN ?_ _ | refine blk_drew ?_ | refine blk_alloc ?_ _)); refine blk_put (cs := #[.int .i64 ((rd_T44 l2 x13_1).f0), .int .i64 ((rd_T44 l2 x13_1).f1), .int .i64 ((rd_T44 l2 x13_1).f2), .int .i64 0]) ?_ 3 _ rfl; (with_reducible repeat (first | refine blk_drewN ?_ _ | refine blk_drew ?_ | refine blk_alloc ?_ _)); refine blk_put (cs := #[.int .i64 ((rd_T44 l2 x13_1).f0), .int .i64 ((rd_T44 l2 x13_1).f1), .int .i64 0, .int .i64 0]) ?_ 2 _ rfl; (with_reducible repeat (first | refine blk_drewN ?_ _ | refine blk_drew ?_ | refine blk_alloc ?_ _)); refine blk_put (cs := #[.int .i64 ((rd_T44 l2 x13_1).f0), .int .i64 0, .int .i64 0, .int .i64 0]) ?_ 1 _ rfl; (with_reducible repeat (first | refine blk_drewN ?_ _ | refine blk_drew ?_ | refine blk_alloc ?_ _)); refine blk_put (cs := #[.int .i64 0, .int .i64 0, .int .i64 0, .int .i64 0]) ?_ 0 _ rfl; (with_reducible repeat (first | refine blk_drewN ?_ _ | refine blk_drew ?_ | refine blk_alloc ?_ _)); exact BK223.out) hb); have n2_ := Aside0.mk (below_step (by repeat (first | (with_reducible first | exact HB.out | apply below_alloc | apply pw_below_drewN | apply below_drew1 | refine below_set ?_ GE218.out | refine below_set ?_ GE223.out) | exact HB.out)) hb); clear BK218; clear BK223; clear HB; have BK218 := n0_; have BK223 := n1_; have HB := n2_; clear n0_ n1_ n2_; (try clear hb); (try clear hb2); (try clear hk); (try clear hi))); try go_wp2_with (first | (go_at_call 34; (with_reducible refine (graftageref08_within.calls ((rd_T44 l2 x13_1).f0) ((rd_T44 l2 x13_1).f1) ((rd_T44 l2 x13_1).f2) ((rd_T44 l2 x13_1).f3) x219000_1 x219001_1 x219002_1 x219003_1 (l0.length : Int) (l1.length : Int) false _ A13.out).mono ?_); rintro e w49 ⟨rfl, hb⟩; have n0_ := Aside0.mk (blk_below (g := gb218) (o := .cells #[.int .i64 x219000_1, .int .i64 x219001_1, .int .i64 x219002_1, .int .i64 x219003_1] 44 (0, 0)) (by (with_reducible repeat (first | refine blk_drewN ?_ _ | refine blk_drew ?_ | refine blk_alloc ?_ _)); refine blk_far ?_ NB218_223.out _; (with_reducible repeat (first | refine blk_drewN ?_ _ | refine blk_drew ?_ | refine blk_alloc ?_ _)); refine blk_far ?_ NB218_223.out _; (with_reducible repeat (first | refine blk_drewN ?_ _ | refine blk_drew ?_ | refine blk_alloc ?_ _)); refine blk_far ?_ NB218_223.out _; (with_reducible repeat (first | refine blk_drewN ?_ _ | refine blk_drew ?_ | refine blk_alloc ?_ _)); refine blk_far ?_ NB218_223.out _; (with_reducible repeat (first | refine blk_drewN ?_ _ | refine blk_drew ?_ | refine blk_alloc ?_ _)); exact BK218.out) hb); have n1_ := Aside0.mk (blk_below (g := gb223) (o := .cells #[.int .i64 ((rd_T44 l2 x13_1).f0), .int .i64 ((rd_T44 l2 x13_1).f1), .int .i64 ((rd_T44 l2 x13_1).f2), .int .i64 ((rd_T44 l2 x13_1).f3)] 44 (0, 0)) (by (with_reducible repeat (first | refine blk_drewN ?_ _ | refine blk_drew ?_ | refine blk_alloc ?_ _)); refine blk_put (cs := #[.int .i64 ((rd_T44 l2 x13_1).f0), .int .i64 ((rd_T44 l2 x13_1).f1), .int .i64 ((rd_T44 l2 x13_1).f2), .int .i64 0]) ?_ 3 _ rfl; (with_reducible repeat (first | refine blk_drewN ?_ _ | refine blk_drew ?_ | refine blk_alloc ?_ _)); refine blk_put (cs := #[.int .i64 ((rd_T44 l2 x13_1).f0), .int .i64 ((rd_T44 l2 x13_1).f1), .int .i64 0, .int .i64 0]) ?_ 2 _ rfl; (with_reducible repeat (first | refine blk_drewN ?_ _ | refine blk_drew ?_ | refine blk_alloc ?_ _)); refine blk_put (cs := #[.int .i64 ((rd_T44 l2 x13_1).f0), .int .i64 0, .int .i64 0, .int .i64 0]) ?_ 1 _ rfl; (with_reducible repeat (first | refine blk_drewN ?_ _ | refine blk_drew ?_ | refine blk_alloc ?_ _)); refine blk_put (cs := #[.int .i64 0, .int .i64 0, .int .i64 0, .int .i64 0]) ?_ 0 _ rfl; (with_reducible repeat (first | refine blk_drewN ?_ _ | refine blk_drew ?_ | refine blk_alloc ?_ _)); exact BK223.out) hb); have n2_ := Aside0.mk (below_step (by repeat (first | (with_reducible first | exact HB.out | apply below_alloc | apply pw_below_drewN | apply below_drew1 | refine below_set ?_ GE218.out | refine below_set ?_ GE223.out) | exact HB.out)) hb); clear BK218; clear BK223; clear HB; have BK218 := n0_; have BK223 := n1_; have HB := n2_; clear n0_ n1_ n2_; (try clear hb); (try clear hb2); (try clear hk); (try clear hi))))
                go_meet
                case rel => exact ⟨_, (true), (by first | rfl | (simp; done) | (simp [*]; done)), H', ⟨by have := HK1.out; first | omega | exact Nat.le_refl _⟩, ⟨by (with_reducible repeat (first | refine blk_drewN ?_ _ | refine blk_drew ?_ | refine blk_alloc ?_ _)); exact BK218.out⟩, ⟨by (with_reducible repeat (first | refine blk_drewN ?_ _ | refine blk_drew ?_ | refine blk_alloc ?_ _)); exact BK223.out⟩, ⟨by repeat (first | (with_reducible first | exact HB.out | apply below_alloc | apply pw_below_drewN | apply below_drew1 | refine below_set ?_ GE218.out | refine below_set ?_ GE223.out) | exact HB.out)⟩⟩
            case rest =>
              clear HC9
              try clear c1
              try clear c2
              try clear p2
              try clear q2
              try clear hx2
              try clear c3
              try clear c4
              try clear c6
              try clear c6b0
              try clear c7
              try clear c7b0
              try clear c8
              try clear c8b0
              try clear c11
              try clear c14
              try clear c15
              try clear c15b0
              try clear c15b1
              try clear c16
              try clear c16b0
              try clear c16b1
              try clear c17
              try clear c22
              try clear c22b0
              try clear p22
              try clear q22
              try clear hx22
              try clear c23
              try clear c29
              try clear c34
              try clear c34b0
              try clear c35
              try clear c41
              try clear c46
              try clear hcz12_0
              try clear hcz12_1
              try clear hcz12_2
              try clear hcz12_3
              try clear hcz18_0
              try clear hcz18_1
              try clear hcz18_2
              try clear hcz18_3
              try clear hcz19_0
              try clear hcz19_1
              try clear hcz19_2
              try clear hcz19_3
              try clear hcz21_0
              try clear hcz21_1
              try clear hcz21_2
              try clear hcz21_3
              try clear hcz24_0
              try clear hcz24_1
              try clear hcz24_2
              try clear hcz24_3
              try clear hcz25_0
              try clear hcz25_1
              try clear hcz25_2
              try clear hcz25_3
              try clear hcz27_0
              try clear hcz27_1
              try clear hcz27_2
              try clear hcz27_3
              try clear hcz28_0
              try clear hcz28_1
              try clear hcz28_2
              try clear hcz28_3
              try clear hcz30_0
              try clear hcz30_1
              try clear hcz30_2
              try clear hcz30_3
              try clear hcz31_0
              try clear hcz31_1
              try clear hcz31_2
              try clear hcz31_3
              try clear hcz33_0
              try clear hcz33_1
              try clear hcz33_2
              try clear hcz33_3
              try clear hcz36_0
              try clear hcz36_1
              try clear hcz36_2
              try clear hcz36_3
              try clear hcz37_0
              try clear hcz37_1
              try clear hcz37_2
              try clear hcz37_3
              try clear hcz39_0
              try clear hcz39_1
              try clear hcz39_2
              try clear hcz39_3
              try clear hcz40_0
              try clear hcz40_1
              try clear hcz40_2
              try clear hcz40_3
              try clear hcz42_0
              try clear hcz42_1
              try clear hcz42_2
              try clear hcz42_3
              try clear hcz43_0
              try clear hcz43_1
              try clear hcz43_2
              try clear hcz43_3
              try clear hcz45_0
              try clear hcz45_1
              try clear hcz45_2
              try clear hcz45_3
              try clear hcz47_0
              try clear hcz47_1
              try clear hcz47_2
              try clear hcz47_3
              try clear hcz48_0
              try clear hcz48_1
              try clear hcz48_2
              try clear hcz48_3
              try clear hcz5_0
              try clear hcz5_1
              try clear hcz5_2
              try clear hcz5_3
              try clear hfz12_0
              try clear hfz12_1
              try clear hfz12_2
              try clear hfz12_3
              try clear hfz18_0
              try clear hfz18_1
              try clear hfz18_2
              try clear hfz18_3
              try clear hfz19_0
              try clear hfz19_1
              try clear hfz19_2
              try clear hfz19_3
              try clear hfz21_0
              try clear hfz21_1
              try clear hfz21_2
              try clear hfz21_3
              try clear hfz24_0
              try clear hfz24_1
              try clear hfz24_2
              try clear hfz24_3
              try clear hfz25_0
              try clear hfz25_1
              try clear hfz25_2
              try clear hfz25_3
              try clear hfz27_0
              try clear hfz27_1
              try clear hfz27_2
              try clear hfz27_3
              try clear hfz28_0
              try clear hfz28_1
              try clear hfz28_2
              try clear hfz28_3
              try clear hfz30_0
              try clear hfz30_1
              try clear hfz30_2
              try clear hfz30_3
              try clear hfz31_0
              try clear hfz31_1
              try clear hfz31_2
              try clear hfz31_3
              try clear hfz33_0
              try clear hfz33_1
              try clear hfz33_2
              try clear hfz33_3
              try clear hfz36_0
              try clear hfz36_1
              try clear hfz36_2
              try clear hfz36_3
              try clear hfz37_0
              try clear hfz37_1
              try clear hfz37_2
              try clear hfz37_3
              try clear hfz39_0
              try clear hfz39_1
              try clear hfz39_2
              try clear hfz39_3
              try clear hfz40_0
              try clear hfz40_1
              try clear hfz40_2
              try clear hfz40_3
              try clear hfz42_0
              try clear hfz42_1
              try clear hfz42_2
              try clear hfz42_3
              try clear hfz43_0
              try clear hfz43_1
              try clear hfz43_2
              try clear hfz43_3
              try clear hfz45_0
              try clear hfz45_1
              try clear hfz45_2
              try clear hfz45_3
              try clear hfz47_0
              try clear hfz47_1
              try clear hfz47_2
              try clear hfz47_3
              try clear hfz48_0
              try clear hfz48_1
              try clear hfz48_2
              try clear hfz48_3
              try clear hfz5_0
              try clear hfz5_1
              try clear hfz5_2
              try clear hfz5_3
              try clear hx222_0
              try clear hx222_1
              try clear hx222_2
              try clear hx222_3
              try clear p2
              try clear p222
              try clear q222
              obtain ⟨kq, x48_8, rfl, HA, HJ8, BK218, BK223, HB⟩ := hcut
              cases kq with
              | zero => exact absurd HA.out (by simp [graftageref08_Right.j1])
              | succ kj8 =>
                have H := HA.out
                clear HA
                simp only [graftageref08_Right.j1] at H
                by_cases c50 : x48_8 = true
                · subst c50
                  have H1 : (some false) = some r := by rw [if_pos rfl] at H; exact H
                  clear H
                  have H := H1
                  clear H1
                  obtain rfl := Option.some.inj H
                  go_wp2
                  repeat (go_quiet (fail); try go_wp2)
                  go_ret
                  exact ⟨by first | rfl | (simp [errW_none, errW_some] <;> rfl) | (simp [*, errW_none, errW_some] <;> rfl), by repeat (first | (with_reducible first | exact HB.out | apply below_alloc | apply pw_below_drewN | apply below_drew1 | refine below_set ?_ GE218.out | refine below_set ?_ GE223.out) | exact HB.out)⟩
                · replace c50 := Bool.eq_false_iff.mpr c50
                  subst c50
                  have H1 : (if (wrap64 (((rd_T44 l2 x13_1).f0) - x219000_1)) = (wrap64 (((rd_T44 l2 x13_1).f2) - x219002_1)) then (if 0 ≤ x219000_1 then (if x219000_1 ≤ ((rd_T44 l2 x13_1).f0) then (if ((rd_T44 l2 x13_1).f0) ≤ (l0.length : Int) then (if 0 ≤ x219002_1 then (if x219002_1 ≤ ((rd_T44 l2 x13_1).f2) then (if ((rd_T44 l2 x13_1).f2) ≤ (l1.length : Int) then ((graftageref08_Same.f kj8 ((l0.take (((rd_T44 l2 x13_1).f0) : Int).toNat).drop (x219000_1 : Int).toNat) ((l1.take (((rd_T44 l2 x13_1).f2) : Int).toNat).drop (x219002_1 : Int).toNat)).bind fun t227 => (if t227 = true then (graftageref08_Right.l0 kj8 l0 l1 l2 (l2.length : Int) (wrap64 (x13_1 + 1)) (wrap64 (((rd_T44 l2 x13_1).f0) + ((rd_T44 l2 x13_1).f1))) 0 (wrap64 (((rd_T44 l2 x13_1).f2) + ((rd_T44 l2 x13_1).f3))) 0) else (some false))) else (none)) else (none)) else (none)) else (none)) else (none)) else (none)) else (some false)) = some r := by rw [if_neg (show ¬ (false = true) by decide)] at H; exact H
                  clear H
                  have H := H1
                  clear H1
                  by_cases c51 : (wrap64 (((rd_T44 l2 x13_1).f0) - x219000_1)) = (wrap64 (((rd_T44 l2 x13_1).f2) - x219002_1))
                  · rw [if_pos c51] at H
                    have c51b0 : ((wrap64 (((rd_T44 l2 x13_1).f0) - x219000_1)) == (wrap64 (((rd_T44 l2 x13_1).f2) - x219002_1))) = true := beq_iff_eq.mpr c51
                    have c51b1 : ((wrap64 (((rd_T44 l2 x13_1).f0) - x219000_1)) != (wrap64 (((rd_T44 l2 x13_1).f2) - x219002_1))) = false := bne_eq_false_iff_eq.mpr c51
                    clear c51
                    by_cases c52 : 0 ≤ x219000_1
                    · rw [if_pos c52] at H
                      have c52b0 := eq_true c52
                      have c52b1 : decide (0 ≤ x219000_1) = true := decide_eq_true c52
                      clear c52
                      by_cases c53 : x219000_1 ≤ ((rd_T44 l2 x13_1).f0)
                      · rw [if_pos c53] at H
                        have c53b0 := eq_true c53
                        have c53b1 : decide (x219000_1 ≤ ((rd_T44 l2 x13_1).f0)) = true := decide_eq_true c53
                        clear c53
                        by_cases c54 : ((rd_T44 l2 x13_1).f0) ≤ (l0.length : Int)
                        · rw [if_pos c54] at H
                          have c54b0 := eq_true c54
                          have c54b1 : decide (((rd_T44 l2 x13_1).f0) ≤ (l0.length : Int)) = true := decide_eq_true c54
                          clear c54
                          by_cases c55 : 0 ≤ x219002_1
                          · rw [if_pos c55] at H
                            have c55b0 := eq_true c55
                            have c55b1 : decide (0 ≤ x219002_1) = true := decide_eq_true c55
                            clear c55
                            by_cases c56 : x219002_1 ≤ ((rd_T44 l2 x13_1).f2)
                            · rw [if_pos c56] at H
                              have c56b0 := eq_true c56
                              have c56b1 : decide (x219002_1 ≤ ((rd_T44 l2 x13_1).f2)) = true := decide_eq_true c56
                              clear c56
                              by_cases c57 : ((rd_T44 l2 x13_1).f2) ≤ (l1.length : Int)
                              · rw [if_pos c57] at H
                                have c57b0 := eq_true c57
                                have c57b1 : decide (((rd_T44 l2 x13_1).f2) ≤ (l1.length : Int)) = true := decide_eq_true c57
                                clear c57
                                replace H := Option.bind_eq_some_iff.mp H
                                obtain ⟨t227, A580, H⟩ := H
                                replace H : (if t227 = true then (graftageref08_Right.l0 kj8 l0 l1 l2 (l2.length : Int) (wrap64 (x13_1 + 1)) (wrap64 (((rd_T44 l2 x13_1).f0) + ((rd_T44 l2 x13_1).f1))) 0 (wrap64 (((rd_T44 l2 x13_1).f2) + ((rd_T44 l2 x13_1).f3))) 0) else (some false)) = some r := H
                                have A58 := Aside0.mk A580
                                clear A580
                                by_cases c59 : t227 = true
                                · subst c59
                                  have H1 : (graftageref08_Right.l0 kj8 l0 l1 l2 (l2.length : Int) (wrap64 (x13_1 + 1)) (wrap64 (((rd_T44 l2 x13_1).f0) + ((rd_T44 l2 x13_1).f1))) 0 (wrap64 (((rd_T44 l2 x13_1).f2) + ((rd_T44 l2 x13_1).f3))) 0) = some r := by rw [if_pos rfl] at H; exact H
                                  clear H
                                  have H := H1
                                  clear H1
                                  have H' := Aside0.mk H
                                  clear H
                                  have hnb60 := NB223_218.out
                                  have hnc60 := NB218_223.out
                                  have hcz61_0 : wc.cell? ⟨gb223, 0, none⟩ = some (.int .i64 ((rd_T44 l2 x13_1).f0)) := (blk_cell BK223.out 0).trans rfl
                                  have hcz61_1 : wc.cell? ⟨gb223, 1, none⟩ = some (.int .i64 ((rd_T44 l2 x13_1).f1)) := (blk_cell BK223.out 1).trans rfl
                                  have hcz61_2 : wc.cell? ⟨gb223, 2, none⟩ = some (.int .i64 ((rd_T44 l2 x13_1).f2)) := (blk_cell BK223.out 2).trans rfl
                                  have hcz61_3 : wc.cell? ⟨gb223, 3, none⟩ = some (.int .i64 ((rd_T44 l2 x13_1).f3)) := (blk_cell BK223.out 3).trans rfl
                                  have hfz61_0 := blk_frozen BK223.out 0
                                  have hfz61_1 := blk_frozen BK223.out 1
                                  have hfz61_2 := blk_frozen BK223.out 2
                                  have hfz61_3 := blk_frozen BK223.out 3
                                  have hcz62_0 : wc.cell? ⟨gb218, 0, none⟩ = some (.int .i64 x219000_1) := (blk_cell BK218.out 0).trans rfl
                                  have hcz62_1 : wc.cell? ⟨gb218, 1, none⟩ = some (.int .i64 x219001_1) := (blk_cell BK218.out 1).trans rfl
                                  have hcz62_2 : wc.cell? ⟨gb218, 2, none⟩ = some (.int .i64 x219002_1) := (blk_cell BK218.out 2).trans rfl
                                  have hcz62_3 : wc.cell? ⟨gb218, 3, none⟩ = some (.int .i64 x219003_1) := (blk_cell BK218.out 3).trans rfl
                                  have hfz62_0 := blk_frozen BK218.out 0
                                  have hfz62_1 := blk_frozen BK218.out 1
                                  have hfz62_2 := blk_frozen BK218.out 2
                                  have hfz62_3 := blk_frozen BK218.out 3
                                  obtain ⟨i063, hi063, _, hsz63, _⟩ := info_parts info9
                                  obtain ⟨A63, hcut63, hA63, hC63⟩ := print_mid_of (P := Try.prog) Value.string (⟨#[]⟩ : ByteArray) 22 9 .i64 .i64 Try.underlying22 hi063 hsz63 A0 c0 l0 x219000_1 ((rd_T44 l2 x13_1).f0) (of_decide_eq_true (by first | (with_reducible assumption) | assumption)) (by first | omega | exact of_decide_eq_true (by first | (with_reducible assumption) | assumption)) (of_decide_eq_true (by first | (with_reducible assumption) | assumption)) HC0.out
                                  have HR225 := Aside0.mk (Kd.C_of_reads (h1 := fun _ => rfl) (hA63 _ (Kd.reads_of_C HR0.out)))
                                  have HC225 := Aside0.mk hC63
                                  clear hA63 hC63 hi063 hsz63
                                  obtain ⟨i064, hi064, _, hsz64, _⟩ := info_parts info9
                                  obtain ⟨A64, hcut64, hA64, hC64⟩ := print_mid_of (P := Try.prog) Value.string (⟨#[]⟩ : ByteArray) 22 9 .i64 .i64 Try.underlying22 hi064 hsz64 A1 c1 l1 x219002_1 ((rd_T44 l2 x13_1).f2) (of_decide_eq_true (by first | (with_reducible assumption) | assumption)) (by first | omega | exact of_decide_eq_true (by first | (with_reducible assumption) | assumption)) (of_decide_eq_true (by first | (with_reducible assumption) | assumption)) HC1.out
                                  have HR226 := Aside0.mk (Kd.C_of_reads (h1 := fun _ => rfl) (hA64 _ (Kd.reads_of_C HR1.out)))
                                  have HC226 := Aside0.mk hC64
                                  clear hA64 hC64 hi064 hsz64
                                  go_wp2_with (first | (go_at_call 21; (try rw [show (((rd_T44 l2 x13_1).f0) : Int).toNat - (x219000_1 : Int).toNat = ((l0.take (((rd_T44 l2 x13_1).f0) : Int).toNat).drop (x219000_1 : Int).toNat).length from by have q_ : (((rd_T44 l2 x13_1).f0) : Int) ≤ (l0.length : Int) := of_decide_eq_true (by first | (with_reducible assumption) | assumption); rw [List.length_drop, List.length_take]; omega]); (try rw [show (((rd_T44 l2 x13_1).f2) : Int).toNat - (x219002_1 : Int).toNat = ((l1.take (((rd_T44 l2 x13_1).f2) : Int).toNat).drop (x219002_1 : Int).toNat).length from by have q_ : (((rd_T44 l2 x13_1).f2) : Int) ≤ (l1.length : Int) := of_decide_eq_true (by first | (with_reducible assumption) | assumption); rw [List.length_drop, List.length_take]; omega]); (with_reducible refine (graftageref08_Same.calls kj8 _ _ ((l0.take (((rd_T44 l2 x13_1).f0) : Int).toNat).drop (x219000_1 : Int).toNat) _ _ ((l1.take (((rd_T44 l2 x13_1).f2) : Int).toNat).drop (x219002_1 : Int).toNat) true _ ?side1 ?side2 ?side3 ?side4 A58.out).mono ?_); (case side1 => repeat (first | exact (Kd.C_below HR225.out HB.out) | (with_reducible refine Kd.C_alloc ?_ _) | (with_reducible refine Kd.C_drewN ?_ _) | (with_reducible refine Kd.C_drew ?_))); (case side2 => exact HC225.out); (case side3 => repeat (first | exact (Kd.C_below HR226.out HB.out) | (with_reducible refine Kd.C_alloc ?_ _) | (with_reducible refine Kd.C_drewN ?_ _) | (with_reducible refine Kd.C_drew ?_))); (case side4 => exact HC226.out); rintro e w' ⟨rfl, ⟨nd, rfl⟩⟩; (try first | exact ⟨rfl, _, World.drewN_drewN _ _ _⟩ | exact ⟨rfl, _, Eq.trans (World.drewN_drewN _ _ _) (congrArg (World.drewN _) (Nat.add_assoc _ _ _))⟩)))
                                  repeat (go_quiet (first | (go_at_call 21; (try rw [show (((rd_T44 l2 x13_1).f0) : Int).toNat - (x219000_1 : Int).toNat = ((l0.take (((rd_T44 l2 x13_1).f0) : Int).toNat).drop (x219000_1 : Int).toNat).length from by have q_ : (((rd_T44 l2 x13_1).f0) : Int) ≤ (l0.length : Int) := of_decide_eq_true (by first | (with_reducible assumption) | assumption); rw [List.length_drop, List.length_take]; omega]); (try rw [show (((rd_T44 l2 x13_1).f2) : Int).toNat - (x219002_1 : Int).toNat = ((l1.take (((rd_T44 l2 x13_1).f2) : Int).toNat).drop (x219002_1 : Int).toNat).length from by have q_ : (((rd_T44 l2 x13_1).f2) : Int) ≤ (l1.length : Int) := of_decide_eq_true (by first | (with_reducible assumption) | assumption); rw [List.length_drop, List.length_take]; omega]); (with_reducible refine (graftageref08_Same.calls kj8 _ _ ((l0.take (((rd_T44 l2 x13_1).f0) : Int).toNat).drop (x219000_1 : Int).toNat) _ _ ((l1.take (((rd_T44 l2 x13_1).f2) : Int).toNat).drop (x219002_1 : Int).toNat) true _ ?side1 ?side2 ?side3 ?side4 A58.out).mono ?_); (case side1 => repeat (first | exact (Kd.C_below HR225.out HB.out) | (with_reducible refine Kd.C_alloc ?_ _) | (with_reducible refine Kd.C_drewN ?_ _) | (with_reducible refine Kd.C_drew ?_))); (case side2 => exact HC225.out); (case side3 => repeat (first | exact (Kd.C_below HR226.out HB.out) | (with_reducible refine Kd.C_alloc ?_ _) | (with_reducible refine Kd.C_drewN ?_ _) | (with_reducible refine Kd.C_drew ?_))); (case side4 => exact HC226.out); rintro e w' ⟨rfl, ⟨nd, rfl⟩⟩; (try first | exact ⟨rfl, _, World.drewN_drewN _ _ _⟩ | exact ⟨rfl, _, Eq.trans (World.drewN_drewN _ _ _) (congrArg (World.drewN _) (Nat.add_assoc _ _ _))⟩))); try go_wp2_with (first | (go_at_call 21; (try rw [show (((rd_T44 l2 x13_1).f0) : Int).toNat - (x219000_1 : Int).toNat = ((l0.take (((rd_T44 l2 x13_1).f0) : Int).toNat).drop (x219000_1 : Int).toNat).length from by have q_ : (((rd_T44 l2 x13_1).f0) : Int) ≤ (l0.length : Int) := of_decide_eq_true (by first | (with_reducible assumption) | assumption); rw [List.length_drop, List.length_take]; omega]); (try rw [show (((rd_T44 l2 x13_1).f2) : Int).toNat - (x219002_1 : Int).toNat = ((l1.take (((rd_T44 l2 x13_1).f2) : Int).toNat).drop (x219002_1 : Int).toNat).length from by have q_ : (((rd_T44 l2 x13_1).f2) : Int) ≤ (l1.length : Int) := of_decide_eq_true (by first | (with_reducible assumption) | assumption); rw [List.length_drop, List.length_take]; omega]); (with_reducible refine (graftageref08_Same.calls kj8 _ _ ((l0.take (((rd_T44 l2 x13_1).f0) : Int).toNat).drop (x219000_1 : Int).toNat) _ _ ((l1.take (((rd_T44 l2 x13_1).f2) : Int).toNat).drop (x219002_1 : Int).toNat) true _ ?side1 ?side2 ?side3 ?side4 A58.out).mono ?_); (case side1 => repeat (first | exact (Kd.C_below HR225.out HB.out) | (with_reducible refine Kd.C_alloc ?_ _) | (with_reducible refine Kd.C_drewN ?_ _) | (with_reducible refine Kd.C_drew ?_))); (case side2 => exact HC225.out); (case side3 => repeat (first | exact (Kd.C_below HR226.out HB.out) | (with_reducible refine Kd.C_alloc ?_ _) | (with_reducible refine Kd.C_drewN ?_ _) | (with_reducible refine Kd.C_drew ?_))); (case side4 => exact HC226.out); rintro e w' ⟨rfl, ⟨nd, rfl⟩⟩; (try first | exact ⟨rfl, _, World.drewN_drewN _ _ _⟩ | exact ⟨rfl, _, Eq.trans (World.drewN_drewN _ _ _) (congrArg (World.drewN _) (Nat.add_assoc _ _ _))⟩))))
                                  go_roundg kj8
                                  case measure => have := HK1.out; have := HJ8.out; omega
                                  case rel => exact ⟨(wrap64 (x13_1 + 1)), (wrap64 (((rd_T44 l2 x13_1).f0) + ((rd_T44 l2 x13_1).f1))), (0), (wrap64 (((rd_T44 l2 x13_1).f2) + ((rd_T44 l2 x13_1).f3))), (0), (by first | rfl | (simp; done) | (simp [*]; done)), H', ⟨by have := HK1.out; have := HJ8.out; omega⟩, ⟨by (with_reducible repeat (first | refine blk_drewN ?_ _ | refine blk_drew ?_ | refine blk_alloc ?_ _)); refine blk_put (cs := #[.int .i64 (wrap64 (((rd_T44 l2 x13_1).f0) + ((rd_T44 l2 x13_1).f1))), .int .i64 0, .int .i64 (wrap64 (((rd_T44 l2 x13_1).f2) + ((rd_T44 l2 x13_1).f3))), .int .i64 x219003_1]) ?_ 3 _ rfl; (with_reducible repeat (first | refine blk_drewN ?_ _ | refine blk_drew ?_ | refine blk_alloc ?_ _)); refine blk_put (cs := #[.int .i64 (wrap64 (((rd_T44 l2 x13_1).f0) + ((rd_T44 l2 x13_1).f1))), .int .i64 0, .int .i64 x219002_1, .int .i64 x219003_1]) ?_ 2 _ rfl; (with_reducible repeat (first | refine blk_drewN ?_ _ | refine blk_drew ?_ | refine blk_alloc ?_ _)); refine blk_put (cs := #[.int .i64 (wrap64 (((rd_T44 l2 x13_1).f0) + ((rd_T44 l2 x13_1).f1))), .int .i64 x219001_1, .int .i64 x219002_1, .int .i64 x219003_1]) ?_ 1 _ rfl; (with_reducible repeat (first | refine blk_drewN ?_ _ | refine blk_drew ?_ | refine blk_alloc ?_ _)); refine blk_put (cs := #[.int .i64 x219000_1, .int .i64 x219001_1, .int .i64 x219002_1, .int .i64 x219003_1]) ?_ 0 _ rfl; (with_reducible repeat (first | refine blk_drewN ?_ _ | refine blk_drew ?_ | refine blk_alloc ?_ _)); exact BK218.out⟩, ⟨by repeat (first | (with_reducible first | exact HB.out | apply below_alloc | apply pw_below_drewN | apply below_drew1 | refine below_set ?_ GE218.out | refine below_set ?_ GE223.out) | exact HB.out)⟩⟩
                                · replace c59 := Bool.eq_false_iff.mpr c59
                                  subst c59
                                  have H1 : (some false) = some r := by rw [if_neg (show ¬ (false = true) by decide)] at H; exact H
                                  clear H
                                  have H := H1
                                  clear H1
                                  obtain rfl := Option.some.inj H
                                  have hnb65 := NB223_218.out
                                  have hnc65 := NB218_223.out
                                  have hcz66_0 : wc.cell? ⟨gb223, 0, none⟩ = some (.int .i64 ((rd_T44 l2 x13_1).f0)) := (blk_cell BK223.out 0).trans rfl
                                  have hcz66_1 : wc.cell? ⟨gb223, 1, none⟩ = some (.int .i64 ((rd_T44 l2 x13_1).f1)) := (blk_cell BK223.out 1).trans rfl
                                  have hcz66_2 : wc.cell? ⟨gb223, 2, none⟩ = some (.int .i64 ((rd_T44 l2 x13_1).f2)) := (blk_cell BK223.out 2).trans rfl
                                  have hcz66_3 : wc.cell? ⟨gb223, 3, none⟩ = some (.int .i64 ((rd_T44 l2 x13_1).f3)) := (blk_cell BK223.out 3).trans rfl
                                  have hfz66_0 := blk_frozen BK223.out 0
                                  have hfz66_1 := blk_frozen BK223.out 1
                                  have hfz66_2 := blk_frozen BK223.out 2
                                  have hfz66_3 := blk_frozen BK223.out 3
                                  have hcz67_0 : wc.cell? ⟨gb218, 0, none⟩ = some (.int .i64 x219000_1) := (blk_cell BK218.out 0).trans rfl
                                  have hcz67_1 : wc.cell? ⟨gb218, 1, none⟩ = some (.int .i64 x219001_1) := (blk_cell BK218.out 1).trans rfl
                                  have hcz67_2 : wc.cell? ⟨gb218, 2, none⟩ = some (.int .i64 x219002_1) := (blk_cell BK218.out 2).trans rfl
                                  have hcz67_3 : wc.cell? ⟨gb218, 3, none⟩ = some (.int .i64 x219003_1) := (blk_cell BK218.out 3).trans rfl
                                  have hfz67_0 := blk_frozen BK218.out 0
                                  have hfz67_1 := blk_frozen BK218.out 1
                                  have hfz67_2 := blk_frozen BK218.out 2
                                  have hfz67_3 := blk_frozen BK218.out 3
                                  obtain ⟨i068, hi068, _, hsz68, _⟩ := info_parts info9
                                  obtain ⟨A68, hcut68, hA68, hC68⟩ := print_mid_of (P := Try.prog) Value.string (⟨#[]⟩ : ByteArray) 22 9 .i64 .i64 Try.underlying22 hi068 hsz68 A0 c0 l0 x219000_1 ((rd_T44 l2 x13_1).f0) (of_decide_eq_true (by first | (with_reducible assumption) | assumption)) (by first | omega | exact of_decide_eq_true (by first | (with_reducible assumption) | assumption)) (of_decide_eq_true (by first | (with_reducible assumption) | assumption)) HC0.out
                                  have HR225 := Aside0.mk (Kd.C_of_reads (h1 := fun _ => rfl) (hA68 _ (Kd.reads_of_C HR0.out)))
                                  have HC225 := Aside0.mk hC68
                                  clear hA68 hC68 hi068 hsz68
                                  obtain ⟨i069, hi069, _, hsz69, _⟩ := info_parts info9
                                  obtain ⟨A69, hcut69, hA69, hC69⟩ := print_mid_of (P := Try.prog) Value.string (⟨#[]⟩ : ByteArray) 22 9 .i64 .i64 Try.underlying22 hi069 hsz69 A1 c1 l1 x219002_1 ((rd_T44 l2 x13_1).f2) (of_decide_eq_true (by first | (with_reducible assumption) | assumption)) (by first | omega | exact of_decide_eq_true (by first | (with_reducible assumption) | assumption)) (of_decide_eq_true (by first | (with_reducible assumption) | assumption)) HC1.out
                                  have HR226 := Aside0.mk (Kd.C_of_reads (h1 := fun _ => rfl) (hA69 _ (Kd.reads_of_C HR1.out)))
                                  have HC226 := Aside0.mk hC69
                                  clear hA69 hC69 hi069 hsz69
                                  go_wp2_with (first | (go_at_call 21; (try rw [show (((rd_T44 l2 x13_1).f0) : Int).toNat - (x219000_1 : Int).toNat = ((l0.take (((rd_T44 l2 x13_1).f0) : Int).toNat).drop (x219000_1 : Int).toNat).length from by have q_ : (((rd_T44 l2 x13_1).f0) : Int) ≤ (l0.length : Int) := of_decide_eq_true (by first | (with_reducible assumption) | assumption); rw [List.length_drop, List.length_take]; omega]); (try rw [show (((rd_T44 l2 x13_1).f2) : Int).toNat - (x219002_1 : Int).toNat = ((l1.take (((rd_T44 l2 x13_1).f2) : Int).toNat).drop (x219002_1 : Int).toNat).length from by have q_ : (((rd_T44 l2 x13_1).f2) : Int) ≤ (l1.length : Int) := of_decide_eq_true (by first | (with_reducible assumption) | assumption); rw [List.length_drop, List.length_take]; omega]); (with_reducible refine (graftageref08_Same.calls kj8 _ _ ((l0.take (((rd_T44 l2 x13_1).f0) : Int).toNat).drop (x219000_1 : Int).toNat) _ _ ((l1.take (((rd_T44 l2 x13_1).f2) : Int).toNat).drop (x219002_1 : Int).toNat) false _ ?side1 ?side2 ?side3 ?side4 A58.out).mono ?_); (case side1 => repeat (first | exact (Kd.C_below HR225.out HB.out) | (with_reducible refine Kd.C_alloc ?_ _) | (with_reducible refine Kd.C_drewN ?_ _) | (with_reducible refine Kd.C_drew ?_))); (case side2 => exact HC225.out); (case side3 => repeat (first | exact (Kd.C_below HR226.out HB.out) | (with_reducible refine Kd.C_alloc ?_ _) | (with_reducible refine Kd.C_drewN ?_ _) | (with_reducible refine Kd.C_drew ?_))); (case side4 => exact HC226.out); rintro e w' ⟨rfl, ⟨nd, rfl⟩⟩; (try first | exact ⟨rfl, _, World.drewN_drewN _ _ _⟩ | exact ⟨rfl, _, Eq.trans (World.drewN_drewN _ _ _) (congrArg (World.drewN _) (Nat.add_assoc _ _ _))⟩)))
                                  repeat (go_quiet (first | (go_at_call 21; (try rw [show (((rd_T44 l2 x13_1).f0) : Int).toNat - (x219000_1 : Int).toNat = ((l0.take (((rd_T44 l2 x13_1).f0) : Int).toNat).drop (x219000_1 : Int).toNat).length from by have q_ : (((rd_T44 l2 x13_1).f0) : Int) ≤ (l0.length : Int) := of_decide_eq_true (by first | (with_reducible assumption) | assumption); rw [List.length_drop, List.length_take]; omega]); (try rw [show (((rd_T44 l2 x13_1).f2) : Int).toNat - (x219002_1 : Int).toNat = ((l1.take (((rd_T44 l2 x13_1).f2) : Int).toNat).drop (x219002_1 : Int).toNat).length from by have q_ : (((rd_T44 l2 x13_1).f2) : Int) ≤ (l1.length : Int) := of_decide_eq_true (by first | (with_reducible assumption) | assumption); rw [List.length_drop, List.length_take]; omega]); (with_reducible refine (graftageref08_Same.calls kj8 _ _ ((l0.take (((rd_T44 l2 x13_1).f0) : Int).toNat).drop (x219000_1 : Int).toNat) _ _ ((l1.take (((rd_T44 l2 x13_1).f2) : Int).toNat).drop (x219002_1 : Int).toNat) false _ ?side1 ?side2 ?side3 ?side4 A58.out).mono ?_); (case side1 => repeat (first | exact (Kd.C_below HR225.out HB.out) | (with_reducible refine Kd.C_alloc ?_ _) | (with_reducible refine Kd.C_drewN ?_ _) | (with_reducible refine Kd.C_drew ?_))); (case side2 => exact HC225.out); (case side3 => repeat (first | exact (Kd.C_below HR226.out HB.out) | (with_reducible refine Kd.C_alloc ?_ _) | (with_reducible refine Kd.C_drewN ?_ _) | (with_reducible refine Kd.C_drew ?_))); (case side4 => exact HC226.out); rintro e w' ⟨rfl, ⟨nd, rfl⟩⟩; (try first | exact ⟨rfl, _, World.drewN_drewN _ _ _⟩ | exact ⟨rfl, _, Eq.trans (World.drewN_drewN _ _ _) (congrArg (World.drewN _) (Nat.add_assoc _ _ _))⟩))); try go_wp2_with (first | (go_at_call 21; (try rw [show (((rd_T44 l2 x13_1).f0) : Int).toNat - (x219000_1 : Int).toNat = ((l0.take (((rd_T44 l2 x13_1).f0) : Int).toNat).drop (x219000_1 : Int).toNat).length from by have q_ : (((rd_T44 l2 x13_1).f0) : Int) ≤ (l0.length : Int) := of_decide_eq_true (by first | (with_reducible assumption) | assumption); rw [List.length_drop, List.length_take]; omega]); (try rw [show (((rd_T44 l2 x13_1).f2) : Int).toNat - (x219002_1 : Int).toNat = ((l1.take (((rd_T44 l2 x13_1).f2) : Int).toNat).drop (x219002_1 : Int).toNat).length from by have q_ : (((rd_T44 l2 x13_1).f2) : Int) ≤ (l1.length : Int) := of_decide_eq_true (by first | (with_reducible assumption) | assumption); rw [List.length_drop, List.length_take]; omega]); (with_reducible refine (graftageref08_Same.calls kj8 _ _ ((l0.take (((rd_T44 l2 x13_1).f0) : Int).toNat).drop (x219000_1 : Int).toNat) _ _ ((l1.take (((rd_T44 l2 x13_1).f2) : Int).toNat).drop (x219002_1 : Int).toNat) false _ ?side1 ?side2 ?side3 ?side4 A58.out).mono ?_); (case side1 => repeat (first | exact (Kd.C_below HR225.out HB.out) | (with_reducible refine Kd.C_alloc ?_ _) | (with_reducible refine Kd.C_drewN ?_ _) | (with_reducible refine Kd.C_drew ?_))); (case side2 => exact HC225.out); (case side3 => repeat (first | exact (Kd.C_below HR226.out HB.out) | (with_reducible refine Kd.C_alloc ?_ _) | (with_reducible refine Kd.C_drewN ?_ _) | (with_reducible refine Kd.C_drew ?_))); (case side4 => exact HC226.out); rintro e w' ⟨rfl, ⟨nd, rfl⟩⟩; (try first | exact ⟨rfl, _, World.drewN_drewN _ _ _⟩ | exact ⟨rfl, _, Eq.trans (World.drewN_drewN _ _ _) (congrArg (World.drewN _) (Nat.add_assoc _ _ _))⟩))))
                                  go_ret
                                  exact ⟨by first | rfl | (simp [errW_none, errW_some] <;> rfl) | (simp [*, errW_none, errW_some] <;> rfl), by repeat (first | (with_reducible first | exact HB.out | apply below_alloc | apply pw_below_drewN | apply below_drew1 | refine below_set ?_ GE218.out | refine below_set ?_ GE223.out) | exact HB.out)⟩
                              · rw [if_neg c57] at H
                                exact absurd H (by simp)
                            · rw [if_neg c56] at H
                              exact absurd H (by simp)
                          · rw [if_neg c55] at H
                            exact absurd H (by simp)
                        · rw [if_neg c54] at H
                          exact absurd H (by simp)
                      · rw [if_neg c53] at H
                        exact absurd H (by simp)
                    · rw [if_neg c52] at H
                      exact absurd H (by simp)
                  · rw [if_neg c51] at H
                    have c51b0 : ((wrap64 (((rd_T44 l2 x13_1).f0) - x219000_1)) == (wrap64 (((rd_T44 l2 x13_1).f2) - x219002_1))) = false := beq_eq_false_iff_ne.mpr c51
                    have c51b1 : ((wrap64 (((rd_T44 l2 x13_1).f0) - x219000_1)) != (wrap64 (((rd_T44 l2 x13_1).f2) - x219002_1))) = true := bne_iff_ne.mpr c51
                    obtain rfl := Option.some.inj H
                    have hnb70 := NB223_218.out
                    have hnc70 := NB218_223.out
                    have hcz71_0 : wc.cell? ⟨gb223, 0, none⟩ = some (.int .i64 ((rd_T44 l2 x13_1).f0)) := (blk_cell BK223.out 0).trans rfl
                    have hcz71_1 : wc.cell? ⟨gb223, 1, none⟩ = some (.int .i64 ((rd_T44 l2 x13_1).f1)) := (blk_cell BK223.out 1).trans rfl
                    have hcz71_2 : wc.cell? ⟨gb223, 2, none⟩ = some (.int .i64 ((rd_T44 l2 x13_1).f2)) := (blk_cell BK223.out 2).trans rfl
                    have hcz71_3 : wc.cell? ⟨gb223, 3, none⟩ = some (.int .i64 ((rd_T44 l2 x13_1).f3)) := (blk_cell BK223.out 3).trans rfl
                    have hfz71_0 := blk_frozen BK223.out 0
                    have hfz71_1 := blk_frozen BK223.out 1
                    have hfz71_2 := blk_frozen BK223.out 2
                    have hfz71_3 := blk_frozen BK223.out 3
                    have hcz72_0 : wc.cell? ⟨gb218, 0, none⟩ = some (.int .i64 x219000_1) := (blk_cell BK218.out 0).trans rfl
                    have hcz72_1 : wc.cell? ⟨gb218, 1, none⟩ = some (.int .i64 x219001_1) := (blk_cell BK218.out 1).trans rfl
                    have hcz72_2 : wc.cell? ⟨gb218, 2, none⟩ = some (.int .i64 x219002_1) := (blk_cell BK218.out 2).trans rfl
                    have hcz72_3 : wc.cell? ⟨gb218, 3, none⟩ = some (.int .i64 x219003_1) := (blk_cell BK218.out 3).trans rfl
                    have hfz72_0 := blk_frozen BK218.out 0
                    have hfz72_1 := blk_frozen BK218.out 1
                    have hfz72_2 := blk_frozen BK218.out 2
                    have hfz72_3 := blk_frozen BK218.out 3
                    go_wp2
                    repeat (go_quiet (fail); try go_wp2)
                    go_ret
                    exact ⟨by first | rfl | (simp [errW_none, errW_some] <;> rfl) | (simp [*, errW_none, errW_some] <;> rfl), by repeat (first | (with_reducible first | exact HB.out | apply below_alloc | apply pw_below_drewN | apply below_drew1 | refine below_set ?_ GE218.out | refine below_set ?_ GE223.out) | exact HB.out)⟩
          · rw [if_neg c8] at H
            exact absurd H (by simp)
        · rw [if_neg c7] at H
          exact absurd H (by simp)
      · rw [if_neg c6] at H
        have c6b0 : decide (x13_1 < (l2.length : Int)) = false := decide_eq_false c6
        clear c6
        by_cases c73 : 0 ≤ x219000_1
        · rw [if_pos c73] at H
          have c73b0 := eq_true c73
          have c73b1 : decide (0 ≤ x219000_1) = true := decide_eq_true c73
          clear c73
          by_cases c74 : x219000_1 ≤ (l0.length : Int)
          · rw [if_pos c74] at H
            have c74b0 := eq_true c74
            have c74b1 : decide (x219000_1 ≤ (l0.length : Int)) = true := decide_eq_true c74
            clear c74
            by_cases c75 : 0 ≤ x219002_1
            · rw [if_pos c75] at H
              have c75b0 := eq_true c75
              have c75b1 : decide (0 ≤ x219002_1) = true := decide_eq_true c75
              clear c75
              by_cases c76 : x219002_1 ≤ (l1.length : Int)
              · rw [if_pos c76] at H
                have c76b0 := eq_true c76
                have c76b1 : decide (x219002_1 ≤ (l1.length : Int)) = true := decide_eq_true c76
                clear c76
                replace H := Option.bind_eq_some_iff.mp H
                obtain ⟨t221, A770, H⟩ := H
                replace H : (some t221) = some r := H
                have A77 := Aside0.mk A770
                clear A770
                obtain rfl := Option.some.inj H
                have hcz78_0 : wr.cell? ⟨gb218, 0, none⟩ = some (.int .i64 x219000_1) := (blk_cell BK218.out 0).trans rfl
                have hcz78_1 : wr.cell? ⟨gb218, 1, none⟩ = some (.int .i64 x219001_1) := (blk_cell BK218.out 1).trans rfl
                have hcz78_2 : wr.cell? ⟨gb218, 2, none⟩ = some (.int .i64 x219002_1) := (blk_cell BK218.out 2).trans rfl
                have hcz78_3 : wr.cell? ⟨gb218, 3, none⟩ = some (.int .i64 x219003_1) := (blk_cell BK218.out 3).trans rfl
                have hfz78_0 := blk_frozen BK218.out 0
                have hfz78_1 := blk_frozen BK218.out 1
                have hfz78_2 := blk_frozen BK218.out 2
                have hfz78_3 := blk_frozen BK218.out 3
                obtain ⟨i079, hi079, _, hsz79, _⟩ := info_parts info9
                obtain ⟨A79, hcut79, hA79, hC79⟩ := print_drop_of (P := Try.prog) Value.string (⟨#[]⟩ : ByteArray) 22 9 .i64 Try.underlying22 hi079 hsz79 A0 c0 l0 x219000_1 (of_decide_eq_true (by first | (with_reducible assumption) | assumption)) (of_decide_eq_true (by first | (with_reducible assumption) | assumption)) HC0.out
                have HR219 := Aside0.mk (Kd.C_of_reads (h1 := fun _ => rfl) (hA79 _ (Kd.reads_of_C HR0.out)))
                have HC219 := Aside0.mk hC79
                clear hA79 hC79 hi079 hsz79
                obtain ⟨i080, hi080, _, hsz80, _⟩ := info_parts info9
                obtain ⟨A80, hcut80, hA80, hC80⟩ := print_drop_of (P := Try.prog) Value.string (⟨#[]⟩ : ByteArray) 22 9 .i64 Try.underlying22 hi080 hsz80 A1 c1 l1 x219002_1 (of_decide_eq_true (by first | (with_reducible assumption) | assumption)) (of_decide_eq_true (by first | (with_reducible assumption) | assumption)) HC1.out
                have HR220 := Aside0.mk (Kd.C_of_reads (h1 := fun _ => rfl) (hA80 _ (Kd.reads_of_C HR1.out)))
                have HC220 := Aside0.mk hC80
                clear hA80 hC80 hi080 hsz80
                go_wp2_with (first | (go_at_call 21; (try rw [show l0.length - (x219000_1 : Int).toNat = (l0.drop (x219000_1 : Int).toNat).length from List.length_drop.symm]); (try rw [show l1.length - (x219002_1 : Int).toNat = (l1.drop (x219002_1 : Int).toNat).length from List.length_drop.symm]); (with_reducible refine (graftageref08_Same.calls k1 _ _ (l0.drop (x219000_1 : Int).toNat) _ _ (l1.drop (x219002_1 : Int).toNat) t221 _ ?side1 ?side2 ?side3 ?side4 A77.out).mono ?_); (case side1 => repeat (first | exact (Kd.C_below HR219.out HB.out) | (with_reducible refine Kd.C_alloc ?_ _) | (with_reducible refine Kd.C_drewN ?_ _) | (with_reducible refine Kd.C_drew ?_))); (case side2 => exact HC219.out); (case side3 => repeat (first | exact (Kd.C_below HR220.out HB.out) | (with_reducible refine Kd.C_alloc ?_ _) | (with_reducible refine Kd.C_drewN ?_ _) | (with_reducible refine Kd.C_drew ?_))); (case side4 => exact HC220.out); rintro e w' ⟨rfl, ⟨nd, rfl⟩⟩; (try first | exact ⟨rfl, _, World.drewN_drewN _ _ _⟩ | exact ⟨rfl, _, Eq.trans (World.drewN_drewN _ _ _) (congrArg (World.drewN _) (Nat.add_assoc _ _ _))⟩)))
                repeat (go_quiet (first | (go_at_call 21; (try rw [show l0.length - (x219000_1 : Int).toNat = (l0.drop (x219000_1 : Int).toNat).length from List.length_drop.symm]); (try rw [show l1.length - (x219002_1 : Int).toNat = (l1.drop (x219002_1 : Int).toNat).length from List.length_drop.symm]); (with_reducible refine (graftageref08_Same.calls k1 _ _ (l0.drop (x219000_1 : Int).toNat) _ _ (l1.drop (x219002_1 : Int).toNat) t221 _ ?side1 ?side2 ?side3 ?side4 A77.out).mono ?_); (case side1 => repeat (first | exact (Kd.C_below HR219.out HB.out) | (with_reducible refine Kd.C_alloc ?_ _) | (with_reducible refine Kd.C_drewN ?_ _) | (with_reducible refine Kd.C_drew ?_))); (case side2 => exact HC219.out); (case side3 => repeat (first | exact (Kd.C_below HR220.out HB.out) | (with_reducible refine Kd.C_alloc ?_ _) | (with_reducible refine Kd.C_drewN ?_ _) | (with_reducible refine Kd.C_drew ?_))); (case side4 => exact HC220.out); rintro e w' ⟨rfl, ⟨nd, rfl⟩⟩; (try first | exact ⟨rfl, _, World.drewN_drewN _ _ _⟩ | exact ⟨rfl, _, Eq.trans (World.drewN_drewN _ _ _) (congrArg (World.drewN _) (Nat.add_assoc _ _ _))⟩))); try go_wp2_with (first | (go_at_call 21; (try rw [show l0.length - (x219000_1 : Int).toNat = (l0.drop (x219000_1 : Int).toNat).length from List.length_drop.symm]); (try rw [show l1.length - (x219002_1 : Int).toNat = (l1.drop (x219002_1 : Int).toNat).length from List.length_drop.symm]); (with_reducible refine (graftageref08_Same.calls k1 _ _ (l0.drop (x219000_1 : Int).toNat) _ _ (l1.drop (x219002_1 : Int).toNat) t221 _ ?side1 ?side2 ?side3 ?side4 A77.out).mono ?_); (case side1 => repeat (first | exact (Kd.C_below HR219.out HB.out) | (with_reducible refine Kd.C_alloc ?_ _) | (with_reducible refine Kd.C_drewN ?_ _) | (with_reducible refine Kd.C_drew ?_))); (case side2 => exact HC219.out); (case side3 => repeat (first | exact (Kd.C_below HR220.out HB.out) | (with_reducible refine Kd.C_alloc ?_ _) | (with_reducible refine Kd.C_drewN ?_ _) | (with_reducible refine Kd.C_drew ?_))); (case side4 => exact HC220.out); rintro e w' ⟨rfl, ⟨nd, rfl⟩⟩; (try first | exact ⟨rfl, _, World.drewN_drewN _ _ _⟩ | exact ⟨rfl, _, Eq.trans (World.drewN_drewN _ _ _) (congrArg (World.drewN _) (Nat.add_assoc _ _ _))⟩))))
                go_ret
                exact ⟨by first | rfl | (simp [errW_none, errW_some] <;> rfl) | (simp [*, errW_none, errW_some] <;> rfl), by repeat (first | (with_reducible first | exact HB.out | apply below_alloc | apply pw_below_drewN | apply below_drew1 | refine below_set ?_ GE218.out) | exact HB.out)⟩
              · rw [if_neg c76] at H
                exact absurd H (by simp)
            · rw [if_neg c75] at H
              exact absurd H (by simp)
          · rw [if_neg c74] at H
            exact absurd H (by simp)
        · rw [if_neg c73] at H
          exact absurd H (by simp)

end Go.Proofs.Ytikepmdhnbnohaa.P
end
