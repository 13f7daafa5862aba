-- written by mp.py, a program of this session, over the kit's printer
import Derived.Test.YthphnacnjbcpiaaPx0
import Derived.Test.YthphnacnjbcpiaaPx1
import Derived.Maps.Own
import Derived.Maps.OwnOps
import Derived.Maps.Views
import Derived.StringKeys
namespace Go.Proofs.Ythphnacnjbcpiaa.P
open Go.RowKit Go.Proofs.YthphnacnjbcpiaaW.PrintWords Go.Proofs.YthphnacnjbcpiaaW.PrintLast Go.Proofs.YthphnacnjbcpiaaW.PrintMore
attribute [local go_sem] max2_int min2_int max_two min_two max_three min_three max_four min_four   -- for this text's walks alone
set_option linter.unusedVariables false
set_option linter.unusedSimpArgs false

/-! ### lines_Split: function 28 -/
def lines_Split.l0 : Nat → ByteArray → List ByteArray → Option (List ByteArray)
  | 0, _, _ => none
  | k + 1, x0, x3 => if x0.toList = ([] : List UInt8) then (some x3) else ((strings_Index.f x0 (⟨#[10]⟩ : ByteArray)).bind fun t110 => (if (wrap64 (t110 + 1)) = 0 then (if 0 ≤ (x0.size : Int) then (if (x0.size : Int) ≤ (x0.size : Int) then (if x3.length < 8796093022208 then (lines_Split.l0 k (x0.extract ((x0.size : Int) : Int).toNat x0.size) (x3 ++ [x0.extract 0 ((x0.size : Int) : Int).toNat])) else (none)) else (none)) else (none)) else (if 0 ≤ (wrap64 (t110 + 1)) then (if (wrap64 (t110 + 1)) ≤ (x0.size : Int) then (if x3.length < 8796093022208 then (lines_Split.l0 k (x0.extract ((wrap64 (t110 + 1)) : Int).toNat x0.size) (x3 ++ [x0.extract 0 ((wrap64 (t110 + 1)) : Int).toNat])) else (none)) else (none)) else (none))))
def lines_Split.f (k : Nat) (a0 : ByteArray) : Option (List ByteArray) := lines_Split.l0 k a0 ([] : List ByteArray)
theorem lines_Split.mono_l : ∀ k, (∀ y0 y1, LeO (lines_Split.l0 k y0 y1) (lines_Split.l0 (k + 1) y0 y1))
  | 0 => fun _ _ r h => by simp [lines_Split.l0] at h
  | k + 1 => by
    have ih0 := lines_Split.mono_l k
    · intro y0 y1
      unfold lines_Split.l0
      repeat' first
      | (with_reducible exact ih0 _ _)
      | (with_reducible exact LeO.refl _)
      | (with_reducible exact LeO.none _)
      | (with_reducible refine LeO.ite ?_ ?_)
      | (with_reducible refine LeO.bind ?_ (fun _ => ?_))
      | exact ih0 _ _
      | exact LeO.none _
      | refine LeO.ite ?_ ?_
      | refine LeO.bind ?_ (fun _ => ?_)
theorem lines_Split.mono : ∀ a0 k, LeO (lines_Split.f k a0) (lines_Split.f (k + 1) a0) := by
  intro a0 k
  have ih0 := lines_Split.mono_l k
  unfold lines_Split.f
  repeat' first
      | (with_reducible exact ih0 _ _)
      | (with_reducible exact LeO.refl _)
      | (with_reducible exact LeO.none _)
      | (with_reducible refine LeO.ite ?_ ?_)
      | (with_reducible refine LeO.bind ?_ (fun _ => ?_))
      | exact ih0 _ _
      | exact LeO.none _
      | refine LeO.ite ?_ ?_
      | refine LeO.bind ?_ (fun _ => ?_)
set_option maxHeartbeats 8000000 in
set_option maxRecDepth 100000 in
theorem lines_Split.calls (k : Nat) (a0 : ByteArray) (r : List ByteArray) (w : World) (h : lines_Split.f k a0 = some r) :
    Calls Try.prog 28 #[.string a0] w fun e w' => ∃ v0_ : Value, e = .returned (v0_) ∧ Kd.R Kd.string 9 w' w.heap.size (fun _ => True) v0_ r ∧ Below w.heap.size w w' := by
  have HB := Aside0.mk (Below.refl w.heap.size w)
  have H : (lines_Split.l0 k a0 ([] : List ByteArray)) = some r := h
  clear h
  have H' := Aside0.mk H
  clear H
  go_enter Try.func28, Try.ntmps28
  go_wp2
  go_loopg [0, 3] k (fun kq v0 v3 w' => ∃ (x0_1 : ByteArray) (x3_1 : List ByteArray), v0 = .string x0_1 ∧ Aside0 (lines_Split.l0 kq x0_1 x3_1 = some r) ∧ Aside0 (kq ≤ k) ∧ Aside0 (Kd.R Kd.string 9 w' w.heap.size (fun _ => True) v3 x3_1) ∧ Aside0 (Below w.heap.size w w'))
  case atStart => exact ⟨(a0), (([] : List ByteArray)), (by first | rfl | (simp; done) | (simp [*]; done)), H', ⟨Nat.le_refl _⟩, ⟨by first | exact Kd.R_nil _ _ _ _ _ | exact Kd.N_nil _ _ _ _ _ | exact Kd.V_nil _ _ _ _ _ | exact Kd.Q_nil _ _ _ _ _ | exact Kd.S_nil _ _ _ _ _⟩, ⟨by repeat (first | (with_reducible first | exact HB.out | apply below_alloc | apply pw_below_drewN | apply below_drew1) | exact HB.out)⟩⟩
  case round =>
    clear H'
    obtain ⟨x0_1, x3_1, rfl, HA, HK1, HO_3, HB⟩ := hrel
    cases gk with
    | zero => exact absurd HA.out (by simp [lines_Split.l0])
    | succ k1 =>
      have H := HA.out
      clear HA
      simp only [lines_Split.l0] at H
      by_cases c2 : x0_1.toList = ([] : List UInt8)
      · rw [if_pos c2] at H
        have c2b0 : (x0_1.toList == ([] : List UInt8)) = true := beq_iff_eq.mpr c2
        have c2b1 : (x0_1.toList != ([] : List UInt8)) = false := bne_eq_false_iff_eq.mpr c2
        clear c2
        obtain rfl := Option.some.inj H
        go_wp2
        go_ret
        exact ⟨_, by first | rfl | (simp [errW_none, errW_some] <;> rfl) | (simp [*, errW_none, errW_some] <;> rfl), by (with_reducible repeat (first | apply Kd.R_alloc | apply Kd.R_drewN | apply Kd.R_drew)); exact HO_3.out, by repeat (first | (with_reducible first | exact HB.out | apply below_alloc | apply pw_below_drewN | apply below_drew1) | exact HB.out)⟩
      · rw [if_neg c2] at H
        have c2b0 : (x0_1.toList == ([] : List UInt8)) = false := beq_eq_false_iff_ne.mpr c2
        have c2b1 : (x0_1.toList != ([] : List UInt8)) = true := bne_iff_ne.mpr c2
        replace H := Option.bind_eq_some_iff.mp H
        obtain ⟨t110, A30, H⟩ := H
        replace H : (if (wrap64 (t110 + 1)) = 0 then (if 0 ≤ (x0_1.size : Int) then (if (x0_1.size : Int) ≤ (x0_1.size : Int) then (if x3_1.length < 8796093022208 then (lines_Split.l0 k1 (x0_1.extract ((x0_1.size : Int) : Int).toNat x0_1.size) (x3_1 ++ [x0_1.extract 0 ((x0_1.size : Int) : Int).toNat])) else (none)) else (none)) else (none)) else (if 0 ≤ (wrap64 (t110 + 1)) then (if (wrap64 (t110 + 1)) ≤ (x0_1.size : Int) then (if x3_1.length < 8796093022208 then (lines_Split.l0 k1 (x0_1.extract ((wrap64 (t110 + 1)) : Int).toNat x0_1.size) (x3_1 ++ [x0_1.extract 0 ((wrap64 (t110 + 1)) : Int).toNat])) else (none)) else (none)) else (none))) = some r := H
        have A3 := Aside0.mk A30
        clear A30
        by_cases c4 : (wrap64 (t110 + 1)) = 0
        · rw [if_pos c4] at H
          have c4b0 : ((wrap64 (t110 + 1)) == 0) = true := beq_iff_eq.mpr c4
          have c4b1 : ((wrap64 (t110 + 1)) != 0) = false := bne_eq_false_iff_eq.mpr c4
          clear c4
          by_cases c5 : 0 ≤ (x0_1.size : Int)
          · rw [if_pos c5] at H
            have c5b0 := eq_true c5
            have c5b1 : decide (0 ≤ (x0_1.size : Int)) = true := decide_eq_true c5
            clear c5
            by_cases c6 : (x0_1.size : Int) ≤ (x0_1.size : Int)
            · rw [if_pos c6] at H
              have c6b0 := eq_true c6
              have c6b1 : decide ((x0_1.size : Int) ≤ (x0_1.size : Int)) = true := decide_eq_true c6
              clear c6
              by_cases c7 : x3_1.length < 8796093022208
              · rw [if_pos c7] at H
                have LMc7 := Aside0.mk c7
                clear c7
                have e_ : x0_1.extract 0 ((x0_1.size : Int) : Int).toNat = x0_1 := by rw [Int.toNat_natCast]; exact ByteArray.extract_zero_size
                simp only [e_] at H
                obtain ⟨y111, hy111⟩ : ∃ y_ : List ByteArray, y_ = (x3_1 ++ [x0_1]) := ⟨_, rfl⟩
                replace H : (lines_Split.l0 k1 (x0_1.extract ((x0_1.size : Int) : Int).toNat x0_1.size) y111) = some r := by first | (rw [hy111]; with_reducible exact H) | (have H2_ := (Option.bind_some _ _).symm.trans H; rw [hy111]; with_reducible exact H2_) | (have H2_ := (Option.bind_some _ _).symm.trans H; with_reducible exact H2_) | with_reducible exact H | (rw [hy111]; exact H) | exact H
                have Ny111 := Aside0.mk hy111
                clear hy111
                have c8b0 := eq_true (of_decide_eq_true (by first | (with_reducible assumption) | assumption) : 0 ≤ (x0_1.size : Int))
                have c9b0 := eq_true (of_decide_eq_true (by first | (with_reducible assumption) | assumption) : (x0_1.size : Int) ≤ (x0_1.size : Int))
                have H' := Aside0.mk H
                clear H
                go_wp2_with (first | ((with_reducible refine gate_callee (f := 30) rfl ?_); refine goesL_ (some 8) rfl rfl Try.func30 (by kernel_rfl) rfl #[.string x0_1, .string (⟨#[10]⟩ : ByteArray)] rfl (by (try simp only [List.map_toArray, List.map_cons, List.map_nil]); first | done | rfl | (simp only [List.length_drop, List.length_take]; rfl)) ?_; (with_reducible refine (strings_Index.calls x0_1 (⟨#[10]⟩ : ByteArray) t110 _ A3.out).mono ?_); rintro e w' ⟨rfl, ⟨nd, rfl⟩⟩; refine ⟨_, rfl, ?_⟩) | ((with_reducible refine gate_builtin (b := .append) (xs := #[.tmp 14, .tmp 18]) rfl ?_); at_builtin; refine Kd.R_append Kd.string (w0 := w) w.heap.size rfl (.tmp 14) (.tmp 18) 26 9 (.string ⟨#[]⟩) 16 rfl Try.underlying26 info9 rfl (by decide) (by omega) u3 x3_1 x0_1 [.string x0_1] (fun _ => True) (fun _ => False) rfl rfl ?aP (fun _ hk => hk.elim) ?aF ?aO ?aB ?aS ?aL ?_; (case aP => exact rfl); (case aB => exact (by repeat (first | (with_reducible first | exact HB.out | apply below_alloc | apply pw_below_drewN | apply below_drew1) | exact HB.out))); (case aF => exact (fun _ _ => trivial)); (case aO => exact (by (with_reducible repeat (first | apply Kd.R_alloc | apply Kd.R_drewN | apply Kd.R_drew)); exact HO_3.out)); (case aS => exact (below_size (by repeat (first | (with_reducible first | exact HB.out | apply below_alloc | apply pw_below_drewN | apply below_drew1) | exact HB.out)))); (case aL => have := LMc7.out; omega); intro v112 w10 ho hb hg hat; rw [← Ny111.out] at ho; have n0_ := Aside0.mk (hb); have n1_ := Aside0.mk (ho); clear HB; clear HO_3; have HB := n0_; have HO113 := n1_; clear n0_ n1_; clear ho hb hg hat))
                go_roundg k1
                case measure => have := HK1.out; omega
                case rel => exact ⟨(x0_1.extract ((x0_1.size : Int) : Int).toNat x0_1.size), (y111), (by first | rfl | (simp; done) | (simp [*]; done)), H', ⟨by have := HK1.out; omega⟩, ⟨by (with_reducible repeat (first | apply Kd.R_alloc | apply Kd.R_drewN | apply Kd.R_drew)); exact HO113.out⟩, ⟨by repeat (first | (with_reducible first | exact HB.out | apply below_alloc | apply pw_below_drewN | apply below_drew1) | exact HB.out)⟩⟩
              · rw [if_neg c7] at H
                exact absurd H (by simp)
            · rw [if_neg c6] at H
              exact absurd H (by simp)
          · rw [if_neg c5] at H
            exact absurd H (by simp)
        · rw [if_neg c4] at H
          have c4b0 : ((wrap64 (t110 + 1)) == 0) = false := beq_eq_false_iff_ne.mpr c4
          have c4b1 : ((wrap64 (t110 + 1)) != 0) = true := bne_iff_ne.mpr c4
          obtain ⟨ji11, hji11⟩ : ∃ j_ : Int, (wrap64 (t110 + 1)) = j_ := ⟨_, rfl⟩
          replace H : (if 0 ≤ (ji11) then (if (ji11) ≤ (x0_1.size : Int) then (if x3_1.length < 8796093022208 then (lines_Split.l0 k1 (x0_1.extract ((ji11) : Int).toNat x0_1.size) (x3_1 ++ [x0_1.extract 0 ((ji11) : Int).toNat])) else (none)) else (none)) else (none)) = some r := by first | (rw [hji11] at H; exact H) | (simp only [hji11] at H ⊢; exact H)
          (try rw [hji11] at c4b0)
          (try rw [hji11] at c4b1)
          (try rw [hji11] at A3)
          have hji11w : (IntKind.i64.wrap (t110 + 1)) = ji11 := (i64_w _).trans hji11
          by_cases c12 : 0 ≤ (ji11)
          · rw [if_pos c12] at H
            have c12b0 := eq_true c12
            have c12b1 : decide (0 ≤ (ji11)) = true := decide_eq_true c12
            clear c12
            by_cases c13 : (ji11) ≤ (x0_1.size : Int)
            · rw [if_pos c13] at H
              have c13b0 := eq_true c13
              have c13b1 : decide ((ji11) ≤ (x0_1.size : Int)) = true := decide_eq_true c13
              clear c13
              by_cases c14 : x3_1.length < 8796093022208
              · rw [if_pos c14] at H
                have LMc14 := Aside0.mk c14
                clear c14
                obtain ⟨y114, hy114⟩ : ∃ y_ : List ByteArray, y_ = (x3_1 ++ [x0_1.extract 0 ((ji11) : Int).toNat]) := ⟨_, rfl⟩
                replace H : (lines_Split.l0 k1 (x0_1.extract ((ji11) : Int).toNat x0_1.size) y114) = some r := by first | (rw [hy114]; with_reducible exact H) | (have H2_ := (Option.bind_some _ _).symm.trans H; rw [hy114]; with_reducible exact H2_) | (have H2_ := (Option.bind_some _ _).symm.trans H; with_reducible exact H2_) | with_reducible exact H | (rw [hy114]; exact H) | exact H
                have Ny114 := Aside0.mk hy114
                clear hy114
                have c15b0 := eq_true (of_decide_eq_true (by first | (with_reducible assumption) | assumption) : 0 ≤ (ji11))
                have c16b0 := eq_true (of_decide_eq_true (by first | (with_reducible assumption) | assumption) : (ji11) ≤ (x0_1.size : Int))
                have H' := Aside0.mk H
                clear H
                go_wp2_with (first | ((with_reducible refine gate_callee (f := 30) rfl ?_); refine goesL_ (some 8) rfl rfl Try.func30 (by kernel_rfl) rfl #[.string x0_1, .string (⟨#[10]⟩ : ByteArray)] rfl (by (try simp only [List.map_toArray, List.map_cons, List.map_nil]); first | done | rfl | (simp only [List.length_drop, List.length_take]; rfl)) ?_; (with_reducible refine (strings_Index.calls x0_1 (⟨#[10]⟩ : ByteArray) t110 _ A3.out).mono ?_); rintro e w' ⟨rfl, ⟨nd, rfl⟩⟩; refine ⟨_, rfl, ?_⟩) | ((with_reducible refine gate_builtin (b := .append) (xs := #[.tmp 14, .tmp 18]) rfl ?_); at_builtin; refine Kd.R_append Kd.string (w0 := w) w.heap.size rfl (.tmp 14) (.tmp 18) 26 9 (.string ⟨#[]⟩) 16 rfl Try.underlying26 info9 rfl (by decide) (by omega) u3 x3_1 (x0_1.extract 0 ((ji11) : Int).toNat) [.string (x0_1.extract 0 ((ji11) : Int).toNat)] (fun _ => True) (fun _ => False) rfl rfl ?aP (fun _ hk => hk.elim) ?aF ?aO ?aB ?aS ?aL ?_; (case aP => exact rfl); (case aB => exact (by repeat (first | (with_reducible first | exact HB.out | apply below_alloc | apply pw_below_drewN | apply below_drew1) | exact HB.out))); (case aF => exact (fun _ _ => trivial)); (case aO => exact (by (with_reducible repeat (first | apply Kd.R_alloc | apply Kd.R_drewN | apply Kd.R_drew)); exact HO_3.out)); (case aS => exact (below_size (by repeat (first | (with_reducible first | exact HB.out | apply below_alloc | apply pw_below_drewN | apply below_drew1) | exact HB.out)))); (case aL => have := LMc14.out; omega); intro v115 w17 ho hb hg hat; rw [← Ny114.out] at ho; have n0_ := Aside0.mk (hb); have n1_ := Aside0.mk (ho); clear HB; clear HO_3; have HB := n0_; have HO116 := n1_; clear n0_ n1_; clear ho hb hg hat))
                go_roundg k1
                case measure => have := HK1.out; omega
                case rel => exact ⟨(x0_1.extract ((ji11) : Int).toNat x0_1.size), (y114), (by first | rfl | (simp; done) | (simp only [← hji11] <;> (first | rfl | (simp; done) | (simp only [i64_w]; done) | (simp [i64_w]; done))) | (simp [*]; done)), H', ⟨by have := HK1.out; omega⟩, ⟨by (with_reducible repeat (first | apply Kd.R_alloc | apply Kd.R_drewN | apply Kd.R_drew)); exact HO116.out⟩, ⟨by repeat (first | (with_reducible first | exact HB.out | apply below_alloc | apply pw_below_drewN | apply below_drew1) | exact HB.out)⟩⟩
              · rw [if_neg c14] at H
                exact absurd H (by simp)
            · rw [if_neg c13] at H
              exact absurd H (by simp)
          · rw [if_neg c12] at H
            exact absurd H (by simp)

/-! ### simil_bag: function 23 -/
/-- How often a string stands in a list. -/
def simil_bag.times : List ByteArray → ByteArray → Nat
  | [], _ => 0
  | y :: l, x => simil_bag.times l x + (if y = x then 1 else 0)
theorem simil_bag.times_snoc (y x : ByteArray) : ∀ l, simil_bag.times (l ++ [y]) x = simil_bag.times l x + (if y = x then 1 else 0)
  | [] => by simp [simil_bag.times]
  | z :: l => by rw [List.cons_append, simil_bag.times, simil_bag.times, simil_bag.times_snoc y x l]; omega
theorem simil_bag.times_le (x : ByteArray) : ∀ l, simil_bag.times l x ≤ l.length
  | [] => by simp [simil_bag.times]
  | z :: l => by
    have := simil_bag.times_le x l
    rw [simil_bag.times, List.length_cons]
    split <;> omega
theorem simil_bag.law : Go.Maps.Keyed Try.prog 9 := Go.Maps.string_keyed Try.underlying9
theorem simil_bag.zeroE (w : World) : (zeroValue 3).run Try.prog w = .ok (.int .i64 0) w := by kernel_rfl
/-- Block b is a map that holds how often each string stands in the list. -/
def simil_bag.Bag (w : World) (b : Nat) (l : List ByteArray) : Prop :=
  ∃ D : DataW Unit, w.ownsMap Try.prog 9 (plainElem Try.prog 3) b l.length D ∧ ∀ x : ByteArray, D.atKey (.string x.data.toList) (.lit (.int .i64 0)) = .lit (.int .i64 (simil_bag.times l x : Nat))
theorem simil_bag.Bag.lt {w : World} {b : Nat} {l : List ByteArray} (h : simil_bag.Bag w b l) : b < w.heap.size := by
  obtain ⟨D, h, _⟩ := h
  exact h.lt
theorem simil_bag.Bag.same {w w' : World} {b : Nat} {l : List ByteArray} (h : simil_bag.Bag w b l) (hb : w'.heap[b]? = w.heap[b]?) : simil_bag.Bag w' b l := by
  obtain ⟨D, ⟨es, cl, h1, h2⟩, h3⟩ := h
  exact ⟨D, ⟨es, cl, hb.trans h1, h2⟩, h3⟩
theorem simil_bag.Bag.below {w w' : World} {b : Nat} {l : List ByteArray} (h : simil_bag.Bag w b l) (hb : Below w.heap.size w w') : simil_bag.Bag w' b l := h.same (hb.block b h.lt)
theorem simil_bag.Bag.grown {w w' : World} {b : Nat} {row : Option Nat} {l : List ByteArray} (h : simil_bag.Bag w b l) (hg : w.grownBy w' row) (hne : some b ≠ row) : simil_bag.Bag w' b l := h.same (hg.block b h.lt hne)
theorem simil_bag.Bag.made (w : World) : simil_bag.Bag (w.alloc (.map #[] 0)) w.heap.size [] := ⟨.map [], World.ownsMap_made w _ _ _, fun x => rfl⟩
/-- One string more. -/
theorem simil_bag.Bag.more {w' : World} {b : Nat} {l : List ByteArray} {s : ByteArray} {D : DataW Unit} (hD : ∀ x : ByteArray, D.atKey (.string x.data.toList) (.lit (.int .i64 0)) = .lit (.int .i64 (simil_bag.times l x : Nat)))
    (hm : Go.Maps.IsMap D) (h : w'.ownsMap Try.prog 9 (plainElem Try.prog 3) b (l.length + 1) (D.put (.string s.data.toList) (.lit (.int .i64 ((simil_bag.times l s : Nat) + 1))))) : simil_bag.Bag w' b (l ++ [s]) := by
  refine ⟨_, by rw [List.length_append]; exact h, fun x => ?_⟩
  rw [simil_bag.times_snoc]
  by_cases e : s = x
  · subst e
    rw [Go.Maps.atKey_put_same hm (by trivial), if_pos rfl]
    rfl
  · rw [Go.Maps.atKey_put_other (fun h2 => e ?_), hD, if_neg e, Nat.add_zero]
    have h3 := (Lit.string.inj h2).symm
    cases s
    cases x
    simp only at h3
    rw [Array.toList_inj.1 h3]
theorem simil_bag.isMap {w : World} {b n : Nat} {D : DataW Unit} (h : w.ownsMap Try.prog 9 (plainElem Try.prog 3) b n D) : Go.Maps.IsMap D := by
  obtain ⟨es, cl, h1, h2, h3, rfl⟩ := h
  exact ⟨_, rfl⟩
def simil_bag.fits (l : List ByteArray) : Bool := decide (l.length < 4611686018427387904) && l.all fun x => decide (x.size ≤ 9223372036854775807)
def simil_bag.f (k : Nat) (a0 : ByteArray) : Option (List ByteArray) := (lines_Split.f k a0).bind fun l => if simil_bag.fits l = true then some l else none
theorem simil_bag.mono : ∀ a0 k, LeO (simil_bag.f k a0) (simil_bag.f (k + 1) a0) := by
  intro a0 k
  unfold simil_bag.f
  exact LeO.bind (lines_Split.mono _ _) fun _ => LeO.refl _
set_option maxHeartbeats 2000000 in
set_option maxRecDepth 100000 in
theorem simil_bag.calls (k : Nat) (a0 : ByteArray) (r : List ByteArray) (w : World) (h : simil_bag.f k a0 = some r) :
    Calls Try.prog 23 #[.string a0] w fun e w' => ∃ b, e = .returned (.map (some b)) ∧ w.heap.size ≤ b ∧ simil_bag.Bag w' b r ∧ Below w.heap.size w w' := by
  unfold simil_bag.f at h
  obtain ⟨l, hl, h⟩ := Option.bind_eq_some_iff.1 h
  by_cases c : simil_bag.fits l = true
  case neg => rw [if_neg c] at h; cases h
  rw [if_pos c] at h
  obtain rfl := Option.some.inj h
  have hf := c
  unfold simil_bag.fits at hf
  rw [Bool.and_eq_true, decide_eq_true_iff, List.all_eq_true] at hf
  have hlen := Aside0.mk hf.1
  have hsz := Aside0.mk hf.2
  have HL := Aside0.mk hl
  clear h hl c hf
  have hmm := @run_makeMap Try.prog
  go_enter Try.func23, Try.ntmps23
  go_wp2_with (go_at_call 28; (with_reducible refine (lines_Split.calls k a0 l _ HL.out).mono ?_); rintro e w1 ⟨v, rfl, hR, hB1⟩; obtain ⟨A, cp, rfl⟩ := Kd.R_slice hR)
  have HR := Aside0.mk hR
  have HB1 := Aside0.mk hB1
  clear hR hB1
  have hsw : (w.alloc (.map #[] 0)).heap.size = w.heap.size + 1 := by simp
  rw [hsw] at HR HB1
  go_loopg [10] l.length (fun kq v10 w' => ∃ (x : Nat), v10 = .int .i64 x ∧ Aside0 (kq + x = l.length) ∧ Aside0 (simil_bag.Bag w' w.heap.size (l.take x)) ∧
    Aside0 (Kd.R Kd.string 9 w' (w.heap.size + 1) (fun _ => True) (.slice A l.length cp) l) ∧ Aside0 (Below w.heap.size w w'))
  case atStart => exact ⟨0, rfl, ⟨rfl⟩, ⟨(simil_bag.Bag.made w).below (by rw [hsw]; exact HB1.out)⟩, HR, ⟨below_weaken (below_alloc (Below.refl _ _) _) (by omega) HB1.out⟩⟩
  case round =>
    clear HR HB1
    obtain ⟨x, rfl, HK, HM, HR, HB⟩ := hrel
    by_cases hx : x < l.length
    · have hx1 : decide ((x : Int) < (l.length : Int)) = true := decide_eq_true (by omega)
      have hxn : (x : Int) < (l.length : Int) := by omega
      have hx0 : (0 : Int) ≤ (x : Int) := by omega
      obtain ⟨ad, rfl, hcx⟩ := Kd.at_string (Kd.R_reads' HR.out).2.2 (x : Int) hx0 hxn
      simp only [Int.toNat_natCast] at hcx
      have hq : rdOf ByteArray.empty l (x : Int) = l[x] := by unfold rdOf; rw [Int.toNat_natCast, List.getD_eq_getElem?_getD, List.getElem?_eq_getElem hx]; rfl
      obtain ⟨D, hown, hD⟩ := HM.out
      have hsl : l[x].size ≤ 9223372036854775807 := by have := hsz.out l[x] (List.getElem_mem hx); simpa using this
      rw [hq] at hcx
      have htake : l.take (x + 1) = l.take x ++ [l[x]] := by rw [List.take_add_one, List.getElem?_eq_getElem hx]; rfl
      have HT := Aside0.mk htake
      clear htake
      generalize l[x] = s at *
      have hkey : keyOf Try.prog 9 (.string s) = some (.string s.data.toList) := Go.WideMaps.keyOf_string_mk Try.underlying9 hsl
      go_wp2_with (first
        | (at_lookup; refine wpList_lookup_own_int _ rfl _ _ 35 rfl 9 3 .i64 simil_bag.law Try.underlying35 Try.underlying3 (simil_bag.zeroE _) w.heap.size _ _ rfl hown _ _ rfl hkey ?_; intro c hat hwc)
        | (at_mapUpdate; refine wpList_mapUpdate_own _ rfl _ _ _ 35 rfl 9 3 simil_bag.law Try.underlying35 _ w.heap.size _ _ rfl hown (by rw [List.length_take]; have := hlen.out; unfold maxLen; omega) _ _ _ rfl rfl hkey _ [] (plainElem_int Try.underlying3 (wrap64_wf _)) ?_; intro w2 hown2 hg2))
      obtain ⟨kq, rfl⟩ : ∃ kq, gk = kq + 1 := ⟨gk - 1, by have := HK.out; omega⟩
      have hct : c = (simil_bag.times (l.take x) s : Nat) := by have := hD s; rw [this] at hat; injection hat with hat; injection hat with _ hat; exact hat.symm
      have hle := simil_bag.times_le s (l.take x)
      have hlt : (l.take x).length ≤ x := by rw [List.length_take]; omega
      have hlx := hlen.out
      have hwc1 : wrap64 (c + 1) = (simil_bag.times (l.take x) s : Nat) + 1 := by unfold wrap64; omega
      go_roundg kq
      case measure => omega
      case rel =>
        refine ⟨x + 1, ?_, ⟨by have := HK.out; omega⟩, ⟨?_⟩, ⟨?_⟩, ⟨?_⟩⟩
        · rw [show wrap64 ((x : Int) + 1) = ((x + 1 : Nat) : Int) by unfold wrap64; omega]
        · rw [HT.out]
          refine simil_bag.Bag.more hD (simil_bag.isMap hown) ?_
          rw [hwc1] at hown2
          exact hown2.mono (by rw [List.length_take]; omega)
        · exact Kd.R_mono (Kd.R_grown (Kd.R_bound HR.out) hg2 (fun k hk e => by have := hk.2.1; injection e with e; omega)) (fun _ _ => trivial)
        · exact HB.out.grown hg2 (by have := HB.out.size; omega) (fun k e => by injection e with e; omega)
    · have hx1 : decide ((x : Int) < (l.length : Int)) = false := decide_eq_false (by omega)
      go_wp2
      go_ret
      exact ⟨_, rfl, Nat.le_refl _, by have := HM.out; rwa [List.take_of_length_le (by omega)] at this, HB.out⟩

end Go.Proofs.Ythphnacnjbcpiaa.P
