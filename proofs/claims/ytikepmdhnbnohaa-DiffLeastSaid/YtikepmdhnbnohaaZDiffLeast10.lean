-- put together by bundle.py, a program of this session, out of the texts named below
import Derived.Test.YtikepmdhnbnohaaZDiffLeast0
import Derived.Test.YtikepmdhnbnohaaZDiffLeast2
import Derived.Test.YtikepmdhnbnohaaZDiffLeast3
import Derived.Test.YtikepmdhnbnohaaZDiffLeast4
import Derived.Test.YtikepmdhnbnohaaZDiffLeast5
import Derived.Test.YtikepmdhnbnohaaZDiffLeast6
import Derived.Test.YtikepmdhnbnohaaZDiffLeast9
import Derived.ChangeArms
import Derived.SizedLaws
import Derived.DataReads
import Derived.WideShapes
import Derived.Deep.Slices
import Derived.KernelRfl
-- text YtikepmdhnbnohaaPx13
section
-- written by mp.py, a program of this session, over the kit's printer
namespace Go.Proofs.Ytikepmdhnbnohaa.P
open Go.RowKit Go.Proofs.YtikepmdhnbnohaaW.PrintWords Go.Proofs.YtikepmdhnbnohaaW.PrintLast Go.Proofs.YtikepmdhnbnohaaW.PrintMore
attribute [local go_sem] max2_int min2_int max_two min_two max_three min_three max_four min_four   -- for this text's walks alone
set_option linter.unusedVariables false
set_option linter.unusedSimpArgs false

/-! ### graftagelaw08_DiffLeast: function 3 -/
def graftagelaw08_DiffLeast.j0 : Nat → List ByteArray → List ByteArray → Bool → Option (Bool)
  | 0, _, _, _ => none
  | k + 1, x0, x1, x32 => if x32 = true then ((graftagelaw08_lives.f k).bind fun t220 => (some t220)) else ((diff_Least.f k x0 x1).bind fun t221 => ((graftageref08_Least.f k x0 x1).bind fun t224 => ((graftageref08_Edits.f k t221 t224).bind fun t227 => (if t227 = true then ((graftagelaw08_lives.f k).bind fun t228 => (some t228)) else (some false)))))
def graftagelaw08_DiffLeast.f (k : Nat) (l0 : List ByteArray) (l1 : List ByteArray) : Option (Bool) := (graftagelaw08_short.f k l0).bind fun t218 => (if t218 = true then ((graftagelaw08_short.f k l1).bind fun t219 => (if t219 = true then (if (l0.length : Int) > 5000 then (graftagelaw08_DiffLeast.j0 k l0 l1 true) else (graftagelaw08_DiffLeast.j0 k l0 l1 (decide ((l1.length : Int) > 5000)))) else (if (l0.length : Int) > 4096 then (if (l0.length : Int) > 5000 then (graftagelaw08_DiffLeast.j0 k l0 l1 true) else (graftagelaw08_DiffLeast.j0 k l0 l1 (decide ((l1.length : Int) > 5000)))) else (if ((l1.length : Int) > 4096) then (if (l0.length : Int) > 5000 then (graftagelaw08_DiffLeast.j0 k l0 l1 true) else (graftagelaw08_DiffLeast.j0 k l0 l1 (decide ((l1.length : Int) > 5000)))) else (graftagelaw08_DiffLeast.j0 k l0 l1 true))))) else (if (l0.length : Int) > 4096 then (if (l0.length : Int) > 5000 then (graftagelaw08_DiffLeast.j0 k l0 l1 true) else (graftagelaw08_DiffLeast.j0 k l0 l1 (decide ((l1.length : Int) > 5000)))) else (if ((l1.length : Int) > 4096) then (if (l0.length : Int) > 5000 then (graftagelaw08_DiffLeast.j0 k l0 l1 true) else (graftagelaw08_DiffLeast.j0 k l0 l1 (decide ((l1.length : Int) > 5000)))) else (graftagelaw08_DiffLeast.j0 k l0 l1 true))))
set_option maxHeartbeats 8000000 in
set_option maxRecDepth 100000 in
theorem graftagelaw08_DiffLeast.calls (k : Nat) (A0 : Option Addr) (c0 : Nat) (l0 : List ByteArray) (A1 : Option Addr) (c1 : Nat) (l1 : List ByteArray) (r : Bool) (w : World) (hr0 : Kd.C Kd.string w A0 l0.length l0) (hc0 : l0.length ≤ c0) (hr1 : Kd.C Kd.string w A1 l1.length l1) (hc1 : l1.length ≤ c1) (h : graftagelaw08_DiffLeast.f k l0 l1 = some r) :
    Calls Try.prog 3 #[.slice A0 l0.length c0, .slice A1 l1.length c1] w fun e w' => e = .returned (.bool r) ∧ Below w.heap.size w w' := by
  have HR0 := Aside0.mk hr0
  have HC0 := Aside0.mk hc0
  clear hr0 hc0
  have HR1 := Aside0.mk hr1
  have HC1 := Aside0.mk hc1
  clear hr1 hc1
  have HB := Aside0.mk (Below.refl w.heap.size w)
  have H : ((graftagelaw08_short.f k l0).bind fun t218 => (if t218 = true then ((graftagelaw08_short.f k l1).bind fun t219 => (if t219 = true then (if (l0.length : Int) > 5000 then (graftagelaw08_DiffLeast.j0 k l0 l1 true) else (graftagelaw08_DiffLeast.j0 k l0 l1 (decide ((l1.length : Int) > 5000)))) else (if (l0.length : Int) > 4096 then (if (l0.length : Int) > 5000 then (graftagelaw08_DiffLeast.j0 k l0 l1 true) else (graftagelaw08_DiffLeast.j0 k l0 l1 (decide ((l1.length : Int) > 5000)))) else (if ((l1.length : Int) > 4096) then (if (l0.length : Int) > 5000 then (graftagelaw08_DiffLeast.j0 k l0 l1 true) else (graftagelaw08_DiffLeast.j0 k l0 l1 (decide ((l1.length : Int) > 5000)))) else (graftagelaw08_DiffLeast.j0 k l0 l1 true))))) else (if (l0.length : Int) > 4096 then (if (l0.length : Int) > 5000 then (graftagelaw08_DiffLeast.j0 k l0 l1 true) else (graftagelaw08_DiffLeast.j0 k l0 l1 (decide ((l1.length : Int) > 5000)))) else (if ((l1.length : Int) > 4096) then (if (l0.length : Int) > 5000 then (graftagelaw08_DiffLeast.j0 k l0 l1 true) else (graftagelaw08_DiffLeast.j0 k l0 l1 (decide ((l1.length : Int) > 5000)))) else (graftagelaw08_DiffLeast.j0 k l0 l1 true))))) = some r := h
  clear h
  have HC3 := Aside0.mk H
  clear H
  go_enter Try.func3, Try.ntmps3
  go_upto_region 1 with (fail)
  go_cut [32] (fun v32 wc => ∃ (kq : Nat) (x32_2 : Bool), v32 = .bool x32_2 ∧ Aside0 (graftagelaw08_DiffLeast.j0 kq l0 l1 x32_2 = some r) ∧ Aside0 (kq ≤ k) ∧ Aside0 (Below w.heap.size w wc))
  case first =>
    have H := HC3.out
    clear HC3
    replace H := Option.bind_eq_some_iff.mp H
    obtain ⟨t218, A40, H⟩ := H
    replace H : (if t218 = true then ((graftagelaw08_short.f k l1).bind fun t219 => (if t219 = true then (if (l0.length : Int) > 5000 then (graftagelaw08_DiffLeast.j0 k l0 l1 true) else (graftagelaw08_DiffLeast.j0 k l0 l1 (decide ((l1.length : Int) > 5000)))) else (if (l0.length : Int) > 4096 then (if (l0.length : Int) > 5000 then (graftagelaw08_DiffLeast.j0 k l0 l1 true) else (graftagelaw08_DiffLeast.j0 k l0 l1 (decide ((l1.length : Int) > 5000)))) else (if ((l1.length : Int) > 4096) then (if (l0.length : Int) > 5000 then (graftagelaw08_DiffLeast.j0 k l0 l1 true) else (graftagelaw08_DiffLeast.j0 k l0 l1 (decide ((l1.length : Int) > 5000)))) else (graftagelaw08_DiffLeast.j0 k l0 l1 true))))) else (if (l0.length : Int) > 4096 then (if (l0.length : Int) > 5000 then (graftagelaw08_DiffLeast.j0 k l0 l1 true) else (graftagelaw08_DiffLeast.j0 k l0 l1 (decide ((l1.length : Int) > 5000)))) else (if ((l1.length : Int) > 4096) then (if (l0.length : Int) > 5000 then (graftagelaw08_DiffLeast.j0 k l0 l1 true) else (graftagelaw08_DiffLeast.j0 k l0 l1 (decide ((l1.length : Int) > 5000)))) else (graftagelaw08_DiffLeast.j0 k l0 l1 true)))) = some r := H
    have A4 := Aside0.mk A40
    clear A40
    by_cases c5 : t218 = true
    · subst c5
      have H1 : ((graftagelaw08_short.f k l1).bind fun t219 => (if t219 = true then (if (l0.length : Int) > 5000 then (graftagelaw08_DiffLeast.j0 k l0 l1 true) else (graftagelaw08_DiffLeast.j0 k l0 l1 (decide ((l1.length : Int) > 5000)))) else (if (l0.length : Int) > 4096 then (if (l0.length : Int) > 5000 then (graftagelaw08_DiffLeast.j0 k l0 l1 true) else (graftagelaw08_DiffLeast.j0 k l0 l1 (decide ((l1.length : Int) > 5000)))) else (if ((l1.length : Int) > 4096) then (if (l0.length : Int) > 5000 then (graftagelaw08_DiffLeast.j0 k l0 l1 true) else (graftagelaw08_DiffLeast.j0 k l0 l1 (decide ((l1.length : Int) > 5000)))) else (graftagelaw08_DiffLeast.j0 k l0 l1 true))))) = some r := by rw [if_pos rfl] at H; exact H
      clear H
      have H := H1
      clear H1
      replace H := Option.bind_eq_some_iff.mp H
      obtain ⟨t219, A60, H⟩ := H
      replace H : (if t219 = true then (if (l0.length : Int) > 5000 then (graftagelaw08_DiffLeast.j0 k l0 l1 true) else (graftagelaw08_DiffLeast.j0 k l0 l1 (decide ((l1.length : Int) > 5000)))) else (if (l0.length : Int) > 4096 then (if (l0.length : Int) > 5000 then (graftagelaw08_DiffLeast.j0 k l0 l1 true) else (graftagelaw08_DiffLeast.j0 k l0 l1 (decide ((l1.length : Int) > 5000)))) else (if ((l1.length : Int) > 4096) then (if (l0.length : Int) > 5000 then (graftagelaw08_DiffLeast.j0 k l0 l1 true) else (graftagelaw08_DiffLeast.j0 k l0 l1 (decide ((l1.length : Int) > 5000)))) else (graftagelaw08_DiffLeast.j0 k l0 l1 true)))) = some r := H
      have A6 := Aside0.mk A60
      clear A60
      by_cases c7 : t219 = true
      · subst c7
        have H1 : (if (l0.length : Int) > 5000 then (graftagelaw08_DiffLeast.j0 k l0 l1 true) else (graftagelaw08_DiffLeast.j0 k l0 l1 (decide ((l1.length : Int) > 5000)))) = some r := by rw [if_pos rfl] at H; exact H
        clear H
        have H := H1
        clear H1
        by_cases c8 : (l0.length : Int) > 5000
        · rw [if_pos c8] at H
          have c8b0 : decide (5000 < (l0.length : Int)) = true := decide_eq_true c8
          have c8b1 : decide (5000 < l0.length) = true := decide_eq_true (by omega)
          clear c8
          (first | rw [c8b0] | (simp only [i64_w, i32_w]; rw [c8b0]) | skip)
          have H' := Aside0.mk H
          clear H
          go_wp2_with (first | ((with_reducible refine gate_callee (f := 9) rfl ?_); refine goesL_ (some 6) rfl rfl Try.func9 (by kernel_rfl) rfl #[.slice A0 l0.length c0] rfl (by (try simp only [List.map_toArray, List.map_cons, List.map_nil]); first | done | rfl | (simp only [List.length_drop, List.length_take]; rfl)) ?_; (with_reducible refine (graftagelaw08_short.calls k _ _ l0 true _ ?side1 ?side2 A4.out).mono ?_); (case side1 => repeat (first | exact (Kd.C_below HR0.out HB.out) | (with_reducible refine Kd.C_alloc ?_ _) | (with_reducible refine Kd.C_drewN ?_ _) | (with_reducible refine Kd.C_drew ?_))); (case side2 => exact HC0.out); rintro e w' ⟨rfl, ⟨nd, rfl⟩⟩; refine ⟨_, rfl, ?_⟩) | (go_at_call 9; (with_reducible refine (graftagelaw08_short.calls k _ _ l1 true _ ?side1 ?side2 A6.out).mono ?_); (case side1 => repeat (first | exact (Kd.C_below HR1.out (by repeat (first | (with_reducible first | exact HB.out | apply below_alloc | apply pw_below_drewN | apply below_drew1) | exact HB.out))) | (with_reducible refine Kd.C_alloc ?_ _) | (with_reducible refine Kd.C_drewN ?_ _) | (with_reducible refine Kd.C_drew ?_))); (case side2 => exact HC1.out); rintro e w' ⟨rfl, ⟨nd, rfl⟩⟩))
          go_meet
          case rel => exact ⟨_, (true), (by first | rfl | (simp; done) | (simp [*]; done)), H', ⟨by first | omega | exact Nat.le_refl _⟩, ⟨by repeat (first | (with_reducible first | exact HB.out | apply below_alloc | apply pw_below_drewN | apply below_drew1) | exact HB.out)⟩⟩
        · rw [if_neg c8] at H
          have c8b0 : decide (5000 < (l0.length : Int)) = false := decide_eq_false c8
          have c8b1 : decide (5000 < l0.length) = false := decide_eq_false (by omega)
          clear c8
          (first | rw [c8b0] | (simp only [i64_w, i32_w]; rw [c8b0]) | skip)
          have H' := Aside0.mk H
          clear H
          go_wp2_with (first | ((with_reducible refine gate_callee (f := 9) rfl ?_); refine goesL_ (some 6) rfl rfl Try.func9 (by kernel_rfl) rfl #[.slice A0 l0.length c0] rfl (by (try simp only [List.map_toArray, List.map_cons, List.map_nil]); first | done | rfl | (simp only [List.length_drop, List.length_take]; rfl)) ?_; (with_reducible refine (graftagelaw08_short.calls k _ _ l0 true _ ?side1 ?side2 A4.out).mono ?_); (case side1 => repeat (first | exact (Kd.C_below HR0.out HB.out) | (with_reducible refine Kd.C_alloc ?_ _) | (with_reducible refine Kd.C_drewN ?_ _) | (with_reducible refine Kd.C_drew ?_))); (case side2 => exact HC0.out); rintro e w' ⟨rfl, ⟨nd, rfl⟩⟩; refine ⟨_, rfl, ?_⟩) | (go_at_call 9; (with_reducible refine (graftagelaw08_short.calls k _ _ l1 true _ ?side1 ?side2 A6.out).mono ?_); (case side1 => repeat (first | exact (Kd.C_below HR1.out (by repeat (first | (with_reducible first | exact HB.out | apply below_alloc | apply pw_below_drewN | apply below_drew1) | exact HB.out))) | (with_reducible refine Kd.C_alloc ?_ _) | (with_reducible refine Kd.C_drewN ?_ _) | (with_reducible refine Kd.C_drew ?_))); (case side2 => exact HC1.out); rintro e w' ⟨rfl, ⟨nd, rfl⟩⟩))
          go_meet
          case rel => exact ⟨_, (decide ((l1.length : Int) > 5000)), (by first | rfl | (simp; done) | (simp [*]; done)), H', ⟨by first | omega | exact Nat.le_refl _⟩, ⟨by repeat (first | (with_reducible first | exact HB.out | apply below_alloc | apply pw_below_drewN | apply below_drew1) | exact HB.out)⟩⟩
      · replace c7 := Bool.eq_false_iff.mpr c7
        subst c7
        have H1 : (if (l0.length : Int) > 4096 then (if (l0.length : Int) > 5000 then (graftagelaw08_DiffLeast.j0 k l0 l1 true) else (graftagelaw08_DiffLeast.j0 k l0 l1 (decide ((l1.length : Int) > 5000)))) else (if ((l1.length : Int) > 4096) then (if (l0.length : Int) > 5000 then (graftagelaw08_DiffLeast.j0 k l0 l1 true) else (graftagelaw08_DiffLeast.j0 k l0 l1 (decide ((l1.length : Int) > 5000)))) else (graftagelaw08_DiffLeast.j0 k l0 l1 true))) = some r := by rw [if_neg (show ¬ (false = true) by decide)] at H; exact H
        clear H
        have H := H1
        clear H1
        by_cases c9 : (l0.length : Int) > 4096
        · rw [if_pos c9] at H
          have c9b0 : decide (4096 < (l0.length : Int)) = true := decide_eq_true c9
          have c9b1 : decide (4096 < l0.length) = true := decide_eq_true (by omega)
          clear c9
          by_cases c10 : (l0.length : Int) > 5000
          · rw [if_pos c10] at H
            have c10b0 : decide (5000 < (l0.length : Int)) = true := decide_eq_true c10
            have c10b1 : decide (5000 < l0.length) = true := decide_eq_true (by omega)
            clear c10
            have H' := Aside0.mk H
            clear H
            go_wp2_with (first | ((with_reducible refine gate_callee (f := 9) rfl ?_); refine goesL_ (some 6) rfl rfl Try.func9 (by kernel_rfl) rfl #[.slice A0 l0.length c0] rfl (by (try simp only [List.map_toArray, List.map_cons, List.map_nil]); first | done | rfl | (simp only [List.length_drop, List.length_take]; rfl)) ?_; (with_reducible refine (graftagelaw08_short.calls k _ _ l0 true _ ?side1 ?side2 A4.out).mono ?_); (case side1 => repeat (first | exact (Kd.C_below HR0.out HB.out) | (with_reducible refine Kd.C_alloc ?_ _) | (with_reducible refine Kd.C_drewN ?_ _) | (with_reducible refine Kd.C_drew ?_))); (case side2 => exact HC0.out); rintro e w' ⟨rfl, ⟨nd, rfl⟩⟩; refine ⟨_, rfl, ?_⟩) | (go_at_call 9; (with_reducible refine (graftagelaw08_short.calls k _ _ l1 false _ ?side1 ?side2 A6.out).mono ?_); (case side1 => repeat (first | exact (Kd.C_below HR1.out (by repeat (first | (with_reducible first | exact HB.out | apply below_alloc | apply pw_below_drewN | apply below_drew1) | exact HB.out))) | (with_reducible refine Kd.C_alloc ?_ _) | (with_reducible refine Kd.C_drewN ?_ _) | (with_reducible refine Kd.C_drew ?_))); (case side2 => exact HC1.out); rintro e w' ⟨rfl, ⟨nd, rfl⟩⟩))
            go_meet
            case rel => exact ⟨_, (true), (by first | rfl | (simp; done) | (simp [*]; done)), H', ⟨by first | omega | exact Nat.le_refl _⟩, ⟨by repeat (first | (with_reducible first | exact HB.out | apply below_alloc | apply pw_below_drewN | apply below_drew1) | exact HB.out)⟩⟩
          · rw [if_neg c10] at H
            have c10b0 : decide (5000 < (l0.length : Int)) = false := decide_eq_false c10
            have c10b1 : decide (5000 < l0.length) = false := decide_eq_false (by omega)
            clear c10
            have H' := Aside0.mk H
            clear H
            go_wp2_with (first | ((with_reducible refine gate_callee (f := 9) rfl ?_); refine goesL_ (some 6) rfl rfl Try.func9 (by kernel_rfl) rfl #[.slice A0 l0.length c0] rfl (by (try simp only [List.map_toArray, List.map_cons, List.map_nil]); first | done | rfl | (simp only [List.length_drop, List.length_take]; rfl)) ?_; (with_reducible refine (graftagelaw08_short.calls k _ _ l0 true _ ?side1 ?side2 A4.out).mono ?_); (case side1 => repeat (first | exact (Kd.C_below HR0.out HB.out) | (with_reducible refine Kd.C_alloc ?_ _) | (with_reducible refine Kd.C_drewN ?_ _) | (with_reducible refine Kd.C_drew ?_))); (case side2 => exact HC0.out); rintro e w' ⟨rfl, ⟨nd, rfl⟩⟩; refine ⟨_, rfl, ?_⟩) | (go_at_call 9; (with_reducible refine (graftagelaw08_short.calls k _ _ l1 false _ ?side1 ?side2 A6.out).mono ?_); (case side1 => repeat (first | exact (Kd.C_below HR1.out (by repeat (first | (with_reducible first | exact HB.out | apply below_alloc | apply pw_below_drewN | apply below_drew1) | exact HB.out))) | (with_reducible refine Kd.C_alloc ?_ _) | (with_reducible refine Kd.C_drewN ?_ _) | (with_reducible refine Kd.C_drew ?_))); (case side2 => exact HC1.out); rintro e w' ⟨rfl, ⟨nd, rfl⟩⟩))
            go_meet
            case rel => exact ⟨_, (decide ((l1.length : Int) > 5000)), (by first | rfl | (simp; done) | (simp [*]; done)), H', ⟨by first | omega | exact Nat.le_refl _⟩, ⟨by repeat (first | (with_reducible first | exact HB.out | apply below_alloc | apply pw_below_drewN | apply below_drew1) | exact HB.out)⟩⟩
        · rw [if_neg c9] at H
          have c9b0 : decide (4096 < (l0.length : Int)) = false := decide_eq_false c9
          have c9b1 : decide (4096 < l0.length) = false := decide_eq_false (by omega)
          clear c9
          by_cases c11 : ((l1.length : Int) > 4096)
          · rw [if_pos c11] at H
            have c11b0 : decide (4096 < (l1.length : Int)) = true := decide_eq_true c11
            have c11b1 : decide (4096 < l1.length) = true := decide_eq_true (by omega)
            clear c11
            by_cases c12 : (l0.length : Int) > 5000
            · rw [if_pos c12] at H
              have c12b0 : decide (5000 < (l0.length : Int)) = true := decide_eq_true c12
              have c12b1 : decide (5000 < l0.length) = true := decide_eq_true (by omega)
              clear c12
              have H' := Aside0.mk H
              clear H
              go_wp2_with (first | ((with_reducible refine gate_callee (f := 9) rfl ?_); refine goesL_ (some 6) rfl rfl Try.func9 (by kernel_rfl) rfl #[.slice A0 l0.length c0] rfl (by (try simp only [List.map_toArray, List.map_cons, List.map_nil]); first | done | rfl | (simp only [List.length_drop, List.length_take]; rfl)) ?_; (with_reducible refine (graftagelaw08_short.calls k _ _ l0 true _ ?side1 ?side2 A4.out).mono ?_); (case side1 => repeat (first | exact (Kd.C_below HR0.out HB.out) | (with_reducible refine Kd.C_alloc ?_ _) | (with_reducible refine Kd.C_drewN ?_ _) | (with_reducible refine Kd.C_drew ?_))); (case side2 => exact HC0.out); rintro e w' ⟨rfl, ⟨nd, rfl⟩⟩; refine ⟨_, rfl, ?_⟩) | (go_at_call 9; (with_reducible refine (graftagelaw08_short.calls k _ _ l1 false _ ?side1 ?side2 A6.out).mono ?_); (case side1 => repeat (first | exact (Kd.C_below HR1.out (by repeat (first | (with_reducible first | exact HB.out | apply below_alloc | apply pw_below_drewN | apply below_drew1) | exact HB.out))) | (with_reducible refine Kd.C_alloc ?_ _) | (with_reducible refine Kd.C_drewN ?_ _) | (with_reducible refine Kd.C_drew ?_))); (case side2 => exact HC1.out); rintro e w' ⟨rfl, ⟨nd, rfl⟩⟩))
              go_meet
              case rel => exact ⟨_, (true), (by first | rfl | (simp; done) | (simp [*]; done)), H', ⟨by first | omega | exact Nat.le_refl _⟩, ⟨by repeat (first | (with_reducible first | exact HB.out | apply below_alloc | apply pw_below_drewN | apply below_drew1) | exact HB.out)⟩⟩
            · rw [if_neg c12] at H
              have c12b0 : decide (5000 < (l0.length : Int)) = false := decide_eq_false c12
              have c12b1 : decide (5000 < l0.length) = false := decide_eq_false (by omega)
              clear c12
              have H' := Aside0.mk H
              clear H
              go_wp2_with (first | ((with_reducible refine gate_callee (f := 9) rfl ?_); refine goesL_ (some 6) rfl rfl Try.func9 (by kernel_rfl) rfl #[.slice A0 l0.length c0] rfl (by (try simp only [List.map_toArray, List.map_cons, List.map_nil]); first | done | rfl | (simp only [List.length_drop, List.length_take]; rfl)) ?_; (with_reducible refine (graftagelaw08_short.calls k _ _ l0 true _ ?side1 ?side2 A4.out).mono ?_); (case side1 => repeat (first | exact (Kd.C_below HR0.out HB.out) | (with_reducible refine Kd.C_alloc ?_ _) | (with_reducible refine Kd.C_drewN ?_ _) | (with_reducible refine Kd.C_drew ?_))); (case side2 => exact HC0.out); rintro e w' ⟨rfl, ⟨nd, rfl⟩⟩; refine ⟨_, rfl, ?_⟩) | (go_at_call 9; (with_reducible refine (graftagelaw08_short.calls k _ _ l1 false _ ?side1 ?side2 A6.out).mono ?_); (case side1 => repeat (first | exact (Kd.C_below HR1.out (by repeat (first | (with_reducible first | exact HB.out | apply below_alloc | apply pw_below_drewN | apply below_drew1) | exact HB.out))) | (with_reducible refine Kd.C_alloc ?_ _) | (with_reducible refine Kd.C_drewN ?_ _) | (with_reducible refine Kd.C_drew ?_))); (case side2 => exact HC1.out); rintro e w' ⟨rfl, ⟨nd, rfl⟩⟩))
              go_meet
              case rel => exact ⟨_, (decide ((l1.length : Int) > 5000)), (by first | rfl | (simp; done) | (simp [*]; done)), H', ⟨by first | omega | exact Nat.le_refl _⟩, ⟨by repeat (first | (with_reducible first | exact HB.out | apply below_alloc | apply pw_below_drewN | apply below_drew1) | exact HB.out)⟩⟩
          · rw [if_neg c11] at H
            have c11b0 : decide (4096 < (l1.length : Int)) = false := decide_eq_false c11
            have c11b1 : decide (4096 < l1.length) = false := decide_eq_false (by omega)
            clear c11
            have H' := Aside0.mk H
            clear H
            go_wp2_with (first | ((with_reducible refine gate_callee (f := 9) rfl ?_); refine goesL_ (some 6) rfl rfl Try.func9 (by kernel_rfl) rfl #[.slice A0 l0.length c0] rfl (by (try simp only [List.map_toArray, List.map_cons, List.map_nil]); first | done | rfl | (simp only [List.length_drop, List.length_take]; rfl)) ?_; (with_reducible refine (graftagelaw08_short.calls k _ _ l0 true _ ?side1 ?side2 A4.out).mono ?_); (case side1 => repeat (first | exact (Kd.C_below HR0.out HB.out) | (with_reducible refine Kd.C_alloc ?_ _) | (with_reducible refine Kd.C_drewN ?_ _) | (with_reducible refine Kd.C_drew ?_))); (case side2 => exact HC0.out); rintro e w' ⟨rfl, ⟨nd, rfl⟩⟩; refine ⟨_, rfl, ?_⟩) | (go_at_call 9; (with_reducible refine (graftagelaw08_short.calls k _ _ l1 false _ ?side1 ?side2 A6.out).mono ?_); (case side1 => repeat (first | exact (Kd.C_below HR1.out (by repeat (first | (with_reducible first | exact HB.out | apply below_alloc | apply pw_below_drewN | apply below_drew1) | exact HB.out))) | (with_reducible refine Kd.C_alloc ?_ _) | (with_reducible refine Kd.C_drewN ?_ _) | (with_reducible refine Kd.C_drew ?_))); (case side2 => exact HC1.out); rintro e w' ⟨rfl, ⟨nd, rfl⟩⟩))
            go_meet
            case rel => exact ⟨_, (true), (by first | rfl | (simp; done) | (simp [*]; done)), H', ⟨by first | omega | exact Nat.le_refl _⟩, ⟨by repeat (first | (with_reducible first | exact HB.out | apply below_alloc | apply pw_below_drewN | apply below_drew1) | exact HB.out)⟩⟩
    · replace c5 := Bool.eq_false_iff.mpr c5
      subst c5
      have H1 : (if (l0.length : Int) > 4096 then (if (l0.length : Int) > 5000 then (graftagelaw08_DiffLeast.j0 k l0 l1 true) else (graftagelaw08_DiffLeast.j0 k l0 l1 (decide ((l1.length : Int) > 5000)))) else (if ((l1.length : Int) > 4096) then (if (l0.length : Int) > 5000 then (graftagelaw08_DiffLeast.j0 k l0 l1 true) else (graftagelaw08_DiffLeast.j0 k l0 l1 (decide ((l1.length : Int) > 5000)))) else (graftagelaw08_DiffLeast.j0 k l0 l1 true))) = some r := by rw [if_neg (show ¬ (false = true) by decide)] at H; exact H
      clear H
      have H := H1
      clear H1
      by_cases c13 : (l0.length : Int) > 4096
      · rw [if_pos c13] at H
        have c13b0 : decide (4096 < (l0.length : Int)) = true := decide_eq_true c13
        have c13b1 : decide (4096 < l0.length) = true := decide_eq_true (by omega)
        clear c13
        by_cases c14 : (l0.length : Int) > 5000
        · rw [if_pos c14] at H
          have c14b0 : decide (5000 < (l0.length : Int)) = true := decide_eq_true c14
          have c14b1 : decide (5000 < l0.length) = true := decide_eq_true (by omega)
          clear c14
          have H' := Aside0.mk H
          clear H
          go_wp2_with (first | ((with_reducible refine gate_callee (f := 9) rfl ?_); refine goesL_ (some 6) rfl rfl Try.func9 (by kernel_rfl) rfl #[.slice A0 l0.length c0] rfl (by (try simp only [List.map_toArray, List.map_cons, List.map_nil]); first | done | rfl | (simp only [List.length_drop, List.length_take]; rfl)) ?_; (with_reducible refine (graftagelaw08_short.calls k _ _ l0 false _ ?side1 ?side2 A4.out).mono ?_); (case side1 => repeat (first | exact (Kd.C_below HR0.out HB.out) | (with_reducible refine Kd.C_alloc ?_ _) | (with_reducible refine Kd.C_drewN ?_ _) | (with_reducible refine Kd.C_drew ?_))); (case side2 => exact HC0.out); rintro e w' ⟨rfl, ⟨nd, rfl⟩⟩; refine ⟨_, rfl, ?_⟩))
          go_meet
          case rel => exact ⟨_, (true), (by first | rfl | (simp; done) | (simp [*]; done)), H', ⟨by first | omega | exact Nat.le_refl _⟩, ⟨by repeat (first | (with_reducible first | exact HB.out | apply below_alloc | apply pw_below_drewN | apply below_drew1) | exact HB.out)⟩⟩
        · rw [if_neg c14] at H
          have c14b0 : decide (5000 < (l0.length : Int)) = false := decide_eq_false c14
          have c14b1 : decide (5000 < l0.length) = false := decide_eq_false (by omega)
          clear c14
          have H' := Aside0.mk H
          clear H
          go_wp2_with (first | ((with_reducible refine gate_callee (f := 9) rfl ?_); refine goesL_ (some 6) rfl rfl Try.func9 (by kernel_rfl) rfl #[.slice A0 l0.length c0] rfl (by (try simp only [List.map_toArray, List.map_cons, List.map_nil]); first | done | rfl | (simp only [List.length_drop, List.length_take]; rfl)) ?_; (with_reducible refine (graftagelaw08_short.calls k _ _ l0 false _ ?side1 ?side2 A4.out).mono ?_); (case side1 => repeat (first | exact (Kd.C_below HR0.out HB.out) | (with_reducible refine Kd.C_alloc ?_ _) | (with_reducible refine Kd.C_drewN ?_ _) | (with_reducible refine Kd.C_drew ?_))); (case side2 => exact HC0.out); rintro e w' ⟨rfl, ⟨nd, rfl⟩⟩; refine ⟨_, rfl, ?_⟩))
          go_meet
          case rel => exact ⟨_, (decide ((l1.length : Int) > 5000)), (by first | rfl | (simp; done) | (simp [*]; done)), H', ⟨by first | omega | exact Nat.le_refl _⟩, ⟨by repeat (first | (with_reducible first | exact HB.out | apply below_alloc | apply pw_below_drewN | apply below_drew1) | exact HB.out)⟩⟩
      · rw [if_neg c13] at H
        have c13b0 : decide (4096 < (l0.length : Int)) = false := decide_eq_false c13
        have c13b1 : decide (4096 < l0.length) = false := decide_eq_false (by omega)
        clear c13
        by_cases c15 : ((l1.length : Int) > 4096)
        · rw [if_pos c15] at H
          have c15b0 : decide (4096 < (l1.length : Int)) = true := decide_eq_true c15
          have c15b1 : decide (4096 < l1.length) = true := decide_eq_true (by omega)
          clear c15
          by_cases c16 : (l0.length : Int) > 5000
          · rw [if_pos c16] at H
            have c16b0 : decide (5000 < (l0.length : Int)) = true := decide_eq_true c16
            have c16b1 : decide (5000 < l0.length) = true := decide_eq_true (by omega)
            clear c16
            have H' := Aside0.mk H
            clear H
            go_wp2_with (first | ((with_reducible refine gate_callee (f := 9) rfl ?_); refine goesL_ (some 6) rfl rfl Try.func9 (by kernel_rfl) rfl #[.slice A0 l0.length c0] rfl (by (try simp only [List.map_toArray, List.map_cons, List.map_nil]); first | done | rfl | (simp only [List.length_drop, List.length_take]; rfl)) ?_; (with_reducible refine (graftagelaw08_short.calls k _ _ l0 false _ ?side1 ?side2 A4.out).mono ?_); (case side1 => repeat (first | exact (Kd.C_below HR0.out HB.out) | (with_reducible refine Kd.C_alloc ?_ _) | (with_reducible refine Kd.C_drewN ?_ _) | (with_reducible refine Kd.C_drew ?_))); (case side2 => exact HC0.out); rintro e w' ⟨rfl, ⟨nd, rfl⟩⟩; refine ⟨_, rfl, ?_⟩))
            go_meet
            case rel => exact ⟨_, (true), (by first | rfl | (simp; done) | (simp [*]; done)), H', ⟨by first | omega | exact Nat.le_refl _⟩, ⟨by repeat (first | (with_reducible first | exact HB.out | apply below_alloc | apply pw_below_drewN | apply below_drew1) | exact HB.out)⟩⟩
          · rw [if_neg c16] at H
            have c16b0 : decide (5000 < (l0.length : Int)) = false := decide_eq_false c16
            have c16b1 : decide (5000 < l0.length) = false := decide_eq_false (by omega)
            clear c16
            have H' := Aside0.mk H
            clear H
            go_wp2_with (first | ((with_reducible refine gate_callee (f := 9) rfl ?_); refine goesL_ (some 6) rfl rfl Try.func9 (by kernel_rfl) rfl #[.slice A0 l0.length c0] rfl (by (try simp only [List.map_toArray, List.map_cons, List.map_nil]); first | done | rfl | (simp only [List.length_drop, List.length_take]; rfl)) ?_; (with_reducible refine (graftagelaw08_short.calls k _ _ l0 false _ ?side1 ?side2 A4.out).mono ?_); (case side1 => repeat (first | exact (Kd.C_below HR0.out HB.out) | (with_reducible refine Kd.C_alloc ?_ _) | (with_reducible refine Kd.C_drewN ?_ _) | (with_reducible refine Kd.C_drew ?_))); (case side2 => exact HC0.out); rintro e w' ⟨rfl, ⟨nd, rfl⟩⟩; refine ⟨_, rfl, ?_⟩))
            go_meet
            case rel => exact ⟨_, (decide ((l1.length : Int) > 5000)), (by first | rfl | (simp; done) | (simp [*]; done)), H', ⟨by first | omega | exact Nat.le_refl _⟩, ⟨by repeat (first | (with_reducible first | exact HB.out | apply below_alloc | apply pw_below_drewN | apply below_drew1) | exact HB.out)⟩⟩
        · rw [if_neg c15] at H
          have c15b0 : decide (4096 < (l1.length : Int)) = false := decide_eq_false c15
          have c15b1 : decide (4096 < l1.length) = false := decide_eq_false (by omega)
          clear c15
          have H' := Aside0.mk H
          clear H
          go_wp2_with (first | ((with_reducible refine gate_callee (f := 9) rfl ?_); refine goesL_ (some 6) rfl rfl Try.func9 (by kernel_rfl) rfl #[.slice A0 l0.length c0] rfl (by (try simp only [List.map_toArray, List.map_cons, List.map_nil]); first | done | rfl | (simp only [List.length_drop, List.length_take]; rfl)) ?_; (with_reducible refine (graftagelaw08_short.calls k _ _ l0 false _ ?side1 ?side2 A4.out).mono ?_); (case side1 => repeat (first | exact (Kd.C_below HR0.out HB.out) | (with_reducible refine Kd.C_alloc ?_ _) | (with_reducible refine Kd.C_drewN ?_ _) | (with_reducible refine Kd.C_drew ?_))); (case side2 => exact HC0.out); rintro e w' ⟨rfl, ⟨nd, rfl⟩⟩; refine ⟨_, rfl, ?_⟩))
          go_meet
          case rel => exact ⟨_, (true), (by first | rfl | (simp; done) | (simp [*]; done)), H', ⟨by first | omega | exact Nat.le_refl _⟩, ⟨by repeat (first | (with_reducible first | exact HB.out | apply below_alloc | apply pw_below_drewN | apply below_drew1) | exact HB.out)⟩⟩
  case rest =>
    clear HC3
    try clear c1
    try clear p2
    try clear c3
    try clear c5
    try clear c7
    try clear c8
    try clear c8b0
    try clear c8b1
    try clear c9
    try clear c9b0
    try clear c9b1
    try clear c10
    try clear c10b0
    try clear c10b1
    try clear c11
    try clear c11b0
    try clear c11b1
    try clear c12
    try clear c12b0
    try clear c12b1
    try clear c13
    try clear c13b0
    try clear c13b1
    try clear c14
    try clear c14b0
    try clear c14b1
    try clear c15
    try clear c15b0
    try clear c15b1
    try clear c16
    try clear c16b0
    try clear c16b1
    obtain ⟨kq, x32_2, rfl, HA, HJ2, HB⟩ := hcut
    cases kq with
    | zero => exact absurd HA.out (by simp [graftagelaw08_DiffLeast.j0])
    | succ kj2 =>
      have H := HA.out
      clear HA
      simp only [graftagelaw08_DiffLeast.j0] at H
      by_cases c17 : x32_2 = true
      · subst c17
        have H1 : ((graftagelaw08_lives.f kj2).bind fun t220 => (some t220)) = some r := by rw [if_pos rfl] at H; exact H
        clear H
        have H := H1
        clear H1
        replace H := Option.bind_eq_some_iff.mp H
        obtain ⟨t220, A180, H⟩ := H
        replace H : (some t220) = some r := H
        have A18 := Aside0.mk A180
        clear A180
        obtain rfl := Option.some.inj H
        go_wp2_with (first | ((with_reducible refine gate_callee (f := 10) rfl ?_); refine goesL_ (some 33) rfl rfl Try.func10 (by kernel_rfl) rfl #[] rfl (by (try simp only [List.map_toArray, List.map_cons, List.map_nil]); first | done | rfl | (simp only [List.length_drop, List.length_take]; rfl)) ?_; (with_reducible refine (graftagelaw08_lives.calls kj2  t220 _ A18.out).mono ?_); rintro e w19 ⟨rfl, hb⟩; refine ⟨_, rfl, ?_⟩; have n0_ := Aside0.mk (below_step (by repeat (first | (with_reducible first | exact HB.out | apply below_alloc | apply pw_below_drewN | apply below_drew1) | exact HB.out)) hb); clear HB; have HB := n0_; clear n0_; (try clear hb); (try clear hb2); (try clear hk); (try clear hi)))
        go_ret
        exact ⟨by first | rfl | (simp [errW_none, errW_some] <;> rfl) | (simp [*, errW_none, errW_some] <;> rfl), by repeat (first | (with_reducible first | exact HB.out | apply below_alloc | apply pw_below_drewN | apply below_drew1) | exact HB.out)⟩
      · replace c17 := Bool.eq_false_iff.mpr c17
        subst c17
        have H1 : ((diff_Least.f kj2 l0 l1).bind fun t221 => ((graftageref08_Least.f kj2 l0 l1).bind fun t224 => ((graftageref08_Edits.f kj2 t221 t224).bind fun t227 => (if t227 = true then ((graftagelaw08_lives.f kj2).bind fun t228 => (some t228)) else (some false))))) = some r := by rw [if_neg (show ¬ (false = true) by decide)] at H; exact H
        clear H
        have H := H1
        clear H1
        replace H := Option.bind_eq_some_iff.mp H
        obtain ⟨t221, A200, H⟩ := H
        replace H : ((graftageref08_Least.f kj2 l0 l1).bind fun t224 => ((graftageref08_Edits.f kj2 t221 t224).bind fun t227 => (if t227 = true then ((graftagelaw08_lives.f kj2).bind fun t228 => (some t228)) else (some false)))) = some r := H
        have A20 := Aside0.mk A200
        clear A200
        replace H := Option.bind_eq_some_iff.mp H
        obtain ⟨t224, A210, H⟩ := H
        replace H : ((graftageref08_Edits.f kj2 t221 t224).bind fun t227 => (if t227 = true then ((graftagelaw08_lives.f kj2).bind fun t228 => (some t228)) else (some false))) = some r := H
        have A21 := Aside0.mk A210
        clear A210
        replace H := Option.bind_eq_some_iff.mp H
        obtain ⟨t227, A220, H⟩ := H
        replace H : (if t227 = true then ((graftagelaw08_lives.f kj2).bind fun t228 => (some t228)) else (some false)) = some r := H
        have A22 := Aside0.mk A220
        clear A220
        by_cases c23 : t227 = true
        · subst c23
          have H1 : ((graftagelaw08_lives.f kj2).bind fun t228 => (some t228)) = some r := by rw [if_pos rfl] at H; exact H
          clear H
          have H := H1
          clear H1
          replace H := Option.bind_eq_some_iff.mp H
          obtain ⟨t228, A240, H⟩ := H
          replace H : (some t228) = some r := H
          have A24 := Aside0.mk A240
          clear A240
          obtain rfl := Option.some.inj H
          go_wp2_with (first | ((with_reducible refine gate_callee (f := 12) rfl ?_); refine goesL_ (some 36) rfl rfl Try.func12 (by kernel_rfl) rfl #[.slice A0 l0.length c0, .slice A1 l1.length c1] rfl (by (try simp only [List.map_toArray, List.map_cons, List.map_nil]); first | done | rfl | (simp only [List.length_drop, List.length_take]; rfl)) ?_; (with_reducible refine (diff_Least.calls kj2 _ _ l0 _ _ l1 t221 _ ?side1 ?side2 ?side3 ?side4 A20.out).mono ?_); (case side1 => repeat (first | exact (Kd.C_below HR0.out HB.out) | (with_reducible refine Kd.C_alloc ?_ _) | (with_reducible refine Kd.C_drewN ?_ _) | (with_reducible refine Kd.C_drew ?_))); (case side2 => exact HC0.out); (case side3 => repeat (first | exact (Kd.C_below HR1.out HB.out) | (with_reducible refine Kd.C_alloc ?_ _) | (with_reducible refine Kd.C_drewN ?_ _) | (with_reducible refine Kd.C_drew ?_))); (case side4 => exact HC1.out); rintro e w25 ⟨v222, rfl, ho0, hb⟩; refine ⟨_, rfl, ?_⟩; have n0_ := Aside0.mk (Kd.R_lower ho0 (below_size (by repeat (first | (with_reducible first | exact HB.out | apply below_alloc | apply pw_below_drewN | apply below_drew1) | exact HB.out)))); have n1_ := Aside0.mk (below_step (by repeat (first | (with_reducible first | exact HB.out | apply below_alloc | apply pw_below_drewN | apply below_drew1) | exact HB.out)) hb); clear HB; have HO223 := n0_; have HB := n1_; clear n0_ n1_; (try clear hb); (try clear hb2); (try clear hk); (try clear hi); (try clear ho0)) | ((with_reducible refine gate_callee (f := 13) rfl ?_); refine goesL_ (some 39) rfl rfl Try.func13 (by kernel_rfl) rfl #[.slice A0 l0.length c0, .slice A1 l1.length c1] rfl (by (try simp only [List.map_toArray, List.map_cons, List.map_nil]); first | done | rfl | (simp only [List.length_drop, List.length_take]; rfl)) ?_; (with_reducible refine (graftageref08_Least.calls kj2 _ _ l0 _ _ l1 t224 _ ?side1 ?side2 ?side3 ?side4 A21.out).mono ?_); (case side1 => repeat (first | exact (Kd.C_below HR0.out HB.out) | (with_reducible refine Kd.C_alloc ?_ _) | (with_reducible refine Kd.C_drewN ?_ _) | (with_reducible refine Kd.C_drew ?_))); (case side2 => exact HC0.out); (case side3 => repeat (first | exact (Kd.C_below HR1.out HB.out) | (with_reducible refine Kd.C_alloc ?_ _) | (with_reducible refine Kd.C_drewN ?_ _) | (with_reducible refine Kd.C_drew ?_))); (case side4 => exact HC1.out); rintro e w26 ⟨v225, rfl, ho0, hb⟩; refine ⟨_, rfl, ?_⟩; have n0_ := Aside0.mk (Kd.R_elder' (by (with_reducible repeat (first | apply Kd.R_alloc | apply Kd.R_drewN | apply Kd.R_drew)); exact HO223.out) (Kd.R_base ho0) hb); have n1_ := Aside0.mk (Kd.R_lower (Kd.R_new' ho0 (Kd.R_lt (by (with_reducible repeat (first | apply Kd.R_alloc | apply Kd.R_drewN | apply Kd.R_drew)); exact HO223.out))) (below_size (by repeat (first | (with_reducible first | exact HB.out | apply below_alloc | apply pw_below_drewN | apply below_drew1) | exact HB.out)))); have n2_ := Aside0.mk (below_step (by repeat (first | (with_reducible first | exact HB.out | apply below_alloc | apply pw_below_drewN | apply below_drew1) | exact HB.out)) hb); clear HO223; clear HB; have HO223 := n0_; have HO226 := n1_; have HB := n2_; clear n0_ n1_ n2_; (try clear hb); (try clear hb2); (try clear hk); (try clear hi); (try clear ho0); obtain ⟨Ao27, co27, eo27⟩ := Kd.R_slice HO223.out; subst eo27; obtain ⟨Ao28, co28, eo28⟩ := Kd.R_slice HO226.out; subst eo28) | ((with_reducible refine gate_callee (f := 11) rfl ?_); refine goesL_ (some 40) rfl rfl Try.func11 (by kernel_rfl) rfl #[.slice Ao27 t221.length co27, .slice Ao28 t224.length co28] rfl (by (try simp only [List.map_toArray, List.map_cons, List.map_nil]); first | done | rfl | (simp only [List.length_drop, List.length_take]; rfl)) ?_; (with_reducible refine (graftageref08_Edits.calls kj2 _ _ t221 _ _ t224 true _ ?side1 ?side2 ?side3 ?side4 A22.out).mono ?_); (case side1 => repeat (first | exact (Kd.R_reads' HO223.out).2.2 | (with_reducible refine Kd.C_alloc ?_ _) | (with_reducible refine Kd.C_drewN ?_ _) | (with_reducible refine Kd.C_drew ?_))); (case side2 => exact (Kd.R_reads' HO223.out).2.1); (case side3 => repeat (first | exact (Kd.R_reads' HO226.out).2.2 | (with_reducible refine Kd.C_alloc ?_ _) | (with_reducible refine Kd.C_drewN ?_ _) | (with_reducible refine Kd.C_drew ?_))); (case side4 => exact (Kd.R_reads' HO226.out).2.1); rintro e w' ⟨rfl, ⟨nd, rfl⟩⟩; refine ⟨_, rfl, ?_⟩) | (go_at_call 10; (with_reducible refine (graftagelaw08_lives.calls kj2  t228 _ A24.out).mono ?_); rintro e w29 ⟨rfl, hb⟩; have n0_ := Aside0.mk (Kd.R_below (by (with_reducible repeat (first | apply Kd.R_alloc | apply Kd.R_drewN | apply Kd.R_drew)); exact HO223.out) hb); have n1_ := Aside0.mk (Kd.R_below (by (with_reducible repeat (first | apply Kd.R_alloc | apply Kd.R_drewN | apply Kd.R_drew)); exact HO226.out) hb); have n2_ := Aside0.mk (below_step (by repeat (first | (with_reducible first | exact HB.out | apply below_alloc | apply pw_below_drewN | apply below_drew1) | exact HB.out)) hb); clear HO223; clear HO226; clear HB; have HO223 := n0_; have HO226 := n1_; have HB := n2_; clear n0_ n1_ n2_; (try clear hb); (try clear hb2); (try clear hk); (try clear hi)))
          go_ret
          exact ⟨by first | rfl | (simp [errW_none, errW_some] <;> rfl) | (simp [*, errW_none, errW_some] <;> rfl), by repeat (first | (with_reducible first | exact HB.out | apply below_alloc | apply pw_below_drewN | apply below_drew1) | exact HB.out)⟩
        · replace c23 := Bool.eq_false_iff.mpr c23
          subst c23
          have H1 : (some false) = some r := by rw [if_neg (show ¬ (false = true) by decide)] at H; exact H
          clear H
          have H := H1
          clear H1
          obtain rfl := Option.some.inj H
          go_wp2_with (first | ((with_reducible refine gate_callee (f := 12) rfl ?_); refine goesL_ (some 36) rfl rfl Try.func12 (by kernel_rfl) rfl #[.slice A0 l0.length c0, .slice A1 l1.length c1] rfl (by (try simp only [List.map_toArray, List.map_cons, List.map_nil]); first | done | rfl | (simp only [List.length_drop, List.length_take]; rfl)) ?_; (with_reducible refine (diff_Least.calls kj2 _ _ l0 _ _ l1 t221 _ ?side1 ?side2 ?side3 ?side4 A20.out).mono ?_); (case side1 => repeat (first | exact (Kd.C_below HR0.out HB.out) | (with_reducible refine Kd.C_alloc ?_ _) | (with_reducible refine Kd.C_drewN ?_ _) | (with_reducible refine Kd.C_drew ?_))); (case side2 => exact HC0.out); (case side3 => repeat (first | exact (Kd.C_below HR1.out HB.out) | (with_reducible refine Kd.C_alloc ?_ _) | (with_reducible refine Kd.C_drewN ?_ _) | (with_reducible refine Kd.C_drew ?_))); (case side4 => exact HC1.out); rintro e w30 ⟨v222, rfl, ho0, hb⟩; refine ⟨_, rfl, ?_⟩; have n0_ := Aside0.mk (Kd.R_lower ho0 (below_size (by repeat (first | (with_reducible first | exact HB.out | apply below_alloc | apply pw_below_drewN | apply below_drew1) | exact HB.out)))); have n1_ := Aside0.mk (below_step (by repeat (first | (with_reducible first | exact HB.out | apply below_alloc | apply pw_below_drewN | apply below_drew1) | exact HB.out)) hb); clear HB; have HO223 := n0_; have HB := n1_; clear n0_ n1_; (try clear hb); (try clear hb2); (try clear hk); (try clear hi); (try clear ho0)) | ((with_reducible refine gate_callee (f := 13) rfl ?_); refine goesL_ (some 39) rfl rfl Try.func13 (by kernel_rfl) rfl #[.slice A0 l0.length c0, .slice A1 l1.length c1] rfl (by (try simp only [List.map_toArray, List.map_cons, List.map_nil]); first | done | rfl | (simp only [List.length_drop, List.length_take]; rfl)) ?_; (with_reducible refine (graftageref08_Least.calls kj2 _ _ l0 _ _ l1 t224 _ ?side1 ?side2 ?side3 ?side4 A21.out).mono ?_); (case side1 => repeat (first | exact (Kd.C_below HR0.out HB.out) | (with_reducible refine Kd.C_alloc ?_ _) | (with_reducible refine Kd.C_drewN ?_ _) | (with_reducible refine Kd.C_drew ?_))); (case side2 => exact HC0.out); (case side3 => repeat (first | exact (Kd.C_below HR1.out HB.out) | (with_reducible refine Kd.C_alloc ?_ _) | (with_reducible refine Kd.C_drewN ?_ _) | (with_reducible refine Kd.C_drew ?_))); (case side4 => exact HC1.out); rintro e w31 ⟨v225, rfl, ho0, hb⟩; refine ⟨_, rfl, ?_⟩; have n0_ := Aside0.mk (Kd.R_elder' (by (with_reducible repeat (first | apply Kd.R_alloc | apply Kd.R_drewN | apply Kd.R_drew)); exact HO223.out) (Kd.R_base ho0) hb); have n1_ := Aside0.mk (Kd.R_lower (Kd.R_new' ho0 (Kd.R_lt (by (with_reducible repeat (first | apply Kd.R_alloc | apply Kd.R_drewN | apply Kd.R_drew)); exact HO223.out))) (below_size (by repeat (first | (with_reducible first | exact HB.out | apply below_alloc | apply pw_below_drewN | apply below_drew1) | exact HB.out)))); have n2_ := Aside0.mk (below_step (by repeat (first | (with_reducible first | exact HB.out | apply below_alloc | apply pw_below_drewN | apply below_drew1) | exact HB.out)) hb); clear HO223; clear HB; have HO223 := n0_; have HO226 := n1_; have HB := n2_; clear n0_ n1_ n2_; (try clear hb); (try clear hb2); (try clear hk); (try clear hi); (try clear ho0); obtain ⟨Ao32, co32, eo32⟩ := Kd.R_slice HO223.out; subst eo32; obtain ⟨Ao33, co33, eo33⟩ := Kd.R_slice HO226.out; subst eo33) | ((with_reducible refine gate_callee (f := 11) rfl ?_); refine goesL_ (some 40) rfl rfl Try.func11 (by kernel_rfl) rfl #[.slice Ao32 t221.length co32, .slice Ao33 t224.length co33] rfl (by (try simp only [List.map_toArray, List.map_cons, List.map_nil]); first | done | rfl | (simp only [List.length_drop, List.length_take]; rfl)) ?_; (with_reducible refine (graftageref08_Edits.calls kj2 _ _ t221 _ _ t224 false _ ?side1 ?side2 ?side3 ?side4 A22.out).mono ?_); (case side1 => repeat (first | exact (Kd.R_reads' HO223.out).2.2 | (with_reducible refine Kd.C_alloc ?_ _) | (with_reducible refine Kd.C_drewN ?_ _) | (with_reducible refine Kd.C_drew ?_))); (case side2 => exact (Kd.R_reads' HO223.out).2.1); (case side3 => repeat (first | exact (Kd.R_reads' HO226.out).2.2 | (with_reducible refine Kd.C_alloc ?_ _) | (with_reducible refine Kd.C_drewN ?_ _) | (with_reducible refine Kd.C_drew ?_))); (case side4 => exact (Kd.R_reads' HO226.out).2.1); rintro e w' ⟨rfl, ⟨nd, rfl⟩⟩; refine ⟨_, rfl, ?_⟩))
          go_ret
          exact ⟨by first | rfl | (simp [errW_none, errW_some] <;> rfl) | (simp [*, errW_none, errW_some] <;> rfl), by repeat (first | (with_reducible first | exact HB.out | apply below_alloc | apply pw_below_drewN | apply below_drew1) | exact HB.out)⟩

end Go.Proofs.Ytikepmdhnbnohaa.P
end
-- text YtikepmdhnbnohaaOpens
section
/- Arguments of a law opened to the printed kinds: what the form's reading says of a value of a type, told as the kind that the printed contracts use. One lemma a kind (whole numbers, bools, strings, slices, structs), for whatever nesting. Conditions: none. -/
namespace Go.Proofs.Ytikepmdhnbnohaa.Op
open Go.RowKit Go.Proofs.YtikepmdhnbnohaaW.PrintWords

/-- A value of type t reads as a datum of kind kd that is good. -/
structure Opens {α : Type} (P : Program) (t : TypeId) (kd : Kd α) (G : α → Prop) : Prop where
  size : P.cellsOf t = kd.sz
  out : ∀ {H : Type} {enc : TypeId × Value → H} {w : World} {held : Bool} {fuel : Nat} {cs : List Value} {x : DataW H × List MemPlace}, DataW.trod enc P w 0 (fun _ => true) held fuel t cs = some x →
    (∀ n ∈ x.1.weights P t, n ≤ reachBytes) → ∃ a : α, kd.K w a cs ∧ G a

theorem opens_string {P : Program} {t : TypeId} (ht : P.underlying t = some .string) (hs : P.cellsOf t = 1) : Opens P t Kd.string (fun s => s.size ≤ 140737488351232) where
  size := hs
  out := by
    intro H enc w held fuel cs x h hw
    obtain ⟨s, rfl, rfl, _⟩ := DataW.trod_string ht h
    refine ⟨s, rfl, ?_⟩
    have z := hw s.data.toList.length (by simp [DataW.weights])
    simpa [reachBytes] using z

theorem weights_all {H : Type} {P : Program} {e : TypeId} : ∀ {l : List (DataW H)} {d : DataW H}, d ∈ l → ∀ n ∈ d.weights P e, n ∈ DataW.weightsAll P e l
  | [], _, h, _, _ => by cases h
  | x :: l, d, h, n, hn => by
    simp only [DataW.weightsAll, List.mem_append]
    rcases List.mem_cons.1 h with rfl | h
    · exact .inl hn
    · exact .inr (weights_all h n hn)

theorem opens_slice {α : Type} {P : Program} {t e : TypeId} {kd : Kd α} {G : α → Prop} (B : Nat) (ht : P.underlying t = some (.slice e)) (hs : P.cellsOf t = 1) (hB : P.bytesOf e = B) (ho : Opens P e kd G) :
    Opens P t (Kd.slice e kd) (fun l => l.length * B ≤ 140737488351232 ∧ ∀ x ∈ l, G x) where
  size := hs
  out := by
    intro H enc w held fuel cs x h hw
    rcases DataW.trod_slice ht h with ⟨rfl, rfl⟩ | ⟨a, len, cap, elems, rest, n, rfl, rfl, rfl, _, hl, hm, hlen, hel, _, _⟩
    · exact ⟨[], ⟨none, 0, rfl, Nat.le_refl _, rfl, Nat.zero_le _, fun h => absurd h (by simp)⟩, by simp, by simp⟩
    · have each : ∀ i, i < len → ∃ (z : α) (c : List Value), c.length = kd.sz ∧ kd.K w z c ∧ G z ∧ ∀ j u, c[j]? = some u → w.cell? (a.add (i * kd.sz + j)) = some u := by
        intro i hi
        have h1 := hel i hi
        have hil : i < elems.length := by omega
        rw [List.getElem?_eq_getElem hil, Option.bind_eq_some_iff] at h1
        obtain ⟨c, hc, hy⟩ := h1
        obtain ⟨z, hz, hg⟩ := ho.out hy (fun n hn => hw n (by
          simp only [DataW.weights, ht, List.mem_cons, List.mem_append]
          exact .inr (.inl (weights_all (List.mem_map.2 ⟨_, List.getElem_mem hil, rfl⟩) n hn))))
        obtain ⟨_, hcl, hcell⟩ := World.cells?_some hc
        rw [ho.size] at hcl hcell
        refine ⟨z, c, hcl, hz, hg, fun j u hu => ?_⟩
        have hj : j < c.length := (List.getElem?_eq_some_iff.1 hu).1
        have := hcell j (by omega)
        rw [← hu, ← this, Go.Deep.add_add]
      have pick : ∀ m, m ≤ len → ∃ zs : List α, zs.length = m ∧ (∀ x ∈ zs, G x) ∧ ∀ i p, zs[i]? = some p → ∃ c, c.length = kd.sz ∧ kd.K w p c ∧ ∀ j u, c[j]? = some u → w.cell? (a.add (i * kd.sz + j)) = some u := by
        intro m
        induction m with
        | zero => exact fun _ => ⟨[], rfl, by simp, by simp⟩
        | succ m ih =>
          intro hm'
          obtain ⟨zs, h1, h2, h3⟩ := ih (by omega)
          obtain ⟨z, c, hcl, hz, hg, hcell⟩ := each m (by omega)
          refine ⟨zs ++ [z], by simp [h1], fun x hx => ?_, fun i p hp => ?_⟩
          · rcases List.mem_append.1 hx with hx | hx
            · exact h2 x hx
            · rw [List.mem_singleton.1 hx]
              exact hg
          · rcases Nat.lt_or_ge i zs.length with hi | hi
            · rw [List.getElem?_append_left hi] at hp
              exact h3 i p hp
            · have hi' : i = zs.length := by
                have := (List.getElem?_eq_some_iff.1 hp).1
                simp at this
                omega
              subst hi'
              have hp' : z = p := by simpa using hp
              subst hp'
              rw [h1]
              exact ⟨c, hcl, hz, hcell⟩
      obtain ⟨zs, hzl, hG, hat⟩ := pick len (Nat.le_refl _)
      have hwt := hw ((elems.length + rest.length) * P.bytesOf e) (by simp [DataW.weights, ht])
      refine ⟨zs, ⟨some a, cap, by rw [hzl], by omega, ?_⟩, ?_, hG⟩
      · exact ⟨rfl, by rw [hzl]; exact Nat.le_trans hl (by simpa [maxLen] using hm), fun _ => ⟨a, rfl, hat⟩⟩
      · rw [hB] at hwt
        rw [hzl, ← hlen]
        exact Nat.le_trans (Nat.mul_le_mul_right _ (Nat.le_add_right _ _)) (by simpa [reachBytes] using hwt)

/-- A struct's fields from place o on. -/
structure OpensF {α : Type} (P : Program) (fs : List Field) (o : Nat) (kd : Kd α) (G : α → Prop) : Prop where
  out : ∀ {H : Type} {enc : TypeId × Value → H} {w : World} {held : Bool} {n : Nat} {cs : List Value} {xs : List (DataW H × List MemPlace)}, cs.length = o + kd.sz → xs.length = fs.length →
    (∀ (i : Nat) (f : Field), fs[i]? = some f → DataW.trod enc P w 0 (fun _ => true) held n f.type ((cs.drop f.offset).take (P.cellsOf f.type)) = xs[i]?) →
    (∀ n ∈ DataW.weightsEach P (fs.map (·.type)) (xs.map (·.1)), n ≤ reachBytes) → ∃ a : α, kd.K w a (cs.drop o) ∧ G a
/-- A slice argument. -/
theorem slice_arg {α : Type} {e : TypeId} {kd : Kd α} {w : World} {a : Option Addr} {len cap : Nat} {xs : List α} (h : (Kd.slice e kd).K w xs (Value.slice a len cap).cells.toList) : len = xs.length ∧ xs.length ≤ cap ∧ kd.C w a xs.length xs := by
  obtain ⟨A, c, h1, h2, h3⟩ := h
  have h0 : [Value.slice a len cap] = [.slice A xs.length c] := h1
  injection h0 with h0
  injection h0 with ha hb hc
  subst ha hb hc
  exact ⟨rfl, h2, h3⟩
end Go.Proofs.Ytikepmdhnbnohaa.Op
end
-- text YtikepmdhnbnohaaPOp
section
-- written by mp.py, a program of this session, over the kit's printer
namespace Go.Proofs.Ytikepmdhnbnohaa.P
open Go.RowKit Go.Proofs.Ytikepmdhnbnohaa.Op Go.Proofs.YtikepmdhnbnohaaW.PrintWords
set_option linter.unusedVariables false
end Go.Proofs.Ytikepmdhnbnohaa.P
end
-- text YtikepmdhnbnohaaSDiffLeast
section
-- written by mp.py, a program of this session, over the kit's printer
namespace Go.Proofs.Ytikepmdhnbnohaa.P
open Go.RowKit Go.Proofs.YtikepmdhnbnohaaW.PrintWords
/-- The one plain statement of the law DiffLeast. -/
def graftagelaw08_DiffLeast.Pure : Prop := ∀ (l0 : List ByteArray) (l1 : List ByteArray), (l0.length * 16 ≤ 140737488351232 ∧ ∀ x_ ∈ l0, x_.size ≤ 140737488351232) → (l1.length * 16 ≤ 140737488351232 ∧ ∀ x_ ∈ l1, x_.size ≤ 140737488351232) → ∃ k, graftagelaw08_DiffLeast.f k l0 l1 = some true
end Go.Proofs.Ytikepmdhnbnohaa.P
end
-- text YtikepmdhnbnohaaPx17
section
-- written by mp.py, a program of this session, over the kit's printer
namespace Go.Proofs.Ytikepmdhnbnohaa.P
open Go.RowKit Go.Proofs.YtikepmdhnbnohaaW.PrintWords Go.Proofs.YtikepmdhnbnohaaW.PrintLast Go.Proofs.YtikepmdhnbnohaaW.PrintMore
attribute [local go_sem] max2_int min2_int max_two min_two max_three min_three max_four min_four   -- for this text's walks alone
set_option linter.unusedVariables false
set_option linter.unusedSimpArgs false

/-! ### diff_lies: function 35 -/
end Go.Proofs.Ytikepmdhnbnohaa.P
end
-- text YtikepmdhnbnohaaPx20
section
-- written by mp.py, a program of this session, over the kit's printer
namespace Go.Proofs.Ytikepmdhnbnohaa.P
open Go.RowKit Go.Proofs.YtikepmdhnbnohaaW.PrintWords Go.Proofs.YtikepmdhnbnohaaW.PrintLast Go.Proofs.YtikepmdhnbnohaaW.PrintMore
attribute [local go_sem] max2_int min2_int max_two min_two max_three min_three max_four min_four   -- for this text's walks alone
set_option linter.unusedVariables false
set_option linter.unusedSimpArgs false

/-! ### diff_Valid: function 19 -/
end Go.Proofs.Ytikepmdhnbnohaa.P
end
-- text YtikepmdhnbnohaaPlBase
section
/- Plain facts on numbers and lists that the plain proofs of this seat share. Conditions: none. -/
namespace Go.Proofs.Ytikepmdhnbnohaa.Pl
open Go.RowKit Go.Proofs.YtikepmdhnbnohaaW.PrintWords
theorem w64 {n : Int} (h1 : -9223372036854775808 ≤ n) (h2 : n ≤ 9223372036854775807) : wrap64 n = n := by unfold wrap64; omega
theorem tl_inj {a b : ByteArray} : a.toList = b.toList ↔ a = b := by
  constructor
  · intro h
    rw [ByteArray.toList_eq, ByteArray.toList_eq] at h
    cases a
    cases b
    simp only at h
    rw [Array.toList_inj.1 h]
  · intro h
    rw [h]
theorem Ev.some_ {α : Type} {r : α} {g : Nat → Option α} (h : ∀ k, g k = some r) : Ev g r := ⟨0, fun k _ => h k⟩
/-- A loop's end: one round answers. -/
theorem Ev.end_ {α : Type} {g : Nat → Option α} {r : α} (h : ∀ k, g (k + 1) = some r) : Ev g r := Ev.step h (Ev.now r)
end Go.Proofs.Ytikepmdhnbnohaa.Pl
end
-- text YtikepmdhnbnohaaPlLcs
section
/- The greatest number of lines that stay (lcs), alignments of two lists, the greedy one, and that it is best. No program in sight. Conditions: none. -/
namespace Go.Proofs.Ytikepmdhnbnohaa.Pl
open Go.RowKit Go.Proofs.YtikepmdhnbnohaaW.PrintWords
variable {α : Type} [DecidableEq α]
def lcs : List α → List α → Nat
  | [], _ => 0
  | _ :: _, [] => 0
  | x :: a, y :: b => if x = y then lcs a b + 1 else max (lcs a (y :: b)) (lcs (x :: a) b)
termination_by a b => a.length + b.length
theorem lcs_nil (b : List α) : lcs [] b = 0 := by unfold lcs; rfl
theorem lcs_nil2 (a : List α) : lcs a [] = 0 := by cases a <;> (unfold lcs; rfl)
theorem lcs_same (x : α) (a b : List α) : lcs (x :: a) (x :: b) = lcs a b + 1 := by rw [lcs, if_pos rfl]
theorem lcs_ne {x y : α} (h : x ≠ y) (a b : List α) : lcs (x :: a) (y :: b) = max (lcs a (y :: b)) (lcs (x :: a) b) := by rw [lcs, if_neg h]
theorem lcs_le_both : ∀ n (a b : List α), a.length + b.length ≤ n → (∀ x, lcs a b ≤ lcs (x :: a) b ∧ lcs (x :: a) b ≤ lcs a b + 1) ∧ (∀ y, lcs a b ≤ lcs a (y :: b) ∧ lcs a (y :: b) ≤ lcs a b + 1) := by
  intro n
  induction n with
  | zero =>
    intro a b h
    have ha : a = [] := List.eq_nil_of_length_eq_zero (by omega)
    have hb : b = [] := List.eq_nil_of_length_eq_zero (by omega)
    subst ha hb
    exact ⟨fun x => by simp [lcs_nil2], fun y => by simp [lcs_nil]⟩
  | succ n ih =>
    intro a b h
    refine ⟨fun x => ?_, fun y => ?_⟩
    · cases b with
      | nil => simp [lcs_nil2]
      | cons y b =>
        have hb := (ih a b (by simp at h; omega)).2 y
        by_cases e : x = y
        · subst e
          rw [lcs_same]
          omega
        · rw [lcs_ne e]
          have hx := (ih a b (by simp at h; omega)).1 x
          omega
    · cases a with
      | nil => simp [lcs_nil]
      | cons x a =>
        have ha := (ih a b (by simp at h; omega)).1 x
        by_cases e : x = y
        · subst e
          rw [lcs_same]
          omega
        · rw [lcs_ne e]
          have hy := (ih a b (by simp at h; omega)).2 y
          omega
theorem lcs_le_left : ∀ n (a b : List α), a.length + b.length ≤ n → lcs a b ≤ a.length ∧ lcs a b ≤ b.length := by
  intro n
  induction n with
  | zero =>
    intro a b h
    have ha : a = [] := List.eq_nil_of_length_eq_zero (by omega)
    subst ha
    simp [lcs_nil]
  | succ n ih =>
    intro a b h
    cases a with
    | nil => simp [lcs_nil]
    | cons x a =>
      cases b with
      | nil => simp [lcs_nil2]
      | cons y b =>
        simp only [List.length_cons] at h ⊢
        by_cases e : x = y
        · subst e
          rw [lcs_same]
          have := ih a b (by omega)
          omega
        · rw [lcs_ne e]
          have h1 := ih a (y :: b) (by simp; omega)
          have h2 := ih (x :: a) b (by simp; omega)
          simp only [List.length_cons] at h1 h2
          omega
theorem lcs_le (a b : List α) : lcs a b ≤ a.length ∧ lcs a b ≤ b.length := lcs_le_left _ a b (Nat.le_refl _)
/-- What becomes of a line: it stays, goes, or comes. -/
inductive Op where
  | K | D | I
deriving DecidableEq
/-- An alignment of two lists. -/
inductive Al : List α → List α → List Op → Prop where
  | nil : Al [] [] []
  | keep (x : α) {a b : List α} {o : List Op} (h : Al a b o) : Al (x :: a) (x :: b) (Op.K :: o)
  | del (x : α) {a b : List α} {o : List Op} (h : Al a b o) : Al (x :: a) b (Op.D :: o)
  | ins (y : α) {a b : List α} {o : List Op} (h : Al a b o) : Al a (y :: b) (Op.I :: o)
def kept (o : List Op) : Nat := o.countP (· == Op.K)
def paid (o : List Op) : Nat := o.countP (· != Op.K)
theorem kept_K (o : List Op) : kept (Op.K :: o) = kept o + 1 := by simp [kept]
theorem kept_D (o : List Op) : kept (Op.D :: o) = kept o := by simp [kept]
theorem kept_I (o : List Op) : kept (Op.I :: o) = kept o := by simp [kept]
theorem paid_K (o : List Op) : paid (Op.K :: o) = paid o := by simp [paid]
theorem paid_D (o : List Op) : paid (Op.D :: o) = paid o + 1 := by simp [paid]
theorem paid_I (o : List Op) : paid (Op.I :: o) = paid o + 1 := by simp [paid]
omit [DecidableEq α] in
theorem Al.lens {a b : List α} {o : List Op} (h : Al a b o) : paid o + 2 * kept o = a.length + b.length := by
  induction h with
  | nil => simp [paid, kept]
  | keep x h ih => rw [kept_K, paid_K]; simp only [List.length_cons]; omega
  | del x h ih => rw [kept_D, paid_D]; simp only [List.length_cons]; omega
  | ins y h ih => rw [kept_I, paid_I]; simp only [List.length_cons]; omega
/-- The alignment that one rule tells. -/
def greedy : List α → List α → List Op
  | [], [] => []
  | _ :: a, [] => Op.D :: greedy a []
  | [], _ :: b => Op.I :: greedy [] b
  | x :: a, y :: b => if x = y then Op.K :: greedy a b else if lcs (x :: a) b ≤ lcs a (y :: b) then Op.D :: greedy a (y :: b) else Op.I :: greedy (x :: a) b
termination_by a b => a.length + b.length
theorem greedy_al : ∀ n (a b : List α), a.length + b.length ≤ n → Al a b (greedy a b) ∧ kept (greedy a b) = lcs a b := by
  intro n
  induction n with
  | zero =>
    intro a b h
    have ha : a = [] := List.eq_nil_of_length_eq_zero (by omega)
    have hb : b = [] := List.eq_nil_of_length_eq_zero (by omega)
    subst ha hb
    rw [greedy]
    exact ⟨Al.nil, by simp [kept, lcs_nil]⟩
  | succ n ih =>
    intro a b h
    cases a with
    | nil =>
      cases b with
      | nil => rw [greedy]; exact ⟨Al.nil, by simp [kept, lcs_nil]⟩
      | cons y b =>
        have := ih [] b (by simp at h ⊢; omega)
        rw [greedy, kept_I, this.2]
        exact ⟨Al.ins y this.1, by rw [lcs_nil, lcs_nil]⟩
    | cons x a =>
      cases b with
      | nil =>
        have := ih a [] (by simp at h ⊢; omega)
        rw [greedy, kept_D, this.2]
        exact ⟨Al.del x this.1, by rw [lcs_nil2, lcs_nil2]⟩
      | cons y b =>
        simp only [List.length_cons] at h
        rw [greedy]
        by_cases e : x = y
        · subst e
          have := ih a b (by omega)
          rw [if_pos rfl, kept_K, lcs_same, this.2]
          exact ⟨Al.keep x this.1, rfl⟩
        · rw [if_neg e, lcs_ne e]
          by_cases c : lcs (x :: a) b ≤ lcs a (y :: b)
          · have := ih a (y :: b) (by simp; omega)
            rw [if_pos c, kept_D, this.2]
            exact ⟨Al.del x this.1, by omega⟩
          · have := ih (x :: a) b (by simp; omega)
            rw [if_neg c, kept_I, this.2]
            exact ⟨Al.ins y this.1, by omega⟩
theorem greedy_is (a b : List α) : Al a b (greedy a b) := (greedy_al _ a b (Nat.le_refl _)).1
end Go.Proofs.Ytikepmdhnbnohaa.Pl
end
-- text YtikepmdhnbnohaaPlScr
section
/- Edit scripts: what a valid one is, its cost, its inverse, and the script of an alignment. No program in sight. Conditions: none. -/
namespace Go.Proofs.Ytikepmdhnbnohaa.Pl
open Go.RowKit Go.Proofs.YtikepmdhnbnohaaW.PrintWords Go.Proofs.Ytikepmdhnbnohaa.P
set_option linter.unusedSimpArgs false
set_option linter.unusedVariables false
abbrev Ed := S44
/-- A valid script of a list to another one, from two places on; 'f': nothing stands ahead of it. -/
inductive Scr {α : Type} : Bool → Int → Int → List α → List α → List Ed → Prop where
  | nil (f : Bool) (i j : Int) (a : List α) : Scr f i j a a []
  | edit (f : Bool) (i j : Int) (c d e a b : List α) (l : List Ed) (h1 : f = true ∨ c ≠ []) (h2 : d ≠ [] ∨ e ≠ []) (h : Scr false (i + c.length + d.length) (j + c.length + e.length) a b l) :
      Scr f i j (c ++ (d ++ a)) (c ++ (e ++ b)) (⟨i + c.length, d.length, j + c.length, e.length⟩ :: l)
def cost (l : List Ed) : Int := (l.map fun e => e.f1 + e.f3).foldr (· + ·) 0
theorem cost_nil : cost [] = 0 := rfl
theorem cost_cons (e : Ed) (l : List Ed) : cost (e :: l) = e.f1 + e.f3 + cost l := rfl
/-- The script of an alignment: 'cur' is the edit that is under way. -/
def scr : List Op → Int → Int → Option Ed → List Ed
  | [], _, _, cur => cur.toList
  | Op.K :: o, i, j, cur => cur.toList ++ scr o (i + 1) (j + 1) none
  | Op.D :: o, i, j, none => scr o (i + 1) j (some ⟨i, 1, j, 0⟩)
  | Op.D :: o, i, j, some e => scr o (i + 1) j (some ⟨e.f0, e.f1 + 1, e.f2, e.f3⟩)
  | Op.I :: o, i, j, none => scr o i (j + 1) (some ⟨i, 0, j, 1⟩)
  | Op.I :: o, i, j, some e => scr o i (j + 1) (some ⟨e.f0, e.f1, e.f2, e.f3 + 1⟩)
end Go.Proofs.Ytikepmdhnbnohaa.Pl
end
-- text YtikepmdhnbnohaaPlTable
section
/- The table that diff makes: its entries are the greatest numbers of lines that stay. And what Least's second loop comes to: the edits of the greedy alignment. Conditions: lists of at most 4096 lines. -/
namespace Go.Proofs.Ytikepmdhnbnohaa.Pl
open Go.RowKit Go.Proofs.YtikepmdhnbnohaaW.PrintWords Go.Proofs.Ytikepmdhnbnohaa.P
set_option linter.unusedSimpArgs false
set_option linter.unusedVariables false
/-- Entry (i, j) of a table. -/
def ent (T : List (List Int)) (i j : Nat) : Int := (T.getD i []).getD j 0
def row (T : List (List Int)) (i : Nat) : List Int := T.getD i []
theorem ent_row (T : List (List Int)) (i j : Nat) : ent T i j = (row T i).getD j 0 := rfl
theorem rd_row (T : List (List Int)) (i : Nat) : rd_L2 T (i : Int) = row T i := by unfold rd_L2 row; rw [Int.toNat_natCast]
theorem rd_nat (l : List Int) (j : Nat) : rd l (j : Int) = l.getD j 0 := by unfold rd; rw [Int.toNat_natCast]
theorem row_set (T : List (List Int)) (i r : Nat) (v : List Int) (hi : i < T.length) : row (T.set i v) r = if r = i then v else row T r := by
  unfold row
  simp only [List.getD_eq_getElem?_getD, List.getElem?_set]
  by_cases e : i = r
  · subst e
    simp [hi]
  · rw [if_neg e, if_neg (Ne.symm e)]
theorem getD_set (l : List Int) (j c : Nat) (v : Int) (hj : j < l.length) : (l.set j v).getD c 0 = if c = j then v else l.getD c 0 := by
  simp only [List.getD_eq_getElem?_getD, List.getElem?_set]
  by_cases e : j = c
  · subst e
    simp [hj]
  · rw [if_neg e, if_neg (Ne.symm e)]
/-- Rows of the right lengths. -/
def Sized (T : List (List Int)) (n m : Nat) : Prop := T.length = n + 1 ∧ ∀ r, r ≤ n → (row T r).length = m + 1
/-- Rows above i are right, row i from column j on, all else is 0. -/
def Right (a b : List ByteArray) (T : List (List Int)) (i j : Nat) : Prop :=
  ∀ r c, r ≤ a.length → c ≤ b.length → (i < r ∨ (r = i ∧ j ≤ c) → ent T r c = (lcs (a.drop r) (b.drop c) : Nat)) ∧ (¬ (i < r ∨ (r = i ∧ j ≤ c)) → ent T r c = 0)
def IsTab (a b : List ByteArray) (T : List (List Int)) : Prop := Sized T a.length b.length ∧ ∀ r c, r ≤ a.length → c ≤ b.length → ent T r c = (lcs (a.drop r) (b.drop c) : Nat)
theorem lcs_bound (a b : List ByteArray) (ha : a.length ≤ 4096) (r c : Nat) : ((lcs (a.drop r) (b.drop c) : Nat) : Int) ≤ 4096 := by
  have := (lcs_le (a.drop r) (b.drop c)).1
  rw [List.length_drop] at this
  omega
/-- One entry more. -/
theorem Right.put {a b : List ByteArray} {T : List (List Int)} {i j : Nat} (hS : Sized T a.length b.length) (h : Right a b T i (j + 1)) (hi : i < a.length) (hj : j < b.length) (v : Int) (hv : v = (lcs (a.drop i) (b.drop j) : Nat)) :
    Sized (T.set i ((row T i).set j v)) a.length b.length ∧ Right a b (T.set i ((row T i).set j v)) i j := by
  have hl : i < T.length := by rw [hS.1]; omega
  have hr : (row T i).length = b.length + 1 := hS.2 i (by omega)
  refine ⟨⟨by rw [List.length_set]; exact hS.1, fun r hrn => ?_⟩, fun r c hrn hc => ?_⟩
  · rw [row_set _ _ _ _ hl]
    split
    · rw [List.length_set, hr]
    · exact hS.2 r hrn
  · rw [ent_row, row_set _ _ _ _ hl]
    have hh := h r c hrn hc
    by_cases e : r = i
    · subst e
      rw [if_pos rfl, getD_set _ _ _ _ (by omega)]
      by_cases ec : c = j
      · subst ec
        rw [if_pos rfl]
        exact ⟨fun _ => hv, fun hn => absurd (Or.inr ⟨rfl, Nat.le_refl _⟩) hn⟩
      · rw [if_neg ec, ← ent_row]
        exact ⟨fun hy => hh.1 (by omega), fun hn => hh.2 (by omega)⟩
    · rw [if_neg e, ← ent_row]
      exact ⟨fun hy => hh.1 (by omega), fun hn => hh.2 (by omega)⟩
theorem drop_cons {α : Type} (l : List α) (i : Nat) (h : i < l.length) : l.drop i = l[i] :: l.drop (i + 1) := List.drop_eq_getElem_cons h
theorem rdB_at (l : List ByteArray) (i : Nat) (h : i < l.length) : rdOf ByteArray.empty l (i : Int) = l[i] := by
  unfold rdOf
  rw [Int.toNat_natCast, List.getD_eq_getElem?_getD, List.getElem?_eq_getElem h]
  rfl
theorem l2_ev (a b : List ByteArray) (ha : a.length ≤ 4096) (hb : b.length ≤ 4096) (i : Nat) (hi : i < a.length) (R : List (List Int)) : ∀ (j : Nat) (T : List (List Int)), j ≤ b.length → Sized T a.length b.length → Right a b T i j →
    (∀ T', Sized T' a.length b.length → Right a b T' i 0 → ∃ r, Ev (fun k => diff_table.l1 k a b T' ((i : Int) - 1)) r ∧ IsTab a b r) →
    ∃ r, Ev (fun k => diff_table.l2 k a b T (i : Int) ((j : Int) - 1)) r ∧ IsTab a b r := by
  intro j
  induction j with
  | zero =>
    intro T _ hS hR next
    obtain ⟨r, hr, ht⟩ := next T hS hR
    refine ⟨r, Ev.step (fun k => ?_) hr, ht⟩
    rw [diff_table.l2, if_neg (by omega), w64 (by omega) (by omega)]
  | succ j ih =>
    intro T hj hS hR next
    have hl : T.length = a.length + 1 := hS.1
    have hr0 : (row T i).length = b.length + 1 := hS.2 i (by omega)
    have hr1 : (row T (i + 1)).length = b.length + 1 := hS.2 (i + 1) (by omega)
    have e1 : ((j + 1 : Nat) : Int) - 1 = (j : Int) := by omega
    have ei : (i : Int) + 1 = ((i + 1 : Nat) : Int) := by omega
    have ej : (j : Int) + 1 = ((j + 1 : Nat) : Int) := by omega
    have key : ∀ v, v = ((lcs (a.drop i) (b.drop j) : Nat) : Int) → ∃ r, Ev (fun k => diff_table.l2 k a b (T.set i ((row T i).set j v)) (i : Int) ((j : Int) - 1)) r ∧ IsTab a b r := by
      intro v hv
      obtain ⟨h1, h2⟩ := hR.put hS hi (by omega) v hv
      exact ih _ (by omega) h1 h2 next
    by_cases e : a[i] = b[j]
    · have hv : (lcs (a.drop i) (b.drop j) : Nat) = lcs (a.drop (i + 1)) (b.drop (j + 1)) + 1 := by rw [drop_cons a i hi, drop_cons b j (by omega), e, lcs_same]
      have hbound := lcs_bound a b ha (i + 1) (j + 1)
      obtain ⟨r, hr, ht⟩ := key (IntKind.u16.wrap (rd (rd_L2 T (i + 1)) (j + 1) + 1)) (by
        rw [ei, ej, rd_row, rd_nat, ← ent_row, (hR (i + 1) (j + 1) (by omega) (by omega)).1 (.inl (by omega)), hv]
        push_cast
        simp only [IntKind.wrap, IntKind.signed, IntKind.bits]
        simp
        omega)
      refine ⟨r, Ev.step (fun k => ?_) hr, ht⟩
      rw [diff_table.l2, e1, if_pos (by omega), if_pos (by omega), if_pos (by omega), if_pos (by omega), if_pos (by omega), rdB_at a i hi, rdB_at b j (by omega), if_pos (by rw [e]), w64 (by omega) (by omega), w64 (by omega) (by omega), if_pos (by omega), if_pos (by omega), if_pos (by omega), if_pos (by omega), if_pos (by rw [ei, rd_row, hr1]; omega), if_pos (by rw [rd_row, hr0]; omega), w64 (by omega) (by omega)]
      simp only [Int.toNat_natCast, rd_row]
    · have hv : (lcs (a.drop i) (b.drop j) : Nat) = max (lcs (a.drop (i + 1)) (b.drop j)) (lcs (a.drop i) (b.drop (j + 1))) := by rw [drop_cons a i hi, drop_cons b j (by omega), lcs_ne e]
      obtain ⟨r, hr, ht⟩ := key (mx (rd (rd_L2 T (i + 1)) j) (rd (rd_L2 T i) (j + 1))) (by
        rw [ei, ej, rd_row, rd_row, rd_nat, rd_nat, ← ent_row, ← ent_row, (hR (i + 1) j (by omega) (by omega)).1 (.inl (by omega)), (hR i (j + 1) (by omega) (by omega)).1 (.inr ⟨rfl, Nat.le_refl _⟩), hv]
        unfold mx
        omega)
      refine ⟨r, Ev.step (fun k => ?_) hr, ht⟩
      rw [diff_table.l2, e1, if_pos (by omega), if_pos (by omega), if_pos (by omega), if_pos (by omega), if_pos (by omega), rdB_at a i hi, rdB_at b j (by omega), if_neg (by rw [tl_inj]; exact e), w64 (by omega) (by omega), w64 (by omega) (by omega), if_pos (by omega), if_pos (by omega), if_pos (by omega), if_pos (by rw [ei, rd_row, hr1]; omega), if_pos (by omega), if_pos (by rw [rd_row, hr0]; omega), if_pos (by rw [rd_row, hr0]; omega), w64 (by omega) (by omega)]
      simp only [Int.toNat_natCast, rd_row]
theorem l1_ev (a b : List ByteArray) (ha : a.length ≤ 4096) (hb : b.length ≤ 4096) : ∀ (i : Nat) (T : List (List Int)), i ≤ a.length → Sized T a.length b.length → Right a b T i 0 → ∃ r, Ev (fun k => diff_table.l1 k a b T ((i : Int) - 1)) r ∧ IsTab a b r := by
  intro i
  induction i with
  | zero =>
    intro T _ hS hR
    refine ⟨T, Ev.end_ fun k => ?_, hS, fun r c hr hc => (hR r c hr hc).1 (by omega)⟩
    rw [diff_table.l1, if_neg (by omega)]
  | succ i ih =>
    intro T hi hS hR
    have e1 : ((i + 1 : Nat) : Int) - 1 = (i : Int) := by omega
    have hR' : Right a b T i (b.length + 1) := fun r c hr hc => ⟨fun hy => (hR r c hr hc).1 (by omega), fun hn => (hR r c hr hc).2 (by omega)⟩
    -- the last column is 0, and right
    have hR2 : Right a b T i b.length := fun r c hr hc => by
      refine ⟨fun hy => ?_, fun hn => (hR' r c hr hc).2 (by omega)⟩
      by_cases e : i < r
      · exact (hR' r c hr hc).1 (.inl e)
      · have er : r = i := by omega
        have ec : c = b.length := by omega
        subst er ec
        rw [(hR' r b.length hr hc).2 (by omega), List.drop_length, lcs_nil2]
        rfl
    obtain ⟨r, hr, ht⟩ := l2_ev a b ha hb i (by omega) T b.length T (Nat.le_refl _) hS hR2 (fun T' hS' hR'' => ih T' (by omega) hS' hR'')
    refine ⟨r, Ev.step (fun k => ?_) hr, ht⟩
    rw [diff_table.l1, e1, if_pos (by omega), w64 (by omega) (by omega)]
theorem l0_ev (a b : List ByteArray) (ha : a.length ≤ 4096) (hb : b.length ≤ 4096) : ∀ (d i : Nat) (T : List (List Int)), i + d = a.length + 1 → T.length = a.length + 1 → (∀ r, r < i → row T r = List.replicate (b.length + 1) 0) →
    ∃ r, Ev (fun k => diff_table.l0 k a b T ((a.length : Int) + 1) (i : Int)) r ∧ IsTab a b r := by
  intro d
  induction d with
  | zero =>
    intro i T hi hT hz
    have hS : Sized T a.length b.length := ⟨hT, fun r hr => by rw [hz r (by omega)]; simp⟩
    have h0 : ∀ r c, r ≤ a.length → ent T r c = 0 := fun r c hr => by
      rw [ent_row, hz r (by omega), List.getD_eq_getElem?_getD, List.getElem?_replicate]
      split <;> rfl
    have hR : Right a b T a.length 0 := fun r c hr hc => by
      refine ⟨fun hy => ?_, fun _ => h0 r c hr⟩
      have er : r = a.length := by omega
      subst er
      rw [h0 _ c hr, List.drop_length, lcs_nil]
      rfl
    obtain ⟨r, hr, ht⟩ := l1_ev a b ha hb a.length T (Nat.le_refl _) hS hR
    refine ⟨r, Ev.step (fun k => ?_) hr, ht⟩
    rw [diff_table.l0, if_neg (by omega), w64 (by omega) (by omega)]
  | succ d ih =>
    intro i T hi hT hz
    have hrep : (List.replicate (wrap64 ((b.length : Int) + 1)).toNat (0 : Int)) = List.replicate (b.length + 1) 0 := by rw [w64 (by omega) (by omega), show ((b.length : Int) + 1).toNat = b.length + 1 by omega]
    obtain ⟨r, hr, ht⟩ := ih (i + 1) (T.set i (List.replicate (b.length + 1) 0)) (by omega) (by rw [List.length_set, hT]) (fun r hr => by
      rw [row_set _ _ _ _ (by omega)]
      split
      · rfl
      · exact hz r (by omega))
    refine ⟨r, Ev.step (fun k => ?_) hr, ht⟩
    rw [diff_table.l0, hrep, if_pos (by omega), if_pos (by rw [w64 (by omega) (by omega)]; omega), if_pos (by rw [w64 (by omega) (by omega)]; omega), if_pos (by omega), if_pos (by rw [hT]; omega), w64 (n := (i : Int) + 1) (by omega) (by omega), Int.toNat_natCast]
    rfl
theorem table_ev (a b : List ByteArray) (ha : a.length ≤ 4096) (hb : b.length ≤ 4096) : ∃ r, Ev (fun k => diff_table.f k a b) r ∧ IsTab a b r := by
  obtain ⟨r, hr, ht⟩ := l0_ev a b ha hb (a.length + 1) 0 (List.replicate (a.length + 1) []) (by omega) (by simp) (fun r hr => by omega)
  refine ⟨r, Ev.congr (fun k => ?_) hr, ht⟩
  unfold diff_table.f
  have e : wrap64 ((a.length : Int) + 1) = (a.length : Int) + 1 := w64 (by omega) (by omega)
  rw [e, if_pos (by omega), if_pos (by omega), show ((a.length : Int) + 1).toNat = a.length + 1 by omega]
  simp only [Option.bind_some, List.length_replicate]
  push_cast
  rfl
/-- The edits of an alignment, as Least's second loop makes them. -/
def edits (h : Int) : List Op → Nat → Nat → Bool → List S44 → List S44
  | [], _, _, _, out => out
  | Op.K :: o, i, j, _, out => edits h o (i + 1) (j + 1) false out
  | Op.D :: o, i, j, op, out => edits h o (i + 1) j true (diff_Least.del (diff_Least.open_ h i j op out))
  | Op.I :: o, i, j, op, out => edits h o i (j + 1) true (diff_Least.ins (diff_Least.open_ h i j op out))
theorem go_is (a b : List ByteArray) (T : List (List Int)) (hT : IsTab a b T) (h : Int) : ∀ (n i j : Nat) (op : Bool) (out : List S44), i ≤ a.length → j ≤ b.length → a.length - i + (b.length - j) < n →
    diff_Least.go a b T h n i j op out = some (edits h (greedy (a.drop i) (b.drop j)) i j op out) := by
  intro n
  induction n with
  | zero => intro i j op out _ _ h; omega
  | succ n ih =>
    intro i j op out hi hj hn
    rw [diff_Least.go]
    by_cases hia : i < a.length
    · rw [if_pos hia]
      by_cases hjb : j < b.length
      · rw [if_pos hjb, rdB_at a i hia, rdB_at b j hjb, drop_cons a i hia, drop_cons b j hjb, greedy]
        by_cases e : a[i] = b[j]
        · rw [if_pos (by rw [e]), if_pos e, edits]
          exact ih (i + 1) (j + 1) _ _ (by omega) (by omega) (by omega)
        · have ei : (i : Int) + 1 = ((i + 1 : Nat) : Int) := by omega
          have ej : (j : Int) + 1 = ((j + 1 : Nat) : Int) := by omega
          rw [if_neg (by rw [tl_inj]; exact e), if_neg e, if_pos (by rw [hT.1.1]; omega), if_pos (by rw [rd_row, hT.1.2 i (by omega)]; omega), if_pos (by rw [ei, rd_row, hT.1.2 (i + 1) (by omega)]; omega)]
          rw [ei, ej, rd_row, rd_row, rd_nat, rd_nat, ← ent_row, ← ent_row, hT.2 i (j + 1) (by omega) (by omega), hT.2 (i + 1) j (by omega) (by omega)]
          rw [← drop_cons a i hia, ← drop_cons b j hjb]
          by_cases c : lcs (a.drop i) (b.drop (j + 1)) ≤ lcs (a.drop (i + 1)) (b.drop j)
          · rw [if_pos (by omega), if_pos c, edits]
            exact ih (i + 1) j _ _ (by omega) (by omega) (by omega)
          · rw [if_neg (by omega), if_neg c, edits]
            exact ih i (j + 1) _ _ (by omega) (by omega) (by omega)
      · rw [if_neg hjb]
        have hb0 : b.drop j = [] := List.drop_eq_nil_of_le (by omega)
        rw [hb0, drop_cons a i hia, greedy, edits, ← hb0]
        exact ih (i + 1) j _ _ (by omega) (by omega) (by omega)
    · rw [if_neg hia]
      have ha0 : a.drop i = [] := List.drop_eq_nil_of_le (by omega)
      by_cases hjb : j < b.length
      · rw [if_pos hjb, ha0, drop_cons b j hjb, greedy, edits, ← ha0]
        exact ih i (j + 1) _ _ (by omega) (by omega) (by omega)
      · rw [if_neg hjb, ha0, List.drop_eq_nil_of_le (show b.length ≤ j by omega), greedy, edits]
end Go.Proofs.Ytikepmdhnbnohaa.Pl
end
-- text YtikepmdhnbnohaaPlLeast
section
/- What diff.Least answers: the script of the greedy alignment (lists of at most 4096 lines), and one edit or none beyond. Conditions: lists shorter than 2^62. -/
namespace Go.Proofs.Ytikepmdhnbnohaa.Pl
open Go.RowKit Go.Proofs.YtikepmdhnbnohaaW.PrintWords Go.Proofs.Ytikepmdhnbnohaa.P
set_option linter.unusedSimpArgs false
set_option linter.unusedVariables false
theorem equal_loop (a b : List ByteArray) (hl : a.length = b.length) (hb : a.length < 4611686018427387904) : ∀ (d i : Nat), i + d = a.length →
    Ev (fun k => slices_Equal_string_string.l0 k a b (a.length : Int) (i : Int)) (decide (a.drop i = b.drop i)) := by
  intro d
  induction d with
  | zero =>
    intro i hi
    refine Ev.end_ fun k => ?_
    rw [slices_Equal_string_string.l0, if_neg (by omega), List.drop_eq_nil_of_le (show a.length ≤ i by omega), List.drop_eq_nil_of_le (show b.length ≤ i by omega)]
    simp
  | succ d ih =>
    intro i hi
    by_cases e : a[i]'(by omega) = b[i]'(by omega)
    · have hd : (a.drop i = b.drop i) ↔ (a.drop (i + 1) = b.drop (i + 1)) := by
        rw [drop_cons a i (by omega), drop_cons b i (by omega), e]
        exact ⟨fun h => (List.cons.inj h).2, fun h => by rw [h]⟩
      rw [decide_eq_decide.2 hd]
      refine Ev.step (fun k => ?_) (ih (i + 1) (by omega))
      rw [slices_Equal_string_string.l0, if_pos (by omega), if_pos (by omega), if_pos (by omega), if_pos (by omega), rdB_at a i (by omega), rdB_at b i (by omega), if_pos (by rw [e]), w64 (by omega) (by omega)]
      rfl
    · have hd : ¬ a.drop i = b.drop i := by
        rw [drop_cons a i (by omega), drop_cons b i (by omega)]
        exact fun h => e (List.cons.inj h).1
      rw [decide_eq_false hd]
      refine Ev.end_ fun k => ?_
      rw [slices_Equal_string_string.l0, if_pos (by omega), if_pos (by omega), if_pos (by omega), if_pos (by omega), rdB_at a i (by omega), rdB_at b i (by omega), if_neg (by rw [tl_inj]; exact e)]
theorem equal_ev (a b : List ByteArray) (hb : a.length < 4611686018427387904) : Ev (fun k => slices_Equal_string_string.f k a b) (decide (a = b)) := by
  by_cases hl : a.length = b.length
  · have := equal_loop a b hl hb a.length 0 (by omega)
    refine Ev.congr (fun k => ?_) this
    unfold slices_Equal_string_string.f
    rw [if_pos (by omega)]
    rfl
  · refine ⟨0, fun k _ => ?_⟩
    show slices_Equal_string_string.f k a b = _
    unfold slices_Equal_string_string.f
    rw [if_neg (by omega), decide_eq_false (fun e => hl (by rw [e]))]
theorem last_snoc (out : List Ed) (e : Ed) : diff_Least.last (out ++ [e]) = e := by simp [diff_Least.last, List.getD_eq_getElem?_getD]
theorem del_snoc (out : List Ed) (e : Ed) : diff_Least.del (out ++ [e]) = out ++ [⟨e.f0, wrap64 (e.f1 + 1), e.f2, e.f3⟩] := by
  unfold diff_Least.del
  rw [last_snoc]
  simp
theorem ins_snoc (out : List Ed) (e : Ed) : diff_Least.ins (out ++ [e]) = out ++ [⟨e.f0, e.f1, e.f2, wrap64 (e.f3 + 1)⟩] := by
  unfold diff_Least.ins
  rw [last_snoc]
  simp
theorem edits_scr (h : Int) : ∀ (o : List Op) (i j : Nat), (∀ out, edits h o i j false out = out ++ scr o (h + i) (h + j) none ∨ 1000000 < o.length) ∧
    (∀ (out : List Ed) (e : Ed), 0 ≤ e.f1 → 0 ≤ e.f3 → e.f1 + o.length ≤ 2000000 → e.f3 + o.length ≤ 2000000 → edits h o i j true (out ++ [e]) = out ++ scr o (h + i) (h + j) (some e) ∨ 1000000 < o.length) := by
  intro o
  induction o with
  | nil => intro i j; exact ⟨fun out => .inl (by simp [edits, scr]), fun out e _ _ _ _ => .inl (by simp [edits, scr])⟩
  | cons q o ih =>
    intro i j
    by_cases hbig : 1000000 < (q :: o).length
    · exact ⟨fun _ => .inr hbig, fun _ _ _ _ _ _ => .inr hbig⟩
    have hlen : o.length < 1000000 := by simp only [List.length_cons] at hbig; omega
    have i1 : h + ((i + 1 : Nat) : Int) = h + i + 1 := by omega
    have j1 : h + ((j + 1 : Nat) : Int) = h + j + 1 := by omega
    cases q with
    | K =>
      have z := (ih (i + 1) (j + 1)).1
      rw [i1, j1] at z
      refine ⟨fun out => .inl ?_, fun out e _ _ _ _ => .inl ?_⟩
      · rw [edits, scr, (z out).resolve_right (by omega)]
        rfl
      · rw [edits, scr, (z (out ++ [e])).resolve_right (by omega), List.append_assoc]
        rfl
    | D =>
      have z := (ih (i + 1) j).2
      rw [i1] at z
      refine ⟨fun out => .inl ?_, fun out e h1 h3 h5 h6 => .inl ?_⟩
      · rw [edits, scr]
        have : diff_Least.open_ h i j false out = out ++ [⟨h + i, 0, h + j, 0⟩] := by unfold diff_Least.open_; rw [if_neg (by decide)]
        rw [this, del_snoc]
        dsimp only
        rw [w64 (n := 0 + 1) (by omega) (by omega), Int.zero_add]
        have zz := z out ⟨h + i, 1, h + j, 0⟩ (by dsimp only; omega) (by dsimp only; omega) (by dsimp only; omega) (by dsimp only; omega)
        exact zz.resolve_right (by omega)
      · rw [edits, scr]
        have : diff_Least.open_ h i j true (out ++ [e]) = out ++ [e] := by unfold diff_Least.open_; rw [if_pos rfl]
        simp only [List.length_cons] at h5 h6
        rw [this, del_snoc, w64 (by omega) (by omega)]
        have zz := z out ⟨e.f0, e.f1 + 1, e.f2, e.f3⟩ (by dsimp only; omega) (by dsimp only; omega) (by dsimp only; omega) (by dsimp only; omega)
        exact zz.resolve_right (by omega)
    | I =>
      have z := (ih i (j + 1)).2
      rw [j1] at z
      refine ⟨fun out => .inl ?_, fun out e h1 h3 h5 h6 => .inl ?_⟩
      · rw [edits, scr]
        have : diff_Least.open_ h i j false out = out ++ [⟨h + i, 0, h + j, 0⟩] := by unfold diff_Least.open_; rw [if_neg (by decide)]
        rw [this, ins_snoc]
        dsimp only
        rw [w64 (n := 0 + 1) (by omega) (by omega), Int.zero_add]
        have zz := z out ⟨h + i, 0, h + j, 1⟩ (by dsimp only; omega) (by dsimp only; omega) (by dsimp only; omega) (by dsimp only; omega)
        exact zz.resolve_right (by omega)
      · rw [edits, scr]
        have : diff_Least.open_ h i j true (out ++ [e]) = out ++ [e] := by unfold diff_Least.open_; rw [if_pos rfl]
        simp only [List.length_cons] at h5 h6
        rw [this, ins_snoc, w64 (by omega) (by omega)]
        have zz := z out ⟨e.f0, e.f1, e.f2, e.f3 + 1⟩ (by dsimp only; omega) (by dsimp only; omega) (by dsimp only; omega) (by dsimp only; omega)
        exact zz.resolve_right (by omega)
theorem scr_keeps (p : Nat) (o : List Op) : ∀ (i j : Int), scr (List.replicate p Op.K ++ o) i j none = scr o (i + p) (j + p) none := by
  induction p with
  | zero => intro i j; simp
  | succ p ih =>
    intro i j
    rw [List.replicate_succ, List.cons_append, scr, ih]
    simp only [Option.toList_none, List.nil_append]
    congr 1 <;> omega
theorem greedy_pre : ∀ (a b : List ByteArray), greedy a b = List.replicate (diff_Least.pre a b) Op.K ++ greedy (a.drop (diff_Least.pre a b)) (b.drop (diff_Least.pre a b))
  | [], b => by rw [diff_Least.pre]; rfl; intro _ _ _ _ h; cases h
  | x :: a, [] => by rw [diff_Least.pre]; rfl; intro _ _ _ _ _ h; cases h
  | x :: a, y :: b => by
    rw [diff_Least.pre]
    by_cases e : x = y
    · rw [if_pos (by rw [e]), greedy, if_pos e, List.replicate_succ, List.cons_append, List.drop_succ_cons, List.drop_succ_cons, ← greedy_pre a b]
    · rw [if_neg (by rw [tl_inj]; exact e)]
      rfl
theorem greedy_len (a b : List ByteArray) : (greedy a b).length ≤ a.length + b.length := by
  have h := (greedy_is a b).lens
  have : (greedy a b).length = kept (greedy a b) + paid (greedy a b) := by
    unfold kept paid
    have := List.length_eq_countP_add_countP (fun q => q == Op.K) (l := greedy a b)
    rw [this]
    congr 1
    apply List.countP_congr
    intro q _
    cases q <;> simp
  omega
def leastEd (a b : List ByteArray) : List Ed := if 4096 < a.length ∨ 4096 < b.length then (if a = b then [] else [⟨0, a.length, 0, b.length⟩]) else scr (greedy a b) 0 0 none
theorem pre_le : ∀ (a b : List ByteArray), diff_Least.pre a b ≤ a.length ∧ diff_Least.pre a b ≤ b.length
  | [], b => by rw [diff_Least.pre]; simp; intro _ _ _ _ h; cases h
  | x :: a, [] => by rw [diff_Least.pre]; simp; intro _ _ _ _ _ h; cases h
  | x :: a, y :: b => by
    rw [diff_Least.pre]
    have := pre_le a b
    simp only [List.length_cons]
    split <;> omega
theorem least_ev (a b : List ByteArray) (ha : a.length < 4611686018427387904) : Ev (fun k => diff_Least.f k a b) (leastEd a b) := by
  unfold leastEd
  by_cases c : 4096 < a.length ∨ 4096 < b.length
  · rw [if_pos c]
    have := Ev.bind (equal_ev a b ha) (f := fun _ e => some (if e = true then [] else [(⟨0, (a.length : Int), 0, (b.length : Int)⟩ : Ed)])) (r := if a = b then [] else [⟨0, a.length, 0, b.length⟩]) (Ev.some_ fun k => by
      by_cases e : a = b
      · rw [decide_eq_true e, if_pos rfl, if_pos e]
      · rw [decide_eq_false e, if_neg e]; rfl)
    refine Ev.congr (fun k => ?_) this
    unfold diff_Least.f
    rw [if_pos c]
  · rw [if_neg c]
    have hp := pre_le a b
    obtain ⟨T, hT, hTab⟩ := table_ev (a.drop (diff_Least.pre a b)) (b.drop (diff_Least.pre a b)) (by rw [List.length_drop]; omega) (by rw [List.length_drop]; omega)
    have hg := go_is _ _ T hTab (diff_Least.pre a b : Nat) ((a.drop (diff_Least.pre a b)).length + (b.drop (diff_Least.pre a b)).length + 1) 0 0 false [] (by omega) (by omega) (by omega)
    rw [List.drop_zero, List.drop_zero] at hg
    have hl := greedy_len (a.drop (diff_Least.pre a b)) (b.drop (diff_Least.pre a b))
    rw [List.length_drop, List.length_drop] at hl
    have he := ((edits_scr (diff_Least.pre a b : Nat) (greedy (a.drop (diff_Least.pre a b)) (b.drop (diff_Least.pre a b))) 0 0).1 []).resolve_right (by omega)
    have hs : scr (greedy a b) 0 0 none = scr (greedy (a.drop (diff_Least.pre a b)) (b.drop (diff_Least.pre a b))) (diff_Least.pre a b : Nat) (diff_Least.pre a b : Nat) none := by
      rw [greedy_pre a b, scr_keeps, Int.zero_add]
    rw [hs]
    simp only [List.nil_append, Int.natCast_zero, Int.add_zero] at he
    rw [he] at hg
    have := Ev.bind hT (f := fun _ t => diff_Least.go (a.drop (diff_Least.pre a b)) (b.drop (diff_Least.pre a b)) t (diff_Least.pre a b : Nat) ((a.drop (diff_Least.pre a b)).length + (b.drop (diff_Least.pre a b)).length + 1) 0 0 false []) (Ev.some_ fun k => hg)
    refine Ev.congr (fun k => ?_) this
    unfold diff_Least.f
    rw [if_neg c]
end Go.Proofs.Ytikepmdhnbnohaa.Pl
end
