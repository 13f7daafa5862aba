-- written by mp.py, a program of this session, over the kit's printer
import Derived.Test.YthphnacnjbcpiaaPx0
import Derived.Test.YthphnacnjbcpiaaPx3
namespace Go.Proofs.Ythphnacnjbcpiaa.P
open Go.RowKit Go.Proofs.YthphnacnjbcpiaaW.PrintWords Go.Proofs.YthphnacnjbcpiaaW.PrintLast Go.Proofs.YthphnacnjbcpiaaW.PrintMore
attribute [local go_sem] max2_int min2_int max_two min_two max_three min_three max_four min_four   -- for this text's walks alone
set_option linter.unusedVariables false
set_option linter.unusedSimpArgs false

/-! ### graftagelaw11_lives: function 9 -/
def graftagelaw11_lives.f (k : Nat)  : Option (Bool) := (simil_Common.f k (⟨#[97, 10, 98, 10]⟩ : ByteArray) (⟨#[98, 10, 99, 10]⟩ : ByteArray)).bind fun t119 => (if t119 = 2 then ((simil_Score.f k (⟨#[97, 10, 98, 10]⟩ : ByteArray) (⟨#[98, 10, 99, 10]⟩ : ByteArray)).bind fun t120 => (if t120 = 50 then ((simil_Score.f k (⟨#[97, 98]⟩ : ByteArray) (⟨#[97, 98, 99]⟩ : ByteArray)).bind fun t121 => (if t121 = 0 then ((simil_Score.f k (⟨#[]⟩ : ByteArray) (⟨#[]⟩ : ByteArray)).bind fun t122 => (some (t122 == 100))) else (some false))) else (some false))) else (some false))
theorem graftagelaw11_lives.mono : ∀ k, LeO (graftagelaw11_lives.f k ) (graftagelaw11_lives.f (k + 1) ) := by
  intro  k
  unfold graftagelaw11_lives.f
  repeat' first
      | (with_reducible exact simil_Common.mono _ _ _)
      | (with_reducible exact simil_Score.mono _ _ _)
      | (with_reducible exact LeO.refl _)
      | (with_reducible exact LeO.none _)
      | (with_reducible refine LeO.ite ?_ ?_)
      | (with_reducible refine LeO.bind ?_ (fun _ => ?_))
      | exact simil_Common.mono _ _ _
      | exact simil_Score.mono _ _ _
      | exact LeO.none _
      | refine LeO.ite ?_ ?_
      | refine LeO.bind ?_ (fun _ => ?_)
set_option maxHeartbeats 8000000 in
set_option maxRecDepth 100000 in
theorem graftagelaw11_lives.calls (k : Nat)  (r : Bool) (w : World) (h : graftagelaw11_lives.f k  = some r) :
    Calls Try.prog 9 #[] w fun e w' => e = .returned (.bool r) ∧ Below w.heap.size w w' := by
  have HB := Aside0.mk (Below.refl w.heap.size w)
  have H : ((simil_Common.f k (⟨#[97, 10, 98, 10]⟩ : ByteArray) (⟨#[98, 10, 99, 10]⟩ : ByteArray)).bind fun t119 => (if t119 = 2 then ((simil_Score.f k (⟨#[97, 10, 98, 10]⟩ : ByteArray) (⟨#[98, 10, 99, 10]⟩ : ByteArray)).bind fun t120 => (if t120 = 50 then ((simil_Score.f k (⟨#[97, 98]⟩ : ByteArray) (⟨#[97, 98, 99]⟩ : ByteArray)).bind fun t121 => (if t121 = 0 then ((simil_Score.f k (⟨#[]⟩ : ByteArray) (⟨#[]⟩ : ByteArray)).bind fun t122 => (some (t122 == 100))) else (some false))) else (some false))) else (some false))) = some r := h
  clear h
  replace H := Option.bind_eq_some_iff.mp H
  obtain ⟨t119, A10, H⟩ := H
  replace H : (if t119 = 2 then ((simil_Score.f k (⟨#[97, 10, 98, 10]⟩ : ByteArray) (⟨#[98, 10, 99, 10]⟩ : ByteArray)).bind fun t120 => (if t120 = 50 then ((simil_Score.f k (⟨#[97, 98]⟩ : ByteArray) (⟨#[97, 98, 99]⟩ : ByteArray)).bind fun t121 => (if t121 = 0 then ((simil_Score.f k (⟨#[]⟩ : ByteArray) (⟨#[]⟩ : ByteArray)).bind fun t122 => (some (t122 == 100))) else (some false))) else (some false))) else (some false)) = some r := H
  have A1 := Aside0.mk A10
  clear A10
  by_cases c2 : t119 = 2
  · rw [if_pos c2] at H
    have c2b0 : (t119 == 2) = true := beq_iff_eq.mpr c2
    have c2b1 : (t119 != 2) = false := bne_eq_false_iff_eq.mpr c2
    clear c2
    replace H := Option.bind_eq_some_iff.mp H
    obtain ⟨t120, A30, H⟩ := H
    replace H : (if t120 = 50 then ((simil_Score.f k (⟨#[97, 98]⟩ : ByteArray) (⟨#[97, 98, 99]⟩ : ByteArray)).bind fun t121 => (if t121 = 0 then ((simil_Score.f k (⟨#[]⟩ : ByteArray) (⟨#[]⟩ : ByteArray)).bind fun t122 => (some (t122 == 100))) else (some false))) else (some false)) = some r := H
    have A3 := Aside0.mk A30
    clear A30
    by_cases c4 : t120 = 50
    · rw [if_pos c4] at H
      have c4b0 : (t120 == 50) = true := beq_iff_eq.mpr c4
      have c4b1 : (t120 != 50) = false := bne_eq_false_iff_eq.mpr c4
      clear c4
      replace H := Option.bind_eq_some_iff.mp H
      obtain ⟨t121, A50, H⟩ := H
      replace H : (if t121 = 0 then ((simil_Score.f k (⟨#[]⟩ : ByteArray) (⟨#[]⟩ : ByteArray)).bind fun t122 => (some (t122 == 100))) else (some false)) = some r := H
      have A5 := Aside0.mk A50
      clear A50
      by_cases c6 : t121 = 0
      · rw [if_pos c6] at H
        have c6b0 : (t121 == 0) = true := beq_iff_eq.mpr c6
        have c6b1 : (t121 != 0) = false := bne_eq_false_iff_eq.mpr c6
        clear c6
        replace H := Option.bind_eq_some_iff.mp H
        obtain ⟨t122, A70, H⟩ := H
        replace H : (some (t122 == 100)) = some r := H
        have A7 := Aside0.mk A70
        clear A70
        obtain rfl := Option.some.inj H
        go_enter Try.func9, Try.ntmps9
        go_wp2_with (first | ((with_reducible refine gate_callee (f := 11) rfl ?_); refine goesL_ (some 1) rfl rfl Try.func11 (by kernel_rfl) rfl #[.string (⟨#[97, 10, 98, 10]⟩ : ByteArray), .string (⟨#[98, 10, 99, 10]⟩ : ByteArray)] rfl (by (try simp only [List.map_toArray, List.map_cons, List.map_nil]); first | done | rfl | (simp only [List.length_drop, List.length_take]; rfl)) ?_; (with_reducible refine (simil_Common.calls k (⟨#[97, 10, 98, 10]⟩ : ByteArray) (⟨#[98, 10, 99, 10]⟩ : ByteArray) t119 _ A1.out).mono ?_); rintro e w8 ⟨rfl, hb⟩; refine ⟨_, rfl, ?_⟩; have n0_ := Aside0.mk (below_step (by repeat (first | (with_reducible first | exact HB.out | apply below_alloc | apply pw_below_drewN | apply below_drew1) | exact HB.out)) hb); clear HB; have HB := n0_; clear n0_; (try clear hb); (try clear hb2); (try clear hk); (try clear hi)) | (go_at_call 10; (with_reducible refine (simil_Score.calls k (⟨#[97, 10, 98, 10]⟩ : ByteArray) (⟨#[98, 10, 99, 10]⟩ : ByteArray) t120 _ A3.out).mono ?_); rintro e w9 ⟨rfl, hb⟩; have n0_ := Aside0.mk (below_step (by repeat (first | (with_reducible first | exact HB.out | apply below_alloc | apply pw_below_drewN | apply below_drew1) | exact HB.out)) hb); clear HB; have HB := n0_; clear n0_; (try clear hb); (try clear hb2); (try clear hk); (try clear hi)) | (go_at_call 10; (with_reducible refine (simil_Score.calls k (⟨#[97, 98]⟩ : ByteArray) (⟨#[97, 98, 99]⟩ : ByteArray) t121 _ A5.out).mono ?_); rintro e w10 ⟨rfl, hb⟩; have n0_ := Aside0.mk (below_step (by repeat (first | (with_reducible first | exact HB.out | apply below_alloc | apply pw_below_drewN | apply below_drew1) | exact HB.out)) hb); clear HB; have HB := n0_; clear n0_; (try clear hb); (try clear hb2); (try clear hk); (try clear hi)) | (go_at_call 10; (with_reducible refine (simil_Score.calls k (⟨#[]⟩ : ByteArray) (⟨#[]⟩ : ByteArray) t122 _ A7.out).mono ?_); rintro e w11 ⟨rfl, hb⟩; have n0_ := Aside0.mk (below_step (by repeat (first | (with_reducible first | exact HB.out | apply below_alloc | apply pw_below_drewN | apply below_drew1) | exact HB.out)) hb); clear HB; have HB := n0_; clear n0_; (try clear hb); (try clear hb2); (try clear hk); (try clear hi)))
        go_ret
        exact ⟨by first | rfl | (simp [errW_none, errW_some] <;> rfl) | (simp [*, errW_none, errW_some] <;> rfl), by repeat (first | (with_reducible first | exact HB.out | apply below_alloc | apply pw_below_drewN | apply below_drew1) | exact HB.out)⟩
      · rw [if_neg c6] at H
        have c6b0 : (t121 == 0) = false := beq_eq_false_iff_ne.mpr c6
        have c6b1 : (t121 != 0) = true := bne_iff_ne.mpr c6
        obtain rfl := Option.some.inj H
        go_enter Try.func9, Try.ntmps9
        go_wp2_with (first | ((with_reducible refine gate_callee (f := 11) rfl ?_); refine goesL_ (some 1) rfl rfl Try.func11 (by kernel_rfl) rfl #[.string (⟨#[97, 10, 98, 10]⟩ : ByteArray), .string (⟨#[98, 10, 99, 10]⟩ : ByteArray)] rfl (by (try simp only [List.map_toArray, List.map_cons, List.map_nil]); first | done | rfl | (simp only [List.length_drop, List.length_take]; rfl)) ?_; (with_reducible refine (simil_Common.calls k (⟨#[97, 10, 98, 10]⟩ : ByteArray) (⟨#[98, 10, 99, 10]⟩ : ByteArray) t119 _ A1.out).mono ?_); rintro e w12 ⟨rfl, hb⟩; refine ⟨_, rfl, ?_⟩; have n0_ := Aside0.mk (below_step (by repeat (first | (with_reducible first | exact HB.out | apply below_alloc | apply pw_below_drewN | apply below_drew1) | exact HB.out)) hb); clear HB; have HB := n0_; clear n0_; (try clear hb); (try clear hb2); (try clear hk); (try clear hi)) | (go_at_call 10; (with_reducible refine (simil_Score.calls k (⟨#[97, 10, 98, 10]⟩ : ByteArray) (⟨#[98, 10, 99, 10]⟩ : ByteArray) t120 _ A3.out).mono ?_); rintro e w13 ⟨rfl, hb⟩; have n0_ := Aside0.mk (below_step (by repeat (first | (with_reducible first | exact HB.out | apply below_alloc | apply pw_below_drewN | apply below_drew1) | exact HB.out)) hb); clear HB; have HB := n0_; clear n0_; (try clear hb); (try clear hb2); (try clear hk); (try clear hi)) | (go_at_call 10; (with_reducible refine (simil_Score.calls k (⟨#[97, 98]⟩ : ByteArray) (⟨#[97, 98, 99]⟩ : ByteArray) t121 _ A5.out).mono ?_); rintro e w14 ⟨rfl, hb⟩; have n0_ := Aside0.mk (below_step (by repeat (first | (with_reducible first | exact HB.out | apply below_alloc | apply pw_below_drewN | apply below_drew1) | exact HB.out)) hb); clear HB; have HB := n0_; clear n0_; (try clear hb); (try clear hb2); (try clear hk); (try clear hi)))
        go_ret
        exact ⟨by first | rfl | (simp [errW_none, errW_some] <;> rfl) | (simp [*, errW_none, errW_some] <;> rfl), by repeat (first | (with_reducible first | exact HB.out | apply below_alloc | apply pw_below_drewN | apply below_drew1) | exact HB.out)⟩
    · rw [if_neg c4] at H
      have c4b0 : (t120 == 50) = false := beq_eq_false_iff_ne.mpr c4
      have c4b1 : (t120 != 50) = true := bne_iff_ne.mpr c4
      obtain rfl := Option.some.inj H
      go_enter Try.func9, Try.ntmps9
      go_wp2_with (first | ((with_reducible refine gate_callee (f := 11) rfl ?_); refine goesL_ (some 1) rfl rfl Try.func11 (by kernel_rfl) rfl #[.string (⟨#[97, 10, 98, 10]⟩ : ByteArray), .string (⟨#[98, 10, 99, 10]⟩ : ByteArray)] rfl (by (try simp only [List.map_toArray, List.map_cons, List.map_nil]); first | done | rfl | (simp only [List.length_drop, List.length_take]; rfl)) ?_; (with_reducible refine (simil_Common.calls k (⟨#[97, 10, 98, 10]⟩ : ByteArray) (⟨#[98, 10, 99, 10]⟩ : ByteArray) t119 _ A1.out).mono ?_); rintro e w15 ⟨rfl, hb⟩; refine ⟨_, rfl, ?_⟩; have n0_ := Aside0.mk (below_step (by repeat (first | (with_reducible first | exact HB.out | apply below_alloc | apply pw_below_drewN | apply below_drew1) | exact HB.out)) hb); clear HB; have HB := n0_; clear n0_; (try clear hb); (try clear hb2); (try clear hk); (try clear hi)) | (go_at_call 10; (with_reducible refine (simil_Score.calls k (⟨#[97, 10, 98, 10]⟩ : ByteArray) (⟨#[98, 10, 99, 10]⟩ : ByteArray) t120 _ A3.out).mono ?_); rintro e w16 ⟨rfl, hb⟩; have n0_ := Aside0.mk (below_step (by repeat (first | (with_reducible first | exact HB.out | apply below_alloc | apply pw_below_drewN | apply below_drew1) | exact HB.out)) hb); clear HB; have HB := n0_; clear n0_; (try clear hb); (try clear hb2); (try clear hk); (try clear hi)))
      go_ret
      exact ⟨by first | rfl | (simp [errW_none, errW_some] <;> rfl) | (simp [*, errW_none, errW_some] <;> rfl), by repeat (first | (with_reducible first | exact HB.out | apply below_alloc | apply pw_below_drewN | apply below_drew1) | exact HB.out)⟩
  · rw [if_neg c2] at H
    have c2b0 : (t119 == 2) = false := beq_eq_false_iff_ne.mpr c2
    have c2b1 : (t119 != 2) = true := bne_iff_ne.mpr c2
    obtain rfl := Option.some.inj H
    go_enter Try.func9, Try.ntmps9
    go_wp2_with (first | ((with_reducible refine gate_callee (f := 11) rfl ?_); refine goesL_ (some 1) rfl rfl Try.func11 (by kernel_rfl) rfl #[.string (⟨#[97, 10, 98, 10]⟩ : ByteArray), .string (⟨#[98, 10, 99, 10]⟩ : ByteArray)] rfl (by (try simp only [List.map_toArray, List.map_cons, List.map_nil]); first | done | rfl | (simp only [List.length_drop, List.length_take]; rfl)) ?_; (with_reducible refine (simil_Common.calls k (⟨#[97, 10, 98, 10]⟩ : ByteArray) (⟨#[98, 10, 99, 10]⟩ : ByteArray) t119 _ A1.out).mono ?_); rintro e w17 ⟨rfl, hb⟩; refine ⟨_, rfl, ?_⟩; have n0_ := Aside0.mk (below_step (by repeat (first | (with_reducible first | exact HB.out | apply below_alloc | apply pw_below_drewN | apply below_drew1) | exact HB.out)) hb); clear HB; have HB := n0_; clear n0_; (try clear hb); (try clear hb2); (try clear hk); (try clear hi)))
    go_ret
    exact ⟨by first | rfl | (simp [errW_none, errW_some] <;> rfl) | (simp [*, errW_none, errW_some] <;> rfl), by repeat (first | (with_reducible first | exact HB.out | apply below_alloc | apply pw_below_drewN | apply below_drew1) | exact HB.out)⟩

end Go.Proofs.Ythphnacnjbcpiaa.P
