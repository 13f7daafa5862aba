-- written by mp.py, a program of this session, over the kit's printer
import Derived.Test.YthphnacnjbcpiaaPx0
import Derived.Test.YthphnacnjbcpiaaPx1
import Derived.Test.YthphnacnjbcpiaaPx3
import Derived.Test.YthphnacnjbcpiaaPx4
import Derived.Test.YthphnacnjbcpiaaPx11
import Derived.Test.YthphnacnjbcpiaaPx12
namespace Go.Proofs.Ythphnacnjbcpiaa.P
open Go.RowKit Go.Proofs.YthphnacnjbcpiaaW.PrintWords Go.Proofs.YthphnacnjbcpiaaW.PrintLast Go.Proofs.YthphnacnjbcpiaaW.PrintMore
attribute [local go_sem] max2_int min2_int max_two min_two max_three min_three max_four min_four   -- for this text's walks alone
set_option linter.unusedVariables false
set_option linter.unusedSimpArgs false

/-! ### graftagelaw11_SimilTells: function 6 -/
def graftagelaw11_SimilTells.j0 : Nat → ByteArray → ByteArray → Int → Bool → Option (Bool)
  | 0, _, _, _, _ => none
  | k + 1, x0, x1, x2, x14 => if x14 = true then ((graftagelaw11_lives.f k).bind fun t210 => (some t210)) else ((simil_Common.f k x0 x1).bind fun t211 => ((graftageref11_Common.f k x0 x1).bind fun t212 => (if t211 = t212 then ((simil_Score.f k x0 x1).bind fun t213 => ((graftageref11_Score.f k x0 x1).bind fun t214 => (if t213 = t214 then ((simil_AtLeast.f k x0 x1 x2).bind fun t215 => ((graftageref11_Above.f k x0 x1 x2).bind fun t216 => (if (t215 == t216) = true then ((graftagelaw11_lives.f k).bind fun t217 => (some t217)) else (some false)))) else (some false)))) else (some false))))
def graftagelaw11_SimilTells.f (k : Nat) (a0 : ByteArray) (a1 : ByteArray) (a2 : Int) : Option (Bool) := (graftagelaw11_few.f k a0).bind fun t208 => (if t208 = true then ((graftagelaw11_few.f k a1).bind fun t209 => (graftagelaw11_SimilTells.j0 k a0 a1 a2 (!t209))) else (graftagelaw11_SimilTells.j0 k a0 a1 a2 true))
theorem graftagelaw11_SimilTells.mono_l : ∀ k, (∀ y0 y1 y2 y3, LeO (graftagelaw11_SimilTells.j0 k y0 y1 y2 y3) (graftagelaw11_SimilTells.j0 (k + 1) y0 y1 y2 y3))
  | 0 => fun _ _ _ _ r h => by simp [graftagelaw11_SimilTells.j0] at h
  | k + 1 => by
    have ih0 := graftagelaw11_SimilTells.mono_l k
    · intro y0 y1 y2 y3
      unfold graftagelaw11_SimilTells.j0
      repeat' first
      | (with_reducible exact ih0 _ _ _ _)
      | (with_reducible exact graftagelaw11_few.mono _ _)
      | (with_reducible exact graftagelaw11_lives.mono _)
      | (with_reducible exact graftageref11_Above.mono _ _ _ _)
      | (with_reducible exact graftageref11_Common.mono _ _ _)
      | (with_reducible exact graftageref11_Score.mono _ _ _)
      | (with_reducible exact simil_AtLeast.mono _ _ _ _)
      | (with_reducible exact simil_Common.mono _ _ _)
      | (with_reducible exact simil_Score.mono _ _ _)
      | (with_reducible exact LeO.refl _)
      | (with_reducible exact LeO.none _)
      | (with_reducible refine LeO.ite ?_ ?_)
      | (with_reducible refine LeO.bind ?_ (fun _ => ?_))
      | exact ih0 _ _ _ _
      | exact graftagelaw11_few.mono _ _
      | exact graftagelaw11_lives.mono _
      | exact graftageref11_Above.mono _ _ _ _
      | exact graftageref11_Common.mono _ _ _
      | exact graftageref11_Score.mono _ _ _
      | exact simil_AtLeast.mono _ _ _ _
      | exact simil_Common.mono _ _ _
      | exact simil_Score.mono _ _ _
      | exact LeO.none _
      | refine LeO.ite ?_ ?_
      | refine LeO.bind ?_ (fun _ => ?_)
theorem graftagelaw11_SimilTells.mono : ∀ a0 a1 a2 k, LeO (graftagelaw11_SimilTells.f k a0 a1 a2) (graftagelaw11_SimilTells.f (k + 1) a0 a1 a2) := by
  intro a0 a1 a2 k
  have ih0 := graftagelaw11_SimilTells.mono_l k
  unfold graftagelaw11_SimilTells.f
  repeat' first
      | (with_reducible exact ih0 _ _ _ _)
      | (with_reducible exact graftagelaw11_few.mono _ _)
      | (with_reducible exact graftagelaw11_lives.mono _)
      | (with_reducible exact graftageref11_Above.mono _ _ _ _)
      | (with_reducible exact graftageref11_Common.mono _ _ _)
      | (with_reducible exact graftageref11_Score.mono _ _ _)
      | (with_reducible exact simil_AtLeast.mono _ _ _ _)
      | (with_reducible exact simil_Common.mono _ _ _)
      | (with_reducible exact simil_Score.mono _ _ _)
      | (with_reducible exact LeO.refl _)
      | (with_reducible exact LeO.none _)
      | (with_reducible refine LeO.ite ?_ ?_)
      | (with_reducible refine LeO.bind ?_ (fun _ => ?_))
      | exact ih0 _ _ _ _
      | exact graftagelaw11_few.mono _ _
      | exact graftagelaw11_lives.mono _
      | exact graftageref11_Above.mono _ _ _ _
      | exact graftageref11_Common.mono _ _ _
      | exact graftageref11_Score.mono _ _ _
      | exact simil_AtLeast.mono _ _ _ _
      | exact simil_Common.mono _ _ _
      | exact simil_Score.mono _ _ _
      | exact LeO.none _
      | refine LeO.ite ?_ ?_
      | refine LeO.bind ?_ (fun _ => ?_)
set_option maxHeartbeats 8000000 in
set_option maxRecDepth 100000 in
theorem graftagelaw11_SimilTells.calls (k : Nat) (a0 : ByteArray) (a1 : ByteArray) (a2 : Int) (r : Bool) (w : World) (h : graftagelaw11_SimilTells.f k a0 a1 a2 = some r) :
    Calls Try.prog 6 #[.string a0, .string a1, .int .i64 a2] w fun e w' => e = .returned (.bool r) ∧ Below w.heap.size w w' := by
  have HB := Aside0.mk (Below.refl w.heap.size w)
  have H : ((graftagelaw11_few.f k a0).bind fun t208 => (if t208 = true then ((graftagelaw11_few.f k a1).bind fun t209 => (graftagelaw11_SimilTells.j0 k a0 a1 a2 (!t209))) else (graftagelaw11_SimilTells.j0 k a0 a1 a2 true))) = some r := h
  clear h
  have HC4 := Aside0.mk H
  clear H
  go_enter Try.func6, Try.ntmps6
  go_upto_region 1 with (fail)
  go_cut [14] (fun v14 wc => ∃ (kq : Nat) (x14_3 : Bool), v14 = .bool x14_3 ∧ Aside0 (graftagelaw11_SimilTells.j0 kq a0 a1 a2 x14_3 = some r) ∧ Aside0 (kq ≤ k) ∧ Aside0 (Below w.heap.size w wc))
  case first =>
    have H := HC4.out
    clear HC4
    replace H := Option.bind_eq_some_iff.mp H
    obtain ⟨t208, A50, H⟩ := H
    replace H : (if t208 = true then ((graftagelaw11_few.f k a1).bind fun t209 => (graftagelaw11_SimilTells.j0 k a0 a1 a2 (!t209))) else (graftagelaw11_SimilTells.j0 k a0 a1 a2 true)) = some r := H
    have A5 := Aside0.mk A50
    clear A50
    by_cases c6 : t208 = true
    · subst c6
      have H1 : ((graftagelaw11_few.f k a1).bind fun t209 => (graftagelaw11_SimilTells.j0 k a0 a1 a2 (!t209))) = some r := by rw [if_pos rfl] at H; exact H
      clear H
      have H := H1
      clear H1
      replace H := Option.bind_eq_some_iff.mp H
      obtain ⟨t209, A70, H⟩ := H
      replace H : (graftagelaw11_SimilTells.j0 k a0 a1 a2 (!t209)) = some r := H
      have A7 := Aside0.mk A70
      clear A70
      have H' := Aside0.mk H
      clear H
      go_wp2_with (first | ((with_reducible refine gate_callee (f := 8) rfl ?_); refine goesL_ (some 8) rfl rfl Try.func8 (by kernel_rfl) rfl #[.string a0] rfl (by (try simp only [List.map_toArray, List.map_cons, List.map_nil]); first | done | rfl | (simp only [List.length_drop, List.length_take]; rfl)) ?_; (with_reducible refine (graftagelaw11_few.calls k a0 true _ A5.out).mono ?_); rintro e w8 ⟨rfl, hb⟩; refine ⟨_, rfl, ?_⟩; have n0_ := Aside0.mk (below_step (by repeat (first | (with_reducible first | exact HB.out | apply below_alloc | apply pw_below_drewN | apply below_drew1) | exact HB.out)) hb); clear HB; have HB := n0_; clear n0_; (try clear hb); (try clear hb2); (try clear hk); (try clear hi)) | (go_at_call 8; (with_reducible refine (graftagelaw11_few.calls k a1 t209 _ A7.out).mono ?_); rintro e w9 ⟨rfl, hb⟩; have n0_ := Aside0.mk (below_step (by repeat (first | (with_reducible first | exact HB.out | apply below_alloc | apply pw_below_drewN | apply below_drew1) | exact HB.out)) hb); clear HB; have HB := n0_; clear n0_; (try clear hb); (try clear hb2); (try clear hk); (try clear hi)))
      go_meet
      case rel => exact ⟨_, (!t209), (by first | rfl | (simp; done) | (simp [*]; done)), H', ⟨by first | omega | exact Nat.le_refl _⟩, ⟨by repeat (first | (with_reducible first | exact HB.out | apply below_alloc | apply pw_below_drewN | apply below_drew1) | exact HB.out)⟩⟩
    · replace c6 := Bool.eq_false_iff.mpr c6
      subst c6
      have H1 : (graftagelaw11_SimilTells.j0 k a0 a1 a2 true) = some r := by rw [if_neg (show ¬ (false = true) by decide)] at H; exact H
      clear H
      have H := H1
      clear H1
      have H' := Aside0.mk H
      clear H
      go_wp2_with (first | ((with_reducible refine gate_callee (f := 8) rfl ?_); refine goesL_ (some 8) rfl rfl Try.func8 (by kernel_rfl) rfl #[.string a0] rfl (by (try simp only [List.map_toArray, List.map_cons, List.map_nil]); first | done | rfl | (simp only [List.length_drop, List.length_take]; rfl)) ?_; (with_reducible refine (graftagelaw11_few.calls k a0 false _ A5.out).mono ?_); rintro e w10 ⟨rfl, hb⟩; refine ⟨_, rfl, ?_⟩; have n0_ := Aside0.mk (below_step (by repeat (first | (with_reducible first | exact HB.out | apply below_alloc | apply pw_below_drewN | apply below_drew1) | exact HB.out)) hb); clear HB; have HB := n0_; clear n0_; (try clear hb); (try clear hb2); (try clear hk); (try clear hi)))
      go_meet
      case rel => exact ⟨_, (true), (by first | rfl | (simp; done) | (simp [*]; done)), H', ⟨by first | omega | exact Nat.le_refl _⟩, ⟨by repeat (first | (with_reducible first | exact HB.out | apply below_alloc | apply pw_below_drewN | apply below_drew1) | exact HB.out)⟩⟩
  case rest =>
    clear HC4
    try clear p2
    try clear c6
    try clear c8
    obtain ⟨kq, x14_3, rfl, HA, HJ3, HB⟩ := hcut
    cases kq with
    | zero => exact absurd HA.out (by simp [graftagelaw11_SimilTells.j0])
    | succ kj3 =>
      have H := HA.out
      clear HA
      simp only [graftagelaw11_SimilTells.j0] at H
      by_cases c11 : x14_3 = true
      · subst c11
        have H1 : ((graftagelaw11_lives.f kj3).bind fun t210 => (some t210)) = some r := by rw [if_pos rfl] at H; exact H
        clear H
        have H := H1
        clear H1
        replace H := Option.bind_eq_some_iff.mp H
        obtain ⟨t210, A120, H⟩ := H
        replace H : (some t210) = some r := H
        have A12 := Aside0.mk A120
        clear A120
        obtain rfl := Option.some.inj H
        go_wp2_with (first | ((with_reducible refine gate_callee (f := 9) rfl ?_); refine goesL_ (some 15) rfl rfl Try.func9 (by kernel_rfl) rfl #[] rfl (by (try simp only [List.map_toArray, List.map_cons, List.map_nil]); first | done | rfl | (simp only [List.length_drop, List.length_take]; rfl)) ?_; (with_reducible refine (graftagelaw11_lives.calls kj3  t210 _ A12.out).mono ?_); rintro e w13 ⟨rfl, hb⟩; refine ⟨_, rfl, ?_⟩; have n0_ := Aside0.mk (below_step (by repeat (first | (with_reducible first | exact HB.out | apply below_alloc | apply pw_below_drewN | apply below_drew1) | exact HB.out)) hb); clear HB; have HB := n0_; clear n0_; (try clear hb); (try clear hb2); (try clear hk); (try clear hi)))
        go_ret
        exact ⟨by first | rfl | (simp [errW_none, errW_some] <;> rfl) | (simp [*, errW_none, errW_some] <;> rfl), by repeat (first | (with_reducible first | exact HB.out | apply below_alloc | apply pw_below_drewN | apply below_drew1) | exact HB.out)⟩
      · replace c11 := Bool.eq_false_iff.mpr c11
        subst c11
        have H1 : ((simil_Common.f kj3 a0 a1).bind fun t211 => ((graftageref11_Common.f kj3 a0 a1).bind fun t212 => (if t211 = t212 then ((simil_Score.f kj3 a0 a1).bind fun t213 => ((graftageref11_Score.f kj3 a0 a1).bind fun t214 => (if t213 = t214 then ((simil_AtLeast.f kj3 a0 a1 a2).bind fun t215 => ((graftageref11_Above.f kj3 a0 a1 a2).bind fun t216 => (if (t215 == t216) = true then ((graftagelaw11_lives.f kj3).bind fun t217 => (some t217)) else (some false)))) else (some false)))) else (some false)))) = some r := by rw [if_neg (show ¬ (false = true) by decide)] at H; exact H
        clear H
        have H := H1
        clear H1
        replace H := Option.bind_eq_some_iff.mp H
        obtain ⟨t211, A140, H⟩ := H
        replace H : ((graftageref11_Common.f kj3 a0 a1).bind fun t212 => (if t211 = t212 then ((simil_Score.f kj3 a0 a1).bind fun t213 => ((graftageref11_Score.f kj3 a0 a1).bind fun t214 => (if t213 = t214 then ((simil_AtLeast.f kj3 a0 a1 a2).bind fun t215 => ((graftageref11_Above.f kj3 a0 a1 a2).bind fun t216 => (if (t215 == t216) = true then ((graftagelaw11_lives.f kj3).bind fun t217 => (some t217)) else (some false)))) else (some false)))) else (some false))) = some r := H
        have A14 := Aside0.mk A140
        clear A140
        replace H := Option.bind_eq_some_iff.mp H
        obtain ⟨t212, A150, H⟩ := H
        replace H : (if t211 = t212 then ((simil_Score.f kj3 a0 a1).bind fun t213 => ((graftageref11_Score.f kj3 a0 a1).bind fun t214 => (if t213 = t214 then ((simil_AtLeast.f kj3 a0 a1 a2).bind fun t215 => ((graftageref11_Above.f kj3 a0 a1 a2).bind fun t216 => (if (t215 == t216) = true then ((graftagelaw11_lives.f kj3).bind fun t217 => (some t217)) else (some false)))) else (some false)))) else (some false)) = some r := H
        have A15 := Aside0.mk A150
        clear A150
        by_cases c16 : t211 = t212
        · rw [if_pos c16] at H
          have c16b0 : (t211 == t212) = true := beq_iff_eq.mpr c16
          have c16b1 : (t211 != t212) = false := bne_eq_false_iff_eq.mpr c16
          clear c16
          replace H := Option.bind_eq_some_iff.mp H
          obtain ⟨t213, A170, H⟩ := H
          replace H : ((graftageref11_Score.f kj3 a0 a1).bind fun t214 => (if t213 = t214 then ((simil_AtLeast.f kj3 a0 a1 a2).bind fun t215 => ((graftageref11_Above.f kj3 a0 a1 a2).bind fun t216 => (if (t215 == t216) = true then ((graftagelaw11_lives.f kj3).bind fun t217 => (some t217)) else (some false)))) else (some false))) = some r := H
          have A17 := Aside0.mk A170
          clear A170
          replace H := Option.bind_eq_some_iff.mp H
          obtain ⟨t214, A180, H⟩ := H
          replace H : (if t213 = t214 then ((simil_AtLeast.f kj3 a0 a1 a2).bind fun t215 => ((graftageref11_Above.f kj3 a0 a1 a2).bind fun t216 => (if (t215 == t216) = true then ((graftagelaw11_lives.f kj3).bind fun t217 => (some t217)) else (some false)))) else (some false)) = some r := H
          have A18 := Aside0.mk A180
          clear A180
          by_cases c19 : t213 = t214
          · rw [if_pos c19] at H
            have c19b0 : (t213 == t214) = true := beq_iff_eq.mpr c19
            have c19b1 : (t213 != t214) = false := bne_eq_false_iff_eq.mpr c19
            clear c19
            replace H := Option.bind_eq_some_iff.mp H
            obtain ⟨t215, A200, H⟩ := H
            replace H : ((graftageref11_Above.f kj3 a0 a1 a2).bind fun t216 => (if (t215 == t216) = true then ((graftagelaw11_lives.f kj3).bind fun t217 => (some t217)) else (some false))) = some r := H
            have A20 := Aside0.mk A200
            clear A200
            replace H := Option.bind_eq_some_iff.mp H
            obtain ⟨t216, A210, H⟩ := H
            replace H : (if (t215 == t216) = true then ((graftagelaw11_lives.f kj3).bind fun t217 => (some t217)) else (some false)) = some r := H
            have A21 := Aside0.mk A210
            clear A210
            by_cases c22 : (t215 == t216) = true
            · rw [if_pos c22] at H
              have c22b0 : (t215 == t216) = true := c22
              (try (have c22b1 : decide (t215 = t216) = true := by simpa using c22))
              (try (have c22b2 : (t215 == t216) = true := by simpa using c22))
              clear c22
              replace H := Option.bind_eq_some_iff.mp H
              obtain ⟨t217, A230, H⟩ := H
              replace H : (some t217) = some r := H
              have A23 := Aside0.mk A230
              clear A230
              obtain rfl := Option.some.inj H
              go_wp2_with (first | ((with_reducible refine gate_callee (f := 11) rfl ?_); refine goesL_ (some 18) rfl rfl Try.func11 (by kernel_rfl) rfl #[.string a0, .string a1] rfl (by (try simp only [List.map_toArray, List.map_cons, List.map_nil]); first | done | rfl | (simp only [List.length_drop, List.length_take]; rfl)) ?_; (with_reducible refine (simil_Common.calls kj3 a0 a1 t211 _ A14.out).mono ?_); rintro e w24 ⟨rfl, hb⟩; refine ⟨_, rfl, ?_⟩; have n0_ := Aside0.mk (below_step (by repeat (first | (with_reducible first | exact HB.out | apply below_alloc | apply pw_below_drewN | apply below_drew1) | exact HB.out)) hb); clear HB; have HB := n0_; clear n0_; (try clear hb); (try clear hb2); (try clear hk); (try clear hi)) | ((with_reducible refine gate_callee (f := 15) rfl ?_); refine goesL_ (some 21) rfl rfl Try.func15 (by kernel_rfl) rfl #[.string a0, .string a1] rfl (by (try simp only [List.map_toArray, List.map_cons, List.map_nil]); first | done | rfl | (simp only [List.length_drop, List.length_take]; rfl)) ?_; (with_reducible refine (graftageref11_Common.calls kj3 a0 a1 t212 _ A15.out).mono ?_); rintro e w25 ⟨rfl, hb⟩; refine ⟨_, rfl, ?_⟩; have n0_ := Aside0.mk (below_step (by repeat (first | (with_reducible first | exact HB.out | apply below_alloc | apply pw_below_drewN | apply below_drew1) | exact HB.out)) hb); clear HB; have HB := n0_; clear n0_; (try clear hb); (try clear hb2); (try clear hk); (try clear hi)) | (go_at_call 10; (with_reducible refine (simil_Score.calls kj3 a0 a1 t213 _ A17.out).mono ?_); rintro e w26 ⟨rfl, hb⟩; have n0_ := Aside0.mk (below_step (by repeat (first | (with_reducible first | exact HB.out | apply below_alloc | apply pw_below_drewN | apply below_drew1) | exact HB.out)) hb); clear HB; have HB := n0_; clear n0_; (try clear hb); (try clear hb2); (try clear hk); (try clear hi)) | (go_at_call 16; (with_reducible refine (graftageref11_Score.calls kj3 a0 a1 t214 _ A18.out).mono ?_); rintro e w27 ⟨rfl, hb⟩; have n0_ := Aside0.mk (below_step (by repeat (first | (with_reducible first | exact HB.out | apply below_alloc | apply pw_below_drewN | apply below_drew1) | exact HB.out)) hb); clear HB; have HB := n0_; clear n0_; (try clear hb); (try clear hb2); (try clear hk); (try clear hi)) | (go_at_call 17; (with_reducible refine (simil_AtLeast.calls kj3 a0 a1 a2 t215 _ A20.out).mono ?_); rintro e w28 ⟨rfl, hb⟩; have n0_ := Aside0.mk (below_step (by repeat (first | (with_reducible first | exact HB.out | apply below_alloc | apply pw_below_drewN | apply below_drew1) | exact HB.out)) hb); clear HB; have HB := n0_; clear n0_; (try clear hb); (try clear hb2); (try clear hk); (try clear hi)) | (go_at_call 18; (with_reducible refine (graftageref11_Above.calls kj3 a0 a1 a2 t216 _ A21.out).mono ?_); rintro e w29 ⟨rfl, hb⟩; have n0_ := Aside0.mk (below_step (by repeat (first | (with_reducible first | exact HB.out | apply below_alloc | apply pw_below_drewN | apply below_drew1) | exact HB.out)) hb); clear HB; have HB := n0_; clear n0_; (try clear hb); (try clear hb2); (try clear hk); (try clear hi)) | (go_at_call 9; (with_reducible refine (graftagelaw11_lives.calls kj3  t217 _ A23.out).mono ?_); rintro e w30 ⟨rfl, hb⟩; have n0_ := Aside0.mk (below_step (by repeat (first | (with_reducible first | exact HB.out | apply below_alloc | apply pw_below_drewN | apply below_drew1) | exact HB.out)) hb); clear HB; have HB := n0_; clear n0_; (try clear hb); (try clear hb2); (try clear hk); (try clear hi)))
              go_ret
              exact ⟨by first | rfl | (simp [errW_none, errW_some] <;> rfl) | (simp [*, errW_none, errW_some] <;> rfl), by repeat (first | (with_reducible first | exact HB.out | apply below_alloc | apply pw_below_drewN | apply below_drew1) | exact HB.out)⟩
            · rw [if_neg c22] at H
              have c22b0 : (t215 == t216) = false := by simpa using c22
              (try (have c22b1 : decide (t215 = t216) = false := by simpa using c22))
              (try (have c22b2 : (t215 == t216) = false := by simpa using c22))
              (try (have c22b3 : ¬ (t215 = t216) := by simpa using c22))
              clear c22
              obtain rfl := Option.some.inj H
              go_wp2_with (first | ((with_reducible refine gate_callee (f := 11) rfl ?_); refine goesL_ (some 18) rfl rfl Try.func11 (by kernel_rfl) rfl #[.string a0, .string a1] rfl (by (try simp only [List.map_toArray, List.map_cons, List.map_nil]); first | done | rfl | (simp only [List.length_drop, List.length_take]; rfl)) ?_; (with_reducible refine (simil_Common.calls kj3 a0 a1 t211 _ A14.out).mono ?_); rintro e w31 ⟨rfl, hb⟩; refine ⟨_, rfl, ?_⟩; have n0_ := Aside0.mk (below_step (by repeat (first | (with_reducible first | exact HB.out | apply below_alloc | apply pw_below_drewN | apply below_drew1) | exact HB.out)) hb); clear HB; have HB := n0_; clear n0_; (try clear hb); (try clear hb2); (try clear hk); (try clear hi)) | ((with_reducible refine gate_callee (f := 15) rfl ?_); refine goesL_ (some 21) rfl rfl Try.func15 (by kernel_rfl) rfl #[.string a0, .string a1] rfl (by (try simp only [List.map_toArray, List.map_cons, List.map_nil]); first | done | rfl | (simp only [List.length_drop, List.length_take]; rfl)) ?_; (with_reducible refine (graftageref11_Common.calls kj3 a0 a1 t212 _ A15.out).mono ?_); rintro e w32 ⟨rfl, hb⟩; refine ⟨_, rfl, ?_⟩; have n0_ := Aside0.mk (below_step (by repeat (first | (with_reducible first | exact HB.out | apply below_alloc | apply pw_below_drewN | apply below_drew1) | exact HB.out)) hb); clear HB; have HB := n0_; clear n0_; (try clear hb); (try clear hb2); (try clear hk); (try clear hi)) | (go_at_call 10; (with_reducible refine (simil_Score.calls kj3 a0 a1 t213 _ A17.out).mono ?_); rintro e w33 ⟨rfl, hb⟩; have n0_ := Aside0.mk (below_step (by repeat (first | (with_reducible first | exact HB.out | apply below_alloc | apply pw_below_drewN | apply below_drew1) | exact HB.out)) hb); clear HB; have HB := n0_; clear n0_; (try clear hb); (try clear hb2); (try clear hk); (try clear hi)) | (go_at_call 16; (with_reducible refine (graftageref11_Score.calls kj3 a0 a1 t214 _ A18.out).mono ?_); rintro e w34 ⟨rfl, hb⟩; have n0_ := Aside0.mk (below_step (by repeat (first | (with_reducible first | exact HB.out | apply below_alloc | apply pw_below_drewN | apply below_drew1) | exact HB.out)) hb); clear HB; have HB := n0_; clear n0_; (try clear hb); (try clear hb2); (try clear hk); (try clear hi)) | (go_at_call 17; (with_reducible refine (simil_AtLeast.calls kj3 a0 a1 a2 t215 _ A20.out).mono ?_); rintro e w35 ⟨rfl, hb⟩; have n0_ := Aside0.mk (below_step (by repeat (first | (with_reducible first | exact HB.out | apply below_alloc | apply pw_below_drewN | apply below_drew1) | exact HB.out)) hb); clear HB; have HB := n0_; clear n0_; (try clear hb); (try clear hb2); (try clear hk); (try clear hi)) | (go_at_call 18; (with_reducible refine (graftageref11_Above.calls kj3 a0 a1 a2 t216 _ A21.out).mono ?_); rintro e w36 ⟨rfl, hb⟩; have n0_ := Aside0.mk (below_step (by repeat (first | (with_reducible first | exact HB.out | apply below_alloc | apply pw_below_drewN | apply below_drew1) | exact HB.out)) hb); clear HB; have HB := n0_; clear n0_; (try clear hb); (try clear hb2); (try clear hk); (try clear hi)))
              go_ret
              exact ⟨by first | rfl | (simp [errW_none, errW_some] <;> rfl) | (simp [*, errW_none, errW_some] <;> rfl), by repeat (first | (with_reducible first | exact HB.out | apply below_alloc | apply pw_below_drewN | apply below_drew1) | exact HB.out)⟩
          · rw [if_neg c19] at H
            have c19b0 : (t213 == t214) = false := beq_eq_false_iff_ne.mpr c19
            have c19b1 : (t213 != t214) = true := bne_iff_ne.mpr c19
            obtain rfl := Option.some.inj H
            go_wp2_with (first | ((with_reducible refine gate_callee (f := 11) rfl ?_); refine goesL_ (some 18) rfl rfl Try.func11 (by kernel_rfl) rfl #[.string a0, .string a1] rfl (by (try simp only [List.map_toArray, List.map_cons, List.map_nil]); first | done | rfl | (simp only [List.length_drop, List.length_take]; rfl)) ?_; (with_reducible refine (simil_Common.calls kj3 a0 a1 t211 _ A14.out).mono ?_); rintro e w37 ⟨rfl, hb⟩; refine ⟨_, rfl, ?_⟩; have n0_ := Aside0.mk (below_step (by repeat (first | (with_reducible first | exact HB.out | apply below_alloc | apply pw_below_drewN | apply below_drew1) | exact HB.out)) hb); clear HB; have HB := n0_; clear n0_; (try clear hb); (try clear hb2); (try clear hk); (try clear hi)) | ((with_reducible refine gate_callee (f := 15) rfl ?_); refine goesL_ (some 21) rfl rfl Try.func15 (by kernel_rfl) rfl #[.string a0, .string a1] rfl (by (try simp only [List.map_toArray, List.map_cons, List.map_nil]); first | done | rfl | (simp only [List.length_drop, List.length_take]; rfl)) ?_; (with_reducible refine (graftageref11_Common.calls kj3 a0 a1 t212 _ A15.out).mono ?_); rintro e w38 ⟨rfl, hb⟩; refine ⟨_, rfl, ?_⟩; have n0_ := Aside0.mk (below_step (by repeat (first | (with_reducible first | exact HB.out | apply below_alloc | apply pw_below_drewN | apply below_drew1) | exact HB.out)) hb); clear HB; have HB := n0_; clear n0_; (try clear hb); (try clear hb2); (try clear hk); (try clear hi)) | (go_at_call 10; (with_reducible refine (simil_Score.calls kj3 a0 a1 t213 _ A17.out).mono ?_); rintro e w39 ⟨rfl, hb⟩; have n0_ := Aside0.mk (below_step (by repeat (first | (with_reducible first | exact HB.out | apply below_alloc | apply pw_below_drewN | apply below_drew1) | exact HB.out)) hb); clear HB; have HB := n0_; clear n0_; (try clear hb); (try clear hb2); (try clear hk); (try clear hi)) | (go_at_call 16; (with_reducible refine (graftageref11_Score.calls kj3 a0 a1 t214 _ A18.out).mono ?_); rintro e w40 ⟨rfl, hb⟩; have n0_ := Aside0.mk (below_step (by repeat (first | (with_reducible first | exact HB.out | apply below_alloc | apply pw_below_drewN | apply below_drew1) | exact HB.out)) hb); clear HB; have HB := n0_; clear n0_; (try clear hb); (try clear hb2); (try clear hk); (try clear hi)))
            go_ret
            exact ⟨by first | rfl | (simp [errW_none, errW_some] <;> rfl) | (simp [*, errW_none, errW_some] <;> rfl), by repeat (first | (with_reducible first | exact HB.out | apply below_alloc | apply pw_below_drewN | apply below_drew1) | exact HB.out)⟩
        · rw [if_neg c16] at H
          have c16b0 : (t211 == t212) = false := beq_eq_false_iff_ne.mpr c16
          have c16b1 : (t211 != t212) = true := bne_iff_ne.mpr c16
          obtain rfl := Option.some.inj H
          go_wp2_with (first | ((with_reducible refine gate_callee (f := 11) rfl ?_); refine goesL_ (some 18) rfl rfl Try.func11 (by kernel_rfl) rfl #[.string a0, .string a1] rfl (by (try simp only [List.map_toArray, List.map_cons, List.map_nil]); first | done | rfl | (simp only [List.length_drop, List.length_take]; rfl)) ?_; (with_reducible refine (simil_Common.calls kj3 a0 a1 t211 _ A14.out).mono ?_); rintro e w41 ⟨rfl, hb⟩; refine ⟨_, rfl, ?_⟩; have n0_ := Aside0.mk (below_step (by repeat (first | (with_reducible first | exact HB.out | apply below_alloc | apply pw_below_drewN | apply below_drew1) | exact HB.out)) hb); clear HB; have HB := n0_; clear n0_; (try clear hb); (try clear hb2); (try clear hk); (try clear hi)) | ((with_reducible refine gate_callee (f := 15) rfl ?_); refine goesL_ (some 21) rfl rfl Try.func15 (by kernel_rfl) rfl #[.string a0, .string a1] rfl (by (try simp only [List.map_toArray, List.map_cons, List.map_nil]); first | done | rfl | (simp only [List.length_drop, List.length_take]; rfl)) ?_; (with_reducible refine (graftageref11_Common.calls kj3 a0 a1 t212 _ A15.out).mono ?_); rintro e w42 ⟨rfl, hb⟩; refine ⟨_, rfl, ?_⟩; have n0_ := Aside0.mk (below_step (by repeat (first | (with_reducible first | exact HB.out | apply below_alloc | apply pw_below_drewN | apply below_drew1) | exact HB.out)) hb); clear HB; have HB := n0_; clear n0_; (try clear hb); (try clear hb2); (try clear hk); (try clear hi)))
          go_ret
          exact ⟨by first | rfl | (simp [errW_none, errW_some] <;> rfl) | (simp [*, errW_none, errW_some] <;> rfl), by repeat (first | (with_reducible first | exact HB.out | apply below_alloc | apply pw_below_drewN | apply below_drew1) | exact HB.out)⟩

-- NOT PRINTED: function 31 (simil_scored_31)

-- NOT PRINTED: function 39 (simil_scored_39)

-- NOT PRINTED: function 34 (simil_scored_34)

-- NOT PRINTED: function 32 (simil_scored_32)

-- NOT PRINTED: function 29 (simil_scored_29)

-- NOT PRINTED: function 25 (simil_scored_25)

-- NOT PRINTED: function 19 (simil_Best)

end Go.Proofs.Ythphnacnjbcpiaa.P
