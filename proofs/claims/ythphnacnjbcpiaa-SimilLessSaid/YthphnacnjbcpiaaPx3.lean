-- written by mp.py, a program of this session, over the kit's printer
import Derived.Test.YthphnacnjbcpiaaPx0
import Derived.Test.YthphnacnjbcpiaaPx2
namespace Go.Proofs.Ythphnacnjbcpiaa.P
open Go.RowKit Go.Proofs.YthphnacnjbcpiaaW.PrintWords Go.Proofs.YthphnacnjbcpiaaW.PrintLast Go.Proofs.YthphnacnjbcpiaaW.PrintMore
attribute [local go_sem] max2_int min2_int max_two min_two max_three min_three max_four min_four   -- for this text's walks alone
set_option linter.unusedVariables false
set_option linter.unusedSimpArgs false

/-! ### simil_common: function 22 -/
/-- What one line more brings. -/
def simil_common.take (H seen : List ByteArray) (s : ByteArray) : Int := if simil_bag.times H s < simil_bag.times seen s + 1 then 0 else (s.size : Int)
def simil_common.go (H : List ByteArray) : List ByteArray → List ByteArray → Int → Int
  | [], _, n => n
  | s :: l, seen, n => simil_common.go H l (seen ++ [s]) (wrap64 (n + simil_common.take H seen s))
/-- The closure's two variables, and the maps that they hold. -/
def simil_common.St (w : World) (bl bh lb hb : Nat) (seen H : List ByteArray) : Prop :=
  w.heap[bl]? = some (.cells #[.map (some lb)] 35 (0, 0)) ∧ w.heap[bh]? = some (.cells #[.map (some hb)] 35 (0, 0)) ∧ simil_bag.Bag w lb seen ∧ simil_bag.Bag w hb H
theorem simil_common.ne_cells {w : World} {b n g t : Nat} {D : DataW Unit} {cs : Array Value} (h : w.ownsMap Try.prog 9 (plainElem Try.prog 3) b n D) (hg : w.heap[g]? = some (.cells cs t (0, 0))) : g ≠ b := by
  rintro rfl
  obtain ⟨es, cl, h1, _⟩ := h
  rw [h1] at hg
  cases hg
theorem simil_common.count {l : List ByteArray} {D : DataW Unit} (hD : ∀ x : ByteArray, D.atKey (.string x.data.toList) (.lit (.int .i64 0)) = .lit (.int .i64 (simil_bag.times l x : Nat))) (s : ByteArray) (c : Int)
    (hat : D.atKey (.string s.data.toList) (.lit (.int .i64 0)) = .lit (.int .i64 c)) : c = (simil_bag.times l s : Nat) := by
  rw [hD s] at hat
  injection hat with hat
  injection hat with _ hat
  exact hat.symm
set_option maxHeartbeats 2000000 in
set_option maxRecDepth 100000 in
theorem simil_common.take_calls (s : ByteArray) (bl bh lb hb : Nat) (seen H : List ByteArray) (w : World) (hs : s.size ≤ 9223372036854775807) (hl : seen.length < 4611686018427387904) (hh : H.length < 4611686018427387904) (hne : lb ≠ hb) (hS : simil_common.St w bl bh lb hb seen H) :
    Calls Try.prog 27 #[.string s, .pointer (some ⟨bl, 0, none⟩), .pointer (some ⟨bh, 0, none⟩)] w fun e w' =>
      e = .returned (.int .i64 (simil_common.take H seen s)) ∧ simil_common.St w' bl bh lb hb (seen ++ [s]) H ∧ w.grownBy w' (some lb) := by
  obtain ⟨h1, h2, ⟨D, hown, hD⟩, hH⟩ := hS
  have hcl := blk_cell h1 0
  have hch := blk_cell h2 0
  have hkey : keyOf Try.prog 9 (.string s) = some (.string s.data.toList) := Go.WideMaps.keyOf_string_mk Try.underlying9 hs
  have hnl : bl ≠ lb := simil_common.ne_cells hown h1
  have hnh : bh ≠ lb := simil_common.ne_cells hown h2
  have hct : ∀ c : Int, D.atKey (.string s.data.toList) (.lit (.int .i64 0)) = .lit (.int .i64 c) → c = (simil_bag.times seen s : Nat) := fun c hat => by rw [hD s] at hat; injection hat with hat; injection hat with _ hat; exact hat.symm
  have hle := simil_bag.times_le s seen
  go_enter Try.func27, Try.ntmps27
  go_wp2_with (first
        | (at_lookup; refine wpList_lookup_own_int _ rfl _ _ 35 rfl 9 3 .i64 simil_bag.law Try.underlying35 Try.underlying3 (simil_bag.zeroE _) lb _ _ rfl hown _ _ rfl hkey ?_; intro c hat hwc)
        | (at_lookup; refine wpList_lookup_own_int _ rfl _ _ 35 rfl 9 3 .i64 simil_bag.law Try.underlying35 Try.underlying3 (simil_bag.zeroE _) lb _ _ rfl hown3 _ _ rfl hkey ?_; intro c3 hat3 hwc3; obtain rfl := hct3 c3 hat3)
        | (at_lookup; refine wpList_lookup_own_int _ rfl _ _ 35 rfl 9 3 .i64 simil_bag.law Try.underlying35 Try.underlying3 (simil_bag.zeroE _) hb _ _ rfl hownH _ _ rfl hkey ?_; intro c4 hat4 hwc4; obtain rfl := hct4 c4 hat4)
        | (at_mapUpdate; refine wpList_mapUpdate_own _ rfl _ _ _ 35 rfl 9 3 simil_bag.law Try.underlying35 _ lb _ _ rfl hown (by unfold maxLen; omega) _ _ _ rfl rfl hkey _ [] (plainElem_int Try.underlying3 (wrap64_wf _)) ?_; intro w2 hown2 hg2; obtain rfl := hct c hat; rw [show wrap64 ((simil_bag.times seen s : Nat) + 1) = (simil_bag.times seen s : Nat) + 1 by unfold wrap64; omega] at hown2 ⊢;
           have hM := simil_bag.Bag.more hD (simil_bag.isMap hown) hown2; obtain ⟨D3, hown3, hD3⟩ := hM; have h1' := blk_grown h1 hg2 (fun e => hnl (by injection e)); have h2' := blk_grown h2 hg2 (fun e => hnh (by injection e)); have hcl2 := blk_cell h1' 0; have hch2 := blk_cell h2' 0;
           have hH2 := hH.grown hg2 (fun e => hne (by injection e with e; exact e.symm)); obtain ⟨DH, hownH, hDH⟩ := hH2; have hct3 := simil_common.count hD3 s; have hct4 := simil_common.count hDH s))
  all_goals have hts := simil_bag.times_snoc s s seen
  all_goals rw [if_pos rfl] at hts
  all_goals go_ret
  · refine ⟨?_, ⟨h1', h2', ⟨D3, hown3, hD3⟩, ⟨DH, hownH, hDH⟩⟩, hg2⟩
    unfold simil_common.take
    rw [if_pos (by omega)]
    rfl
  · refine ⟨?_, ⟨h1', h2', ⟨D3, hown3, hD3⟩, ⟨DH, hownH, hDH⟩⟩, hg2⟩
    unfold simil_common.take
    rw [if_neg (by omega)]
    rfl
/-- What the body comes to over a bag that came in. -/
def simil_common.f (k : Nat) (H : List ByteArray) (a1 : ByteArray) : Option Int := (lines_Split.f k a1).bind fun l => if simil_bag.fits H = true then if simil_bag.fits l = true then some (simil_common.go H l [] 0) else none else none
theorem simil_common.mono : ∀ H a1 k, LeO (simil_common.f k H a1) (simil_common.f (k + 1) H a1) := by
  intro H a1 k
  unfold simil_common.f
  exact LeO.bind (lines_Split.mono _ _) fun _ => LeO.refl _
set_option maxHeartbeats 2000000 in
set_option maxRecDepth 100000 in
theorem simil_common.calls (k : Nat) (H : List ByteArray) (hb : Nat) (a1 : ByteArray) (r : Int) (w : World) (hB : simil_bag.Bag w hb H) (h : simil_common.f k H a1 = some r) :
    Calls Try.prog 22 #[.map (some hb), .string a1] w fun e w' => e = .returned (.int .i64 r) ∧ Below w.heap.size w w' := by
  unfold simil_common.f at h
  obtain ⟨l, hl, h⟩ := Option.bind_eq_some_iff.1 h
  by_cases cH : simil_bag.fits H = true
  case neg => rw [if_neg cH] at h; cases h
  rw [if_pos cH] at h
  by_cases c : simil_bag.fits l = true
  case neg => rw [if_neg c] at h; cases h
  rw [if_pos c] at h
  obtain rfl := Option.some.inj h
  have hf := c
  unfold simil_bag.fits at hf cH
  rw [Bool.and_eq_true, decide_eq_true_iff, List.all_eq_true] at hf cH
  have hlen := Aside0.mk hf.1
  have hlenH := Aside0.mk cH.1
  have hsz := Aside0.mk hf.2
  have HL := Aside0.mk hl
  have HBG := Aside0.mk hB
  have hbw := hB.lt
  clear h hl c hf cH hB
  have hmm := @run_makeMap Try.prog
  go_enter Try.func22, Try.ntmps22
  go_wp2_with (go_at_call 28; (with_reducible refine (lines_Split.calls k a1 l _ HL.out).mono ?_); rintro e w1 ⟨v, rfl, hR, hB1⟩; obtain ⟨A, cp, rfl⟩ := Kd.R_slice hR; have HR := Aside0.mk hR; have HB1 := Aside0.mk hB1; clear hR hB1)
  have hsw : (((w.alloc (.cells #[.map (some hb)] 35)).alloc (.map #[] 0)).alloc (.cells #[.map (some (w.heap.size + 1))] 35)).heap.size = w.heap.size + 3 := by simp
  rw [hsw] at HR HB1
  have HS : Aside0 (simil_common.St w1 (w.heap.size + 1 + 1) w.heap.size (w.heap.size + 1) hb [] H) := ⟨by
    refine ⟨?_, ?_, ?_, ?_⟩
    · refine blk_below (w := ((w.alloc (.cells #[.map (some hb)] 35)).alloc (.map #[] 0)).alloc (.cells #[.map (some (w.heap.size + 1))] 35)) ?_ (by rw [hsw]; exact HB1.out)
      simpa using blk_new ((w.alloc (.cells #[.map (some hb)] 35)).alloc (.map #[] 0)) (.cells #[.map (some (w.heap.size + 1))] 35)
    · refine blk_below (w := ((w.alloc (.cells #[.map (some hb)] 35)).alloc (.map #[] 0)).alloc (.cells #[.map (some (w.heap.size + 1))] 35)) ?_ (by rw [hsw]; exact HB1.out)
      exact blk_alloc (blk_alloc (blk_new _ _) _) _
    · refine simil_bag.Bag.below (w := ((w.alloc (.cells #[.map (some hb)] 35)).alloc (.map #[] 0)).alloc (.cells #[.map (some (w.heap.size + 1))] 35)) ?_ (by rw [hsw]; exact HB1.out)
      have hm := simil_bag.Bag.made (w.alloc (.cells #[.map (some hb)] 35))
      rw [show (w.alloc (.cells #[.map (some hb)] 35)).heap.size = w.heap.size + 1 by simp] at hm
      exact hm.grown (World.grownBy_alloc _ _ none) (by simp)
    · exact HBG.out.below (below_weaken (below_alloc (below_alloc (below_alloc (Below.refl _ _) _) _) _) (by omega) HB1.out)⟩
  have HW : Aside0 (Below w.heap.size w w1) := ⟨below_weaken (below_alloc (below_alloc (below_alloc (Below.refl _ _) _) _) _) (by omega) HB1.out⟩
  clear HB1
  go_loopg [7, 15] l.length (fun kq v7 v15 w' => ∃ (x : Nat) (n : Int), v7 = .int .i64 n ∧ v15 = .int .i64 x ∧ Aside0 (kq + x = l.length) ∧ Aside0 (simil_common.go H (l.drop x) (l.take x) n = simil_common.go H l [] 0) ∧
    Aside0 (simil_common.St w' (w.heap.size + 1 + 1) w.heap.size (w.heap.size + 1) hb (l.take x) H) ∧ Aside0 (Kd.R Kd.string 9 w' (w.heap.size + 3) (fun _ => True) (.slice A l.length cp) l) ∧ Aside0 (Below w.heap.size w w'))
  case atStart => exact ⟨0, 0, rfl, rfl, ⟨rfl⟩, ⟨rfl⟩, HS, HR, HW⟩
  case round =>
    clear HR HW HS
    obtain ⟨x, n, rfl, rfl, HK, HG, HS, HR, HW⟩ := hrel
    by_cases hx : x < l.length
    · have hx1 : decide ((x : Int) < (l.length : Int)) = true := decide_eq_true (by omega)
      have hxn : (x : Int) < (l.length : Int) := by omega
      have hx0 : (0 : Int) ≤ (x : Int) := by omega
      obtain ⟨ad, rfl, hcx⟩ := Kd.at_string (Kd.R_reads' HR.out).2.2 (x : Int) hx0 hxn
      simp only [Int.toNat_natCast] at hcx
      have hq : rdOf ByteArray.empty l (x : Int) = l[x] := by unfold rdOf; rw [Int.toNat_natCast, List.getD_eq_getElem?_getD, List.getElem?_eq_getElem hx]; rfl
      have hsl : l[x].size ≤ 9223372036854775807 := by have := hsz.out l[x] (List.getElem_mem hx); simpa using this
      rw [hq] at hcx
      have htake : l.take (x + 1) = l.take x ++ [l[x]] := by rw [List.take_add_one, List.getElem?_eq_getElem hx]; rfl
      have hg := HG.out
      rw [List.drop_eq_getElem_cons hx] at hg
      rw [simil_common.go] at hg
      have HT := Aside0.mk htake
      have HG1 := Aside0.mk hg
      clear htake hg HG
      generalize l[x] = s at *
      go_wp2_with (go_at_call 27; (with_reducible refine (simil_common.take_calls s (w.heap.size + 1 + 1) w.heap.size (w.heap.size + 1) hb (l.take x) H _ hsl (by rw [List.length_take]; have := hlen.out; omega) hlenH.out (by omega) HS.out).mono ?_); rintro e w2 ⟨rfl, hS2, hg2⟩)
      obtain ⟨kq, rfl⟩ : ∃ kq, gk = kq + 1 := ⟨gk - 1, by have := HK.out; omega⟩
      go_roundg kq
      case measure => omega
      case rel =>
        have hlx := hlen.out
        refine ⟨x + 1, _, rfl, ?_, ⟨by have := HK.out; omega⟩, ⟨?_⟩, ⟨?_⟩, ⟨?_⟩, ⟨?_⟩⟩
        · rw [show wrap64 ((x : Int) + 1) = ((x + 1 : Nat) : Int) by unfold wrap64; omega]
        · rw [HT.out]
          exact HG1.out
        · rw [HT.out]
          exact hS2
        · exact Kd.R_mono (Kd.R_grown (Kd.R_bound HR.out) hg2 (fun k hk e => by have := hk.2.1; injection e with e; omega)) (fun _ _ => trivial)
        · exact HW.out.grown hg2 (by have := HW.out.size; omega) (fun k e => by injection e with e; omega)
    · have hx1 : decide ((x : Int) < (l.length : Int)) = false := decide_eq_false (by omega)
      go_wp2
      go_ret
      have hg := HG.out
      rw [List.drop_eq_nil_of_le (by omega)] at hg
      rw [simil_common.go] at hg
      exact ⟨by rw [← hg]; rfl, HW.out⟩

/-! ### simil_Common: function 11 -/
def simil_Common.f (k : Nat) (a0 : ByteArray) (a1 : ByteArray) : Option Int := (simil_bag.f k a0).bind fun H => simil_common.f k H a1
theorem simil_Common.mono : ∀ a0 a1 k, LeO (simil_Common.f k a0 a1) (simil_Common.f (k + 1) a0 a1) := by
  intro a0 a1 k
  unfold simil_Common.f
  exact LeO.bind (simil_bag.mono _ _) fun _ => simil_common.mono _ _ _
set_option maxHeartbeats 2000000 in
set_option maxRecDepth 100000 in
theorem simil_Common.calls (k : Nat) (a0 : ByteArray) (a1 : ByteArray) (r : Int) (w : World) (h : simil_Common.f k a0 a1 = some r) :
    Calls Try.prog 11 #[.string a0, .string a1] w fun e w' => e = .returned (.int .i64 r) ∧ Below w.heap.size w w' := by
  unfold simil_Common.f at h
  obtain ⟨H, hH, h⟩ := Option.bind_eq_some_iff.1 h
  have A0 := Aside0.mk hH
  have A1 := Aside0.mk h
  clear h hH
  go_enter Try.func11, Try.ntmps11
  go_wp2_with (first | (go_at_call 23; (with_reducible refine (simil_bag.calls k a0 H _ A0.out).mono ?_); rintro e w1 ⟨b, rfl, hb, hB, hW⟩) | (go_at_call 22; (with_reducible refine (simil_common.calls k H b a1 r _ hB A1.out).mono ?_); rintro e w2 ⟨rfl, hW2⟩))
  go_ret
  exact ⟨rfl, below_step hW hW2⟩

/-! ### simil_score: function 21 -/
def simil_score.f (a0 : Int) (a1 : Int) (a2 : Int) : Option (Int) := if (mx a0 a1) = 0 then (some 100) else (some (wrap64 (Int.tdiv (wrap64 (100 * a2)) (mx a0 a1))))
set_option maxHeartbeats 8000000 in
set_option maxRecDepth 100000 in
theorem simil_score.calls (a0 : Int) (a1 : Int) (a2 : Int) (r : Int) (w : World) (h : simil_score.f a0 a1 a2 = some r) :
    Calls Try.prog 21 #[.int .i64 a0, .int .i64 a1, .int .i64 a2] w fun e w' => e = .returned (.int .i64 r) ∧ Below w.heap.size w w' := by
  have HB := Aside0.mk (Below.refl w.heap.size w)
  have H : (if (mx a0 a1) = 0 then (some 100) else (some (wrap64 (Int.tdiv (wrap64 (100 * a2)) (mx a0 a1))))) = some r := h
  clear h
  obtain ⟨ji4, hji4⟩ : ∃ j_ : Int, (mx a0 a1) = j_ := ⟨_, rfl⟩
  replace H : (if (ji4) = 0 then (some 100) else (some (wrap64 (Int.tdiv (wrap64 (100 * a2)) (ji4))))) = some r := by first | (rw [hji4] at H; exact H) | (simp only [hji4] at H ⊢; exact H)
  have hji4_ : (if a0 < a1 then a1 else a0) = ji4 := hji4
  by_cases c5 : (ji4) = 0
  · rw [if_pos c5] at H
    have c5b0 : ((ji4) == 0) = true := beq_iff_eq.mpr c5
    have c5b1 : ((ji4) != 0) = false := bne_eq_false_iff_eq.mpr c5
    clear c5
    obtain rfl := Option.some.inj H
    go_enter Try.func21, Try.ntmps21
    go_wp2
    go_ret
    exact ⟨by first | rfl | (simp [errW_none, errW_some] <;> rfl) | (simp only [← hji4]; first | rfl | (simp [errW_none, errW_some] <;> rfl)) | (simp [*, errW_none, errW_some] <;> rfl), by repeat (first | (with_reducible first | exact HB.out | apply below_alloc | apply pw_below_drewN | apply below_drew1) | exact HB.out)⟩
  · rw [if_neg c5] at H
    have c5b0 : ((ji4) == 0) = false := beq_eq_false_iff_ne.mpr c5
    have c5b1 : ((ji4) != 0) = true := bne_iff_ne.mpr c5
    obtain rfl := Option.some.inj H
    go_enter Try.func21, Try.ntmps21
    go_wp2
    go_ret
    exact ⟨by first | rfl | (simp [errW_none, errW_some] <;> rfl) | (simp only [← hji4]; first | rfl | (simp [errW_none, errW_some] <;> rfl)) | (simp [*, errW_none, errW_some] <;> rfl), by repeat (first | (with_reducible first | exact HB.out | apply below_alloc | apply pw_below_drewN | apply below_drew1) | exact HB.out)⟩

/-! ### simil_Score: function 10 -/
def simil_Score.f (k : Nat) (a0 : ByteArray) (a1 : ByteArray) : Option (Int) := (simil_Common.f k a0 a1).bind fun t117 => ((simil_score.f (a0.size : Int) (a1.size : Int) t117).bind fun t118 => (some t118))
theorem simil_Score.mono : ∀ a0 a1 k, LeO (simil_Score.f k a0 a1) (simil_Score.f (k + 1) a0 a1) := by
  intro a0 a1 k
  unfold simil_Score.f
  repeat' first
      | (with_reducible exact simil_Common.mono _ _ _)
      | (with_reducible exact LeO.refl _)
      | (with_reducible exact LeO.none _)
      | (with_reducible refine LeO.ite ?_ ?_)
      | (with_reducible refine LeO.bind ?_ (fun _ => ?_))
      | exact simil_Common.mono _ _ _
      | exact LeO.none _
      | refine LeO.ite ?_ ?_
      | refine LeO.bind ?_ (fun _ => ?_)
set_option maxHeartbeats 8000000 in
set_option maxRecDepth 100000 in
theorem simil_Score.calls (k : Nat) (a0 : ByteArray) (a1 : ByteArray) (r : Int) (w : World) (h : simil_Score.f k a0 a1 = some r) :
    Calls Try.prog 10 #[.string a0, .string a1] w fun e w' => e = .returned (.int .i64 r) ∧ Below w.heap.size w w' := by
  have HB := Aside0.mk (Below.refl w.heap.size w)
  have H : ((simil_Common.f k a0 a1).bind fun t117 => ((simil_score.f (a0.size : Int) (a1.size : Int) t117).bind fun t118 => (some t118))) = some r := h
  clear h
  replace H := Option.bind_eq_some_iff.mp H
  obtain ⟨t117, A30, H⟩ := H
  replace H : ((simil_score.f (a0.size : Int) (a1.size : Int) t117).bind fun t118 => (some t118)) = some r := H
  have A3 := Aside0.mk A30
  clear A30
  replace H := Option.bind_eq_some_iff.mp H
  obtain ⟨t118, A40, H⟩ := H
  replace H : (some t118) = some r := H
  have A4 := Aside0.mk A40
  clear A40
  obtain rfl := Option.some.inj H
  go_enter Try.func10, Try.ntmps10
  go_wp2_with (first | ((with_reducible refine gate_callee (f := 11) rfl ?_); refine goesL_ (some 11) rfl rfl Try.func11 (by kernel_rfl) rfl #[.string a0, .string a1] rfl (by (try simp only [List.map_toArray, List.map_cons, List.map_nil]); first | done | rfl | (simp only [List.length_drop, List.length_take]; rfl)) ?_; (with_reducible refine (simil_Common.calls k a0 a1 t117 _ A3.out).mono ?_); rintro e w5 ⟨rfl, hb⟩; refine ⟨_, rfl, ?_⟩; have n0_ := Aside0.mk (below_step (by repeat (first | (with_reducible first | exact HB.out | apply below_alloc | apply pw_below_drewN | apply below_drew1) | exact HB.out)) hb); clear HB; have HB := n0_; clear n0_; (try clear hb); (try clear hb2); (try clear hk); (try clear hi)) | ((with_reducible refine gate_callee (f := 21) rfl ?_); refine goesL_ (some 12) rfl rfl Try.func21 (by kernel_rfl) rfl #[.int .i64 (a0.size : Int), .int .i64 (a1.size : Int), .int .i64 t117] rfl (by (try simp only [List.map_toArray, List.map_cons, List.map_nil]); first | done | rfl | (simp only [List.length_drop, List.length_take]; rfl)) ?_; (with_reducible refine (simil_score.calls (a0.size : Int) (a1.size : Int) t117 t118 _ A4.out).mono ?_); rintro e w6 ⟨rfl, hb⟩; refine ⟨_, rfl, ?_⟩; have n0_ := Aside0.mk (below_step (by repeat (first | (with_reducible first | exact HB.out | apply below_alloc | apply pw_below_drewN | apply below_drew1) | exact HB.out)) hb); clear HB; have HB := n0_; clear n0_; (try clear hb); (try clear hb2); (try clear hk); (try clear hi)))
  go_ret
  exact ⟨by first | rfl | (simp [errW_none, errW_some] <;> rfl) | (simp [*, errW_none, errW_some] <;> rfl), by repeat (first | (with_reducible first | exact HB.out | apply below_alloc | apply pw_below_drewN | apply below_drew1) | exact HB.out)⟩

end Go.Proofs.Ythphnacnjbcpiaa.P
