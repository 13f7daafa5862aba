/- The plain statement of the law SimilBoth: the measures are symmetric, and the score is 100 just for equal multisets of lines. Conditions: none beyond the statement's own. -/
import Derived.Test.YthphnacnjbcpiaaSSimilBoth
import Derived.Test.YthphnacnjbcpiaaPlSimil
namespace Go.Proofs.Ythphnacnjbcpiaa.Pure
open Go.RowKit Go.Proofs.YthphnacnjbcpiaaW.PrintWords Go.Proofs.Ythphnacnjbcpiaa.P Go.Proofs.Ythphnacnjbcpiaa.Pl
theorem com_self (a : ByteArray) : com a a = a.size := by
  unfold com
  rw [cm_full _ (fun x => Nat.le_refl _)]
  exact total_lns a
theorem sc_symm (a b : ByteArray) : sc a b = sc b a := by unfold sc; rw [com_symm, Nat.max_comm]
theorem sc_le (a b : ByteArray) : sc a b ≤ 100 := by
  have h := com_le_r a b
  unfold sc
  split
  · exact Nat.le_refl _
  · exact Nat.div_le_of_le_mul (by rw [Nat.mul_comm]; exact Nat.mul_le_mul_right _ (by omega))
theorem sc_full (a b : ByteArray) : sc a b = 100 ↔ com a b = max a.size b.size := by
  have h := com_le_r a b
  unfold sc
  by_cases p : max a.size b.size = 0
  · rw [if_pos p]
    constructor
    · intro _; omega
    · intro _; rfl
  · rw [if_neg p]
    constructor
    · intro e
      have h1 := Nat.div_mul_le_self (100 * com a b) (max a.size b.size)
      rw [e] at h1
      omega
    · intro e
      rw [e]
      exact Nat.mul_div_cancel _ (by omega)
theorem sc_self (a : ByteArray) : sc a a = 100 := by rw [sc_full, com_self, Nat.max_self]
/-- The score is 100 just if each line stands as often in both. -/
theorem sc_counts (a b : ByteArray) : sc a b = 100 ↔ ∀ x, cnt (lns a) x = cnt (lns b) x := by
  rw [sc_full]
  have hl := com_le_l a b
  have hr := com_le_r a b
  constructor
  · intro e x
    have h1 : com a b = tot ByteArray.size (lns b) := by rw [show tot ByteArray.size (lns b) = b.size from total_lns b]; omega
    have h2 : com b a = tot ByteArray.size (lns a) := by rw [com_symm, show tot ByteArray.size (lns a) = a.size from total_lns a]; omega
    have := cm_total ByteArray.size (lns_pos b) h1 x
    have := cm_total ByteArray.size (lns_pos a) h2 x
    omega
  · intro h
    have e : com a b = com b b := cm_congr _ h
    have e2 : com b a = com a a := cm_congr _ fun x => (h x).symm
    rw [com_self] at e e2
    rw [com_symm] at e2
    omega
theorem rdB_at (l : List ByteArray) (i : Nat) (h : i < l.length) : rdOf ByteArray.empty l (i : Int) = l[i] := by
  unfold rdOf
  rw [Int.toNat_natCast, List.getD_eq_getElem?_getD, List.getElem?_eq_getElem h]
  rfl
theorem turned_in (X Y : List ByteArray) (hXY : X.length = Y.length) (hX : X.length < 4611686018427387904) (i : Nat) (hi : i < X.length) : ∀ (d j : Nat) (p q : Nat), j + d = X.length → p ≤ j → q ≤ j →
    Ev (fun k => graftagelaw11_turned.l0 k X Y (X.length : Int) ((i : Int) + 1)) true ∨ Ev (fun k => graftagelaw11_turned.l0 k X Y (X.length : Int) ((i : Int) + 1)) false →
    ∃ R, (p + cnt (X.drop j) X[i] = q + cnt (Y.drop j) X[i] → Ev (fun k => graftagelaw11_turned.l0 k X Y (X.length : Int) ((i : Int) + 1)) R) ∧ (p + cnt (X.drop j) X[i] ≠ q + cnt (Y.drop j) X[i] → R = false) ∧
    Ev (fun k => graftagelaw11_turned.l1 k X Y (i : Int) ((p : Int) - (q : Int)) (X.length : Int) (i : Int) (X.length : Int) (j : Int)) R := by
  intro d
  induction d with
  | zero =>
    intro j p q hj hp hq ho
    have hdx : X.drop j = [] := List.drop_eq_nil_of_le (by omega)
    have hdy : Y.drop j = [] := List.drop_eq_nil_of_le (by omega)
    rw [hdx, hdy, cnt, Nat.add_zero, Nat.add_zero]
    by_cases e : p = q
    · rcases ho with ho | ho
      · exact ⟨true, fun _ => ho, fun h => absurd e h, Ev.step (fun k => by rw [graftagelaw11_turned.l1, if_neg (by omega), if_pos (by omega), w64 (by omega) (by omega)]) ho⟩
      · exact ⟨false, fun _ => ho, fun h => absurd e h, Ev.step (fun k => by rw [graftagelaw11_turned.l1, if_neg (by omega), if_pos (by omega), w64 (by omega) (by omega)]) ho⟩
    · exact ⟨false, fun h => absurd h e, fun _ => rfl, Ev.end_ fun k => by rw [graftagelaw11_turned.l1, if_neg (by omega), if_neg (by omega)]⟩
  | succ d ih =>
    intro j p q hj hp hq ho
    have hjx : j < X.length := by omega
    have hjy : j < Y.length := by omega
    rw [List.drop_eq_getElem_cons hjx, List.drop_eq_getElem_cons hjy, cnt, cnt]
    obtain ⟨R, h1, h2, h3⟩ := ih (j + 1) (p + if X[j] = X[i] then 1 else 0) (q + if Y[j] = X[i] then 1 else 0) (by omega) (by split <;> omega) (by split <;> omega) ho
    refine ⟨R, fun h => h1 (by omega), fun h => h2 (by omega), ?_⟩
    refine Ev.step (fun k => ?_) h3
    have c1 := rdB_at X j hjx
    have c2 := rdB_at Y j hjy
    have c3 := rdB_at X i hi
    rw [graftagelaw11_turned.l1, if_pos (by omega), if_pos (by omega), if_pos (by omega), if_pos (by omega), if_pos (by omega), c1, c2, c3, w64 (n := (j : Int) + 1) (by omega) (by omega)]
    have hy : (j : Int) < (Y.length : Int) := by omega
    by_cases e1 : X[j] = X[i] <;> by_cases e2 : Y[j] = X[i]
    · rw [if_pos (tl_inj.2 e1), if_pos hy, if_pos (tl_inj.2 e2), if_pos e1, if_pos e2, w64 (n := (p : Int) - q + 1) (by omega) (by omega), w64 (by omega) (by omega)]
      congr 1
      omega
    · rw [if_pos (tl_inj.2 e1), if_pos hy, if_neg (fun h => e2 (tl_inj.1 h)), if_pos e1, if_neg e2, w64 (n := (p : Int) - q + 1) (by omega) (by omega)]
      congr 1
      omega
    · rw [if_neg (fun h => e1 (tl_inj.1 h)), if_pos hy, if_pos (tl_inj.2 e2), if_neg e1, if_pos e2, w64 (n := (p : Int) - q - 1) (by omega) (by omega)]
      congr 1
      omega
    · rw [if_neg (fun h => e1 (tl_inj.1 h)), if_pos hy, if_neg (fun h => e2 (tl_inj.1 h)), if_neg e1, if_neg e2]
      congr 1
theorem turned_loop (X Y : List ByteArray) (hXY : X.length = Y.length) (hX : X.length < 4611686018427387904) : ∀ (d i : Nat), i + d = X.length →
    Ev (fun k => graftagelaw11_turned.l0 k X Y (X.length : Int) (i : Int)) (decide (∀ (j : Nat) (h : j < X.length), i ≤ j → cnt X X[j] = cnt Y X[j])) := by
  intro d
  induction d with
  | zero =>
    intro i hi
    refine Ev.end_ fun k => ?_
    rw [graftagelaw11_turned.l0, if_neg (by omega), decide_eq_true (fun j h hij => absurd h (by omega))]
  | succ d ih =>
    intro i hi
    have hil : i < X.length := by omega
    have hn := ih (i + 1) (by omega)
    rw [show ((i + 1 : Nat) : Int) = (i : Int) + 1 by omega] at hn
    obtain ⟨R, h1, h2, h3⟩ := turned_in X Y hXY hX i hil X.length 0 0 0 (by omega) (Nat.le_refl _) (Nat.le_refl _) (by
      cases hq : decide (∀ (j : Nat) (h : j < X.length), i + 1 ≤ j → cnt X X[j] = cnt Y X[j]) with
      | true => rw [hq] at hn; exact .inl hn
      | false => rw [hq] at hn; exact .inr hn)
    rw [List.drop_zero, List.drop_zero, Nat.zero_add, Nat.zero_add] at h1 h2
    have hR : R = decide (∀ (j : Nat) (h : j < X.length), i ≤ j → cnt X X[j] = cnt Y X[j]) := by
      by_cases e : cnt X X[i] = cnt Y X[i]
      · rw [Ev.unique (h1 e) hn]
        refine decide_eq_decide.2 ⟨fun h j hj hij => ?_, fun h j hj hij => h j hj (by omega)⟩
        by_cases q : i = j
        · subst q; exact e
        · exact h j hj (by omega)
      · rw [h2 e, decide_eq_false (fun h => e (h i hil (Nat.le_refl _)))]
    rw [← hR]
    refine Ev.step (fun k => ?_) h3
    rw [graftagelaw11_turned.l0, if_pos (by omega)]
    rfl
theorem turned_ev (a b : ByteArray) (ha : a.size < 8796093022208) (hb : b.size < 8796093022208) : Ev (fun k => graftagelaw11_turned.f k a b) (decide (sc a b = 100)) := by
  unfold graftagelaw11_turned.f
  have hl := lns_length a
  refine Ev.bind (rsplit_ev a ha) (Ev.bind (rsplit_ev b hb) ?_)
  by_cases e : (lns a).length = (lns b).length
  · refine Ev.congr (fun k => if_pos (by omega)) ?_
    have := turned_loop (lns a) (lns b) e (by omega) (lns a).length 0 (by omega)
    have hd : decide (sc a b = 100) = decide (∀ (j : Nat) (h : j < (lns a).length), 0 ≤ j → cnt (lns a) (lns a)[j] = cnt (lns b) (lns a)[j]) := by
      refine decide_eq_decide.2 ?_
      rw [sc_counts]
      constructor
      · intro h j hj _; exact h _
      · intro h
        refine same_counts e fun v hv => ?_
        obtain ⟨j, hj, rfl⟩ := List.getElem_of_mem hv
        exact h j hj (Nat.zero_le _)
    rw [hd]
    exact this
  · refine Ev.congr (fun k => if_neg (by omega)) ?_
    rw [decide_eq_false]
    · exact Ev.now _
    · rw [sc_counts]
      intro h
      apply e
      have h1 := cm_full (fun _ : ByteArray => 1) (L := lns a) (H := lns b) fun x => Nat.le_of_eq (h x)
      have h2 := cm_full (fun _ : ByteArray => 1) (L := lns b) (H := lns a) fun x => Nat.le_of_eq (h x).symm
      rw [tot_one] at h1 h2
      rw [← h1, ← h2, cm_symm]
theorem SimilBoth : graftagelaw11_SimilBoth.Pure := by
  intro a b _ _
  refine Ev.rounds ?_
  have fin := Ev.bind (f := fun _ (t : Bool) => some t) lives_ev (Ev.now true)
  have yes : Ev (fun k => graftagelaw11_SimilBoth.j0 k a b true) true := Ev.step (fun k => by rw [graftagelaw11_SimilBoth.j0, if_pos rfl]) fin
  unfold graftagelaw11_SimilBoth.f
  rcases few_ev a with ⟨ha, h1⟩ | h1
  case inr => exact Ev.bind h1 yes
  refine Ev.bind h1 (Ev.congr (fun k => if_pos rfl) ?_)
  rcases few_ev b with ⟨hb, h2⟩ | h2
  case inr => exact Ev.bind h2 yes
  refine Ev.bind h2 ?_
  have ha' : a.size < 8796093022208 := by omega
  have hb' : b.size < 8796093022208 := by omega
  have hle := sc_le a b
  refine Ev.step (fun k => by rw [graftagelaw11_SimilBoth.j0, if_neg (by simp)]) ?_
  refine Ev.bind (score_ev a b ha' hb') (Ev.bind (common_ev a b ha' hb') (Ev.bind (common_ev b a hb' ha') (Ev.congr (fun k => if_pos (by rw [com_symm])) ?_)))
  refine Ev.bind (score_ev b a hb' ha') (Ev.congr (fun k => if_pos (by rw [sc_symm])) ?_)
  refine Ev.bind (common_ev a a ha' ha') (Ev.congr (fun k => if_pos (by rw [com_self])) ?_)
  refine Ev.bind (score_ev a a ha' ha') (Ev.congr (fun k => if_pos (by rw [sc_self]; rfl)) ?_)
  refine Ev.congr (fun k => if_pos (by omega)) (Ev.congr (fun k => if_pos (by omega)) ?_)
  refine Ev.bind (turned_ev a b ha' hb') (Ev.congr (fun k => if_pos ?_) fin)
  by_cases e : sc a b = 100
  · rw [e]; rfl
  · rw [decide_eq_false e, beq_eq_false_iff_ne.2 (show (sc a b : Int) ≠ 100 by omega)]; rfl
end Go.Proofs.Ythphnacnjbcpiaa.Pure
