/- The plain statement of the law SimilLess: removing a line does not increase the common size, which is at most the length of the shorter string. Conditions: none beyond the statement's own. -/
import Derived.Test.YthphnacnjbcpiaaSSimilLess
import Derived.Test.YthphnacnjbcpiaaPlSimil
import Derived.Test.YthphnacnjbcpiaaPlRJoin
namespace Go.Proofs.Ythphnacnjbcpiaa.Pure
open Go.RowKit Go.Proofs.YthphnacnjbcpiaaW.PrintWords Go.Proofs.Ythphnacnjbcpiaa.P Go.Proofs.Ythphnacnjbcpiaa.Pl
theorem rdB_at (l : List ByteArray) (i : Nat) (h : i < l.length) : rdOf ByteArray.empty l (i : Int) = l[i] := by
  unfold rdOf
  rw [Int.toNat_natCast, List.getD_eq_getElem?_getD, List.getElem?_eq_getElem h]
  rfl
theorem map_eraseIdx {α β : Type} (f : α → β) : ∀ (l : List α) (i : Nat), (l.eraseIdx i).map f = (l.map f).eraseIdx i
  | [], _ => rfl
  | x :: l, 0 => rfl
  | x :: l, i + 1 => by simp [map_eraseIdx f l i]
theorem total_le_erase (l : List ByteArray) (i : Nat) : total (l.eraseIdx i) ≤ total l := by
  induction l generalizing i with
  | nil => simp
  | cons y l ih =>
    have e : total (y :: l) = y.size + total l := by simp [total]
    cases i with
    | zero => rw [e, List.eraseIdx_cons_zero]; omega
    | succ i =>
      have := ih i
      have e2 : total (y :: l.eraseIdx i) = y.size + total (l.eraseIdx i) := by simp [total]
      rw [List.eraseIdx_cons_succ, e, e2]
      omega
theorem SimilLess : graftagelaw11_SimilLess.Pure := by
  intro a b i _ _ hwf
  have hi := wfI hwf
  refine Ev.rounds ?_
  have fin := Ev.bind (f := fun _ (t : Bool) => some t) lives_ev (Ev.now true)
  have yes : Ev (fun k => graftagelaw11_SimilLess.j0 k a b i true) true := Ev.step (fun k => by rw [graftagelaw11_SimilLess.j0, if_pos rfl]) fin
  unfold graftagelaw11_SimilLess.f
  rcases few_ev a with ⟨ha, h1⟩ | h1
  case inr => exact Ev.bind h1 yes
  refine Ev.bind h1 (Ev.congr (fun k => if_pos rfl) ?_)
  rcases few_ev b with ⟨hb, h2⟩ | h2
  case inr => exact Ev.bind h2 yes
  refine Ev.bind h2 ?_
  have ha' : a.size < 8796093022208 := by omega
  have hb' : b.size < 8796093022208 := by omega
  have hl := com_le_l a b
  have hr := com_le_r a b
  have hmn : (com a b : Int) ≤ mn (a.size : Int) (b.size : Int) := by rw [mn_nat]; omega
  have hlen := lns_length a
  refine Ev.step (fun k => by rw [graftagelaw11_SimilLess.j0, if_neg (by simp)]) ?_
  refine Ev.bind (common_ev a b ha' hb') (Ev.bind (rsplit_ev a ha') (Ev.congr (fun k => if_neg (by omega)) ?_))
  have one : Ev (fun k => graftagelaw11_SimilLess.j1 k a b i (com a b : Int) (lns a) true) true := Ev.step (fun k => by rw [graftagelaw11_SimilLess.j1, if_pos rfl, if_pos hmn]) fin
  by_cases c0 : i < 0
  · exact Ev.congr (fun k => if_pos c0) one
  refine Ev.congr (fun k => if_neg c0) ?_
  by_cases c1 : i ≥ ((lns a).length : Int)
  · rw [decide_eq_true c1]
    exact one
  rw [decide_eq_false c1]
  obtain ⟨n, rfl⟩ : ∃ n : Nat, i = n := ⟨i.toNat, by omega⟩
  have hn : n < (lns a).length := by omega
  have he : (lns a).take n ++ (lns a).drop (n + 1) = (lns a).eraseIdx n := (List.eraseIdx_eq_take_drop_succ _ _).symm
  have hte := total_le_erase (lns a) n
  rw [total_lns] at hte
  have hsum : total ((lns a).take n) + total ((lns a).drop (n + 1)) = total ((lns a).eraseIdx n) := by rw [← he]; simp [total]
  have hcat : cat ((lns a).take n) ++ cat ((lns a).drop (n + 1)) = cat ((lns a).eraseIdx n) := by rw [← cat_append, he]
  have hlns : lns (cat ((lns a).eraseIdx n)) = (lns a).eraseIdx n := by
    refine lns_cat ?_
    rw [map_eraseIdx]
    exact whole_erase n (lns_whole a)
  have hm := cm_more ByteArray.size (s := (lns a)[n]) (h := (lns a).eraseIdx n) (H := lns a) (L := lns b) fun x => cnt_erase x _ n hn
  have hc2 : com (cat ((lns a).eraseIdx n)) b = cm ByteArray.size ((lns a).eraseIdx n) (lns b) := by unfold com; rw [hlns]
  have hc1 : com a b = cm ByteArray.size (lns a) (lns b) := rfl
  rw [← hc1, ← hc2] at hm
  clear hc1 hc2 hlns he
  have hs2 : (cat ((lns a).eraseIdx n)).size < 8796093022208 := by rw [total_cat]; omega
  have hw : wrap64 ((n : Int) + 1) = ((n + 1 : Nat) : Int) := by rw [w64 (by omega) (by omega)]; rfl
  have g1 : (0 : Int) ≤ (n : Int) := by omega
  have g2 : (n : Int) ≤ ((lns a).length : Int) := by omega
  have g3 : (0 : Int) ≤ ((n + 1 : Nat) : Int) := by omega
  have g4 : ((n + 1 : Nat) : Int) ≤ ((lns a).length : Int) := by omega
  have g5 : (n : Int) < ((lns a).length : Int) := by omega
  refine Ev.step (f := fun k => (graftageref05_Join.f k ((lns a).take n)).bind fun t162 => (graftageref05_Join.f k ((lns a).drop (n + 1))).bind fun t167 => if t162.size + t167.size ≤ 9223372036854775807 then (simil_Common.f k (t162 ++ t167) b).bind fun t168 => if t168 ≤ (com a b : Int) then if (wrap64 ((com a b : Int) - t168)) ≤ (((lns a)[n]).size : Int) then (graftagelaw11_lives.f k).bind fun t => some t else some false else some false else none) (fun k => ?_) ?_
  · rw [graftagelaw11_SimilLess.j1, if_neg (by simp), if_pos g1, if_pos g2, hw, Int.toNat_natCast, Int.toNat_natCast, rdB_at _ n hn]
    simp only [if_pos g3, if_pos g4, if_pos g5]
  · refine Ev.bind (rjoin_ev _ (by rw [List.length_take]; omega) (by omega)) (Ev.bind (rjoin_ev _ (by rw [List.length_drop]; omega) (by omega)) (Ev.congr (fun k => if_pos (by rw [total_cat, total_cat]; omega)) ?_))
    rw [hcat]
    refine Ev.bind (common_ev _ b hs2 hb') (Ev.congr (fun k => if_pos (by omega)) (Ev.congr (fun k => if_pos ?_) fin))
    rw [w64 (by omega) (by omega)]
    omega
end Go.Proofs.Ythphnacnjbcpiaa.Pure
