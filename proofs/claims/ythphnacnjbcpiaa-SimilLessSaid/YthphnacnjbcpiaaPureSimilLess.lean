/- The plain statement of the law SimilLess: removing a line does not increase the common size, which is at most the length of the shorter string. Conditions: none beyond the statement's own. -/
import Derived.Test.YthphnacnjbcpiaaSSimilLess
import Derived.Test.YthphnacnjbcpiaaPlSimil
import Derived.Test.YthphnacnjbcpiaaPlRJoin
namespace Go.Proofs.Ythphnacnjbcpiaa.Pure
open Go.RowKit Go.Proofs.YthphnacnjbcpiaaW.PrintWords Go.Proofs.Ythphnacnjbcpiaa.P Go.Proofs.Ythphnacnjbcpiaa.Pl
theorem rdB_at (l : List ByteArray) (i : Nat) (h : i < l.length) : rdOf ByteArray.empty l (i : Int) = l[i] := by
  unfold rdOf
  rw [Int.toNat_natCast, List.getD_eq_getElem?_getD, List.getElem?_eq_getElem h]
  rfl
theorem map_eraseIdx {α β : Type} (f : α → β) : ∀ (l : List α) (i : Nat), (l.eraseIdx i).map f = (l.map f).eraseIdx i
  | [], _ => rfl
  | x :: l, 0 => rfl
  | x :: l, i + 1 => by simp [map_eraseIdx f l i]
theorem total_le_erase (l : List ByteArray) (i : Nat) : total (l.eraseIdx i) ≤ total l := by
  induction l generalizing i with
  | nil => simp
  | cons y l ih =>
    have e : total (y :: l) = y.size + total l := by simp [total]
    cases i with
    | zero => rw [e, List.eraseIdx_cons_zero]; omega
    | succ i =>
      have := ih i
      have e2 : total (y :: l.eraseIdx i) = y.size + total (l.eraseIdx i) := by simp [total]
      rw [List.eraseIdx_cons_succ, e, e2]
      omega
theorem less_step (k : Nat) (a b : ByteArray) (n : Nat) (c : Int) (X : List ByteArray) (hn : n < X.length) (hX : X.length < 4611686018427387904) : graftagelaw11_SimilLess.j1 (k + 1) a b (n : Int) c X false =
    ((graftageref05_Join.f k (X.take n)).bind fun t162 => (graftageref05_Join.f k (X.drop (n + 1))).bind fun t167 => if t162.size + t167.size ≤ 9223372036854775807 then (simil_Common.f k (t162 ++ t167) b).bind fun t168 => if t168 ≤ c then if (wrap64 (c - t168)) ≤ ((X[n]).size : Int) then (graftagelaw11_lives.f k).bind fun t => some t else some false else some false else none) := by
  have hw : wrap64 ((n : Int) + 1) = ((n + 1 : Nat) : Int) := by rw [w64 (by omega) (by omega)]; rfl
  have g1 : (0 : Int) ≤ (n : Int) := by omega
  have g2 : (n : Int) ≤ (X.length : Int) := by omega
  have g3 : (0 : Int) ≤ ((n + 1 : Nat) : Int) := by omega
  have g4 : ((n + 1 : Nat) : Int) ≤ (X.length : Int) := by omega
  have g5 : (n : Int) < (X.length : Int) := by omega
  rw [graftagelaw11_SimilLess.j1, if_neg (by simp), if_pos g1, if_pos g2, hw, Int.toNat_natCast, Int.toNat_natCast, rdB_at _ n hn]
  simp only [if_pos g3, if_pos g4, if_pos g5]
theorem less_rest (b p q : ByteArray) (s n m : Nat) (hpq : p.size + q.size ≤ 9223372036854775807) (hc : Ev (fun k => simil_Common.f k (p ++ q) b) (m : Int)) (h1 : m ≤ n) (h2 : n ≤ s + m) (h3 : n < 4611686018427387904) :
    Ev (fun k => if p.size + q.size ≤ 9223372036854775807 then (simil_Common.f k (p ++ q) b).bind fun t168 => if t168 ≤ (n : Int) then if (wrap64 ((n : Int) - t168)) ≤ (s : Int) then (graftagelaw11_lives.f k).bind fun t => some t else some false else some false else none) true := by
  have fin := Ev.bind (f := fun _ (t : Bool) => some t) lives_ev (Ev.now true)
  refine Ev.congr (fun k => if_pos hpq) (Ev.bind hc (Ev.congr (fun k => if_pos (by omega)) (Ev.congr (fun k => if_pos ?_) fin)))
  rw [w64 (by omega) (by omega)]
  omega
theorem SimilLess : graftagelaw11_SimilLess.Pure := by
  intro a b i _ _ hwf
  have hi := wfI hwf
  refine Ev.rounds ?_
  have fin := Ev.bind (f := fun _ (t : Bool) => some t) lives_ev (Ev.now true)
  have yes : Ev (fun k => graftagelaw11_SimilLess.j0 k a b i true) true := Ev.step (fun k => by rw [graftagelaw11_SimilLess.j0, if_pos rfl]) fin
  unfold graftagelaw11_SimilLess.f
  rcases few_ev a with ⟨ha, h1⟩ | h1
  case inr => exact Ev.bind h1 yes
  refine Ev.bind h1 (Ev.congr (fun k => if_pos rfl) ?_)
  rcases few_ev b with ⟨hb, h2⟩ | h2
  case inr => exact Ev.bind h2 yes
  refine Ev.bind h2 ?_
  have ha' : a.size < 8796093022208 := by omega
  have hb' : b.size < 8796093022208 := by omega
  have hl := com_le_l a b
  have hr := com_le_r a b
  have hmn : (com a b : Int) ≤ mn (a.size : Int) (b.size : Int) := by rw [mn_nat]; omega
  have hlen := lns_length a
  refine Ev.step (fun k => by rw [graftagelaw11_SimilLess.j0, if_neg (by simp)]) ?_
  refine Ev.bind (common_ev a b ha' hb') (Ev.bind (rsplit_ev a ha') (Ev.congr (fun k => if_neg (by omega)) ?_))
  have one : Ev (fun k => graftagelaw11_SimilLess.j1 k a b i (com a b : Int) (lns a) true) true := Ev.step (fun k => by rw [graftagelaw11_SimilLess.j1, if_pos rfl, if_pos hmn]) fin
  by_cases c0 : i < 0
  · exact Ev.congr (fun k => if_pos c0) one
  refine Ev.congr (fun k => if_neg c0) ?_
  by_cases c1 : i ≥ ((lns a).length : Int)
  · rw [decide_eq_true c1]
    exact one
  rw [decide_eq_false c1]
  obtain ⟨n, rfl⟩ : ∃ n : Nat, i = n := ⟨i.toNat, by omega⟩
  have hn : n < (lns a).length := by omega
  have he : (lns a).take n ++ (lns a).drop (n + 1) = (lns a).eraseIdx n := (List.eraseIdx_eq_take_drop_succ _ _).symm
  have hte := total_le_erase (lns a) n
  rw [total_lns] at hte
  have hsum : total ((lns a).take n) + total ((lns a).drop (n + 1)) = total ((lns a).eraseIdx n) := by rw [← he]; simp [total]
  have hbig : (lns a).length < 4611686018427387904 := by omega
  have hl1 : ((lns a).take n).length < 4611686018427387904 := Nat.lt_of_le_of_lt (by rw [List.length_take]; exact Nat.min_le_right _ _) hbig
  have hl2 : ((lns a).drop (n + 1)).length < 4611686018427387904 := Nat.lt_of_le_of_lt (by rw [List.length_drop]; exact Nat.sub_le _ _) hbig
  have ht1 : total ((lns a).take n) < 140737488355328 := by omega
  have ht2 : total ((lns a).drop (n + 1)) < 140737488355328 := by omega
  have hpq : (cat ((lns a).take n)).size + (cat ((lns a).drop (n + 1))).size ≤ 9223372036854775807 := by rw [total_cat, total_cat]; omega
  have hcb : com a b < 4611686018427387904 := by omega
  have hs2 : (cat ((lns a).eraseIdx n)).size < 8796093022208 := by rw [total_cat]; omega
  have hcat : cat ((lns a).take n) ++ cat ((lns a).drop (n + 1)) = cat ((lns a).eraseIdx n) := by rw [← cat_append, he]
  have hlns : lns (cat ((lns a).eraseIdx n)) = (lns a).eraseIdx n := by
    refine lns_cat ?_
    rw [map_eraseIdx]
    exact whole_erase n (lns_whole a)
  have hm := cm_more ByteArray.size (s := (lns a)[n]) (h := (lns a).eraseIdx n) (H := lns a) (L := lns b) fun x => cnt_erase x _ n hn
  have hc2 : com (cat ((lns a).eraseIdx n)) b = cm ByteArray.size ((lns a).eraseIdx n) (lns b) := by unfold com; rw [hlns]
  have hc1 : com a b = cm ByteArray.size (lns a) (lns b) := rfl
  rw [← hc1, ← hc2] at hm
  clear hc1 hc2 hlns he
  refine Ev.step (fun k => less_step k a b n (com a b : Int) (lns a) hn hbig) ?_
  exact Ev.bind (rjoin_ev _ hl1 ht1) (Ev.bind (rjoin_ev _ hl2 ht2) (less_rest b (cat ((lns a).take n)) (cat ((lns a).drop (n + 1))) _ (com a b) (com (cat ((lns a).eraseIdx n)) b) hpq (by rw [hcat]; exact common_ev _ b hs2 hb') hm.1 hm.2 hcb))
end Go.Proofs.Ythphnacnjbcpiaa.Pure
