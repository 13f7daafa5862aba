/- The plain statement of the law SimilOrder: reversing the order of the lines does not change the measures. Conditions: none beyond the statement's own. -/
import Derived.Test.YthphnacnjbcpiaaSSimilOrder
import Derived.Test.YthphnacnjbcpiaaPlSimil
import Derived.Test.YthphnacnjbcpiaaPlRJoin
namespace Go.Proofs.Ythphnacnjbcpiaa.Pure
open Go.RowKit Go.Proofs.YthphnacnjbcpiaaW.PrintWords Go.Proofs.Ythphnacnjbcpiaa.P Go.Proofs.Ythphnacnjbcpiaa.Pl
theorem rdB_at (l : List ByteArray) (i : Nat) (h : i < l.length) : rdOf ByteArray.empty l (i : Int) = l[i] := by
  unfold rdOf
  rw [Int.toNat_natCast, List.getD_eq_getElem?_getD, List.getElem?_eq_getElem h]
  rfl
theorem total_reverse (l : List ByteArray) : total l.reverse = total l := by
  unfold total
  rw [List.map_reverse, List.sum_reverse]
theorem order_loop (a b : ByteArray) (X : List ByteArray) (hX : X.length < 4398046511104) (R : Bool) (hR : Ev (fun k => graftagelaw11_SimilOrder.l0 k a b X X.reverse (-1)) R) : ∀ n : Nat, n ≤ X.length → Ev (fun k => graftagelaw11_SimilOrder.l0 k a b X (X.drop n).reverse ((n : Int) - 1)) R := by
  intro n
  induction n with
  | zero => intro _; exact hR
  | succ n ih =>
    intro hn
    refine Ev.step (fun k => ?_) (ih (by omega))
    rw [graftagelaw11_SimilOrder.l0, if_pos (by omega), if_pos (by omega), if_pos (by omega), if_pos (by rw [List.length_reverse, List.length_drop]; omega), w64 (by omega) (by omega), show ((n + 1 : Nat) : Int) - 1 = (n : Int) by omega, rdB_at X n (by omega)]
    rw [List.drop_eq_getElem_cons (show n < X.length by omega), List.reverse_cons]
theorem SimilOrder : graftagelaw11_SimilOrder.Pure := by
  intro a b _ _
  refine Ev.rounds ?_
  have fin := Ev.bind (f := fun _ (t : Bool) => some t) lives_ev (Ev.now true)
  have yes : Ev (fun k => graftagelaw11_SimilOrder.j0 k a b true) true := Ev.step (fun k => by rw [graftagelaw11_SimilOrder.j0, if_pos rfl]) fin
  unfold graftagelaw11_SimilOrder.f
  rcases few_ev a with ⟨ha, h1⟩ | h1
  case inr => exact Ev.bind h1 yes
  refine Ev.bind h1 (Ev.congr (fun k => if_pos rfl) ?_)
  rcases few_ev b with ⟨hb, h2⟩ | h2
  case inr => exact Ev.bind h2 yes
  refine Ev.bind h2 (Ev.congr (fun k => if_pos rfl) ?_)
  have ha' : a.size < 8796093022208 := by omega
  have hb' : b.size < 8796093022208 := by omega
  have hlen := lns_length a
  -- where the text is empty, or ends with a line feed
  have main : (∀ p c, by_ a = p ++ [c] → c = 10) → Ev (fun k => graftagelaw11_SimilOrder.j0 k a b false) true := by
    intro hend
    have hall := whole_ends (lns_whole a) (by rw [lns_by, spl_flat]; exact hend)
    have hw : Whole ((lns a).reverse.map by_) := whole_of_all fun l hl => hall l (by simpa using hl)
    have hlns := lns_cat hw
    have hcom : com (cat (lns a).reverse) b = com a b := by
      unfold com
      rw [hlns]
      exact cm_congr _ fun x => cnt_reverse x _
    have hsize : (cat (lns a).reverse).size = a.size := by rw [total_cat, total_reverse, total_lns]
    have hsc : sc (cat (lns a).reverse) b = sc a b := by unfold sc; rw [hcom, hsize]
    refine Ev.step (fun k => by rw [graftagelaw11_SimilOrder.j0, if_neg (by simp)]) (Ev.bind (rsplit_ev a ha') ?_)
    rw [w64 (by omega) (by omega)]
    have := order_loop a b (lns a) (by omega) true ?_ (lns a).length (Nat.le_refl _)
    · rw [List.drop_length] at this
      exact this
    · refine Ev.step (fun k => by rw [graftagelaw11_SimilOrder.l0, if_neg (by omega)]) ?_
      refine Ev.bind (rjoin_ev _ (by rw [List.length_reverse]; omega) (by rw [total_reverse, total_lns]; omega)) ?_
      refine Ev.bind (common_ev _ b (by omega) hb') (Ev.bind (common_ev a b ha' hb') (Ev.congr (fun k => if_pos (by rw [hcom])) ?_))
      refine Ev.bind (score_ev _ b (by omega) hb') (Ev.bind (score_ev a b ha' hb') (Ev.congr (fun k => if_pos (by rw [hsc])) fin))
  by_cases h0 : by_ a = []
  · refine Ev.congr (fun k => if_pos ((toList_nil a).2 h0)) (main ?_)
    intro p c e
    rw [h0] at e
    simp at e
  · refine Ev.congr (fun k => if_neg (fun h => h0 ((toList_nil a).1 h))) ?_
    have hpos := List.length_pos_iff.2 h0
    rw [← by_size] at hpos
    have hsp : by_ a = (by_ a).dropLast ++ [(by_ a).getLast h0] := (List.dropLast_concat_getLast h0).symm
    have hdl : ((by_ a).dropLast.length : Int) = (a.size : Int) - 1 := by rw [List.length_dropLast, ← by_size]; omega
    have hbt := bt_mid (a := (by_ a).dropLast) (b := (by_ a).getLast h0) (c := []) hsp
    rw [w64 (by omega) (by omega)]
    rw [hdl] at hbt
    refine Ev.congr (fun k => if_pos (by omega)) (Ev.congr (fun k => if_pos (by omega)) ?_)
    rw [hbt]
    by_cases hc : (by_ a).getLast h0 = 10
    · rw [hc]
      refine main ?_
      intro p c e
      have : (by_ a).getLast h0 = c := by simp only [e, List.getLast_concat]
      rw [← this, hc]
    · have : (((by_ a).getLast h0).toNat : Int) ≠ 10 := fun h => hc ((ten_iff _).1 h)
      rw [bne_iff_ne.2 this]
      exact yes
end Go.Proofs.Ythphnacnjbcpiaa.Pure
