/- The document's examples hold; what Cost answers; that 'short' answers. Conditions: none. -/
import Derived.Test.YtikepmdhnbnohaaPx0
import Derived.Test.YtikepmdhnbnohaaPx3
import Derived.Test.YtikepmdhnbnohaaPx6
import Derived.Test.YtikepmdhnbnohaaPx7
import Derived.Test.YtikepmdhnbnohaaPlLeast
namespace Go.Proofs.Ytikepmdhnbnohaa.Pl
open Go.RowKit Go.Proofs.YtikepmdhnbnohaaW.PrintWords Go.Proofs.Ytikepmdhnbnohaa.P
set_option linter.unusedSimpArgs false
set_option linter.unusedVariables false
theorem wrap_l (x y : Int) : wrap64 (wrap64 x + y) = wrap64 (x + y) := by unfold wrap64; omega
theorem wrap_r (x y : Int) : wrap64 (x + wrap64 y) = wrap64 (x + y) := by unfold wrap64; omega
theorem rdE_at (l : List Ed) (i : Nat) (h : i < l.length) : rd_T44 l (i : Int) = l[i] := by
  unfold rd_T44
  rw [Int.toNat_natCast, List.getD_eq_getElem?_getD, List.getElem?_eq_getElem h]
  rfl
theorem cost_loop (l : List Ed) (hl : l.length < 4611686018427387904) : ∀ (d i : Nat) (c : Int), i + d = l.length → Ev (fun k => diff_Cost.l0 k (wrap64 c) l (l.length : Int) (i : Int)) (wrap64 (c + cost (l.drop i))) := by
  intro d
  induction d with
  | zero =>
    intro i c hi
    refine Ev.end_ fun k => ?_
    rw [diff_Cost.l0, if_neg (by omega), List.drop_eq_nil_of_le (show l.length ≤ i by omega), cost_nil, Int.add_zero]
  | succ d ih =>
    intro i c hi
    have hil : i < l.length := by omega
    rw [drop_cons l i hil, cost_cons, show c + (l[i].f1 + l[i].f3 + cost (l.drop (i + 1))) = c + (l[i].f1 + l[i].f3) + cost (l.drop (i + 1)) by omega]
    refine Ev.step (fun k => ?_) (ih (i + 1) (c + (l[i].f1 + l[i].f3)) (by omega))
    rw [diff_Cost.l0, if_pos (by omega), if_pos (by omega), if_pos (by omega), rdE_at l i hil, wrap_l, wrap_r, w64 (n := (i : Int) + 1) (by omega) (by omega)]
    rfl
theorem cost_ev (l : List Ed) (hl : l.length < 4611686018427387904) : Ev (fun k => diff_Cost.f k l) (wrap64 (cost l)) := by
  have := cost_loop l hl l.length 0 0 (by omega)
  rw [List.drop_zero, Int.zero_add, w64 (n := 0) (by omega) (by omega)] at this
  exact this
theorem short_loop (l : List ByteArray) (a1 a2 : Int) (hl : l.length < 4611686018427387904) : ∀ (d i : Nat) (c : Int), i + d = l.length → ∃ r, Ev (fun k => graftageref05_Short.l0 k l a1 a2 c (l.length : Int) (i : Int)) r ∧ (r = true → (l.length : Int) ≤ a1) := by
  intro d
  induction d with
  | zero =>
    intro i c hi
    refine ⟨decide ((l.length : Int) ≤ a1), Ev.end_ fun k => ?_, fun h => of_decide_eq_true h⟩
    rw [graftageref05_Short.l0, if_neg (by omega)]
  | succ d ih =>
    intro i c hi
    by_cases hc : wrap64 (c + ((rdOf ByteArray.empty l (i : Int)).size : Int)) > a2
    · refine ⟨false, Ev.end_ fun k => ?_, by simp⟩
      rw [graftageref05_Short.l0, if_pos (by omega), if_pos (by omega), if_pos (by omega), if_pos hc]
    · obtain ⟨r, hr, hh⟩ := ih (i + 1) (wrap64 (c + ((rdOf ByteArray.empty l (i : Int)).size : Int))) (by omega)
      refine ⟨r, Ev.step (fun k => ?_) hr, hh⟩
      rw [graftageref05_Short.l0, if_pos (by omega), if_pos (by omega), if_pos (by omega), if_neg hc, w64 (n := (i : Int) + 1) (by omega) (by omega)]
      rfl
/-- 'short' answers; if it says yes there are at most 60 lines. -/
theorem short_ev (l : List ByteArray) (hl : l.length < 4611686018427387904) : ∃ r, Ev (fun k => graftagelaw08_short.f k l) r ∧ (r = true → l.length ≤ 60) := by
  obtain ⟨r, hr, hh⟩ := short_loop l 60 3000 hl l.length 0 0 (by omega)
  refine ⟨r, ?_, fun h => by have := hh h; omega⟩
  have := Ev.bind (f := fun _ t => some t) hr (Ev.now r)
  exact this
theorem least_one : leastOf [(⟨#[97]⟩ : ByteArray), ⟨#[98]⟩, ⟨#[99]⟩] [⟨#[98]⟩, ⟨#[100]⟩] = [⟨0, 1, 0, 0⟩, ⟨2, 1, 1, 1⟩] := by
  unfold leastOf
  rw [if_neg (by decide)]
  simp [greedy, lcs, scr]
theorem least_two : leastOf [(⟨#[97]⟩ : ByteArray)] [⟨#[98]⟩] = [⟨0, 1, 0, 1⟩] := by
  unfold leastOf
  rw [if_neg (by decide)]
  simp [greedy, lcs, scr]
theorem lives_ev : Ev (fun k => graftagelaw08_lives.f k) true := by
  unfold graftagelaw08_lives.f
  refine Ev.bind (least_ev _ _ (by decide)) ?_
  refine Ev.bind (least_ev _ _ (by decide)) ?_
  rw [least_one, least_two]
  have hc := cost_ev [⟨0, 1, 0, 0⟩, ⟨2, 1, 1, 1⟩] (by decide)
  have := Ev.bind (f := fun _ t => some (t == 3)) hc (r := true) (Ev.some_ fun k => by simp [cost, wrap64])
  refine Ev.congr (fun k => ?_) this
  simp [rd_T44]
end Go.Proofs.Ytikepmdhnbnohaa.Pl
