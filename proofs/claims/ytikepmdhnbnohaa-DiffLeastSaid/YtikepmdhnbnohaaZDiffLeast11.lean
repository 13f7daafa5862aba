-- put together by bundle.py, a program of this session, out of the texts named below
import Derived.Test.YtikepmdhnbnohaaZDiffLeast2
import Derived.Test.YtikepmdhnbnohaaZDiffLeast3
import Derived.Test.YtikepmdhnbnohaaZDiffLeast4
import Derived.Test.YtikepmdhnbnohaaZDiffLeast5
import Derived.Test.YtikepmdhnbnohaaZDiffLeast6
import Derived.Test.YtikepmdhnbnohaaZDiffLeast7
import Derived.Test.YtikepmdhnbnohaaZDiffLeast8
import Derived.Test.YtikepmdhnbnohaaZDiffLeast9
import Derived.Test.YtikepmdhnbnohaaZDiffLeast10
import Derived.Test.YtikepmdhnbnohaaRows
import Derived.WalkKit
import Derived.ProofKit
import Derived.OpenShut
import Derived.ShutString
import Derived.ChangeOld
import Derived.Below
import Derived.SizedLaws
import Derived.Carry
-- text YtikepmdhnbnohaaPlLives8
section
/- The document's examples hold; what Cost answers; that 'short' answers. Conditions: none. -/
namespace Go.Proofs.Ytikepmdhnbnohaa.Pl
open Go.RowKit Go.Proofs.YtikepmdhnbnohaaW.PrintWords Go.Proofs.Ytikepmdhnbnohaa.P
set_option linter.unusedSimpArgs false
set_option linter.unusedVariables false
theorem wrap_l (x y : Int) : wrap64 (wrap64 x + y) = wrap64 (x + y) := by unfold wrap64; omega
theorem wrap_r (x y : Int) : wrap64 (x + wrap64 y) = wrap64 (x + y) := by unfold wrap64; omega
theorem rdE_at (l : List Ed) (i : Nat) (h : i < l.length) : rd_T44 l (i : Int) = l[i] := by
  unfold rd_T44
  rw [Int.toNat_natCast, List.getD_eq_getElem?_getD, List.getElem?_eq_getElem h]
  rfl
theorem cost_loop (l : List Ed) (hl : l.length < 4611686018427387904) : ∀ (d i : Nat) (c : Int), i + d = l.length → Ev (fun k => diff_Cost.l0 k (wrap64 c) l (l.length : Int) (i : Int)) (wrap64 (c + cost (l.drop i))) := by
  intro d
  induction d with
  | zero =>
    intro i c hi
    refine Ev.end_ fun k => ?_
    rw [diff_Cost.l0, if_neg (by omega), List.drop_eq_nil_of_le (show l.length ≤ i by omega), cost_nil, Int.add_zero]
  | succ d ih =>
    intro i c hi
    have hil : i < l.length := by omega
    rw [drop_cons l i hil, cost_cons, show c + (l[i].f1 + l[i].f3 + cost (l.drop (i + 1))) = c + (l[i].f1 + l[i].f3) + cost (l.drop (i + 1)) by omega]
    refine Ev.step (fun k => ?_) (ih (i + 1) (c + (l[i].f1 + l[i].f3)) (by omega))
    rw [diff_Cost.l0, if_pos (by omega), if_pos (by omega), if_pos (by omega), rdE_at l i hil, wrap_l, wrap_r, w64 (n := (i : Int) + 1) (by omega) (by omega)]
    rfl
theorem cost_ev (l : List Ed) (hl : l.length < 4611686018427387904) : Ev (fun k => diff_Cost.f k l) (wrap64 (cost l)) := by
  have := cost_loop l hl l.length 0 0 (by omega)
  rw [List.drop_zero, Int.zero_add, w64 (n := 0) (by omega) (by omega)] at this
  exact this
theorem short_loop (l : List ByteArray) (a1 a2 : Int) (hl : l.length < 4611686018427387904) : ∀ (d i : Nat) (c : Int), i + d = l.length → ∃ r, Ev (fun k => graftageref05_Short.l0 k l a1 a2 c (l.length : Int) (i : Int)) r ∧ (r = true → (l.length : Int) ≤ a1) := by
  intro d
  induction d with
  | zero =>
    intro i c hi
    refine ⟨decide ((l.length : Int) ≤ a1), Ev.end_ fun k => ?_, fun h => of_decide_eq_true h⟩
    rw [graftageref05_Short.l0, if_neg (by omega)]
  | succ d ih =>
    intro i c hi
    by_cases hc : wrap64 (c + ((rdOf ByteArray.empty l (i : Int)).size : Int)) > a2
    · refine ⟨false, Ev.end_ fun k => ?_, by simp⟩
      rw [graftageref05_Short.l0, if_pos (by omega), if_pos (by omega), if_pos (by omega), if_pos hc]
    · obtain ⟨r, hr, hh⟩ := ih (i + 1) (wrap64 (c + ((rdOf ByteArray.empty l (i : Int)).size : Int))) (by omega)
      refine ⟨r, Ev.step (fun k => ?_) hr, hh⟩
      rw [graftageref05_Short.l0, if_pos (by omega), if_pos (by omega), if_pos (by omega), if_neg hc, w64 (n := (i : Int) + 1) (by omega) (by omega)]
      rfl
/-- 'short' answers; if it says yes there are at most 60 lines. -/
theorem short_ev (l : List ByteArray) (hl : l.length < 4611686018427387904) : ∃ r, Ev (fun k => graftagelaw08_short.f k l) r ∧ (r = true → l.length ≤ 60) := by
  obtain ⟨r, hr, hh⟩ := short_loop l 60 3000 hl l.length 0 0 (by omega)
  refine ⟨r, ?_, fun h => by have := hh h; omega⟩
  have := Ev.bind (f := fun _ t => some t) hr (Ev.now r)
  exact this
theorem least_one : leastEd [(⟨#[97]⟩ : ByteArray), ⟨#[98]⟩, ⟨#[99]⟩] [⟨#[98]⟩, ⟨#[100]⟩] = [⟨0, 1, 0, 0⟩, ⟨2, 1, 1, 1⟩] := by
  unfold leastEd
  rw [if_neg (by decide)]
  simp [greedy, lcs, scr]
theorem least_two : leastEd [(⟨#[97]⟩ : ByteArray)] [⟨#[98]⟩] = [⟨0, 1, 0, 1⟩] := by
  unfold leastEd
  rw [if_neg (by decide)]
  simp [greedy, lcs, scr]
theorem lives_ev : Ev (fun k => graftagelaw08_lives.f k) true := by
  unfold graftagelaw08_lives.f
  refine Ev.bind (least_ev _ _ (by decide)) ?_
  refine Ev.bind (least_ev _ _ (by decide)) ?_
  rw [least_one, least_two]
  have hc := cost_ev [⟨0, 1, 0, 0⟩, ⟨2, 1, 1, 1⟩] (by decide)
  have := Ev.bind (f := fun _ t => some (t == 3)) hc (r := true) (Ev.some_ fun k => by simp [cost, wrap64])
  refine Ev.congr (fun k => ?_) this
  simp [rd_T44]
end Go.Proofs.Ytikepmdhnbnohaa.Pl
end
-- text YtikepmdhnbnohaaPlRef8
section
/- What the reference's Least answers. Conditions: lists shorter than 2^40. -/
namespace Go.Proofs.Ytikepmdhnbnohaa.Pl
open Go.RowKit Go.Proofs.YtikepmdhnbnohaaW.PrintWords Go.Proofs.Ytikepmdhnbnohaa.P
set_option linter.unusedSimpArgs false
set_option linter.unusedVariables false
theorem rd_rowI (T : List (List Int)) (i : Nat) : rd_L8 T (i : Int) = row T i := by unfold rd_L8 row; rw [Int.toNat_natCast]
theorem rl2_ev (a b : List ByteArray) (ha : a.length ≤ 4096) (hb : b.length ≤ 4096) (i : Nat) (hi : i < a.length) (R : List (List Int)) : ∀ (j : Nat) (T : List (List Int)), j ≤ b.length → Sized T a.length b.length → Right a b T i j →
    (∀ T', Sized T' a.length b.length → Right a b T' i 0 → ∃ r, Ev (fun k => graftageref08_table.l1 k a b T' ((i : Int) - 1)) r ∧ IsTab a b r) →
    ∃ r, Ev (fun k => graftageref08_table.l2 k a b T (i : Int) ((j : Int) - 1)) r ∧ IsTab a b r := by
  intro j
  induction j with
  | zero =>
    intro T _ hS hR next
    obtain ⟨r, hr, ht⟩ := next T hS hR
    refine ⟨r, Ev.step (fun k => ?_) hr, ht⟩
    rw [graftageref08_table.l2, if_neg (by omega), w64 (by omega) (by omega)]
  | succ j ih =>
    intro T hj hS hR next
    have hl : T.length = a.length + 1 := hS.1
    have hr0 : (row T i).length = b.length + 1 := hS.2 i (by omega)
    have hr1 : (row T (i + 1)).length = b.length + 1 := hS.2 (i + 1) (by omega)
    have e1 : ((j + 1 : Nat) : Int) - 1 = (j : Int) := by omega
    have ei : (i : Int) + 1 = ((i + 1 : Nat) : Int) := by omega
    have ej : (j : Int) + 1 = ((j + 1 : Nat) : Int) := by omega
    have key : ∀ v, v = ((lcs (a.drop i) (b.drop j) : Nat) : Int) → ∃ r, Ev (fun k => graftageref08_table.l2 k a b (T.set i ((row T i).set j v)) (i : Int) ((j : Int) - 1)) r ∧ IsTab a b r := by
      intro v hv
      obtain ⟨h1, h2⟩ := hR.put hS hi (by omega) v hv
      exact ih _ (by omega) h1 h2 next
    by_cases e : a[i] = b[j]
    · have hv : (lcs (a.drop i) (b.drop j) : Nat) = lcs (a.drop (i + 1)) (b.drop (j + 1)) + 1 := by rw [drop_cons a i hi, drop_cons b j (by omega), e, lcs_same]
      have hbound := lcs_bound a b ha (i + 1) (j + 1)
      obtain ⟨r, hr, ht⟩ := key (wrap64 (rd (rd_L8 T (i + 1)) (j + 1) + 1)) (by
        rw [ei, ej, rd_rowI, rd_nat, ← ent_row, (hR (i + 1) (j + 1) (by omega) (by omega)).1 (.inl (by omega)), hv]
        rw [w64 (by omega) (by omega)]
        omega)
      refine ⟨r, Ev.step (fun k => ?_) hr, ht⟩
      rw [graftageref08_table.l2, e1, if_pos (by omega), if_pos (by omega), if_pos (by omega), if_pos (by omega), if_pos (by omega), if_pos (by omega), rdB_at a i hi, rdB_at b j (by omega), if_pos (by rw [e]), w64 (n := (i : Int) + 1) (by omega) (by omega), w64 (n := (j : Int) + 1) (by omega) (by omega), if_pos (by omega), if_pos (by omega), if_pos (by omega), if_pos (by rw [ei, rd_rowI, hr1]; omega), if_pos (by rw [rd_rowI, hr0]; omega), w64 (n := (j : Int) - 1) (by omega) (by omega)]
      simp only [Int.toNat_natCast, rd_rowI]
    · have hv : (lcs (a.drop i) (b.drop j) : Nat) = max (lcs (a.drop (i + 1)) (b.drop j)) (lcs (a.drop i) (b.drop (j + 1))) := by rw [drop_cons a i hi, drop_cons b j (by omega), lcs_ne e]
      obtain ⟨r, hr, ht⟩ := key (mx (rd (rd_L8 T (i + 1)) j) (rd (rd_L8 T i) (j + 1))) (by
        rw [ei, ej, rd_rowI, rd_rowI, rd_nat, rd_nat, ← ent_row, ← ent_row, (hR (i + 1) j (by omega) (by omega)).1 (.inl (by omega)), (hR i (j + 1) (by omega) (by omega)).1 (.inr ⟨rfl, Nat.le_refl _⟩), hv]
        unfold mx
        omega)
      refine ⟨r, Ev.step (fun k => ?_) hr, ht⟩
      rw [graftageref08_table.l2, e1, if_pos (by omega), if_pos (by omega), if_pos (by omega), if_pos (by omega), if_pos (by omega), if_pos (by omega), rdB_at a i hi, rdB_at b j (by omega), if_neg (by rw [tl_inj]; exact e), w64 (n := (i : Int) + 1) (by omega) (by omega), w64 (n := (j : Int) + 1) (by omega) (by omega), if_pos (by omega), if_pos (by omega), if_pos (by rw [ei, rd_rowI, hr1]; omega), if_pos (by omega), if_pos (by rw [rd_rowI, hr0]; omega), if_pos (by rw [rd_rowI, hr0]; omega), w64 (n := (j : Int) - 1) (by omega) (by omega)]
      simp only [Int.toNat_natCast, rd_rowI]
theorem rl1_ev (a b : List ByteArray) (ha : a.length ≤ 4096) (hb : b.length ≤ 4096) : ∀ (i : Nat) (T : List (List Int)), i ≤ a.length → Sized T a.length b.length → Right a b T i 0 → ∃ r, Ev (fun k => graftageref08_table.l1 k a b T ((i : Int) - 1)) r ∧ IsTab a b r := by
  intro i
  induction i with
  | zero =>
    intro T _ hS hR
    refine ⟨T, Ev.end_ fun k => ?_, hS, fun r c hr hc => (hR r c hr hc).1 (by omega)⟩
    rw [graftageref08_table.l1, if_neg (by omega)]
  | succ i ih =>
    intro T hi hS hR
    have e1 : ((i + 1 : Nat) : Int) - 1 = (i : Int) := by omega
    have hR' : Right a b T i (b.length + 1) := fun r c hr hc => ⟨fun hy => (hR r c hr hc).1 (by omega), fun hn => (hR r c hr hc).2 (by omega)⟩
    -- the last column is 0, and right
    have hR2 : Right a b T i b.length := fun r c hr hc => by
      refine ⟨fun hy => ?_, fun hn => (hR' r c hr hc).2 (by omega)⟩
      by_cases e : i < r
      · exact (hR' r c hr hc).1 (.inl e)
      · have er : r = i := by omega
        have ec : c = b.length := by omega
        subst er ec
        rw [(hR' r b.length hr hc).2 (by omega), List.drop_length, lcs_nil2]
        rfl
    obtain ⟨r, hr, ht⟩ := rl2_ev a b ha hb i (by omega) T b.length T (Nat.le_refl _) hS hR2 (fun T' hS' hR'' => ih T' (by omega) hS' hR'')
    refine ⟨r, Ev.step (fun k => ?_) hr, ht⟩
    rw [graftageref08_table.l1, e1, if_pos (by omega), w64 (by omega) (by omega)]
theorem row_snoc (T : List (List Int)) (v : List Int) (r : Nat) : row (T ++ [v]) r = if r = T.length then v else row T r := by
  unfold row
  rw [List.getD_eq_getElem?_getD, List.getD_eq_getElem?_getD]
  by_cases e : r = T.length
  · rw [if_pos e, e]
    simp
  · rw [if_neg e, List.getElem?_append]
    by_cases c : r < T.length
    · rw [if_pos c]
    · rw [if_neg c, List.getElem?_eq_none (l := T) (by omega), List.getElem?_eq_none (by simp; omega)]
theorem rl0_ev (a b : List ByteArray) (ha : a.length ≤ 4096) (hb : b.length ≤ 4096) : ∀ (d i : Nat) (T : List (List Int)), i + d = a.length + 1 → T.length = i → (∀ r, r < i → row T r = List.replicate (b.length + 1) 0) →
    ∃ r, Ev (fun k => graftageref08_table.l0 k a b T ((a.length : Int) + 1) (i : Int)) r ∧ IsTab a b r := by
  intro d
  induction d with
  | zero =>
    intro i T hi hT hz
    have hS : Sized T a.length b.length := ⟨by omega, fun r hr => by rw [hz r (by omega)]; simp⟩
    have h0 : ∀ r c, r ≤ a.length → ent T r c = 0 := fun r c hr => by
      rw [ent_row, hz r (by omega), List.getD_eq_getElem?_getD, List.getElem?_replicate]
      split <;> rfl
    have hR : Right a b T a.length 0 := fun r c hr hc => by
      refine ⟨fun hy => ?_, fun _ => h0 r c hr⟩
      have er : r = a.length := by omega
      subst er
      rw [h0 _ c hr, List.drop_length, lcs_nil]
      rfl
    obtain ⟨r, hr, ht⟩ := rl1_ev a b ha hb a.length T (Nat.le_refl _) hS hR
    refine ⟨r, Ev.step (fun k => ?_) hr, ht⟩
    rw [graftageref08_table.l0, if_neg (by omega), w64 (by omega) (by omega)]
  | succ d ih =>
    intro i T hi hT hz
    have hrep : (List.replicate (wrap64 ((b.length : Int) + 1)).toNat (0 : Int)) = List.replicate (b.length + 1) 0 := by rw [w64 (by omega) (by omega), show ((b.length : Int) + 1).toNat = b.length + 1 by omega]
    obtain ⟨r, hr, ht⟩ := ih (i + 1) (T ++ [List.replicate (b.length + 1) 0]) (by omega) (by simp [hT]) (fun r hr => by
      rw [row_snoc]
      split
      · rfl
      · exact hz r (by omega))
    refine ⟨r, Ev.step (fun k => ?_) hr, ht⟩
    rw [graftageref08_table.l0, hrep, if_pos (by omega), if_pos (by rw [w64 (by omega) (by omega)]; omega), if_pos (by rw [w64 (by omega) (by omega)]; omega), if_pos (by omega), w64 (n := (i : Int) + 1) (by omega) (by omega)]
    rfl
theorem rtable_ev (a b : List ByteArray) (ha : a.length ≤ 4096) (hb : b.length ≤ 4096) : ∃ r, Ev (fun k => graftageref08_table.f k a b) r ∧ IsTab a b r := by
  obtain ⟨r, hr, ht⟩ := rl0_ev a b ha hb (a.length + 1) 0 [] (by omega) rfl (fun r hr => by omega)
  refine ⟨r, Ev.congr (fun k => ?_) hr, ht⟩
  unfold graftageref08_table.f
  rw [w64 (by omega) (by omega)]
  rfl
theorem rd_last (o : List Ed) (e : Ed) : rd_T44 (o ++ [e]) (o.length : Int) = e := by
  unfold rd_T44
  rw [Int.toNat_natCast]
  simp [List.getD_eq_getElem?_getD]
def Small (e : Ed) : Prop := 0 ≤ e.f0 ∧ e.f0 ≤ 100000 ∧ 0 ≤ e.f1 ∧ e.f1 ≤ 100000 ∧ 0 ≤ e.f2 ∧ e.f2 ≤ 100000 ∧ 0 ≤ e.f3 ∧ e.f3 ≤ 100000
theorem add_none (out : List Ed) (hl : out.length < 100000) (i d j n : Int) (h : out = [] ∨ ∃ o e, out = o ++ [e] ∧ Small e ∧ e.f0 + e.f1 < i) : graftageref08_add.f out i d j n = some (out ++ [⟨i, d, j, n⟩]) := by
  unfold graftageref08_add.f
  rcases h with rfl | ⟨o, e, rfl, hs, hi⟩
  · rw [if_neg (by simp), if_pos (by simp)]
  · rw [List.length_append, List.length_singleton] at hl ⊢
    obtain ⟨s0, s1, s2, s3, s4, s5, s6, s7⟩ := hs
    rw [if_pos (by omega), w64 (n := ((o.length + 1 : Nat) : Int) - 1) (by omega) (by omega), if_pos (by omega), if_pos (by omega), show ((o.length + 1 : Nat) : Int) - 1 = (o.length : Int) by omega, rd_last, if_neg (by rw [w64 (by omega) (by omega)]; omega), if_pos (by omega)]
theorem add_some (o : List Ed) (e : Ed) (hl : o.length < 100000) (i d j n : Int) (hs : Small e) (hi : e.f0 + e.f1 = i) (hj : e.f2 + e.f3 = j) (hd0 : 0 ≤ d) (hd : d ≤ 1) (hn0 : 0 ≤ n) (hn : n ≤ 1) : graftageref08_add.f (o ++ [e]) i d j n = some (o ++ [⟨e.f0, e.f1 + d, e.f2, e.f3 + n⟩]) := by
  unfold graftageref08_add.f
  rw [List.length_append, List.length_singleton]
  obtain ⟨s0, s1, s2, s3, s4, s5, s6, s7⟩ := hs
  rw [if_pos (by omega), w64 (n := ((o.length + 1 : Nat) : Int) - 1) (by omega) (by omega), if_pos (by omega), if_pos (by omega), show ((o.length + 1 : Nat) : Int) - 1 = (o.length : Int) by omega, rd_last, if_pos (by rw [w64 (by omega) (by omega)]; omega), if_pos (by rw [w64 (by omega) (by omega)]; omega), if_pos (by omega), Int.toNat_natCast, List.take_left, Option.bind_some, if_pos (by omega), w64 (n := e.f1 + d) (by omega) (by omega), w64 (n := e.f3 + n) (by omega) (by omega)]
/-- How the edit under way stands to the script so far. -/
def Open (out o : List Ed) (cur : Option Ed) (i j : Nat) : Prop :=
  (cur = none ∧ out = o ∧ (out = [] ∨ ∃ o' e, out = o' ++ [e] ∧ Small e ∧ e.f0 + e.f1 < i)) ∨ (∃ e, cur = some e ∧ out = o ++ [e] ∧ Small e ∧ e.f0 + e.f1 = i ∧ e.f2 + e.f3 = j)
theorem Open.keep {out o : List Ed} {cur : Option Ed} {i j : Nat} (h : Open out o cur i j) : Open out (o ++ cur.toList) none (i + 1) (j + 1) := by
  rcases h with ⟨rfl, rfl, h⟩ | ⟨e, rfl, rfl, hs, hi, hj⟩
  · refine .inl ⟨rfl, by simp, ?_⟩
    rcases h with h | ⟨o', e, h1, h2, h3⟩
    · exact .inl h
    · exact .inr ⟨o', e, h1, h2, by omega⟩
  · exact .inl ⟨rfl, by simp, .inr ⟨o, e, rfl, hs, by omega⟩⟩
theorem Open.del {out o : List Ed} {cur : Option Ed} {i j : Nat} (h : Open out o cur i j) (hl : out.length ≤ i + j) (hi : i ≤ 4096) (hj : j ≤ 4096) (q : List Op) : ∃ out' cur', graftageref08_add.f out i 1 j 0 = some out' ∧ Open out' o cur' (i + 1) j ∧ out'.length ≤ out.length + 1 ∧ scr (Op.D :: q) i j cur = scr q ((i : Int) + 1) j cur' := by
  rcases h with ⟨rfl, rfl, h⟩ | ⟨e, rfl, rfl, hs, hi, hj⟩
  · refine ⟨out ++ [⟨i, 1, j, 0⟩], some ⟨i, 1, j, 0⟩, add_none out (by omega) i 1 j 0 h, .inr ⟨_, rfl, rfl, ?_, ?_, ?_⟩, by simp, by rw [scr]⟩
    · unfold Small; dsimp only; omega
    · dsimp only; omega
    · dsimp only; omega
  · rw [List.length_append, List.length_singleton] at hl
    refine ⟨_, some ⟨e.f0, e.f1 + 1, e.f2, e.f3 + 0⟩, add_some o e (by omega) i 1 j 0 hs hi hj (by omega) (by omega) (by omega) (by omega), .inr ⟨_, rfl, rfl, ?_, ?_, ?_⟩, by simp, by rw [scr, Int.add_zero]⟩
    · unfold Small at *; dsimp only; omega
    · dsimp only; omega
    · dsimp only; omega
theorem Open.ins {out o : List Ed} {cur : Option Ed} {i j : Nat} (h : Open out o cur i j) (hl : out.length ≤ i + j) (hi : i ≤ 4096) (hj : j ≤ 4096) (q : List Op) : ∃ out' cur', graftageref08_add.f out i 0 j 1 = some out' ∧ Open out' o cur' i (j + 1) ∧ out'.length ≤ out.length + 1 ∧ scr (Op.I :: q) i j cur = scr q i ((j : Int) + 1) cur' := by
  rcases h with ⟨rfl, rfl, h⟩ | ⟨e, rfl, rfl, hs, hi, hj⟩
  · refine ⟨out ++ [⟨i, 0, j, 1⟩], some ⟨i, 0, j, 1⟩, add_none out (by omega) i 0 j 1 h, .inr ⟨_, rfl, rfl, ?_, ?_, ?_⟩, by simp, by rw [scr]⟩
    · unfold Small; dsimp only; omega
    · dsimp only; omega
    · dsimp only; omega
  · rw [List.length_append, List.length_singleton] at hl
    refine ⟨_, some ⟨e.f0, e.f1 + 0, e.f2, e.f3 + 1⟩, add_some o e (by omega) i 0 j 1 hs hi hj (by omega) (by omega) (by omega) (by omega), .inr ⟨_, rfl, rfl, ?_, ?_, ?_⟩, by simp, by rw [scr, Int.add_zero]⟩
    · unfold Small at *; dsimp only; omega
    · dsimp only; omega
    · dsimp only; omega
theorem rleast_loop (a b : List ByteArray) (ha : a.length ≤ 4096) (hb : b.length ≤ 4096) (T : List (List Int)) (hT : IsTab a b T) : ∀ (n i j : Nat) (out o : List Ed) (cur : Option Ed), i ≤ a.length → j ≤ b.length → a.length - i + (b.length - j) < n → out.length ≤ i + j → Open out o cur i j →
    Ev (fun k => graftageref08_Least.l0 k a b T out (i : Int) (j : Int)) (o ++ scr (greedy (a.drop i) (b.drop j)) i j cur) := by
  intro n
  induction n with
  | zero => intro i j out o cur _ _ h; omega
  | succ n ih =>
    intro i j out o cur hi hj hn hl hO
    have ei : (i : Int) + 1 = ((i + 1 : Nat) : Int) := by omega
    have ej : (j : Int) + 1 = ((j + 1 : Nat) : Int) := by omega
    have dstep : ∀ q, scr (greedy (a.drop i) (b.drop j)) (i : Int) (j : Int) cur = scr (Op.D :: q) i j cur → (q = greedy (a.drop (i + 1)) (b.drop j)) → i < a.length → Ev (fun k => graftageref08_Least.j4 k a b T out (i : Int) (j : Int) true) (o ++ scr (greedy (a.drop i) (b.drop j)) i j cur) := by
      intro q hq hqq hia
      obtain ⟨out', cur', h1, h2, h3, h4⟩ := hO.del hl (by omega) (by omega) q
      rw [hq, h4, hqq, ei]
      refine Ev.step (fun k => ?_) (ih (i + 1) j out' o cur' (by omega) hj (by omega) (by omega) h2)
      rw [graftageref08_Least.j4, if_pos rfl, h1, Option.bind_some, w64 (by omega) (by omega), ei]
    have istep : ∀ q, scr (greedy (a.drop i) (b.drop j)) (i : Int) (j : Int) cur = scr (Op.I :: q) i j cur → (q = greedy (a.drop i) (b.drop (j + 1))) → j < b.length → Ev (fun k => graftageref08_Least.j4 k a b T out (i : Int) (j : Int) false) (o ++ scr (greedy (a.drop i) (b.drop j)) i j cur) := by
      intro q hq hqq hjb
      obtain ⟨out', cur', h1, h2, h3, h4⟩ := hO.ins hl (by omega) (by omega) q
      rw [hq, h4, hqq, ej]
      refine Ev.step (fun k => ?_) (ih i (j + 1) out' o cur' hi (by omega) (by omega) (by omega) h2)
      rw [graftageref08_Least.j4, if_neg (by simp), h1, Option.bind_some, w64 (by omega) (by omega), ej]
    by_cases hia : i < a.length
    · refine Ev.step (fun k => by rw [graftageref08_Least.l0, if_pos (by omega)]) ?_
      by_cases hjb : j < b.length
      · refine Ev.step (fun k => by rw [graftageref08_Least.j2, if_pos rfl, if_pos (by omega), if_pos (by omega), if_pos (by omega), if_pos (by omega), rdB_at a i hia, rdB_at b j hjb]) ?_
        by_cases e : a[i] = b[j]
        · have hg : scr (greedy (a.drop i) (b.drop j)) (i : Int) (j : Int) cur = cur.toList ++ scr (greedy (a.drop (i + 1)) (b.drop (j + 1))) ((i : Int) + 1) ((j : Int) + 1) none := by
            rw [drop_cons a i hia, drop_cons b j hjb, greedy, if_pos e, scr]
          rw [hg, ei, ej, ← List.append_assoc]
          refine Ev.step (fun k => ?_) (ih (i + 1) (j + 1) out (o ++ cur.toList) none (by omega) (by omega) (by omega) (by omega) hO.keep)
          rw [graftageref08_Least.j3, if_pos (by rw [beq_iff_eq, e]), w64 (by omega) (by omega), w64 (by omega) (by omega), ei, ej]
        · refine Ev.step (fun k => by rw [graftageref08_Least.j3, if_neg (by rw [beq_iff_eq, tl_inj]; exact e), if_neg (by omega), if_pos (by omega), w64 (n := (i : Int) + 1) (by omega) (by omega), w64 (n := (j : Int) + 1) (by omega) (by omega), if_pos (by omega), if_pos (by rw [hT.1.1]; omega), if_pos (by omega), if_pos (by rw [ei, rd_rowI, hT.1.2 (i + 1) (by omega)]; omega), if_pos (by omega), if_pos (by rw [hT.1.1]; omega), if_pos (by omega), if_pos (by rw [rd_rowI, hT.1.2 i (by omega)]; omega)]) ?_
          rw [ei, ej, rd_rowI, rd_rowI, rd_nat, rd_nat, ← ent_row, ← ent_row, hT.2 i (j + 1) (by omega) (by omega), hT.2 (i + 1) j (by omega) (by omega)]
          have hg : greedy (a.drop i) (b.drop j) = if lcs (a.drop i) (b.drop (j + 1)) ≤ lcs (a.drop (i + 1)) (b.drop j) then Op.D :: greedy (a.drop (i + 1)) (b.drop j) else Op.I :: greedy (a.drop i) (b.drop (j + 1)) := by
            conv => lhs; rw [drop_cons a i hia, drop_cons b j hjb, greedy, if_neg e]
            rw [← drop_cons a i hia, ← drop_cons b j hjb]
          by_cases c : lcs (a.drop i) (b.drop (j + 1)) ≤ lcs (a.drop (i + 1)) (b.drop j)
          · rw [decide_eq_true (by omega)]
            exact dstep _ (by rw [hg, if_pos c]) rfl hia
          · rw [decide_eq_false (by omega)]
            exact istep _ (by rw [hg, if_neg c]) rfl hjb
      · have hb0 : b.drop j = [] := List.drop_eq_nil_of_le (by omega)
        refine Ev.step (fun k => by rw [graftageref08_Least.j2, if_pos rfl, if_pos (by omega), if_neg (by omega)]) ?_
        refine Ev.step (fun k => by rw [graftageref08_Least.j3, if_neg (by simp), if_pos (by omega)]) ?_
        refine dstep (greedy (a.drop (i + 1)) (b.drop j)) ?_ rfl hia
        rw [hb0, drop_cons a i hia, greedy]
    · have ha0 : a.drop i = [] := List.drop_eq_nil_of_le (by omega)
      by_cases hjb : j < b.length
      · refine Ev.step (fun k => by rw [graftageref08_Least.l0, if_neg (by omega), decide_eq_true (show (j : Int) < (b.length : Int) by omega)]) ?_
        refine Ev.step (fun k => by rw [graftageref08_Least.j2, if_pos rfl, if_neg (by omega)]) ?_
        refine Ev.step (fun k => by rw [graftageref08_Least.j3, if_neg (by simp), if_neg (by omega), if_neg (by omega)]) ?_
        refine istep (greedy (a.drop i) (b.drop (j + 1))) ?_ rfl hjb
        rw [ha0, drop_cons b j hjb, greedy]
      · refine Ev.step (fun k => by rw [graftageref08_Least.l0, if_neg (by omega), decide_eq_false (show ¬ (j : Int) < (b.length : Int) by omega)]) (Ev.end_ fun k => ?_)
        rw [graftageref08_Least.j2, if_neg (by simp), ha0, List.drop_eq_nil_of_le (show b.length ≤ j by omega), greedy, scr]
        rcases hO with ⟨rfl, rfl, h⟩ | ⟨e, rfl, rfl, hs, hi, hj⟩
        · simp
        · simp
theorem rleast_ev (a b : List ByteArray) (ha : a.length < 4611686018427387904) (hsame : Ev (fun k => graftageref08_Same.f k a b) (decide (a = b))) : Ev (fun k => graftageref08_Least.f k a b) (leastEd a b) := by
  unfold leastEd
  by_cases c : 4096 < a.length ∨ 4096 < b.length
  · rw [if_pos c]
    have big : Ev (fun k => graftageref08_Least.j0 k a b true) (if a = b then [] else [(⟨0, (a.length : Int), 0, (b.length : Int)⟩ : Ed)]) := by
      refine Ev.step (fun k => by rw [graftageref08_Least.j0, if_pos rfl]) (Ev.bind hsame (Ev.some_ fun k => ?_))
      by_cases e : a = b
      · rw [decide_eq_true e, if_pos rfl, if_pos e]
      · rw [decide_eq_false e, if_neg e]
        rfl
    refine Ev.congr (fun k => ?_) big
    unfold graftageref08_Least.f
    by_cases c1 : (a.length : Int) > 4096
    · rw [if_pos c1]
    · rw [if_neg c1, decide_eq_true (by omega)]
  · rw [if_neg c]
    obtain ⟨T, hT, hTab⟩ := rtable_ev a b (by omega) (by omega)
    have hg := rleast_loop a b (by omega) (by omega) T hTab (a.length + b.length + 1) 0 0 [] [] none (by omega) (by omega) (by omega) (by simp) (.inl ⟨rfl, rfl, .inl rfl⟩)
    have small : Ev (fun k => graftageref08_Least.j0 k a b false) (scr (greedy a b) 0 0 none) := by
      refine Ev.step (fun k => by rw [graftageref08_Least.j0, if_neg (by simp)]) (Ev.bind hT ?_)
      exact hg
    refine Ev.congr (fun k => ?_) small
    unfold graftageref08_Least.f
    rw [if_neg (by omega), decide_eq_false (by omega)]
end Go.Proofs.Ytikepmdhnbnohaa.Pl
end
-- text YtikepmdhnbnohaaPx14
section
-- written by mp.py, a program of this session, over the kit's printer
namespace Go.Proofs.Ytikepmdhnbnohaa.P
open Go.RowKit Go.Proofs.YtikepmdhnbnohaaW.PrintWords Go.Proofs.YtikepmdhnbnohaaW.PrintLast Go.Proofs.YtikepmdhnbnohaaW.PrintMore
attribute [local go_sem] max2_int min2_int max_two min_two max_three min_three max_four min_four   -- for this text's walks alone
set_option linter.unusedVariables false
set_option linter.unusedSimpArgs false

/-! ### diff_Unchanged: function 14 -/
def diff_Unchanged.l0 : Nat → Int → List (S32) → Int → Int → List (S44) → Int → Int → Option ((List (S32)))
  | 0, _, _, _, _, _, _, _ => none
  | k + 1, x1, x5, x6, x7, x10, x11, x12 => if x12 < x11 then (if 0 ≤ x12 then (if x12 < (x10.length : Int) then (if ((rd_T44 x10 x12).f0) > x6 then (if x5.length < 5864062014805 then (diff_Unchanged.l0 k x1 (x5 ++ [(⟨x6, x7, wrap64 (((rd_T44 x10 x12).f0) - x6)⟩ : S32)]) (wrap64 (((rd_T44 x10 x12).f0) + ((rd_T44 x10 x12).f1))) (wrap64 (((rd_T44 x10 x12).f2) + ((rd_T44 x10 x12).f3))) x10 x11 (wrap64 (x12 + 1))) else (none)) else (diff_Unchanged.l0 k x1 x5 (wrap64 (((rd_T44 x10 x12).f0) + ((rd_T44 x10 x12).f1))) (wrap64 (((rd_T44 x10 x12).f2) + ((rd_T44 x10 x12).f3))) x10 x11 (wrap64 (x12 + 1)))) else (none)) else (none)) else (if x1 > x6 then (if x5.length < 5864062014805 then (some (x5 ++ [(⟨x6, x7, wrap64 (x1 - x6)⟩ : S32)])) else (none)) else (some x5))
def diff_Unchanged.f (k : Nat) (l0 : List (S44)) (a1 : Int) : Option ((List (S32))) := diff_Unchanged.l0 k a1 ([] : List (S32)) 0 0 l0 (l0.length : Int) 0
/-! ### graftageref08_within: function 34 -/
end Go.Proofs.Ytikepmdhnbnohaa.P
end
-- text YtikepmdhnbnohaaPx15
section
-- written by mp.py, a program of this session, over the kit's printer
namespace Go.Proofs.Ytikepmdhnbnohaa.P
open Go.RowKit Go.Proofs.YtikepmdhnbnohaaW.PrintWords Go.Proofs.YtikepmdhnbnohaaW.PrintLast Go.Proofs.YtikepmdhnbnohaaW.PrintMore
attribute [local go_sem] max2_int min2_int max_two min_two max_three min_three max_four min_four   -- for this text's walks alone
set_option linter.unusedVariables false
set_option linter.unusedSimpArgs false

/-! ### graftageref08_Right: function 15 -/
end Go.Proofs.Ytikepmdhnbnohaa.P
end
-- text YtikepmdhnbnohaaPx18
section
-- written by mp.py, a program of this session, over the kit's printer
namespace Go.Proofs.Ytikepmdhnbnohaa.P
open Go.RowKit Go.Proofs.YtikepmdhnbnohaaW.PrintWords Go.Proofs.YtikepmdhnbnohaaW.PrintLast Go.Proofs.YtikepmdhnbnohaaW.PrintMore
attribute [local go_sem] max2_int min2_int max_two min_two max_three min_three max_four min_four   -- for this text's walks alone
set_option linter.unusedVariables false
set_option linter.unusedSimpArgs false

/-! ### diff_Apply: function 17 -/
end Go.Proofs.Ytikepmdhnbnohaa.P
end
-- text YtikepmdhnbnohaaPx19
section
-- written by mp.py, a program of this session, over the kit's printer
namespace Go.Proofs.Ytikepmdhnbnohaa.P
open Go.RowKit Go.Proofs.YtikepmdhnbnohaaW.PrintWords Go.Proofs.YtikepmdhnbnohaaW.PrintLast Go.Proofs.YtikepmdhnbnohaaW.PrintMore
attribute [local go_sem] max2_int min2_int max_two min_two max_three min_three max_four min_four   -- for this text's walks alone
set_option linter.unusedVariables false
set_option linter.unusedSimpArgs false

/-! ### graftageref08_Apply: function 18 -/
end Go.Proofs.Ytikepmdhnbnohaa.P
end
-- text YtikepmdhnbnohaaPx28
section
-- written by mp.py, a program of this session, over the kit's printer
namespace Go.Proofs.Ytikepmdhnbnohaa.P
open Go.RowKit Go.Proofs.YtikepmdhnbnohaaW.PrintWords Go.Proofs.YtikepmdhnbnohaaW.PrintLast Go.Proofs.YtikepmdhnbnohaaW.PrintMore
attribute [local go_sem] max2_int min2_int max_two min_two max_three min_three max_four min_four   -- for this text's walks alone
set_option linter.unusedVariables false
set_option linter.unusedSimpArgs false

/-! ### diff_FromRuns: function 26 -/
end Go.Proofs.Ytikepmdhnbnohaa.P
end
-- text YtikepmdhnbnohaaPx21
section
-- written by mp.py, a program of this session, over the kit's printer
namespace Go.Proofs.Ytikepmdhnbnohaa.P
open Go.RowKit Go.Proofs.YtikepmdhnbnohaaW.PrintWords Go.Proofs.YtikepmdhnbnohaaW.PrintLast Go.Proofs.YtikepmdhnbnohaaW.PrintMore
attribute [local go_sem] max2_int min2_int max_two min_two max_three min_three max_four min_four   -- for this text's walks alone
set_option linter.unusedVariables false
set_option linter.unusedSimpArgs false

/-! ### graftageref08_Cost: function 20 -/
end Go.Proofs.Ytikepmdhnbnohaa.P
end
-- text YtikepmdhnbnohaaPlValid8
section
/- diff.Valid answers whether a script is valid ('Scr'). Conditions: lists shorter than 2^40, whole numbers of their kind. -/
namespace Go.Proofs.Ytikepmdhnbnohaa.Pl
open Go.RowKit Go.Proofs.YtikepmdhnbnohaaW.PrintWords Go.Proofs.Ytikepmdhnbnohaa.P
set_option linter.unusedSimpArgs false
set_option linter.unusedVariables false
theorem same_loop (a b : List ByteArray) (hl : a.length = b.length) (hb : a.length < 4611686018427387904) : ∀ (d i : Nat), i + d = a.length →
    Ev (fun k => graftageref08_Same.l0 k a b (a.length : Int) (i : Int)) (decide (a.drop i = b.drop i)) := by
  intro d
  induction d with
  | zero =>
    intro i hi
    refine Ev.end_ fun k => ?_
    rw [graftageref08_Same.l0, if_neg (by omega), List.drop_eq_nil_of_le (show a.length ≤ i by omega), List.drop_eq_nil_of_le (show b.length ≤ i by omega)]
    simp
  | succ d ih =>
    intro i hi
    by_cases e : a[i]'(by omega) = b[i]'(by omega)
    · have hd : (a.drop i = b.drop i) ↔ (a.drop (i + 1) = b.drop (i + 1)) := by
        rw [drop_cons a i (by omega), drop_cons b i (by omega), e]
        exact ⟨fun h => (List.cons.inj h).2, fun h => by rw [h]⟩
      rw [decide_eq_decide.2 hd]
      refine Ev.step (fun k => ?_) (ih (i + 1) (by omega))
      rw [graftageref08_Same.l0, if_pos (by omega), if_pos (by omega), if_pos (by omega), if_pos (by omega), rdB_at a i (by omega), rdB_at b i (by omega), if_pos (by rw [e]), w64 (by omega) (by omega)]
      rfl
    · have hd : ¬ a.drop i = b.drop i := by
        rw [drop_cons a i (by omega), drop_cons b i (by omega)]
        exact fun h => e (List.cons.inj h).1
      rw [decide_eq_false hd]
      refine Ev.end_ fun k => ?_
      rw [graftageref08_Same.l0, if_pos (by omega), if_pos (by omega), if_pos (by omega), if_pos (by omega), rdB_at a i (by omega), rdB_at b i (by omega), if_neg (by rw [tl_inj]; exact e)]
theorem same_ev (a b : List ByteArray) (hb : a.length < 4611686018427387904) : Ev (fun k => graftageref08_Same.f k a b) (decide (a = b)) := by
  by_cases hl : a.length = b.length
  · have := same_loop a b hl hb a.length 0 (by omega)
    refine Ev.congr (fun k => ?_) this
    unfold graftageref08_Same.f
    rw [if_pos (by omega)]
    rfl
  · refine ⟨0, fun k _ => ?_⟩
    show graftageref08_Same.f k a b = _
    unfold graftageref08_Same.f
    rw [if_neg (by omega), decide_eq_false (fun e => hl (by rw [e]))]
end Go.Proofs.Ytikepmdhnbnohaa.Pl
end
-- text YtikepmdhnbnohaaPx23
section
-- written by mp.py, a program of this session, over the kit's printer
namespace Go.Proofs.Ytikepmdhnbnohaa.P
open Go.RowKit Go.Proofs.YtikepmdhnbnohaaW.PrintWords Go.Proofs.YtikepmdhnbnohaaW.PrintLast Go.Proofs.YtikepmdhnbnohaaW.PrintMore
attribute [local go_sem] max2_int min2_int max_two min_two max_three min_three max_four min_four   -- for this text's walks alone
set_option linter.unusedVariables false
set_option linter.unusedSimpArgs false

/-! ### diff_Invert: function 22 -/
end Go.Proofs.Ytikepmdhnbnohaa.P
end
-- text YtikepmdhnbnohaaPx25
section
-- written by mp.py, a program of this session, over the kit's printer
namespace Go.Proofs.Ytikepmdhnbnohaa.P
open Go.RowKit Go.Proofs.YtikepmdhnbnohaaW.PrintWords Go.Proofs.YtikepmdhnbnohaaW.PrintLast Go.Proofs.YtikepmdhnbnohaaW.PrintMore
attribute [local go_sem] max2_int min2_int max_two min_two max_three min_three max_four min_four   -- for this text's walks alone
set_option linter.unusedVariables false
set_option linter.unusedSimpArgs false

/-! ### graftageref08_Back: function 23 -/
end Go.Proofs.Ytikepmdhnbnohaa.P
end
-- text YtikepmdhnbnohaaPx1
section
-- written by mp.py, a program of this session, over the kit's printer
namespace Go.Proofs.Ytikepmdhnbnohaa.P
open Go.RowKit Go.Proofs.YtikepmdhnbnohaaW.PrintWords Go.Proofs.YtikepmdhnbnohaaW.PrintLast Go.Proofs.YtikepmdhnbnohaaW.PrintMore
attribute [local go_sem] max2_int min2_int max_two min_two max_three min_three max_four min_four   -- for this text's walks alone
set_option linter.unusedVariables false
set_option linter.unusedSimpArgs false

theorem eqA32 (d : Nat) (w : World) (x0 y0 : Int) (x1 y1 : Int) (x2 y2 : Int) :
    (Op.equalIn (d + 2) 32 (.agg #[.int .i64 x0, .int .i64 x1, .int .i64 x2]) (.agg #[.int .i64 y0, .int .i64 y1, .int .i64 y2])).run Try.prog w = .ok (x0 == y0 && (x1 == y1 && (x2 == y2))) w := by
  refine eqA_of Try.underlying32 (by kernel_rfl) ?_
  refine eqf_cons (by rfl) (by go_simp; rfl) (by go_simp; rfl) (by go_simp) ?_
  refine eqf_cons (by rfl) (by go_simp; rfl) (by go_simp; rfl) (by go_simp) ?_
  exact eqf_last (by rfl) (by go_simp; rfl) (by go_simp; rfl) (by go_simp)
end Go.Proofs.Ytikepmdhnbnohaa.P
end
-- text YtikepmdhnbnohaaPx26
section
-- written by mp.py, a program of this session, over the kit's printer
namespace Go.Proofs.Ytikepmdhnbnohaa.P
open Go.RowKit Go.Proofs.YtikepmdhnbnohaaW.PrintWords Go.Proofs.YtikepmdhnbnohaaW.PrintLast Go.Proofs.YtikepmdhnbnohaaW.PrintMore
attribute [local go_sem] max2_int min2_int max_two min_two max_three min_three max_four min_four   -- for this text's walks alone
set_option linter.unusedVariables false
set_option linter.unusedSimpArgs false

attribute [local go_sem high] eqA32
/-! ### graftageref08_Runs: function 24 -/
end Go.Proofs.Ytikepmdhnbnohaa.P
end
-- text YtikepmdhnbnohaaPx27
section
-- written by mp.py, a program of this session, over the kit's printer
namespace Go.Proofs.Ytikepmdhnbnohaa.P
open Go.RowKit Go.Proofs.YtikepmdhnbnohaaW.PrintWords Go.Proofs.YtikepmdhnbnohaaW.PrintLast Go.Proofs.YtikepmdhnbnohaaW.PrintMore
attribute [local go_sem] max2_int min2_int max_two min_two max_three min_three max_four min_four   -- for this text's walks alone
set_option linter.unusedVariables false
set_option linter.unusedSimpArgs false

/-! ### graftageref08_Stay: function 25 -/
end Go.Proofs.Ytikepmdhnbnohaa.P
end
-- text YtikepmdhnbnohaaPx29
section
-- written by mp.py, a program of this session, over the kit's printer
namespace Go.Proofs.Ytikepmdhnbnohaa.P
open Go.RowKit Go.Proofs.YtikepmdhnbnohaaW.PrintWords Go.Proofs.YtikepmdhnbnohaaW.PrintLast Go.Proofs.YtikepmdhnbnohaaW.PrintMore
attribute [local go_sem] max2_int min2_int max_two min_two max_three min_three max_four min_four   -- for this text's walks alone
set_option linter.unusedVariables false
set_option linter.unusedSimpArgs false

/-! ### graftageref08_Of: function 27 -/
end Go.Proofs.Ytikepmdhnbnohaa.P
end
-- text YtikepmdhnbnohaaPlRuns8
section
/- What Invert, Unchanged and FromRuns answer, and their references. Conditions: lists shorter than 2^40. -/
namespace Go.Proofs.Ytikepmdhnbnohaa.Pl
open Go.RowKit Go.Proofs.YtikepmdhnbnohaaW.PrintWords Go.Proofs.Ytikepmdhnbnohaa.P
set_option linter.unusedSimpArgs false
set_option linter.unusedVariables false
abbrev Rn := S32
/-- The runs that stay. -/
def stay (n : Int) : List Ed → Int → Int → List Rn
  | [], x, y => if x < n then [⟨x, y, wrap64 (n - x)⟩] else []
  | e :: l, x, y => (if x < e.f0 then [⟨x, y, wrap64 (e.f0 - x)⟩] else []) ++ stay n l (wrap64 (e.f0 + e.f1)) (wrap64 (e.f2 + e.f3))
theorem unchanged_loop (l : List Ed) (n : Int) (hl : l.length < 1099511627776) : ∀ (d i : Nat) (out : List Rn) (x y : Int), i + d = l.length → out.length ≤ i → Ev (fun k => diff_Unchanged.l0 k n out x y l (l.length : Int) (i : Int)) (out ++ stay n (l.drop i) x y) := by
  intro d
  induction d with
  | zero =>
    intro i out x y hi ho
    refine Ev.end_ fun k => ?_
    rw [diff_Unchanged.l0, if_neg (by omega), List.drop_eq_nil_of_le (show l.length ≤ i by omega), stay]
    by_cases c : x < n
    · rw [if_pos c, if_pos (by omega), if_pos c]
    · rw [if_neg c, if_neg c, List.append_nil]
  | succ d ih =>
    intro i out x y hi ho
    have hil : i < l.length := by omega
    rw [drop_cons l i hil, stay]
    by_cases c : x < l[i].f0
    · rw [if_pos c, ← List.append_assoc]
      refine Ev.step (fun k => ?_) (ih (i + 1) (out ++ [⟨x, y, wrap64 (l[i].f0 - x)⟩]) _ _ (by omega) (by simp; omega))
      rw [diff_Unchanged.l0, if_pos (by omega), if_pos (by omega), if_pos (by omega), rdE_at l i hil, if_pos c, if_pos (by omega), w64 (n := (i : Int) + 1) (by omega) (by omega)]
      rfl
    · rw [if_neg c, List.nil_append]
      refine Ev.step (fun k => ?_) (ih (i + 1) out _ _ (by omega) (by omega))
      rw [diff_Unchanged.l0, if_pos (by omega), if_pos (by omega), if_pos (by omega), rdE_at l i hil, if_neg c, w64 (n := (i : Int) + 1) (by omega) (by omega)]
      rfl
theorem unchanged_ev (l : List Ed) (n : Int) (hl : l.length < 1099511627776) : Ev (fun k => diff_Unchanged.f k l n) (stay n l 0 0) := unchanged_loop l n hl l.length 0 [] 0 0 (by omega) (by simp)
theorem edits_same (l : List Ed) (hl : l.length < 4611686018427387904) : Ev (fun k => graftageref08_Edits.f k l l) true := by
  have loop : ∀ (d i : Nat), i + d = l.length → Ev (fun k => graftageref08_Edits.l0 k l l (l.length : Int) (i : Int)) true := by
    intro d
    induction d with
    | zero => intro i hi; exact Ev.end_ fun k => by rw [graftageref08_Edits.l0, if_neg (by omega)]
    | succ d ih =>
      intro i hi
      refine Ev.step (fun k => ?_) (ih (i + 1) (by omega))
      rw [graftageref08_Edits.l0, if_pos (by omega), if_pos (by omega), if_pos (by omega), if_pos (by omega), if_neg (by simp), w64 (n := (i : Int) + 1) (by omega) (by omega)]
      rfl
  refine Ev.congr (fun k => ?_) (loop l.length 0 (by omega))
  unfold graftageref08_Edits.f
  rw [if_pos rfl]
  rfl
end Go.Proofs.Ytikepmdhnbnohaa.Pl
end
-- text YtikepmdhnbnohaaPlApply8
section
/- Both Apply agree, and answer b for a valid script; a valid script is laid anew from its unchanged runs. Conditions: lists shorter than 2^40. -/
namespace Go.Proofs.Ytikepmdhnbnohaa.Pl
open Go.RowKit Go.Proofs.YtikepmdhnbnohaaW.PrintWords Go.Proofs.Ytikepmdhnbnohaa.P
set_option linter.unusedSimpArgs false
set_option linter.unusedVariables false
def runs (l : List Rn) : Int := (l.map fun e => e.f2).foldr (· + ·) 0
theorem scr_len : ∀ (o : List Op) (i j : Int) (cur : Option Ed), (scr o i j cur).length ≤ o.length + cur.toList.length := by
  intro o
  induction o with
  | nil => intro i j cur; simp [scr]
  | cons q o ih =>
    intro i j cur
    cases q with
    | K =>
      have := ih (i + 1) (j + 1) none
      rw [scr, List.length_append, List.length_cons]
      simp only [Option.toList_none, List.length_nil] at this
      omega
    | D => cases cur <;> (rw [scr]; refine Nat.le_trans (ih _ _ _) ?_; simp <;> omega)
    | I => cases cur <;> (rw [scr]; refine Nat.le_trans (ih _ _ _) ?_; simp <;> omega)
end Go.Proofs.Ytikepmdhnbnohaa.Pl
end
-- text YtikepmdhnbnohaaPureDiffLeast
section
/- The plain statement of the law DiffLeast: Least answers the script that the reference answers. Conditions: none beyond the statement's own. -/
namespace Go.Proofs.Ytikepmdhnbnohaa.Pure
open Go.RowKit Go.Proofs.YtikepmdhnbnohaaW.PrintWords Go.Proofs.Ytikepmdhnbnohaa.P Go.Proofs.Ytikepmdhnbnohaa.Pl
set_option linter.unusedSimpArgs false
set_option linter.unusedVariables false
theorem DiffLeast : graftagelaw08_DiffLeast.Pure := by
  intro l0 l1 h0 h1
  refine Ev.rounds ?_
  have yes : Ev (fun k => graftagelaw08_DiffLeast.j0 k l0 l1 true) true := by
    refine Ev.step (f := fun k => (graftagelaw08_lives.f k).bind fun t => some t) (fun k => ?_) (Ev.bind lives_ev (Ev.now _))
    rw [graftagelaw08_DiffLeast.j0, if_pos rfl]
  have e1 := Ev.bind (f := fun _ (t : Bool) => some t) lives_ev (Ev.now true)
  have len : (leastEd l0 l1).length ≤ l0.length + l1.length + 1 := by
    unfold leastEd
    split
    · split <;> simp
    · have := scr_len (greedy l0 l1) 0 0 none
      have h9 := greedy_len l0 l1
      simp only [Option.toList_none, List.length_nil] at this
      omega
  have no : Ev (fun k => graftagelaw08_DiffLeast.j0 k l0 l1 false) true := by
    refine Ev.step (fun k => by rw [graftagelaw08_DiffLeast.j0, if_neg (by simp)]) ?_
    refine Ev.bind (least_ev l0 l1 (by omega)) (Ev.bind (rleast_ev l0 l1 (by omega) (same_ev l0 l1 (by omega))) (Ev.bind (edits_same _ (by omega)) ?_))
    simp only [if_true]
    exact e1
  have any : ∀ q : Bool, Ev (fun k => graftagelaw08_DiffLeast.j0 k l0 l1 q) true := fun q => by cases q <;> assumption
  obtain ⟨r0, hr0, hs0⟩ := short_ev l0 (by omega)
  obtain ⟨r1, hr1, hs1⟩ := short_ev l1 (by omega)
  have rest : Ev (fun k => if (l0.length : Int) > 4096 then (if (l0.length : Int) > 5000 then (graftagelaw08_DiffLeast.j0 k l0 l1 true) else (graftagelaw08_DiffLeast.j0 k l0 l1 (decide ((l1.length : Int) > 5000)))) else (if ((l1.length : Int) > 4096) then (if (l0.length : Int) > 5000 then (graftagelaw08_DiffLeast.j0 k l0 l1 true) else (graftagelaw08_DiffLeast.j0 k l0 l1 (decide ((l1.length : Int) > 5000)))) else (graftagelaw08_DiffLeast.j0 k l0 l1 true))) true := by
    by_cases c : (l0.length : Int) > 4096
    · refine Ev.congr (fun k => if_pos c) ?_
      by_cases c2 : (l0.length : Int) > 5000
      · exact Ev.congr (fun k => if_pos c2) yes
      · exact Ev.congr (fun k => if_neg c2) (any _)
    · refine Ev.congr (fun k => if_neg c) ?_
      by_cases c3 : (l1.length : Int) > 4096
      · refine Ev.congr (fun k => if_pos c3) ?_
        by_cases c2 : (l0.length : Int) > 5000
        · exact Ev.congr (fun k => if_pos c2) yes
        · exact Ev.congr (fun k => if_neg c2) (any _)
      · exact Ev.congr (fun k => if_neg c3) yes
  unfold graftagelaw08_DiffLeast.f
  refine Ev.bind hr0 ?_
  by_cases c0 : r0 = true
  case neg => exact Ev.congr (fun k => if_neg c0) rest
  refine Ev.congr (fun k => if_pos c0) ?_
  refine Ev.bind hr1 ?_
  by_cases c1 : r1 = true
  case neg => exact Ev.congr (fun k => if_neg c1) rest
  refine Ev.congr (fun k => if_pos c1) ?_
  by_cases c2 : (l0.length : Int) > 5000
  · exact Ev.congr (fun k => if_pos c2) yes
  · exact Ev.congr (fun k => if_neg c2) (any _)
end Go.Proofs.Ytikepmdhnbnohaa.Pure
end
-- text YtikepmdhnbnohaaLawDiffLeast
section
/- The law DiffLeast of the given program holds: for every input that the row speaks of, the call returns true and each argument reads behind the call as it read before. Conditions: none beyond the row's own. (Written by mp.py, a program of this session, over the kit's printer.) -/
namespace Go.Proofs.Ytikepmdhnbnohaa.diffLeast
open Go.ChangeShapes Go.WideShapes Go.ChangeAt Go.RowKit Go.Proofs.YtikepmdhnbnohaaW.PrintWords Go.Proofs.Ytikepmdhnbnohaa.P Go.Proofs.Ytikepmdhnbnohaa.Op
open Go.ChangeMaps (open_string shut_string)
set_option linter.unusedVariables false
theorem own : ownKnob Try.prog.godebug = none := by kernel_rfl
theorem laidOut : laidOutB Try.prog = true := by kernel_rfl
set_option maxRecDepth 100000 in
theorem lifted (P : graftagelaw08_DiffLeast.Pure) (os : Os) (started : os.Started) (H : Type) (enc : TypeId × Value → H) :
    ReturnsInHanded {} Try.checked os 3 .any (Rows.diffLeastSpec.pre6 enc Try.prog Try.f3 Rows.diffLeastRow.domain false) (Rows.diffLeastSpec.post enc Try.prog Try.f3 false true false false) := by
  refine returnsInHanded_of_change_sized (C := Try.checked) own started (by kernel_rfl) Try.func3
    (ChangeSpec.witness6 (enc := enc) (C := Try.checked) false ⟨#[], #[.slice none 0 0, .slice none 0 0], []⟩ 8 (by kernel_rfl) (by kernel_rfl) (by kernel_rfl) (by kernel_rfl)) ?_
  intro W base args ds gs before hval0 hW hcnd hsz0 _
  have hsz : (DataW.weightsEach Try.prog (Try.f3.params.toList ++ Rows.diffLeastSpec.plain.varTypes Try.prog) (ds ++ gs)).all (· ≤ reachBytes) = true := hsz0
  have hval : ∀ (j : Nat) t v, Try.f3.params[j]? = some t → args[j]? = some v → Value.okWide Try.prog W .any base t v := hval0
  have hW' := hW
  obtain ⟨p, q, hA0, hV, rfl, hfz, hnd⟩ := hW
  have hA : DataW.TrodAll enc Try.prog W 0 (fun _ => true) true Try.f3.params.toList args.toList ds p := hA0
  rw [Try.params3] at hA hval hsz
  obtain ⟨v0, vs0, d0, ds0, p0, q0, hargs, rfl, rfl, h0, r0⟩ := trodAll_cons hA
  obtain ⟨v1, vs1, d1, ds1, p1, q1, rfl, rfl, rfl, h1, r1⟩ := trodAll_cons r0
  obtain ⟨rfl, rfl, rfl⟩ := trodAll_nil r1
  obtain rfl : args = #[v0, v1] := by cases args; simp_all
  obtain ⟨rfl, rfl⟩ := trodVars_none hV
  have k0 := h0
  have lt0 : ∀ x ∈ p0, x.block < W.heap.size := by obtain ⟨m, hm⟩ := k0; exact DataW.trod_lt m _ _ _ hm
  have w0 : ∀ n ∈ d0.weights Try.prog 22, n ≤ reachBytes := fun n hn => by
    have z := List.all_eq_true.1 hsz n (DataW.weights_mem_each (j := 0) (t := 22) rfl rfl n hn)
    simpa using z
  obtain ⟨fuel0, hf0⟩ := h0
  obtain ⟨aa0, len0, cap0, rfl⟩ := okWide_slice Try.underlying22 (hval 0 22 v0 rfl rfl)
  obtain ⟨l0, K0, G0⟩ := (opens_slice 16 Try.underlying22 (by kernel_rfl) (by kernel_rfl) (opens_string Try.underlying9 (by kernel_rfl) : Opens Try.prog 9 Kd.string _) : Opens Try.prog 22 (Kd.slice 9 Kd.string) _).out hf0 w0
  obtain ⟨rfl, hc0, hr0⟩ := slice_arg K0
  have k1 := h1
  have lt1 : ∀ x ∈ p1, x.block < W.heap.size := by obtain ⟨m, hm⟩ := k1; exact DataW.trod_lt m _ _ _ hm
  have w1 : ∀ n ∈ d1.weights Try.prog 22, n ≤ reachBytes := fun n hn => by
    have z := List.all_eq_true.1 hsz n (DataW.weights_mem_each (j := 1) (t := 22) rfl rfl n hn)
    simpa using z
  obtain ⟨fuel1, hf1⟩ := h1
  obtain ⟨aa1, len1, cap1, rfl⟩ := okWide_slice Try.underlying22 (hval 1 22 v1 rfl rfl)
  obtain ⟨l1, K1, G1⟩ := (opens_slice 16 Try.underlying22 (by kernel_rfl) (by kernel_rfl) (opens_string Try.underlying9 (by kernel_rfl) : Opens Try.prog 9 Kd.string _) : Opens Try.prog 22 (Kd.slice 9 Kd.string) _).out hf1 w1
  obtain ⟨rfl, hc1, hr1⟩ := slice_arg K1
  obtain ⟨k, h⟩ := P l0 l1 G0 G1
  refine (graftagelaw08_DiffLeast.calls k _ _ l0 _ _ l1 true W hr0 hc0 hr1 hc1 h).mono ?_
  rintro e W' ⟨rfl, hd⟩
  have bel : Below W.heap.size W W' := hd
  exact ⟨_, rfl, _, _, _, [], _, [], hW', trodAll_mk1 (shut_bool Try.underlying4 _), (trodAll_cons_mk (Below.trod laidOut (by kernel_rfl) (of_decide_eq_true (by kernel_rfl)) k0 bel lt0) (trodAll_cons_mk (Below.trod laidOut (by kernel_rfl) (of_decide_eq_true (by kernel_rfl)) k1 bel lt1) trodAll_mk0)), rfl, bel.frame _, fun h => by cases h⟩
theorem over (P : graftagelaw08_DiffLeast.Pure) : Rows.diffLeastRow.holds Try.pinned (OpenSpec.ofChange Rows.diffLeastSpec) :=
  OpenClaim.holds_of_wide 3 Try.f3 rfl rfl rfl rfl rfl rfl rfl ⟨rfl, rfl, rfl, rfl, rfl⟩ rfl rfl rfl rfl rfl (by kernel_rfl) Try.func3 (by kernel_rfl)
    (of_decide_eq_true (by kernel_rfl)) (by unfold Func.isWrapper; first | (rw [if_pos (by decide +kernel)]; kernel_rfl) | (rw [if_neg (by decide +kernel)]; exact ⟨rfl, rfl⟩))
    (fun os started H enc _ => lifted P os started H enc)
theorem proved : Rows.DiffLeastSaid := over Pure.DiffLeast
#print axioms proved
end Go.Proofs.Ytikepmdhnbnohaa.diffLeast
namespace Go.Proofs.Ytikepmdhnbnohaa
/-- The row, under a short name, for the claim. -/
theorem diffLeast_holds : Rows.DiffLeastSaid := diffLeast.proved
end Go.Proofs.Ytikepmdhnbnohaa
end
