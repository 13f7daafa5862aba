/- The table that diff makes: its entries are the greatest numbers of lines that stay. And what Least's second loop comes to: the edits of the greedy alignment. Conditions: lists of at most 4096 lines. -/
import Derived.Test.YtikepmdhnbnohaaPx0
import Derived.Test.YtikepmdhnbnohaaPx5
import Derived.Test.YtikepmdhnbnohaaPx6
import Derived.Test.YtikepmdhnbnohaaPlBase
import Derived.Test.YtikepmdhnbnohaaPlLcs
namespace Go.Proofs.Ytikepmdhnbnohaa.Pl
open Go.RowKit Go.Proofs.YtikepmdhnbnohaaW.PrintWords Go.Proofs.Ytikepmdhnbnohaa.P
set_option linter.unusedSimpArgs false
set_option linter.unusedVariables false
/-- Entry (i, j) of a table. -/
def ent (T : List (List Int)) (i j : Nat) : Int := (T.getD i []).getD j 0
def row (T : List (List Int)) (i : Nat) : List Int := T.getD i []
theorem ent_row (T : List (List Int)) (i j : Nat) : ent T i j = (row T i).getD j 0 := rfl
theorem rd_row (T : List (List Int)) (i : Nat) : rd_L2 T (i : Int) = row T i := by unfold rd_L2 row; rw [Int.toNat_natCast]
theorem rd_nat (l : List Int) (j : Nat) : rd l (j : Int) = l.getD j 0 := by unfold rd; rw [Int.toNat_natCast]
theorem row_set (T : List (List Int)) (i r : Nat) (v : List Int) (hi : i < T.length) : row (T.set i v) r = if r = i then v else row T r := by
  unfold row
  simp only [List.getD_eq_getElem?_getD, List.getElem?_set]
  by_cases e : i = r
  · subst e
    simp [hi]
  · rw [if_neg e, if_neg (Ne.symm e)]
theorem getD_set (l : List Int) (j c : Nat) (v : Int) (hj : j < l.length) : (l.set j v).getD c 0 = if c = j then v else l.getD c 0 := by
  simp only [List.getD_eq_getElem?_getD, List.getElem?_set]
  by_cases e : j = c
  · subst e
    simp [hj]
  · rw [if_neg e, if_neg (Ne.symm e)]
/-- Rows of the right lengths. -/
def Sized (T : List (List Int)) (n m : Nat) : Prop := T.length = n + 1 ∧ ∀ r, r ≤ n → (row T r).length = m + 1
/-- Rows above i are right, row i from column j on, all else is 0. -/
def Right (a b : List ByteArray) (T : List (List Int)) (i j : Nat) : Prop :=
  ∀ r c, r ≤ a.length → c ≤ b.length → (i < r ∨ (r = i ∧ j ≤ c) → ent T r c = (lcs (a.drop r) (b.drop c) : Nat)) ∧ (¬ (i < r ∨ (r = i ∧ j ≤ c)) → ent T r c = 0)
def IsTab (a b : List ByteArray) (T : List (List Int)) : Prop := Sized T a.length b.length ∧ ∀ r c, r ≤ a.length → c ≤ b.length → ent T r c = (lcs (a.drop r) (b.drop c) : Nat)
theorem lcs_bound (a b : List ByteArray) (ha : a.length ≤ 4096) (r c : Nat) : ((lcs (a.drop r) (b.drop c) : Nat) : Int) ≤ 4096 := by
  have := (lcs_le (a.drop r) (b.drop c)).1
  rw [List.length_drop] at this
  omega
/-- One entry more. -/
theorem Right.put {a b : List ByteArray} {T : List (List Int)} {i j : Nat} (hS : Sized T a.length b.length) (h : Right a b T i (j + 1)) (hi : i < a.length) (hj : j < b.length) (v : Int) (hv : v = (lcs (a.drop i) (b.drop j) : Nat)) :
    Sized (T.set i ((row T i).set j v)) a.length b.length ∧ Right a b (T.set i ((row T i).set j v)) i j := by
  have hl : i < T.length := by rw [hS.1]; omega
  have hr : (row T i).length = b.length + 1 := hS.2 i (by omega)
  refine ⟨⟨by rw [List.length_set]; exact hS.1, fun r hrn => ?_⟩, fun r c hrn hc => ?_⟩
  · rw [row_set _ _ _ _ hl]
    split
    · rw [List.length_set, hr]
    · exact hS.2 r hrn
  · rw [ent_row, row_set _ _ _ _ hl]
    have hh := h r c hrn hc
    by_cases e : r = i
    · subst e
      rw [if_pos rfl, getD_set _ _ _ _ (by omega)]
      by_cases ec : c = j
      · subst ec
        rw [if_pos rfl]
        exact ⟨fun _ => hv, fun hn => absurd (Or.inr ⟨rfl, Nat.le_refl _⟩) hn⟩
      · rw [if_neg ec, ← ent_row]
        exact ⟨fun hy => hh.1 (by omega), fun hn => hh.2 (by omega)⟩
    · rw [if_neg e, ← ent_row]
      exact ⟨fun hy => hh.1 (by omega), fun hn => hh.2 (by omega)⟩
theorem drop_cons {α : Type} (l : List α) (i : Nat) (h : i < l.length) : l.drop i = l[i] :: l.drop (i + 1) := List.drop_eq_getElem_cons h
theorem rdB_at (l : List ByteArray) (i : Nat) (h : i < l.length) : rdOf ByteArray.empty l (i : Int) = l[i] := by
  unfold rdOf
  rw [Int.toNat_natCast, List.getD_eq_getElem?_getD, List.getElem?_eq_getElem h]
  rfl
theorem l2_ev (a b : List ByteArray) (ha : a.length ≤ 4096) (hb : b.length ≤ 4096) (i : Nat) (hi : i < a.length) (R : List (List Int)) : ∀ (j : Nat) (T : List (List Int)), j ≤ b.length → Sized T a.length b.length → Right a b T i j →
    (∀ T', Sized T' a.length b.length → Right a b T' i 0 → ∃ r, Ev (fun k => diff_table.l1 k a b T' ((i : Int) - 1)) r ∧ IsTab a b r) →
    ∃ r, Ev (fun k => diff_table.l2 k a b T (i : Int) ((j : Int) - 1)) r ∧ IsTab a b r := by
  intro j
  induction j with
  | zero =>
    intro T _ hS hR next
    obtain ⟨r, hr, ht⟩ := next T hS hR
    refine ⟨r, Ev.step (fun k => ?_) hr, ht⟩
    rw [diff_table.l2, if_neg (by omega), w64 (by omega) (by omega)]
  | succ j ih =>
    intro T hj hS hR next
    have hl : T.length = a.length + 1 := hS.1
    have hr0 : (row T i).length = b.length + 1 := hS.2 i (by omega)
    have hr1 : (row T (i + 1)).length = b.length + 1 := hS.2 (i + 1) (by omega)
    have e1 : ((j + 1 : Nat) : Int) - 1 = (j : Int) := by omega
    have ei : (i : Int) + 1 = ((i + 1 : Nat) : Int) := by omega
    have ej : (j : Int) + 1 = ((j + 1 : Nat) : Int) := by omega
    have key : ∀ v, v = ((lcs (a.drop i) (b.drop j) : Nat) : Int) → ∃ r, Ev (fun k => diff_table.l2 k a b (T.set i ((row T i).set j v)) (i : Int) ((j : Int) - 1)) r ∧ IsTab a b r := by
      intro v hv
      obtain ⟨h1, h2⟩ := hR.put hS hi (by omega) v hv
      exact ih _ (by omega) h1 h2 next
    by_cases e : a[i] = b[j]
    · have hv : (lcs (a.drop i) (b.drop j) : Nat) = lcs (a.drop (i + 1)) (b.drop (j + 1)) + 1 := by rw [drop_cons a i hi, drop_cons b j (by omega), e, lcs_same]
      have hbound := lcs_bound a b ha (i + 1) (j + 1)
      obtain ⟨r, hr, ht⟩ := key (IntKind.u16.wrap (rd (rd_L2 T (i + 1)) (j + 1) + 1)) (by
        rw [ei, ej, rd_row, rd_nat, ← ent_row, (hR (i + 1) (j + 1) (by omega) (by omega)).1 (.inl (by omega)), hv]
        push_cast
        simp only [IntKind.wrap, IntKind.signed, IntKind.bits]
        simp
        omega)
      refine ⟨r, Ev.step (fun k => ?_) hr, ht⟩
      rw [diff_table.l2, e1, if_pos (by omega), if_pos (by omega), if_pos (by omega), if_pos (by omega), if_pos (by omega), rdB_at a i hi, rdB_at b j (by omega), if_pos (by rw [e]), w64 (by omega) (by omega), w64 (by omega) (by omega), if_pos (by omega), if_pos (by omega), if_pos (by omega), if_pos (by omega), if_pos (by rw [ei, rd_row, hr1]; omega), if_pos (by rw [rd_row, hr0]; omega), w64 (by omega) (by omega)]
      simp only [Int.toNat_natCast, rd_row]
    · have hv : (lcs (a.drop i) (b.drop j) : Nat) = max (lcs (a.drop (i + 1)) (b.drop j)) (lcs (a.drop i) (b.drop (j + 1))) := by rw [drop_cons a i hi, drop_cons b j (by omega), lcs_ne e]
      obtain ⟨r, hr, ht⟩ := key (mx (rd (rd_L2 T (i + 1)) j) (rd (rd_L2 T i) (j + 1))) (by
        rw [ei, ej, rd_row, rd_row, rd_nat, rd_nat, ← ent_row, ← ent_row, (hR (i + 1) j (by omega) (by omega)).1 (.inl (by omega)), (hR i (j + 1) (by omega) (by omega)).1 (.inr ⟨rfl, Nat.le_refl _⟩), hv]
        unfold mx
        omega)
      refine ⟨r, Ev.step (fun k => ?_) hr, ht⟩
      rw [diff_table.l2, e1, if_pos (by omega), if_pos (by omega), if_pos (by omega), if_pos (by omega), if_pos (by omega), rdB_at a i hi, rdB_at b j (by omega), if_neg (by rw [tl_inj]; exact e), w64 (by omega) (by omega), w64 (by omega) (by omega), if_pos (by omega), if_pos (by omega), if_pos (by omega), if_pos (by rw [ei, rd_row, hr1]; omega), if_pos (by omega), if_pos (by rw [rd_row, hr0]; omega), if_pos (by rw [rd_row, hr0]; omega), w64 (by omega) (by omega)]
      simp only [Int.toNat_natCast, rd_row]
theorem l1_ev (a b : List ByteArray) (ha : a.length ≤ 4096) (hb : b.length ≤ 4096) : ∀ (i : Nat) (T : List (List Int)), i ≤ a.length → Sized T a.length b.length → Right a b T i 0 → ∃ r, Ev (fun k => diff_table.l1 k a b T ((i : Int) - 1)) r ∧ IsTab a b r := by
  intro i
  induction i with
  | zero =>
    intro T _ hS hR
    refine ⟨T, Ev.end_ fun k => ?_, hS, fun r c hr hc => (hR r c hr hc).1 (by omega)⟩
    rw [diff_table.l1, if_neg (by omega)]
  | succ i ih =>
    intro T hi hS hR
    have e1 : ((i + 1 : Nat) : Int) - 1 = (i : Int) := by omega
    have hR' : Right a b T i (b.length + 1) := fun r c hr hc => ⟨fun hy => (hR r c hr hc).1 (by omega), fun hn => (hR r c hr hc).2 (by omega)⟩
    -- the last column is 0, and right
    have hR2 : Right a b T i b.length := fun r c hr hc => by
      refine ⟨fun hy => ?_, fun hn => (hR' r c hr hc).2 (by omega)⟩
      by_cases e : i < r
      · exact (hR' r c hr hc).1 (.inl e)
      · have er : r = i := by omega
        have ec : c = b.length := by omega
        subst er ec
        rw [(hR' r b.length hr hc).2 (by omega), List.drop_length, lcs_nil2]
        rfl
    obtain ⟨r, hr, ht⟩ := l2_ev a b ha hb i (by omega) T b.length T (Nat.le_refl _) hS hR2 (fun T' hS' hR'' => ih T' (by omega) hS' hR'')
    refine ⟨r, Ev.step (fun k => ?_) hr, ht⟩
    rw [diff_table.l1, e1, if_pos (by omega), w64 (by omega) (by omega)]
theorem l0_ev (a b : List ByteArray) (ha : a.length ≤ 4096) (hb : b.length ≤ 4096) : ∀ (d i : Nat) (T : List (List Int)), i + d = a.length + 1 → T.length = a.length + 1 → (∀ r, r < i → row T r = List.replicate (b.length + 1) 0) →
    ∃ r, Ev (fun k => diff_table.l0 k a b T ((a.length : Int) + 1) (i : Int)) r ∧ IsTab a b r := by
  intro d
  induction d with
  | zero =>
    intro i T hi hT hz
    have hS : Sized T a.length b.length := ⟨hT, fun r hr => by rw [hz r (by omega)]; simp⟩
    have h0 : ∀ r c, r ≤ a.length → ent T r c = 0 := fun r c hr => by
      rw [ent_row, hz r (by omega), List.getD_eq_getElem?_getD, List.getElem?_replicate]
      split <;> rfl
    have hR : Right a b T a.length 0 := fun r c hr hc => by
      refine ⟨fun hy => ?_, fun _ => h0 r c hr⟩
      have er : r = a.length := by omega
      subst er
      rw [h0 _ c hr, List.drop_length, lcs_nil]
      rfl
    obtain ⟨r, hr, ht⟩ := l1_ev a b ha hb a.length T (Nat.le_refl _) hS hR
    refine ⟨r, Ev.step (fun k => ?_) hr, ht⟩
    rw [diff_table.l0, if_neg (by omega), w64 (by omega) (by omega)]
  | succ d ih =>
    intro i T hi hT hz
    have hrep : (List.replicate (wrap64 ((b.length : Int) + 1)).toNat (0 : Int)) = List.replicate (b.length + 1) 0 := by rw [w64 (by omega) (by omega), show ((b.length : Int) + 1).toNat = b.length + 1 by omega]
    obtain ⟨r, hr, ht⟩ := ih (i + 1) (T.set i (List.replicate (b.length + 1) 0)) (by omega) (by rw [List.length_set, hT]) (fun r hr => by
      rw [row_set _ _ _ _ (by omega)]
      split
      · rfl
      · exact hz r (by omega))
    refine ⟨r, Ev.step (fun k => ?_) hr, ht⟩
    rw [diff_table.l0, hrep, if_pos (by omega), if_pos (by rw [w64 (by omega) (by omega)]; omega), if_pos (by rw [w64 (by omega) (by omega)]; omega), if_pos (by omega), if_pos (by rw [hT]; omega), w64 (n := (i : Int) + 1) (by omega) (by omega), Int.toNat_natCast]
    rfl
theorem table_ev (a b : List ByteArray) (ha : a.length ≤ 4096) (hb : b.length ≤ 4096) : ∃ r, Ev (fun k => diff_table.f k a b) r ∧ IsTab a b r := by
  obtain ⟨r, hr, ht⟩ := l0_ev a b ha hb (a.length + 1) 0 (List.replicate (a.length + 1) []) (by omega) (by simp) (fun r hr => by omega)
  refine ⟨r, Ev.congr (fun k => ?_) hr, ht⟩
  unfold diff_table.f
  have e : wrap64 ((a.length : Int) + 1) = (a.length : Int) + 1 := w64 (by omega) (by omega)
  rw [e, if_pos (by omega), if_pos (by omega), show ((a.length : Int) + 1).toNat = a.length + 1 by omega]
  simp only [Option.bind_some, List.length_replicate]
  push_cast
  rfl
/-- The edits of an alignment, as Least's second loop makes them. -/
def edits (h : Int) : List Op → Nat → Nat → Bool → List S44 → List S44
  | [], _, _, _, out => out
  | Op.K :: o, i, j, _, out => edits h o (i + 1) (j + 1) false out
  | Op.D :: o, i, j, op, out => edits h o (i + 1) j true (diff_Least.del (diff_Least.open_ h i j op out))
  | Op.I :: o, i, j, op, out => edits h o i (j + 1) true (diff_Least.ins (diff_Least.open_ h i j op out))
theorem go_is (a b : List ByteArray) (T : List (List Int)) (hT : IsTab a b T) (h : Int) : ∀ (n i j : Nat) (op : Bool) (out : List S44), i ≤ a.length → j ≤ b.length → a.length - i + (b.length - j) < n →
    diff_Least.go a b T h n i j op out = some (edits h (greedy (a.drop i) (b.drop j)) i j op out) := by
  intro n
  induction n with
  | zero => intro i j op out _ _ h; omega
  | succ n ih =>
    intro i j op out hi hj hn
    rw [diff_Least.go]
    by_cases hia : i < a.length
    · rw [if_pos hia]
      by_cases hjb : j < b.length
      · rw [if_pos hjb, rdB_at a i hia, rdB_at b j hjb, drop_cons a i hia, drop_cons b j hjb, greedy]
        by_cases e : a[i] = b[j]
        · rw [if_pos (by rw [e]), if_pos e, edits]
          exact ih (i + 1) (j + 1) _ _ (by omega) (by omega) (by omega)
        · have ei : (i : Int) + 1 = ((i + 1 : Nat) : Int) := by omega
          have ej : (j : Int) + 1 = ((j + 1 : Nat) : Int) := by omega
          rw [if_neg (by rw [tl_inj]; exact e), if_neg e, if_pos (by rw [hT.1.1]; omega), if_pos (by rw [rd_row, hT.1.2 i (by omega)]; omega), if_pos (by rw [ei, rd_row, hT.1.2 (i + 1) (by omega)]; omega)]
          rw [ei, ej, rd_row, rd_row, rd_nat, rd_nat, ← ent_row, ← ent_row, hT.2 i (j + 1) (by omega) (by omega), hT.2 (i + 1) j (by omega) (by omega)]
          rw [← drop_cons a i hia, ← drop_cons b j hjb]
          by_cases c : lcs (a.drop i) (b.drop (j + 1)) ≤ lcs (a.drop (i + 1)) (b.drop j)
          · rw [if_pos (by omega), if_pos c, edits]
            exact ih (i + 1) j _ _ (by omega) (by omega) (by omega)
          · rw [if_neg (by omega), if_neg c, edits]
            exact ih i (j + 1) _ _ (by omega) (by omega) (by omega)
      · rw [if_neg hjb]
        have hb0 : b.drop j = [] := List.drop_eq_nil_of_le (by omega)
        rw [hb0, drop_cons a i hia, greedy, edits, ← hb0]
        exact ih (i + 1) j _ _ (by omega) (by omega) (by omega)
    · rw [if_neg hia]
      have ha0 : a.drop i = [] := List.drop_eq_nil_of_le (by omega)
      by_cases hjb : j < b.length
      · rw [if_pos hjb, ha0, drop_cons b j hjb, greedy, edits, ← ha0]
        exact ih i (j + 1) _ _ (by omega) (by omega) (by omega)
      · rw [if_neg hjb, ha0, List.drop_eq_nil_of_le (show b.length ≤ j by omega), greedy, edits]
end Go.Proofs.Ytikepmdhnbnohaa.Pl
