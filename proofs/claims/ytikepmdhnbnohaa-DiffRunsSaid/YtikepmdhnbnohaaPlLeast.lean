/- What diff.Least answers: the script of the greedy alignment (lists of at most 4096 lines), and one edit or none beyond. Conditions: lists shorter than 2^62. -/
import Derived.Test.YtikepmdhnbnohaaPx0
import Derived.Test.YtikepmdhnbnohaaPx4
import Derived.Test.YtikepmdhnbnohaaPx5
import Derived.Test.YtikepmdhnbnohaaPx6
import Derived.Test.YtikepmdhnbnohaaPlScr
import Derived.Test.YtikepmdhnbnohaaPlTable
namespace Go.Proofs.Ytikepmdhnbnohaa.Pl
open Go.RowKit Go.Proofs.YtikepmdhnbnohaaW.PrintWords Go.Proofs.Ytikepmdhnbnohaa.P
set_option linter.unusedSimpArgs false
set_option linter.unusedVariables false
theorem equal_loop (a b : List ByteArray) (hl : a.length = b.length) (hb : a.length < 4611686018427387904) : ∀ (d i : Nat), i + d = a.length →
    Ev (fun k => slices_Equal_string_string.l0 k a b (a.length : Int) (i : Int)) (decide (a.drop i = b.drop i)) := by
  intro d
  induction d with
  | zero =>
    intro i hi
    refine Ev.end_ fun k => ?_
    rw [slices_Equal_string_string.l0, if_neg (by omega), List.drop_eq_nil_of_le (show a.length ≤ i by omega), List.drop_eq_nil_of_le (show b.length ≤ i by omega)]
    simp
  | succ d ih =>
    intro i hi
    by_cases e : a[i]'(by omega) = b[i]'(by omega)
    · have hd : (a.drop i = b.drop i) ↔ (a.drop (i + 1) = b.drop (i + 1)) := by
        rw [drop_cons a i (by omega), drop_cons b i (by omega), e]
        exact ⟨fun h => (List.cons.inj h).2, fun h => by rw [h]⟩
      rw [decide_eq_decide.2 hd]
      refine Ev.step (fun k => ?_) (ih (i + 1) (by omega))
      rw [slices_Equal_string_string.l0, if_pos (by omega), if_pos (by omega), if_pos (by omega), if_pos (by omega), rdB_at a i (by omega), rdB_at b i (by omega), if_pos (by rw [e]), w64 (by omega) (by omega)]
      rfl
    · have hd : ¬ a.drop i = b.drop i := by
        rw [drop_cons a i (by omega), drop_cons b i (by omega)]
        exact fun h => e (List.cons.inj h).1
      rw [decide_eq_false hd]
      refine Ev.end_ fun k => ?_
      rw [slices_Equal_string_string.l0, if_pos (by omega), if_pos (by omega), if_pos (by omega), if_pos (by omega), rdB_at a i (by omega), rdB_at b i (by omega), if_neg (by rw [tl_inj]; exact e)]
theorem equal_ev (a b : List ByteArray) (hb : a.length < 4611686018427387904) : Ev (fun k => slices_Equal_string_string.f k a b) (decide (a = b)) := by
  by_cases hl : a.length = b.length
  · have := equal_loop a b hl hb a.length 0 (by omega)
    refine Ev.congr (fun k => ?_) this
    unfold slices_Equal_string_string.f
    rw [if_pos (by omega)]
    rfl
  · refine ⟨0, fun k _ => ?_⟩
    show slices_Equal_string_string.f k a b = _
    unfold slices_Equal_string_string.f
    rw [if_neg (by omega), decide_eq_false (fun e => hl (by rw [e]))]
theorem last_snoc (out : List Ed) (e : Ed) : diff_Least.last (out ++ [e]) = e := by simp [diff_Least.last, List.getD_eq_getElem?_getD]
theorem del_snoc (out : List Ed) (e : Ed) : diff_Least.del (out ++ [e]) = out ++ [⟨e.f0, wrap64 (e.f1 + 1), e.f2, e.f3⟩] := by
  unfold diff_Least.del
  rw [last_snoc]
  simp
theorem ins_snoc (out : List Ed) (e : Ed) : diff_Least.ins (out ++ [e]) = out ++ [⟨e.f0, e.f1, e.f2, wrap64 (e.f3 + 1)⟩] := by
  unfold diff_Least.ins
  rw [last_snoc]
  simp
theorem edits_scr (h : Int) : ∀ (o : List Op) (i j : Nat), (∀ out, edits h o i j false out = out ++ scr o (h + i) (h + j) none ∨ 1000000 < o.length) ∧
    (∀ (out : List Ed) (e : Ed), 0 ≤ e.f1 → 0 ≤ e.f3 → e.f1 + o.length ≤ 2000000 → e.f3 + o.length ≤ 2000000 → edits h o i j true (out ++ [e]) = out ++ scr o (h + i) (h + j) (some e) ∨ 1000000 < o.length) := by
  intro o
  induction o with
  | nil => intro i j; exact ⟨fun out => .inl (by simp [edits, scr]), fun out e _ _ _ _ => .inl (by simp [edits, scr])⟩
  | cons q o ih =>
    intro i j
    by_cases hbig : 1000000 < (q :: o).length
    · exact ⟨fun _ => .inr hbig, fun _ _ _ _ _ _ => .inr hbig⟩
    have hlen : o.length < 1000000 := by simp only [List.length_cons] at hbig; omega
    have i1 : h + ((i + 1 : Nat) : Int) = h + i + 1 := by omega
    have j1 : h + ((j + 1 : Nat) : Int) = h + j + 1 := by omega
    cases q with
    | K =>
      have z := (ih (i + 1) (j + 1)).1
      rw [i1, j1] at z
      refine ⟨fun out => .inl ?_, fun out e _ _ _ _ => .inl ?_⟩
      · rw [edits, scr, (z out).resolve_right (by omega)]
        rfl
      · rw [edits, scr, (z (out ++ [e])).resolve_right (by omega), List.append_assoc]
        rfl
    | D =>
      have z := (ih (i + 1) j).2
      rw [i1] at z
      refine ⟨fun out => .inl ?_, fun out e h1 h3 h5 h6 => .inl ?_⟩
      · rw [edits, scr]
        have : diff_Least.open_ h i j false out = out ++ [⟨h + i, 0, h + j, 0⟩] := by unfold diff_Least.open_; rw [if_neg (by decide)]
        rw [this, del_snoc]
        dsimp only
        rw [w64 (n := 0 + 1) (by omega) (by omega), Int.zero_add]
        have zz := z out ⟨h + i, 1, h + j, 0⟩ (by dsimp only; omega) (by dsimp only; omega) (by dsimp only; omega) (by dsimp only; omega)
        exact zz.resolve_right (by omega)
      · rw [edits, scr]
        have : diff_Least.open_ h i j true (out ++ [e]) = out ++ [e] := by unfold diff_Least.open_; rw [if_pos rfl]
        simp only [List.length_cons] at h5 h6
        rw [this, del_snoc, w64 (by omega) (by omega)]
        have zz := z out ⟨e.f0, e.f1 + 1, e.f2, e.f3⟩ (by dsimp only; omega) (by dsimp only; omega) (by dsimp only; omega) (by dsimp only; omega)
        exact zz.resolve_right (by omega)
    | I =>
      have z := (ih i (j + 1)).2
      rw [j1] at z
      refine ⟨fun out => .inl ?_, fun out e h1 h3 h5 h6 => .inl ?_⟩
      · rw [edits, scr]
        have : diff_Least.open_ h i j false out = out ++ [⟨h + i, 0, h + j, 0⟩] := by unfold diff_Least.open_; rw [if_neg (by decide)]
        rw [this, ins_snoc]
        dsimp only
        rw [w64 (n := 0 + 1) (by omega) (by omega), Int.zero_add]
        have zz := z out ⟨h + i, 0, h + j, 1⟩ (by dsimp only; omega) (by dsimp only; omega) (by dsimp only; omega) (by dsimp only; omega)
        exact zz.resolve_right (by omega)
      · rw [edits, scr]
        have : diff_Least.open_ h i j true (out ++ [e]) = out ++ [e] := by unfold diff_Least.open_; rw [if_pos rfl]
        simp only [List.length_cons] at h5 h6
        rw [this, ins_snoc, w64 (by omega) (by omega)]
        have zz := z out ⟨e.f0, e.f1, e.f2, e.f3 + 1⟩ (by dsimp only; omega) (by dsimp only; omega) (by dsimp only; omega) (by dsimp only; omega)
        exact zz.resolve_right (by omega)
theorem scr_keeps (p : Nat) (o : List Op) : ∀ (i j : Int), scr (List.replicate p Op.K ++ o) i j none = scr o (i + p) (j + p) none := by
  induction p with
  | zero => intro i j; simp
  | succ p ih =>
    intro i j
    rw [List.replicate_succ, List.cons_append, scr, ih]
    simp only [Option.toList_none, List.nil_append]
    congr 1 <;> omega
theorem greedy_pre : ∀ (a b : List ByteArray), greedy a b = List.replicate (diff_Least.pre a b) Op.K ++ greedy (a.drop (diff_Least.pre a b)) (b.drop (diff_Least.pre a b))
  | [], b => by rw [diff_Least.pre]; rfl; intro _ _ _ _ h; cases h
  | x :: a, [] => by rw [diff_Least.pre]; rfl; intro _ _ _ _ _ h; cases h
  | x :: a, y :: b => by
    rw [diff_Least.pre]
    by_cases e : x = y
    · rw [if_pos (by rw [e]), greedy, if_pos e, List.replicate_succ, List.cons_append, List.drop_succ_cons, List.drop_succ_cons, ← greedy_pre a b]
    · rw [if_neg (by rw [tl_inj]; exact e)]
      rfl
theorem greedy_len (a b : List ByteArray) : (greedy a b).length ≤ a.length + b.length := by
  have h := (greedy_is a b).lens
  have : (greedy a b).length = kept (greedy a b) + paid (greedy a b) := by
    unfold kept paid
    have := List.length_eq_countP_add_countP (fun q => q == Op.K) (l := greedy a b)
    rw [this]
    congr 1
    apply List.countP_congr
    intro q _
    cases q <;> simp
  omega
def leastOf (a b : List ByteArray) : List Ed := if 4096 < a.length ∨ 4096 < b.length then (if a = b then [] else [⟨0, a.length, 0, b.length⟩]) else scr (greedy a b) 0 0 none
theorem pre_le : ∀ (a b : List ByteArray), diff_Least.pre a b ≤ a.length ∧ diff_Least.pre a b ≤ b.length
  | [], b => by rw [diff_Least.pre]; simp; intro _ _ _ _ h; cases h
  | x :: a, [] => by rw [diff_Least.pre]; simp; intro _ _ _ _ _ h; cases h
  | x :: a, y :: b => by
    rw [diff_Least.pre]
    have := pre_le a b
    simp only [List.length_cons]
    split <;> omega
theorem least_ev (a b : List ByteArray) (ha : a.length < 4611686018427387904) : Ev (fun k => diff_Least.f k a b) (leastOf a b) := by
  unfold leastOf
  by_cases c : 4096 < a.length ∨ 4096 < b.length
  · rw [if_pos c]
    have := Ev.bind (equal_ev a b ha) (f := fun _ e => some (if e = true then [] else [(⟨0, (a.length : Int), 0, (b.length : Int)⟩ : Ed)])) (r := if a = b then [] else [⟨0, a.length, 0, b.length⟩]) (Ev.some_ fun k => by
      by_cases e : a = b
      · rw [decide_eq_true e, if_pos rfl, if_pos e]
      · rw [decide_eq_false e, if_neg e]; rfl)
    refine Ev.congr (fun k => ?_) this
    unfold diff_Least.f
    rw [if_pos c]
  · rw [if_neg c]
    have hp := pre_le a b
    obtain ⟨T, hT, hTab⟩ := table_ev (a.drop (diff_Least.pre a b)) (b.drop (diff_Least.pre a b)) (by rw [List.length_drop]; omega) (by rw [List.length_drop]; omega)
    have hg := go_is _ _ T hTab (diff_Least.pre a b : Nat) ((a.drop (diff_Least.pre a b)).length + (b.drop (diff_Least.pre a b)).length + 1) 0 0 false [] (by omega) (by omega) (by omega)
    rw [List.drop_zero, List.drop_zero] at hg
    have hl := greedy_len (a.drop (diff_Least.pre a b)) (b.drop (diff_Least.pre a b))
    rw [List.length_drop, List.length_drop] at hl
    have he := ((edits_scr (diff_Least.pre a b : Nat) (greedy (a.drop (diff_Least.pre a b)) (b.drop (diff_Least.pre a b))) 0 0).1 []).resolve_right (by omega)
    have hs : scr (greedy a b) 0 0 none = scr (greedy (a.drop (diff_Least.pre a b)) (b.drop (diff_Least.pre a b))) (diff_Least.pre a b : Nat) (diff_Least.pre a b : Nat) none := by
      rw [greedy_pre a b, scr_keeps, Int.zero_add]
    rw [hs]
    simp only [List.nil_append, Int.natCast_zero, Int.add_zero] at he
    rw [he] at hg
    have := Ev.bind hT (f := fun _ t => diff_Least.go (a.drop (diff_Least.pre a b)) (b.drop (diff_Least.pre a b)) t (diff_Least.pre a b : Nat) ((a.drop (diff_Least.pre a b)).length + (b.drop (diff_Least.pre a b)).length + 1) 0 0 false []) (Ev.some_ fun k => hg)
    refine Ev.congr (fun k => ?_) this
    unfold diff_Least.f
    rw [if_neg c]
end Go.Proofs.Ytikepmdhnbnohaa.Pl
