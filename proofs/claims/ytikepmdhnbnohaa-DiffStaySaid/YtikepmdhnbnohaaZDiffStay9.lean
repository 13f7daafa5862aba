-- put together by bundle.py, a program of this session, out of the texts named below
import Derived.Test.YtikepmdhnbnohaaZDiffStay2
import Derived.Test.YtikepmdhnbnohaaZDiffStay3
import Derived.Test.YtikepmdhnbnohaaZDiffStay4
import Derived.Test.YtikepmdhnbnohaaZDiffStay5
import Derived.Test.YtikepmdhnbnohaaZDiffStay6
import Derived.Test.YtikepmdhnbnohaaZDiffStay7
import Derived.Test.YtikepmdhnbnohaaZDiffStay8
import Derived.Test.YtikepmdhnbnohaaRows
import Derived.WalkKit
import Derived.ProofKit
import Derived.OpenShut
import Derived.ShutString
import Derived.ChangeOld
import Derived.Below
import Derived.SizedLaws
import Derived.Carry
-- text YtikepmdhnbnohaaPlLeast
section
/- What diff.Least answers: the script of the greedy alignment (lists of at most 4096 lines), and one edit or none beyond. Conditions: lists shorter than 2^62. -/
namespace Go.Proofs.Ytikepmdhnbnohaa.Pl
open Go.RowKit Go.Proofs.YtikepmdhnbnohaaW.PrintWords Go.Proofs.Ytikepmdhnbnohaa.P
set_option linter.unusedSimpArgs false
set_option linter.unusedVariables false
theorem equal_loop (a b : List ByteArray) (hl : a.length = b.length) (hb : a.length < 4611686018427387904) : ∀ (d i : Nat), i + d = a.length →
    Ev (fun k => slices_Equal_string_string.l0 k a b (a.length : Int) (i : Int)) (decide (a.drop i = b.drop i)) := by
  intro d
  induction d with
  | zero =>
    intro i hi
    refine Ev.end_ fun k => ?_
    rw [slices_Equal_string_string.l0, if_neg (by omega), List.drop_eq_nil_of_le (show a.length ≤ i by omega), List.drop_eq_nil_of_le (show b.length ≤ i by omega)]
    simp
  | succ d ih =>
    intro i hi
    by_cases e : a[i]'(by omega) = b[i]'(by omega)
    · have hd : (a.drop i = b.drop i) ↔ (a.drop (i + 1) = b.drop (i + 1)) := by
        rw [drop_cons a i (by omega), drop_cons b i (by omega), e]
        exact ⟨fun h => (List.cons.inj h).2, fun h => by rw [h]⟩
      rw [decide_eq_decide.2 hd]
      refine Ev.step (fun k => ?_) (ih (i + 1) (by omega))
      rw [slices_Equal_string_string.l0, if_pos (by omega), if_pos (by omega), if_pos (by omega), if_pos (by omega), rdB_at a i (by omega), rdB_at b i (by omega), if_pos (by rw [e]), w64 (by omega) (by omega)]
      rfl
    · have hd : ¬ a.drop i = b.drop i := by
        rw [drop_cons a i (by omega), drop_cons b i (by omega)]
        exact fun h => e (List.cons.inj h).1
      rw [decide_eq_false hd]
      refine Ev.end_ fun k => ?_
      rw [slices_Equal_string_string.l0, if_pos (by omega), if_pos (by omega), if_pos (by omega), if_pos (by omega), rdB_at a i (by omega), rdB_at b i (by omega), if_neg (by rw [tl_inj]; exact e)]
theorem equal_ev (a b : List ByteArray) (hb : a.length < 4611686018427387904) : Ev (fun k => slices_Equal_string_string.f k a b) (decide (a = b)) := by
  by_cases hl : a.length = b.length
  · have := equal_loop a b hl hb a.length 0 (by omega)
    refine Ev.congr (fun k => ?_) this
    unfold slices_Equal_string_string.f
    rw [if_pos (by omega)]
    rfl
  · refine ⟨0, fun k _ => ?_⟩
    show slices_Equal_string_string.f k a b = _
    unfold slices_Equal_string_string.f
    rw [if_neg (by omega), decide_eq_false (fun e => hl (by rw [e]))]
theorem last_snoc (out : List Ed) (e : Ed) : diff_Least.last (out ++ [e]) = e := by simp [diff_Least.last, List.getD_eq_getElem?_getD]
theorem del_snoc (out : List Ed) (e : Ed) : diff_Least.del (out ++ [e]) = out ++ [⟨e.f0, wrap64 (e.f1 + 1), e.f2, e.f3⟩] := by
  unfold diff_Least.del
  rw [last_snoc]
  simp
theorem ins_snoc (out : List Ed) (e : Ed) : diff_Least.ins (out ++ [e]) = out ++ [⟨e.f0, e.f1, e.f2, wrap64 (e.f3 + 1)⟩] := by
  unfold diff_Least.ins
  rw [last_snoc]
  simp
theorem edits_scr (h : Int) : ∀ (o : List Op) (i j : Nat), (∀ out, edits h o i j false out = out ++ scr o (h + i) (h + j) none ∨ 1000000 < o.length) ∧
    (∀ (out : List Ed) (e : Ed), 0 ≤ e.f1 → 0 ≤ e.f3 → e.f1 + o.length ≤ 2000000 → e.f3 + o.length ≤ 2000000 → edits h o i j true (out ++ [e]) = out ++ scr o (h + i) (h + j) (some e) ∨ 1000000 < o.length) := by
  intro o
  induction o with
  | nil => intro i j; exact ⟨fun out => .inl (by simp [edits, scr]), fun out e _ _ _ _ => .inl (by simp [edits, scr])⟩
  | cons q o ih =>
    intro i j
    by_cases hbig : 1000000 < (q :: o).length
    · exact ⟨fun _ => .inr hbig, fun _ _ _ _ _ _ => .inr hbig⟩
    have hlen : o.length < 1000000 := by simp only [List.length_cons] at hbig; omega
    have i1 : h + ((i + 1 : Nat) : Int) = h + i + 1 := by omega
    have j1 : h + ((j + 1 : Nat) : Int) = h + j + 1 := by omega
    cases q with
    | K =>
      have z := (ih (i + 1) (j + 1)).1
      rw [i1, j1] at z
      refine ⟨fun out => .inl ?_, fun out e _ _ _ _ => .inl ?_⟩
      · rw [edits, scr, (z out).resolve_right (by omega)]
        rfl
      · rw [edits, scr, (z (out ++ [e])).resolve_right (by omega), List.append_assoc]
        rfl
    | D =>
      have z := (ih (i + 1) j).2
      rw [i1] at z
      refine ⟨fun out => .inl ?_, fun out e h1 h3 h5 h6 => .inl ?_⟩
      · rw [edits, scr]
        have : diff_Least.open_ h i j false out = out ++ [⟨h + i, 0, h + j, 0⟩] := by unfold diff_Least.open_; rw [if_neg (by decide)]
        rw [this, del_snoc]
        dsimp only
        rw [w64 (n := 0 + 1) (by omega) (by omega), Int.zero_add]
        have zz := z out ⟨h + i, 1, h + j, 0⟩ (by dsimp only; omega) (by dsimp only; omega) (by dsimp only; omega) (by dsimp only; omega)
        exact zz.resolve_right (by omega)
      · rw [edits, scr]
        have : diff_Least.open_ h i j true (out ++ [e]) = out ++ [e] := by unfold diff_Least.open_; rw [if_pos rfl]
        simp only [List.length_cons] at h5 h6
        rw [this, del_snoc, w64 (by omega) (by omega)]
        have zz := z out ⟨e.f0, e.f1 + 1, e.f2, e.f3⟩ (by dsimp only; omega) (by dsimp only; omega) (by dsimp only; omega) (by dsimp only; omega)
        exact zz.resolve_right (by omega)
    | I =>
      have z := (ih i (j + 1)).2
      rw [j1] at z
      refine ⟨fun out => .inl ?_, fun out e h1 h3 h5 h6 => .inl ?_⟩
      · rw [edits, scr]
        have : diff_Least.open_ h i j false out = out ++ [⟨h + i, 0, h + j, 0⟩] := by unfold diff_Least.open_; rw [if_neg (by decide)]
        rw [this, ins_snoc]
        dsimp only
        rw [w64 (n := 0 + 1) (by omega) (by omega), Int.zero_add]
        have zz := z out ⟨h + i, 0, h + j, 1⟩ (by dsimp only; omega) (by dsimp only; omega) (by dsimp only; omega) (by dsimp only; omega)
        exact zz.resolve_right (by omega)
      · rw [edits, scr]
        have : diff_Least.open_ h i j true (out ++ [e]) = out ++ [e] := by unfold diff_Least.open_; rw [if_pos rfl]
        simp only [List.length_cons] at h5 h6
        rw [this, ins_snoc, w64 (by omega) (by omega)]
        have zz := z out ⟨e.f0, e.f1, e.f2, e.f3 + 1⟩ (by dsimp only; omega) (by dsimp only; omega) (by dsimp only; omega) (by dsimp only; omega)
        exact zz.resolve_right (by omega)
theorem scr_keeps (p : Nat) (o : List Op) : ∀ (i j : Int), scr (List.replicate p Op.K ++ o) i j none = scr o (i + p) (j + p) none := by
  induction p with
  | zero => intro i j; simp
  | succ p ih =>
    intro i j
    rw [List.replicate_succ, List.cons_append, scr, ih]
    simp only [Option.toList_none, List.nil_append]
    congr 1 <;> omega
theorem greedy_pre : ∀ (a b : List ByteArray), greedy a b = List.replicate (diff_Least.pre a b) Op.K ++ greedy (a.drop (diff_Least.pre a b)) (b.drop (diff_Least.pre a b))
  | [], b => by rw [diff_Least.pre]; rfl; intro _ _ _ _ h; cases h
  | x :: a, [] => by rw [diff_Least.pre]; rfl; intro _ _ _ _ _ h; cases h
  | x :: a, y :: b => by
    rw [diff_Least.pre]
    by_cases e : x = y
    · rw [if_pos (by rw [e]), greedy, if_pos e, List.replicate_succ, List.cons_append, List.drop_succ_cons, List.drop_succ_cons, ← greedy_pre a b]
    · rw [if_neg (by rw [tl_inj]; exact e)]
      rfl
theorem greedy_len (a b : List ByteArray) : (greedy a b).length ≤ a.length + b.length := by
  have h := (greedy_is a b).lens
  have : (greedy a b).length = kept (greedy a b) + paid (greedy a b) := by
    unfold kept paid
    have := List.length_eq_countP_add_countP (fun q => q == Op.K) (l := greedy a b)
    rw [this]
    congr 1
    apply List.countP_congr
    intro q _
    cases q <;> simp
  omega
def leastEd (a b : List ByteArray) : List Ed := if 4096 < a.length ∨ 4096 < b.length then (if a = b then [] else [⟨0, a.length, 0, b.length⟩]) else scr (greedy a b) 0 0 none
theorem pre_le : ∀ (a b : List ByteArray), diff_Least.pre a b ≤ a.length ∧ diff_Least.pre a b ≤ b.length
  | [], b => by rw [diff_Least.pre]; simp; intro _ _ _ _ h; cases h
  | x :: a, [] => by rw [diff_Least.pre]; simp; intro _ _ _ _ _ h; cases h
  | x :: a, y :: b => by
    rw [diff_Least.pre]
    have := pre_le a b
    simp only [List.length_cons]
    split <;> omega
theorem least_ev (a b : List ByteArray) (ha : a.length < 4611686018427387904) : Ev (fun k => diff_Least.f k a b) (leastEd a b) := by
  unfold leastEd
  by_cases c : 4096 < a.length ∨ 4096 < b.length
  · rw [if_pos c]
    have := Ev.bind (equal_ev a b ha) (f := fun _ e => some (if e = true then [] else [(⟨0, (a.length : Int), 0, (b.length : Int)⟩ : Ed)])) (r := if a = b then [] else [⟨0, a.length, 0, b.length⟩]) (Ev.some_ fun k => by
      by_cases e : a = b
      · rw [decide_eq_true e, if_pos rfl, if_pos e]
      · rw [decide_eq_false e, if_neg e]; rfl)
    refine Ev.congr (fun k => ?_) this
    unfold diff_Least.f
    rw [if_pos c]
  · rw [if_neg c]
    have hp := pre_le a b
    obtain ⟨T, hT, hTab⟩ := table_ev (a.drop (diff_Least.pre a b)) (b.drop (diff_Least.pre a b)) (by rw [List.length_drop]; omega) (by rw [List.length_drop]; omega)
    have hg := go_is _ _ T hTab (diff_Least.pre a b : Nat) ((a.drop (diff_Least.pre a b)).length + (b.drop (diff_Least.pre a b)).length + 1) 0 0 false [] (by omega) (by omega) (by omega)
    rw [List.drop_zero, List.drop_zero] at hg
    have hl := greedy_len (a.drop (diff_Least.pre a b)) (b.drop (diff_Least.pre a b))
    rw [List.length_drop, List.length_drop] at hl
    have he := ((edits_scr (diff_Least.pre a b : Nat) (greedy (a.drop (diff_Least.pre a b)) (b.drop (diff_Least.pre a b))) 0 0).1 []).resolve_right (by omega)
    have hs : scr (greedy a b) 0 0 none = scr (greedy (a.drop (diff_Least.pre a b)) (b.drop (diff_Least.pre a b))) (diff_Least.pre a b : Nat) (diff_Least.pre a b : Nat) none := by
      rw [greedy_pre a b, scr_keeps, Int.zero_add]
    rw [hs]
    simp only [List.nil_append, Int.natCast_zero, Int.add_zero] at he
    rw [he] at hg
    have := Ev.bind hT (f := fun _ t => diff_Least.go (a.drop (diff_Least.pre a b)) (b.drop (diff_Least.pre a b)) t (diff_Least.pre a b : Nat) ((a.drop (diff_Least.pre a b)).length + (b.drop (diff_Least.pre a b)).length + 1) 0 0 false []) (Ev.some_ fun k => hg)
    refine Ev.congr (fun k => ?_) this
    unfold diff_Least.f
    rw [if_neg c]
end Go.Proofs.Ytikepmdhnbnohaa.Pl
end
-- text YtikepmdhnbnohaaPlLives8
section
/- The document's examples hold; what Cost answers; that 'short' answers. Conditions: none. -/
namespace Go.Proofs.Ytikepmdhnbnohaa.Pl
open Go.RowKit Go.Proofs.YtikepmdhnbnohaaW.PrintWords Go.Proofs.Ytikepmdhnbnohaa.P
set_option linter.unusedSimpArgs false
set_option linter.unusedVariables false
theorem wrap_l (x y : Int) : wrap64 (wrap64 x + y) = wrap64 (x + y) := by unfold wrap64; omega
theorem wrap_r (x y : Int) : wrap64 (x + wrap64 y) = wrap64 (x + y) := by unfold wrap64; omega
theorem rdE_at (l : List Ed) (i : Nat) (h : i < l.length) : rd_T44 l (i : Int) = l[i] := by
  unfold rd_T44
  rw [Int.toNat_natCast, List.getD_eq_getElem?_getD, List.getElem?_eq_getElem h]
  rfl
theorem cost_loop (l : List Ed) (hl : l.length < 4611686018427387904) : ∀ (d i : Nat) (c : Int), i + d = l.length → Ev (fun k => diff_Cost.l0 k (wrap64 c) l (l.length : Int) (i : Int)) (wrap64 (c + cost (l.drop i))) := by
  intro d
  induction d with
  | zero =>
    intro i c hi
    refine Ev.end_ fun k => ?_
    rw [diff_Cost.l0, if_neg (by omega), List.drop_eq_nil_of_le (show l.length ≤ i by omega), cost_nil, Int.add_zero]
  | succ d ih =>
    intro i c hi
    have hil : i < l.length := by omega
    rw [drop_cons l i hil, cost_cons, show c + (l[i].f1 + l[i].f3 + cost (l.drop (i + 1))) = c + (l[i].f1 + l[i].f3) + cost (l.drop (i + 1)) by omega]
    refine Ev.step (fun k => ?_) (ih (i + 1) (c + (l[i].f1 + l[i].f3)) (by omega))
    rw [diff_Cost.l0, if_pos (by omega), if_pos (by omega), if_pos (by omega), rdE_at l i hil, wrap_l, wrap_r, w64 (n := (i : Int) + 1) (by omega) (by omega)]
    rfl
theorem cost_ev (l : List Ed) (hl : l.length < 4611686018427387904) : Ev (fun k => diff_Cost.f k l) (wrap64 (cost l)) := by
  have := cost_loop l hl l.length 0 0 (by omega)
  rw [List.drop_zero, Int.zero_add, w64 (n := 0) (by omega) (by omega)] at this
  exact this
theorem short_loop (l : List ByteArray) (a1 a2 : Int) (hl : l.length < 4611686018427387904) : ∀ (d i : Nat) (c : Int), i + d = l.length → ∃ r, Ev (fun k => graftageref05_Short.l0 k l a1 a2 c (l.length : Int) (i : Int)) r ∧ (r = true → (l.length : Int) ≤ a1) := by
  intro d
  induction d with
  | zero =>
    intro i c hi
    refine ⟨decide ((l.length : Int) ≤ a1), Ev.end_ fun k => ?_, fun h => of_decide_eq_true h⟩
    rw [graftageref05_Short.l0, if_neg (by omega)]
  | succ d ih =>
    intro i c hi
    by_cases hc : wrap64 (c + ((rdOf ByteArray.empty l (i : Int)).size : Int)) > a2
    · refine ⟨false, Ev.end_ fun k => ?_, by simp⟩
      rw [graftageref05_Short.l0, if_pos (by omega), if_pos (by omega), if_pos (by omega), if_pos hc]
    · obtain ⟨r, hr, hh⟩ := ih (i + 1) (wrap64 (c + ((rdOf ByteArray.empty l (i : Int)).size : Int))) (by omega)
      refine ⟨r, Ev.step (fun k => ?_) hr, hh⟩
      rw [graftageref05_Short.l0, if_pos (by omega), if_pos (by omega), if_pos (by omega), if_neg hc, w64 (n := (i : Int) + 1) (by omega) (by omega)]
      rfl
/-- 'short' answers; if it says yes there are at most 60 lines. -/
theorem short_ev (l : List ByteArray) (hl : l.length < 4611686018427387904) : ∃ r, Ev (fun k => graftagelaw08_short.f k l) r ∧ (r = true → l.length ≤ 60) := by
  obtain ⟨r, hr, hh⟩ := short_loop l 60 3000 hl l.length 0 0 (by omega)
  refine ⟨r, ?_, fun h => by have := hh h; omega⟩
  have := Ev.bind (f := fun _ t => some t) hr (Ev.now r)
  exact this
theorem least_one : leastEd [(⟨#[97]⟩ : ByteArray), ⟨#[98]⟩, ⟨#[99]⟩] [⟨#[98]⟩, ⟨#[100]⟩] = [⟨0, 1, 0, 0⟩, ⟨2, 1, 1, 1⟩] := by
  unfold leastEd
  rw [if_neg (by decide)]
  simp [greedy, lcs, scr]
theorem least_two : leastEd [(⟨#[97]⟩ : ByteArray)] [⟨#[98]⟩] = [⟨0, 1, 0, 1⟩] := by
  unfold leastEd
  rw [if_neg (by decide)]
  simp [greedy, lcs, scr]
theorem lives_ev : Ev (fun k => graftagelaw08_lives.f k) true := by
  unfold graftagelaw08_lives.f
  refine Ev.bind (least_ev _ _ (by decide)) ?_
  refine Ev.bind (least_ev _ _ (by decide)) ?_
  rw [least_one, least_two]
  have hc := cost_ev [⟨0, 1, 0, 0⟩, ⟨2, 1, 1, 1⟩] (by decide)
  have := Ev.bind (f := fun _ t => some (t == 3)) hc (r := true) (Ev.some_ fun k => by simp [cost, wrap64])
  refine Ev.congr (fun k => ?_) this
  simp [rd_T44]
end Go.Proofs.Ytikepmdhnbnohaa.Pl
end
-- text YtikepmdhnbnohaaPlValid8
section
/- diff.Valid answers whether a script is valid ('Scr'). Conditions: lists shorter than 2^40, whole numbers of their kind. -/
namespace Go.Proofs.Ytikepmdhnbnohaa.Pl
open Go.RowKit Go.Proofs.YtikepmdhnbnohaaW.PrintWords Go.Proofs.Ytikepmdhnbnohaa.P
set_option linter.unusedSimpArgs false
set_option linter.unusedVariables false
/-- An edit lies within n and m lines. -/
def Lies (e : Ed) (n m : Int) : Prop := 0 ≤ e.f0 ∧ 0 ≤ e.f2 ∧ 0 ≤ e.f1 ∧ 0 ≤ e.f3 ∧ e.f0 + e.f1 ≤ n ∧ e.f2 + e.f3 ≤ m
def EdI (e : Ed) : Prop := (-9223372036854775808 ≤ e.f0 ∧ e.f0 ≤ 9223372036854775807) ∧ (-9223372036854775808 ≤ e.f1 ∧ e.f1 ≤ 9223372036854775807) ∧ (-9223372036854775808 ≤ e.f2 ∧ e.f2 ≤ 9223372036854775807) ∧ (-9223372036854775808 ≤ e.f3 ∧ e.f3 ≤ 9223372036854775807)
theorem lies_is (e : Ed) (he : EdI e) (n m : Int) (hn0 : 0 ≤ n) (hn : n ≤ 4611686018427387904) (hm0 : 0 ≤ m) (hm : m ≤ 4611686018427387904) : ∃ r, diff_lies.f e.f0 e.f1 e.f2 e.f3 n m = some r ∧ (r = true ↔ Lies e n m) := by
  obtain ⟨h0, h1, h2, h3⟩ := he
  unfold diff_lies.f Lies
  by_cases c0 : e.f0 ≥ 0
  · rw [if_pos c0]
    by_cases c2 : e.f2 ≥ 0
    · rw [if_pos c2]
      by_cases c1 : e.f1 ≥ 0
      · rw [if_pos c1]
        by_cases c3 : e.f3 ≥ 0
        · rw [if_pos c3]
          by_cases c4 : e.f0 ≤ n
          · rw [if_pos c4, w64 (n := n - e.f0) (by omega) (by omega)]
            by_cases c5 : e.f1 ≤ n - e.f0
            · rw [if_pos c5]
              by_cases c6 : e.f2 ≤ m
              · rw [if_pos c6, w64 (n := m - e.f2) (by omega) (by omega)]
                exact ⟨_, rfl, by rw [decide_eq_true_iff]; omega⟩
              · rw [if_neg c6]; exact ⟨_, rfl, by simp; omega⟩
            · rw [if_neg c5]; exact ⟨_, rfl, by simp; omega⟩
          · rw [if_neg c4]; exact ⟨_, rfl, by simp; omega⟩
        · rw [if_neg c3]; exact ⟨_, rfl, by simp; omega⟩
      · rw [if_neg c1]; exact ⟨_, rfl, by simp; omega⟩
    · rw [if_neg c2]; exact ⟨_, rfl, by simp; omega⟩
  · rw [if_neg c0]; exact ⟨_, rfl, by simp; omega⟩
/-- A valid script, edit by edit, told of the whole lists and two places. -/
theorem Scr.cons_iff {α : Type} (f : Bool) (a b : List α) (i j : Nat) (hi : i ≤ a.length) (hj : j ≤ b.length) (e : Ed) (l : List Ed) :
    Scr f (i : Int) (j : Int) (a.drop i) (b.drop j) (e :: l) ↔ Lies e a.length b.length ∧ ¬ (e.f1 = 0 ∧ e.f3 = 0) ∧ (i : Int) ≤ e.f0 ∧ (j : Int) ≤ e.f2 ∧ (f = true ∨ e.f0 ≠ i) ∧ (a.take e.f0.toNat).drop i = (b.take e.f2.toNat).drop j ∧
      Scr false (e.f0 + e.f1) (e.f2 + e.f3) (a.drop (e.f0 + e.f1).toNat) (b.drop (e.f2 + e.f3).toNat) l := by
  constructor
  · intro h
    generalize ha : a.drop i = A at h
    generalize hb : b.drop j = B at h
    cases h with
    | edit _ _ _ c d e' a' b' _ h1 h2 h =>
      have la : a.length = i + (c.length + (d.length + a'.length)) := by
        have := congrArg List.length ha
        rw [List.length_drop] at this
        simp only [List.length_append] at this
        omega
      have lb : b.length = j + (c.length + (e'.length + b'.length)) := by
        have := congrArg List.length hb
        rw [List.length_drop] at this
        simp only [List.length_append] at this
        omega
      have ea : a = a.take i ++ (c ++ (d ++ a')) := by rw [← ha, List.take_append_drop]
      have eb : b = b.take j ++ (c ++ (e' ++ b')) := by rw [← hb, List.take_append_drop]
      have ta : (a.take i).length = i := by rw [List.length_take]; omega
      have tb : (b.take j).length = j := by rw [List.length_take]; omega
      dsimp only
      refine ⟨⟨?_, ?_, ?_, ?_, ?_, ?_⟩, ?_, ?_, ?_, ?_, ?_, ?_⟩
      · dsimp only; omega
      · dsimp only; omega
      · dsimp only; omega
      · dsimp only; omega
      · dsimp only; omega
      · dsimp only; omega
      · rintro ⟨z1, z2⟩
        rcases h2 with h2 | h2
        · exact h2 (List.eq_nil_of_length_eq_zero (by omega))
        · exact h2 (List.eq_nil_of_length_eq_zero (by omega))
      · omega
      · omega
      · rcases h1 with h1 | h1
        · exact .inl h1
        · refine .inr fun z => h1 (List.eq_nil_of_length_eq_zero (by omega))
      · have n1 : ((i : Int) + c.length).toNat = i + c.length := by omega
        have n2 : ((j : Int) + c.length).toNat = j + c.length := by omega
        rw [n1, n2]
        have x1 : (a.take (i + c.length)).drop i = c := by
          rw [List.drop_take, ha, Nat.add_sub_cancel_left, List.take_left]
        have x2 : (b.take (j + c.length)).drop j = c := by
          rw [List.drop_take, hb, Nat.add_sub_cancel_left, List.take_left]
        rw [x1, x2]
      · have n1 : ((i : Int) + c.length + d.length).toNat = i + (c.length + d.length) := by omega
        have n2 : ((j : Int) + c.length + e'.length).toNat = j + (c.length + e'.length) := by omega
        rw [n1, n2, show a.drop (i + (c.length + d.length)) = a' from by rw [← List.drop_drop, ha, ← List.append_assoc, List.drop_left' (by simp)], show b.drop (j + (c.length + e'.length)) = b' from by rw [← List.drop_drop, hb, ← List.append_assoc, List.drop_left' (by simp)]]
        exact h
  · rintro ⟨⟨g0, g2, g1, g3, g4, g5⟩, hne, hi2, hj2, hf, hc, h⟩
    have n0 : (e.f0.toNat : Int) = e.f0 := by omega
    have n2 : (e.f2.toNat : Int) = e.f2 := by omega
    have lc1 : ((a.take e.f0.toNat).drop i).length = e.f0.toNat - i := by rw [List.length_drop, List.length_take]; omega
    have lc2 : ((b.take e.f2.toNat).drop j).length = e.f2.toNat - j := by rw [List.length_drop, List.length_take]; omega
    have ld1 : ((a.drop e.f0.toNat).take e.f1.toNat).length = e.f1.toNat := by rw [List.length_take, List.length_drop]; omega
    have ld2 : ((b.drop e.f2.toNat).take e.f3.toNat).length = e.f3.toNat := by rw [List.length_take, List.length_drop]; omega
    have lcc : e.f0.toNat - i = e.f2.toNat - j := by rw [← lc1, hc, lc2]
    have sa : a.drop i = (a.take e.f0.toNat).drop i ++ ((a.drop e.f0.toNat).take e.f1.toNat ++ a.drop (e.f0 + e.f1).toNat) := by
      have z : (e.f0 + e.f1).toNat = e.f0.toNat + e.f1.toNat := by omega
      rw [z, ← List.drop_drop, List.take_append_drop, List.drop_take]
      have z2 : e.f0.toNat = i + (e.f0.toNat - i) := by omega
      have : a.drop e.f0.toNat = (a.drop i).drop (e.f0.toNat - i) := by rw [List.drop_drop, ← z2]
      rw [this, List.take_append_drop]
    have sb : b.drop j = (b.take e.f2.toNat).drop j ++ ((b.drop e.f2.toNat).take e.f3.toNat ++ b.drop (e.f2 + e.f3).toNat) := by
      have z : (e.f2 + e.f3).toNat = e.f2.toNat + e.f3.toNat := by omega
      rw [z, ← List.drop_drop, List.take_append_drop, List.drop_take]
      have z2 : e.f2.toNat = j + (e.f2.toNat - j) := by omega
      have : b.drop e.f2.toNat = (b.drop j).drop (e.f2.toNat - j) := by rw [List.drop_drop, ← z2]
      rw [this, List.take_append_drop]
    rw [sa, sb, ← hc]
    have key := Scr.edit f (i : Int) (j : Int) ((a.take e.f0.toNat).drop i) ((a.drop e.f0.toNat).take e.f1.toNat) ((b.drop e.f2.toNat).take e.f3.toNat) (a.drop (e.f0 + e.f1).toNat) (b.drop (e.f2 + e.f3).toNat) l ?_ ?_ ?_
    · have ee : (⟨(i : Int) + ((a.take e.f0.toNat).drop i).length, ((a.drop e.f0.toNat).take e.f1.toNat).length, (j : Int) + ((a.take e.f0.toNat).drop i).length, ((b.drop e.f2.toNat).take e.f3.toNat).length⟩ : Ed) = e := by
        rw [lc1, ld1, ld2]
        cases e
        congr 1 <;> (dsimp only at *; omega)
      rw [ee] at key
      exact key
    · rcases hf with hf | hf
      · exact .inl hf
      · refine .inr fun z => hf ?_
        rw [z] at lc1
        simp at lc1
        omega
    · by_cases c1 : e.f1 = 0
      · refine .inr fun z => hne ⟨c1, ?_⟩
        rw [z] at ld2
        simp at ld2
        omega
      · refine .inl fun z => c1 ?_
        rw [z] at ld1
        simp at ld1
        omega
    · rw [lc1, ld1, ld2]
      rw [show (i : Int) + ((e.f0.toNat - i : Nat) : Int) + (e.f1.toNat : Int) = e.f0 + e.f1 by omega, show (j : Int) + ((e.f0.toNat - i : Nat) : Int) + (e.f3.toNat : Int) = e.f2 + e.f3 by omega]
      exact h
theorem Scr.nil_iff {α : Type} (f : Bool) (i j : Int) (a b : List α) : Scr f i j a b [] ↔ a = b := by
  constructor
  · intro h
    cases h
    rfl
  · rintro rfl
    exact Scr.nil f i j a
/-- diff.Valid's loop. -/
theorem valid_loop (a b : List ByteArray) (l : List Ed) (ha : a.length < 1099511627776) (hb : b.length < 1099511627776) (hl : l.length < 1099511627776) (hg : ∀ e ∈ l, EdI e) : ∀ (d i x y : Nat), i + d = l.length → x ≤ a.length → y ≤ b.length →
    ∃ r, Ev (fun k => diff_Valid.l0 k a b (x : Int) (y : Int) l (l.length : Int) (i : Int)) r ∧ (r = true ↔ Scr (decide (i = 0)) (x : Int) (y : Int) (a.drop x) (b.drop y) (l.drop i)) := by
  intro d
  induction d with
  | zero =>
    intro i x y hi hx hy
    refine ⟨decide (a.drop x = b.drop y), ?_, ?_⟩
    · have e := Ev.bind (f := fun _ t => some t) (equal_ev (a.drop x) (b.drop y) (by rw [List.length_drop]; omega)) (Ev.now _)
      refine Ev.step (fun k => ?_) e
      rw [diff_Valid.l0, if_neg (by omega), if_pos (by omega), if_pos (by omega), if_pos (by omega), if_pos (by omega), Int.toNat_natCast, Int.toNat_natCast]
    · rw [List.drop_eq_nil_of_le (show l.length ≤ i by omega), Scr.nil_iff, decide_eq_true_iff]
  | succ d ih =>
    intro i x y hi hx hy
    have hil : i < l.length := by omega
    obtain ⟨e, hee⟩ : ∃ e, e = l[i] := ⟨_, rfl⟩
    have he : EdI e := by rw [hee]; exact hg _ (List.getElem_mem hil)
    have hre : rd_T44 l (i : Int) = e := by rw [rdE_at l i hil, hee]
    rw [drop_cons l i hil, ← hee, Scr.cons_iff _ a b x y hx hy]
    obtain ⟨r, hr, hri⟩ := lies_is e he a.length b.length (by omega) (by omega) (by omega) (by omega)
    have bad : ∃ q, (∀ k, diff_Valid.l0 (k + 1) a b (x : Int) (y : Int) l (l.length : Int) (i : Int) = diff_Valid.j1 k a b (x : Int) (y : Int) l (l.length : Int) (i : Int) q e.f0 e.f1 e.f2 e.f3) ∧
        (q = true ↔ ¬ (Lies e a.length b.length ∧ ¬ (e.f1 = 0 ∧ e.f3 = 0) ∧ (x : Int) ≤ e.f0 ∧ (y : Int) ≤ e.f2 ∧ (decide (i = 0) = true ∨ e.f0 ≠ x))) := by
      have hstep : ∀ k, diff_Valid.l0 (k + 1) a b (x : Int) (y : Int) l (l.length : Int) (i : Int) = _ := fun k => by
        rw [diff_Valid.l0, if_pos (by omega), if_pos (by omega), if_pos (by omega), hre, hr, Option.bind_some]
      cases r with
      | false =>
        have : ¬ Lies e a.length b.length := fun z => by
          have := hri.2 z
          cases this
        exact ⟨true, fun k => by rw [hstep, if_neg (by simp)], by simp [this]⟩
      | true =>
        have hL : Lies e a.length b.length := hri.1 rfl
        have rest : ∃ q, (∀ k, (if e.f0 < (x : Int) then (diff_Valid.j1 k a b (x : Int) (y : Int) l (l.length : Int) (i : Int) true e.f0 e.f1 e.f2 e.f3) else (if e.f2 < (y : Int) then (diff_Valid.j1 k a b (x : Int) (y : Int) l (l.length : Int) (i : Int) true e.f0 e.f1 e.f2 e.f3) else (if (i : Int) > 0 then (diff_Valid.j1 k a b (x : Int) (y : Int) l (l.length : Int) (i : Int) (e.f0 == (x : Int)) e.f0 e.f1 e.f2 e.f3) else (diff_Valid.j1 k a b (x : Int) (y : Int) l (l.length : Int) (i : Int) false e.f0 e.f1 e.f2 e.f3)))) = diff_Valid.j1 k a b (x : Int) (y : Int) l (l.length : Int) (i : Int) q e.f0 e.f1 e.f2 e.f3) ∧
          (q = true ↔ ¬ ((x : Int) ≤ e.f0 ∧ (y : Int) ≤ e.f2 ∧ (decide (i = 0) = true ∨ e.f0 ≠ x))) := by
          by_cases c1 : e.f0 < (x : Int)
          · exact ⟨true, fun k => by rw [if_pos c1], by simp; omega⟩
          by_cases c2 : e.f2 < (y : Int)
          · exact ⟨true, fun k => by rw [if_neg c1, if_pos c2], by simp; omega⟩
          by_cases c3 : (i : Int) > 0
          · refine ⟨_, fun k => by rw [if_neg c1, if_neg c2, if_pos c3], ?_⟩
            rw [beq_iff_eq, decide_eq_true_iff]
            constructor
            · rintro z ⟨_, _, z3⟩
              rcases z3 with z3 | z3
              · omega
              · exact z3 z
            · intro z
              by_cases z4 : e.f0 = (x : Int)
              · exact z4
              · exact absurd ⟨by omega, by omega, .inr z4⟩ z
          · refine ⟨_, fun k => by rw [if_neg c1, if_neg c2, if_neg c3], ?_⟩
            have : i = 0 := by omega
            simp [this]
            omega
        obtain ⟨q, hq, hqi⟩ := rest
        by_cases c0 : e.f1 = 0 ∧ e.f3 = 0
        · exact ⟨true, fun k => by rw [hstep, if_pos rfl, if_pos c0.1, if_pos c0.2], by simp [c0]⟩
        · refine ⟨q, fun k => ?_, ?_⟩
          · rw [hstep, if_pos rfl, hq]
            by_cases c1 : e.f1 = 0
            · rw [if_pos c1, if_neg (fun z => c0 ⟨c1, z⟩)]
            · rw [if_neg c1]
          · rw [hqi]
            constructor
            · rintro z ⟨_, _, z1, z2, z3⟩
              exact z ⟨z1, z2, z3⟩
            · rintro z ⟨z1, z2, z3⟩
              exact z ⟨hL, c0, z1, z2, z3⟩
    obtain ⟨q, hq, hqi⟩ := bad
    cases q with
    | true =>
      refine ⟨false, Ev.step (fun k => hq k) (Ev.end_ fun k => by rw [diff_Valid.j1, if_pos rfl]), ?_⟩
      have := hqi.1 rfl
      constructor
      · intro z
        cases z
      · rintro ⟨z1, z2, z3, z4, z5, _⟩
        exact absurd ⟨z1, z2, z3, z4, z5⟩ this
    | false =>
      have good : Lies e a.length b.length ∧ ¬ (e.f1 = 0 ∧ e.f3 = 0) ∧ (x : Int) ≤ e.f0 ∧ (y : Int) ≤ e.f2 ∧ (decide (i = 0) = true ∨ e.f0 ≠ x) := by
        refine Classical.byContradiction fun z => ?_
        have := hqi.2 z
        cases this
      obtain ⟨g1, g2, g3, g4, g5⟩ := good
      obtain ⟨L1, L2, L3, L4, L5, L6⟩ := id g1
      have e1 : (e.f0 + e.f1) = (((e.f0 + e.f1).toNat : Nat) : Int) := by omega
      have e2 : (e.f2 + e.f3) = (((e.f2 + e.f3).toNat : Nat) : Int) := by omega
      obtain ⟨r', hr', hri'⟩ := ih (i + 1) (e.f0 + e.f1).toNat (e.f2 + e.f3).toNat (by omega) (by omega) (by omega)
      rw [show decide (i + 1 = 0) = false by simp, ← e1, ← e2] at hri'
      have heq := equal_ev ((a.take e.f0.toNat).drop x) ((b.take e.f2.toNat).drop y) (by rw [List.length_drop, List.length_take]; omega)
      by_cases c : (a.take e.f0.toNat).drop x = (b.take e.f2.toNat).drop y
      · rw [decide_eq_true c] at heq
        refine ⟨r', Ev.step (fun k => hq k) (Ev.step (fun k => ?_) (Ev.bind (f := fun k t => if t = true then diff_Valid.l0 k a b (((e.f0 + e.f1).toNat : Nat) : Int) (((e.f2 + e.f3).toNat : Nat) : Int) l (l.length : Int) ((i + 1 : Nat) : Int) else some false) heq (by simpa using hr'))), ?_⟩
        · rw [diff_Valid.j1, if_neg (by simp), if_pos (by omega), if_pos (by omega), if_pos (by omega), if_pos (by omega), if_pos (by omega), if_pos (by omega), w64 (n := e.f0 + e.f1) (by omega) (by omega), w64 (n := e.f2 + e.f3) (by omega) (by omega), w64 (n := (i : Int) + 1) (by omega) (by omega), Int.toNat_natCast, Int.toNat_natCast, ← e1, ← e2]
          rfl
        · rw [hri']
          exact ⟨fun z => ⟨g1, g2, g3, g4, g5, c, z⟩, fun z => z.2.2.2.2.2.2⟩
      · rw [decide_eq_false c] at heq
        refine ⟨false, Ev.step (fun k => hq k) (Ev.step (fun k => ?_) (Ev.bind (f := fun k t => if t = true then diff_Valid.l0 k a b (((e.f0 + e.f1).toNat : Nat) : Int) (((e.f2 + e.f3).toNat : Nat) : Int) l (l.length : Int) ((i + 1 : Nat) : Int) else some false) heq (by simpa using Ev.now false))), ?_⟩
        · rw [diff_Valid.j1, if_neg (by simp), if_pos (by omega), if_pos (by omega), if_pos (by omega), if_pos (by omega), if_pos (by omega), if_pos (by omega), w64 (n := e.f0 + e.f1) (by omega) (by omega), w64 (n := e.f2 + e.f3) (by omega) (by omega), w64 (n := (i : Int) + 1) (by omega) (by omega), Int.toNat_natCast, Int.toNat_natCast, ← e1, ← e2]
          rfl
        · constructor
          · intro z
            cases z
          · intro z
            exact absurd z.2.2.2.2.2.1 c
theorem valid_ev (a b : List ByteArray) (l : List Ed) (ha : a.length < 1099511627776) (hb : b.length < 1099511627776) (hl : l.length < 1099511627776) (hg : ∀ e ∈ l, EdI e) : ∃ r, Ev (fun k => diff_Valid.f k a b l) r ∧ (r = true ↔ Scr true 0 0 a b l) := by
  obtain ⟨r, hr, hi⟩ := valid_loop a b l ha hb hl hg l.length 0 0 0 (by omega) (by omega) (by omega)
  exact ⟨r, hr, hi⟩
end Go.Proofs.Ytikepmdhnbnohaa.Pl
end
-- text YtikepmdhnbnohaaPx19
section
-- written by mp.py, a program of this session, over the kit's printer
namespace Go.Proofs.Ytikepmdhnbnohaa.P
open Go.RowKit Go.Proofs.YtikepmdhnbnohaaW.PrintWords Go.Proofs.YtikepmdhnbnohaaW.PrintLast Go.Proofs.YtikepmdhnbnohaaW.PrintMore
attribute [local go_sem] max2_int min2_int max_two min_two max_three min_three max_four min_four   -- for this text's walks alone
set_option linter.unusedVariables false
set_option linter.unusedSimpArgs false

/-! ### diff_Invert: function 22 -/
end Go.Proofs.Ytikepmdhnbnohaa.P
end
-- text YtikepmdhnbnohaaPx21
section
-- written by mp.py, a program of this session, over the kit's printer
namespace Go.Proofs.Ytikepmdhnbnohaa.P
open Go.RowKit Go.Proofs.YtikepmdhnbnohaaW.PrintWords Go.Proofs.YtikepmdhnbnohaaW.PrintLast Go.Proofs.YtikepmdhnbnohaaW.PrintMore
attribute [local go_sem] max2_int min2_int max_two min_two max_three min_three max_four min_four   -- for this text's walks alone
set_option linter.unusedVariables false
set_option linter.unusedSimpArgs false

/-! ### graftageref08_Back: function 23 -/
end Go.Proofs.Ytikepmdhnbnohaa.P
end
-- text YtikepmdhnbnohaaPx1
section
-- written by mp.py, a program of this session, over the kit's printer
namespace Go.Proofs.Ytikepmdhnbnohaa.P
open Go.RowKit Go.Proofs.YtikepmdhnbnohaaW.PrintWords Go.Proofs.YtikepmdhnbnohaaW.PrintLast Go.Proofs.YtikepmdhnbnohaaW.PrintMore
attribute [local go_sem] max2_int min2_int max_two min_two max_three min_three max_four min_four   -- for this text's walks alone
set_option linter.unusedVariables false
set_option linter.unusedSimpArgs false

theorem eqA32 (d : Nat) (w : World) (x0 y0 : Int) (x1 y1 : Int) (x2 y2 : Int) :
    (Op.equalIn (d + 2) 32 (.agg #[.int .i64 x0, .int .i64 x1, .int .i64 x2]) (.agg #[.int .i64 y0, .int .i64 y1, .int .i64 y2])).run Try.prog w = .ok (x0 == y0 && (x1 == y1 && (x2 == y2))) w := by
  refine eqA_of Try.underlying32 (by kernel_rfl) ?_
  refine eqf_cons (by rfl) (by go_simp; rfl) (by go_simp; rfl) (by go_simp) ?_
  refine eqf_cons (by rfl) (by go_simp; rfl) (by go_simp; rfl) (by go_simp) ?_
  exact eqf_last (by rfl) (by go_simp; rfl) (by go_simp; rfl) (by go_simp)
end Go.Proofs.Ytikepmdhnbnohaa.P
end
-- text YtikepmdhnbnohaaPx22
section
-- written by mp.py, a program of this session, over the kit's printer
namespace Go.Proofs.Ytikepmdhnbnohaa.P
open Go.RowKit Go.Proofs.YtikepmdhnbnohaaW.PrintWords Go.Proofs.YtikepmdhnbnohaaW.PrintLast Go.Proofs.YtikepmdhnbnohaaW.PrintMore
attribute [local go_sem] max2_int min2_int max_two min_two max_three min_three max_four min_four   -- for this text's walks alone
set_option linter.unusedVariables false
set_option linter.unusedSimpArgs false

attribute [local go_sem high] eqA32
/-! ### graftageref08_Runs: function 24 -/
end Go.Proofs.Ytikepmdhnbnohaa.P
end
-- text YtikepmdhnbnohaaPx23
section
-- written by mp.py, a program of this session, over the kit's printer
namespace Go.Proofs.Ytikepmdhnbnohaa.P
open Go.RowKit Go.Proofs.YtikepmdhnbnohaaW.PrintWords Go.Proofs.YtikepmdhnbnohaaW.PrintLast Go.Proofs.YtikepmdhnbnohaaW.PrintMore
attribute [local go_sem] max2_int min2_int max_two min_two max_three min_three max_four min_four   -- for this text's walks alone
set_option linter.unusedVariables false
set_option linter.unusedSimpArgs false

/-! ### graftageref08_Stay: function 25 -/
end Go.Proofs.Ytikepmdhnbnohaa.P
end
-- text YtikepmdhnbnohaaPx25
section
-- written by mp.py, a program of this session, over the kit's printer
namespace Go.Proofs.Ytikepmdhnbnohaa.P
open Go.RowKit Go.Proofs.YtikepmdhnbnohaaW.PrintWords Go.Proofs.YtikepmdhnbnohaaW.PrintLast Go.Proofs.YtikepmdhnbnohaaW.PrintMore
attribute [local go_sem] max2_int min2_int max_two min_two max_three min_three max_four min_four   -- for this text's walks alone
set_option linter.unusedVariables false
set_option linter.unusedSimpArgs false

/-! ### graftageref08_Of: function 27 -/
end Go.Proofs.Ytikepmdhnbnohaa.P
end
-- text YtikepmdhnbnohaaPlRuns8
section
/- What Invert, Unchanged and FromRuns answer, and their references. Conditions: lists shorter than 2^40. -/
namespace Go.Proofs.Ytikepmdhnbnohaa.Pl
open Go.RowKit Go.Proofs.YtikepmdhnbnohaaW.PrintWords Go.Proofs.Ytikepmdhnbnohaa.P
set_option linter.unusedSimpArgs false
set_option linter.unusedVariables false
abbrev Rn := S32
/-- The runs that stay. -/
def stay (n : Int) : List Ed → Int → Int → List Rn
  | [], x, y => if x < n then [⟨x, y, wrap64 (n - x)⟩] else []
  | e :: l, x, y => (if x < e.f0 then [⟨x, y, wrap64 (e.f0 - x)⟩] else []) ++ stay n l (wrap64 (e.f0 + e.f1)) (wrap64 (e.f2 + e.f3))
theorem unchanged_loop (l : List Ed) (n : Int) (hl : l.length < 1099511627776) : ∀ (d i : Nat) (out : List Rn) (x y : Int), i + d = l.length → out.length ≤ i → Ev (fun k => diff_Unchanged.l0 k n out x y l (l.length : Int) (i : Int)) (out ++ stay n (l.drop i) x y) := by
  intro d
  induction d with
  | zero =>
    intro i out x y hi ho
    refine Ev.end_ fun k => ?_
    rw [diff_Unchanged.l0, if_neg (by omega), List.drop_eq_nil_of_le (show l.length ≤ i by omega), stay]
    by_cases c : x < n
    · rw [if_pos c, if_pos (by omega), if_pos c]
    · rw [if_neg c, if_neg c, List.append_nil]
  | succ d ih =>
    intro i out x y hi ho
    have hil : i < l.length := by omega
    rw [drop_cons l i hil, stay]
    by_cases c : x < l[i].f0
    · rw [if_pos c, ← List.append_assoc]
      refine Ev.step (fun k => ?_) (ih (i + 1) (out ++ [⟨x, y, wrap64 (l[i].f0 - x)⟩]) _ _ (by omega) (by simp; omega))
      rw [diff_Unchanged.l0, if_pos (by omega), if_pos (by omega), if_pos (by omega), rdE_at l i hil, if_pos c, if_pos (by omega), w64 (n := (i : Int) + 1) (by omega) (by omega)]
      rfl
    · rw [if_neg c, List.nil_append]
      refine Ev.step (fun k => ?_) (ih (i + 1) out _ _ (by omega) (by omega))
      rw [diff_Unchanged.l0, if_pos (by omega), if_pos (by omega), if_pos (by omega), rdE_at l i hil, if_neg c, w64 (n := (i : Int) + 1) (by omega) (by omega)]
      rfl
theorem unchanged_ev (l : List Ed) (n : Int) (hl : l.length < 1099511627776) : Ev (fun k => diff_Unchanged.f k l n) (stay n l 0 0) := unchanged_loop l n hl l.length 0 [] 0 0 (by omega) (by simp)
theorem edits_same (l : List Ed) (hl : l.length < 4611686018427387904) : Ev (fun k => graftageref08_Edits.f k l l) true := by
  have loop : ∀ (d i : Nat), i + d = l.length → Ev (fun k => graftageref08_Edits.l0 k l l (l.length : Int) (i : Int)) true := by
    intro d
    induction d with
    | zero => intro i hi; exact Ev.end_ fun k => by rw [graftageref08_Edits.l0, if_neg (by omega)]
    | succ d ih =>
      intro i hi
      refine Ev.step (fun k => ?_) (ih (i + 1) (by omega))
      rw [graftageref08_Edits.l0, if_pos (by omega), if_pos (by omega), if_pos (by omega), if_pos (by omega), if_neg (by simp), w64 (n := (i : Int) + 1) (by omega) (by omega)]
      rfl
  refine Ev.congr (fun k => ?_) (loop l.length 0 (by omega))
  unfold graftageref08_Edits.f
  rw [if_pos rfl]
  rfl
theorem lay_len (i j a b : Int) (out : List Ed) : (diff_FromRuns.lay i j a b out).length ≤ out.length + 1 := by
  unfold diff_FromRuns.lay
  split
  · simp
  · split <;> simp
end Go.Proofs.Ytikepmdhnbnohaa.Pl
end
-- text YtikepmdhnbnohaaPlApply8
section
/- Both Apply agree, and answer b for a valid script; a valid script is laid anew from its unchanged runs. Conditions: lists shorter than 2^40. -/
namespace Go.Proofs.Ytikepmdhnbnohaa.Pl
open Go.RowKit Go.Proofs.YtikepmdhnbnohaaW.PrintWords Go.Proofs.Ytikepmdhnbnohaa.P
set_option linter.unusedSimpArgs false
set_option linter.unusedVariables false
theorem stay_back {α : Type} (n m : Int) (hn : n < 1099511627776) (hm : m < 1099511627776) : ∀ {f : Bool} {x y : Int} {a b : List α} {l : List Ed}, Scr f x y a b l → ∀ (i j : Int) (out : List Ed), 0 ≤ i → 0 ≤ j → i ≤ x → j ≤ y → x + a.length = n → y + b.length = m → (f = true → i = x ∧ j = y) → out.length + l.length < 1099511627776 →
    diff_FromRuns.go n m (stay n l x y) i j out = some (diff_FromRuns.lay i j x y out ++ l) := by
  intro f x y a b l h
  induction h with
  | nil f x y a =>
    intro i j out hi hj hx hy hn2 hm2 hf hl
    unfold stay
    by_cases c : x < n
    · have h9 := lay_len i j x y out
      simp only [List.length_nil] at hl
      rw [if_pos c, diff_FromRuns.go]
      dsimp only
      rw [w64 (n := n - x) (by omega) (by omega), w64 (n := m - y) (by omega) (by omega), w64 (n := x + (n - x)) (by omega) (by omega), w64 (n := y + (n - x)) (by omega) (by omega), if_neg (by omega), if_neg (by omega), if_neg (by omega), if_neg (by omega), if_neg (by omega), if_neg (by omega), if_neg (by omega), if_pos (by omega), diff_FromRuns.go, if_pos (by omega), show x + (n - x) = n by omega, show y + (n - x) = m by omega, List.append_nil]
      congr 1
      conv => lhs; unfold diff_FromRuns.lay
      rw [if_neg (by omega), if_neg (by omega)]
      rfl
    · rw [if_neg c, diff_FromRuns.go, if_pos (by simp only [List.length_nil] at hl; omega), show x = n by omega, show y = m by omega, List.append_nil]
  | edit f x y c d e a b l h1 h2 h ih =>
    intro i j out hi hj hx hy hn2 hm2 hf hl
    simp only [List.length_append] at hn2 hm2
    simp only [List.length_cons] at hl
    have h9 := lay_len i j x y out
    rw [stay]
    dsimp only
    rw [w64 (n := x + c.length - x) (by omega) (by omega), w64 (n := x + (c.length : Int) + d.length) (by omega) (by omega), w64 (n := y + (c.length : Int) + e.length) (by omega) (by omega)]
    have hde : 0 < d.length ∨ 0 < e.length := by
      rcases h2 with h2 | h2
      · exact .inl (List.length_pos_iff.2 h2)
      · exact .inr (List.length_pos_iff.2 h2)
    have hlay : ∀ o, diff_FromRuns.lay (x + c.length) (y + c.length) (x + c.length + d.length) (y + c.length + e.length) o = o ++ [⟨x + c.length, d.length, y + c.length, e.length⟩] := by
      intro o
      unfold diff_FromRuns.lay
      rw [w64 (n := x + (c.length : Int) + d.length - (x + c.length)) (by omega) (by omega), w64 (n := y + (c.length : Int) + e.length - (y + c.length)) (by omega) (by omega), show x + (c.length : Int) + d.length - (x + c.length) = d.length by omega, show y + (c.length : Int) + e.length - (y + c.length) = e.length by omega]
      by_cases c1 : x + (c.length : Int) < x + c.length + d.length
      · rw [if_pos c1]
      · rw [if_neg c1, if_pos (by omega)]
    by_cases hc : 0 < c.length
    · rw [if_pos (by omega), List.cons_append, List.nil_append, diff_FromRuns.go]
      dsimp only
      rw [show x + (c.length : Int) - x = c.length by omega, w64 (n := n - x) (by omega) (by omega), w64 (n := m - y) (by omega) (by omega), w64 (n := x + (c.length : Int)) (by omega) (by omega), w64 (n := y + (c.length : Int)) (by omega) (by omega), if_neg (by omega), if_neg (by omega), if_neg (by omega), if_neg (by omega), if_neg (by omega), if_neg (by omega), if_neg (by omega), if_pos (by omega)]
      rw [ih (x + c.length) (y + c.length) _ (by omega) (by omega) (by omega) (by omega) (by omega) (by omega) (by simp) (by omega), hlay, List.append_assoc]
      rfl
    · have c0 : c = [] := List.eq_nil_of_length_eq_zero (by omega)
      subst c0
      have hfx := hf (by rcases h1 with h1 | h1; exact h1; exact absurd rfl h1)
      rw [if_neg (by simp), List.nil_append]
      have hh := ih i j out (by omega) (by omega) (by omega) (by omega) (by omega) (by omega) (by simp) (by omega)
      obtain ⟨rfl, rfl⟩ := hfx
      rw [hh]
      have h5 := hlay out
      simp only [List.length_nil, Int.natCast_zero, Int.add_zero] at h5 ⊢
      rw [h5]
      have h6 : diff_FromRuns.lay i j i j out = out := by
        unfold diff_FromRuns.lay
        rw [if_neg (by omega), if_neg (by omega)]
      rw [h6, List.append_assoc]
      rfl
def runs (l : List Rn) : Int := (l.map fun e => e.f2).foldr (· + ·) 0
theorem edits_of {l : List Ed} (h : ∀ e ∈ l, (Lit.int .i64 e.f0).wf = true ∧ (Lit.int .i64 e.f1).wf = true ∧ (Lit.int .i64 e.f2).wf = true ∧ (Lit.int .i64 e.f3).wf = true) : ∀ e ∈ l, EdI e := fun e he => by
  obtain ⟨h0, h1, h2, h3⟩ := h e he
  exact ⟨wfI h0, wfI h1, wfI h2, wfI h3⟩
end Go.Proofs.Ytikepmdhnbnohaa.Pl
end
-- text YtikepmdhnbnohaaPureDiffStay
section
/- The plain statement of the law DiffStay: a valid script is laid anew from its unchanged runs. Conditions: none beyond the statement's own. -/
namespace Go.Proofs.Ytikepmdhnbnohaa.Pure
open Go.RowKit Go.Proofs.YtikepmdhnbnohaaW.PrintWords Go.Proofs.Ytikepmdhnbnohaa.P Go.Proofs.Ytikepmdhnbnohaa.Pl
set_option linter.unusedSimpArgs false
set_option linter.unusedVariables false
theorem DiffStay : graftagelaw08_DiffStay.Pure := by
  intro l0 l1 l2 h0 h1 h2
  refine Ev.rounds ?_
  have yes : Ev (fun k => graftagelaw08_DiffStay.j0 k l0 l1 l2 true) true := by
    refine Ev.step (f := fun k => (graftagelaw08_lives.f k).bind fun t => some t) (fun k => ?_) (Ev.bind lives_ev (Ev.now _))
    rw [graftagelaw08_DiffStay.j0, if_pos rfl]
  have e1 := Ev.bind (f := fun _ (t : Bool) => some t) lives_ev (Ev.now true)
  obtain ⟨r0, hr0, hs0⟩ := short_ev l0 (by omega)
  obtain ⟨r1, hr1, hs1⟩ := short_ev l1 (by omega)
  have hg := edits_of h2.2
  unfold graftagelaw08_DiffStay.f
  refine Ev.bind hr0 ?_
  by_cases c0 : r0 = true
  case neg =>
    refine Ev.congr (fun k => ?_) yes
    rw [if_neg c0]
  refine Ev.congr (fun k => if_pos c0) ?_
  refine Ev.bind hr1 ?_
  by_cases c1 : r1 = true
  case neg =>
    refine Ev.congr (fun k => ?_) yes
    rw [if_neg c1]
  refine Ev.congr (fun k => if_pos c1) ?_
  have b0 := hs0 c0
  have b1 := hs1 c1
  by_cases c2 : (l2.length : Int) > 200
  · refine Ev.congr (fun k => ?_) yes
    rw [if_pos c2]
  refine Ev.congr (fun k => if_neg c2) ?_
  obtain ⟨rv, hv, hvi⟩ := valid_ev l0 l1 l2 (by omega) (by omega) (by omega) hg
  refine Ev.bind hv ?_
  cases rv with
  | false => exact yes
  | true =>
  have hS := hvi.1 rfl
  refine Ev.step (fun k => by rw [graftagelaw08_DiffStay.j0, if_neg (by simp)]) ?_
  refine Ev.bind (unchanged_ev l2 l0.length (by omega)) ?_
  have hb := stay_back (l0.length : Int) (l1.length : Int) (by omega) (by omega) hS 0 0 [] (by omega) (by omega) (by omega) (by omega) (by omega) (by omega) (fun _ => ⟨rfl, rfl⟩) (by simp; omega)
  have hf : diff_FromRuns.f (l0.length : Int) (l1.length : Int) (stay (l0.length : Int) l2 0 0) = some l2 := by
    unfold diff_FromRuns.f
    rw [if_neg (by omega), if_neg (by omega), hb]
    rfl
  simp only [hf, Option.bind_some]
  refine Ev.bind (edits_same l2 (by omega)) ?_
  simp only [if_true]
  exact e1
end Go.Proofs.Ytikepmdhnbnohaa.Pure
end
-- text YtikepmdhnbnohaaLawDiffStay
section
/- The law DiffStay of the given program holds: for every input that the row speaks of, the call returns true and each argument reads behind the call as it read before. Conditions: none beyond the row's own. (Written by mp.py, a program of this session, over the kit's printer.) -/
namespace Go.Proofs.Ytikepmdhnbnohaa.diffStay
open Go.ChangeShapes Go.WideShapes Go.ChangeAt Go.RowKit Go.Proofs.YtikepmdhnbnohaaW.PrintWords Go.Proofs.Ytikepmdhnbnohaa.P Go.Proofs.Ytikepmdhnbnohaa.Op
open Go.ChangeMaps (open_string shut_string)
set_option linter.unusedVariables false
theorem own : ownKnob Try.prog.godebug = none := by kernel_rfl
theorem laidOut : laidOutB Try.prog = true := by kernel_rfl
set_option maxRecDepth 100000 in
theorem lifted (P : graftagelaw08_DiffStay.Pure) (os : Os) (started : os.Started) (H : Type) (enc : TypeId × Value → H) :
    ReturnsInHanded {} Try.checked os 8 .any (Rows.diffStaySpec.pre6 enc Try.prog Try.f8 Rows.diffStayRow.domain false) (Rows.diffStaySpec.post enc Try.prog Try.f8 false true false false) := by
  refine returnsInHanded_of_change_sized (C := Try.checked) own started (by kernel_rfl) Try.func8
    (ChangeSpec.witness6 (enc := enc) (C := Try.checked) false ⟨#[], #[.slice none 0 0, .slice none 0 0, .slice none 0 0], []⟩ 8 (by kernel_rfl) (by kernel_rfl) (by kernel_rfl) (by kernel_rfl)) ?_
  intro W base args ds gs before hval0 hW hcnd hsz0 _
  have hsz : (DataW.weightsEach Try.prog (Try.f8.params.toList ++ Rows.diffStaySpec.plain.varTypes Try.prog) (ds ++ gs)).all (· ≤ reachBytes) = true := hsz0
  have hval : ∀ (j : Nat) t v, Try.f8.params[j]? = some t → args[j]? = some v → Value.okWide Try.prog W .any base t v := hval0
  have hW' := hW
  obtain ⟨p, q, hA0, hV, rfl, hfz, hnd⟩ := hW
  have hA : DataW.TrodAll enc Try.prog W 0 (fun _ => true) true Try.f8.params.toList args.toList ds p := hA0
  rw [Try.params8] at hA hval hsz
  obtain ⟨v0, vs0, d0, ds0, p0, q0, hargs, rfl, rfl, h0, r0⟩ := trodAll_cons hA
  obtain ⟨v1, vs1, d1, ds1, p1, q1, rfl, rfl, rfl, h1, r1⟩ := trodAll_cons r0
  obtain ⟨v2, vs2, d2, ds2, p2, q2, rfl, rfl, rfl, h2, r2⟩ := trodAll_cons r1
  obtain ⟨rfl, rfl, rfl⟩ := trodAll_nil r2
  obtain rfl : args = #[v0, v1, v2] := by cases args; simp_all
  obtain ⟨rfl, rfl⟩ := trodVars_none hV
  have k0 := h0
  have lt0 : ∀ x ∈ p0, x.block < W.heap.size := by obtain ⟨m, hm⟩ := k0; exact DataW.trod_lt m _ _ _ hm
  have w0 : ∀ n ∈ d0.weights Try.prog 22, n ≤ reachBytes := fun n hn => by
    have z := List.all_eq_true.1 hsz n (DataW.weights_mem_each (j := 0) (t := 22) rfl rfl n hn)
    simpa using z
  obtain ⟨fuel0, hf0⟩ := h0
  obtain ⟨aa0, len0, cap0, rfl⟩ := okWide_slice Try.underlying22 (hval 0 22 v0 rfl rfl)
  obtain ⟨l0, K0, G0⟩ := (opens_slice 16 Try.underlying22 (by kernel_rfl) (by kernel_rfl) (opens_string Try.underlying9 (by kernel_rfl) : Opens Try.prog 9 Kd.string _) : Opens Try.prog 22 (Kd.slice 9 Kd.string) _).out hf0 w0
  obtain ⟨rfl, hc0, hr0⟩ := slice_arg K0
  have k1 := h1
  have lt1 : ∀ x ∈ p1, x.block < W.heap.size := by obtain ⟨m, hm⟩ := k1; exact DataW.trod_lt m _ _ _ hm
  have w1 : ∀ n ∈ d1.weights Try.prog 22, n ≤ reachBytes := fun n hn => by
    have z := List.all_eq_true.1 hsz n (DataW.weights_mem_each (j := 1) (t := 22) rfl rfl n hn)
    simpa using z
  obtain ⟨fuel1, hf1⟩ := h1
  obtain ⟨aa1, len1, cap1, rfl⟩ := okWide_slice Try.underlying22 (hval 1 22 v1 rfl rfl)
  obtain ⟨l1, K1, G1⟩ := (opens_slice 16 Try.underlying22 (by kernel_rfl) (by kernel_rfl) (opens_string Try.underlying9 (by kernel_rfl) : Opens Try.prog 9 Kd.string _) : Opens Try.prog 22 (Kd.slice 9 Kd.string) _).out hf1 w1
  obtain ⟨rfl, hc1, hr1⟩ := slice_arg K1
  have k2 := h2
  have lt2 : ∀ x ∈ p2, x.block < W.heap.size := by obtain ⟨m, hm⟩ := k2; exact DataW.trod_lt m _ _ _ hm
  have w2 : ∀ n ∈ d2.weights Try.prog 26, n ≤ reachBytes := fun n hn => by
    have z := List.all_eq_true.1 hsz n (DataW.weights_mem_each (j := 2) (t := 26) rfl rfl n hn)
    simpa using z
  obtain ⟨fuel2, hf2⟩ := h2
  obtain ⟨aa2, len2, cap2, rfl⟩ := okWide_slice Try.underlying26 (hval 2 26 v2 rfl rfl)
  obtain ⟨l2, K2, G2⟩ := (opens_slice 32 Try.underlying26 (by kernel_rfl) (by kernel_rfl) op44 : Opens Try.prog 26 (Kd.slice 44 k44) _).out hf2 w2
  obtain ⟨rfl, hc2, hr2⟩ := slice_arg K2
  obtain ⟨k, h⟩ := P l0 l1 l2 G0 G1 G2
  refine (graftagelaw08_DiffStay.calls k _ _ l0 _ _ l1 _ _ l2 true W hr0 hc0 hr1 hc1 hr2 hc2 h).mono ?_
  rintro e W' ⟨rfl, hd⟩
  have bel : Below W.heap.size W W' := hd
  exact ⟨_, rfl, _, _, _, [], _, [], hW', trodAll_mk1 (shut_bool Try.underlying4 _), (trodAll_cons_mk (Below.trod laidOut (by kernel_rfl) (of_decide_eq_true (by kernel_rfl)) k0 bel lt0) (trodAll_cons_mk (Below.trod laidOut (by kernel_rfl) (of_decide_eq_true (by kernel_rfl)) k1 bel lt1) (trodAll_cons_mk (Below.trod laidOut (by kernel_rfl) (of_decide_eq_true (by kernel_rfl)) k2 bel lt2) trodAll_mk0))), rfl, bel.frame _, fun h => by cases h⟩
theorem over (P : graftagelaw08_DiffStay.Pure) : Rows.diffStayRow.holds Try.pinned (OpenSpec.ofChange Rows.diffStaySpec) :=
  OpenClaim.holds_of_wide 8 Try.f8 rfl rfl rfl rfl rfl rfl rfl ⟨rfl, rfl, rfl, rfl, rfl⟩ rfl rfl rfl rfl rfl (by kernel_rfl) Try.func8 (by kernel_rfl)
    (of_decide_eq_true (by kernel_rfl)) (by unfold Func.isWrapper; first | (rw [if_pos (by decide +kernel)]; kernel_rfl) | (rw [if_neg (by decide +kernel)]; exact ⟨rfl, rfl⟩))
    (fun os started H enc _ => lifted P os started H enc)
theorem proved : Rows.DiffStaySaid := over Pure.DiffStay
#print axioms proved
end Go.Proofs.Ytikepmdhnbnohaa.diffStay
namespace Go.Proofs.Ytikepmdhnbnohaa
/-- The row, under a short name, for the claim. -/
theorem diffStay_holds : Rows.DiffStaySaid := diffStay.proved
end Go.Proofs.Ytikepmdhnbnohaa
end
