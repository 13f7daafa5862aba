/- What two lists have in common, each element as often as it stands in both, weighed by g; plain lists. Conditions: none. -/
import Derived.Test.YthphnacnjbcpiaaPx0
namespace Go.Proofs.Ythphnacnjbcpiaa.Pl
def tot {α : Type} (g : α → Nat) (l : List α) : Nat := (l.map g).sum
theorem tot_one {α : Type} : ∀ l : List α, tot (fun _ => 1) l = l.length
  | [] => rfl
  | s :: l => by have := tot_one l; simp [tot] at this ⊢; omega
section
variable {α : Type} [DecidableEq α] (g : α → Nat)
def cnt : List α → α → Nat
  | [], _ => 0
  | y :: l, x => cnt l x + (if y = x then 1 else 0)
def del (s : α) : List α → List α
  | [] => []
  | y :: l => if y = s then l else y :: del s l
def cm : List α → List α → Nat
  | _, [] => 0
  | H, s :: l => if 0 < cnt H s then g s + cm (del s H) l else cm H l
theorem cnt_del (s x : α) : ∀ l : List α, cnt (del s l) x = cnt l x - (if s = x then 1 else 0)
  | [] => by simp [cnt, del]
  | y :: l => by
    rw [del]
    by_cases h : y = s
    · rw [if_pos h, cnt, h]; omega
    · rw [if_neg h, cnt, cnt, cnt_del s x l]
      by_cases e : y = x
      · rw [if_pos e, if_neg (fun e2 => h (e.trans e2.symm))]; omega
      · rw [if_neg e]; omega
theorem cnt_append (x : α) : ∀ a b : List α, cnt (a ++ b) x = cnt a x + cnt b x
  | [], b => by simp [cnt]
  | y :: a, b => by rw [List.cons_append, cnt, cnt, cnt_append x a b]; omega
theorem cnt_reverse (x : α) : ∀ l : List α, cnt l.reverse x = cnt l x
  | [] => rfl
  | y :: l => by rw [List.reverse_cons, cnt_append, cnt_reverse x l, cnt, cnt, cnt]; omega
theorem cnt_pos {x : α} : ∀ {l : List α}, 0 < cnt l x ↔ x ∈ l
  | [] => by simp [cnt]
  | y :: l => by
    rw [cnt, List.mem_cons, ← cnt_pos (l := l)]
    by_cases e : y = x
    · simp [e]
    · simp [e, Ne.symm e]
theorem cnt_erase (x : α) : ∀ (l : List α) (i : Nat) (h : i < l.length), cnt l x = cnt (l.eraseIdx i) x + (if l[i] = x then 1 else 0)
  | y :: l, 0, h => rfl
  | y :: l, i + 1, h => by
    have := cnt_erase x l i (by simpa using h)
    simp only [List.eraseIdx_cons_succ, List.getElem_cons_succ, cnt]
    omega
theorem cnt_le (x : α) : ∀ l : List α, cnt l x ≤ l.length
  | [] => Nat.le_refl _
  | y :: l => by rw [cnt, List.length_cons]; have := cnt_le x l; split <;> omega
theorem cm_congr : ∀ {L H H' : List α}, (∀ x, cnt H x = cnt H' x) → cm g H L = cm g H' L
  | [], _, _, _ => rfl
  | s :: l, H, H', h => by
    rw [cm, cm, h s, cm_congr h, cm_congr (H := del s H) (H' := del s H') fun x => by rw [cnt_del, cnt_del, h]]
theorem cm_cons (s : α) : ∀ (L h : List α), cm g (s :: h) L = if 0 < cnt L s then g s + cm g h (del s L) else cm g h L
  | [], h => by simp [cm, cnt]
  | t :: l, h => by
    rw [cm]
    by_cases e : s = t
    · subst e
      rw [if_pos (by simp [cnt]), if_pos (by simp [cnt]), del, del, if_pos rfl, if_pos rfl]
    · have c1 : cnt (s :: h) t = cnt h t := by rw [cnt, if_neg e, Nat.add_zero]
      have c2 : cnt (t :: l) s = cnt l s := by rw [cnt, if_neg (Ne.symm e), Nat.add_zero]
      have d1 : del t (s :: h) = s :: del t h := by rw [del, if_neg e]
      have d2 : del s (t :: l) = t :: del s l := by rw [del, if_neg (Ne.symm e)]
      rw [c1, c2, d1, d2, cm_cons s l (del t h), cm_cons s l h, cm, cm]
      by_cases p : 0 < cnt h t <;> by_cases q : 0 < cnt l s <;> simp only [p, q, if_true, if_false] <;> omega
theorem cm_nil : ∀ L : List α, cm g [] L = 0
  | [] => rfl
  | s :: l => by rw [cm, if_neg (by simp [cnt]), cm_nil l]
theorem cm_symm : ∀ H L : List α, cm g H L = cm g L H
  | [], L => by rw [cm_nil]; rfl
  | s :: h, L => by
    rw [cm_cons, cm, cm_symm h (del s L), cm_symm h L]
theorem cm_mono : ∀ {L H H' : List α}, (∀ x, cnt H x ≤ cnt H' x) → cm g H L ≤ cm g H' L
  | [], _, _, _ => Nat.le_refl _
  | s :: l, H, H', h => by
    rw [cm, cm]
    by_cases p : 0 < cnt H s
    · rw [if_pos p, if_pos (by have := h s; omega)]
      have := cm_mono (L := l) (H := del s H) (H' := del s H') fun x => by rw [cnt_del, cnt_del]; have := h x; omega
      omega
    · rw [if_neg p]
      by_cases q : 0 < cnt H' s
      · rw [if_pos q]
        have := cm_mono (L := l) (H := H) (H' := del s H') fun x => by
          rw [cnt_del]
          have := h x
          split
          · rename_i e; subst e; omega
          · omega
        omega
      · rw [if_neg q]
        exact cm_mono h
theorem cm_le : ∀ L H : List α, cm g H L ≤ tot g L
  | [], _ => Nat.zero_le _
  | s :: l, H => by
    have h1 := cm_le l (del s H)
    have h2 := cm_le l H
    have e : tot g (s :: l) = g s + tot g l := by simp [tot]
    rw [cm]
    split <;> omega
theorem cm_full : ∀ {L H : List α}, (∀ x, cnt L x ≤ cnt H x) → cm g H L = tot g L
  | [], _, _ => rfl
  | s :: l, H, h => by
    have hs := h s
    rw [cnt, if_pos rfl] at hs
    have e : tot g (s :: l) = g s + tot g l := by simp [tot]
    rw [cm, if_pos (by omega), e, cm_full (L := l) (H := del s H) fun x => ?_]
    have hx := h x
    rw [cnt] at hx
    rw [cnt_del]
    split <;> simp_all <;> omega
theorem cm_total : ∀ {L H : List α}, (∀ s ∈ L, 0 < g s) → cm g H L = tot g L → ∀ x, cnt L x ≤ cnt H x
  | [], _, _, _, _ => Nat.zero_le _
  | s :: l, H, hp, h, x => by
    have e : tot g (s :: l) = g s + tot g l := by simp [tot]
    have hs := hp s (by simp)
    rw [cm] at h
    by_cases p : 0 < cnt H s
    · rw [if_pos p] at h
      have := cm_total (L := l) (H := del s H) (fun y hy => hp y (by simp [hy])) (by omega) x
      rw [cnt_del] at this
      rw [cnt]
      by_cases e : s = x
      · subst e; rw [if_pos rfl] at this ⊢; omega
      · rw [if_neg e] at this ⊢; omega
    · rw [if_neg p] at h
      have := cm_le g l H
      omega
theorem cm_split (s : α) : ∀ (Y F F' : List α), (∀ x, cnt F' x = if x = s then 0 else cnt F x) → cm g F Y = g s * min (cnt F s) (cnt Y s) + cm g F' Y
  | [], F, F', _ => by simp [cm, cnt]
  | t :: l, F, F', h => by
    rw [cm, cm]
    have hs := h s
    rw [if_pos rfl] at hs
    by_cases e : t = s
    · subst e
      rw [if_neg (show ¬ 0 < cnt F' t by omega), cnt, if_pos rfl]
      by_cases p : 0 < cnt F t
      · rw [if_pos p, cm_split t l (del t F) F' fun x => by
          rw [h x, cnt_del]
          by_cases q : x = t
          · rw [if_pos q, if_pos q]
          · rw [if_neg q, if_neg q, if_neg (Ne.symm q), Nat.sub_zero], cnt_del, if_pos rfl]
        have : min (cnt F t) (cnt l t + 1) = min (cnt F t - 1) (cnt l t) + 1 := by omega
        rw [this, Nat.mul_add, Nat.mul_one]
        omega
      · rw [if_neg p, cm_split t l F F' h]
        have h0 : cnt F t = 0 := by omega
        rw [h0, Nat.zero_min, Nat.zero_min]
    · have ht := h t
      rw [if_neg e] at ht
      have hc : cnt (t :: l) s = cnt l s := by rw [cnt, if_neg e, Nat.add_zero]
      rw [ht, hc]
      by_cases p : 0 < cnt F t
      · rw [if_pos p, if_pos p, cm_split s l (del t F) (del t F') fun x => by
          rw [cnt_del, cnt_del, h x]
          by_cases q : x = s
          · rw [if_pos q, if_pos q]; omega
          · rw [if_neg q, if_neg q], cnt_del, if_neg e, Nat.sub_zero]
        omega
      · rw [if_neg p, if_neg p, cm_split s l F F' h]
theorem cm_more {s : α} {h H L : List α} (hc : ∀ x, cnt H x = cnt h x + (if s = x then 1 else 0)) : cm g h L ≤ cm g H L ∧ cm g H L ≤ g s + cm g h L := by
  refine ⟨cm_mono g fun x => by rw [hc]; omega, ?_⟩
  rw [cm_congr g (H := H) (H' := s :: h) fun x => by rw [hc, cnt], cm_cons]
  split
  · have : cm g h (del s L) ≤ cm g h L := by
      rw [cm_symm g h (del s L), cm_symm g h L]
      exact cm_mono g fun x => by rw [cnt_del]; omega
    omega
  · omega
/-- Lists of one length whose counts agree at the first one's elements have the same counts. -/
theorem same_counts {X Y : List α} (hl : X.length = Y.length) (h : ∀ v ∈ X, cnt X v = cnt Y v) (v : α) : cnt X v = cnt Y v := by
  have h1 : ∀ x, cnt X x ≤ cnt Y x := fun x => by
    by_cases p : x ∈ X
    · exact Nat.le_of_eq (h x p)
    · have : ¬ 0 < cnt X x := fun q => p (cnt_pos.1 q)
      omega
  have h2 := cm_full (fun _ : α => 1) h1
  rw [tot_one, hl, cm_symm, ← tot_one] at h2
  have h3 := cm_total (fun _ : α => 1) (fun _ _ => Nat.one_pos) h2 v
  have := h1 v
  omega
end
end Go.Proofs.Ythphnacnjbcpiaa.Pl
