/- Plain facts on strings as lists of bytes: cuts, joins, bytes; a text's lines as lists. Conditions: none. -/
import Derived.Test.YthphnacnjbcpiaaPx0
import Derived.Test.YthphnacnjbcpiaaPlBase
namespace Go.Proofs.Ythphnacnjbcpiaa.Pl
open Go.RowKit Go.Proofs.YthphnacnjbcpiaaW.PrintWords
abbrev Bs := List UInt8
def by_ (s : ByteArray) : Bs := s.data.toList
def mk_ (l : Bs) : ByteArray := ⟨l.toArray⟩
theorem by_mk (l : Bs) : by_ (mk_ l) = l := by simp [by_, mk_]
theorem mk_by (s : ByteArray) : mk_ (by_ s) = s := by simp [by_, mk_]
theorem by_inj {a b : ByteArray} (h : by_ a = by_ b) : a = b := by rw [← mk_by a, h, mk_by]
theorem mk_inj {a b : Bs} (h : mk_ a = mk_ b) : a = b := by rw [← by_mk a, h, by_mk]
theorem toList_by (s : ByteArray) : s.toList = by_ s := ByteArray.toList_eq s
theorem by_size (s : ByteArray) : s.size = (by_ s).length := by rw [by_, Array.length_toList]; rfl
theorem mk_size (l : Bs) : (mk_ l).size = l.length := by rw [by_size, by_mk]
theorem by_append (a b : ByteArray) : by_ (a ++ b) = by_ a ++ by_ b := by simp [by_]
theorem by_extract (s : ByteArray) (i j : Nat) : by_ (s.extract i j) = ((by_ s).take j).drop i := by
  simp only [by_, ByteArray.data_extract, Array.toList_extract, List.extract_eq_take_drop]
  rw [List.drop_take]
theorem by_empty : by_ ByteArray.empty = [] := rfl
theorem toList_nil (s : ByteArray) : (s.toList = ([] : List UInt8)) ↔ by_ s = [] := by rw [toList_by]
theorem extract_mid {s : ByteArray} {a b c : Bs} (h : by_ s = a ++ (b ++ c)) : s.extract a.length (a.length + b.length) = mk_ b := by
  apply by_inj
  rw [by_extract, by_mk, h, ← List.append_assoc, List.take_left' (by simp), List.drop_left' rfl]
theorem extract_tail {s : ByteArray} {a b : Bs} (h : by_ s = a ++ b) : s.extract a.length s.size = mk_ b := by
  apply by_inj
  rw [by_extract, by_mk, by_size, List.take_length, h, List.drop_left' rfl]
theorem extract_head {s : ByteArray} {a b : Bs} (h : by_ s = a ++ b) : s.extract 0 a.length = mk_ a := by
  apply by_inj
  rw [by_extract, by_mk, h, List.take_left' rfl, List.drop_zero]
theorem bt_mid {s : ByteArray} {a c : Bs} {b : UInt8} (h : by_ s = a ++ b :: c) : bt s (a.length : Int) = (b.toNat : Int) := by
  have hl : a.length < s.size := by rw [by_size, h]; simp
  unfold bt
  rw [dif_pos (by simpa using hl)]
  have : (s[(a.length : Int).toNat]'(by simpa using hl)) = b := by
    have e : (by_ s)[a.length]? = some b := by rw [h]; simp
    have e2 : (by_ s)[a.length]? = some (s[a.length]'hl) := by
      rw [by_, List.getElem?_eq_getElem (by rw [← by_, ← by_size]; exact hl)]
      rfl
    rw [e] at e2
    have := Option.some.inj e2
    simpa using this.symm
  rw [this]
theorem ten_iff (b : UInt8) : ((b.toNat : Int) = 10) ↔ b = 10 := by
  constructor
  · intro h
    apply UInt8.toNat_inj.1
    have : (10 : UInt8).toNat = 10 := rfl
    omega
  · rintro rfl
    rfl
theorem strOf_bytes (l : Bs) : strOfNums (l.map fun b => (b.toNat : Int)) = mk_ l := by
  apply by_inj
  rw [by_mk, by_, strOfNums_data, List.map_map]
  conv => rhs; rw [← List.map_id l]
  refine List.map_congr_left fun b _ => ?_
  simp
theorem bytesOf_by (s : ByteArray) : bytesOf s = (by_ s).map fun b => (b.toNat : Int) := rfl
/-- The lines of a text; a line feed ends its line. -/
def spl : Bs → List Bs
  | [] => []
  | c :: r => if c = 10 then [c] :: spl r else match spl r with
    | [] => [[c]]
    | l :: ls => (c :: l) :: ls
theorem spl_ten (r : Bs) : spl (10 :: r) = [10] :: spl r := by rw [spl, if_pos rfl]
theorem spl_line : ∀ (p r : Bs), 10 ∉ p → spl (p ++ 10 :: r) = (p ++ [10]) :: spl r
  | [], r, _ => spl_ten r
  | c :: p, r, h => by
    rw [List.cons_append, spl, if_neg (fun e => h (by simp [e])), spl_line p r (fun e => h (by simp [e]))]
    rfl
theorem spl_last : ∀ (p : Bs), 10 ∉ p → p ≠ [] → spl p = [p]
  | [], _, h => absurd rfl h
  | [c], h, _ => by rw [spl, if_neg (fun e => h (by simp [e])), spl]
  | c :: d :: p, h, _ => by rw [spl, if_neg (fun e => h (by simp [e])), spl_last (d :: p) (fun e => h (List.mem_cons_of_mem _ e)) (by simp)]
theorem ten_split : ∀ (l : Bs), 10 ∉ l ∨ ∃ p r, l = p ++ 10 :: r ∧ 10 ∉ p
  | [] => .inl (by simp)
  | c :: l => by
    by_cases h : c = 10
    · exact .inr ⟨[], l, by simp [h], by simp⟩
    · rcases ten_split l with hl | ⟨p, r, rfl, hp⟩
      · exact .inl (by simp [hl, Ne.symm h])
      · exact .inr ⟨c :: p, r, rfl, by simp [hp, Ne.symm h]⟩
theorem spl_flat : ∀ l : Bs, (spl l).flatten = l
  | [] => rfl
  | c :: r => by
    have ih := spl_flat r
    rw [spl]
    by_cases h : c = 10
    · rw [if_pos h, List.flatten_cons, ih]
      rfl
    · rw [if_neg h]
      cases e : spl r with
      | nil => rw [e] at ih; simp at ih; simp [ih]
      | cons a ls => rw [e] at ih; simpa using ih
/-- Lists of lines that a text splits into: each ends with its only line feed; the last need not end with one, but has a byte. -/
def Whole : List Bs → Prop
  | [] => True
  | l :: ls => (∃ p, l = p ++ [10] ∧ 10 ∉ p) ∧ Whole ls ∨ (l ≠ [] ∧ 10 ∉ l ∧ ls = [])
theorem spl_whole (n : Nat) : ∀ l : Bs, l.length ≤ n → Whole (spl l) := by
  induction n with
  | zero => intro l h; rw [List.length_eq_zero_iff.1 (Nat.le_zero.1 h)]; trivial
  | succ n ih =>
    intro l h
    rcases ten_split l with h1 | ⟨p, r, rfl, hp⟩
    · by_cases h0 : l = []
      · subst h0; trivial
      · rw [spl_last l h1 h0]
        exact .inr ⟨h0, h1, rfl⟩
    · rw [spl_line p r hp]
      exact .inl ⟨⟨p, rfl, hp⟩, ih r (by simp at h; omega)⟩
theorem whole_spl : ∀ ls : List Bs, Whole ls → spl ls.flatten = ls
  | [], _ => rfl
  | l :: ls, .inl ⟨⟨p, e, hp⟩, hw⟩ => by rw [List.flatten_cons, e, List.append_assoc, List.singleton_append, spl_line p _ hp, whole_spl ls hw]
  | l :: ls, .inr ⟨h0, h1, e⟩ => by subst e; simp [spl_last l h1 h0]
theorem whole_ne : ∀ {ls : List Bs}, Whole ls → ∀ l ∈ ls, l ≠ []
  | l :: ls, .inl ⟨⟨p, e, hp⟩, hw⟩, x, hx => by
    rcases List.mem_cons.1 hx with rfl | hx
    · rw [e]; simp
    · exact whole_ne hw x hx
  | l :: ls, .inr ⟨h0, h1, e⟩, x, hx => by
    subst e
    rw [List.mem_singleton.1 hx]
    exact h0
theorem whole_erase : ∀ {ls : List Bs} (i : Nat), Whole ls → Whole (ls.eraseIdx i)
  | [], _, _ => trivial
  | l :: ls, 0, .inl ⟨_, hw⟩ => hw
  | l :: ls, 0, .inr ⟨_, _, e⟩ => by subst e; trivial
  | l :: ls, i + 1, .inl ⟨h, hw⟩ => .inl ⟨h, whole_erase i hw⟩
  | l :: ls, i + 1, .inr ⟨h0, h1, e⟩ => by subst e; exact .inr ⟨h0, h1, rfl⟩
theorem whole_of_all : ∀ {ls : List Bs}, (∀ l ∈ ls, ∃ p, l = p ++ [10] ∧ 10 ∉ p) → Whole ls
  | [], _ => trivial
  | l :: ls, h => .inl ⟨h l (by simp), whole_of_all fun x hx => h x (by simp [hx])⟩
/-- All lines end with a line feed where the text does. -/
theorem whole_ends : ∀ {ls : List Bs}, Whole ls → (∀ p b, ls.flatten = p ++ [b] → b = 10) → ∀ l ∈ ls, ∃ p, l = p ++ [10] ∧ 10 ∉ p
  | l :: ls, .inl ⟨h, hw⟩, he, x, hx => by
    rcases List.mem_cons.1 hx with rfl | hx
    · exact h
    · refine whole_ends hw (fun p b e => ?_) x hx
      refine he (l ++ p) b ?_
      rw [List.flatten_cons, e, List.append_assoc]
  | l :: ls, .inr ⟨h0, h1, e⟩, he, x, hx => by
    subst e
    exfalso
    have hl : l = l.dropLast ++ [l.getLast h0] := (List.dropLast_concat_getLast h0).symm
    have := he l.dropLast (l.getLast h0) (by simpa using hl)
    exact h1 (this ▸ List.getLast_mem h0)
theorem spl_length (n : Nat) : ∀ l : Bs, l.length ≤ n → (spl l).length ≤ l.length := by
  induction n with
  | zero => intro l h; rw [List.length_eq_zero_iff.1 (Nat.le_zero.1 h)]; exact Nat.le_refl _
  | succ n ih =>
    intro l h
    rcases ten_split l with h1 | ⟨p, r, rfl, hp⟩
    · by_cases h0 : l = []
      · subst h0; exact Nat.le_refl _
      · rw [spl_last l h1 h0]
        exact List.length_pos_iff.2 h0
    · rw [spl_line p r hp]
      have := ih r (by simp at h; omega)
      simp
      omega
/-- The lines of a string. -/
def lns (s : ByteArray) : List ByteArray := (spl (by_ s)).map mk_
theorem lns_by (s : ByteArray) : (lns s).map by_ = spl (by_ s) := by
  rw [lns, List.map_map]
  conv => rhs; rw [← List.map_id (spl (by_ s))]
  exact List.map_congr_left fun l _ => by_mk l
theorem lns_length (s : ByteArray) : (lns s).length ≤ s.size := by rw [lns, List.length_map, by_size]; exact spl_length _ _ (Nat.le_refl _)
/-- All strings, one behind the other. -/
def cat (ls : List ByteArray) : ByteArray := mk_ (ls.map by_).flatten
theorem by_cat (ls : List ByteArray) : by_ (cat ls) = (ls.map by_).flatten := by_mk _
theorem cat_lns (s : ByteArray) : cat (lns s) = s := by rw [cat, lns_by, spl_flat, mk_by]
theorem cat_append (a b : List ByteArray) : cat (a ++ b) = cat a ++ cat b := by
  apply by_inj
  rw [by_append, by_cat, by_cat, by_cat]
  simp
theorem cat_cons (a : ByteArray) (b : List ByteArray) : by_ (cat (a :: b)) = by_ a ++ by_ (cat b) := by rw [by_cat, by_cat]; simp
theorem lns_cat {ls : List ByteArray} (h : Whole (ls.map by_)) : lns (cat ls) = ls := by
  rw [lns, by_cat, whole_spl _ h, List.map_map]
  conv => rhs; rw [← List.map_id ls]
  exact List.map_congr_left fun l _ => mk_by l
theorem lns_whole (s : ByteArray) : Whole ((lns s).map by_) := by rw [lns_by]; exact spl_whole _ _ (Nat.le_refl _)
theorem lns_pos (s : ByteArray) : ∀ l ∈ lns s, 0 < l.size := by
  intro l hl
  have := whole_ne (lns_whole s) (by_ l) (List.mem_map_of_mem hl)
  rw [by_size]
  exact List.length_pos_iff.2 this
theorem lns_nil : lns (⟨#[]⟩ : ByteArray) = [] := rfl
/-- The sum of the lines' sizes. -/
def total (ls : List ByteArray) : Nat := (ls.map ByteArray.size).sum
theorem total_cat : ∀ ls : List ByteArray, (cat ls).size = total ls
  | [] => rfl
  | l :: ls => by
    have ih := total_cat ls
    rw [by_size] at ih
    rw [by_size, cat_cons, List.length_append, ih, ← by_size]
    simp [total]
theorem total_lns (s : ByteArray) : total (lns s) = s.size := by rw [← total_cat, cat_lns]
end Go.Proofs.Ythphnacnjbcpiaa.Pl
