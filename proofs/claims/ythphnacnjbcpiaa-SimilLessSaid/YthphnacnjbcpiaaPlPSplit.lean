/- The program's Split answers the lines. Conditions: none. -/
import Derived.Test.YthphnacnjbcpiaaPx0
import Derived.Test.YthphnacnjbcpiaaPx2
import Derived.Test.YthphnacnjbcpiaaPlBytes
namespace Go.Proofs.Ythphnacnjbcpiaa.Pl
open Go.RowKit Go.Proofs.YthphnacnjbcpiaaW.PrintWords Go.Proofs.Ythphnacnjbcpiaa.P
theorem index_none : ∀ l : Bs, 10 ∉ l → Lib.indexByte l 10 = -1
  | [], _ => rfl
  | c :: l, h => by
    unfold Lib.indexByte
    rw [if_neg (fun e => h (by simp [eq_of_beq e])), index_none l (fun e => h (by simp [e]))]
    rfl
theorem index_at : ∀ p r : Bs, 10 ∉ p → Lib.indexByte (p ++ 10 :: r) 10 = p.length
  | [], r, _ => by unfold Lib.indexByte; rfl
  | c :: p, r, h => by
    rw [List.cons_append]
    unfold Lib.indexByte
    rw [if_neg (fun e => h (by simp [eq_of_beq e])), index_at p r (fun e => h (by simp [e])), if_neg (by simp)]
    simp
theorem psplit_loop (n : Nat) : ∀ (s : ByteArray) (out : List ByteArray), s.size ≤ n → out.length + s.size < 8796093022208 → Ev (fun k => lines_Split.l0 k s out) (out ++ lns s) := by
  induction n with
  | zero =>
    intro s out hs _
    have h0 : by_ s = [] := List.length_eq_zero_iff.1 (by rw [← by_size]; omega)
    refine Ev.end_ fun k => ?_
    rw [lines_Split.l0, if_pos ((toList_nil s).2 h0), lns, h0]
    simp [spl]
  | succ n ih =>
    intro s out hs hb
    by_cases h0 : by_ s = []
    · refine Ev.end_ fun k => ?_
      rw [lines_Split.l0, if_pos ((toList_nil s).2 h0), lns, h0]
      simp [spl]
    · have hpos := List.length_pos_iff.2 h0
      rw [← by_size] at hpos
      have hidx : strings_Index.f s (⟨#[10]⟩ : ByteArray) = some (Lib.indexByte (by_ s) 10) := by unfold strings_Index.f; rw [if_pos (by rfl)]; rfl
      rcases ten_split (by_ s) with h1 | ⟨p, r, e, hp⟩
      · have hrest : by_ (s.extract s.size s.size) = [] := by rw [by_extract, by_size]; simp
        have := ih (s.extract s.size s.size) (out ++ [s]) (by rw [by_size, hrest]; simp) (by rw [by_size (s.extract _ _), hrest]; simp; omega)
        refine Ev.step (fun k => ?_) (show Ev (fun k => lines_Split.l0 k (s.extract s.size s.size) (out ++ [s])) (out ++ lns s) from ?_)
        · rw [lines_Split.l0, if_neg (fun e => h0 ((toList_nil s).1 e)), hidx, Option.bind_some, index_none _ h1]
          rw [show wrap64 (-1 + 1) = 0 from w64 (by omega) (by omega), if_pos rfl, if_pos (by omega), if_pos (by omega), if_pos (by omega), Int.toNat_natCast, ByteArray.extract_zero_size]
        · have el : lns s = [s] := by rw [lns, spl_last _ h1 h0]; simp [mk_by]
          have er : lns (s.extract s.size s.size) = [] := by rw [lns, hrest]; rfl
          rw [er, List.append_nil] at this
          rw [el]
          exact this
      · have hsz : s.size = p.length + 1 + r.length := by rw [by_size, e]; simp; omega
        have e' : by_ s = (p ++ [10]) ++ r := by rw [e]; simp
        have hh : s.extract 0 (p.length + 1) = mk_ (p ++ [10]) := by have := extract_head e'; simpa using this
        have ht : s.extract (p.length + 1) s.size = mk_ r := by have := extract_tail e'; simpa using this
        have := ih (mk_ r) (out ++ [mk_ (p ++ [10])]) (by rw [mk_size]; omega) (by rw [mk_size]; simp; omega)
        refine Ev.step (fun k => ?_) (show Ev (fun k => lines_Split.l0 k (mk_ r) (out ++ [mk_ (p ++ [10])])) (out ++ lns s) from ?_)
        · have hw : wrap64 ((p.length : Int) + 1) = ((p.length + 1 : Nat) : Int) := by rw [w64 (by omega) (by omega)]; simp
          rw [lines_Split.l0, if_neg (fun e => h0 ((toList_nil s).1 e)), hidx, Option.bind_some, e, index_at p r hp]
          rw [hw, if_neg (by omega), if_pos (by omega), if_pos (by omega), if_pos (by omega), Int.toNat_natCast, hh, ht]
        · have el : lns s = mk_ (p ++ [10]) :: lns (mk_ r) := by rw [lns, lns, e, by_mk, spl_line p r hp]; rfl
          rw [el]
          simpa using this
theorem psplit_ev (s : ByteArray) (hs : s.size < 8796093022208) : Ev (fun k => lines_Split.f k s) (lns s) := by
  have := psplit_loop s.size s [] (Nat.le_refl _) (by simpa using hs)
  rw [List.nil_append] at this
  exact this
end Go.Proofs.Ythphnacnjbcpiaa.Pl
