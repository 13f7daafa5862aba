/- The reference's Split answers the lines. Conditions: none. -/
import Derived.Test.YthphnacnjbcpiaaPx0
import Derived.Test.YthphnacnjbcpiaaPx1
import Derived.Test.YthphnacnjbcpiaaPlBytes
namespace Go.Proofs.Ythphnacnjbcpiaa.Pl
open Go.RowKit Go.Proofs.YthphnacnjbcpiaaW.PrintWords Go.Proofs.Ythphnacnjbcpiaa.P
theorem rsplit_loop (s : ByteArray) (hs : s.size ≤ 140737488351232) : ∀ (r a p : Bs) (out : List ByteArray) (st i : Int), by_ s = a ++ (p ++ r) → 10 ∉ p → st = a.length → i = a.length + p.length → out.length + (by_ s).length ≤ a.length + 140737488351232 → out.length ≤ a.length → a.length + p.length + r.length < 8796093022208 →
    Ev (fun k => graftageref05_Split.l0 k s out st (s.size : Int) i) (out ++ (spl (p ++ r)).map mk_) := by
  intro r
  induction r with
  | nil =>
    intro a p out st i h hp hst hi _ ho hb
    have hsz : s.size = a.length + p.length := by rw [by_size, h]; simp
    simp only [List.length_nil] at hb
    refine Ev.end_ fun k => ?_
    rw [graftageref05_Split.l0, if_neg (by omega)]
    by_cases h0 : p = []
    · subst h0
      simp only [List.length_nil] at hsz hi
      rw [if_neg (by omega)]
      simp [spl]
    · have := List.length_pos_iff.2 h0
      rw [List.append_nil] at h ⊢
      rw [if_pos (by omega), if_pos (by omega), if_pos (by omega), if_pos (by omega), spl_last p hp h0, hst, Int.toNat_natCast, extract_tail h]
      rfl
  | cons c r ih =>
    intro a p out st i h hp hst hi hx ho hb
    have hsz : s.size = a.length + p.length + (r.length + 1) := by rw [by_size, h]; simp; omega
    simp only [List.length_cons] at hb
    have hbt : bt s i = (c.toNat : Int) := by
      rw [hi]
      have := bt_mid (s := s) (a := a ++ p) (c := r) (b := c) (by rw [h]; simp)
      rw [← this]
      congr 1
      simp
    have hw : wrap64 (i + 1) = i + 1 := w64 (by omega) (by omega)
    by_cases hc : c = 10
    · subst hc
      have := ih (a ++ (p ++ [10])) [] (out ++ [mk_ (p ++ [10])]) (i + 1) (i + 1) (by rw [h]; simp) (by simp) (by simp; omega) (by simp; omega) (by simp at hx ⊢; omega) (by simp; omega) (by simp; omega)
      rw [spl_line p r hp]
      rw [List.nil_append] at this
      refine Ev.step (fun k => ?_) (by simpa using this)
      have he : s.extract st.toNat (i + 1).toNat = mk_ (p ++ [10]) := by
        have := extract_mid (s := s) (a := a) (b := p ++ [10]) (c := r) (by rw [h]; simp)
        rw [← this]
        congr 1
        · omega
        · simp; omega
      rw [graftageref05_Split.l0, if_pos (by omega), if_pos (by omega), if_pos (by omega), hbt, if_pos (show ((10 : UInt8).toNat : Int) = 10 from rfl), hw, if_pos (by omega), if_pos (by omega), if_pos (by omega), if_pos (by omega), he]
    · have := ih a (p ++ [c]) out st (i + 1) (by rw [h]; simp) (by simp [hp, Ne.symm hc]) hst (by simp; omega) hx ho (by simp; omega)
      refine Ev.step (fun k => ?_) (by simpa using this)
      rw [graftageref05_Split.l0, if_pos (by omega), if_pos (by omega), if_pos (by omega), hbt, if_neg (by rw [ten_iff]; exact hc), hw]
theorem rsplit_ev (s : ByteArray) (hs : s.size < 8796093022208) : Ev (fun k => graftageref05_Split.f k s) (lns s) := by
  have := rsplit_loop s (by omega) (by_ s) [] [] [] 0 0 rfl (by simp) rfl rfl (by rw [← by_size]; simp; omega) (by simp) (by rw [← by_size]; simpa using hs)
  rw [List.nil_append] at this
  exact this
end Go.Proofs.Ythphnacnjbcpiaa.Pl
