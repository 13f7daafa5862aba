/- Plain facts on numbers and lists that the plain proofs of this seat share. Conditions: none. -/
import Derived.Test.YthphnacnjbcpiaaPx0
namespace Go.Proofs.Ythphnacnjbcpiaa.Pl
open Go.RowKit Go.Proofs.YthphnacnjbcpiaaW.PrintWords
theorem w64 {n : Int} (h1 : -9223372036854775808 ≤ n) (h2 : n ≤ 9223372036854775807) : wrap64 n = n := by unfold wrap64; omega
theorem wfI {x : Int} (h : (Lit.int .i64 x).wf = true) : -9223372036854775808 ≤ x ∧ x ≤ 9223372036854775807 := by
  simp only [Lit.wf, Bool.and_eq_true, decide_eq_true_eq] at h
  have e1 : IntKind.i64.min = -9223372036854775808 := by decide
  have e2 : IntKind.i64.max = 9223372036854775807 := by decide
  rw [e1, e2] at h
  exact h
theorem tl_inj {a b : ByteArray} : a.toList = b.toList ↔ a = b := by
  constructor
  · intro h
    rw [ByteArray.toList_eq, ByteArray.toList_eq] at h
    cases a
    cases b
    simp only at h
    rw [Array.toList_inj.1 h]
  · intro h
    rw [h]
theorem getD_mid {α : Type} (d r : List α) (e z : α) : (d ++ e :: r).getD (d.length : Int).toNat z = e := by simp [List.getD_eq_getElem?_getD]
theorem rdB_mid (d r : List ByteArray) (e : ByteArray) : rdOf ByteArray.empty (d ++ e :: r) (d.length : Int) = e := getD_mid d r e _
theorem len_mid {α : Type} (d r : List α) (e : α) : ((d ++ e :: r).length : Int) = d.length + 1 + r.length := by simp; omega
theorem len_snoc {α : Type} (d : List α) (e : α) : ((d ++ [e]).length : Int) = d.length + 1 := by simp
theorem snoc_app {α : Type} (d r : List α) (e : α) : d ++ e :: r = (d ++ [e]) ++ r := by simp
theorem Ev.mono1 {α : Type} {g : Nat → Option α} {r : α} (h : Ev g r) : ∃ K, g K = some r := h.rounds
theorem Ev.some_ {α : Type} {r : α} {g : Nat → Option α} (h : ∀ k, g k = some r) : Ev g r := ⟨0, fun k _ => h k⟩
/-- A loop's end: one round answers. -/
theorem Ev.end_ {α : Type} {g : Nat → Option α} {r : α} (h : ∀ k, g (k + 1) = some r) : Ev g r := Ev.step h (Ev.now r)
theorem Ev.unique {α : Type} {g : Nat → Option α} {r r' : α} (h : Ev g r) (h' : Ev g r') : r = r' := by
  obtain ⟨K, h⟩ := h
  obtain ⟨K', h'⟩ := h'
  have h1 := h (max K K') (by omega)
  have h2 := h' (max K K') (by omega)
  rw [h1] at h2
  exact Option.some.inj h2
end Go.Proofs.Ythphnacnjbcpiaa.Pl
