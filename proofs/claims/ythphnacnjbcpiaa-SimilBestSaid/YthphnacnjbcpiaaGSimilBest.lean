/- Abstract code stands for the program's: each function is checked. Conditions: none. -/
import Derived.Test.YthphnacnjbcpiaaProg
import Derived.Test.YthphnacnjbcpiaaFSimilBest
import Derived.KernelRfl
import Derived.Test.YthphnacnjbcpiaaShelf
namespace Go.Proofs.Ythphnacnjbcpiaa.E
theorem ck7 : okFun Try.prog 7 f7 = true := by kernel_rfl
theorem ck8 : okFun Try.prog 8 f8 = true := by kernel_rfl
theorem ck9 : okFun Try.prog 9 f9 = true := by kernel_rfl
theorem ck10 : okFun Try.prog 10 f10 = true := by kernel_rfl
theorem ck11 : okFun Try.prog 11 f11 = true := by kernel_rfl
theorem ck13 : okFun Try.prog 13 f13 = true := by kernel_rfl
theorem ck15 : okFun Try.prog 15 f15 = true := by kernel_rfl
theorem ck16 : okFun Try.prog 16 f16 = true := by kernel_rfl
theorem ck19 : okFun Try.prog 19 f19 = true := by kernel_rfl
theorem ck20 : okFun Try.prog 20 f20 = true := by kernel_rfl
theorem ck21 : okFun Try.prog 21 f21 = true := by kernel_rfl
theorem ck22 : okFun Try.prog 22 f22 = true := by kernel_rfl
theorem ck23 : okFun Try.prog 23 f23 = true := by kernel_rfl
theorem ck24 : okFun Try.prog 24 f24 = true := by kernel_rfl
theorem ck25 : okFun Try.prog 25 f25 = true := by kernel_rfl
theorem ck26 : okFun Try.prog 26 f26 = true := by kernel_rfl
theorem ck27 : okFun Try.prog 27 f27 = true := by kernel_rfl
theorem ck28 : okFun Try.prog 28 f28 = true := by kernel_rfl
theorem ck29 : okFun Try.prog 29 f29 = true := by kernel_rfl
theorem ck31 : okFun Try.prog 31 f31 = true := by kernel_rfl
theorem ck32 : okFun Try.prog 32 f32 = true := by kernel_rfl
theorem ck34 : okFun Try.prog 34 f34 = true := by kernel_rfl
theorem ck39 : okFun Try.prog 39 f39 = true := by kernel_rfl
theorem tab_ok : ∀ f v F, tab.fn f v = some F → okFun Try.prog f F = true := by
  intro f v F h
  simp only [tab] at h
  split at h <;> first | (cases h; done) | skip
  split at h <;> first | (cases h; done) | (injection h with h; subst h)
  · exact ck7
  · exact ck8
  · exact ck9
  · exact ck10
  · exact ck11
  · exact ck13
  · exact ck15
  · exact ck16
  · exact ck19
  · exact ck20
  · exact ck21
  · exact ck22
  · exact ck23
  · exact ck24
  · exact ck25
  · exact ck26
  · exact ck27
  · exact ck28
  · exact ck29
  · exact ck31
  · exact ck32
  · exact ck34
  · exact ck39
theorem tab_ext : ExtOk Try.prog tab := fun f v args heap n q h => by
  replace h : extF f args heap n = some q := h
  unfold extF at h
  split at h
  · rename_i e; subst e; split at h <;> first | (cases h; done) | skip
    injection h with h; subst h; exact xs_index (by kernel_rfl) Try.strings_Index_one _ _
  · cases h
end Go.Proofs.Ythphnacnjbcpiaa.E
