/- Abstract code stands for the program's: each function is checked. Conditions: none. -/
import Derived.Test.YtnodepfoahmcmaaProg
import Derived.Test.YtnodepfoahmcmaaFThreeTurned
import Derived.KernelRfl
import Derived.Test.YtnodepfoahmcmaaBdA
import Derived.Test.YtnodepfoahmcmaaShelf
import Derived.WalkKit
import Derived.Lib.Walk
import Derived.Lib.SliceRun
namespace Go.Proofs.Ytnodepfoahmcmaa.E
open Go.RowKit Go.Lib Go.Proofs in
set_option maxHeartbeats 4000000 in
set_option maxRecDepth 100000 in
theorem clone50 (a : Option Addr) (c : Nat) (w : World) : Calls Try.prog 50 #[.slice a 0 c] w fun e w' => ∃ a', e = .returned (.slice a' 0 0) ∧ (w' = w ∨ ∃ o, w' = w.alloc o) := by
  have mixed : Try.prog.follows Departure.mixedOrders = true := by kernel_rfl
  obtain ⟨i, hi⟩ : ∃ i, Try.prog.info? 9 = some i := Option.isSome_iff_exists.1 (by kernel_rfl)
  have u1 := run_underlying Try.underlying22
  have q1 : ∀ (w : World) (a : Option Addr) (n c n' c' : Nat), (binOp .eql 22 (.slice a n c) (.slice none n' c')).run Try.prog w = .ok (.bool a.isNone) w := fun w a n c n' c' => Lib.run_eql_slice_nil w _ _ a n c n' c' Try.underlying22
  cases a with
  | none =>
    go_enter Try.func50, Try.ntmps50
    go_wp2
    go_ret
    exact ⟨none, rfl, .inl rfl⟩
  | some a =>
    go_enter Try.func50, Try.ntmps50
    go_wp2_with (at_builtin; refine wpList_app0 rfl _ _ (22) (22) rfl Try.underlying22 Try.underlying22 hi rfl rfl ?_)
    go_wp2
    go_ret
    exact ⟨_, rfl, .inr ⟨_, rfl⟩⟩
theorem ck6 : okFun Try.prog 6 f6 = true := by kernel_rfl
theorem ck8 : okFun Try.prog 8 f8 = true := by kernel_rfl
theorem ck9 : okFun Try.prog 9 f9 = true := by kernel_rfl
theorem ck10 : okFun Try.prog 10 f10 = true := by kernel_rfl
theorem ck13 : okFun Try.prog 13 f13 = true := by kernel_rfl
theorem ck16 : okFun Try.prog 16 f16 = true := by kernel_rfl
theorem ck17 : okFun Try.prog 17 f17 = true := by kernel_rfl
theorem ck19 : okFun Try.prog 19 f19 = true := by kernel_rfl
theorem ck21 : okFun Try.prog 21 f21 = true := by kernel_rfl
theorem ck23 : okFun Try.prog 23 f23 = true := by kernel_rfl
theorem ck27 : okFun Try.prog 27 f27 = true := by kernel_rfl
theorem ck28 : okFun Try.prog 28 f28 = true := by kernel_rfl
theorem ck29 : okFun Try.prog 29 f29 = true := by kernel_rfl
theorem ck33 : okFun Try.prog 33 f33 = true := by kernel_rfl
theorem ck34 : okFun Try.prog 34 f34 = true := by kernel_rfl
theorem ck35 : okFun Try.prog 35 f35 = true := by kernel_rfl
theorem ck37 : okFun Try.prog 37 f37 = true := by kernel_rfl
theorem ck41 : okFun Try.prog 41 f41 = true := by kernel_rfl
theorem ck42 : okFun Try.prog 42 f42 = true := by kernel_rfl
theorem ck45 : okFun Try.prog 45 f45 = true := by kernel_rfl
theorem ck46 : okFun Try.prog 46 f46 = true := by kernel_rfl
theorem ck47 : okFun Try.prog 47 f47 = true := by kernel_rfl
theorem ck48 : okFun Try.prog 48 f48 = true := by kernel_rfl
theorem ck49 : okFun Try.prog 49 f49 = true := by kernel_rfl
theorem ck50 : okFun Try.prog 50 f50 = true := by kernel_rfl
theorem ck53 : okFun Try.prog 53 f53 = true := by kernel_rfl
theorem ck55 : okFun Try.prog 55 f55 = true := by kernel_rfl
theorem ck57 : okFun Try.prog 57 f57 = true := by kernel_rfl
theorem ck58 : okFun Try.prog 58 f58 = true := by kernel_rfl
theorem ck60 : okFun Try.prog 60 f60 = true := by kernel_rfl
theorem ck61 : okFun Try.prog 61 f61 = true := by kernel_rfl
theorem ck62 : okFun Try.prog 62 f62 = true := by kernel_rfl
theorem ck68 : okFun Try.prog 68 f68 = true := by kernel_rfl
theorem ck69 : okFun Try.prog 69 f69 = true := by kernel_rfl
theorem ext36_ok : ∀ v args h n q, ext36 args h n = some q → XS Try.prog 36 v args h n (fun r h' n' => r = q.1 ∧ h' = q.2.1 ∧ n' = q.2.2) := by
  intro v args h n q hq
  unfold ext36 at hq
  split at hq <;> first | (cases hq; done) | skip
  split at hq <;> first | (cases hq; done) | skip
  rename_i hg
  split at hq <;> first | (cases hq; done) | skip
  rename_i hc
  obtain ⟨rfl, rfl, hl⟩ := hc
  injection hq with hq; subst hq
  exact xs_write (by kernel_rfl) bld_write hg hl
theorem ext38_ok : ∀ v args h n q, ext38 args h n = some q → XS Try.prog 38 v args h n (fun r h' n' => r = q.1 ∧ h' = q.2.1 ∧ n' = q.2.2) := by
  intro v args h n q hq
  unfold ext38 at hq
  split at hq <;> first | (cases hq; done) | skip
  split at hq <;> first | (cases hq; done) | skip
  rename_i hg
  split at hq <;> first | (cases hq; done) | skip
  rename_i hc
  obtain ⟨rfl, rfl⟩ := hc
  injection hq with hq; subst hq
  exact xs_string (by kernel_rfl) bld_string hg
theorem ext50_ok : ∀ v args h n q, ext50 args h n = some q → XS Try.prog 50 v args h n (fun r h' n' => r = q.1 ∧ h' = q.2.1 ∧ n' = q.2.2) := by
  intro v args h n q hq
  unfold ext50 at hq
  split at hq <;> first | (cases hq; done) | skip
  split at hq <;> first | (cases hq; done) | skip
  rename_i hz; subst hz
  injection hq with hq; subst hq
  exact xs_clone0 (by kernel_rfl) clone50
theorem ext56_ok : ∀ v args h n q, ext56 args h n = some q → XS Try.prog 56 v args h n (fun r h' n' => r = q.1 ∧ h' = q.2.1 ∧ n' = q.2.2) := by
  intro v args h n q hq
  unfold ext56 at hq
  split at hq <;> first | (cases hq; done) | skip
  injection hq with hq; subst hq; exact xs_index (by kernel_rfl) Try.strings_Index_one _ _
theorem tab_ok : ∀ f v F, tab.fn f v = some F → okFun Try.prog f F = true := by
  intro f v F h
  simp only [tab] at h
  split at h <;> first | (cases h; done) | skip
  split at h <;> first | (cases h; done) | (injection h with h; subst h)
  · exact ck6
  · exact ck8
  · exact ck9
  · exact ck10
  · exact ck13
  · exact ck16
  · exact ck17
  · exact ck19
  · exact ck21
  · exact ck23
  · exact ck27
  · exact ck28
  · exact ck29
  · exact ck33
  · exact ck34
  · exact ck35
  · exact ck37
  · exact ck41
  · exact ck42
  · exact ck45
  · exact ck46
  · exact ck47
  · exact ck48
  · exact ck49
  · exact ck50
  · exact ck53
  · exact ck55
  · exact ck57
  · exact ck58
  · exact ck60
  · exact ck61
  · exact ck62
  · exact ck68
  · exact ck69
theorem tab_ext : ExtOk Try.prog tab := fun f v args heap n q h => by
  replace h : extF f args heap n = some q := h
  unfold extF at h
  split at h
  · rename_i e; subst e; exact ext36_ok _ _ _ _ _ h
  split at h
  · rename_i e; subst e; exact ext38_ok _ _ _ _ _ h
  split at h
  · rename_i e; subst e; exact ext50_ok _ _ _ _ _ h
  split at h
  · rename_i e; subst e; exact ext56_ok _ _ _ _ _ h
  · cases h
end Go.Proofs.Ytnodepfoahmcmaa.E
