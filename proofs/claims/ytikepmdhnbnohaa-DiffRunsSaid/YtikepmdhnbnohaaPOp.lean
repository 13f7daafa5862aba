-- written by mp.py, a program of this session, over the kit's printer
import Derived.Test.YtikepmdhnbnohaaOpens
import Derived.Test.YtikepmdhnbnohaaPx0
import Derived.KernelRfl
namespace Go.Proofs.Ytikepmdhnbnohaa.P
open Go.RowKit Go.Proofs.Ytikepmdhnbnohaa.Op Go.Proofs.YtikepmdhnbnohaaW.PrintWords
set_option linter.unusedVariables false
def Good44 (x : S44) : Prop := (Lit.int .i64 x.f0).wf = true ∧ (Lit.int .i64 x.f1).wf = true ∧ (Lit.int .i64 x.f2).wf = true ∧ (Lit.int .i64 x.f3).wf = true
theorem op44 : Opens Try.prog 44 k44 Good44 := (opens_struct (fun x : S44 => (x.f0, x.f1, x.f2, x.f3)) (by rintro ⟨a0, a1, a2, a3⟩; exact ⟨⟨a0, a1, a2, a3⟩, rfl⟩) Try.underlying44 (by kernel_rfl) (opensF_cons rfl (opens_int Try.underlying3 (by kernel_rfl) : Opens Try.prog 3 (Kd.int .i64) _) (opensF_cons rfl (opens_int Try.underlying3 (by kernel_rfl) : Opens Try.prog 3 (Kd.int .i64) _) (opensF_cons rfl (opens_int Try.underlying3 (by kernel_rfl) : Opens Try.prog 3 (Kd.int .i64) _) (opensF_one rfl (opens_int Try.underlying3 (by kernel_rfl) : Opens Try.prog 3 (Kd.int .i64) _)))))).weaken (fun x hx => hx)
def Good32 (x : S32) : Prop := (Lit.int .i64 x.f0).wf = true ∧ (Lit.int .i64 x.f1).wf = true ∧ (Lit.int .i64 x.f2).wf = true
theorem op32 : Opens Try.prog 32 k32 Good32 := (opens_struct (fun x : S32 => (x.f0, x.f1, x.f2)) (by rintro ⟨a0, a1, a2⟩; exact ⟨⟨a0, a1, a2⟩, rfl⟩) Try.underlying32 (by kernel_rfl) (opensF_cons rfl (opens_int Try.underlying3 (by kernel_rfl) : Opens Try.prog 3 (Kd.int .i64) _) (opensF_cons rfl (opens_int Try.underlying3 (by kernel_rfl) : Opens Try.prog 3 (Kd.int .i64) _) (opensF_one rfl (opens_int Try.underlying3 (by kernel_rfl) : Opens Try.prog 3 (Kd.int .i64) _))))).weaken (fun x hx => hx)
end Go.Proofs.Ytikepmdhnbnohaa.P
