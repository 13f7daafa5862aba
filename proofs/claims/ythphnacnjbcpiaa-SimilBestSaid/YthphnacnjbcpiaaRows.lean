/-
  No cell of these rows narrows 'for every input' (looked for: loops, veiled, ifaces, maps, wideKeys, modest, calm, conditions, laid).
  DERIVED. THE GIVEN ROWS OF THIS SEAT. 5 by the template 'for every input the law returns true; each argument reads behind the call as it read before'; 0 by the template 'total and deterministic' (their statements: YthphnacnjbcpiaaTotals.lean).
  GIVEN WITH THE SEED: the statements are not yours to turn. If you find one false, say at which input.
  Laid BY PROGRAM, IN A SANDBOX (cutbox-rows.mjs): the forced cells as the released guide's own fill.sh prints them over the translation 29f20a5b2ec91c62… (all of the seat's roots in one cut). By AI agents, Wed Nov 11 2026. No macro, syntax, notation, axiom, sorry.
-/
import Derived.Test.YthphnacnjbcpiaaChecked
import GoSem.Claim
import GoSem.ClaimJoined
import GoSem.ClaimMapViews
import Derived.JoinedTies
import Derived.KernelRfl
namespace Go.Proofs.Ythphnacnjbcpiaa
/- THE CELL 'sum', in the pinned program and in every row, IS THE sha256 OF THE DUMP (.gsa) THAT YthphnacnjbcpiaaProg.lean LOADS. Nothing in Lean hashes anything: it is a label: what it is worth is what the hold of that sum in a sandbox is worth. -/
noncomputable def Try.pinned : Pinned := { name := "ythphnacnjbcpiaa", sum := "29f20a5b2ec91c62753d66b3b88c7274ba66d1637b96f1e8add21a2e5f9ac759", checked := Try.checked }
namespace Rows
def none {H : Type} : Left H := { results := [], args := [] }

/-- 'graftagelaw11.SimilBoth': WHATEVER THE INPUT: true; the input reads as it did. -/
def similBothSpec : ChangeSpec := { name := "similBoth", fn := fun _ => fun
  | [d1, d2] => { results := [.lit (.bool true)], args := [d1, d2] }
  | _ => none }
def similBothRow : OpenClaim := { program := "ythphnacnjbcpiaa", sum := "29f20a5b2ec91c62753d66b3b88c7274ba66d1637b96f1e8add21a2e5f9ac759", func := "graftage/graftagelaw11.SimilBoth", spec := "similBoth", inPlace := ["internal/bytealg.IndexByteString", "internal/bytealg.IndexString"], unfollowed := true, recurses := true, named := ["internal/bytealg.MaxLen"], apart := false }
def SimilBothSaid : Prop := similBothRow.holds Try.pinned (OpenSpec.ofChange similBothSpec)

/-- ITS FALSE NEIGHBOUR: 'it returns false'. Refute it at one input. -/
def similBothWrong : ChangeSpec := { name := "similBoth", fn := fun _ => fun
  | [d1, d2] => { results := [.lit (.bool false)], args := [d1, d2] }
  | _ => none }
def SimilBothWrongFalsely : Prop := similBothRow.holds Try.pinned (OpenSpec.ofChange similBothWrong)

/-- 'graftagelaw11.SimilLess': WHATEVER THE INPUT: true; the input reads as it did. -/
def similLessSpec : ChangeSpec := { name := "similLess", fn := fun _ => fun
  | [d1, d2, d3] => { results := [.lit (.bool true)], args := [d1, d2, d3] }
  | _ => none }
def similLessRow : OpenClaim := { program := "ythphnacnjbcpiaa", sum := "29f20a5b2ec91c62753d66b3b88c7274ba66d1637b96f1e8add21a2e5f9ac759", func := "graftage/graftagelaw11.SimilLess", spec := "similLess", inPlace := ["internal/bytealg.IndexByteString", "internal/bytealg.IndexString"], unfollowed := true, recurses := true, named := ["internal/bytealg.MaxLen"], apart := false }
def SimilLessSaid : Prop := similLessRow.holds Try.pinned (OpenSpec.ofChange similLessSpec)

/-- ITS FALSE NEIGHBOUR: 'it returns false'. Refute it at one input. -/
def similLessWrong : ChangeSpec := { name := "similLess", fn := fun _ => fun
  | [d1, d2, d3] => { results := [.lit (.bool false)], args := [d1, d2, d3] }
  | _ => none }
def SimilLessWrongFalsely : Prop := similLessRow.holds Try.pinned (OpenSpec.ofChange similLessWrong)

/-- 'graftagelaw11.SimilOrder': WHATEVER THE INPUT: true; the input reads as it did. -/
def similOrderSpec : ChangeSpec := { name := "similOrder", fn := fun _ => fun
  | [d1, d2] => { results := [.lit (.bool true)], args := [d1, d2] }
  | _ => none }
def similOrderRow : OpenClaim := { program := "ythphnacnjbcpiaa", sum := "29f20a5b2ec91c62753d66b3b88c7274ba66d1637b96f1e8add21a2e5f9ac759", func := "graftage/graftagelaw11.SimilOrder", spec := "similOrder", inPlace := ["internal/bytealg.IndexByteString", "internal/bytealg.IndexString"], unfollowed := true, recurses := true, named := ["internal/bytealg.MaxLen"], apart := false }
def SimilOrderSaid : Prop := similOrderRow.holds Try.pinned (OpenSpec.ofChange similOrderSpec)

/-- ITS FALSE NEIGHBOUR: 'it returns false'. Refute it at one input. -/
def similOrderWrong : ChangeSpec := { name := "similOrder", fn := fun _ => fun
  | [d1, d2] => { results := [.lit (.bool false)], args := [d1, d2] }
  | _ => none }
def SimilOrderWrongFalsely : Prop := similOrderRow.holds Try.pinned (OpenSpec.ofChange similOrderWrong)

/-- 'graftagelaw11.SimilTells': WHATEVER THE INPUT: true; the input reads as it did. -/
def similTellsSpec : ChangeSpec := { name := "similTells", fn := fun _ => fun
  | [d1, d2, d3] => { results := [.lit (.bool true)], args := [d1, d2, d3] }
  | _ => none }
def similTellsRow : OpenClaim := { program := "ythphnacnjbcpiaa", sum := "29f20a5b2ec91c62753d66b3b88c7274ba66d1637b96f1e8add21a2e5f9ac759", func := "graftage/graftagelaw11.SimilTells", spec := "similTells", inPlace := ["internal/bytealg.IndexByteString", "internal/bytealg.IndexString"], unfollowed := true, recurses := true, named := ["internal/bytealg.MaxLen"], apart := false }
def SimilTellsSaid : Prop := similTellsRow.holds Try.pinned (OpenSpec.ofChange similTellsSpec)

/-- ITS FALSE NEIGHBOUR: 'it returns false'. Refute it at one input. -/
def similTellsWrong : ChangeSpec := { name := "similTells", fn := fun _ => fun
  | [d1, d2, d3] => { results := [.lit (.bool false)], args := [d1, d2, d3] }
  | _ => none }
def SimilTellsWrongFalsely : Prop := similTellsRow.holds Try.pinned (OpenSpec.ofChange similTellsWrong)

/-- 'graftagelaw11.SimilBest': WHATEVER THE INPUT: true; the input reads as it did. -/
def similBestSpec : ChangeSpec := { name := "similBest", fn := fun _ => fun
  | [d1, d2] => { results := [.lit (.bool true)], args := [d1, d2] }
  | _ => none }
def similBestRow : OpenClaim := { program := "ythphnacnjbcpiaa", sum := "29f20a5b2ec91c62753d66b3b88c7274ba66d1637b96f1e8add21a2e5f9ac759", func := "graftage/graftagelaw11.SimilBest", spec := "similBest", inPlace := ["internal/bytealg.IndexByteString", "internal/bytealg.IndexString"], unfollowed := true, recurses := true, named := ["internal/bytealg.MaxLen"], apart := false }
def SimilBestSaid : Prop := similBestRow.holds Try.pinned (OpenSpec.ofChange similBestSpec)

/-- ITS FALSE NEIGHBOUR: 'it returns false'. Refute it at one input. -/
def similBestWrong : ChangeSpec := { name := "similBest", fn := fun _ => fun
  | [d1, d2] => { results := [.lit (.bool false)], args := [d1, d2] }
  | _ => none }
def SimilBestWrongFalsely : Prop := similBestRow.holds Try.pinned (OpenSpec.ofChange similBestWrong)

/- THE SECOND FORM. 'bulk': how many values and letters a reading holds, each counted each time it is reached (what is shared counts as often as it is met; a slice's spare places count too). A statement '..UptoSaid' is the law's where the arguments, and the package variables that the reading takes, are together of bulk at most 1048576: NARROWER than '..Said'. Prove '..Said' where nothing that the law and all that it calls make is longer than what came in: it says more and counts as full. Else prove '..UptoSaid'. A law counts once. -/
mutual
def uptoBulk {H : Type} : DataW H → Nat
  | .lit (.string bytes) => bytes.length + 1
  | .lit _ => 1
  | .nil => 1
  | .ptr d => uptoBulk d + 1
  | .slice elems spare => uptoBulkAll elems + uptoBulkAll spare + 1
  | .agg parts => uptoBulkAll parts + 1
  | .iface _ d => uptoBulk d + 1
  | .map entries => uptoBulkEntries entries + 1
  | .held _ => 1
def uptoBulkAll {H : Type} : List (DataW H) → Nat
  | [] => 0
  | d :: r => uptoBulk d + uptoBulkAll r
def uptoBulkEntries {H : Type} : List (Lit × DataW H) → Nat
  | [] => 0
  | x :: r => uptoBulkEntry x + uptoBulkEntries r
def uptoBulkEntry {H : Type} : Lit × DataW H → Nat
  | (.string bytes, d) => bytes.length + uptoBulk d + 1
  | (_, d) => uptoBulk d + 1
 end
def uptoSmall : (H : Type) → List (DataW H) → Bool := fun _ ds => decide (uptoBulkAll ds ≤ 1048576)
def OpenSpec.upto (s : _root_.Go.ChangeSpec) : _root_.Go.OpenSpec := { _root_.Go.OpenSpec.ofChange s with cond := some uptoSmall }

/-- 'graftagelaw11.SimilBoth', WHERE WHAT IT READS IS OF BULK AT MOST 1048576: true; the input reads as it did. -/
def similBothUptoRow : OpenClaim := { program := "ythphnacnjbcpiaa", sum := "29f20a5b2ec91c62753d66b3b88c7274ba66d1637b96f1e8add21a2e5f9ac759", func := "graftage/graftagelaw11.SimilBoth", spec := "similBoth", inPlace := ["internal/bytealg.IndexByteString", "internal/bytealg.IndexString"], unfollowed := true, recurses := true, named := ["internal/bytealg.MaxLen"], apart := false, narrowed := true }
def SimilBothUptoSaid : Prop := similBothUptoRow.holds Try.pinned (OpenSpec.upto similBothSpec)

/-- 'graftagelaw11.SimilLess', WHERE WHAT IT READS IS OF BULK AT MOST 1048576: true; the input reads as it did. -/
def similLessUptoRow : OpenClaim := { program := "ythphnacnjbcpiaa", sum := "29f20a5b2ec91c62753d66b3b88c7274ba66d1637b96f1e8add21a2e5f9ac759", func := "graftage/graftagelaw11.SimilLess", spec := "similLess", inPlace := ["internal/bytealg.IndexByteString", "internal/bytealg.IndexString"], unfollowed := true, recurses := true, named := ["internal/bytealg.MaxLen"], apart := false, narrowed := true }
def SimilLessUptoSaid : Prop := similLessUptoRow.holds Try.pinned (OpenSpec.upto similLessSpec)

/-- 'graftagelaw11.SimilOrder', WHERE WHAT IT READS IS OF BULK AT MOST 1048576: true; the input reads as it did. -/
def similOrderUptoRow : OpenClaim := { program := "ythphnacnjbcpiaa", sum := "29f20a5b2ec91c62753d66b3b88c7274ba66d1637b96f1e8add21a2e5f9ac759", func := "graftage/graftagelaw11.SimilOrder", spec := "similOrder", inPlace := ["internal/bytealg.IndexByteString", "internal/bytealg.IndexString"], unfollowed := true, recurses := true, named := ["internal/bytealg.MaxLen"], apart := false, narrowed := true }
def SimilOrderUptoSaid : Prop := similOrderUptoRow.holds Try.pinned (OpenSpec.upto similOrderSpec)

/-- 'graftagelaw11.SimilTells', WHERE WHAT IT READS IS OF BULK AT MOST 1048576: true; the input reads as it did. -/
def similTellsUptoRow : OpenClaim := { program := "ythphnacnjbcpiaa", sum := "29f20a5b2ec91c62753d66b3b88c7274ba66d1637b96f1e8add21a2e5f9ac759", func := "graftage/graftagelaw11.SimilTells", spec := "similTells", inPlace := ["internal/bytealg.IndexByteString", "internal/bytealg.IndexString"], unfollowed := true, recurses := true, named := ["internal/bytealg.MaxLen"], apart := false, narrowed := true }
def SimilTellsUptoSaid : Prop := similTellsUptoRow.holds Try.pinned (OpenSpec.upto similTellsSpec)

/-- 'graftagelaw11.SimilBest', WHERE WHAT IT READS IS OF BULK AT MOST 1048576: true; the input reads as it did. -/
def similBestUptoRow : OpenClaim := { program := "ythphnacnjbcpiaa", sum := "29f20a5b2ec91c62753d66b3b88c7274ba66d1637b96f1e8add21a2e5f9ac759", func := "graftage/graftagelaw11.SimilBest", spec := "similBest", inPlace := ["internal/bytealg.IndexByteString", "internal/bytealg.IndexString"], unfollowed := true, recurses := true, named := ["internal/bytealg.MaxLen"], apart := false, narrowed := true }
def SimilBestUptoSaid : Prop := similBestUptoRow.holds Try.pinned (OpenSpec.upto similBestSpec)

end Rows
end Go.Proofs.Ythphnacnjbcpiaa
