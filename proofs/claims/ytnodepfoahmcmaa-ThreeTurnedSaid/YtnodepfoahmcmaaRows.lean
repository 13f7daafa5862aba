/-
  No cell of these rows narrows 'for every input' (looked for: loops, veiled, ifaces, maps, wideKeys, modest, calm, conditions, laid).
  DERIVED. THE GIVEN ROWS OF THIS SEAT. 5 by the template 'for every input the law returns true; each argument reads behind the call as it read before'; 0 by the template 'total and deterministic' (their statements: YtnodepfoahmcmaaTotals.lean).
  GIVEN WITH THE SEED: the statements are not yours to turn. If you find one false, say at which input.
  Laid BY PROGRAM, IN A SANDBOX (cutbox-rows.mjs): the forced cells as the released guide's own fill.sh prints them over the translation 10f21c9c3d3bdffc… (all of the seat's roots in one cut). By AI agents, Wed Nov 11 2026. No macro, syntax, notation, axiom, sorry.
-/
import Derived.Test.YtnodepfoahmcmaaChecked
import GoSem.Claim
import GoSem.ClaimJoined
import GoSem.ClaimMapViews
import Derived.JoinedTies
import Derived.KernelRfl
namespace Go.Proofs.Ytnodepfoahmcmaa
/- THE CELL 'sum', in the pinned program and in every row, IS THE sha256 OF THE DUMP (.gsa) THAT YtnodepfoahmcmaaProg.lean LOADS. Nothing in Lean hashes anything: it is a label: what it is worth is what the hold of that sum in a sandbox is worth. -/
noncomputable def Try.pinned : Pinned := { name := "ytnodepfoahmcmaa", sum := "10f21c9c3d3bdffc65c14a9b445289614c8599a87e98118e7fab5eca02c44640", checked := Try.checked }
namespace Rows
def none {H : Type} : Left H := { results := [], args := [] }

/-- 'graftagelaw12.ThreeMerges': WHATEVER THE INPUT: true; the input reads as it did. -/
def threeMergesSpec : ChangeSpec := { name := "threeMerges", fn := fun _ => fun
  | [d1, d2, d3] => { results := [.lit (.bool true)], args := [d1, d2, d3] }
  | _ => none }
def threeMergesRow : OpenClaim := { program := "ytnodepfoahmcmaa", sum := "10f21c9c3d3bdffc65c14a9b445289614c8599a87e98118e7fab5eca02c44640", func := "graftage/graftagelaw12.ThreeMerges", spec := "threeMerges", inPlace := ["internal/bytealg.IndexByteString", "internal/bytealg.IndexString", "internal/abi.NoEscape"], unfollowed := true, recurses := true, named := ["internal/bytealg.MaxLen"], apart := false }
def ThreeMergesSaid : Prop := threeMergesRow.holds Try.pinned (OpenSpec.ofChange threeMergesSpec)

/-- ITS FALSE NEIGHBOUR: 'it returns false'. Refute it at one input. -/
def threeMergesWrong : ChangeSpec := { name := "threeMerges", fn := fun _ => fun
  | [d1, d2, d3] => { results := [.lit (.bool false)], args := [d1, d2, d3] }
  | _ => none }
def ThreeMergesWrongFalsely : Prop := threeMergesRow.holds Try.pinned (OpenSpec.ofChange threeMergesWrong)

/-- 'graftagelaw12.ThreeTells': WHATEVER THE INPUT: true; the input reads as it did. -/
def threeTellsSpec : ChangeSpec := { name := "threeTells", fn := fun _ => fun
  | [d1, d2, d3, d4, d5] => { results := [.lit (.bool true)], args := [d1, d2, d3, d4, d5] }
  | _ => none }
def threeTellsRow : OpenClaim := { program := "ytnodepfoahmcmaa", sum := "10f21c9c3d3bdffc65c14a9b445289614c8599a87e98118e7fab5eca02c44640", func := "graftage/graftagelaw12.ThreeTells", spec := "threeTells", inPlace := ["internal/bytealg.IndexByteString", "internal/bytealg.IndexString", "internal/abi.NoEscape"], unfollowed := true, recurses := true, named := ["internal/bytealg.MaxLen"], apart := false }
def ThreeTellsSaid : Prop := threeTellsRow.holds Try.pinned (OpenSpec.ofChange threeTellsSpec)

/-- ITS FALSE NEIGHBOUR: 'it returns false'. Refute it at one input. -/
def threeTellsWrong : ChangeSpec := { name := "threeTells", fn := fun _ => fun
  | [d1, d2, d3, d4, d5] => { results := [.lit (.bool false)], args := [d1, d2, d3, d4, d5] }
  | _ => none }
def ThreeTellsWrongFalsely : Prop := threeTellsRow.holds Try.pinned (OpenSpec.ofChange threeTellsWrong)

/-- 'graftagelaw12.ThreeReads': WHATEVER THE INPUT: true; the input reads as it did. -/
def threeReadsSpec : ChangeSpec := { name := "threeReads", fn := fun _ => fun
  | [d] => { results := [.lit (.bool true)], args := [d] }
  | _ => none }
def threeReadsRow : OpenClaim := { program := "ytnodepfoahmcmaa", sum := "10f21c9c3d3bdffc65c14a9b445289614c8599a87e98118e7fab5eca02c44640", func := "graftage/graftagelaw12.ThreeReads", spec := "threeReads", inPlace := ["internal/bytealg.IndexByteString", "internal/bytealg.IndexString", "internal/abi.NoEscape"], unfollowed := true, recurses := true, named := ["internal/bytealg.MaxLen"], apart := false }
def ThreeReadsSaid : Prop := threeReadsRow.holds Try.pinned (OpenSpec.ofChange threeReadsSpec)

/-- ITS FALSE NEIGHBOUR: 'it returns false'. Refute it at one input. -/
def threeReadsWrong : ChangeSpec := { name := "threeReads", fn := fun _ => fun
  | [d] => { results := [.lit (.bool false)], args := [d] }
  | _ => none }
def ThreeReadsWrongFalsely : Prop := threeReadsRow.holds Try.pinned (OpenSpec.ofChange threeReadsWrong)

/-- 'graftagelaw12.ThreeTurned': WHATEVER THE INPUT: true; the input reads as it did. -/
def threeTurnedSpec : ChangeSpec := { name := "threeTurned", fn := fun _ => fun
  | [d1, d2, d3] => { results := [.lit (.bool true)], args := [d1, d2, d3] }
  | _ => none }
def threeTurnedRow : OpenClaim := { program := "ytnodepfoahmcmaa", sum := "10f21c9c3d3bdffc65c14a9b445289614c8599a87e98118e7fab5eca02c44640", func := "graftage/graftagelaw12.ThreeTurned", spec := "threeTurned", inPlace := ["internal/bytealg.IndexByteString", "internal/bytealg.IndexString", "internal/abi.NoEscape"], unfollowed := true, recurses := true, named := ["internal/bytealg.MaxLen"], apart := false }
def ThreeTurnedSaid : Prop := threeTurnedRow.holds Try.pinned (OpenSpec.ofChange threeTurnedSpec)

/-- ITS FALSE NEIGHBOUR: 'it returns false'. Refute it at one input. -/
def threeTurnedWrong : ChangeSpec := { name := "threeTurned", fn := fun _ => fun
  | [d1, d2, d3] => { results := [.lit (.bool false)], args := [d1, d2, d3] }
  | _ => none }
def ThreeTurnedWrongFalsely : Prop := threeTurnedRow.holds Try.pinned (OpenSpec.ofChange threeTurnedWrong)

/-- 'graftagelaw12.ThreeBack': WHATEVER THE INPUT: true; the input reads as it did. -/
def threeBackSpec : ChangeSpec := { name := "threeBack", fn := fun _ => fun
  | [d1, d2, d3, d4, d5] => { results := [.lit (.bool true)], args := [d1, d2, d3, d4, d5] }
  | _ => none }
def threeBackRow : OpenClaim := { program := "ytnodepfoahmcmaa", sum := "10f21c9c3d3bdffc65c14a9b445289614c8599a87e98118e7fab5eca02c44640", func := "graftage/graftagelaw12.ThreeBack", spec := "threeBack", inPlace := ["internal/bytealg.IndexByteString", "internal/bytealg.IndexString", "internal/abi.NoEscape"], unfollowed := true, recurses := true, named := ["internal/bytealg.MaxLen"], apart := false }
def ThreeBackSaid : Prop := threeBackRow.holds Try.pinned (OpenSpec.ofChange threeBackSpec)

/-- ITS FALSE NEIGHBOUR: 'it returns false'. Refute it at one input. -/
def threeBackWrong : ChangeSpec := { name := "threeBack", fn := fun _ => fun
  | [d1, d2, d3, d4, d5] => { results := [.lit (.bool false)], args := [d1, d2, d3, d4, d5] }
  | _ => none }
def ThreeBackWrongFalsely : Prop := threeBackRow.holds Try.pinned (OpenSpec.ofChange threeBackWrong)

/- THE SECOND FORM. 'bulk': how many values and letters a reading holds, each counted each time it is reached (what is shared counts as often as it is met; a slice's spare places count too). A statement '..UptoSaid' is the law's where the arguments, and the package variables that the reading takes, are together of bulk at most 1048576: NARROWER than '..Said'. Prove '..Said' where nothing that the law and all that it calls make is longer than what came in: it says more and counts as full. Else prove '..UptoSaid'. A law counts once. -/
mutual
def uptoBulk {H : Type} : DataW H → Nat
  | .lit (.string bytes) => bytes.length + 1
  | .lit _ => 1
  | .nil => 1
  | .ptr d => uptoBulk d + 1
  | .slice elems spare => uptoBulkAll elems + uptoBulkAll spare + 1
  | .agg parts => uptoBulkAll parts + 1
  | .iface _ d => uptoBulk d + 1
  | .map entries => uptoBulkEntries entries + 1
  | .held _ => 1
def uptoBulkAll {H : Type} : List (DataW H) → Nat
  | [] => 0
  | d :: r => uptoBulk d + uptoBulkAll r
def uptoBulkEntries {H : Type} : List (Lit × DataW H) → Nat
  | [] => 0
  | x :: r => uptoBulkEntry x + uptoBulkEntries r
def uptoBulkEntry {H : Type} : Lit × DataW H → Nat
  | (.string bytes, d) => bytes.length + uptoBulk d + 1
  | (_, d) => uptoBulk d + 1
 end
def uptoSmall : (H : Type) → List (DataW H) → Bool := fun _ ds => decide (uptoBulkAll ds ≤ 1048576)
def OpenSpec.upto (s : _root_.Go.ChangeSpec) : _root_.Go.OpenSpec := { _root_.Go.OpenSpec.ofChange s with cond := some uptoSmall }

/-- 'graftagelaw12.ThreeMerges', WHERE WHAT IT READS IS OF BULK AT MOST 1048576: true; the input reads as it did. -/
def threeMergesUptoRow : OpenClaim := { program := "ytnodepfoahmcmaa", sum := "10f21c9c3d3bdffc65c14a9b445289614c8599a87e98118e7fab5eca02c44640", func := "graftage/graftagelaw12.ThreeMerges", spec := "threeMerges", inPlace := ["internal/bytealg.IndexByteString", "internal/bytealg.IndexString", "internal/abi.NoEscape"], unfollowed := true, recurses := true, named := ["internal/bytealg.MaxLen"], apart := false, narrowed := true }
def ThreeMergesUptoSaid : Prop := threeMergesUptoRow.holds Try.pinned (OpenSpec.upto threeMergesSpec)

/-- 'graftagelaw12.ThreeTells', WHERE WHAT IT READS IS OF BULK AT MOST 1048576: true; the input reads as it did. -/
def threeTellsUptoRow : OpenClaim := { program := "ytnodepfoahmcmaa", sum := "10f21c9c3d3bdffc65c14a9b445289614c8599a87e98118e7fab5eca02c44640", func := "graftage/graftagelaw12.ThreeTells", spec := "threeTells", inPlace := ["internal/bytealg.IndexByteString", "internal/bytealg.IndexString", "internal/abi.NoEscape"], unfollowed := true, recurses := true, named := ["internal/bytealg.MaxLen"], apart := false, narrowed := true }
def ThreeTellsUptoSaid : Prop := threeTellsUptoRow.holds Try.pinned (OpenSpec.upto threeTellsSpec)

/-- 'graftagelaw12.ThreeReads', WHERE WHAT IT READS IS OF BULK AT MOST 1048576: true; the input reads as it did. -/
def threeReadsUptoRow : OpenClaim := { program := "ytnodepfoahmcmaa", sum := "10f21c9c3d3bdffc65c14a9b445289614c8599a87e98118e7fab5eca02c44640", func := "graftage/graftagelaw12.ThreeReads", spec := "threeReads", inPlace := ["internal/bytealg.IndexByteString", "internal/bytealg.IndexString", "internal/abi.NoEscape"], unfollowed := true, recurses := true, named := ["internal/bytealg.MaxLen"], apart := false, narrowed := true }
def ThreeReadsUptoSaid : Prop := threeReadsUptoRow.holds Try.pinned (OpenSpec.upto threeReadsSpec)

/-- 'graftagelaw12.ThreeTurned', WHERE WHAT IT READS IS OF BULK AT MOST 1048576: true; the input reads as it did. -/
def threeTurnedUptoRow : OpenClaim := { program := "ytnodepfoahmcmaa", sum := "10f21c9c3d3bdffc65c14a9b445289614c8599a87e98118e7fab5eca02c44640", func := "graftage/graftagelaw12.ThreeTurned", spec := "threeTurned", inPlace := ["internal/bytealg.IndexByteString", "internal/bytealg.IndexString", "internal/abi.NoEscape"], unfollowed := true, recurses := true, named := ["internal/bytealg.MaxLen"], apart := false, narrowed := true }
def ThreeTurnedUptoSaid : Prop := threeTurnedUptoRow.holds Try.pinned (OpenSpec.upto threeTurnedSpec)

/-- 'graftagelaw12.ThreeBack', WHERE WHAT IT READS IS OF BULK AT MOST 1048576: true; the input reads as it did. -/
def threeBackUptoRow : OpenClaim := { program := "ytnodepfoahmcmaa", sum := "10f21c9c3d3bdffc65c14a9b445289614c8599a87e98118e7fab5eca02c44640", func := "graftage/graftagelaw12.ThreeBack", spec := "threeBack", inPlace := ["internal/bytealg.IndexByteString", "internal/bytealg.IndexString", "internal/abi.NoEscape"], unfollowed := true, recurses := true, named := ["internal/bytealg.MaxLen"], apart := false, narrowed := true }
def ThreeBackUptoSaid : Prop := threeBackUptoRow.holds Try.pinned (OpenSpec.upto threeBackSpec)

end Rows
end Go.Proofs.Ytnodepfoahmcmaa
