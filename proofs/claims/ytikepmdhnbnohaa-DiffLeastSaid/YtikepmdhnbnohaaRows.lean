/-
  No cell of these rows narrows 'for every input' (looked for: loops, veiled, ifaces, maps, wideKeys, modest, calm, conditions, laid).
  DERIVED. THE GIVEN ROWS OF THIS SEAT. 6 by the template 'for every input the law returns true; each argument reads behind the call as it read before'; 0 by the template 'total and deterministic' (their statements: YtikepmdhnbnohaaTotals.lean).
  GIVEN WITH THE SEED: the statements are not yours to turn. If you find one false, say at which input.
  Laid BY PROGRAM, IN A SANDBOX (cutbox-rows.mjs): the forced cells as the released guide's own fill.sh prints them over the translation ddb37fee544203ce… (all of the seat's roots in one cut). By AI agents, Wed Nov 11 2026. No macro, syntax, notation, axiom, sorry.
-/
import Derived.Test.YtikepmdhnbnohaaChecked
import GoSem.Claim
import GoSem.ClaimJoined
import GoSem.ClaimMapViews
import Derived.JoinedTies
import Derived.KernelRfl
namespace Go.Proofs.Ytikepmdhnbnohaa
/- THE CELL 'sum', in the pinned program and in every row, IS THE sha256 OF THE DUMP (.gsa) THAT YtikepmdhnbnohaaProg.lean LOADS. Nothing in Lean hashes anything: it is a label: what it is worth is what the hold of that sum in a sandbox is worth. -/
noncomputable def Try.pinned : Pinned := { name := "ytikepmdhnbnohaa", sum := "ddb37fee544203ce63b2b90006e9c1d70174ea0ca2f24f8105cec88bad5f48f9", checked := Try.checked }
namespace Rows
def none {H : Type} : Left H := { results := [], args := [] }

/-- 'graftagelaw08.DiffLeast': WHATEVER THE INPUT: true; the input reads as it did. -/
def diffLeastSpec : ChangeSpec := { name := "diffLeast", fn := fun _ => fun
  | [d1, d2] => { results := [.lit (.bool true)], args := [d1, d2] }
  | _ => none }
def diffLeastRow : OpenClaim := { program := "ytikepmdhnbnohaa", sum := "ddb37fee544203ce63b2b90006e9c1d70174ea0ca2f24f8105cec88bad5f48f9", func := "graftage/graftagelaw08.DiffLeast", spec := "diffLeast", unfollowed := true, recurses := true, apart := false }
def DiffLeastSaid : Prop := diffLeastRow.holds Try.pinned (OpenSpec.ofChange diffLeastSpec)

/-- ITS FALSE NEIGHBOUR: 'it returns false'. Refute it at one input. -/
def diffLeastWrong : ChangeSpec := { name := "diffLeast", fn := fun _ => fun
  | [d1, d2] => { results := [.lit (.bool false)], args := [d1, d2] }
  | _ => none }
def DiffLeastWrongFalsely : Prop := diffLeastRow.holds Try.pinned (OpenSpec.ofChange diffLeastWrong)

/-- 'graftagelaw08.DiffNone': WHATEVER THE INPUT: true; the input reads as it did. -/
def diffNoneSpec : ChangeSpec := { name := "diffNone", fn := fun _ => fun
  | [d1, d2, d3] => { results := [.lit (.bool true)], args := [d1, d2, d3] }
  | _ => none }
def diffNoneRow : OpenClaim := { program := "ytikepmdhnbnohaa", sum := "ddb37fee544203ce63b2b90006e9c1d70174ea0ca2f24f8105cec88bad5f48f9", func := "graftage/graftagelaw08.DiffNone", spec := "diffNone", unfollowed := true, recurses := true, apart := false }
def DiffNoneSaid : Prop := diffNoneRow.holds Try.pinned (OpenSpec.ofChange diffNoneSpec)

/-- ITS FALSE NEIGHBOUR: 'it returns false'. Refute it at one input. -/
def diffNoneWrong : ChangeSpec := { name := "diffNone", fn := fun _ => fun
  | [d1, d2, d3] => { results := [.lit (.bool false)], args := [d1, d2, d3] }
  | _ => none }
def DiffNoneWrongFalsely : Prop := diffNoneRow.holds Try.pinned (OpenSpec.ofChange diffNoneWrong)

/-- 'graftagelaw08.DiffRight': WHATEVER THE INPUT: true; the input reads as it did. -/
def diffRightSpec : ChangeSpec := { name := "diffRight", fn := fun _ => fun
  | [d1, d2, d3] => { results := [.lit (.bool true)], args := [d1, d2, d3] }
  | _ => none }
def diffRightRow : OpenClaim := { program := "ytikepmdhnbnohaa", sum := "ddb37fee544203ce63b2b90006e9c1d70174ea0ca2f24f8105cec88bad5f48f9", func := "graftage/graftagelaw08.DiffRight", spec := "diffRight", unfollowed := true, recurses := true, apart := false }
def DiffRightSaid : Prop := diffRightRow.holds Try.pinned (OpenSpec.ofChange diffRightSpec)

/-- ITS FALSE NEIGHBOUR: 'it returns false'. Refute it at one input. -/
def diffRightWrong : ChangeSpec := { name := "diffRight", fn := fun _ => fun
  | [d1, d2, d3] => { results := [.lit (.bool false)], args := [d1, d2, d3] }
  | _ => none }
def DiffRightWrongFalsely : Prop := diffRightRow.holds Try.pinned (OpenSpec.ofChange diffRightWrong)

/-- 'graftagelaw08.DiffBack': WHATEVER THE INPUT: true; the input reads as it did. -/
def diffBackSpec : ChangeSpec := { name := "diffBack", fn := fun _ => fun
  | [d1, d2, d3] => { results := [.lit (.bool true)], args := [d1, d2, d3] }
  | _ => none }
def diffBackRow : OpenClaim := { program := "ytikepmdhnbnohaa", sum := "ddb37fee544203ce63b2b90006e9c1d70174ea0ca2f24f8105cec88bad5f48f9", func := "graftage/graftagelaw08.DiffBack", spec := "diffBack", unfollowed := true, recurses := true, apart := false }
def DiffBackSaid : Prop := diffBackRow.holds Try.pinned (OpenSpec.ofChange diffBackSpec)

/-- ITS FALSE NEIGHBOUR: 'it returns false'. Refute it at one input. -/
def diffBackWrong : ChangeSpec := { name := "diffBack", fn := fun _ => fun
  | [d1, d2, d3] => { results := [.lit (.bool false)], args := [d1, d2, d3] }
  | _ => none }
def DiffBackWrongFalsely : Prop := diffBackRow.holds Try.pinned (OpenSpec.ofChange diffBackWrong)

/-- 'graftagelaw08.DiffRuns': WHATEVER THE INPUT: true; the input reads as it did. -/
def diffRunsSpec : ChangeSpec := { name := "diffRuns", fn := fun _ => fun
  | [d1, d2, d3, d4] => { results := [.lit (.bool true)], args := [d1, d2, d3, d4] }
  | _ => none }
def diffRunsRow : OpenClaim := { program := "ytikepmdhnbnohaa", sum := "ddb37fee544203ce63b2b90006e9c1d70174ea0ca2f24f8105cec88bad5f48f9", func := "graftage/graftagelaw08.DiffRuns", spec := "diffRuns", unfollowed := true, recurses := true, apart := false }
def DiffRunsSaid : Prop := diffRunsRow.holds Try.pinned (OpenSpec.ofChange diffRunsSpec)

/-- ITS FALSE NEIGHBOUR: 'it returns false'. Refute it at one input. -/
def diffRunsWrong : ChangeSpec := { name := "diffRuns", fn := fun _ => fun
  | [d1, d2, d3, d4] => { results := [.lit (.bool false)], args := [d1, d2, d3, d4] }
  | _ => none }
def DiffRunsWrongFalsely : Prop := diffRunsRow.holds Try.pinned (OpenSpec.ofChange diffRunsWrong)

/-- 'graftagelaw08.DiffStay': WHATEVER THE INPUT: true; the input reads as it did. -/
def diffStaySpec : ChangeSpec := { name := "diffStay", fn := fun _ => fun
  | [d1, d2, d3] => { results := [.lit (.bool true)], args := [d1, d2, d3] }
  | _ => none }
def diffStayRow : OpenClaim := { program := "ytikepmdhnbnohaa", sum := "ddb37fee544203ce63b2b90006e9c1d70174ea0ca2f24f8105cec88bad5f48f9", func := "graftage/graftagelaw08.DiffStay", spec := "diffStay", unfollowed := true, recurses := true, apart := false }
def DiffStaySaid : Prop := diffStayRow.holds Try.pinned (OpenSpec.ofChange diffStaySpec)

/-- ITS FALSE NEIGHBOUR: 'it returns false'. Refute it at one input. -/
def diffStayWrong : ChangeSpec := { name := "diffStay", fn := fun _ => fun
  | [d1, d2, d3] => { results := [.lit (.bool false)], args := [d1, d2, d3] }
  | _ => none }
def DiffStayWrongFalsely : Prop := diffStayRow.holds Try.pinned (OpenSpec.ofChange diffStayWrong)

/- THE SECOND FORM. 'bulk': how many values and letters a reading holds, each counted each time it is reached (what is shared counts as often as it is met; a slice's spare places count too). A statement '..UptoSaid' is the law's where the arguments, and the package variables that the reading takes, are together of bulk at most 1048576: NARROWER than '..Said'. Prove '..Said' where nothing that the law and all that it calls make is longer than what came in: it says more and counts as full. Else prove '..UptoSaid'. A law counts once. -/
mutual
def uptoBulk {H : Type} : DataW H → Nat
  | .lit (.string bytes) => bytes.length + 1
  | .lit _ => 1
  | .nil => 1
  | .ptr d => uptoBulk d + 1
  | .slice elems spare => uptoBulkAll elems + uptoBulkAll spare + 1
  | .agg parts => uptoBulkAll parts + 1
  | .iface _ d => uptoBulk d + 1
  | .map entries => uptoBulkEntries entries + 1
  | .held _ => 1
def uptoBulkAll {H : Type} : List (DataW H) → Nat
  | [] => 0
  | d :: r => uptoBulk d + uptoBulkAll r
def uptoBulkEntries {H : Type} : List (Lit × DataW H) → Nat
  | [] => 0
  | x :: r => uptoBulkEntry x + uptoBulkEntries r
def uptoBulkEntry {H : Type} : Lit × DataW H → Nat
  | (.string bytes, d) => bytes.length + uptoBulk d + 1
  | (_, d) => uptoBulk d + 1
 end
def uptoSmall : (H : Type) → List (DataW H) → Bool := fun _ ds => decide (uptoBulkAll ds ≤ 1048576)
def OpenSpec.upto (s : _root_.Go.ChangeSpec) : _root_.Go.OpenSpec := { _root_.Go.OpenSpec.ofChange s with cond := some uptoSmall }

/-- 'graftagelaw08.DiffLeast', WHERE WHAT IT READS IS OF BULK AT MOST 1048576: true; the input reads as it did. -/
def diffLeastUptoRow : OpenClaim := { program := "ytikepmdhnbnohaa", sum := "ddb37fee544203ce63b2b90006e9c1d70174ea0ca2f24f8105cec88bad5f48f9", func := "graftage/graftagelaw08.DiffLeast", spec := "diffLeast", unfollowed := true, recurses := true, apart := false, narrowed := true }
def DiffLeastUptoSaid : Prop := diffLeastUptoRow.holds Try.pinned (OpenSpec.upto diffLeastSpec)

/-- 'graftagelaw08.DiffNone', WHERE WHAT IT READS IS OF BULK AT MOST 1048576: true; the input reads as it did. -/
def diffNoneUptoRow : OpenClaim := { program := "ytikepmdhnbnohaa", sum := "ddb37fee544203ce63b2b90006e9c1d70174ea0ca2f24f8105cec88bad5f48f9", func := "graftage/graftagelaw08.DiffNone", spec := "diffNone", unfollowed := true, recurses := true, apart := false, narrowed := true }
def DiffNoneUptoSaid : Prop := diffNoneUptoRow.holds Try.pinned (OpenSpec.upto diffNoneSpec)

/-- 'graftagelaw08.DiffRight', WHERE WHAT IT READS IS OF BULK AT MOST 1048576: true; the input reads as it did. -/
def diffRightUptoRow : OpenClaim := { program := "ytikepmdhnbnohaa", sum := "ddb37fee544203ce63b2b90006e9c1d70174ea0ca2f24f8105cec88bad5f48f9", func := "graftage/graftagelaw08.DiffRight", spec := "diffRight", unfollowed := true, recurses := true, apart := false, narrowed := true }
def DiffRightUptoSaid : Prop := diffRightUptoRow.holds Try.pinned (OpenSpec.upto diffRightSpec)

/-- 'graftagelaw08.DiffBack', WHERE WHAT IT READS IS OF BULK AT MOST 1048576: true; the input reads as it did. -/
def diffBackUptoRow : OpenClaim := { program := "ytikepmdhnbnohaa", sum := "ddb37fee544203ce63b2b90006e9c1d70174ea0ca2f24f8105cec88bad5f48f9", func := "graftage/graftagelaw08.DiffBack", spec := "diffBack", unfollowed := true, recurses := true, apart := false, narrowed := true }
def DiffBackUptoSaid : Prop := diffBackUptoRow.holds Try.pinned (OpenSpec.upto diffBackSpec)

/-- 'graftagelaw08.DiffRuns', WHERE WHAT IT READS IS OF BULK AT MOST 1048576: true; the input reads as it did. -/
def diffRunsUptoRow : OpenClaim := { program := "ytikepmdhnbnohaa", sum := "ddb37fee544203ce63b2b90006e9c1d70174ea0ca2f24f8105cec88bad5f48f9", func := "graftage/graftagelaw08.DiffRuns", spec := "diffRuns", unfollowed := true, recurses := true, apart := false, narrowed := true }
def DiffRunsUptoSaid : Prop := diffRunsUptoRow.holds Try.pinned (OpenSpec.upto diffRunsSpec)

/-- 'graftagelaw08.DiffStay', WHERE WHAT IT READS IS OF BULK AT MOST 1048576: true; the input reads as it did. -/
def diffStayUptoRow : OpenClaim := { program := "ytikepmdhnbnohaa", sum := "ddb37fee544203ce63b2b90006e9c1d70174ea0ca2f24f8105cec88bad5f48f9", func := "graftage/graftagelaw08.DiffStay", spec := "diffStay", unfollowed := true, recurses := true, apart := false, narrowed := true }
def DiffStayUptoSaid : Prop := diffStayUptoRow.holds Try.pinned (OpenSpec.upto diffStaySpec)

end Rows
end Go.Proofs.Ytikepmdhnbnohaa
