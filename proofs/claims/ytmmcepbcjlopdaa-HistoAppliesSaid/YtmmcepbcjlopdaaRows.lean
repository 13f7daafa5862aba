/-
  No cell of these rows narrows 'for every input' (looked for: loops, veiled, ifaces, maps, wideKeys, modest, calm, conditions, laid).
  DERIVED. THE GIVEN ROWS OF THIS SEAT. 5 by the template 'for every input the law returns true; each argument reads behind the call as it read before'; 0 by the template 'total and deterministic' (their statements: YtmmcepbcjlopdaaTotals.lean).
  GIVEN WITH THE SEED: the statements are not yours to turn. If you find one false, say at which input.
  Laid BY PROGRAM, IN A SANDBOX (cutbox-rows.mjs): the forced cells as the released guide's own fill.sh prints them over the translation f7645182b405f32d… (all of the seat's roots in one cut). By AI agents, Wed Nov 11 2026. No macro, syntax, notation, axiom, sorry.
-/
import Derived.Test.YtmmcepbcjlopdaaChecked
import GoSem.Claim
import GoSem.ClaimJoined
import GoSem.ClaimMapViews
import Derived.JoinedTies
import Derived.KernelRfl
namespace Go.Proofs.Ytmmcepbcjlopdaa
/- THE CELL 'sum', in the pinned program and in every row, IS THE sha256 OF THE DUMP (.gsa) THAT YtmmcepbcjlopdaaProg.lean LOADS. Nothing in Lean hashes anything: it is a label: what it is worth is what the hold of that sum in a sandbox is worth. -/
noncomputable def Try.pinned : Pinned := { name := "ytmmcepbcjlopdaa", sum := "f7645182b405f32d170e5f63ed6bd8ee668665d3234ecfc8c6f3111ac1d8639b", checked := Try.checked }
namespace Rows
def none {H : Type} : Left H := { results := [], args := [] }

/-- 'graftagelaw09.HistoScripts': WHATEVER THE INPUT: true; the input reads as it did. -/
def histoScriptsSpec : ChangeSpec := { name := "histoScripts", fn := fun _ => fun
  | [d1, d2] => { results := [.lit (.bool true)], args := [d1, d2] }
  | _ => none }
def histoScriptsRow : OpenClaim := { program := "ytmmcepbcjlopdaa", sum := "f7645182b405f32d170e5f63ed6bd8ee668665d3234ecfc8c6f3111ac1d8639b", func := "graftage/graftagelaw09.HistoScripts", spec := "histoScripts", unfollowed := true, recurses := true, apart := false }
def HistoScriptsSaid : Prop := histoScriptsRow.holds Try.pinned (OpenSpec.ofChange histoScriptsSpec)

/-- ITS FALSE NEIGHBOUR: 'it returns false'. Refute it at one input. -/
def histoScriptsWrong : ChangeSpec := { name := "histoScripts", fn := fun _ => fun
  | [d1, d2] => { results := [.lit (.bool false)], args := [d1, d2] }
  | _ => none }
def HistoScriptsWrongFalsely : Prop := histoScriptsRow.holds Try.pinned (OpenSpec.ofChange histoScriptsWrong)

/-- 'graftagelaw09.HistoAnchors': WHATEVER THE INPUT: true; the input reads as it did. -/
def histoAnchorsSpec : ChangeSpec := { name := "histoAnchors", fn := fun _ => fun
  | [d1, d2, d3] => { results := [.lit (.bool true)], args := [d1, d2, d3] }
  | _ => none }
def histoAnchorsRow : OpenClaim := { program := "ytmmcepbcjlopdaa", sum := "f7645182b405f32d170e5f63ed6bd8ee668665d3234ecfc8c6f3111ac1d8639b", func := "graftage/graftagelaw09.HistoAnchors", spec := "histoAnchors", unfollowed := true, recurses := true, apart := false }
def HistoAnchorsSaid : Prop := histoAnchorsRow.holds Try.pinned (OpenSpec.ofChange histoAnchorsSpec)

/-- ITS FALSE NEIGHBOUR: 'it returns false'. Refute it at one input. -/
def histoAnchorsWrong : ChangeSpec := { name := "histoAnchors", fn := fun _ => fun
  | [d1, d2, d3] => { results := [.lit (.bool false)], args := [d1, d2, d3] }
  | _ => none }
def HistoAnchorsWrongFalsely : Prop := histoAnchorsRow.holds Try.pinned (OpenSpec.ofChange histoAnchorsWrong)

/-- 'graftagelaw09.HistoRuns': WHATEVER THE INPUT: true; the input reads as it did. -/
def histoRunsSpec : ChangeSpec := { name := "histoRuns", fn := fun _ => fun
  | [d1, d2] => { results := [.lit (.bool true)], args := [d1, d2] }
  | _ => none }
def histoRunsRow : OpenClaim := { program := "ytmmcepbcjlopdaa", sum := "f7645182b405f32d170e5f63ed6bd8ee668665d3234ecfc8c6f3111ac1d8639b", func := "graftage/graftagelaw09.HistoRuns", spec := "histoRuns", unfollowed := true, recurses := true, apart := false }
def HistoRunsSaid : Prop := histoRunsRow.holds Try.pinned (OpenSpec.ofChange histoRunsSpec)

/-- ITS FALSE NEIGHBOUR: 'it returns false'. Refute it at one input. -/
def histoRunsWrong : ChangeSpec := { name := "histoRuns", fn := fun _ => fun
  | [d1, d2] => { results := [.lit (.bool false)], args := [d1, d2] }
  | _ => none }
def HistoRunsWrongFalsely : Prop := histoRunsRow.holds Try.pinned (OpenSpec.ofChange histoRunsWrong)

/-- 'graftagelaw09.HistoOnce': WHATEVER THE INPUT: true; the input reads as it did. -/
def histoOnceSpec : ChangeSpec := { name := "histoOnce", fn := fun _ => fun
  | [d1, d2, d3] => { results := [.lit (.bool true)], args := [d1, d2, d3] }
  | _ => none }
def histoOnceRow : OpenClaim := { program := "ytmmcepbcjlopdaa", sum := "f7645182b405f32d170e5f63ed6bd8ee668665d3234ecfc8c6f3111ac1d8639b", func := "graftage/graftagelaw09.HistoOnce", spec := "histoOnce", unfollowed := true, recurses := true, apart := false }
def HistoOnceSaid : Prop := histoOnceRow.holds Try.pinned (OpenSpec.ofChange histoOnceSpec)

/-- ITS FALSE NEIGHBOUR: 'it returns false'. Refute it at one input. -/
def histoOnceWrong : ChangeSpec := { name := "histoOnce", fn := fun _ => fun
  | [d1, d2, d3] => { results := [.lit (.bool false)], args := [d1, d2, d3] }
  | _ => none }
def HistoOnceWrongFalsely : Prop := histoOnceRow.holds Try.pinned (OpenSpec.ofChange histoOnceWrong)

/-- 'graftagelaw09.HistoApplies': WHATEVER THE INPUT: true; the input reads as it did. -/
def histoAppliesSpec : ChangeSpec := { name := "histoApplies", fn := fun _ => fun
  | [d1, d2] => { results := [.lit (.bool true)], args := [d1, d2] }
  | _ => none }
def histoAppliesRow : OpenClaim := { program := "ytmmcepbcjlopdaa", sum := "f7645182b405f32d170e5f63ed6bd8ee668665d3234ecfc8c6f3111ac1d8639b", func := "graftage/graftagelaw09.HistoApplies", spec := "histoApplies", unfollowed := true, recurses := true, apart := false }
def HistoAppliesSaid : Prop := histoAppliesRow.holds Try.pinned (OpenSpec.ofChange histoAppliesSpec)

/-- ITS FALSE NEIGHBOUR: 'it returns false'. Refute it at one input. -/
def histoAppliesWrong : ChangeSpec := { name := "histoApplies", fn := fun _ => fun
  | [d1, d2] => { results := [.lit (.bool false)], args := [d1, d2] }
  | _ => none }
def HistoAppliesWrongFalsely : Prop := histoAppliesRow.holds Try.pinned (OpenSpec.ofChange histoAppliesWrong)

/- THE SECOND FORM. 'bulk': how many values and letters a reading holds, each counted each time it is reached (what is shared counts as often as it is met; a slice's spare places count too). A statement '..UptoSaid' is the law's where the arguments, and the package variables that the reading takes, are together of bulk at most 1048576: NARROWER than '..Said'. Prove '..Said' where nothing that the law and all that it calls make is longer than what came in: it says more and counts as full. Else prove '..UptoSaid'. A law counts once. -/
mutual
def uptoBulk {H : Type} : DataW H → Nat
  | .lit (.string bytes) => bytes.length + 1
  | .lit _ => 1
  | .nil => 1
  | .ptr d => uptoBulk d + 1
  | .slice elems spare => uptoBulkAll elems + uptoBulkAll spare + 1
  | .agg parts => uptoBulkAll parts + 1
  | .iface _ d => uptoBulk d + 1
  | .map entries => uptoBulkEntries entries + 1
  | .held _ => 1
def uptoBulkAll {H : Type} : List (DataW H) → Nat
  | [] => 0
  | d :: r => uptoBulk d + uptoBulkAll r
def uptoBulkEntries {H : Type} : List (Lit × DataW H) → Nat
  | [] => 0
  | x :: r => uptoBulkEntry x + uptoBulkEntries r
def uptoBulkEntry {H : Type} : Lit × DataW H → Nat
  | (.string bytes, d) => bytes.length + uptoBulk d + 1
  | (_, d) => uptoBulk d + 1
 end
def uptoSmall : (H : Type) → List (DataW H) → Bool := fun _ ds => decide (uptoBulkAll ds ≤ 1048576)
def OpenSpec.upto (s : _root_.Go.ChangeSpec) : _root_.Go.OpenSpec := { _root_.Go.OpenSpec.ofChange s with cond := some uptoSmall }

/-- 'graftagelaw09.HistoScripts', WHERE WHAT IT READS IS OF BULK AT MOST 1048576: true; the input reads as it did. -/
def histoScriptsUptoRow : OpenClaim := { program := "ytmmcepbcjlopdaa", sum := "f7645182b405f32d170e5f63ed6bd8ee668665d3234ecfc8c6f3111ac1d8639b", func := "graftage/graftagelaw09.HistoScripts", spec := "histoScripts", unfollowed := true, recurses := true, apart := false, narrowed := true }
def HistoScriptsUptoSaid : Prop := histoScriptsUptoRow.holds Try.pinned (OpenSpec.upto histoScriptsSpec)

/-- 'graftagelaw09.HistoAnchors', WHERE WHAT IT READS IS OF BULK AT MOST 1048576: true; the input reads as it did. -/
def histoAnchorsUptoRow : OpenClaim := { program := "ytmmcepbcjlopdaa", sum := "f7645182b405f32d170e5f63ed6bd8ee668665d3234ecfc8c6f3111ac1d8639b", func := "graftage/graftagelaw09.HistoAnchors", spec := "histoAnchors", unfollowed := true, recurses := true, apart := false, narrowed := true }
def HistoAnchorsUptoSaid : Prop := histoAnchorsUptoRow.holds Try.pinned (OpenSpec.upto histoAnchorsSpec)

/-- 'graftagelaw09.HistoRuns', WHERE WHAT IT READS IS OF BULK AT MOST 1048576: true; the input reads as it did. -/
def histoRunsUptoRow : OpenClaim := { program := "ytmmcepbcjlopdaa", sum := "f7645182b405f32d170e5f63ed6bd8ee668665d3234ecfc8c6f3111ac1d8639b", func := "graftage/graftagelaw09.HistoRuns", spec := "histoRuns", unfollowed := true, recurses := true, apart := false, narrowed := true }
def HistoRunsUptoSaid : Prop := histoRunsUptoRow.holds Try.pinned (OpenSpec.upto histoRunsSpec)

/-- 'graftagelaw09.HistoOnce', WHERE WHAT IT READS IS OF BULK AT MOST 1048576: true; the input reads as it did. -/
def histoOnceUptoRow : OpenClaim := { program := "ytmmcepbcjlopdaa", sum := "f7645182b405f32d170e5f63ed6bd8ee668665d3234ecfc8c6f3111ac1d8639b", func := "graftage/graftagelaw09.HistoOnce", spec := "histoOnce", unfollowed := true, recurses := true, apart := false, narrowed := true }
def HistoOnceUptoSaid : Prop := histoOnceUptoRow.holds Try.pinned (OpenSpec.upto histoOnceSpec)

/-- 'graftagelaw09.HistoApplies', WHERE WHAT IT READS IS OF BULK AT MOST 1048576: true; the input reads as it did. -/
def histoAppliesUptoRow : OpenClaim := { program := "ytmmcepbcjlopdaa", sum := "f7645182b405f32d170e5f63ed6bd8ee668665d3234ecfc8c6f3111ac1d8639b", func := "graftage/graftagelaw09.HistoApplies", spec := "histoApplies", unfollowed := true, recurses := true, apart := false, narrowed := true }
def HistoAppliesUptoSaid : Prop := histoAppliesUptoRow.holds Try.pinned (OpenSpec.upto histoAppliesSpec)

end Rows
end Go.Proofs.Ytmmcepbcjlopdaa
