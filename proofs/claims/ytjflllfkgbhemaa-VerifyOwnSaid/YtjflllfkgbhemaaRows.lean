/-
  No cell of these rows narrows 'for every input' (looked for: loops, veiled, ifaces, maps, wideKeys, modest, calm, conditions, laid).
  DERIVED. THE GIVEN ROWS OF THIS SEAT. 7 by the template 'for every input the law returns true; each argument reads behind the call as it read before'; 0 by the template 'total and deterministic' (their statements: YtjflllfkgbhemaaTotals.lean).
  GIVEN WITH THE SEED: the statements are not yours to turn. If you find one false, say at which input.
  Laid BY PROGRAM, IN A SANDBOX (cutbox-rows.mjs): the forced cells as the released guide's own fill.sh prints them over the translation 4a7ba7e01669f461… (all of the seat's roots in one cut). By AI agents, Wed Nov 11 2026. No macro, syntax, notation, axiom, sorry.
-/
import Derived.Test.YtjflllfkgbhemaaChecked
import GoSem.Claim
import GoSem.ClaimJoined
import GoSem.ClaimMapViews
import Derived.JoinedTies
import Derived.KernelRfl
namespace Go.Proofs.Ytjflllfkgbhemaa
/- THE CELL 'sum', in the pinned program and in every row, IS THE sha256 OF THE DUMP (.gsa) THAT YtjflllfkgbhemaaProg.lean LOADS. Nothing in Lean hashes anything: it is a label: what it is worth is what the hold of that sum in a sandbox is worth. -/
noncomputable def Try.pinned : Pinned := { name := "ytjflllfkgbhemaa", sum := "4a7ba7e01669f461bc7eeb5a5d5ffe7f4bd0dcbea5652a8cd857c08559b038f0", checked := Try.checked }
namespace Rows
def none {H : Type} : Left H := { results := [], args := [] }

/-- 'winnowlaw16.VerifyNames': WHATEVER THE INPUT: true; the input reads as it did. -/
def verifyNamesSpec : ChangeSpec := { name := "verifyNames", fn := fun _ => fun
  | [] => { results := [.lit (.bool true)], args := [] }
  | _ => none }
def verifyNamesRow : OpenClaim := { program := "ytjflllfkgbhemaa", sum := "4a7ba7e01669f461bc7eeb5a5d5ffe7f4bd0dcbea5652a8cd857c08559b038f0", func := "winnow/winnowlaw16.VerifyNames", spec := "verifyNames", apart := false }
def VerifyNamesSaid : Prop := verifyNamesRow.holds Try.pinned (OpenSpec.ofChange verifyNamesSpec)

/-- ITS FALSE NEIGHBOUR: 'it returns false'. Refute it at one input. -/
def verifyNamesWrong : ChangeSpec := { name := "verifyNames", fn := fun _ => fun
  | [] => { results := [.lit (.bool false)], args := [] }
  | _ => none }
def VerifyNamesWrongFalsely : Prop := verifyNamesRow.holds Try.pinned (OpenSpec.ofChange verifyNamesWrong)

/-- 'winnowlaw16.VerifyRuns': WHATEVER THE INPUT: true; the input reads as it did. -/
def verifyRunsSpec : ChangeSpec := { name := "verifyRuns", fn := fun _ => fun
  | [d] => { results := [.lit (.bool true)], args := [d] }
  | _ => none }
def verifyRunsRow : OpenClaim := { program := "ytjflllfkgbhemaa", sum := "4a7ba7e01669f461bc7eeb5a5d5ffe7f4bd0dcbea5652a8cd857c08559b038f0", func := "winnow/winnowlaw16.VerifyRuns", spec := "verifyRuns", apart := false }
def VerifyRunsSaid : Prop := verifyRunsRow.holds Try.pinned (OpenSpec.ofChange verifyRunsSpec)

/-- ITS FALSE NEIGHBOUR: 'it returns false'. Refute it at one input. -/
def verifyRunsWrong : ChangeSpec := { name := "verifyRuns", fn := fun _ => fun
  | [d] => { results := [.lit (.bool false)], args := [d] }
  | _ => none }
def VerifyRunsWrongFalsely : Prop := verifyRunsRow.holds Try.pinned (OpenSpec.ofChange verifyRunsWrong)

/-- 'winnowlaw16.VerifyHeights': WHATEVER THE INPUT: true; the input reads as it did. -/
def verifyHeightsSpec : ChangeSpec := { name := "verifyHeights", fn := fun _ => fun
  | [d] => { results := [.lit (.bool true)], args := [d] }
  | _ => none }
def verifyHeightsRow : OpenClaim := { program := "ytjflllfkgbhemaa", sum := "4a7ba7e01669f461bc7eeb5a5d5ffe7f4bd0dcbea5652a8cd857c08559b038f0", func := "winnow/winnowlaw16.VerifyHeights", spec := "verifyHeights", apart := false }
def VerifyHeightsSaid : Prop := verifyHeightsRow.holds Try.pinned (OpenSpec.ofChange verifyHeightsSpec)

/-- ITS FALSE NEIGHBOUR: 'it returns false'. Refute it at one input. -/
def verifyHeightsWrong : ChangeSpec := { name := "verifyHeights", fn := fun _ => fun
  | [d] => { results := [.lit (.bool false)], args := [d] }
  | _ => none }
def VerifyHeightsWrongFalsely : Prop := verifyHeightsRow.holds Try.pinned (OpenSpec.ofChange verifyHeightsWrong)

/-- 'winnowlaw16.VerifyNests': WHATEVER THE INPUT: true; the input reads as it did. -/
def verifyNestsSpec : ChangeSpec := { name := "verifyNests", fn := fun _ => fun
  | [d1, d2] => { results := [.lit (.bool true)], args := [d1, d2] }
  | _ => none }
def verifyNestsRow : OpenClaim := { program := "ytjflllfkgbhemaa", sum := "4a7ba7e01669f461bc7eeb5a5d5ffe7f4bd0dcbea5652a8cd857c08559b038f0", func := "winnow/winnowlaw16.VerifyNests", spec := "verifyNests", apart := false }
def VerifyNestsSaid : Prop := verifyNestsRow.holds Try.pinned (OpenSpec.ofChange verifyNestsSpec)

/-- ITS FALSE NEIGHBOUR: 'it returns false'. Refute it at one input. -/
def verifyNestsWrong : ChangeSpec := { name := "verifyNests", fn := fun _ => fun
  | [d1, d2] => { results := [.lit (.bool false)], args := [d1, d2] }
  | _ => none }
def VerifyNestsWrongFalsely : Prop := verifyNestsRow.holds Try.pinned (OpenSpec.ofChange verifyNestsWrong)

/-- 'winnowlaw16.VerifyStacks': WHATEVER THE INPUT: true; the input reads as it did. -/
def verifyStacksSpec : ChangeSpec := { name := "verifyStacks", fn := fun _ => fun
  | [d1, d2] => { results := [.lit (.bool true)], args := [d1, d2] }
  | _ => none }
def verifyStacksRow : OpenClaim := { program := "ytjflllfkgbhemaa", sum := "4a7ba7e01669f461bc7eeb5a5d5ffe7f4bd0dcbea5652a8cd857c08559b038f0", func := "winnow/winnowlaw16.VerifyStacks", spec := "verifyStacks", apart := false }
def VerifyStacksSaid : Prop := verifyStacksRow.holds Try.pinned (OpenSpec.ofChange verifyStacksSpec)

/-- ITS FALSE NEIGHBOUR: 'it returns false'. Refute it at one input. -/
def verifyStacksWrong : ChangeSpec := { name := "verifyStacks", fn := fun _ => fun
  | [d1, d2] => { results := [.lit (.bool false)], args := [d1, d2] }
  | _ => none }
def VerifyStacksWrongFalsely : Prop := verifyStacksRow.holds Try.pinned (OpenSpec.ofChange verifyStacksWrong)

/-- 'winnowlaw16.VerifyRounds': WHATEVER THE INPUT: true; the input reads as it did. -/
def verifyRoundsSpec : ChangeSpec := { name := "verifyRounds", fn := fun _ => fun
  | [d1, d2] => { results := [.lit (.bool true)], args := [d1, d2] }
  | _ => none }
def verifyRoundsRow : OpenClaim := { program := "ytjflllfkgbhemaa", sum := "4a7ba7e01669f461bc7eeb5a5d5ffe7f4bd0dcbea5652a8cd857c08559b038f0", func := "winnow/winnowlaw16.VerifyRounds", spec := "verifyRounds", apart := false }
def VerifyRoundsSaid : Prop := verifyRoundsRow.holds Try.pinned (OpenSpec.ofChange verifyRoundsSpec)

/-- ITS FALSE NEIGHBOUR: 'it returns false'. Refute it at one input. -/
def verifyRoundsWrong : ChangeSpec := { name := "verifyRounds", fn := fun _ => fun
  | [d1, d2] => { results := [.lit (.bool false)], args := [d1, d2] }
  | _ => none }
def VerifyRoundsWrongFalsely : Prop := verifyRoundsRow.holds Try.pinned (OpenSpec.ofChange verifyRoundsWrong)

/-- 'winnowlaw16.VerifyOwn': WHATEVER THE INPUT: true; the input reads as it did. -/
def verifyOwnSpec : ChangeSpec := { name := "verifyOwn", fn := fun _ => fun
  | [d] => { results := [.lit (.bool true)], args := [d] }
  | _ => none }
def verifyOwnRow : OpenClaim := { program := "ytjflllfkgbhemaa", sum := "4a7ba7e01669f461bc7eeb5a5d5ffe7f4bd0dcbea5652a8cd857c08559b038f0", func := "winnow/winnowlaw16.VerifyOwn", spec := "verifyOwn", recurses := true, apart := false }
def VerifyOwnSaid : Prop := verifyOwnRow.holds Try.pinned (OpenSpec.ofChange verifyOwnSpec)

/-- ITS FALSE NEIGHBOUR: 'it returns false'. Refute it at one input. -/
def verifyOwnWrong : ChangeSpec := { name := "verifyOwn", fn := fun _ => fun
  | [d] => { results := [.lit (.bool false)], args := [d] }
  | _ => none }
def VerifyOwnWrongFalsely : Prop := verifyOwnRow.holds Try.pinned (OpenSpec.ofChange verifyOwnWrong)

/- THE SECOND FORM. 'bulk': how many values and letters a reading holds, each counted each time it is reached (what is shared counts as often as it is met; a slice's spare places count too). A statement '..UptoSaid' is the law's where the arguments, and the package variables that the reading takes, are together of bulk at most 1048576: NARROWER than '..Said'. Prove '..Said' where nothing that the law and all that it calls make is longer than what came in: it says more and counts as full. Else prove '..UptoSaid'. A law counts once. -/
mutual
def uptoBulk {H : Type} : DataW H → Nat
  | .lit (.string bytes) => bytes.length + 1
  | .lit _ => 1
  | .nil => 1
  | .ptr d => uptoBulk d + 1
  | .slice elems spare => uptoBulkAll elems + uptoBulkAll spare + 1
  | .agg parts => uptoBulkAll parts + 1
  | .iface _ d => uptoBulk d + 1
  | .map entries => uptoBulkEntries entries + 1
  | .held _ => 1
def uptoBulkAll {H : Type} : List (DataW H) → Nat
  | [] => 0
  | d :: r => uptoBulk d + uptoBulkAll r
def uptoBulkEntries {H : Type} : List (Lit × DataW H) → Nat
  | [] => 0
  | x :: r => uptoBulkEntry x + uptoBulkEntries r
def uptoBulkEntry {H : Type} : Lit × DataW H → Nat
  | (.string bytes, d) => bytes.length + uptoBulk d + 1
  | (_, d) => uptoBulk d + 1
 end
def uptoSmall : (H : Type) → List (DataW H) → Bool := fun _ ds => decide (uptoBulkAll ds ≤ 1048576)
def OpenSpec.upto (s : _root_.Go.ChangeSpec) : _root_.Go.OpenSpec := { _root_.Go.OpenSpec.ofChange s with cond := some uptoSmall }

/-- 'winnowlaw16.VerifyNames', WHERE WHAT IT READS IS OF BULK AT MOST 1048576: true; the input reads as it did. -/
def verifyNamesUptoRow : OpenClaim := { program := "ytjflllfkgbhemaa", sum := "4a7ba7e01669f461bc7eeb5a5d5ffe7f4bd0dcbea5652a8cd857c08559b038f0", func := "winnow/winnowlaw16.VerifyNames", spec := "verifyNames", apart := false, narrowed := true }
def VerifyNamesUptoSaid : Prop := verifyNamesUptoRow.holds Try.pinned (OpenSpec.upto verifyNamesSpec)

/-- 'winnowlaw16.VerifyRuns', WHERE WHAT IT READS IS OF BULK AT MOST 1048576: true; the input reads as it did. -/
def verifyRunsUptoRow : OpenClaim := { program := "ytjflllfkgbhemaa", sum := "4a7ba7e01669f461bc7eeb5a5d5ffe7f4bd0dcbea5652a8cd857c08559b038f0", func := "winnow/winnowlaw16.VerifyRuns", spec := "verifyRuns", apart := false, narrowed := true }
def VerifyRunsUptoSaid : Prop := verifyRunsUptoRow.holds Try.pinned (OpenSpec.upto verifyRunsSpec)

/-- 'winnowlaw16.VerifyHeights', WHERE WHAT IT READS IS OF BULK AT MOST 1048576: true; the input reads as it did. -/
def verifyHeightsUptoRow : OpenClaim := { program := "ytjflllfkgbhemaa", sum := "4a7ba7e01669f461bc7eeb5a5d5ffe7f4bd0dcbea5652a8cd857c08559b038f0", func := "winnow/winnowlaw16.VerifyHeights", spec := "verifyHeights", apart := false, narrowed := true }
def VerifyHeightsUptoSaid : Prop := verifyHeightsUptoRow.holds Try.pinned (OpenSpec.upto verifyHeightsSpec)

/-- 'winnowlaw16.VerifyNests', WHERE WHAT IT READS IS OF BULK AT MOST 1048576: true; the input reads as it did. -/
def verifyNestsUptoRow : OpenClaim := { program := "ytjflllfkgbhemaa", sum := "4a7ba7e01669f461bc7eeb5a5d5ffe7f4bd0dcbea5652a8cd857c08559b038f0", func := "winnow/winnowlaw16.VerifyNests", spec := "verifyNests", apart := false, narrowed := true }
def VerifyNestsUptoSaid : Prop := verifyNestsUptoRow.holds Try.pinned (OpenSpec.upto verifyNestsSpec)

/-- 'winnowlaw16.VerifyStacks', WHERE WHAT IT READS IS OF BULK AT MOST 1048576: true; the input reads as it did. -/
def verifyStacksUptoRow : OpenClaim := { program := "ytjflllfkgbhemaa", sum := "4a7ba7e01669f461bc7eeb5a5d5ffe7f4bd0dcbea5652a8cd857c08559b038f0", func := "winnow/winnowlaw16.VerifyStacks", spec := "verifyStacks", apart := false, narrowed := true }
def VerifyStacksUptoSaid : Prop := verifyStacksUptoRow.holds Try.pinned (OpenSpec.upto verifyStacksSpec)

/-- 'winnowlaw16.VerifyRounds', WHERE WHAT IT READS IS OF BULK AT MOST 1048576: true; the input reads as it did. -/
def verifyRoundsUptoRow : OpenClaim := { program := "ytjflllfkgbhemaa", sum := "4a7ba7e01669f461bc7eeb5a5d5ffe7f4bd0dcbea5652a8cd857c08559b038f0", func := "winnow/winnowlaw16.VerifyRounds", spec := "verifyRounds", apart := false, narrowed := true }
def VerifyRoundsUptoSaid : Prop := verifyRoundsUptoRow.holds Try.pinned (OpenSpec.upto verifyRoundsSpec)

/-- 'winnowlaw16.VerifyOwn', WHERE WHAT IT READS IS OF BULK AT MOST 1048576: true; the input reads as it did. -/
def verifyOwnUptoRow : OpenClaim := { program := "ytjflllfkgbhemaa", sum := "4a7ba7e01669f461bc7eeb5a5d5ffe7f4bd0dcbea5652a8cd857c08559b038f0", func := "winnow/winnowlaw16.VerifyOwn", spec := "verifyOwn", recurses := true, apart := false, narrowed := true }
def VerifyOwnUptoSaid : Prop := verifyOwnUptoRow.holds Try.pinned (OpenSpec.upto verifyOwnSpec)

end Rows
end Go.Proofs.Ytjflllfkgbhemaa
