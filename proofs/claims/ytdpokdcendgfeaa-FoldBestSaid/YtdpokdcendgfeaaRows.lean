/-
  No cell of these rows narrows 'for every input' (looked for: loops, veiled, ifaces, maps, wideKeys, modest, calm, conditions, laid).
  DERIVED. THE GIVEN ROWS OF THIS SEAT. 9 by the template 'for every input the law returns true; each argument reads behind the call as it read before'; 0 by the template 'total and deterministic' (their statements: YtdpokdcendgfeaaTotals.lean).
  GIVEN WITH THE SEED: the statements are not yours to turn. If you find one false, say at which input.
  Laid BY PROGRAM, IN A SANDBOX (cutbox-rows.mjs): the forced cells as the released guide's own fill.sh prints them over the translation 0d3ffaa87946d0b6… (all of the seat's roots in one cut). By AI agents, Wed Nov 11 2026. No macro, syntax, notation, axiom, sorry.
-/
import Derived.Test.YtdpokdcendgfeaaChecked
import GoSem.Claim
import GoSem.ClaimJoined
import GoSem.ClaimMapViews
import Derived.JoinedTies
import Derived.KernelRfl
namespace Go.Proofs.Ytdpokdcendgfeaa
/- THE CELL 'sum', in the pinned program and in every row, IS THE sha256 OF THE DUMP (.gsa) THAT YtdpokdcendgfeaaProg.lean LOADS. Nothing in Lean hashes anything: it is a label: what it is worth is what the hold of that sum in a sandbox is worth. -/
noncomputable def Try.pinned : Pinned := { name := "ytdpokdcendgfeaa", sum := "0d3ffaa87946d0b62c17100e17edb9eb82a686fe7094acc484c89d27fb55f0cd", checked := Try.checked }
namespace Rows
def none {H : Type} : Left H := { results := [], args := [] }

/-- 'winnowlaw14.GenMakes': WHATEVER THE INPUT: true; the input reads as it did. -/
def genMakesSpec : ChangeSpec := { name := "genMakes", fn := fun _ => fun
  | [d] => { results := [.lit (.bool true)], args := [d] }
  | _ => none }
def genMakesRow : OpenClaim := { program := "ytdpokdcendgfeaa", sum := "0d3ffaa87946d0b62c17100e17edb9eb82a686fe7094acc484c89d27fb55f0cd", func := "winnow/winnowlaw14.GenMakes", spec := "genMakes", unfollowed := true, recurses := true, apart := false }
def GenMakesSaid : Prop := genMakesRow.holds Try.pinned (OpenSpec.ofChange genMakesSpec)

/-- ITS FALSE NEIGHBOUR: 'it returns false'. Refute it at one input. -/
def genMakesWrong : ChangeSpec := { name := "genMakes", fn := fun _ => fun
  | [d] => { results := [.lit (.bool false)], args := [d] }
  | _ => none }
def GenMakesWrongFalsely : Prop := genMakesRow.holds Try.pinned (OpenSpec.ofChange genMakesWrong)

/-- 'winnowlaw14.GenOrigins': WHATEVER THE INPUT: true; the input reads as it did. -/
def genOriginsSpec : ChangeSpec := { name := "genOrigins", fn := fun _ => fun
  | [d] => { results := [.lit (.bool true)], args := [d] }
  | _ => none }
def genOriginsRow : OpenClaim := { program := "ytdpokdcendgfeaa", sum := "0d3ffaa87946d0b62c17100e17edb9eb82a686fe7094acc484c89d27fb55f0cd", func := "winnow/winnowlaw14.GenOrigins", spec := "genOrigins", unfollowed := true, recurses := true, apart := false }
def GenOriginsSaid : Prop := genOriginsRow.holds Try.pinned (OpenSpec.ofChange genOriginsSpec)

/-- ITS FALSE NEIGHBOUR: 'it returns false'. Refute it at one input. -/
def genOriginsWrong : ChangeSpec := { name := "genOrigins", fn := fun _ => fun
  | [d] => { results := [.lit (.bool false)], args := [d] }
  | _ => none }
def GenOriginsWrongFalsely : Prop := genOriginsRow.holds Try.pinned (OpenSpec.ofChange genOriginsWrong)

/-- 'winnowlaw14.GenMany': WHATEVER THE INPUT: true; the input reads as it did. -/
def genManySpec : ChangeSpec := { name := "genMany", fn := fun _ => fun
  | [d1, d2] => { results := [.lit (.bool true)], args := [d1, d2] }
  | _ => none }
def genManyRow : OpenClaim := { program := "ytdpokdcendgfeaa", sum := "0d3ffaa87946d0b62c17100e17edb9eb82a686fe7094acc484c89d27fb55f0cd", func := "winnow/winnowlaw14.GenMany", spec := "genMany", unfollowed := true, recurses := true, apart := false }
def GenManySaid : Prop := genManyRow.holds Try.pinned (OpenSpec.ofChange genManySpec)

/-- ITS FALSE NEIGHBOUR: 'it returns false'. Refute it at one input. -/
def genManyWrong : ChangeSpec := { name := "genMany", fn := fun _ => fun
  | [d1, d2] => { results := [.lit (.bool false)], args := [d1, d2] }
  | _ => none }
def GenManyWrongFalsely : Prop := genManyRow.holds Try.pinned (OpenSpec.ofChange genManyWrong)

/-- 'winnowlaw14.GenOwn': WHATEVER THE INPUT: true; the input reads as it did. -/
def genOwnSpec : ChangeSpec := { name := "genOwn", fn := fun _ => fun
  | [d] => { results := [.lit (.bool true)], args := [d] }
  | _ => none }
def genOwnRow : OpenClaim := { program := "ytdpokdcendgfeaa", sum := "0d3ffaa87946d0b62c17100e17edb9eb82a686fe7094acc484c89d27fb55f0cd", func := "winnow/winnowlaw14.GenOwn", spec := "genOwn", unfollowed := true, recurses := true, apart := false }
def GenOwnSaid : Prop := genOwnRow.holds Try.pinned (OpenSpec.ofChange genOwnSpec)

/-- ITS FALSE NEIGHBOUR: 'it returns false'. Refute it at one input. -/
def genOwnWrong : ChangeSpec := { name := "genOwn", fn := fun _ => fun
  | [d] => { results := [.lit (.bool false)], args := [d] }
  | _ => none }
def GenOwnWrongFalsely : Prop := genOwnRow.holds Try.pinned (OpenSpec.ofChange genOwnWrong)

/-- 'winnowlaw13.FoldNames': WHATEVER THE INPUT: true; the input reads as it did. -/
def foldNamesSpec : ChangeSpec := { name := "foldNames", fn := fun _ => fun
  | [] => { results := [.lit (.bool true)], args := [] }
  | _ => none }
def foldNamesRow : OpenClaim := { program := "ytdpokdcendgfeaa", sum := "0d3ffaa87946d0b62c17100e17edb9eb82a686fe7094acc484c89d27fb55f0cd", func := "winnow/winnowlaw13.FoldNames", spec := "foldNames", unfollowed := true, recurses := true, apart := false }
def FoldNamesSaid : Prop := foldNamesRow.holds Try.pinned (OpenSpec.ofChange foldNamesSpec)

/-- ITS FALSE NEIGHBOUR: 'it returns false'. Refute it at one input. -/
def foldNamesWrong : ChangeSpec := { name := "foldNames", fn := fun _ => fun
  | [] => { results := [.lit (.bool false)], args := [] }
  | _ => none }
def FoldNamesWrongFalsely : Prop := foldNamesRow.holds Try.pinned (OpenSpec.ofChange foldNamesWrong)

/-- 'winnowlaw13.FoldLefts': WHATEVER THE INPUT: true; the input reads as it did. -/
def foldLeftsSpec : ChangeSpec := { name := "foldLefts", fn := fun _ => fun
  | [d] => { results := [.lit (.bool true)], args := [d] }
  | _ => none }
def foldLeftsRow : OpenClaim := { program := "ytdpokdcendgfeaa", sum := "0d3ffaa87946d0b62c17100e17edb9eb82a686fe7094acc484c89d27fb55f0cd", func := "winnow/winnowlaw13.FoldLefts", spec := "foldLefts", unfollowed := true, recurses := true, apart := false }
def FoldLeftsSaid : Prop := foldLeftsRow.holds Try.pinned (OpenSpec.ofChange foldLeftsSpec)

/-- ITS FALSE NEIGHBOUR: 'it returns false'. Refute it at one input. -/
def foldLeftsWrong : ChangeSpec := { name := "foldLefts", fn := fun _ => fun
  | [d] => { results := [.lit (.bool false)], args := [d] }
  | _ => none }
def FoldLeftsWrongFalsely : Prop := foldLeftsRow.holds Try.pinned (OpenSpec.ofChange foldLeftsWrong)

/-- 'winnowlaw13.FoldBest': WHATEVER THE INPUT: true; the input reads as it did. -/
def foldBestSpec : ChangeSpec := { name := "foldBest", fn := fun _ => fun
  | [d] => { results := [.lit (.bool true)], args := [d] }
  | _ => none }
def foldBestRow : OpenClaim := { program := "ytdpokdcendgfeaa", sum := "0d3ffaa87946d0b62c17100e17edb9eb82a686fe7094acc484c89d27fb55f0cd", func := "winnow/winnowlaw13.FoldBest", spec := "foldBest", unfollowed := true, recurses := true, apart := false }
def FoldBestSaid : Prop := foldBestRow.holds Try.pinned (OpenSpec.ofChange foldBestSpec)

/-- ITS FALSE NEIGHBOUR: 'it returns false'. Refute it at one input. -/
def foldBestWrong : ChangeSpec := { name := "foldBest", fn := fun _ => fun
  | [d] => { results := [.lit (.bool false)], args := [d] }
  | _ => none }
def FoldBestWrongFalsely : Prop := foldBestRow.holds Try.pinned (OpenSpec.ofChange foldBestWrong)

/-- 'winnowlaw14.GenTaken': WHATEVER THE INPUT: true; the input reads as it did. -/
def genTakenSpec : ChangeSpec := { name := "genTaken", fn := fun _ => fun
  | [d] => { results := [.lit (.bool true)], args := [d] }
  | _ => none }
def genTakenRow : OpenClaim := { program := "ytdpokdcendgfeaa", sum := "0d3ffaa87946d0b62c17100e17edb9eb82a686fe7094acc484c89d27fb55f0cd", func := "winnow/winnowlaw14.GenTaken", spec := "genTaken", unfollowed := true, recurses := true, apart := false }
def GenTakenSaid : Prop := genTakenRow.holds Try.pinned (OpenSpec.ofChange genTakenSpec)

/-- ITS FALSE NEIGHBOUR: 'it returns false'. Refute it at one input. -/
def genTakenWrong : ChangeSpec := { name := "genTaken", fn := fun _ => fun
  | [d] => { results := [.lit (.bool false)], args := [d] }
  | _ => none }
def GenTakenWrongFalsely : Prop := genTakenRow.holds Try.pinned (OpenSpec.ofChange genTakenWrong)

/-- 'winnowlaw16.VerifyMade': WHATEVER THE INPUT: true; the input reads as it did. -/
def verifyMadeSpec : ChangeSpec := { name := "verifyMade", fn := fun _ => fun
  | [d] => { results := [.lit (.bool true)], args := [d] }
  | _ => none }
def verifyMadeRow : OpenClaim := { program := "ytdpokdcendgfeaa", sum := "0d3ffaa87946d0b62c17100e17edb9eb82a686fe7094acc484c89d27fb55f0cd", func := "winnow/winnowlaw16.VerifyMade", spec := "verifyMade", unfollowed := true, recurses := true, apart := false }
def VerifyMadeSaid : Prop := verifyMadeRow.holds Try.pinned (OpenSpec.ofChange verifyMadeSpec)

/-- ITS FALSE NEIGHBOUR: 'it returns false'. Refute it at one input. -/
def verifyMadeWrong : ChangeSpec := { name := "verifyMade", fn := fun _ => fun
  | [d] => { results := [.lit (.bool false)], args := [d] }
  | _ => none }
def VerifyMadeWrongFalsely : Prop := verifyMadeRow.holds Try.pinned (OpenSpec.ofChange verifyMadeWrong)

/- THE SECOND FORM. 'bulk': how many values and letters a reading holds, each counted each time it is reached (what is shared counts as often as it is met; a slice's spare places count too). A statement '..UptoSaid' is the law's where the arguments, and the package variables that the reading takes, are together of bulk at most 1048576: NARROWER than '..Said'. Prove '..Said' where nothing that the law and all that it calls make is longer than what came in: it says more and counts as full. Else prove '..UptoSaid'. A law counts once. -/
mutual
def uptoBulk {H : Type} : DataW H → Nat
  | .lit (.string bytes) => bytes.length + 1
  | .lit _ => 1
  | .nil => 1
  | .ptr d => uptoBulk d + 1
  | .slice elems spare => uptoBulkAll elems + uptoBulkAll spare + 1
  | .agg parts => uptoBulkAll parts + 1
  | .iface _ d => uptoBulk d + 1
  | .map entries => uptoBulkEntries entries + 1
  | .held _ => 1
def uptoBulkAll {H : Type} : List (DataW H) → Nat
  | [] => 0
  | d :: r => uptoBulk d + uptoBulkAll r
def uptoBulkEntries {H : Type} : List (Lit × DataW H) → Nat
  | [] => 0
  | x :: r => uptoBulkEntry x + uptoBulkEntries r
def uptoBulkEntry {H : Type} : Lit × DataW H → Nat
  | (.string bytes, d) => bytes.length + uptoBulk d + 1
  | (_, d) => uptoBulk d + 1
 end
def uptoSmall : (H : Type) → List (DataW H) → Bool := fun _ ds => decide (uptoBulkAll ds ≤ 1048576)
def OpenSpec.upto (s : _root_.Go.ChangeSpec) : _root_.Go.OpenSpec := { _root_.Go.OpenSpec.ofChange s with cond := some uptoSmall }

/-- 'winnowlaw14.GenMakes', WHERE WHAT IT READS IS OF BULK AT MOST 1048576: true; the input reads as it did. -/
def genMakesUptoRow : OpenClaim := { program := "ytdpokdcendgfeaa", sum := "0d3ffaa87946d0b62c17100e17edb9eb82a686fe7094acc484c89d27fb55f0cd", func := "winnow/winnowlaw14.GenMakes", spec := "genMakes", unfollowed := true, recurses := true, apart := false, narrowed := true }
def GenMakesUptoSaid : Prop := genMakesUptoRow.holds Try.pinned (OpenSpec.upto genMakesSpec)

/-- 'winnowlaw14.GenOrigins', WHERE WHAT IT READS IS OF BULK AT MOST 1048576: true; the input reads as it did. -/
def genOriginsUptoRow : OpenClaim := { program := "ytdpokdcendgfeaa", sum := "0d3ffaa87946d0b62c17100e17edb9eb82a686fe7094acc484c89d27fb55f0cd", func := "winnow/winnowlaw14.GenOrigins", spec := "genOrigins", unfollowed := true, recurses := true, apart := false, narrowed := true }
def GenOriginsUptoSaid : Prop := genOriginsUptoRow.holds Try.pinned (OpenSpec.upto genOriginsSpec)

/-- 'winnowlaw14.GenMany', WHERE WHAT IT READS IS OF BULK AT MOST 1048576: true; the input reads as it did. -/
def genManyUptoRow : OpenClaim := { program := "ytdpokdcendgfeaa", sum := "0d3ffaa87946d0b62c17100e17edb9eb82a686fe7094acc484c89d27fb55f0cd", func := "winnow/winnowlaw14.GenMany", spec := "genMany", unfollowed := true, recurses := true, apart := false, narrowed := true }
def GenManyUptoSaid : Prop := genManyUptoRow.holds Try.pinned (OpenSpec.upto genManySpec)

/-- 'winnowlaw14.GenOwn', WHERE WHAT IT READS IS OF BULK AT MOST 1048576: true; the input reads as it did. -/
def genOwnUptoRow : OpenClaim := { program := "ytdpokdcendgfeaa", sum := "0d3ffaa87946d0b62c17100e17edb9eb82a686fe7094acc484c89d27fb55f0cd", func := "winnow/winnowlaw14.GenOwn", spec := "genOwn", unfollowed := true, recurses := true, apart := false, narrowed := true }
def GenOwnUptoSaid : Prop := genOwnUptoRow.holds Try.pinned (OpenSpec.upto genOwnSpec)

/-- 'winnowlaw13.FoldNames', WHERE WHAT IT READS IS OF BULK AT MOST 1048576: true; the input reads as it did. -/
def foldNamesUptoRow : OpenClaim := { program := "ytdpokdcendgfeaa", sum := "0d3ffaa87946d0b62c17100e17edb9eb82a686fe7094acc484c89d27fb55f0cd", func := "winnow/winnowlaw13.FoldNames", spec := "foldNames", unfollowed := true, recurses := true, apart := false, narrowed := true }
def FoldNamesUptoSaid : Prop := foldNamesUptoRow.holds Try.pinned (OpenSpec.upto foldNamesSpec)

/-- 'winnowlaw13.FoldLefts', WHERE WHAT IT READS IS OF BULK AT MOST 1048576: true; the input reads as it did. -/
def foldLeftsUptoRow : OpenClaim := { program := "ytdpokdcendgfeaa", sum := "0d3ffaa87946d0b62c17100e17edb9eb82a686fe7094acc484c89d27fb55f0cd", func := "winnow/winnowlaw13.FoldLefts", spec := "foldLefts", unfollowed := true, recurses := true, apart := false, narrowed := true }
def FoldLeftsUptoSaid : Prop := foldLeftsUptoRow.holds Try.pinned (OpenSpec.upto foldLeftsSpec)

/-- 'winnowlaw13.FoldBest', WHERE WHAT IT READS IS OF BULK AT MOST 1048576: true; the input reads as it did. -/
def foldBestUptoRow : OpenClaim := { program := "ytdpokdcendgfeaa", sum := "0d3ffaa87946d0b62c17100e17edb9eb82a686fe7094acc484c89d27fb55f0cd", func := "winnow/winnowlaw13.FoldBest", spec := "foldBest", unfollowed := true, recurses := true, apart := false, narrowed := true }
def FoldBestUptoSaid : Prop := foldBestUptoRow.holds Try.pinned (OpenSpec.upto foldBestSpec)

/-- 'winnowlaw14.GenTaken', WHERE WHAT IT READS IS OF BULK AT MOST 1048576: true; the input reads as it did. -/
def genTakenUptoRow : OpenClaim := { program := "ytdpokdcendgfeaa", sum := "0d3ffaa87946d0b62c17100e17edb9eb82a686fe7094acc484c89d27fb55f0cd", func := "winnow/winnowlaw14.GenTaken", spec := "genTaken", unfollowed := true, recurses := true, apart := false, narrowed := true }
def GenTakenUptoSaid : Prop := genTakenUptoRow.holds Try.pinned (OpenSpec.upto genTakenSpec)

/-- 'winnowlaw16.VerifyMade', WHERE WHAT IT READS IS OF BULK AT MOST 1048576: true; the input reads as it did. -/
def verifyMadeUptoRow : OpenClaim := { program := "ytdpokdcendgfeaa", sum := "0d3ffaa87946d0b62c17100e17edb9eb82a686fe7094acc484c89d27fb55f0cd", func := "winnow/winnowlaw16.VerifyMade", spec := "verifyMade", unfollowed := true, recurses := true, apart := false, narrowed := true }
def VerifyMadeUptoSaid : Prop := verifyMadeUptoRow.holds Try.pinned (OpenSpec.upto verifyMadeSpec)

end Rows
end Go.Proofs.Ytdpokdcendgfeaa
