/-
  No cell of these rows narrows 'for every input' (looked for: loops, veiled, ifaces, maps, wideKeys, modest, calm, conditions, laid).
  DERIVED. THE GIVEN ROWS OF THIS SEAT. 7 by the template 'for every input the law returns true; each argument reads behind the call as it read before'; 0 by the template 'total and deterministic' (their statements: YtbjmmfoklnhiiaaTotals.lean).
  GIVEN WITH THE SEED: the statements are not yours to turn. If you find one false, say at which input.
  Laid BY PROGRAM, IN A SANDBOX (cutbox-rows.mjs): the forced cells as the released guide's own fill.sh prints them over the translation 54778640905c2d86… (all of the seat's roots in one cut). By AI agents, Wed Nov 11 2026. No macro, syntax, notation, axiom, sorry.
-/
import Derived.Test.YtbjmmfoklnhiiaaChecked
import GoSem.Claim
import GoSem.ClaimJoined
import GoSem.ClaimMapViews
import Derived.JoinedTies
import Derived.KernelRfl
namespace Go.Proofs.Ytbjmmfoklnhiiaa
/- THE CELL 'sum', in the pinned program and in every row, IS THE sha256 OF THE DUMP (.gsa) THAT YtbjmmfoklnhiiaaProg.lean LOADS. Nothing in Lean hashes anything: it is a label: what it is worth is what the hold of that sum in a sandbox is worth. -/
noncomputable def Try.pinned : Pinned := { name := "ytbjmmfoklnhiiaa", sum := "54778640905c2d863c3d069d3d7e65f608e48db894e7b024ab94b46de35e74ac", checked := Try.checked }
namespace Rows
def none {H : Type} : Left H := { results := [], args := [] }

/-- 'winnowlaw5.ArenaNames': WHATEVER THE INPUT: true; the input reads as it did. -/
def arenaNamesSpec : ChangeSpec := { name := "arenaNames", fn := fun _ => fun
  | [] => { results := [.lit (.bool true)], args := [] }
  | _ => none }
def arenaNamesRow : OpenClaim := { program := "ytbjmmfoklnhiiaa", sum := "54778640905c2d863c3d069d3d7e65f608e48db894e7b024ab94b46de35e74ac", func := "winnow/winnowlaw5.ArenaNames", spec := "arenaNames", apart := false }
def ArenaNamesSaid : Prop := arenaNamesRow.holds Try.pinned (OpenSpec.ofChange arenaNamesSpec)

/-- ITS FALSE NEIGHBOUR: 'it returns false'. Refute it at one input. -/
def arenaNamesWrong : ChangeSpec := { name := "arenaNames", fn := fun _ => fun
  | [] => { results := [.lit (.bool false)], args := [] }
  | _ => none }
def ArenaNamesWrongFalsely : Prop := arenaNamesRow.holds Try.pinned (OpenSpec.ofChange arenaNamesWrong)

/-- 'winnowlaw17.AbsmNames': WHATEVER THE INPUT: true; the input reads as it did. -/
def absmNamesSpec : ChangeSpec := { name := "absmNames", fn := fun _ => fun
  | [] => { results := [.lit (.bool true)], args := [] }
  | _ => none }
def absmNamesRow : OpenClaim := { program := "ytbjmmfoklnhiiaa", sum := "54778640905c2d863c3d069d3d7e65f608e48db894e7b024ab94b46de35e74ac", func := "winnow/winnowlaw17.AbsmNames", spec := "absmNames", apart := false }
def AbsmNamesSaid : Prop := absmNamesRow.holds Try.pinned (OpenSpec.ofChange absmNamesSpec)

/-- ITS FALSE NEIGHBOUR: 'it returns false'. Refute it at one input. -/
def absmNamesWrong : ChangeSpec := { name := "absmNames", fn := fun _ => fun
  | [] => { results := [.lit (.bool false)], args := [] }
  | _ => none }
def AbsmNamesWrongFalsely : Prop := absmNamesRow.holds Try.pinned (OpenSpec.ofChange absmNamesWrong)

/-- 'winnowlaw5.ArenaWhole': WHATEVER THE INPUT: true; the input reads as it did. -/
def arenaWholeSpec : ChangeSpec := { name := "arenaWhole", fn := fun _ => fun
  | [d1, d2, d3] => { results := [.lit (.bool true)], args := [d1, d2, d3] }
  | _ => none }
def arenaWholeRow : OpenClaim := { program := "ytbjmmfoklnhiiaa", sum := "54778640905c2d863c3d069d3d7e65f608e48db894e7b024ab94b46de35e74ac", func := "winnow/winnowlaw5.ArenaWhole", spec := "arenaWhole", unfollowed := true, recurses := true, apart := false }
def ArenaWholeSaid : Prop := arenaWholeRow.holds Try.pinned (OpenSpec.ofChange arenaWholeSpec)

/-- ITS FALSE NEIGHBOUR: 'it returns false'. Refute it at one input. -/
def arenaWholeWrong : ChangeSpec := { name := "arenaWhole", fn := fun _ => fun
  | [d1, d2, d3] => { results := [.lit (.bool false)], args := [d1, d2, d3] }
  | _ => none }
def ArenaWholeWrongFalsely : Prop := arenaWholeRow.holds Try.pinned (OpenSpec.ofChange arenaWholeWrong)

/-- 'winnowlaw5.ArenaSeqs': WHATEVER THE INPUT: true; the input reads as it did. -/
def arenaSeqsSpec : ChangeSpec := { name := "arenaSeqs", fn := fun _ => fun
  | [d1, d2, d3, d4, d5] => { results := [.lit (.bool true)], args := [d1, d2, d3, d4, d5] }
  | _ => none }
def arenaSeqsRow : OpenClaim := { program := "ytbjmmfoklnhiiaa", sum := "54778640905c2d863c3d069d3d7e65f608e48db894e7b024ab94b46de35e74ac", func := "winnow/winnowlaw5.ArenaSeqs", spec := "arenaSeqs", unfollowed := true, recurses := true, apart := false }
def ArenaSeqsSaid : Prop := arenaSeqsRow.holds Try.pinned (OpenSpec.ofChange arenaSeqsSpec)

/-- ITS FALSE NEIGHBOUR: 'it returns false'. Refute it at one input. -/
def arenaSeqsWrong : ChangeSpec := { name := "arenaSeqs", fn := fun _ => fun
  | [d1, d2, d3, d4, d5] => { results := [.lit (.bool false)], args := [d1, d2, d3, d4, d5] }
  | _ => none }
def ArenaSeqsWrongFalsely : Prop := arenaSeqsRow.holds Try.pinned (OpenSpec.ofChange arenaSeqsWrong)

/-- 'winnowlaw5.ArenaPlays': WHATEVER THE INPUT: true; the input reads as it did. -/
def arenaPlaysSpec : ChangeSpec := { name := "arenaPlays", fn := fun _ => fun
  | [d1, d2, d3] => { results := [.lit (.bool true)], args := [d1, d2, d3] }
  | _ => none }
def arenaPlaysRow : OpenClaim := { program := "ytbjmmfoklnhiiaa", sum := "54778640905c2d863c3d069d3d7e65f608e48db894e7b024ab94b46de35e74ac", func := "winnow/winnowlaw5.ArenaPlays", spec := "arenaPlays", unfollowed := true, recurses := true, apart := false }
def ArenaPlaysSaid : Prop := arenaPlaysRow.holds Try.pinned (OpenSpec.ofChange arenaPlaysSpec)

/-- ITS FALSE NEIGHBOUR: 'it returns false'. Refute it at one input. -/
def arenaPlaysWrong : ChangeSpec := { name := "arenaPlays", fn := fun _ => fun
  | [d1, d2, d3] => { results := [.lit (.bool false)], args := [d1, d2, d3] }
  | _ => none }
def ArenaPlaysWrongFalsely : Prop := arenaPlaysRow.holds Try.pinned (OpenSpec.ofChange arenaPlaysWrong)

/-- 'winnowlaw5.ArenaMoves': WHATEVER THE INPUT: true; the input reads as it did. -/
def arenaMovesSpec : ChangeSpec := { name := "arenaMoves", fn := fun _ => fun
  | [d1, d2, d3, d4, d5, d6] => { results := [.lit (.bool true)], args := [d1, d2, d3, d4, d5, d6] }
  | _ => none }
def arenaMovesRow : OpenClaim := { program := "ytbjmmfoklnhiiaa", sum := "54778640905c2d863c3d069d3d7e65f608e48db894e7b024ab94b46de35e74ac", func := "winnow/winnowlaw5.ArenaMoves", spec := "arenaMoves", unfollowed := true, recurses := true, apart := false }
def ArenaMovesSaid : Prop := arenaMovesRow.holds Try.pinned (OpenSpec.ofChange arenaMovesSpec)

/-- ITS FALSE NEIGHBOUR: 'it returns false'. Refute it at one input. -/
def arenaMovesWrong : ChangeSpec := { name := "arenaMoves", fn := fun _ => fun
  | [d1, d2, d3, d4, d5, d6] => { results := [.lit (.bool false)], args := [d1, d2, d3, d4, d5, d6] }
  | _ => none }
def ArenaMovesWrongFalsely : Prop := arenaMovesRow.holds Try.pinned (OpenSpec.ofChange arenaMovesWrong)

/-- 'winnowlaw5.ArenaApart': WHATEVER THE INPUT: true; the input reads as it did. -/
def arenaApartSpec : ChangeSpec := { name := "arenaApart", fn := fun _ => fun
  | [d1, d2, d3, d4, d5] => { results := [.lit (.bool true)], args := [d1, d2, d3, d4, d5] }
  | _ => none }
def arenaApartRow : OpenClaim := { program := "ytbjmmfoklnhiiaa", sum := "54778640905c2d863c3d069d3d7e65f608e48db894e7b024ab94b46de35e74ac", func := "winnow/winnowlaw5.ArenaApart", spec := "arenaApart", unfollowed := true, recurses := true, apart := false }
def ArenaApartSaid : Prop := arenaApartRow.holds Try.pinned (OpenSpec.ofChange arenaApartSpec)

/-- ITS FALSE NEIGHBOUR: 'it returns false'. Refute it at one input. -/
def arenaApartWrong : ChangeSpec := { name := "arenaApart", fn := fun _ => fun
  | [d1, d2, d3, d4, d5] => { results := [.lit (.bool false)], args := [d1, d2, d3, d4, d5] }
  | _ => none }
def ArenaApartWrongFalsely : Prop := arenaApartRow.holds Try.pinned (OpenSpec.ofChange arenaApartWrong)

/- THE SECOND FORM. 'bulk': how many values and letters a reading holds, each counted each time it is reached (what is shared counts as often as it is met; a slice's spare places count too). A statement '..UptoSaid' is the law's where the arguments, and the package variables that the reading takes, are together of bulk at most 1048576: NARROWER than '..Said'. Prove '..Said' where nothing that the law and all that it calls make is longer than what came in: it says more and counts as full. Else prove '..UptoSaid'. A law counts once. -/
mutual
def uptoBulk {H : Type} : DataW H → Nat
  | .lit (.string bytes) => bytes.length + 1
  | .lit _ => 1
  | .nil => 1
  | .ptr d => uptoBulk d + 1
  | .slice elems spare => uptoBulkAll elems + uptoBulkAll spare + 1
  | .agg parts => uptoBulkAll parts + 1
  | .iface _ d => uptoBulk d + 1
  | .map entries => uptoBulkEntries entries + 1
  | .held _ => 1
def uptoBulkAll {H : Type} : List (DataW H) → Nat
  | [] => 0
  | d :: r => uptoBulk d + uptoBulkAll r
def uptoBulkEntries {H : Type} : List (Lit × DataW H) → Nat
  | [] => 0
  | x :: r => uptoBulkEntry x + uptoBulkEntries r
def uptoBulkEntry {H : Type} : Lit × DataW H → Nat
  | (.string bytes, d) => bytes.length + uptoBulk d + 1
  | (_, d) => uptoBulk d + 1
 end
def uptoSmall : (H : Type) → List (DataW H) → Bool := fun _ ds => decide (uptoBulkAll ds ≤ 1048576)
def OpenSpec.upto (s : _root_.Go.ChangeSpec) : _root_.Go.OpenSpec := { _root_.Go.OpenSpec.ofChange s with cond := some uptoSmall }

/-- 'winnowlaw5.ArenaNames', WHERE WHAT IT READS IS OF BULK AT MOST 1048576: true; the input reads as it did. -/
def arenaNamesUptoRow : OpenClaim := { program := "ytbjmmfoklnhiiaa", sum := "54778640905c2d863c3d069d3d7e65f608e48db894e7b024ab94b46de35e74ac", func := "winnow/winnowlaw5.ArenaNames", spec := "arenaNames", apart := false, narrowed := true }
def ArenaNamesUptoSaid : Prop := arenaNamesUptoRow.holds Try.pinned (OpenSpec.upto arenaNamesSpec)

/-- 'winnowlaw17.AbsmNames', WHERE WHAT IT READS IS OF BULK AT MOST 1048576: true; the input reads as it did. -/
def absmNamesUptoRow : OpenClaim := { program := "ytbjmmfoklnhiiaa", sum := "54778640905c2d863c3d069d3d7e65f608e48db894e7b024ab94b46de35e74ac", func := "winnow/winnowlaw17.AbsmNames", spec := "absmNames", apart := false, narrowed := true }
def AbsmNamesUptoSaid : Prop := absmNamesUptoRow.holds Try.pinned (OpenSpec.upto absmNamesSpec)

/-- 'winnowlaw5.ArenaWhole', WHERE WHAT IT READS IS OF BULK AT MOST 1048576: true; the input reads as it did. -/
def arenaWholeUptoRow : OpenClaim := { program := "ytbjmmfoklnhiiaa", sum := "54778640905c2d863c3d069d3d7e65f608e48db894e7b024ab94b46de35e74ac", func := "winnow/winnowlaw5.ArenaWhole", spec := "arenaWhole", unfollowed := true, recurses := true, apart := false, narrowed := true }
def ArenaWholeUptoSaid : Prop := arenaWholeUptoRow.holds Try.pinned (OpenSpec.upto arenaWholeSpec)

/-- 'winnowlaw5.ArenaSeqs', WHERE WHAT IT READS IS OF BULK AT MOST 1048576: true; the input reads as it did. -/
def arenaSeqsUptoRow : OpenClaim := { program := "ytbjmmfoklnhiiaa", sum := "54778640905c2d863c3d069d3d7e65f608e48db894e7b024ab94b46de35e74ac", func := "winnow/winnowlaw5.ArenaSeqs", spec := "arenaSeqs", unfollowed := true, recurses := true, apart := false, narrowed := true }
def ArenaSeqsUptoSaid : Prop := arenaSeqsUptoRow.holds Try.pinned (OpenSpec.upto arenaSeqsSpec)

/-- 'winnowlaw5.ArenaPlays', WHERE WHAT IT READS IS OF BULK AT MOST 1048576: true; the input reads as it did. -/
def arenaPlaysUptoRow : OpenClaim := { program := "ytbjmmfoklnhiiaa", sum := "54778640905c2d863c3d069d3d7e65f608e48db894e7b024ab94b46de35e74ac", func := "winnow/winnowlaw5.ArenaPlays", spec := "arenaPlays", unfollowed := true, recurses := true, apart := false, narrowed := true }
def ArenaPlaysUptoSaid : Prop := arenaPlaysUptoRow.holds Try.pinned (OpenSpec.upto arenaPlaysSpec)

/-- 'winnowlaw5.ArenaMoves', WHERE WHAT IT READS IS OF BULK AT MOST 1048576: true; the input reads as it did. -/
def arenaMovesUptoRow : OpenClaim := { program := "ytbjmmfoklnhiiaa", sum := "54778640905c2d863c3d069d3d7e65f608e48db894e7b024ab94b46de35e74ac", func := "winnow/winnowlaw5.ArenaMoves", spec := "arenaMoves", unfollowed := true, recurses := true, apart := false, narrowed := true }
def ArenaMovesUptoSaid : Prop := arenaMovesUptoRow.holds Try.pinned (OpenSpec.upto arenaMovesSpec)

/-- 'winnowlaw5.ArenaApart', WHERE WHAT IT READS IS OF BULK AT MOST 1048576: true; the input reads as it did. -/
def arenaApartUptoRow : OpenClaim := { program := "ytbjmmfoklnhiiaa", sum := "54778640905c2d863c3d069d3d7e65f608e48db894e7b024ab94b46de35e74ac", func := "winnow/winnowlaw5.ArenaApart", spec := "arenaApart", unfollowed := true, recurses := true, apart := false, narrowed := true }
def ArenaApartUptoSaid : Prop := arenaApartUptoRow.holds Try.pinned (OpenSpec.upto arenaApartSpec)

end Rows
end Go.Proofs.Ytbjmmfoklnhiiaa
