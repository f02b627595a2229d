/- The walk of run. Conditions: the bounds that are named. -/
import Derived.Test.YtjflllfkgbhemaaV32
import Derived.Test.YtjflllfkgbhemaaVt
import Derived.Test.YtjflllfkgbhemaaV17
import Derived.Deep.RegionWith
namespace Go.Proofs.Ytjflllfkgbhemaa
open Go.RowKit
def begins (P : Prg) : List Int := P.os ++ [P.miss]
def mark (ats : List St) (a : Int) : List St := if 0 ≤ a then ats.set a.toNat ⟨true, ⟨#[]⟩, [], 0⟩ else ats
def ats0 (P : Prg) : List St := (begins P).foldl mark (List.replicate P.cd.length st0)
def overV (f : List Int) : List Int → Option Int
  | [] => none
  | b :: l => if 0 ≤ b ∧ 1152921504606846976 < fAt f b then some b else overV f l
def costsV (f : List Int) (l : List Int) : List Int := l.map fun b => if b < 0 then 0 else fAt f b
/-- what run tells: the error, its place, the standings -/
def runV (P : Prg) : Int × Int × List St :=
  if checkV P ≠ 0 then ((checkV P : Int), 0, [])
  else if (looksV P P.cd.length 0 (ats0 P)).1 ≠ 0 then ((looksV P P.cd.length 0 (ats0 P)).1, ((looksV P P.cd.length 0 (ats0 P)).2.1 : Int), [])
  else match overV (fuelK P P.cd.length) (begins P) with
    | some b => (97, b, [])
    | none => (0, 0, (looksV P P.cd.length 0 (ats0 P)).2.2)
end Go.Proofs.Ytjflllfkgbhemaa
