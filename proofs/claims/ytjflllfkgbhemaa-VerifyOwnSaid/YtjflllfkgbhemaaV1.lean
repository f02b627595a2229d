/- The walks of the smallest functions: from, plus, bounds. Conditions: the bounds that are named. -/
import Derived.Test.YtjflllfkgbhemaaProg
import Derived.WalkKit
import Derived.RegionTactic
import Derived.ChangeAlike
import Derived.BigQuiet
import Derived.Outline
import Derived.Test.YtjflllfkgbhemaaBase
namespace Go.Proofs.Ytjflllfkgbhemaa
open Go.RowKit

def fromV (n lo hi : Int) : Bool := decide (lo ≤ n) && decide (n ≤ hi)
set_option maxRecDepth 100000 in
theorem from_i (w : World) (n lo hi : Int) : Calls Try.prog 44 #[.int .i64 n, .int .i64 lo, .int .i64 hi] w fun en w' => en = .returned (.bool (fromV n lo hi)) ∧ w = w' := by
  unfold fromV
  go_enter Try.func44, Try.ntmps44
  go_wp2
  all_goals
    go_ret
    first | exact ⟨rfl, rfl⟩ | (refine ⟨?_, rfl⟩; congr 2; simp; omega)

def plusV (a b : Int) : Int := if 4611686018427387904 - b < a then 4611686018427387904 else a + b
set_option maxRecDepth 100000 in
theorem plus_i (w : World) (a b : Int) (ha : 0 ≤ a) (ha2 : a ≤ 4611686018427387904) (hb : 0 ≤ b) (hb2 : b ≤ 4611686018427387904) : Calls Try.prog 52 #[.int .i64 a, .int .i64 b] w fun en w' => en = .returned (.int .i64 (plusV a b)) ∧ w = w' := by
  unfold plusV
  go_enter Try.func52, Try.ntmps52
  go_wp2
  all_goals
    go_ret
    first | exact ⟨rfl, rfl⟩ | (refine ⟨?_, rfl⟩; congr 2; simp; omega)

/-- a program's five slices, as a value -/
structure PV where
  (ga va ta oa ca : Option Addr)
  (gl gc vl vc tl tc ol oc cl cc : Nat)
  miss : Int
def PV.val (p : PV) : Value := .agg #[.slice p.ga p.gl p.gc, .slice p.va p.vl p.vc, .slice p.ta p.tl p.tc, .slice p.oa p.ol p.oc, .int .i64 p.miss, .slice p.ca p.cl p.cc]
/-- what 'bounds' tells: q, v, t, n, r, p; all others -/
def boundsV (g v t c : Nat) (k : Int) : Int × Int :=
  if k = 113 then (0, (g : Int) - 1) else if k = 118 then (0, (v : Int) - 1) else if k = 116 then (0, (t : Int) - 1) else if k = 110 then (-1073741824, 1073741824) else if k = 114 then (0, 4194304) else if k = 112 then (0, (c : Int) - 1) else (0, 1)
set_option maxRecDepth 100000 in
theorem bounds_i (w : World) (p : PV) (k : Int) (hg : p.gl ≤ maxLen) (hv : p.vl ≤ maxLen) (ht : p.tl ≤ maxLen) (hc : p.cl ≤ maxLen) :
    Calls Try.prog 43 #[p.val, .int .u8 k] w fun en w' => en = .returned (.tuple #[.int .i64 (boundsV p.gl p.vl p.tl p.cl k).1, .int .i64 (boundsV p.gl p.vl p.tl p.cl k).2]) ∧ Below w.heap.size w w' := by
  obtain ⟨ga, va, ta, oa, ca, gl, gc, vl, vc, tl, tc, ol, oc, cl, cc, miss⟩ := p
  simp only [PV.val] at *
  unfold maxLen at *
  go_enter Try.func43, Try.ntmps43
  go_wp2
  all_goals try (go_quiet (fail); go_wp2)
  all_goals
    go_ret2
    refine ⟨?_, ?_⟩
    · simp only [beq_iff_eq, beq_eq_false_iff_ne, ne_eq] at *
      simp [boundsV, *]
    · first | exact (Below.refl _ w).alloc (Nat.le_refl _) _ | exact ((Below.refl _ w).alloc (Nat.le_refl _) _).drew | exact below_drewN ((Below.refl _ w).alloc (Nat.le_refl _) _) _
end Go.Proofs.Ytjflllfkgbhemaa
