/- The walks of math/bits.Mul64, times. Conditions: the bounds that are named. -/
import Derived.Test.YtjflllfkgbhemaaV15
import Derived.Shelf.Bits.Mul64
namespace Go.Proofs.Ytjflllfkgbhemaa
open Go.RowKit
set_option maxHeartbeats 2000000 in
theorem mul64_i (x y : Nat) (hx : x < 18446744073709551616) (hy : y < 18446744073709551616) (w : World) :
    Calls Try.prog 74 #[.int .u64 (x : Int), .int .u64 (y : Int)] w fun e w' => e = .returned (.tuple #[.int .u64 ((x * y / 18446744073709551616 : Nat) : Int), .int .u64 ((x * y % 18446744073709551616 : Nat) : Int)]) ∧ w' = w := by
  obtain ⟨bd, bt, bw, hhi⟩ := Lib.mul64_hi x y hx hy
  have ba := Lib.half_mul_le (a := x / 4294967296) (b := y / 4294967296) (by omega) (by omega)
  have bb := Lib.half_mul_le (a := x / 4294967296) (b := y % 4294967296) (by omega) (by omega)
  have bc := Lib.half_mul_le (a := x % 4294967296) (b := y / 4294967296) (by omega) (by omega)
  have ba' : x / 4294967296 * (y / 4294967296) < 18446744073709551616 := by omega
  have bb' : x / 4294967296 * (y % 4294967296) < 18446744073709551616 := by omega
  have bc' : x % 4294967296 * (y / 4294967296) < 18446744073709551616 := by omega
  have bh1 : x / 4294967296 * (y / 4294967296) + (x / 4294967296 * (y % 4294967296) + x % 4294967296 * (y % 4294967296) / 4294967296) / 4294967296 < 18446744073709551616 := by omega
  have bh : x / 4294967296 * (y / 4294967296) + (x / 4294967296 * (y % 4294967296) + x % 4294967296 * (y % 4294967296) / 4294967296) / 4294967296 + ((x / 4294967296 * (y % 4294967296) + x % 4294967296 * (y % 4294967296) / 4294967296) % 4294967296 + x % 4294967296 * (y / 4294967296)) / 4294967296 < 18446744073709551616 := by omega
  go_enter Try.func74, Try.ntmps74
  go_wp2
  simp only [Mul64.maskN x hx, Mul64.maskN y hy, Mul64.divN, Mul64.mulN, Mul64.addN, Mul64.wrapN _ bd, Mul64.wrapN _ bb', Mul64.wrapN _ bt, Mul64.maskN _ bt, Mul64.wrapN _ bc', Mul64.wrapN _ bw, Mul64.wrapN _ ba', Mul64.wrapN _ bh1, Mul64.wrapN _ bh, Mul64.wrapM (x * y)]
  rw [hhi]
  go_ret2
  exact ⟨rfl, rfl⟩

/-- 'times', of numbers from 0 on -/
def timesV (a b : Nat) : Nat := if a * b ≤ 4611686018427387904 then a * b else 4611686018427387904
set_option maxRecDepth 100000 in
set_option maxHeartbeats 2000000 in
theorem times_i (w : World) (a b : Nat) (ha : a ≤ 9223372036854775807) (hb : b ≤ 9223372036854775807) : Calls Try.prog 53 #[.int .i64 (a : Int), .int .i64 (b : Int)] w fun en w' => en = .returned (.int .i64 (timesV a b : Int)) ∧ w' = w := by
  have hm := fun W => mul64_i a b (by omega) (by omega) W
  have c1 : IntKind.u64.wrap ((a : Nat) : Int) = (a : Int) := by rw [IntKind.wrap_u64]; omega
  have c2 : IntKind.u64.wrap ((b : Nat) : Int) = (b : Int) := by rw [IntKind.wrap_u64]; omega
  have HM := hide hm
  generalize hp : a * b = p at *
  have hV : timesV a b = if p ≤ 4611686018427387904 then p else 4611686018427387904 := by unfold timesV; rw [hp]
  have HV := hide hV
  clear hm hV hp
  by_cases h1 : p < 18446744073709551616
  · have e1 : p / 18446744073709551616 = 0 := by omega
    have e2 : p % 18446744073709551616 = p := by omega
    rw [e1, e2] at HM
    clear e1 e2
    go_enter Try.func53, Try.ntmps53
    go_wp2_with (go_at_call 74
                 refine (HM.out _).mono ?_
                 rintro en w' ⟨rfl, rfl⟩)
    all_goals
      go_ret
      refine ⟨?_, rfl⟩
      rw [HV.out]
      first
      | (rw [if_pos (by omega)]; rfl)
      | (rw [if_neg (by omega)]; rfl)
  · have e1 : 1 ≤ p / 18446744073709551616 := by omega
    have hn : ¬ p ≤ 4611686018427387904 := by omega
    have HN := hide hn
    generalize p / 18446744073709551616 = hi at *
    generalize p % 18446744073709551616 = lo at *
    clear h1 hn
    go_enter Try.func53, Try.ntmps53
    go_wp2_with (go_at_call 74
                 refine (HM.out _).mono ?_
                 rintro en w' ⟨rfl, rfl⟩)
    all_goals
      first
      | (exfalso; omega)
      | (go_ret
         refine ⟨?_, rfl⟩
         rw [HV.out, if_neg HN.out]
         rfl)
end Go.Proofs.Ytjflllfkgbhemaa
