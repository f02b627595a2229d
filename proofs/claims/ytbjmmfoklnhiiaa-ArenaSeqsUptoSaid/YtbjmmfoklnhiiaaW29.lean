/- The walk of ArenaSeqs. Conditions: both scripts lie in memory. -/
import Derived.Test.YtbjmmfoklnhiiaaW28
import Derived.Test.YtbjmmfoklnhiiaaX3
namespace Go.Proofs.Ytbjmmfoklnhiiaa
open Go.RowKit Go.Shelf
theorem arenaSeqs_i (w : World) (n l st : Int) (o1 o2 : Option Addr) (l1 c1 l2 c2 : Nat) (h1 : Script w o1 l1) (h2 : Script w o2 l2) :
    Calls Try.prog 6 #[.int .i64 n, .int .i64 l, .slice o1 l1 c1, .slice o2 l2 c2, .int .i64 st] w fun en w' => en = .returned (.bool true) ∧ Below w.heap.size w w' := by
  by_cases hb : 2000 < n ∨ newE n l = 1
  · exact seqs_nil w n l st o1 o2 l1 c1 l2 c2 hb
  · have hb2 : newE n l = 0 := (newE_cases n l).resolve_right (fun h => hb (.inr h))
    have hz : 0 ≤ n ∧ 0 ≤ l := by unfold newE at hb2; split at hb2 <;> first | omega | cases hb2
    obtain ⟨nn, rfl⟩ := Int.eq_ofNat_of_zero_le hz.1
    obtain ⟨ll, rfl⟩ := Int.eq_ofNat_of_zero_le hz.2
    rcases Nat.eq_zero_or_pos ll with rfl | hl
    · exact seqs_zero w nn st o1 o2 l1 c1 l2 c2 (by omega) hb2
    · exact seqs_run w nn ll st o1 o2 l1 c1 l2 c2 (by omega) hb2 hl h1 h2
end Go.Proofs.Ytbjmmfoklnhiiaa
