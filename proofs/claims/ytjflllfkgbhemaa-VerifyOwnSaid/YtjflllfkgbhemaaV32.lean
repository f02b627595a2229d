/- Plain laws of the looks of all places. Conditions: none. -/
import Derived.Test.YtjflllfkgbhemaaV31
import Derived.Test.YtjflllfkgbhemaaVs
namespace Go.Proofs.Ytjflllfkgbhemaa
open Go.RowKit
/-- the looks of k places, from n on: the first error and its place, or 0; the standings behind them -/
def looksV (P : Prg) : Nat → Nat → List St → Int × Nat × List St
  | 0, n, ats => (0, n, ats)
  | k + 1, n, ats => if (lookV P n (insAt P (n : Int)) (atSt ats (n : Int)) ats).1 = 0 then looksV P k (n + 1) (lookV P n (insAt P (n : Int)) (atSt ats (n : Int)) ats).2 else ((lookV P n (insAt P (n : Int)) (atSt ats (n : Int)) ats).1, n, ats)
theorem looks_good {P : Prg} : ∀ (k n : Nat) (ats : List St), (looksV P k n ats).1 = 0 → ∀ m, n ≤ m → m < n + k → ∃ ats', (lookV P m (insAt P (m : Int)) (atSt ats' (m : Int)) ats').1 = 0
  | 0, n, ats, _, m, h1, h2 => by omega
  | k + 1, n, ats, h, m, h1, h2 => by
    rw [looksV] at h
    split at h
    · next hc =>
      by_cases hm : m = n
      · subst hm
        exact ⟨ats, hc⟩
      · exact looks_good k (n + 1) _ h m (by omega) (by omega)
    · next hc => exact absurd h hc
theorem nat_ne {m : Nat} {v : Int} (h : v = (m : Int)) : v.toNat = m := by omega
theorem ins_of {P : Prg} {n : Nat} {x : Ins} (h : P.cd[n]? = some x) : insAt P (n : Int) = x := by simp [insAt, h]
theorem ways_next {P : Prg} {n : Nat} {x : Ins} {s : St} (h : ∀ u ∈ waysV n x s, u.1 < (P.cd.length : Int)) (h0 : x.op ≠ 0) (h27 : x.op ≠ 27) (h22 : x.op ≠ 22) : n + 1 < P.cd.length := by
  have : ∃ s', ((n : Int) + 1, s') ∈ waysV n x s := by
    unfold waysV
    rw [if_neg h0, if_neg h27, if_neg h22]
    repeat' split
    all_goals exact ⟨_, List.mem_cons_self⟩
  obtain ⟨s', hs⟩ := this
  have := h _ hs
  simp only at this
  omega
theorem flows_of {P : Prg} {ats : List St} (hc : ∀ x ∈ P.cd, insE P x = 0) (h : (looksV P P.cd.length 0 ats).1 = 0) : Flows P := by
  have good := fun m (hm : m < P.cd.length) => looks_good _ _ _ h m (Nat.zero_le _) (by omega)
  have next : ∀ (n : Nat) (x : Ins), P.cd[n]? = some x → x.op ≠ 0 → x.op ≠ 27 → x.op ≠ 22 → n + 1 < P.cd.length := fun n x hx h0 h27 h22 => by
    have hn := (List.getElem?_eq_some_iff.1 hx).1
    obtain ⟨a, ha⟩ := good n hn
    rw [ins_of hx] at ha
    exact ways_next (look_good ha).2.2.2.1 h0 h27 h22
  intro n x hx
  have hn := (List.getElem?_eq_some_iff.1 hx).1
  have hck := chk_of P x (hc x (List.mem_of_getElem? hx))
  refine ⟨fun e => hck.pj (by omega), fun e => ⟨hck.pj (by omega), next n x hx (by omega) (by omega) (by omega)⟩, fun e => ?_, fun h0 h27 h22 => next n x hx h0 h27 h22⟩
  have h1 := next n x hx (by omega) (by omega) (by omega)
  obtain ⟨a, ha⟩ := good n hn
  rw [ins_of hx] at ha
  have hj := (look_good ha).2.2.1
  simp [jumpsV, e] at hj
  obtain ⟨y, hy⟩ : ∃ y, P.cd[n + 1]? = some y := ⟨_, List.getElem?_eq_getElem h1⟩
  have ey : insAt P ((n + 1 : Nat) : Int) = y := ins_of hy
  have ey2 : insAt P ((n : Int) + 1) = y := by rw [show ((n : Int) + 1) = ((n + 1 : Nat) : Int) from by omega]; exact ey
  rw [ey2] at hj
  have hcy := chk_of P y (hc y (List.mem_of_getElem? hy))
  have h2 := next (n + 1) y hy (by omega) (by omega) (by omega)
  have hr := insE_r P x (hc x (List.mem_of_getElem? hx)) e
  refine ⟨h2, hr.1, hr.2, ?_⟩
  rw [ey]
  exact hcy.pj (by omega)
end Go.Proofs.Ytjflllfkgbhemaa
