/- What run tells, case by case; the verifier kept over stores in other blocks. Conditions: none. -/
import Derived.Test.YtjflllfkgbhemaaV33
namespace Go.Proofs.Ytjflllfkgbhemaa
open Go.RowKit
theorem below_only {B rb : Nat} {w w5 w' : World} (h : Below B w w5) (ho : Only (fun k => k = rb) w5 w') (hr : B ≤ rb) (hs : B ≤ w5.heap.size) : Below B w w' :=
  ⟨ho.os.trans h.os, ho.tape.trans h.tape, ho.output.trans h.output, Nat.le_trans h.size ho.size, fun k hk => (ho.block k (by omega) (by omega)).trans (h.block k hk)⟩
theorem VMem.keep {W W' : World} {vb rb : Nat} {p : PV} {P : Prg} {ats : List St} (h : VMem W vb rb p P ats) (hs : W.heap.size ≤ W'.heap.size)
    (hk : ∀ g cs' t', Blk W g t' cs' → t' = 71 ∨ t' = 74 ∨ t' = 3 → W'.heap[g]? = W.heap[g]?) (hp : PMem W' p P) : VMem W' vb rb p P ats := by
  obtain ⟨m, v, ⟨⟨cs, hc, hsz⟩, hr⟩, hl⟩ := h
  refine ⟨hp, (hk _ _ _ v (.inl rfl)).trans v, ⟨⟨cs, (hk _ _ _ hc (.inr (.inl rfl))).trans hc, hsz⟩, fun i s hi => ?_⟩, hl⟩
  obtain ⟨oa, ca, hm, hx⟩ := hr i s hi
  exact ⟨oa, ca, hm.keep hs fun g cs' hg => hk _ _ _ hg (.inr (.inr rfl)), fun j x hj => (World.cell?_of_block (hk _ _ _ hc (.inr (.inl rfl)))).trans (hx j x hj)⟩
theorem VMem.only2 {W W' : World} {vb rb k1 k2 : Nat} {p : PV} {P : Prg} {ats : List St} {c1 c2 : Array Value} (h : VMem W vb rb p P ats) (ho : Only (fun k => k = k1 ∨ k = k2) W W') (h1 : Blk W k1 32 c1) (h2 : Blk W k2 35 c2) (hp : PMem W' p P) : VMem W' vb rb p P ats :=
  h.keep ho.size (fun g cs' t' hg ht => ho.block g hg.lt (by
    rintro (e | e)
    · exact hg.ne_ h1 (by rcases ht with rfl | rfl | rfl <;> decide) e
    · exact hg.ne_ h2 (by rcases ht with rfl | rfl | rfl <;> decide) e)) hp
theorem looks_step {P : Prg} {i : Nat} {ats : List St} (hi : i < P.cd.length) (h : (lookV P i (insAt P (i : Int)) (atSt ats (i : Int)) ats).1 = 0) : looksV P (P.cd.length - i) i ats = looksV P (P.cd.length - (i + 1)) (i + 1) (lookV P i (insAt P (i : Int)) (atSt ats (i : Int)) ats).2 := by
  obtain ⟨k, hk⟩ : ∃ k, P.cd.length - i = k + 1 := ⟨P.cd.length - i - 1, by omega⟩
  rw [hk, looksV, if_pos h, show P.cd.length - (i + 1) = k from by omega]
theorem looks_stop {P : Prg} {i : Nat} {ats : List St} (hi : i < P.cd.length) (h : (lookV P i (insAt P (i : Int)) (atSt ats (i : Int)) ats).1 ≠ 0) : looksV P (P.cd.length - i) i ats = ((lookV P i (insAt P (i : Int)) (atSt ats (i : Int)) ats).1, i, ats) := by
  obtain ⟨k, hk⟩ : ∃ k, P.cd.length - i = k + 1 := ⟨P.cd.length - i - 1, by omega⟩
  rw [hk, looksV, if_neg h]
theorem runV_over {P : Prg} {n : Nat} {ats : List St} {b : Int} (h0 : checkV P = 0) (hl : looksV P P.cd.length 0 (ats0 P) = (0, n, ats)) (ho : overV (fuelK P P.cd.length) (begins P) = some b) : runV P = (97, b, []) := by
  unfold runV
  rw [if_neg (by simp [h0]), hl, if_neg (by simp), ho]
theorem runV_ok {P : Prg} {n : Nat} {ats : List St} (h0 : checkV P = 0) (hl : looksV P P.cd.length 0 (ats0 P) = (0, n, ats)) (ho : overV (fuelK P P.cd.length) (begins P) = none) : runV P = (0, 0, ats) := by
  unfold runV
  rw [if_neg (by simp [h0]), hl, if_neg (by simp), ho]
theorem costs_take {f l : List Int} {i : Nat} {b : Int} (h : l[i]? = some b) : ints (costsV f (l.take (i + 1))) = ints (costsV f (l.take i)) ++ [.int .i64 (if b < 0 then 0 else fAt f b)] := by
  rw [List.take_add_one, h]
  simp [ints, costsV]
theorem over_drop {f l : List Int} {i : Nat} {b : Int} (h : l[i]? = some b) : overV f (l.drop i) = if 0 ≤ b ∧ 1152921504606846976 < fAt f b then some b else overV f (l.drop (i + 1)) := by
  obtain ⟨hi, rfl⟩ := List.getElem?_eq_some_iff.1 h
  rw [List.drop_eq_getElem_cons hi, overV]
theorem own_blk {w : World} {base : Nat} {e : TypeId} {size n : Nat} {v : Value} {xs : List Value} (h : w.ownsRow base e size v n xs) {g cap : Nat} (hv : v = .slice (some ⟨g, 0, none⟩) n cap) : ∃ cs, Blk w g e cs := by
  rcases h.2 with ⟨e', _⟩ | ⟨g', cap', cur, e', _, hh, _⟩
  · rw [hv] at e'; cases e'
  · rw [hv] at e'
    injection e' with e1
    injection e1 with e1
    injection e1 with e1
    subst e1
    exact ⟨cur, hh⟩
end Go.Proofs.Ytjflllfkgbhemaa
