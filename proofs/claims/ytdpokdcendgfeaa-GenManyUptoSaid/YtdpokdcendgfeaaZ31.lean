/- Several texts in one: What gen.Make and gen.Origin (and the reference's) tell, kept over writes elsewhere. Conditions: those of each. -/
import Derived.Test.YtdpokdcendgfeaaZ30
import Derived.Test.YtdpokdcendgfeaaZ29
import Derived.Test.YtdpokdcendgfeaaZ17
set_option linter.unusedSimpArgs false
set_option linter.unusedVariables false
set_option maxHeartbeats 40000000
namespace Go.Proofs.Ytdpokdcendgfeaa
open Go.RowKit
theorem PV.val_inj {p q : PV} (h : p.val = q.val) : p = q := by
 cases p
 cases q
 simp only [PV.val, Value.agg.injEq, Array.mk.injEq, List.cons.injEq, Value.slice.injEq, Value.int.injEq, true_and, and_true] at h
 simp only [PV.mk.injEq]
 obtain ⟨⟨a1, a2, a3⟩, ⟨b1, b2, b3⟩, ⟨c1, c2, c3⟩, ⟨d1, d2, d3⟩, e, f1, f2, f3⟩ := h
 exact ⟨a1, b1, c1, d1, f1, a2, a3, b2, b3, c2, c3, d2, d3, f2, f3, e⟩
theorem MakeP.kept {w w' : World} {P : Pl} {en : Ending} (h : MakeP w P en w') : Below w.heap.size w w' ∧ ∃ p : PV, en = .returned (.tuple #[p.val, .int .i64 (checkV P : Int)]) ∧ ∀ (S : Nat → Prop) (W' : World), Only S w' W' → (∀ k, S k → k < w.heap.size ∨ w'.heap.size ≤ k) → AMem W' p (progOf P) := by
 obtain ⟨hb, out, rfl, h1, h2⟩ := h
 refine ⟨hb, ?_⟩
 by_cases hc : checkV P = 0
 · obtain ⟨h3, h4⟩ := h2 hc
   obtain ⟨p, rfl, hm⟩ := h3.amem
   refine ⟨p, rfl, fun S W' ho hS => ?_⟩
   obtain ⟨p', hp, hm'⟩ := (h3.only ho hS).amem
   obtain rfl := PV.val_inj hp
   unfold progOf
   rw [if_pos hc]
   exact hm'
 · rw [h1 hc]
   refine ⟨⟨none, none, none, none, none, 0, 0, 0, 0, 0, 0, 0, 0, 0, 0, 0⟩, rfl, fun S W' ho hS => ?_⟩
   unfold progOf
   rw [if_neg hc]
   exact ⟨rfl, rfl, rfl, rfl, rfl, rfl, src_nil _ _, src_nil _ _, src_nil _ _, src_nil _ _, src_nil _ _, by simp [maxLen]⟩
def orE (P : Pl) : List Int := if checkV P = 0 then (makeC P).1.ev else []
def orR (P : Pl) : List Int := if checkV P = 0 then (makeC P).1.rw else []
theorem OrigP.kept {w w' : World} {P : Pl} {en : Ending} (h : OrigP w P en w') : Below w.heap.size w w' ∧ ∃ ea ec ra rc, en = .returned (.tuple #[.slice ea (orE P).length ec, .slice ra (orR P).length rc, .int .i64 (checkV P : Int)]) ∧ (orE P).length ≤ maxLen ∧ (orR P).length ≤ maxLen ∧ ∀ (S : Nat → Prop) (W' : World), Only S w' W' → (∀ k, S k → k < w.heap.size ∨ w'.heap.size ≤ k) → Src W' ea (orE P).length (ints (orE P)) ∧ Src W' ra (orR P).length (ints (orR P)) := by
 obtain ⟨hb, ev, rw_, rfl, h1, h2⟩ := h
 refine ⟨hb, ?_⟩
 by_cases hc : checkV P = 0
 · obtain ⟨h3, h4, -, -, -⟩ := h2 hc
   obtain ⟨ea, ec, rfl⟩ := own_slice h3
   obtain ⟨ra, rc, rfl⟩ := own_slice h4
   unfold orE orR
   rw [if_pos hc, if_pos hc]
   refine ⟨ea, ec, ra, rc, rfl, own_len h3, own_len h4, fun S W' ho hS => ?_⟩
   have k3 := own_only h3 ho (fun k hk hk2 => by have h8 := h3.lt k hk; rcases hS k hk2 with h7 | h7 <;> omega)
   have k4 := own_only h4 ho (fun k hk hk2 => by have h8 := h4.lt k hk; rcases hS k hk2 with h7 | h7 <;> omega)
   obtain ⟨a1, c1, e1, s1⟩ := own_src' k3
   obtain ⟨a2, c2, e2, s2⟩ := own_src' k4
   injection e1 with e1 _ _
   injection e2 with e2 _ _
   subst e1 e2
   exact ⟨s1, s2⟩
 · obtain ⟨rfl, rfl⟩ := h1 hc
   unfold orE orR
   rw [if_neg hc, if_neg hc]
   exact ⟨none, 0, none, 0, rfl, Nat.zero_le _, Nat.zero_le _, fun S W' ho hS => ⟨src_nil _ _, src_nil _ _⟩⟩
/-- the blocks of a lent plan -/
def LentS (gg gv gt gl gm : Nat) (es : List Nat) (k : Nat) : Prop := k = gg ∨ k = gv ∨ k = gt ∨ k = gl ∨ k = gm ∨ k ∈ es
theorem LentP.lt {w : World} {B gg gv gt gl gm : Nat} {es : List Nat} {P : Pl} (h : LentP w B gg gv gt gl gm es P) {k : Nat} (hk : LentS gg gv gt gl gm es k) : B ≤ k ∧ k < w.heap.size := by
 obtain ⟨b1, b2, b3, b4, b5⟩ := h.base
 rcases hk with rfl | rfl | rfl | rfl | rfl | hk
 · exact ⟨b1, h.g.lt⟩
 · exact ⟨b2, h.v.lt⟩
 · exact ⟨b3, h.t.lt⟩
 · exact ⟨b4, h.l.lt⟩
 · exact ⟨b5, h.m.lt⟩
 · obtain ⟨i, hi⟩ := List.getElem?_of_mem hk
   obtain ⟨l, hl9⟩ : ∃ l, P.on[i]? = some l := ⟨_, List.getElem?_eq_getElem (by rw [← h.e.n]; exact (List.getElem?_eq_some_iff.1 hi).1)⟩
   obtain ⟨k1, k2⟩ := h.e.e i k l hi hl9
   exact ⟨by omega, k1.lt⟩
end Go.Proofs.Ytdpokdcendgfeaa
