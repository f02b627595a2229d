/- Several texts in one: GenOwn: words. Conditions: those of each. -/
import Derived.Test.YtdpokdcendgfeaaZ15
import Derived.Test.YtdpokdcendgfeaaZ16
import Derived.Test.YtdpokdcendgfeaaZ13
set_option linter.unusedSimpArgs false
set_option linter.unusedVariables false
set_option maxHeartbeats 40000000
namespace Go.Proofs.Ytdpokdcendgfeaa
open Go.RowKit
/-- the program that gen.Make tells of a plan -/
def progOf (P : Pl) : Prg := if checkV P = 0 then ⟨P.gh, P.vs, P.ts, (makeC P).1.on, (makeC P).2, (makeC P).1.cd⟩ else ⟨[], [], [], [], 0, []⟩
theorem MakeP.out {w w' : World} {P : Pl} {en : Ending} (h : MakeP w P en w') : Below w.heap.size w w' ∧ ∃ p : PV, en = .returned (.tuple #[p.val, .int .i64 (checkV P : Int)]) ∧ AMem w' p (progOf P) ∧ (checkV P = 0 → ProgIs w' w.heap.size p.val P.gh P.vs P.ts (makeC P).1.on (makeC P).2 (makeC P).1.cd ∧ (makeC P).1.cd.length ≤ 1048576) := by
 obtain ⟨hb, out, rfl, h1, h2⟩ := h
 refine ⟨hb, ?_⟩
 by_cases hc : checkV P = 0
 · obtain ⟨h3, h4⟩ := h2 hc
   obtain ⟨p, rfl, hm⟩ := h3.amem
   refine ⟨p, rfl, ?_, fun _ => ⟨h3, h4⟩⟩
   unfold progOf
   rw [if_pos hc]
   exact hm
 · rw [h1 hc]
   refine ⟨⟨none, none, none, none, none, 0, 0, 0, 0, 0, 0, 0, 0, 0, 0, 0⟩, rfl, ?_, fun h => absurd h hc⟩
   unfold progOf
   rw [if_neg hc]
   exact ⟨rfl, rfl, rfl, rfl, rfl, rfl, src_nil _ _, src_nil _ _, src_nil _ _, src_nil _ _, src_nil _ _, by simp [maxLen]⟩
/-- a program that is the call's own, row by row -/
structure Five (W : World) (B : Nat) (g v t o c : Value) (gh : List Bool) (vs : List Vr) (ts on : List Int) (cd : List In) : Prop where
 og : W.ownsRow B 4 1 g gh.length (bools gh)
 ov : W.ownsRow B 51 3 v vs.length (vrs vs)
 ot : W.ownsRow B 3 1 t ts.length (ints ts)
 oo : W.ownsRow B 3 1 o on.length (ints on)
 oc : W.ownsRow B 56 5 c cd.length (ins cd)
 d : ∀ k, t.ownBlock = some k → o.ownBlock ≠ some k
theorem ProgIs.five {W : World} {B : Nat} {out : Value} {gh : List Bool} {vs : List Vr} {ts on : List Int} {ms : Int} {cd : List In} (h : ProgIs W B out gh vs ts on ms cd) : ∃ ga gc va vc ta tc oa oc ca cc, out = .agg #[.slice ga gh.length gc, .slice va vs.length vc, .slice ta ts.length tc, .slice oa on.length oc, .int .i64 ms, .slice ca cd.length cc] ∧ Five W B (.slice ga gh.length gc) (.slice va vs.length vc) (.slice ta ts.length tc) (.slice oa on.length oc) (.slice ca cd.length cc) gh vs ts on cd := by
 obtain ⟨g, v, t, o, c, rfl, h1, h2, h3, h4, h5, h6⟩ := h
 obtain ⟨a1, b1, rfl⟩ := own_slice h1
 obtain ⟨a2, b2, rfl⟩ := own_slice h2
 obtain ⟨a3, b3, rfl⟩ := own_slice h3
 obtain ⟨a4, b4, rfl⟩ := own_slice h4
 obtain ⟨a5, b5, rfl⟩ := own_slice h5
 exact ⟨_, _, _, _, _, _, _, _, _, _, rfl, h1, h2, h3, h4, h5, h6⟩
theorem Five.only {W W' : World} {B : Nat} {S : Nat → Prop} {g v t o c : Value} {gh : List Bool} {vs : List Vr} {ts on : List Int} {cd : List In} (h : Five W B g v t o c gh vs ts on cd) (ho : Only S W W') (hS : ∀ k, S k → k < B ∨ W.heap.size ≤ k) : Five W' B g v t o c gh vs ts on cd := by
 have hk : ∀ {e : TypeId} {size n : Nat} {x : Value} {xs : List Value}, W.ownsRow B e size x n xs → W'.ownsRow B e size x n xs := fun h9 => own_only h9 ho (fun k hk hk2 => by have h8 := h9.lt k hk; rcases hS k hk2 with h7 | h7 <;> omega)
 exact ⟨hk h.og, hk h.ov, hk h.ot, hk h.oo, hk h.oc, h.d⟩
theorem Five.far {W0 W W' : World} {B : Nat} {S : Nat → Prop} {g v t o c : Value} {gh : List Bool} {vs : List Vr} {ts on : List Int} {cd : List In} (h0 : Five W0 B g v t o c gh vs ts on cd) (h : Five W B g v t o c gh vs ts on cd) (ho : Only S W W') (hS : ∀ k, S k → W0.heap.size ≤ k) : Five W' B g v t o c gh vs ts on cd :=
 ⟨own_only h.og ho (fun k hk hk2 => by have := (h0.og.lt k hk).2; have := hS k hk2; omega), own_only h.ov ho (fun k hk hk2 => by have := (h0.ov.lt k hk).2; have := hS k hk2; omega), own_only h.ot ho (fun k hk hk2 => by have := (h0.ot.lt k hk).2; have := hS k hk2; omega), own_only h.oo ho (fun k hk hk2 => by have := (h0.oo.lt k hk).2; have := hS k hk2; omega), own_only h.oc ho (fun k hk hk2 => by have := (h0.oc.lt k hk).2; have := hS k hk2; omega), h.d⟩
/-- cells that may be written -/
def Room (W : World) (oa : Option Addr) (n sz : Nat) (t : TypeId) : Prop := 0 < n → ∃ g cur, oa = some ⟨g, 0, none⟩ ∧ Blk W g t cur ∧ n * sz ≤ cur.size
theorem Room.keep {W W' : World} {oa : Option Addr} {n sz : Nat} {t : TypeId} (h : Room W oa n sz t) (hk : ∀ {g : Nat} {cur : Array Value}, Blk W g t cur → Blk W' g t cur) : Room W' oa n sz t := fun h0 => by
 obtain ⟨g, cur, e, h1, h2⟩ := h h0
 exact ⟨g, cur, e, hk h1, h2⟩
theorem Room.cell {W : World} {g n sz : Nat} {t : TypeId} {cur : Array Value} (h : Blk W g t cur) (hs : n * sz ≤ cur.size) {i j : Nat} (hi : i < n) (hj : j < sz) : ∃ v, W.cell? ⟨g, i * sz + j, none⟩ = some v := by
 rw [h.cell]
 refine ⟨_, Array.getElem?_eq_getElem ?_⟩
 have : (i + 1) * sz ≤ n * sz := Nat.mul_le_mul_right _ hi
 rw [Nat.add_mul, Nat.one_mul] at this
 omega
end Go.Proofs.Ytdpokdcendgfeaa
