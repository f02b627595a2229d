/- An arena beside blocks that no call of it writes. Conditions: those of each lemma. -/
import Derived.Test.YtbjmmfoklnhiiaaW26
namespace Go.Proofs.Ytbjmmfoklnhiiaa
open Go.RowKit Go.Shelf

/-- the arena at ab, and blocks X that are none of its own -/
def Six (X : Nat → Prop) (w0 : Nat) (W : World) (ab : Nat) (s : ASt Int) (n l : Nat) : Prop :=
  ∃ f, Lies w0 W ab f s n l ∧ ∀ b, X b → b < W.heap.size ∧ ¬ f.has b
section
variable {X : Nat → Prop} {w0 n l ab : Nat} {W W' : World} {s : ASt Int}
theorem Six.keep (h : Six X w0 W ab s n l) (hk : ∀ f : Fp, (∀ b, f.has b → b < W.heap.size ∧ ¬ X b) → f.ab = ab → ∀ b, f.has b → W'.heap[b]? = W.heap[b]?) (hs : W.heap.size ≤ W'.heap.size) : Six X w0 W' ab s n l := by
  obtain ⟨f, hL, hX⟩ := h
  have hh := hk f (fun b hb => ⟨hL.lt hb, fun hx => (hX b hx).2 hb⟩) hL.ab
  exact ⟨f, ⟨hL.ab, hL.mem.keep (hh _ (.inl rfl)) (hh _ (.inr (.inl rfl))) (hh _ (.inr (.inr rfl))), hL.fresh, hL.rep⟩, fun b hb => ⟨Nat.lt_of_lt_of_le (hX b hb).1 hs, (hX b hb).2⟩⟩
theorem Six.below (h : Six X w0 W ab s n l) (hb : Below W.heap.size W W') : Six X w0 W' ab s n l :=
  h.keep (fun _ hf _ b hfb => hb.block b (hf b hfb).1) hb.size
theorem Six.setX (h : Six X w0 W ab s n l) {p : Addr} (hp : X p.block) (u : Value) : Six X w0 (W.setCell p u) ab s n l :=
  h.keep (fun _ hf _ b hfb => Below.heap_setCell W p u b (fun e => (hf b hfb).2 (e ▸ hp))) (by simp)
theorem Six.more {Y : Nat → Prop} (h : Six X w0 W ab s n l) (hb : Below W.heap.size W W') (hY : ∀ b, Y b → X b ∨ (W.heap.size ≤ b ∧ b < W'.heap.size)) : Six Y w0 W' ab s n l := by
  obtain ⟨f, hL, hX⟩ := h
  refine ⟨f, hL.below hb, fun b hb' => ?_⟩
  rcases hY b hb' with h1 | ⟨h1, h2⟩
  · exact ⟨Nat.lt_of_lt_of_le (hX b h1).1 hb.size, (hX b h1).2⟩
  · exact ⟨h2, fun hf => by have := hL.lt hf; omega⟩
theorem Six.do_ (h : Six X w0 W ab s n l) (h0 : w0 ≤ W.heap.size) (k a b c : Int) :
    Calls Try.prog 12 #[.pointer (some ⟨ab, 0, none⟩), .agg #[.int .i64 k, .int .i64 a, .int .i64 b, .int .i64 c]] W fun en W' => en = .returned (.tuple #[]) ∧
      Six X w0 W' ab (s.act k a b c) n l ∧ (∀ b, X b → W'.heap[b]? = W.heap[b]?) ∧ Below w0 W W' := by
  obtain ⟨f, hL, hX⟩ := h
  obtain ⟨A, hr, _⟩ := hL.rep
  have := do_i W f s A hL.mem hr k a b c
  rw [hL.ab] at this
  refine this.mono ?_
  rintro en W' ⟨he, f', hM, hO, hv⟩
  refine ⟨he, ⟨f', hL.act h0 hM hv, ?_⟩, fun b hb => hO.block b (hX b hb).1 (hX b hb).2, hO.below hL.fresh h0⟩
  · intro b hb
    refine ⟨Nat.lt_of_lt_of_le (hX b hb).1 hO.size, ?_⟩
    obtain ⟨m1, m2, m3⟩ := hv
    have h1 := (hX b hb).1
    have h2 := (hX b hb).2
    rintro (e | e | e)
    · exact h2 (.inl (by omega))
    · rcases m3 with m | m
      · exact h2 (.inr (.inl (by omega)))
      · omega
    · exact h2 (.inr (.inr (by omega)))
end
end Go.Proofs.Ytbjmmfoklnhiiaa
