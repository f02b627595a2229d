/- What the later ranges of ArenaSeqs keep. Conditions: those of each lemma. -/
import Derived.Test.YtbjmmfoklnhiiaaX1
namespace Go.Proofs.Ytbjmmfoklnhiiaa
open Go.RowKit Go.Shelf

theorem pre_snoc {xs pre : List (Nat × Int)} {x : Nat × Int} (h : pre <+: xs) : pre ++ [x] <+: xs ↔ xs[pre.length]? = some x := by
  obtain ⟨t, rfl⟩ := h
  rw [List.getElem?_append_right (Nat.le_refl _), Nat.sub_self, List.prefix_append_right_inj]
  cases t with
  | nil => simp
  | cons y t => simp [List.cons_prefix_cons, eq_comm]
theorem KeepsFrom.zero {W W' : World} (h : KeepsFrom 0 W W') (B : Nat) : KeepsFrom B W W' := ⟨h.size, fun k o _ hk ho => h.same k o (Nat.zero_le _) hk ho⟩
theorem keeps_set {W : World} {b : Nat} (h : Cel W b) (u : Value) : KeepsFrom 0 W (W.setCell ⟨b, 0, none⟩ u) := by
  refine ⟨by simp, fun k o _ hk ho => (Below.heap_setCell W _ u k (fun e => ?_)).trans hk⟩
  obtain ⟨o', ho', hc⟩ := h
  have e' : k = b := e
  subst e'
  rw [hk] at ho'; cases ho'; rw [ho] at hc; cases hc
theorem keeps_alloc (W : World) (o : Obj) : KeepsFrom 0 W (W.alloc o) := ⟨by simp, fun k o' _ hk _ => (Below.heap_alloc W o k (Array.getElem?_eq_some_iff.1 hk).1).trans hk⟩

/-- the boxes, the result's box, the arena -/
structure RR (w : World) (w0 a nn ll : Nat) (re mo st fa b1 b2 bw bo x1 x2 : Nat) (more : Value) (stop : Int) (v1 v2 u1 u2 : Value) (xs ys : List (Nat × Int)) (X : Nat → Prop) (W : World) : Prop where
  held : Held mo st fa b1 b2 bw bo x1 x2 more stop a v1 v2 u1 u2 xs ys W
  re : Blk W re 4 #[.bool false]
  sx : Sx X w0 W a nn ll
  low : Below w.heap.size w W
section
variable {w : World} {w0 a nn ll re mo st fa b1 b2 bw bo x1 x2 : Nat} {more : Value} {stop : Int} {v1 v2 u1 u2 : Value} {xs ys : List (Nat × Int)} {X Z : Nat → Prop} {W W' : World}
theorem RR.below (h : RR w w0 a nn ll re mo st fa b1 b2 bw bo x1 x2 more stop v1 v2 u1 u2 xs ys X W) (hb : Below W.heap.size W W') : RR w w0 a nn ll re mo st fa b1 b2 bw bo x1 x2 more stop v1 v2 u1 u2 xs ys X W' :=
  ⟨h.held.below hb, h.re.below hb h.re.lt, h.sx.below hb, h.low.trans (hb.mono h.low.size)⟩
theorem RR.moreX (h : RR w w0 a nn ll re mo st fa b1 b2 bw bo x1 x2 more stop v1 v2 u1 u2 xs ys X W) (hb : Below W.heap.size W W') (hZ : ∀ b, Z b → X b ∨ (W.heap.size ≤ b ∧ b < W'.heap.size)) : RR w w0 a nn ll re mo st fa b1 b2 bw bo x1 x2 more stop v1 v2 u1 u2 xs ys Z W' :=
  ⟨h.held.below hb, h.re.below hb h.re.lt, h.sx.more hb hZ, h.low.trans (hb.mono h.low.size)⟩
theorem RR.lessX (h : RR w w0 a nn ll re mo st fa b1 b2 bw bo x1 x2 more stop v1 v2 u1 u2 xs ys X W) (hZ : ∀ b, Z b → X b) : RR w w0 a nn ll re mo st fa b1 b2 bw bo x1 x2 more stop v1 v2 u1 u2 xs ys Z W :=
  h.moreX (Below.refl _ W) fun b hb => .inl (hZ b hb)
theorem RR.set (h : RR w w0 a nn ll re mo st fa b1 b2 bw bo x1 x2 more stop v1 v2 u1 u2 xs ys X W) {b : Nat} (hb : ¬ hasB mo st fa b1 b2 bw bo x1 x2 v1 v2 u1 u2 b) (hr : re ≠ b) (hX : X b) (hw : w.heap.size ≤ b) (u : Value) :
    RR w w0 a nn ll re mo st fa b1 b2 bw bo x1 x2 more stop v1 v2 u1 u2 xs ys X (W.setCell ⟨b, 0, none⟩ u) :=
  ⟨h.held.setX (p := ⟨b, 0, none⟩) hb u, h.re.far (p := ⟨b, 0, none⟩) hr u, h.sx.setX (p := ⟨b, 0, none⟩) hX u, h.low.setCell hw u⟩
theorem RR.do_ (h : RR w w0 a nn ll re mo st fa b1 b2 bw bo x1 x2 more stop v1 v2 u1 u2 xs ys X W) (h0 : w0 ≤ W.heap.size) (h1 : w.heap.size ≤ w0) (hX : ∀ b, hasB mo st fa b1 b2 bw bo x1 x2 v1 v2 u1 u2 b → X b) (hr : X re) (k x y z : Int) :
    Calls Try.prog 12 #[.pointer (some ⟨a, 0, none⟩), .agg #[.int .i64 k, .int .i64 x, .int .i64 y, .int .i64 z]] W fun en W' => en = .returned (.tuple #[]) ∧
      RR w w0 a nn ll re mo st fa b1 b2 bw bo x1 x2 more stop v1 v2 u1 u2 xs ys X W' ∧ (∀ b, X b → W'.heap[b]? = W.heap[b]?) ∧ KeepsFrom 0 W W' := by
  refine (h.sx.do_ h0 k x y z).mono ?_
  rintro en W' ⟨he, hS, hk, hB, hf⟩
  exact ⟨he, ⟨h.held.keep fun b hb => hk b (hX b hb), (hk _ hr).trans h.re, hS, h.low.trans (hB.mono h1)⟩, hk, hf⟩
theorem RR.own {B : Nat} {β : Type} (hB : w.heap.size ≤ B) : OwnFrom B (fun (_ : β) W => RR w w0 a nn ll re mo st fa b1 b2 bw bo x1 x2 more stop v1 v2 u1 u2 xs ys X W) := by
  intro s A C row hs hg hr
  exact ⟨Held.own B (β := β) s A C row hs.held hg hr, Blk.ownF B _ _ (fun (_ : β) => #[.bool false]) s A C row hs.re hg hr, Sx.own B (β := β) s A C row hs.sx hg hr, ownFrom_below (β := β) (Nat.le_refl _) hB s A C row hs.low hg hr⟩
end
theorem Kpt.ownF {v : Value} {V : World} {B : Nat} {β : Type} (h : ∀ g, v.ownBlock = some g → Cel V g) : OwnFrom B (fun (_ : β) U => Kpt v V U) := by
  intro s A C row hs hg hr
  refine ⟨Nat.le_trans hs.1 hg.size, fun g hq => ?_⟩
  obtain ⟨o, ho, hc⟩ := h g hq
  have hA : Cel A g := ⟨o, (hs.2 g hq).trans ho, hc⟩
  exact (hA.turn hg (fun r e => (hr r e).2)).trans (hs.2 g hq)
end Go.Proofs.Ytbjmmfoklnhiiaa
