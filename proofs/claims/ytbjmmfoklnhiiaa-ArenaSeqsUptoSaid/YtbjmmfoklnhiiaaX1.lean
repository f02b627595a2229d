/- What the ranges of ArenaSeqs hold fast: boxes, kept snapshots, lists of numbers. Conditions: those of each lemma. -/
import Derived.Test.YtbjmmfoklnhiiaaW27
namespace Go.Proofs.Ytbjmmfoklnhiiaa
open Go.RowKit Go.Shelf

/-- a block of cells -/
def Cel (w : World) (b : Nat) : Prop := ∃ o : Obj, w.heap[b]? = some o ∧ o.isCells = true
theorem Blk.cel {w : World} {g : Nat} {t : TypeId} {cs : Array Value} (h : Blk w g t cs) : Cel w g := ⟨_, h, rfl⟩
theorem own_cel {w : World} {base : Nat} {e : TypeId} {size n : Nat} {v : Value} {xs : List Value} (h : w.ownsRow base e size v n xs) {g : Nat} (hg : v.ownBlock = some g) : Cel w g := by
  rcases h.2 with ⟨rfl, _⟩ | ⟨k, cap, cur, rfl, _, hgb, _⟩
  · simp [Value.ownBlock] at hg
  · simp [Value.ownBlock] at hg
    subst hg
    exact ⟨_, hgb, rfl⟩
theorem own_keep {w w' : World} {base : Nat} {e : TypeId} {size n : Nat} {v : Value} {xs : List Value} (h : w.ownsRow base e size v n xs) (hk : ∀ g, v.ownBlock = some g → w'.heap[g]? = w.heap[g]?) : w'.ownsRow base e size v n xs := by
  refine ⟨h.1, ?_⟩
  rcases h.2 with hn | ⟨g, cap, cur, rfl, hb, hgg, rest⟩
  · exact .inl hn
  · exact .inr ⟨g, cap, cur, rfl, hb, (hk g rfl).trans hgg, rest⟩
theorem AMem.cel {w : World} {f : Fp} {s : ASt Int} (h : AMem Ki w f s) {k : Nat} (hk : f.has k) : Cel w k := by
  obtain ⟨nv, lv, h1, h2, h3⟩ := h
  rcases hk with rfl | rfl | rfl
  · exact h1.cel
  · rcases h2.2 with h | ⟨_, h⟩
    · exact own_cel h2.1 h
    · rw [h]; exact h1.cel
  · rcases h3.2 with h | ⟨_, h⟩
    · exact own_cel h3.1 h
    · rw [h]; exact h1.cel
/-- a turn of a block that holds no cells -/
theorem Cel.turn {A B : World} {b : Nat} (h : Cel A b) {row : Option Nat} (hg : A.grownBy B row) (hr : ∀ r, row = some r → ∃ o : Obj, A.heap[r]? = some o ∧ o.isCells = false) : B.heap[b]? = A.heap[b]? := by
  obtain ⟨o, ho, hc⟩ := h
  refine hg.block b (Array.getElem?_eq_some_iff.1 ho).1 (fun e => ?_)
  obtain ⟨o', ho', hc'⟩ := hr b e.symm
  rw [ho] at ho'; cases ho'; rw [hc] at hc'; cases hc'

/-- some arena beside X -/
def Sx (X : Nat → Prop) (w0 : Nat) (W : World) (ab n l : Nat) : Prop := ∃ s, Six X w0 W ab s n l
section
variable {X : Nat → Prop} {w0 n l ab : Nat} {W W' : World}
theorem Sx.below (h : Sx X w0 W ab n l) (hb : Below W.heap.size W W') : Sx X w0 W' ab n l := by obtain ⟨s, h⟩ := h; exact ⟨s, h.below hb⟩
theorem Sx.setX (h : Sx X w0 W ab n l) {p : Addr} (hp : X p.block) (u : Value) : Sx X w0 (W.setCell p u) ab n l := by obtain ⟨s, h⟩ := h; exact ⟨s, h.setX hp u⟩
theorem Sx.more {Y : Nat → Prop} (h : Sx X w0 W ab n l) (hb : Below W.heap.size W W') (hY : ∀ b, Y b → X b ∨ (W.heap.size ≤ b ∧ b < W'.heap.size)) : Sx Y w0 W' ab n l := by obtain ⟨s, h⟩ := h; exact ⟨s, h.more hb hY⟩
theorem Sx.own (B : Nat) {β : Type} : OwnFrom B (fun (_ : β) W => Sx X w0 W ab n l) := by
  rintro _ A B' row ⟨s, hs⟩ hg hr
  refine ⟨s, ?_⟩
  obtain ⟨f, hL, hX⟩ := hs
  have hh := fun b (hb : f.has b) => (hL.mem.cel hb).turn hg (fun r e => (hr r e).2)
  exact ⟨f, ⟨hL.ab, hL.mem.keep (hh _ (.inl rfl)) (hh _ (.inr (.inl rfl))) (hh _ (.inr (.inr rfl))), hL.fresh, hL.rep⟩, fun b hb => ⟨Nat.lt_of_lt_of_le (hX b hb).1 hg.size, (hX b hb).2⟩⟩
theorem Sx.do_ (h : Sx X w0 W ab n l) (h0 : w0 ≤ W.heap.size) (k a b c : Int) :
    Calls Try.prog 12 #[.pointer (some ⟨ab, 0, none⟩), .agg #[.int .i64 k, .int .i64 a, .int .i64 b, .int .i64 c]] W fun en W' => en = .returned (.tuple #[]) ∧
      Sx X w0 W' ab n l ∧ (∀ b, X b → W'.heap[b]? = W.heap[b]?) ∧ Below w0 W W' ∧ KeepsFrom 0 W W' := by
  obtain ⟨s, f, hL, hX⟩ := h
  obtain ⟨A, hr, _⟩ := hL.rep
  have := do_i W f s A hL.mem hr k a b c
  rw [hL.ab] at this
  refine this.mono ?_
  rintro en W' ⟨he, f', hM, hO, hv⟩
  refine ⟨he, ⟨_, f', hL.act h0 hM hv, ?_⟩, fun b hb => hO.block b (hX b hb).1 (hX b hb).2, hO.below hL.fresh h0, hO.size, ?_⟩
  · intro b hb
    refine ⟨Nat.lt_of_lt_of_le (hX b hb).1 hO.size, ?_⟩
    obtain ⟨m1, m2, m3⟩ := hv
    have h1 := (hX b hb).1
    have h2 := (hX b hb).2
    rintro (e | e | e)
    · exact h2 (.inl (by omega))
    · rcases m3 with m | m
      · exact h2 (.inr (.inl (by omega)))
      · omega
    · exact h2 (.inr (.inr (by omega)))
  · intro b o _ ho hc
    refine (hO.block b (Array.getElem?_eq_some_iff.1 ho).1 (fun hf => ?_)).trans ho
    obtain ⟨o', ho', hc'⟩ := hL.mem.cel hf
    rw [ho] at ho'; cases ho'; rw [hc] at hc'; cases hc'
theorem Sx.whole (h : Sx X w0 W ab n l) (hn : n ≤ 2000) :
    Calls Try.prog 13 #[.pointer (some ⟨ab, 0, none⟩), .int .i64 n, .int .i64 l] W fun en w' => en = .returned (.bool true) ∧ Below W.heap.size W w' := by
  obtain ⟨s, f, hL, _⟩ := h
  exact hL.whole hn
end

theorem Lies.made {w0 ab n l : Nat} {w : World} {f : Fp} {s : ASt Int} (h : Lies w0 w ab f s n l) : s.made ≤ 4194304 := by
  obtain ⟨A, hr, _⟩ := h.rep
  have hb := hr.bd
  have := hb.mm
  have := hb.m22
  omega
section
variable {X : Nat → Prop} {w0 n l ab : Nat} {W : World} {s : ASt Int}
theorem Six.told (h : Six X w0 W ab s n l) (i e : Int) : ∃ xs, Told s i e xs ∧ xs.length ≤ 4194304 := by
  obtain ⟨f, hL, _⟩ := h
  obtain ⟨A, hr, _⟩ := hL.rep
  have hx := hr.told i e
  exact ⟨_, hx, by have := hx.short; have := hL.made; omega⟩
theorem Six.all (h : Six X w0 W ab s n l) {i e : Int} {xs : List (Nat × Int)} (hx : Told s i e xs) :
    Calls Try.prog 15 #[.pointer (some ⟨ab, 0, none⟩), .int .i64 i, .int .i64 e] W fun en w' => ∃ v, en = .returned (.func (.func 38) #[] #[.pointer (some ⟨W.heap.size, 0, none⟩)]) ∧
      Blk w' W.heap.size 70 #[v] ∧ w'.ownsRow (W.heap.size + 1) 79 2 v xs.length (rowCells xs) ∧ Below W.heap.size W w' := by
  obtain ⟨f, hL, _⟩ := h
  rw [← hL.ab]
  exact all_i W f s hL.mem i e xs hx hL.made
theorem Six.listed (h : Six X w0 W ab s n l) {i e : Int} {xs : List (Nat × Int)} (hx : Told s i e xs) :
    Calls Try.prog 16 #[.pointer (some ⟨ab, 0, none⟩), .int .i64 i, .int .i64 e] W fun en w' => ∃ v, en = .returned v ∧ w'.ownsRow W.heap.size 3 1 v (xs.length * 2) (ints (prs xs)) ∧ Below W.heap.size W w' := by
  obtain ⟨f, hL, _⟩ := h
  rw [← hL.ab, ← prs_len]
  exact listed_i W f s hL.mem i e xs hx hL.made
end

/-- the boxes and what they hold -/
def hasV (v : Value) (b : Nat) : Prop := v.ownBlock = some b
structure Held (mo st fa b1 b2 bw bo x1 x2 : Nat) (more : Value) (stop : Int) (a : Nat) (v1 v2 u1 u2 : Value) (xs ys : List (Nat × Int)) (W : World) : Prop where
  mo : Blk W mo 23 #[more]
  st : Blk W st 3 #[.int .i64 stop]
  fa : Blk W fa 24 #[.pointer (some ⟨a, 0, none⟩)]
  b1 : Blk W b1 33 #[.func (.func 38) #[] #[.pointer (some ⟨x1, 0, none⟩)]]
  b2 : Blk W b2 33 #[.func (.func 38) #[] #[.pointer (some ⟨x2, 0, none⟩)]]
  bw : Blk W bw 35 #[u1]
  bo : Blk W bo 35 #[u2]
  x1 : Blk W x1 70 #[v1]
  x2 : Blk W x2 70 #[v2]
  r1 : W.ownsRow 0 79 2 v1 xs.length (rowCells xs)
  r2 : W.ownsRow 0 79 2 v2 ys.length (rowCells ys)
  w1 : W.ownsRow 0 3 1 u1 (xs.length * 2) (ints (prs xs))
  w2 : W.ownsRow 0 3 1 u2 (ys.length * 2) (ints (prs ys))
def hasB (mo st fa b1 b2 bw bo x1 x2 : Nat) (v1 v2 u1 u2 : Value) (b : Nat) : Prop :=
  b = mo ∨ b = st ∨ b = fa ∨ b = b1 ∨ b = b2 ∨ b = bw ∨ b = bo ∨ b = x1 ∨ b = x2 ∨ v1.ownBlock = some b ∨ v2.ownBlock = some b ∨ u1.ownBlock = some b ∨ u2.ownBlock = some b
section
variable {mo st fa b1 b2 bw bo x1 x2 : Nat} {more : Value} {stop : Int} {a : Nat} {v1 v2 u1 u2 : Value} {xs ys : List (Nat × Int)} {W W' : World}
theorem Held.keep (h : Held mo st fa b1 b2 bw bo x1 x2 more stop a v1 v2 u1 u2 xs ys W) (hk : ∀ b, hasB mo st fa b1 b2 bw bo x1 x2 v1 v2 u1 u2 b → W'.heap[b]? = W.heap[b]?) :
    Held mo st fa b1 b2 bw bo x1 x2 more stop a v1 v2 u1 u2 xs ys W' := by
  refine ⟨(hk _ (by simp [hasB])).trans h.mo, (hk _ (by simp [hasB])).trans h.st, (hk _ (by simp [hasB])).trans h.fa, (hk _ (by simp [hasB])).trans h.b1, (hk _ (by simp [hasB])).trans h.b2, (hk _ (by simp [hasB])).trans h.bw,
    (hk _ (by simp [hasB])).trans h.bo, (hk _ (by simp [hasB])).trans h.x1, (hk _ (by simp [hasB])).trans h.x2, own_keep h.r1 fun g hg => hk g ?_, own_keep h.r2 fun g hg => hk g ?_, own_keep h.w1 fun g hg => hk g ?_, own_keep h.w2 fun g hg => hk g ?_⟩ <;> simp [hasB, hg]
theorem Held.cel (h : Held mo st fa b1 b2 bw bo x1 x2 more stop a v1 v2 u1 u2 xs ys W) {b : Nat} (hb : hasB mo st fa b1 b2 bw bo x1 x2 v1 v2 u1 u2 b) : Cel W b := by
  rcases hb with rfl | rfl | rfl | rfl | rfl | rfl | rfl | rfl | rfl | hb | hb | hb | hb
  · exact h.mo.cel
  · exact h.st.cel
  · exact h.fa.cel
  · exact h.b1.cel
  · exact h.b2.cel
  · exact h.bw.cel
  · exact h.bo.cel
  · exact h.x1.cel
  · exact h.x2.cel
  · exact own_cel h.r1 hb
  · exact own_cel h.r2 hb
  · exact own_cel h.w1 hb
  · exact own_cel h.w2 hb
theorem Held.lt (h : Held mo st fa b1 b2 bw bo x1 x2 more stop a v1 v2 u1 u2 xs ys W) {b : Nat} (hb : hasB mo st fa b1 b2 bw bo x1 x2 v1 v2 u1 u2 b) : b < W.heap.size := by
  obtain ⟨o, ho, _⟩ := h.cel hb
  exact (Array.getElem?_eq_some_iff.1 ho).1
theorem Held.below (h : Held mo st fa b1 b2 bw bo x1 x2 more stop a v1 v2 u1 u2 xs ys W) (hb : Below W.heap.size W W') : Held mo st fa b1 b2 bw bo x1 x2 more stop a v1 v2 u1 u2 xs ys W' :=
  h.keep fun _ hh => hb.block _ (h.lt hh)
theorem Held.setX (h : Held mo st fa b1 b2 bw bo x1 x2 more stop a v1 v2 u1 u2 xs ys W) {p : Addr} (hp : ¬ hasB mo st fa b1 b2 bw bo x1 x2 v1 v2 u1 u2 p.block) (u : Value) : Held mo st fa b1 b2 bw bo x1 x2 more stop a v1 v2 u1 u2 xs ys (W.setCell p u) :=
  h.keep fun b hh => Below.heap_setCell W p u b (fun e => hp (e ▸ hh))
theorem Held.own (B : Nat) {β : Type} : OwnFrom B (fun (_ : β) W => Held mo st fa b1 b2 bw bo x1 x2 more stop a v1 v2 u1 u2 xs ys W) := by
  intro _ A B' row hs hg hr
  exact hs.keep fun b hb => (hs.cel hb).turn hg (fun r e => (hr r e).2)
end
theorem Blk.ownF (B b : Nat) (t : TypeId) {β : Type} (c : β → Array Value) : OwnFrom B (fun s W => Blk W b t (c s)) := by
  intro s A B' row hs hg hr
  exact (hs.cel.turn hg (fun r e => (hr r e).2)).trans hs
/-- a list of numbers, at a place -/
theorem ints_at {W : World} {base : Nat} {u : Value} {xs : List (Nat × Int)} (h : W.ownsRow base 3 1 u (xs.length * 2) (ints (prs xs))) {k : Nat} {x : Nat × Int} (hx : xs[k]? = some x) :
    ∃ g cap, u = .slice (some ⟨g, 0, none⟩) (xs.length * 2) cap ∧ W.cell? ⟨g, k * 2, none⟩ = some (.int .i64 (x.1 : Int)) ∧ W.cell? ⟨g, k * 2 + 1, none⟩ = some (.int .i64 x.2) := by
  have hk : k < xs.length := (List.getElem?_eq_some_iff.1 hx).1
  have hl := prs_len xs
  obtain ⟨g, cap, rfl, _⟩ := own_form h (by omega)
  have hg := prs_get hx
  refine ⟨g, cap, rfl, ?_, ?_⟩
  · rw [h.cellAt _ (by omega)]; simp [ints, hg.1]
  · rw [h.cellAt _ (by omega)]; simp [ints, hg.2]
end Go.Proofs.Ytbjmmfoklnhiiaa
