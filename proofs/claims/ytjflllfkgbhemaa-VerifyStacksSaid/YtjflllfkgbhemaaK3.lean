/- The walk of within. Conditions: the number is not 0. -/
import Derived.Test.YtjflllfkgbhemaaV38
import Derived.Test.YtjflllfkgbhemaaK2
namespace Go.Proofs.Ytjflllfkgbhemaa
open Go.RowKit
def withinV (a n : Int) : Int := if a.tmod n < 0 then a.tmod n + n else a.tmod n
theorem within_in (a n : Int) (hn : 0 < n) : 0 ≤ withinV a n ∧ withinV a n < n := by
  have h1 := Int.tmod_lt_of_pos a hn
  have h2 : -n < a.tmod n := by
    have := Int.tmod_lt_of_pos (-a) hn
    rw [Int.neg_tmod] at this
    omega
  unfold withinV
  split <;> omega
set_option maxHeartbeats 4000000 in
theorem within_i (w : World) (a n : Int) (hn : 0 < n) (hn2 : n ≤ 4611686018427387904) : Calls Try.prog 20 #[.int .i64 a, .int .i64 n] w fun en w' => en = .returned (.int .i64 (withinV a n)) ∧ w' = w := by
  have hb := within_in a n hn
  have h0 : n ≠ 0 := by omega
  have h2 : -n < a.tmod n := by
    have := Int.tmod_lt_of_pos (-a) hn
    rw [Int.neg_tmod] at this
    omega
  have h3 := Int.tmod_lt_of_pos a hn
  unfold withinV
  generalize hk : a.tmod n = k at *
  have u1 := IntWalk.i64_in k (by omega)
  have u2 := IntWalk.i64_in (k + n) (by omega)
  go_enter Try.func20, Try.ntmps20
  go_wp2_with fail
  all_goals
    go_ret
    exact ⟨rfl, rfl⟩
/-- instructions as cells -/
def codeV (l : List Ins) : List Value := l.flatMap fun x => [.int .i64 x.op, .int .i64 x.a, .int .i64 x.b, .int .i64 x.c, .int .i64 x.d]
theorem codeV_append (l l' : List Ins) : codeV (l ++ l') = codeV l ++ codeV l' := by simp [codeV]
theorem codeV_get : ∀ {l : List Ins} {i : Nat} {x : Ins}, l[i]? = some x → (codeV l)[i * 5]? = some (.int .i64 x.op) ∧ (codeV l)[i * 5 + 1]? = some (.int .i64 x.a) ∧ (codeV l)[i * 5 + 2]? = some (.int .i64 x.b) ∧ (codeV l)[i * 5 + 3]? = some (.int .i64 x.c) ∧ (codeV l)[i * 5 + 4]? = some (.int .i64 x.d)
  | [], i, x, h => by simp at h
  | y :: l, 0, x, h => by
    simp at h
    subst h
    exact ⟨rfl, rfl, rfl, rfl, rfl⟩
  | y :: l, i + 1, x, h => by
    have ih := codeV_get (l := l) (i := i) (x := x) (by simpa using h)
    have e : codeV (y :: l) = [.int .i64 y.op, .int .i64 y.a, .int .i64 y.b, .int .i64 y.c, .int .i64 y.d] ++ codeV l := rfl
    have sh : ∀ j, ([.int .i64 y.op, .int .i64 y.a, .int .i64 y.b, .int .i64 y.c, .int .i64 y.d] ++ codeV l)[(i + 1) * 5 + j]? = (codeV l)[i * 5 + j]? := fun j => by
      have hl : ([.int .i64 y.op, .int .i64 y.a, .int .i64 y.b, .int .i64 y.c, .int .i64 y.d] : List Value).length = 5 := rfl
      rw [List.getElem?_append_right (by omega), hl, show (i + 1) * 5 + j - 5 = i * 5 + j by omega]
    rw [e]
    exact ⟨(sh 0).trans ih.1, (sh 1).trans ih.2.1, (sh 2).trans ih.2.2.1, (sh 3).trans ih.2.2.2.1, (sh 4).trans ih.2.2.2.2⟩
theorem codeV_len (l : List Ins) : (codeV l).length = l.length * 5 := by
  induction l with
  | nil => rfl
  | cons x l ih =>
    have e : codeV (x :: l) = [.int .i64 x.op, .int .i64 x.a, .int .i64 x.b, .int .i64 x.c, .int .i64 x.d] ++ codeV l := rfl
    rw [e, List.length_append, ih]
    simp
    omega
/-- a program of one queue, whose code is a row of its own -/
def stackV (n vb nv g len cap : Nat) : PV := ⟨some ⟨n, 0, none⟩, if nv = 0 then none else some ⟨vb, 0, none⟩, none, some ⟨n + 1, 0, none⟩, some ⟨g, 0, none⟩, 1, 1, nv, nv, 0, 0, 1, 1, len, cap, 0⟩
theorem own_mem {w : World} {n vb nv g cap base : Nat} {cd : List Ins} (h1 : Blk w n 4 #[.bool false]) (h2 : Blk w (n + 1) 3 #[.int .i64 (-1)]) (h3 : nv ≤ 1) (h4 : 0 < nv → Blk w vb 49 #[.int .i64 0, .int .i64 0, .int .i64 0])
    (h5 : w.ownsRow base 46 5 (.slice (some ⟨g, 0, none⟩) cd.length cap) cd.length (codeV cd)) (h6 : cd.length ≤ maxLen) : PMem w (stackV n vb nv g cd.length cap) ⟨[false], List.replicate nv ⟨0, 0, 0⟩, [], [-1], 0, cd⟩ where
  gl := rfl
  vl := by simp [stackV]
  tl := rfl
  ol := rfl
  cl := rfl
  miss := rfl
  g := fun i x hx => by
    match i, hx with
    | 0, hx => simp at hx; subst hx; exact ⟨_, rfl, h1.lt, h1.cell 0⟩
    | i + 1, hx => simp at hx
  v := fun i x hx => by
    simp only [List.getElem?_replicate] at hx
    split at hx
    · next hi =>
      cases hx
      obtain rfl : i = 0 := by omega
      have hb := h4 (by omega)
      have e : (stackV n vb nv g cd.length cap).va = some ⟨vb, 0, none⟩ := by simp [stackV]; omega
      exact ⟨⟨_, e, hb.lt, hb.cell 0⟩, ⟨_, e, hb.lt, hb.cell 1⟩, ⟨_, e, hb.lt, hb.cell 2⟩⟩
    · cases hx
  t := fun i x hx => by simp at hx
  o := fun i x hx => by
    match i, hx with
    | 0, hx => simp at hx; subst hx; exact ⟨_, rfl, h2.lt, h2.cell 0⟩
    | i + 1, hx => simp at hx
  c := fun i x hx => by
    have hi := (List.getElem?_eq_some_iff.1 hx).1
    obtain ⟨c0, c1, c2, c3, c4⟩ := codeV_get hx
    have hg := (h5.lt g rfl).2
    simp only at hi
    exact ⟨⟨_, rfl, hg, (h5.cellAt _ (by omega)).trans c0⟩, ⟨_, rfl, hg, (h5.cellAt _ (by omega)).trans c1⟩, ⟨_, rfl, hg, (h5.cellAt _ (by omega)).trans c2⟩, ⟨_, rfl, hg, (h5.cellAt _ (by omega)).trans c3⟩, ⟨_, rfl, hg, (h5.cellAt _ (by omega)).trans c4⟩⟩
  lens := by refine ⟨?_, ?_, ?_, ?_, h6⟩ <;> simp [stackV, maxLen]; omega
theorem own_mv {w : World} {n vb nv g len cap : Nat} (h2 : Blk w (n + 1) 3 #[.int .i64 (-1)]) : Mv w (stackV n vb nv g len cap).oa (stackV n vb nv g len cap).oc [-1] :=
  ⟨by simp [stackV], by simp [stackV, maxLen], by simp [stackV], fun a ha => by simp [stackV] at ha; subst ha; exact ⟨_, rfl, h2.lt⟩, fun i x hx => by
    match i, hx with
    | 0, hx => simp at hx; subst hx; exact ⟨_, rfl, h2.lt, h2.cell 0⟩
    | i + 1, hx => simp at hx⟩
theorem info46 : (Try.prog.info? 46).map (fun i => (i.zero, i.size, i.bytes)) = some (some (.agg #[.int .i64 0, .int .i64 0, .int .i64 0, .int .i64 0, .int .i64 0]), 5, 40) := by kernel_rfl
/-- the cells of one instruction that was laid for an append -/
theorem ins_cells (w : World) (xs : List Value) (t : TypeId) : ∀ j u, xs[j]? = some u → (w.alloc (.cells xs.toArray t)).cell? ((⟨w.heap.size, 0, none⟩ : Addr).add j) = some u := by
  intro j u hj
  have e : (⟨w.heap.size, 0, none⟩ : Addr).add j = ⟨w.heap.size, j, none⟩ := by unfold Addr.add; split <;> simp_all
  rw [e, (Blk.new w t xs.toArray).cell]
  simpa using hj
end Go.Proofs.Ytjflllfkgbhemaa
