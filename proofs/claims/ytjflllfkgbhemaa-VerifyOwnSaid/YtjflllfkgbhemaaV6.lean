/- The walks of hold, hands, kinds. Conditions: the instruction's operands were checked. -/
import Derived.Test.YtjflllfkgbhemaaV5
namespace Go.Proofs.Ytjflllfkgbhemaa
open Go.RowKit

/-- the verifier in memory -/
def vCells (p : PV) (at_ : Value) : Array Value := #[.slice p.ga p.gl p.gc, .slice p.va p.vl p.vc, .slice p.ta p.tl p.tc, .slice p.oa p.ol p.oc, .int .i64 p.miss, .slice p.ca p.cl p.cc, at_]
def ghost (P : Prg) (a : Int) : Bool := (P.gh[a.toNat]?).getD false
def qIn (P : Prg) (a : Int) : Prop := 0 ≤ a ∧ a.toNat < P.gh.length
theorem insE_op (P : Prg) (x : Ins) (h : insE P x = 0) : ∃ k r, x.op = ((k : Nat) : Int) ∧ table[k]? = some r ∧ ∀ m, m < 4 → opOk P r.2 x m = true := by
  by_cases h0 : x.op < 0
  · simp [insE, h0] at h
  · obtain ⟨k, hk⟩ := Int.eq_ofNat_of_zero_le (show 0 ≤ x.op by omega)
    cases hr : table[k]? with
    | none =>
      have : insE P x = 91 := by unfold insE; simp [hk, hr]
      omega
    | some r =>
      refine ⟨k, r, hk, hr, ?_⟩
      obtain ⟨op, a, b, c, d⟩ := x
      simp only at hk
      subst hk
      rw [insE_at P hr] at h
      intro m hm
      obtain rfl | rfl | rfl | rfl : m = 0 ∨ m = 1 ∨ m = 2 ∨ m = 3 := by omega
      all_goals
        cases q0 : opOk P r.2 ⟨k, a, b, c, d⟩ 0 <;> cases q1 : opOk P r.2 ⟨k, a, b, c, d⟩ 1 <;> cases q2 : opOk P r.2 ⟨k, a, b, c, d⟩ 2 <;> cases q3 : opOk P r.2 ⟨k, a, b, c, d⟩ 3 <;> simp [q0, q1, q2, q3] at h ⊢
theorem insE_q (P : Prg) (x : Ins) (h : insE P x = 0) (k m : Nat) (hk : x.op = k) (hm : m < 4) (ht : (table[k]?.bind fun r => r.2.data[m]?) = some 113) : qIn P (x.arg m) := by
  obtain ⟨k', r, e, hr, ho⟩ := insE_op P x h
  obtain rfl : k' = k := by omega
  rw [hr] at ht
  simp only [Option.bind_some] at ht
  have := ho m hm
  unfold opOk opB at this
  rw [ht] at this
  simp [boundsV, fromV] at this
  unfold qIn
  omega
def holdV (P : Prg) (op a hand : Int) : Int :=
  if op = 36 then 3 else if op = 35 then 0 else if op = 37 then 0 else if op = 34 then (if ghost P a then 1 else 2) else hand
set_option maxRecDepth 100000 in
set_option maxHeartbeats 2000000 in
theorem hold_i (w : World) (p : PV) (P : Prg) (h : PMem w p P) (vb : Nat) (av : Value) (hv : Blk w vb 71 (vCells p av)) (x : Ins) (hand : Int) (hq : x.op = 34 → qIn P x.a) :
    Calls Try.prog 49 #[.pointer (some ⟨vb, 0, none⟩), .agg #[.int .i64 x.op, .int .i64 x.a, .int .i64 x.b, .int .i64 x.c, .int .i64 x.d], .int .i64 hand] w fun en w' => en = .returned (.int .i64 (holdV P x.op x.a hand)) ∧ Below w.heap.size w w' := by
  obtain ⟨op, a, b, c, d⟩ := x
  simp only at hq ⊢
  have gc : w.cell? ⟨vb, 0, none⟩ = some (.slice p.ga P.gh.length p.gc) := by rw [hv.cell, ← h.gl]; rfl
  by_cases o34 : op = 34
  · subst o34
    obtain ⟨h0, h1⟩ := hq rfl
    obtain ⟨n, rfl⟩ := Int.eq_ofNat_of_zero_le h0
    simp only [Int.toNat_natCast] at h1
    obtain ⟨y, hy⟩ : ∃ y, P.gh[n]? = some y := ⟨_, List.getElem?_eq_getElem h1⟩
    obtain ⟨g, hg, hgl, q0⟩ := h.g n y hy
    rw [hg] at gc
    have hV : holdV P 34 (n : Int) hand = if y then 1 else 2 := by simp [holdV, ghost, hy]
    have HV := hide hV
    have hal : Below w.heap.size w (w.alloc (.cells #[.int .i64 34, .int .i64 ((n : Nat) : Int), .int .i64 b, .int .i64 c, .int .i64 d] 46)) := (Below.refl _ w).alloc (Nat.le_refl _) _
    have q1 : (w.alloc (.cells #[.int .i64 34, .int .i64 ((n : Nat) : Int), .int .i64 b, .int .i64 c, .int .i64 d] 46)).cell? ⟨g, n, none⟩ = some (.bool y) := (hal.cell (by exact hgl)).trans q0
    have gc1 := (hal.cell (p := ⟨vb, 0, none⟩) hv.lt).trans gc
    clear hV h hv hy hgl hg
    go_enter Try.func49, Try.ntmps49
    cases y
    all_goals
      go_wp2
      go_quiet (fail)
      go_wp2
      go_ret
      exact ⟨by rw [HV.out]; rfl, below_drewN ((Below.refl _ w).alloc (Nat.le_refl _) _) _⟩
  · go_enter Try.func49, Try.ntmps49
    go_wp2
    all_goals
      go_ret
      refine ⟨?_, (Below.refl _ w).alloc (Nat.le_refl _) _⟩
      simp only [beq_iff_eq, beq_eq_false_iff_ne, ne_eq] at *
      simp [holdV, *]
end Go.Proofs.Ytjflllfkgbhemaa
