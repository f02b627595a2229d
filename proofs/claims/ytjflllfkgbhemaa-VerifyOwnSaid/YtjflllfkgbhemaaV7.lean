/- The walks of hands, kinds. Conditions: the instruction's operands were checked. -/
import Derived.Test.YtjflllfkgbhemaaV6
namespace Go.Proofs.Ytjflllfkgbhemaa
open Go.RowKit

def handsV (P : Prg) (op a hand : Int) : Bool :=
  if op = 36 then hand == 2 else if op = 37 then hand == 1 || hand == 3 else if op = 35 then (if ghost P a then hand == 1 || hand == 3 else hand == 2)
  else if op = 28 then true else if op = 29 then true else if op = 30 then true else (decide (1 ≤ op) && decide (op ≤ 21)) || hand == 0
def kindsV (P : Prg) (op a c : Int) : Bool :=
  if op = 32 then !ghost P a else if op = 40 then !ghost P a else if op = 41 then ghost P a else if op = 38 then ghost P a == ghost P c else if op = 39 then !ghost P a && ghost P c else true
set_option linter.unusedSimpArgs false in
set_option maxRecDepth 100000 in
set_option maxHeartbeats 2000000 in
theorem hands_i (w : World) (p : PV) (P : Prg) (h : PMem w p P) (vb : Nat) (av : Value) (hv : Blk w vb 71 (vCells p av)) (x : Ins) (hand : Int) (hq : x.op = 35 → qIn P x.a) :
    Calls Try.prog 45 #[.pointer (some ⟨vb, 0, none⟩), .agg #[.int .i64 x.op, .int .i64 x.a, .int .i64 x.b, .int .i64 x.c, .int .i64 x.d], .int .i64 hand] w fun en w' => en = .returned (.bool (handsV P x.op x.a hand)) ∧ Below w.heap.size w w' := by
  obtain ⟨op, a, b, c, d⟩ := x
  simp only at hq ⊢
  have gc : w.cell? ⟨vb, 0, none⟩ = some (.slice p.ga P.gh.length p.gc) := by rw [hv.cell, ← h.gl]; rfl
  by_cases o34 : op = 35
  · subst o34
    obtain ⟨h0, h1⟩ := hq rfl
    obtain ⟨n, rfl⟩ := Int.eq_ofNat_of_zero_le h0
    simp only [Int.toNat_natCast] at h1
    obtain ⟨y, hy⟩ : ∃ y, P.gh[n]? = some y := ⟨_, List.getElem?_eq_getElem h1⟩
    obtain ⟨g, hg, hgl, q0⟩ := h.g n y hy
    rw [hg] at gc
    have hV : handsV P 35 (n : Int) hand = if y then hand == 1 || hand == 3 else hand == 2 := by simp [handsV, ghost, hy]
    have HV := hide hV
    have hal : Below w.heap.size w (w.alloc (.cells #[.int .i64 35, .int .i64 ((n : Nat) : Int), .int .i64 b, .int .i64 c, .int .i64 d] 46)) := (Below.refl _ w).alloc (Nat.le_refl _) _
    have q1 : (w.alloc (.cells #[.int .i64 35, .int .i64 ((n : Nat) : Int), .int .i64 b, .int .i64 c, .int .i64 d] 46)).cell? ⟨g, n, none⟩ = some (.bool y) := (hal.cell (by exact hgl)).trans q0
    have gc1 := (hal.cell (p := ⟨vb, 0, none⟩) hv.lt).trans gc
    clear hV h hv hy hgl hg
    go_enter Try.func45, Try.ntmps45
    cases y
    all_goals
      go_wp2
      all_goals try (go_quiet (fail); go_wp2)
      all_goals
        go_ret
        refine ⟨?_, by first | exact (Below.refl _ w).alloc (Nat.le_refl _) _ | exact below_drewN ((Below.refl _ w).alloc (Nat.le_refl _) _) _⟩
        rw [HV.out]
        try simp only [beq_iff_eq, beq_eq_false_iff_ne, ne_eq] at *
        simp [*]
  · go_enter Try.func45, Try.ntmps45
    go_wp2
    all_goals
      go_ret
      refine ⟨?_, (Below.refl _ w).alloc (Nat.le_refl _) _⟩
      try simp only [beq_iff_eq, beq_eq_false_iff_ne, ne_eq] at *
      simp [handsV, *]
      try (intros; omega)

/-- the ghost of a queue, read -/
theorem gh_at {w : World} {p : PV} {P : Prg} (h : PMem w p P) {a : Int} (hq : qIn P a) : ∃ n g : Nat, a = n ∧ n < P.gh.length ∧ p.ga = some ⟨g, 0, none⟩ ∧ g < w.heap.size ∧ w.cell? ⟨g, n, none⟩ = some (.bool (ghost P a)) := by
  obtain ⟨h0, h1⟩ := hq
  obtain ⟨n, rfl⟩ := Int.eq_ofNat_of_zero_le h0
  simp only [Int.toNat_natCast] at h1
  obtain ⟨y, hy⟩ : ∃ y, P.gh[n]? = some y := ⟨_, List.getElem?_eq_getElem h1⟩
  obtain ⟨g, hg, hgl, q0⟩ := h.g n y hy
  exact ⟨n, g, rfl, h1, hg, hgl, by simp [ghost, hy, q0]⟩
set_option linter.unusedSimpArgs false in
set_option maxRecDepth 100000 in
set_option maxHeartbeats 2000000 in
theorem kinds_i (w : World) (p : PV) (P : Prg) (h : PMem w p P) (vb : Nat) (av : Value) (hv : Blk w vb 71 (vCells p av)) (x : Ins) (hq : x.op = 32 ∨ x.op = 40 ∨ x.op = 41 ∨ x.op = 38 ∨ x.op = 39 → qIn P x.a) (hc : x.op = 38 ∨ x.op = 39 → qIn P x.c) :
    Calls Try.prog 47 #[.pointer (some ⟨vb, 0, none⟩), .agg #[.int .i64 x.op, .int .i64 x.a, .int .i64 x.b, .int .i64 x.c, .int .i64 x.d]] w fun en w' => en = .returned (.bool (kindsV P x.op x.a x.c)) ∧ Below w.heap.size w w' := by
  obtain ⟨op, a, b, c, d⟩ := x
  simp only at hq hc ⊢
  have gc : w.cell? ⟨vb, 0, none⟩ = some (.slice p.ga P.gh.length p.gc) := by rw [hv.cell, ← h.gl]; rfl
  have hal : Below w.heap.size w (w.alloc (.cells #[.int .i64 op, .int .i64 a, .int .i64 b, .int .i64 c, .int .i64 d] 46)) := (Below.refl _ w).alloc (Nat.le_refl _) _
  have gc1 := (hal.cell (p := ⟨vb, 0, none⟩) hv.lt).trans gc
  by_cases o1 : op = 32 ∨ op = 40 ∨ op = 41
  · obtain ⟨n, g, rfl, hn, hg, hgl, q0⟩ := gh_at h (hq (by omega))
    rw [hg] at gc gc1
    have q1 := (hal.cell (p := ⟨g, n, none⟩) (by exact hgl)).trans q0
    cases hG : ghost P ((n : Nat) : Int) <;> rw [hG] at q0 q1
    all_goals
      have hV : kindsV P op (n : Int) c = if op = 41 then ghost P (n : Int) else !ghost P (n : Int) := by
        rcases o1 with rfl | rfl | rfl <;> simp [kindsV]
      rw [hG] at hV
      have HV := hide hV
      clear hV hG
      rcases o1 with rfl | rfl | rfl
      all_goals
        have hal2 := hal
        clear hal h hv hq hc
        go_enter Try.func47, Try.ntmps47
        go_wp2
        all_goals try (go_quiet (fail); go_wp2)
        all_goals
          go_ret
          refine ⟨?_, by first | exact hal2 | exact below_drewN hal2 _⟩
          rw [HV.out]
          rfl
  · by_cases o2 : op = 38 ∨ op = 39
    · obtain ⟨n, g, rfl, hn, hg, hgl, q0⟩ := gh_at h (hq (by omega))
      obtain ⟨m, g', rfl, hm, hg', hgl', r0⟩ := gh_at h (hc o2)
      rw [hg] at gc gc1
      rw [hg] at hg'
      obtain rfl : g = g' := by injection hg' with e; injection e
      have q1 := (hal.cell (p := ⟨g, n, none⟩) (by exact hgl)).trans q0
      have r1 := (hal.cell (p := ⟨g, m, none⟩) (by exact hgl)).trans r0
      have hV : kindsV P op (n : Int) (m : Int) = if op = 38 then ghost P (n : Int) == ghost P (m : Int) else !ghost P (n : Int) && ghost P (m : Int) := by
        rcases o2 with rfl | rfl <;> simp [kindsV]
      cases hG : ghost P ((n : Nat) : Int) <;> cases hM : ghost P ((m : Nat) : Int) <;> rw [hG] at q0 q1 hV <;> rw [hM] at r0 r1 hV
      all_goals
        have HV := hide hV
        clear hV hG hM
        rcases o2 with rfl | rfl
        all_goals
          have hal2 := hal
          clear hal h hv hq hc o1
          go_enter Try.func47, Try.ntmps47
          go_wp2
          all_goals try (go_quiet (fail); go_wp2)
          all_goals
            go_ret
            refine ⟨?_, by first | exact hal2 | exact below_drewN hal2 _⟩
            rw [HV.out]
            rfl
    · have hV : kindsV P op a c = true := by
        unfold kindsV
        have : op ≠ 32 ∧ op ≠ 40 ∧ op ≠ 41 ∧ op ≠ 38 ∧ op ≠ 39 := by omega
        simp [this]
      have HV := hide hV
      have h5 : op ≠ 32 ∧ op ≠ 40 ∧ op ≠ 41 ∧ op ≠ 38 ∧ op ≠ 39 := by omega
      obtain ⟨f1, f2, f3, f4, f5⟩ := h5
      clear hV hq hc h hv o1 o2
      go_enter Try.func47, Try.ntmps47
      go_wp2
      all_goals
        go_ret
        exact ⟨by rw [HV.out]; rfl, hal⟩
end Go.Proofs.Ytjflllfkgbhemaa
