/- The walk of verify's Run. Conditions: the program lies in memory. -/
import Derived.Test.YtjflllfkgbhemaaV34
namespace Go.Proofs.Ytjflllfkgbhemaa
open Go.RowKit
/-- the costs that are told -/
def CostsAre (B : Nat) (w : World) (v : Value) (P : Prg) : Prop :=
  ((runV P).1 ≠ 0 → v = .agg #[.slice none 0 0, .int .i64 0]) ∧
  ((runV P).1 = 0 → ∃ g cs, v = .agg #[.slice (some ⟨g, 0, none⟩) P.os.length P.os.length, .int .i64 (fAt (costsV (fuelK P P.cd.length) [P.miss]) 0)] ∧ B ≤ g ∧ Blk w g 3 cs ∧ ∀ (i : Nat) (x : Int), (costsV (fuelK P P.cd.length) P.os)[i]? = some x → cs[i]? = some (.int .i64 x))
theorem runV_zero {P : Prg} (h : (runV P).1 = 0) : (runV P).2.1 = 0 := by
  unfold runV at h ⊢
  split
  · rfl
  · next h0 =>
    rw [if_neg h0] at h
    split
    · next h1 => rw [if_pos h1] at h; exact absurd h h1
    · next h1 =>
      rw [if_neg h1] at h
      split
      · next ho => rw [ho] at h; simp at h
      · rfl
theorem CostsAre.below {B : Nat} {w w' : World} {v : Value} {P : Prg} (h : CostsAre B w v P) (hb : Below w.heap.size w w') : CostsAre B w' v P :=
  ⟨h.1, fun h0 => by
    obtain ⟨g, cs, e, hg, hc, hx⟩ := h.2 h0
    exact ⟨g, cs, e, hg, hc.below hb hc.lt, hx⟩⟩
theorem CostsAre.set4 {B k1 k2 : Nat} {w : World} {v : Value} {P : Prg} {c1 c2 : Array Value} {x0 x1 y0 y1 : Value} (h : CostsAre B w v P) (h1 : Blk w k1 32 c1) (h2 : Blk w k2 35 c2) :
    CostsAre B ((((w.setCell ⟨k1, 0, none⟩ x0).setCell ⟨k1, 1, none⟩ x1).setCell ⟨k2, 0, none⟩ y0).setCell ⟨k2, 1, none⟩ y1) v P :=
  ⟨h.1, fun h0 => by
    obtain ⟨g, cs, e, hg, hc, hx⟩ := h.2 h0
    have n1 : g ≠ k1 := hc.ne_ h1 (by decide)
    have n2 : g ≠ k2 := hc.ne_ h2 (by decide)
    exact ⟨g, cs, e, hg, (((hc.far (p := ⟨k1, 0, none⟩) n1 _).far (p := ⟨k1, 1, none⟩) n1 _).far (p := ⟨k2, 0, none⟩) n2 _).far (p := ⟨k2, 1, none⟩) n2 _, hx⟩⟩
theorem CostsAre.drew {B : Nat} {w : World} {v : Value} {P : Prg} (h : CostsAre B w v P) : CostsAre B w.drew v P := h
theorem CostsAre.mono {B B' : Nat} {w : World} {v : Value} {P : Prg} (h : CostsAre B w v P) (hB : B' ≤ B) : CostsAre B' w v P :=
  ⟨h.1, fun h0 => by
    obtain ⟨g, cs, e, hg, hc, hx⟩ := h.2 h0
    exact ⟨g, cs, e, Nat.le_trans hB hg, hc, hx⟩⟩
/-- run's end, in one form -/
theorem run_all (w : World) (p : PV) (P : Prg) (h : PMem w p P) (hov : Mv w p.oa p.oc P.os) :
    Calls Try.prog 26 #[p.val] w fun en w' => ∃ pa oa n c m, en = .returned (.tuple #[.pointer pa, .agg #[.slice oa n c, .int .i64 m], .agg #[.int .i64 (runV P).1, .int .i64 (runV P).2.1]]) ∧ CostsAre w.heap.size w' (.agg #[.slice oa n c, .int .i64 m]) P ∧ Below w.heap.size w w' ∧
      ((runV P).1 = 0 → ∃ vb rb, pa = some ⟨vb, 0, none⟩ ∧ VMem w' vb rb p P (runV P).2.2) := by
  refine (run_i w p P h hov).mono ?_
  rintro en w' ⟨hb, h1, h2⟩
  by_cases h0 : (runV P).1 = 0
  · obtain ⟨vb, rb, g, cs, rfl, hv, _, _, hg, hcs, hx⟩ := h2 h0
    exact ⟨_, _, _, _, _, by rw [h0, runV_zero h0], ⟨fun h => absurd h0 h, fun _ => ⟨g, cs, rfl, hg, hcs, hx⟩⟩, hb, fun _ => ⟨vb, rb, rfl, hv⟩⟩
  · exact ⟨none, none, 0, 0, 0, h1 h0, ⟨fun _ => rfl, fun h => absurd h h0⟩, hb, fun h => absurd h h0⟩
set_option maxHeartbeats 4000000 in
theorem verifyRun_i (w : World) (p : PV) (P : Prg) (h : PMem w p P) (hov : Mv w p.oa p.oc P.os) :
    Calls Try.prog 13 #[p.val] w fun en w' => ∃ oa n c m, en = .returned (.tuple #[.agg #[.slice oa n c, .int .i64 m], .agg #[.int .i64 (runV P).1, .int .i64 (runV P).2.1]]) ∧ CostsAre w.heap.size w' (.agg #[.slice oa n c, .int .i64 m]) P ∧ Below w.heap.size w w' := by
  have hres : Try.f13.results = #[.cell 2 32, .cell 3 35] := by kernel_rfl
  have hrun := fun (W : World) (hb : Below w.heap.size w W) => hide (run_all W p P (h.below hb) (hov.below hb))
  obtain ⟨ga, va, ta, oa, ca, gl, gc, vl, vc, tl, tc, ol, oc, cl, cc, miss⟩ := p
  simp only [PV.val] at *
  have hB : Below w.heap.size w (((w.alloc (.cells #[.slice ga gl gc, .slice va vl vc, .slice ta tl tc, .slice oa ol oc, .int .i64 miss, .slice ca cl cc] 28)).alloc (.cells #[.slice none 0 0, .int .i64 0] 32)).alloc (.cells #[.int .i64 0, .int .i64 0] 35)) := (((Below.refl _ w).alloc (Nat.le_refl _) _).alloc (by simp) _).alloc (by simp; omega) _
  have hC : Blk (((w.alloc (.cells #[.slice ga gl gc, .slice va vl vc, .slice ta tl tc, .slice oa ol oc, .int .i64 miss, .slice ca cl cc] 28)).alloc (.cells #[.slice none 0 0, .int .i64 0] 32)).alloc (.cells #[.int .i64 0, .int .i64 0] 35)) (w.heap.size + 1) 32 #[.slice none 0 0, .int .i64 0] := by
    have := (Blk.new (w.alloc (.cells #[.slice ga gl gc, .slice va vl vc, .slice ta tl tc, .slice oa ol oc, .int .i64 miss, .slice ca cl cc] 28)) 32 #[.slice none 0 0, .int .i64 0]).alloc (.cells #[.int .i64 0, .int .i64 0] 35)
    simpa using this
  have hF : Blk (((w.alloc (.cells #[.slice ga gl gc, .slice va vl vc, .slice ta tl tc, .slice oa ol oc, .int .i64 miss, .slice ca cl cc] 28)).alloc (.cells #[.slice none 0 0, .int .i64 0] 32)).alloc (.cells #[.int .i64 0, .int .i64 0] 35)) (w.heap.size + 1 + 1) 35 #[.int .i64 0, .int .i64 0] := by
    have := Blk.new ((w.alloc (.cells #[.slice ga gl gc, .slice va vl vc, .slice ta tl tc, .slice oa ol oc, .int .i64 miss, .slice ca cl cc] 28)).alloc (.cells #[.slice none 0 0, .int .i64 0] 32)) 35 #[.int .i64 0, .int .i64 0]
    simpa using this
  have HB := hide hB
  have HC := hide hC
  have HF := hide hF
  have HR := hide (hrun _ hB).out
  clear hB hC hF hrun h hov
  generalize (runV P).1 = e at *
  generalize (runV P).2.1 = at_ at *
  go_enter Try.func13, Try.ntmps13
  go_wp2_with (go_at_call 26
               refine HR.out.mono ?_
               rintro en w4 ⟨pa, oa, n, c, m, rfl, hc, hb, _⟩
               have HC := hide (HC.out.below hb HC.out.lt)
               have HF := hide (HF.out.below hb HF.out.lt)
               have HB := hide (HB.out.trans (hb.mono HB.out.size))
               have HCO := hide hc
               clear hc hb)
  have kC5 : Blk ((w4.alloc (.cells #[.slice oa n c, .int .i64 m] 32)).alloc (.cells #[.int .i64 e, .int .i64 at_] 35)) w4.heap.size 32 #[.slice oa n c, .int .i64 m] := (Blk.new w4 32 _).alloc _
  have kF5 : Blk ((w4.alloc (.cells #[.slice oa n c, .int .i64 m] 32)).alloc (.cells #[.int .i64 e, .int .i64 at_] 35)) (w4.heap.size + 1) 35 #[.int .i64 e, .int .i64 at_] := by
    have := Blk.new (w4.alloc (.cells #[.slice oa n c, .int .i64 m] 32)) 35 #[.int .i64 e, .int .i64 at_]
    simpa using this
  have kC := (HC.out.alloc (.cells #[.slice oa n c, .int .i64 m] 32)).alloc (.cells #[.int .i64 e, .int .i64 at_] 35)
  have kF := (HF.out.alloc (.cells #[.slice oa n c, .int .i64 m] 32)).alloc (.cells #[.int .i64 e, .int .i64 at_] 35)
  have hne : w4.heap.size + 1 ≠ w.heap.size + 1 := by have := HC.out.lt; omega
  have hcs : w4.heap.size ≤ ((w4.alloc (.cells #[.slice oa n c, .int .i64 m] 32)).alloc (.cells #[.int .i64 e, .int .i64 at_] 35)).heap.size := by simp; omega
  have hco : CostsAre w.heap.size ((w4.alloc (.cells #[.slice oa n c, .int .i64 m] 32)).alloc (.cells #[.int .i64 e, .int .i64 at_] 35)) (.agg #[.slice oa n c, .int .i64 m]) P := (HCO.out.mono (by simp; omega)).below (((Below.refl _ w4).alloc (Nat.le_refl _) _).alloc (by simp) _)
  have hb5 : Below w.heap.size w ((w4.alloc (.cells #[.slice oa n c, .int .i64 m] 32)).alloc (.cells #[.int .i64 e, .int .i64 at_] 35)) := (HB.out.alloc HB.out.size _).alloc (by have := HB.out.size; simp; omega) _
  generalize ((w4.alloc (.cells #[.slice oa n c, .int .i64 m] 32)).alloc (.cells #[.int .i64 e, .int .i64 at_] 35)) = W5 at *
  have a0 : W5.drew.cell? ⟨w4.heap.size, 0, none⟩ = some (.slice oa n c) := by rw [kC5.drew.cell]; rfl
  have a1 : W5.drew.cell? ⟨w4.heap.size, 1, none⟩ = some (.int .i64 m) := by rw [kC5.drew.cell]; rfl
  have a2 : W5.drew.cell? ⟨w4.heap.size + 1, 0, none⟩ = some (.int .i64 e) := by rw [kF5.drew.cell]; rfl
  have a3 : W5.drew.cell? ⟨w4.heap.size + 1, 1, none⟩ = some (.int .i64 at_) := by rw [kF5.drew.cell]; rfl
  have b2 : ((W5.drew.setCell ⟨w.heap.size + 1, 0, none⟩ (.slice oa n c)).setCell ⟨w.heap.size + 1, 1, none⟩ (.int .i64 m)).cell? ⟨w4.heap.size + 1, 0, none⟩ = some (.int .i64 e) := by
    have := ((kF5.drew.far (p := ⟨w.heap.size + 1, 0, none⟩) hne (.slice oa n c)).far (p := ⟨w.heap.size + 1, 1, none⟩) hne (.int .i64 m))
    rw [this.cell]; rfl
  have b3 : ((W5.drew.setCell ⟨w.heap.size + 1, 0, none⟩ (.slice oa n c)).setCell ⟨w.heap.size + 1, 1, none⟩ (.int .i64 m)).cell? ⟨w4.heap.size + 1, 1, none⟩ = some (.int .i64 at_) := by
    have := ((kF5.drew.far (p := ⟨w.heap.size + 1, 0, none⟩) hne (.slice oa n c)).far (p := ⟨w.heap.size + 1, 1, none⟩) hne (.int .i64 m))
    rw [this.cell]; rfl
  have a0n : W5.cell? ⟨w4.heap.size, 0, none⟩ = some (.slice oa n c) := a0
  have a1n : W5.cell? ⟨w4.heap.size, 1, none⟩ = some (.int .i64 m) := a1
  have a2n : W5.cell? ⟨w4.heap.size + 1, 0, none⟩ = some (.int .i64 e) := a2
  have a3n : W5.cell? ⟨w4.heap.size + 1, 1, none⟩ = some (.int .i64 at_) := a3
  have b2n : ((W5.setCell ⟨w.heap.size + 1, 0, none⟩ (.slice oa n c)).setCell ⟨w.heap.size + 1, 1, none⟩ (.int .i64 m)).cell? ⟨w4.heap.size + 1, 0, none⟩ = some (.int .i64 e) := b2
  have b3n : ((W5.setCell ⟨w.heap.size + 1, 0, none⟩ (.slice oa n c)).setCell ⟨w.heap.size + 1, 1, none⟩ (.int .i64 m)).cell? ⟨w4.heap.size + 1, 1, none⟩ = some (.int .i64 at_) := b3
  have b2d : ((W5.setCell ⟨w.heap.size + 1, 0, none⟩ (.slice oa n c)).setCell ⟨w.heap.size + 1, 1, none⟩ (.int .i64 m)).drew.cell? ⟨w4.heap.size + 1, 0, none⟩ = some (.int .i64 e) := b2
  have b3d : ((W5.setCell ⟨w.heap.size + 1, 0, none⟩ (.slice oa n c)).setCell ⟨w.heap.size + 1, 1, none⟩ (.int .i64 m)).drew.cell? ⟨w4.heap.size + 1, 1, none⟩ = some (.int .i64 at_) := b3
  have c0 : W5.drew.cell? ⟨w.heap.size + 1, 0, none⟩ = some (.slice none 0 0) := by rw [kC.drew.cell]; rfl
  have c1 : W5.drew.cell? ⟨w.heap.size + 1, 1, none⟩ = some (.int .i64 0) := by rw [kC.drew.cell]; rfl
  have d0 : W5.drew.cell? ⟨w.heap.size + 1 + 1, 0, none⟩ = some (.int .i64 0) := by rw [kF.drew.cell]; rfl
  have d1 : W5.drew.cell? ⟨w.heap.size + 1 + 1, 1, none⟩ = some (.int .i64 0) := by rw [kF.drew.cell]; rfl
  have c0n : W5.cell? ⟨w.heap.size + 1, 0, none⟩ = some (.slice none 0 0) := c0
  have c1n : W5.cell? ⟨w.heap.size + 1, 1, none⟩ = some (.int .i64 0) := c1
  have d0n : W5.cell? ⟨w.heap.size + 1 + 1, 0, none⟩ = some (.int .i64 0) := d0
  have d1n : W5.cell? ⟨w.heap.size + 1 + 1, 1, none⟩ = some (.int .i64 0) := d1
  have cf0 := kC.drew.frozen 0
  have cf1 := kC.drew.frozen 1
  have df0 := kF.drew.frozen 0
  have df1 := kF.drew.frozen 1
  have cf0n := kC.frozen 0
  have cf1n := kC.frozen 1
  have df0n := kF.frozen 0
  have df1n := kF.frozen 1
  have kCY : Blk ((((W5.setCell ⟨w.heap.size + 1, 0, none⟩ (.slice oa n c)).setCell ⟨w.heap.size + 1, 1, none⟩ (.int .i64 m)).setCell ⟨w.heap.size + 1 + 1, 0, none⟩ (.int .i64 e)).setCell ⟨w.heap.size + 1 + 1, 1, none⟩ (.int .i64 at_)) (w.heap.size + 1) 32 #[.slice oa n c, .int .i64 m] := (((kC.set_ 0 _).set_ 1 _).far (by show w.heap.size + 1 ≠ w.heap.size + 1 + 1; omega) _).far (by show w.heap.size + 1 ≠ w.heap.size + 1 + 1; omega) _
  have kFY : Blk ((((W5.setCell ⟨w.heap.size + 1, 0, none⟩ (.slice oa n c)).setCell ⟨w.heap.size + 1, 1, none⟩ (.int .i64 m)).setCell ⟨w.heap.size + 1 + 1, 0, none⟩ (.int .i64 e)).setCell ⟨w.heap.size + 1 + 1, 1, none⟩ (.int .i64 at_)) (w.heap.size + 1 + 1) 35 #[.int .i64 e, .int .i64 at_] := (((kF.far (by show w.heap.size + 1 + 1 ≠ w.heap.size + 1; omega) _).far (by show w.heap.size + 1 + 1 ≠ w.heap.size + 1; omega) _).set_ 0 _).set_ 1 _
  have hBY : Below w.heap.size w ((((W5.setCell ⟨w.heap.size + 1, 0, none⟩ (.slice oa n c)).setCell ⟨w.heap.size + 1, 1, none⟩ (.int .i64 m)).setCell ⟨w.heap.size + 1 + 1, 0, none⟩ (.int .i64 e)).setCell ⟨w.heap.size + 1 + 1, 1, none⟩ (.int .i64 at_)) := (((hb5.setCell (by show w.heap.size ≤ w.heap.size + 1; omega) _).setCell (by show w.heap.size ≤ w.heap.size + 1; omega) _).setCell (by show w.heap.size ≤ w.heap.size + 1 + 1; omega) _).setCell (by show w.heap.size ≤ w.heap.size + 1 + 1; omega) _
  have hcoY : CostsAre w.heap.size ((((W5.setCell ⟨w.heap.size + 1, 0, none⟩ (.slice oa n c)).setCell ⟨w.heap.size + 1, 1, none⟩ (.int .i64 m)).setCell ⟨w.heap.size + 1 + 1, 0, none⟩ (.int .i64 e)).setCell ⟨w.heap.size + 1 + 1, 1, none⟩ (.int .i64 at_)) (.agg #[.slice oa n c, .int .i64 m]) P := hco.set4 kC kF
  have HCY := hide kCY
  have HFY := hide kFY
  have HBY := hide hBY
  have HCOY := hide hcoY
  clear kCY kFY hBY hcoY hco hb5 hcs kC5 kF5 kC kF
  go_region
  all_goals
    go_wp2_with fail
    generalize ((((W5.setCell ⟨w.heap.size + 1, 0, none⟩ (.slice oa n c)).setCell ⟨w.heap.size + 1, 1, none⟩ (.int .i64 m)).setCell ⟨w.heap.size + 1 + 1, 0, none⟩ (.int .i64 e)).setCell ⟨w.heap.size + 1 + 1, 1, none⟩ (.int .i64 at_)) = Wy at *
    have z0 : Wy.drew.cell? ⟨w.heap.size + 1, 0, none⟩ = some (.slice oa n c) := by rw [HCY.out.drew.cell]; rfl
    have z1 : Wy.drew.cell? ⟨w.heap.size + 1, 1, none⟩ = some (.int .i64 m) := by rw [HCY.out.drew.cell]; rfl
    have z2 : Wy.drew.cell? ⟨w.heap.size + 1 + 1, 0, none⟩ = some (.int .i64 e) := by rw [HFY.out.drew.cell]; rfl
    have z3 : Wy.drew.cell? ⟨w.heap.size + 1 + 1, 1, none⟩ = some (.int .i64 at_) := by rw [HFY.out.drew.cell]; rfl
    have zn0 : Wy.cell? ⟨w.heap.size + 1, 0, none⟩ = some (.slice oa n c) := z0
    have zn1 : Wy.cell? ⟨w.heap.size + 1, 1, none⟩ = some (.int .i64 m) := z1
    have zn2 : Wy.cell? ⟨w.heap.size + 1 + 1, 0, none⟩ = some (.int .i64 e) := z2
    have zn3 : Wy.cell? ⟨w.heap.size + 1 + 1, 1, none⟩ = some (.int .i64 at_) := z3
    refine bodyPost_ret (v := .tuple #[.agg #[.slice oa n c, .int .i64 m], .agg #[.int .i64 e, .int .i64 at_]]) ?_ rfl ⟨oa, n, c, m, rfl, HCOY.out.drew, HBY.out.drew⟩
    simp only [results, hres]
    go_simp
end Go.Proofs.Ytjflllfkgbhemaa
