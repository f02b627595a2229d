/- The walk of head. Conditions: none. -/
import Derived.Test.YtjflllfkgbhemaaV35
import Derived.Test.YtjflllfkgbhemaaV37
namespace Go.Proofs.Ytjflllfkgbhemaa
open Go.RowKit
def badP : Prg := ⟨[false], [], [], [-1], 0, [⟨13, 0, 0, 0, 0⟩, ⟨0, 0, 0, 0, 0⟩]⟩
def badV (n m : Nat) : PV := ⟨some ⟨n, 0, none⟩, none, none, some ⟨n + 1, 0, none⟩, some ⟨m, 0, none⟩, 1, 1, 0, 0, 0, 0, 1, 1, 2, 2, 0⟩
theorem bad_mem {w : World} {n m : Nat} (h1 : Blk w n 4 #[.bool false]) (h2 : Blk w (n + 1) 3 #[.int .i64 (-1)]) (h3 : Blk w m 46 #[.int .i64 13, .int .i64 0, .int .i64 0, .int .i64 0, .int .i64 0, .int .i64 0, .int .i64 0, .int .i64 0, .int .i64 0, .int .i64 0]) : PMem w (badV n m) badP where
  gl := rfl
  vl := rfl
  tl := rfl
  ol := rfl
  cl := rfl
  miss := rfl
  g := fun i x hx => by
    match i, hx with
    | 0, hx => simp [badP] at hx; subst hx; exact ⟨_, rfl, h1.lt, h1.cell 0⟩
    | i + 1, hx => simp [badP] at hx
  v := fun i x hx => by simp [badP] at hx
  t := fun i x hx => by simp [badP] at hx
  o := fun i x hx => by
    match i, hx with
    | 0, hx => simp [badP] at hx; subst hx; exact ⟨_, rfl, h2.lt, h2.cell 0⟩
    | i + 1, hx => simp [badP] at hx
  c := fun i x hx => by
    match i, hx with
    | 0, hx => simp [badP] at hx; subst hx; exact ⟨⟨_, rfl, h3.lt, h3.cell 0⟩, ⟨_, rfl, h3.lt, h3.cell 1⟩, ⟨_, rfl, h3.lt, h3.cell 2⟩, ⟨_, rfl, h3.lt, h3.cell 3⟩, ⟨_, rfl, h3.lt, h3.cell 4⟩⟩
    | 1, hx => simp [badP] at hx; subst hx; exact ⟨⟨_, rfl, h3.lt, h3.cell 5⟩, ⟨_, rfl, h3.lt, h3.cell 6⟩, ⟨_, rfl, h3.lt, h3.cell 7⟩, ⟨_, rfl, h3.lt, h3.cell 8⟩, ⟨_, rfl, h3.lt, h3.cell 9⟩⟩
    | i + 2, hx => simp [badP] at hx
  lens := by simp [badV, maxLen]
theorem bad_mv {w : World} {n m : Nat} (h2 : Blk w (n + 1) 3 #[.int .i64 (-1)]) : Mv w (badV n m).oa (badV n m).oc badP.os :=
  ⟨by simp [badV, badP], by simp [badV, maxLen], by simp [badV], fun a ha => by simp [badV] at ha; subst ha; exact ⟨_, rfl, h2.lt⟩, fun i x hx => by
    match i, hx with
    | 0, hx => simp [badP] at hx; subst hx; exact ⟨_, rfl, h2.lt, h2.cell 0⟩
    | i + 1, hx => simp [badP] at hx⟩
theorem small_e : (runV smallP).1 = 0 := by kernel_rfl
theorem small_a : (runV smallP).2.1 = 0 := by kernel_rfl
theorem small_c : costsV (fuelK smallP smallP.cd.length) smallP.os = [0] := by kernel_rfl
theorem small_m : fAt (costsV (fuelK smallP smallP.cd.length) [smallP.miss]) 0 = 2 := by kernel_rfl
theorem bad_e : (runV badP).1 = 93 := by kernel_rfl
theorem bad_a : (runV badP).2.1 = 0 := by kernel_rfl
theorem small_j (w : World) : Calls Try.prog 21 #[] w fun en w' => ∃ n, en = .returned (.agg #[.slice (some ⟨n, 0, none⟩) 1 1, .slice none 0 0, .slice none 0 0, .slice (some ⟨n + 1, 0, none⟩) 1 1, .int .i64 0, .slice (some ⟨n + 2, 0, none⟩) 2 2]) ∧ PMem w' (smallV n) smallP ∧ Mv w' (smallV n).oa (smallV n).oc smallP.os ∧ Below w.heap.size w w' ∧ w.heap.size ≤ n ∧
    Blk w' n 4 #[.bool false] ∧ Blk w' (n + 1) 3 #[.int .i64 (-1)] := small_i w
theorem small_run (w : World) (n : Nat) (h : PMem w (smallV n) smallP) (hov : Mv w (smallV n).oa (smallV n).oc smallP.os) :
    Calls Try.prog 13 #[.agg #[.slice (some ⟨n, 0, none⟩) 1 1, .slice none 0 0, .slice none 0 0, .slice (some ⟨n + 1, 0, none⟩) 1 1, .int .i64 0, .slice (some ⟨n + 2, 0, none⟩) 2 2]] w fun en w' => ∃ g cs, en = .returned (.tuple #[.agg #[.slice (some ⟨g, 0, none⟩) 1 1, .int .i64 2], .agg #[.int .i64 0, .int .i64 0]]) ∧ w.heap.size ≤ g ∧ Blk w' g 3 cs ∧ cs[0]? = some (.int .i64 0) ∧ Below w.heap.size w w' := by
  refine (verifyRun_i w _ _ h hov).mono ?_
  rintro en w' ⟨oa, n, c, m, rfl, hc, hb⟩
  obtain ⟨g, cs, e, hg, hk, hx⟩ := hc.2 small_e
  rw [small_e, small_a]
  rw [small_m] at e
  rw [small_c] at hx
  injection e with e
  simp at e
  obtain ⟨⟨rfl, rfl, rfl⟩, rfl⟩ := e
  exact ⟨g, cs, rfl, hg, hk, hx 0 0 rfl, hb⟩
theorem bad_run (w : World) (n m : Nat) (h : PMem w (badV n m) badP) (hov : Mv w (badV n m).oa (badV n m).oc badP.os) :
    Calls Try.prog 13 #[.agg #[.slice (some ⟨n, 0, none⟩) 1 1, .slice none 0 0, .slice none 0 0, .slice (some ⟨n + 1, 0, none⟩) 1 1, .int .i64 0, .slice (some ⟨m, 0, none⟩) 2 2]] w fun en w' => en = .returned (.tuple #[.agg #[.slice none 0 0, .int .i64 0], .agg #[.int .i64 93, .int .i64 0]]) ∧ Below w.heap.size w w' := by
  refine (verifyRun_i w _ _ h hov).mono ?_
  rintro en w' ⟨oa, n, c, m, rfl, hc, hb⟩
  have e := hc.1 (by rw [bad_e]; decide)
  rw [bad_e, bad_a]
  injection e with e
  simp at e
  obtain ⟨⟨rfl, rfl, rfl⟩, rfl⟩ := e
  exact ⟨rfl, hb⟩
theorem small_hts (w : World) (n : Nat) (h : PMem w (smallV n) smallP) (hov : Mv w (smallV n).oa (smallV n).oc smallP.os) :
    Calls Try.prog 17 #[.agg #[.slice (some ⟨n, 0, none⟩) 1 1, .slice none 0 0, .slice none 0 0, .slice (some ⟨n + 1, 0, none⟩) 1 1, .int .i64 0, .slice (some ⟨n + 2, 0, none⟩) 2 2]] w fun en w' => ∃ g cap, en = .returned (.tuple #[.slice (some ⟨g, 0, none⟩) 2 cap, .agg #[.int .i64 0, .int .i64 0]]) ∧ Below w.heap.size w w' := by
  refine (verifyHeights_i w _ _ h hov).mono ?_
  rintro en w' ⟨v, rfl, hc, hb⟩
  obtain ⟨hown, _⟩ := hc.2 small_e
  obtain ⟨g, cap, rfl, _, _⟩ := own_form hown (by decide)
  rw [small_e, small_a]
  exact ⟨g, cap, rfl, hb⟩
set_option maxHeartbeats 8000000 in
theorem head_i (w : World) : Calls Try.prog 10 #[] w fun en w' => en = .returned (.bool true) ∧ Below w.heap.size w w' := by
  go_enter Try.func10, Try.ntmps10
  have HS := hide small_j
  have HR := hide small_run
  have HQ := hide bad_run
  have HH := hide small_hts
  have ta := 0
  go_upto_region 6 with (first
    | (go_at_call 21
       have _t := ta
       clear _t ta
       have tb := 0
       refine (HS.out _).mono ?_
       rintro en w1 ⟨n1, rfl, hp1, ho1, hb1, _, _, _⟩
       have HP1 := hide hp1
       have HO1 := hide ho1
       have HB1 := hide hb1
       clear hp1 ho1 hb1)
    | (go_at_call 13
       have _t := tb
       clear _t tb
       have tc := 0
       refine (HR.out _ _ HP1.out HO1.out).mono ?_
       rintro en w2 ⟨g2, cs2, rfl, hg2, hk2, hc2, hb2⟩
       have HK2 := hide hk2
       have HC2 := hide hc2
       have HB2 := hide hb2
       clear hk2 hc2 hb2)
    | (go_at_call 21
       have _t := tc
       clear _t tc
       have td := 0
       refine (HS.out _).mono ?_
       rintro en w3 ⟨n3, rfl, hp3, ho3, hb3, hn3, hk3, hk4⟩
       have HB3 := hide hb3
       have HK3 := hide hk3
       have HK4 := hide hk4
       clear hp3 ho3 hb3 hk3 hk4)
    | (go_at_call 13
       have _t := td
       clear _t td
       have te := 0
       have hm3 : Blk ((w3.alloc (.cells #[.slice (some ⟨n3, 0, none⟩) 1 1, .slice none 0 0, .slice none 0 0, .slice (some ⟨n3 + 1, 0, none⟩) 1 1, .int .i64 0, .slice (some ⟨w3.heap.size + 1, 0, none⟩) 2 2] 28)).alloc (.cells #[.int .i64 13, .int .i64 0, .int .i64 0, .int .i64 0, .int .i64 0, .int .i64 0, .int .i64 0, .int .i64 0, .int .i64 0, .int .i64 0] 46)) (w3.heap.size + 1) 46 #[.int .i64 13, .int .i64 0, .int .i64 0, .int .i64 0, .int .i64 0, .int .i64 0, .int .i64 0, .int .i64 0, .int .i64 0, .int .i64 0] := by
         have := Blk.new (w3.alloc (.cells #[.slice (some ⟨n3, 0, none⟩) 1 1, .slice none 0 0, .slice none 0 0, .slice (some ⟨n3 + 1, 0, none⟩) 1 1, .int .i64 0, .slice (some ⟨w3.heap.size + 1, 0, none⟩) 2 2] 28)) 46 #[.int .i64 13, .int .i64 0, .int .i64 0, .int .i64 0, .int .i64 0, .int .i64 0, .int .i64 0, .int .i64 0, .int .i64 0, .int .i64 0]
         simpa using this
       refine (HQ.out _ n3 (w3.heap.size + 1) (bad_mem ((HK3.out.alloc _).alloc _) ((HK4.out.alloc _).alloc _) hm3) (bad_mv ((HK4.out.alloc _).alloc _))).mono ?_
       rintro en w4 ⟨rfl, hb4⟩
       have HB4 := hide hb4
       clear hm3 hb4)
    | (go_at_call 21
       have _t := te
       clear _t te
       have tf := 0
       refine (HS.out _).mono ?_
       rintro en w5 ⟨n5, rfl, hp5, ho5, hb5, _, _, _⟩
       have HP5 := hide hp5
       have HO5 := hide ho5
       have HB5 := hide hb5
       clear hp5 ho5 hb5)
    | (go_at_call 17
       have _t := tf
       clear _t tf
       refine (HH.out _ _ HP5.out HO5.out).mono ?_
       rintro en w6 ⟨g6, cap6, rfl, hb6⟩
       have HB6 := hide hb6
       clear hb6))
  have k1 : Blk ((w2.alloc (.cells #[.slice (some ⟨g2, 0, none⟩) 1 1, .int .i64 2] 32)).alloc (.cells #[.int .i64 0, .int .i64 0] 35)) w2.heap.size 32 #[.slice (some ⟨g2, 0, none⟩) 1 1, .int .i64 2] := (Blk.new w2 32 #[.slice (some ⟨g2, 0, none⟩) 1 1, .int .i64 2]).alloc _
  have k2 : Blk ((w2.alloc (.cells #[.slice (some ⟨g2, 0, none⟩) 1 1, .int .i64 2] 32)).alloc (.cells #[.int .i64 0, .int .i64 0] 35)) (w2.heap.size + 1) 35 #[.int .i64 0, .int .i64 0] := by
    have := Blk.new (w2.alloc (.cells #[.slice (some ⟨g2, 0, none⟩) 1 1, .int .i64 2] 32)) 35 #[.int .i64 0, .int .i64 0]
    simpa using this
  have k3 : Blk ((w2.alloc (.cells #[.slice (some ⟨g2, 0, none⟩) 1 1, .int .i64 2] 32)).alloc (.cells #[.int .i64 0, .int .i64 0] 35)) g2 3 cs2 := (HK2.out.alloc _).alloc _
  have k5 : Blk ((w4.alloc (.cells #[.slice none 0 0, .int .i64 0] 32)).alloc (.cells #[.int .i64 93, .int .i64 0] 35)) (w4.heap.size + 1) 35 #[.int .i64 93, .int .i64 0] := by
    have := Blk.new (w4.alloc (.cells #[.slice none 0 0, .int .i64 0] 32)) 35 #[.int .i64 93, .int .i64 0]
    simpa using this
  have b0 : Below w.heap.size w ((w2.alloc (.cells #[.slice (some ⟨g2, 0, none⟩) 1 1, .int .i64 2] 32)).alloc (.cells #[.int .i64 0, .int .i64 0] 35)) := (((HB1.out.trans (HB2.out.mono HB1.out.size)).alloc (Nat.le_trans HB1.out.size HB2.out.size) _).alloc (by have := HB1.out.size; have := HB2.out.size; simp; omega) _)
  have B3 : Below ((w2.alloc (.cells #[.slice (some ⟨g2, 0, none⟩) 1 1, .int .i64 2] 32)).alloc (.cells #[.int .i64 0, .int .i64 0] 35)).heap.size ((w2.alloc (.cells #[.slice (some ⟨g2, 0, none⟩) 1 1, .int .i64 2] 32)).alloc (.cells #[.int .i64 0, .int .i64 0] 35)) ((w3.alloc (.cells #[.slice (some ⟨n3, 0, none⟩) 1 1, .slice none 0 0, .slice none 0 0, .slice (some ⟨n3 + 1, 0, none⟩) 1 1, .int .i64 0, .slice (some ⟨w3.heap.size + 1, 0, none⟩) 2 2] 28)).alloc (.cells #[.int .i64 13, .int .i64 0, .int .i64 0, .int .i64 0, .int .i64 0, .int .i64 0, .int .i64 0, .int .i64 0, .int .i64 0, .int .i64 0] 46)) := (HB3.out.alloc HB3.out.size _).alloc (by have := HB3.out.size; simp at this ⊢; omega) _
  have B4 : Below ((w3.alloc (.cells #[.slice (some ⟨n3, 0, none⟩) 1 1, .slice none 0 0, .slice none 0 0, .slice (some ⟨n3 + 1, 0, none⟩) 1 1, .int .i64 0, .slice (some ⟨w3.heap.size + 1, 0, none⟩) 2 2] 28)).alloc (.cells #[.int .i64 13, .int .i64 0, .int .i64 0, .int .i64 0, .int .i64 0, .int .i64 0, .int .i64 0, .int .i64 0, .int .i64 0, .int .i64 0] 46)).heap.size ((w3.alloc (.cells #[.slice (some ⟨n3, 0, none⟩) 1 1, .slice none 0 0, .slice none 0 0, .slice (some ⟨n3 + 1, 0, none⟩) 1 1, .int .i64 0, .slice (some ⟨w3.heap.size + 1, 0, none⟩) 2 2] 28)).alloc (.cells #[.int .i64 13, .int .i64 0, .int .i64 0, .int .i64 0, .int .i64 0, .int .i64 0, .int .i64 0, .int .i64 0, .int .i64 0, .int .i64 0] 46)) ((w4.alloc (.cells #[.slice none 0 0, .int .i64 0] 32)).alloc (.cells #[.int .i64 93, .int .i64 0] 35)) := (HB4.out.alloc HB4.out.size _).alloc (by have := HB4.out.size; simp at this ⊢; omega) _
  have B6 : Below ((w4.alloc (.cells #[.slice none 0 0, .int .i64 0] 32)).alloc (.cells #[.int .i64 93, .int .i64 0] 35)).heap.size ((w4.alloc (.cells #[.slice none 0 0, .int .i64 0] 32)).alloc (.cells #[.int .i64 93, .int .i64 0] 35)) (w6.alloc (.cells #[.int .i64 0, .int .i64 0] 35)) := (HB5.out.trans (HB6.out.mono HB5.out.size)).alloc (Nat.le_trans HB5.out.size HB6.out.size) _
  have B24 := B3.trans (B4.mono B3.size)
  have B26 := B24.trans (B6.mono B24.size)
  have j1 := k1.below B26 k1.lt
  have j2 := k2.below B26 k2.lt
  have j3 := k3.below B26 k3.lt
  have j5 := k5.below B6 k5.lt
  have j6 : Blk (w6.alloc (.cells #[.int .i64 0, .int .i64 0] 35)) w6.heap.size 35 #[.int .i64 0, .int .i64 0] := Blk.new w6 35 _
  have BA := b0.trans (B26.mono b0.size)
  generalize (w6.alloc (.cells #[.int .i64 0, .int .i64 0] 35)) = Wf at *
  have c0 : Wf.cell? ⟨w2.heap.size, 0, none⟩ = some (.slice (some ⟨g2, 0, none⟩) 1 1) := by rw [j1.cell]; rfl
  have c1 : Wf.cell? ⟨w2.heap.size, 1, none⟩ = some (.int .i64 2) := by rw [j1.cell]; rfl
  have d0 : Wf.cell? ⟨w2.heap.size + 1, 0, none⟩ = some (.int .i64 0) := by rw [j2.cell]; rfl
  have d1 : Wf.cell? ⟨w2.heap.size + 1, 1, none⟩ = some (.int .i64 0) := by rw [j2.cell]; rfl
  have g0 : Wf.cell? ⟨g2, 0, none⟩ = some (.int .i64 0) := by rw [j3.cell]; exact HC2.out
  have e0 : Wf.cell? ⟨w4.heap.size + 1, 0, none⟩ = some (.int .i64 93) := by rw [j5.cell]; rfl
  have e1 : Wf.cell? ⟨w4.heap.size + 1, 1, none⟩ = some (.int .i64 0) := by rw [j5.cell]; rfl
  have f0 : Wf.cell? ⟨w6.heap.size, 0, none⟩ = some (.int .i64 0) := by rw [j6.cell]; rfl
  have f1 : Wf.cell? ⟨w6.heap.size, 1, none⟩ = some (.int .i64 0) := by rw [j6.cell]; rfl
  have HBA := hide BA
  clear k1 k2 k3 k5 b0 B3 B4 B6 B24 B26 j1 j2 j3 j5 j6 BA
  go_wp2_with fail
  go_ret
  exact ⟨rfl, HBA.out⟩
end Go.Proofs.Ytjflllfkgbhemaa
