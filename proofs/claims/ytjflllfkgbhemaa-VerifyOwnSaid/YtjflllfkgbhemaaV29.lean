/- The walk of look. Conditions: the bounds that are named. -/
import Derived.Test.YtjflllfkgbhemaaVr
import Derived.Test.YtjflllfkgbhemaaVy
import Derived.Deep.CutBlock
import Derived.Deep.DeepCutAuto
import Derived.StillTailTactics
namespace Go.Proofs.Ytjflllfkgbhemaa
open Go.RowKit
set_option linter.unusedVariables false in
set_option linter.unusedSimpArgs false in
set_option maxRecDepth 100000 in
set_option maxHeartbeats 100000000 in
theorem look_i (w : World) (vb rb : Nat) (p : PV) (P : Prg) (ats : List St) (h : VMem w vb rb p P ats) (hfar : ∀ w', Only (fun k => k = rb) w w' → PMem w' p P) (hn : P.cd.length ≤ 262144) (ho : P.os.length ≤ 4194304) (at_ : Nat) (x : Ins) (s : St) (hx : P.cd[at_]? = some x) (hs : ats[at_]? = some s) (hc : Chk P x) (hf : Fits P ats) :
    Calls Try.prog 34 #[.pointer (some ⟨vb, 0, none⟩), .int .i64 (at_ : Int)] w fun en w' => en = .returned (.int .i64 (lookV P at_ x s ats).1) ∧ VMem w' vb rb p P (lookV P at_ x s ats).2 ∧ Only (fun k => k = rb) w w' := by
  have hat : at_ < P.cd.length := (List.getElem?_eq_some_iff.1 hx).1
  obtain ⟨na, g, ena, hna, hg, hgl, q0, q1, q2, q3, q4⟩ := code_at h.m (a := (at_ : Int)) ⟨by omega, by omega⟩
  obtain rfl : na = at_ := by omega
  have ex : insAt P (na : Int) = x := by simp [insAt, hx]
  rw [ex] at q0 q1 q2 q3 q4
  obtain ⟨oa, ca, hm, hrow⟩ := h.r.row na s hs
  have hft := hf na s hs
  have v5 : w.cell? ⟨vb, 5, none⟩ = some (.slice (some ⟨g, 0, none⟩) P.cd.length p.cc) := by rw [h.v.cell, ← h.m.cl, ← hg]; rfl
  have v6 : w.cell? ⟨vb, 6, none⟩ = some (.slice (some ⟨rb, 0, none⟩) P.cd.length P.cd.length) := by rw [h.v.cell, ← h.len]; rfl
  obtain ⟨there, ty, ls, hand⟩ := s
  obtain ⟨op, a, b, c, d⟩ := x
  simp only [St.cells] at hrow q0 q1 q2 q3 q4 hm
  have r0 : w.cell? ⟨rb, na * 13, none⟩ = some (.bool there) := hrow 0 _ rfl
  have r1 : w.cell? ⟨rb, na * 13 + 1, none⟩ = some (.string ty) := hrow 1 _ rfl
  have r2 : w.cell? ⟨rb, na * 13 + 2, none⟩ = some (.int .i64 (lv ls 0)) := hrow 2 _ rfl
  have r3 : w.cell? ⟨rb, na * 13 + 3, none⟩ = some (.int .i64 (lv ls 1)) := hrow 3 _ rfl
  have r4 : w.cell? ⟨rb, na * 13 + 4, none⟩ = some (.int .i64 (lv ls 2)) := hrow 4 _ rfl
  have r5 : w.cell? ⟨rb, na * 13 + 5, none⟩ = some (.int .i64 (lv ls 3)) := hrow 5 _ rfl
  have r6 : w.cell? ⟨rb, na * 13 + 6, none⟩ = some (.int .i64 (lv ls 4)) := hrow 6 _ rfl
  have r7 : w.cell? ⟨rb, na * 13 + 7, none⟩ = some (.int .i64 (lv ls 5)) := hrow 7 _ rfl
  have r8 : w.cell? ⟨rb, na * 13 + 8, none⟩ = some (.int .i64 (lv ls 6)) := hrow 8 _ rfl
  have r9 : w.cell? ⟨rb, na * 13 + 9, none⟩ = some (.int .i64 (lv ls 7)) := hrow 9 _ rfl
  have r10 : w.cell? ⟨rb, na * 13 + 10, none⟩ = some (.int .i64 (ls.length : Int)) := hrow 10 _ rfl
  have r11 : w.cell? ⟨rb, na * 13 + 11, none⟩ = some (.int .i64 hand) := hrow 11 _ rfl
  have r12 : w.cell? ⟨rb, na * 13 + 12, none⟩ = some (.slice oa (ls.length - 8) ca) := hrow 12 _ rfl
  have lv_ : vb < w.heap.size := h.v.lt
  have lr_ : rb < w.heap.size := by obtain ⟨⟨cs, hcs, _⟩, _⟩ := h.r; exact hcs.lt
  have v5a : ∀ o, (w.alloc o).cell? _ = _ := fun o => (World.cell?_alloc_lt w o _ (by exact lv_)).trans v5
  have v5b : ∀ o o1, ((w.alloc o).alloc o1).cell? _ = _ := fun o o1 => (World.cell?_alloc_lt (w.alloc o) o1 _ (by simp; exact Nat.lt_succ_of_lt lv_)).trans (v5a o)
  have v6a : ∀ o, (w.alloc o).cell? _ = _ := fun o => (World.cell?_alloc_lt w o _ (by exact lv_)).trans v6
  have v6b : ∀ o o1, ((w.alloc o).alloc o1).cell? _ = _ := fun o o1 => (World.cell?_alloc_lt (w.alloc o) o1 _ (by simp; exact Nat.lt_succ_of_lt lv_)).trans (v6a o)
  have q0a : ∀ o, (w.alloc o).cell? _ = _ := fun o => (World.cell?_alloc_lt w o _ (by exact hgl)).trans q0
  have q0b : ∀ o o1, ((w.alloc o).alloc o1).cell? _ = _ := fun o o1 => (World.cell?_alloc_lt (w.alloc o) o1 _ (by simp; exact Nat.lt_succ_of_lt hgl)).trans (q0a o)
  have q1a : ∀ o, (w.alloc o).cell? _ = _ := fun o => (World.cell?_alloc_lt w o _ (by exact hgl)).trans q1
  have q1b : ∀ o o1, ((w.alloc o).alloc o1).cell? _ = _ := fun o o1 => (World.cell?_alloc_lt (w.alloc o) o1 _ (by simp; exact Nat.lt_succ_of_lt hgl)).trans (q1a o)
  have q2a : ∀ o, (w.alloc o).cell? _ = _ := fun o => (World.cell?_alloc_lt w o _ (by exact hgl)).trans q2
  have q2b : ∀ o o1, ((w.alloc o).alloc o1).cell? _ = _ := fun o o1 => (World.cell?_alloc_lt (w.alloc o) o1 _ (by simp; exact Nat.lt_succ_of_lt hgl)).trans (q2a o)
  have q3a : ∀ o, (w.alloc o).cell? _ = _ := fun o => (World.cell?_alloc_lt w o _ (by exact hgl)).trans q3
  have q3b : ∀ o o1, ((w.alloc o).alloc o1).cell? _ = _ := fun o o1 => (World.cell?_alloc_lt (w.alloc o) o1 _ (by simp; exact Nat.lt_succ_of_lt hgl)).trans (q3a o)
  have q4a : ∀ o, (w.alloc o).cell? _ = _ := fun o => (World.cell?_alloc_lt w o _ (by exact hgl)).trans q4
  have q4b : ∀ o o1, ((w.alloc o).alloc o1).cell? _ = _ := fun o o1 => (World.cell?_alloc_lt (w.alloc o) o1 _ (by simp; exact Nat.lt_succ_of_lt hgl)).trans (q4a o)
  have r0a : ∀ o, (w.alloc o).cell? _ = _ := fun o => (World.cell?_alloc_lt w o _ (by exact lr_)).trans r0
  have r0b : ∀ o o1, ((w.alloc o).alloc o1).cell? _ = _ := fun o o1 => (World.cell?_alloc_lt (w.alloc o) o1 _ (by simp; exact Nat.lt_succ_of_lt lr_)).trans (r0a o)
  have r1a : ∀ o, (w.alloc o).cell? _ = _ := fun o => (World.cell?_alloc_lt w o _ (by exact lr_)).trans r1
  have r1b : ∀ o o1, ((w.alloc o).alloc o1).cell? _ = _ := fun o o1 => (World.cell?_alloc_lt (w.alloc o) o1 _ (by simp; exact Nat.lt_succ_of_lt lr_)).trans (r1a o)
  have r2a : ∀ o, (w.alloc o).cell? _ = _ := fun o => (World.cell?_alloc_lt w o _ (by exact lr_)).trans r2
  have r2b : ∀ o o1, ((w.alloc o).alloc o1).cell? _ = _ := fun o o1 => (World.cell?_alloc_lt (w.alloc o) o1 _ (by simp; exact Nat.lt_succ_of_lt lr_)).trans (r2a o)
  have r3a : ∀ o, (w.alloc o).cell? _ = _ := fun o => (World.cell?_alloc_lt w o _ (by exact lr_)).trans r3
  have r3b : ∀ o o1, ((w.alloc o).alloc o1).cell? _ = _ := fun o o1 => (World.cell?_alloc_lt (w.alloc o) o1 _ (by simp; exact Nat.lt_succ_of_lt lr_)).trans (r3a o)
  have r4a : ∀ o, (w.alloc o).cell? _ = _ := fun o => (World.cell?_alloc_lt w o _ (by exact lr_)).trans r4
  have r4b : ∀ o o1, ((w.alloc o).alloc o1).cell? _ = _ := fun o o1 => (World.cell?_alloc_lt (w.alloc o) o1 _ (by simp; exact Nat.lt_succ_of_lt lr_)).trans (r4a o)
  have r5a : ∀ o, (w.alloc o).cell? _ = _ := fun o => (World.cell?_alloc_lt w o _ (by exact lr_)).trans r5
  have r5b : ∀ o o1, ((w.alloc o).alloc o1).cell? _ = _ := fun o o1 => (World.cell?_alloc_lt (w.alloc o) o1 _ (by simp; exact Nat.lt_succ_of_lt lr_)).trans (r5a o)
  have r6a : ∀ o, (w.alloc o).cell? _ = _ := fun o => (World.cell?_alloc_lt w o _ (by exact lr_)).trans r6
  have r6b : ∀ o o1, ((w.alloc o).alloc o1).cell? _ = _ := fun o o1 => (World.cell?_alloc_lt (w.alloc o) o1 _ (by simp; exact Nat.lt_succ_of_lt lr_)).trans (r6a o)
  have r7a : ∀ o, (w.alloc o).cell? _ = _ := fun o => (World.cell?_alloc_lt w o _ (by exact lr_)).trans r7
  have r7b : ∀ o o1, ((w.alloc o).alloc o1).cell? _ = _ := fun o o1 => (World.cell?_alloc_lt (w.alloc o) o1 _ (by simp; exact Nat.lt_succ_of_lt lr_)).trans (r7a o)
  have r8a : ∀ o, (w.alloc o).cell? _ = _ := fun o => (World.cell?_alloc_lt w o _ (by exact lr_)).trans r8
  have r8b : ∀ o o1, ((w.alloc o).alloc o1).cell? _ = _ := fun o o1 => (World.cell?_alloc_lt (w.alloc o) o1 _ (by simp; exact Nat.lt_succ_of_lt lr_)).trans (r8a o)
  have r9a : ∀ o, (w.alloc o).cell? _ = _ := fun o => (World.cell?_alloc_lt w o _ (by exact lr_)).trans r9
  have r9b : ∀ o o1, ((w.alloc o).alloc o1).cell? _ = _ := fun o o1 => (World.cell?_alloc_lt (w.alloc o) o1 _ (by simp; exact Nat.lt_succ_of_lt lr_)).trans (r9a o)
  have r10a : ∀ o, (w.alloc o).cell? _ = _ := fun o => (World.cell?_alloc_lt w o _ (by exact lr_)).trans r10
  have r10b : ∀ o o1, ((w.alloc o).alloc o1).cell? _ = _ := fun o o1 => (World.cell?_alloc_lt (w.alloc o) o1 _ (by simp; exact Nat.lt_succ_of_lt lr_)).trans (r10a o)
  have r11a : ∀ o, (w.alloc o).cell? _ = _ := fun o => (World.cell?_alloc_lt w o _ (by exact lr_)).trans r11
  have r11b : ∀ o o1, ((w.alloc o).alloc o1).cell? _ = _ := fun o o1 => (World.cell?_alloc_lt (w.alloc o) o1 _ (by simp; exact Nat.lt_succ_of_lt lr_)).trans (r11a o)
  have r12a : ∀ o, (w.alloc o).cell? _ = _ := fun o => (World.cell?_alloc_lt w o _ (by exact lr_)).trans r12
  have r12b : ∀ o o1, ((w.alloc o).alloc o1).cell? _ = _ := fun o o1 => (World.cell?_alloc_lt (w.alloc o) o1 _ (by simp; exact Nat.lt_succ_of_lt lr_)).trans (r12a o)
  have HFAR := hide hfar
  clear hfar
  have HV := hide h
  have HM := hide hm
  have HC := hide hc
  have HF := hide hf
  have HFT := hide hft
  have HROW := hide hrow
  clear h hm hc hf hft hrow hx hs ex ena hgl
  generalize hLk : lookV P na ⟨op, a, b, c, d⟩ ⟨there, ty, ls, hand⟩ ats = Lk at *
  have HLK := hide hLk
  clear hLk
  go_enter Try.func34, Try.ntmps34
  go_upto_region 1 with fail
  go_step3
  go_step
  go_cut [5, 6] from 17 to 32 (fun s5 s6 wx => ∃ bx bs : Nat, s5 = .pointer (some ⟨bx, 0, none⟩) ∧ s6 = .pointer (some ⟨bs, 0, none⟩) ∧ bx ≠ bs ∧ w.heap.size ≤ bx ∧ w.heap.size ≤ bs ∧ Blk wx bx 46 #[.int .i64 op, .int .i64 a, .int .i64 b, .int .i64 c, .int .i64 d] ∧ Blk wx bs 74 #[.bool there, .string ty, .int .i64 (lv ls 0), .int .i64 (lv ls 1), .int .i64 (lv ls 2), .int .i64 (lv ls 3), .int .i64 (lv ls 4), .int .i64 (lv ls 5), .int .i64 (lv ls 6), .int .i64 (lv ls 7), .int .i64 (ls.length : Int), .int .i64 hand, .slice oa (ls.length - 8) ca] ∧ Below w.heap.size w wx)
  case first =>
    as_aux_lemma =>
      go_region
      all_goals
        go_wp2_with fail
        go_meet
        case rel => first | exact ⟨_, _, rfl, rfl, by simp, by simp, by simp, blk_two1 _ _ _ _, blk_two2 _ _ _ _, below_two _ _ _⟩ | exact ⟨_, _, rfl, rfl, by simp, by simp, by simp, blk_two2 _ _ _ _, blk_two1 _ _ _ _, below_two _ _ _⟩
  case rest =>
    obtain ⟨bx, bs, rfl, rfl, hne, hbx, hbs, kX, kS, hb⟩ := hcut
    clear v5 v5a v5b
    clear v6 v6a v6b
    clear q0 q0a q0b
    clear q1 q1a q1b
    clear q2 q2a q2b
    clear q3 q3a q3b
    clear q4 q4a q4b
    clear r0 r0a r0b
    clear r1 r1a r1b
    clear r2 r2a r2b
    clear r3 r3a r3b
    clear r4 r4a r4b
    clear r5 r5a r5b
    clear r6 r6a r6b
    clear r7 r7a r7b
    clear r8 r8a r8b
    clear r9 r9a r9b
    clear r10 r10a r10b
    clear r11 r11a r11b
    clear r12 r12a r12b
    have HNE := hide hne
    have hNX : bx ≠ bs := hne
    have hNS : bs ≠ bx := fun e => hne e.symm
    have HBX := hide hbx
    have HBS := hide hbs
    have KX := hide kX
    have KS := hide kS
    have HB := hide hb
    have x0 : wc.cell? ⟨bx, 0, none⟩ = some (.int .i64 op) := by rw [KX.out.cell]; rfl
    have x1 : wc.cell? ⟨bx, 1, none⟩ = some (.int .i64 a) := by rw [KX.out.cell]; rfl
    have x2 : wc.cell? ⟨bx, 2, none⟩ = some (.int .i64 b) := by rw [KX.out.cell]; rfl
    have x3 : wc.cell? ⟨bx, 3, none⟩ = some (.int .i64 c) := by rw [KX.out.cell]; rfl
    have x4 : wc.cell? ⟨bx, 4, none⟩ = some (.int .i64 d) := by rw [KX.out.cell]; rfl
    have s0 : wc.cell? ⟨bs, 0, none⟩ = some (.bool there) := by rw [KS.out.cell]; rfl
    have sf0 := KS.out.frozen 0
    have s1 : wc.cell? ⟨bs, 1, none⟩ = some (.string ty) := by rw [KS.out.cell]; rfl
    have sf1 := KS.out.frozen 1
    have s2 : wc.cell? ⟨bs, 2, none⟩ = some (.int .i64 (lv ls 0)) := by rw [KS.out.cell]; rfl
    have sf2 := KS.out.frozen 2
    have s3 : wc.cell? ⟨bs, 3, none⟩ = some (.int .i64 (lv ls 1)) := by rw [KS.out.cell]; rfl
    have sf3 := KS.out.frozen 3
    have s4 : wc.cell? ⟨bs, 4, none⟩ = some (.int .i64 (lv ls 2)) := by rw [KS.out.cell]; rfl
    have sf4 := KS.out.frozen 4
    have s5 : wc.cell? ⟨bs, 5, none⟩ = some (.int .i64 (lv ls 3)) := by rw [KS.out.cell]; rfl
    have sf5 := KS.out.frozen 5
    have s6 : wc.cell? ⟨bs, 6, none⟩ = some (.int .i64 (lv ls 4)) := by rw [KS.out.cell]; rfl
    have sf6 := KS.out.frozen 6
    have s7 : wc.cell? ⟨bs, 7, none⟩ = some (.int .i64 (lv ls 5)) := by rw [KS.out.cell]; rfl
    have sf7 := KS.out.frozen 7
    have s8 : wc.cell? ⟨bs, 8, none⟩ = some (.int .i64 (lv ls 6)) := by rw [KS.out.cell]; rfl
    have sf8 := KS.out.frozen 8
    have s9 : wc.cell? ⟨bs, 9, none⟩ = some (.int .i64 (lv ls 7)) := by rw [KS.out.cell]; rfl
    have sf9 := KS.out.frozen 9
    have s10 : wc.cell? ⟨bs, 10, none⟩ = some (.int .i64 (ls.length : Int)) := by rw [KS.out.cell]; rfl
    have sf10 := KS.out.frozen 10
    have s11 : wc.cell? ⟨bs, 11, none⟩ = some (.int .i64 hand) := by rw [KS.out.cell]; rfl
    have sf11 := KS.out.frozen 11
    have s12 : wc.cell? ⟨bs, 12, none⟩ = some (.slice oa (ls.length - 8) ca) := by rw [KS.out.cell]; rfl
    have sf12 := KS.out.frozen 12
    clear kX kS hb hne hbx hbs
    have HEND : ∀ W, Below w.heap.size w W → VMem W vb rb p P ats ∧ Only (fun k => k = rb) w W := fun W hb => ⟨HV.out.below hb, Only.of_new hb⟩
    have HED := hide HEND
    clear HEND
    cases there
    · as_aux_lemma =>
        have e : Lk = (99, ats) := by rw [← HLK.out]; simp [lookV]
        subst e
        go_wp2_with fail
        rw [Exit.noGoto_ret]
        go_ret
        exact ⟨rfl, HED.out _ HB.out⟩
    · cases hh : handsV P op a hand with
      | false =>
        as_aux_lemma =>
          have HHH := hide hh
          have hc45 : ∀ W, Below w.heap.size w W → Calls Try.prog 45 #[.pointer (some ⟨vb, 0, none⟩), .agg #[.int .i64 op, .int .i64 a, .int .i64 b, .int .i64 c, .int .i64 d], .int .i64 hand] W fun en w' => en = .returned (.bool false) ∧ Below W.heap.size W w' := fun W hb => by
            have := hands_i W p P (HV.out.below hb).m vb _ (HV.out.below hb).v ⟨op, a, b, c, d⟩ hand HC.out.q35
            rw [show handsV P (⟨op, a, b, c, d⟩ : Ins).op (⟨op, a, b, c, d⟩ : Ins).a hand = false from hh] at this
            exact this
          have HC45 := hide hc45
          clear hc45 hh
          go_wp2_with (go_at_call 45
                       refine (HC45.out _ HB.out).mono ?_
                       rintro en w2 ⟨rfl, hb2⟩
                       have HB := hide (HB.out.trans (hb2.mono HB.out.size))
                       have KX := hide (KX.out.below hb2 KX.out.lt)
                       have KS := hide (KS.out.below hb2 KS.out.lt)
                       have x0 : w2.cell? ⟨bx, 0, none⟩ = some (.int .i64 op) := by rw [KX.out.cell]; rfl
                       have x1 : w2.cell? ⟨bx, 1, none⟩ = some (.int .i64 a) := by rw [KX.out.cell]; rfl
                       have x2 : w2.cell? ⟨bx, 2, none⟩ = some (.int .i64 b) := by rw [KX.out.cell]; rfl
                       have x3 : w2.cell? ⟨bx, 3, none⟩ = some (.int .i64 c) := by rw [KX.out.cell]; rfl
                       have x4 : w2.cell? ⟨bx, 4, none⟩ = some (.int .i64 d) := by rw [KX.out.cell]; rfl
                       have s0 : w2.cell? ⟨bs, 0, none⟩ = some (.bool true) := by rw [KS.out.cell]; rfl
                       have sf0 := KS.out.frozen 0
                       have s1 : w2.cell? ⟨bs, 1, none⟩ = some (.string ty) := by rw [KS.out.cell]; rfl
                       have sf1 := KS.out.frozen 1
                       have s2 : w2.cell? ⟨bs, 2, none⟩ = some (.int .i64 (lv ls 0)) := by rw [KS.out.cell]; rfl
                       have sf2 := KS.out.frozen 2
                       have s3 : w2.cell? ⟨bs, 3, none⟩ = some (.int .i64 (lv ls 1)) := by rw [KS.out.cell]; rfl
                       have sf3 := KS.out.frozen 3
                       have s4 : w2.cell? ⟨bs, 4, none⟩ = some (.int .i64 (lv ls 2)) := by rw [KS.out.cell]; rfl
                       have sf4 := KS.out.frozen 4
                       have s5 : w2.cell? ⟨bs, 5, none⟩ = some (.int .i64 (lv ls 3)) := by rw [KS.out.cell]; rfl
                       have sf5 := KS.out.frozen 5
                       have s6 : w2.cell? ⟨bs, 6, none⟩ = some (.int .i64 (lv ls 4)) := by rw [KS.out.cell]; rfl
                       have sf6 := KS.out.frozen 6
                       have s7 : w2.cell? ⟨bs, 7, none⟩ = some (.int .i64 (lv ls 5)) := by rw [KS.out.cell]; rfl
                       have sf7 := KS.out.frozen 7
                       have s8 : w2.cell? ⟨bs, 8, none⟩ = some (.int .i64 (lv ls 6)) := by rw [KS.out.cell]; rfl
                       have sf8 := KS.out.frozen 8
                       have s9 : w2.cell? ⟨bs, 9, none⟩ = some (.int .i64 (lv ls 7)) := by rw [KS.out.cell]; rfl
                       have sf9 := KS.out.frozen 9
                       have s10 : w2.cell? ⟨bs, 10, none⟩ = some (.int .i64 (ls.length : Int)) := by rw [KS.out.cell]; rfl
                       have sf10 := KS.out.frozen 10
                       have s11 : w2.cell? ⟨bs, 11, none⟩ = some (.int .i64 hand) := by rw [KS.out.cell]; rfl
                       have sf11 := KS.out.frozen 11
                       have s12 : w2.cell? ⟨bs, 12, none⟩ = some (.slice oa (ls.length - 8) ca) := by rw [KS.out.cell]; rfl
                       have sf12 := KS.out.frozen 12
                       clear hb2)
          have e : Lk = (96, ats) := by rw [← HLK.out]; simp [lookV, HHH.out]
          subst e
          rw [Exit.noGoto_ret]
          go_ret
          exact ⟨rfl, HED.out _ HB.out⟩
      | true =>
        have HHH := hide hh
        have hc45 : ∀ W, Below w.heap.size w W → Calls Try.prog 45 #[.pointer (some ⟨vb, 0, none⟩), .agg #[.int .i64 op, .int .i64 a, .int .i64 b, .int .i64 c, .int .i64 d], .int .i64 hand] W fun en w' => en = .returned (.bool true) ∧ Below W.heap.size W w' := fun W hb => by
          have := hands_i W p P (HV.out.below hb).m vb _ (HV.out.below hb).v ⟨op, a, b, c, d⟩ hand HC.out.q35
          rw [show handsV P (⟨op, a, b, c, d⟩ : Ins).op (⟨op, a, b, c, d⟩ : Ins).a hand = true from hh] at this
          exact this
        have HC45 := hide hc45
        clear hc45 hh
        go_upto_region 6 with (go_at_call 45
                               refine (HC45.out _ HB.out).mono ?_
                               rintro en w2 ⟨rfl, hb2⟩
                               have HB := hide (HB.out.trans (hb2.mono HB.out.size))
                               have KX := hide (KX.out.below hb2 KX.out.lt)
                               have KS := hide (KS.out.below hb2 KS.out.lt)
                               have x0 : w2.cell? ⟨bx, 0, none⟩ = some (.int .i64 op) := by rw [KX.out.cell]; rfl
                               have x1 : w2.cell? ⟨bx, 1, none⟩ = some (.int .i64 a) := by rw [KX.out.cell]; rfl
                               have x2 : w2.cell? ⟨bx, 2, none⟩ = some (.int .i64 b) := by rw [KX.out.cell]; rfl
                               have x3 : w2.cell? ⟨bx, 3, none⟩ = some (.int .i64 c) := by rw [KX.out.cell]; rfl
                               have x4 : w2.cell? ⟨bx, 4, none⟩ = some (.int .i64 d) := by rw [KX.out.cell]; rfl
                               have s0 : w2.cell? ⟨bs, 0, none⟩ = some (.bool true) := by rw [KS.out.cell]; rfl
                               have sf0 := KS.out.frozen 0
                               have s1 : w2.cell? ⟨bs, 1, none⟩ = some (.string ty) := by rw [KS.out.cell]; rfl
                               have sf1 := KS.out.frozen 1
                               have s2 : w2.cell? ⟨bs, 2, none⟩ = some (.int .i64 (lv ls 0)) := by rw [KS.out.cell]; rfl
                               have sf2 := KS.out.frozen 2
                               have s3 : w2.cell? ⟨bs, 3, none⟩ = some (.int .i64 (lv ls 1)) := by rw [KS.out.cell]; rfl
                               have sf3 := KS.out.frozen 3
                               have s4 : w2.cell? ⟨bs, 4, none⟩ = some (.int .i64 (lv ls 2)) := by rw [KS.out.cell]; rfl
                               have sf4 := KS.out.frozen 4
                               have s5 : w2.cell? ⟨bs, 5, none⟩ = some (.int .i64 (lv ls 3)) := by rw [KS.out.cell]; rfl
                               have sf5 := KS.out.frozen 5
                               have s6 : w2.cell? ⟨bs, 6, none⟩ = some (.int .i64 (lv ls 4)) := by rw [KS.out.cell]; rfl
                               have sf6 := KS.out.frozen 6
                               have s7 : w2.cell? ⟨bs, 7, none⟩ = some (.int .i64 (lv ls 5)) := by rw [KS.out.cell]; rfl
                               have sf7 := KS.out.frozen 7
                               have s8 : w2.cell? ⟨bs, 8, none⟩ = some (.int .i64 (lv ls 6)) := by rw [KS.out.cell]; rfl
                               have sf8 := KS.out.frozen 8
                               have s9 : w2.cell? ⟨bs, 9, none⟩ = some (.int .i64 (lv ls 7)) := by rw [KS.out.cell]; rfl
                               have sf9 := KS.out.frozen 9
                               have s10 : w2.cell? ⟨bs, 10, none⟩ = some (.int .i64 (ls.length : Int)) := by rw [KS.out.cell]; rfl
                               have sf10 := KS.out.frozen 10
                               have s11 : w2.cell? ⟨bs, 11, none⟩ = some (.int .i64 hand) := by rw [KS.out.cell]; rfl
                               have sf11 := KS.out.frozen 11
                               have s12 : w2.cell? ⟨bs, 12, none⟩ = some (.slice oa (ls.length - 8) ca) := by rw [KS.out.cell]; rfl
                               have sf12 := KS.out.frozen 12
                               clear hb2)
        obtain ⟨s1, e1, ht⟩ : ∃ s1 e1, takenV op ⟨true, ty, ls, hand⟩ = (s1, e1) := ⟨_, _, rfl⟩
        have hth := takenV_hand op ⟨true, ty, ls, hand⟩
        rw [ht] at hth
        obtain ⟨th1, ty1, ls1, hand1⟩ := s1
        simp only at hth
        obtain ⟨g1, g2, g3⟩ := hth
        subst hand1
        subst ls1
        subst th1
        have hc46 : ∀ W, Below w.heap.size w W → Calls Try.prog 46 #[.pointer (some ⟨vb, 0, none⟩), .agg #[.int .i64 op, .int .i64 a, .int .i64 b, .int .i64 c, .int .i64 d], .agg #[.bool true, .string ty, .int .i64 (lv ls 0), .int .i64 (lv ls 1), .int .i64 (lv ls 2), .int .i64 (lv ls 3), .int .i64 (lv ls 4), .int .i64 (lv ls 5), .int .i64 (lv ls 6), .int .i64 (lv ls 7), .int .i64 (ls.length : Int), .int .i64 hand, .slice oa (ls.length - 8) ca]] W fun en w' => ∃ v', en = .returned (.tuple #[v', .int .i64 e1]) ∧ StM w' v' ⟨true, ty1, ls, hand⟩ ∧ Below W.heap.size W w' := fun W hb => by
          have := taken_i W (.pointer (some ⟨vb, 0, none⟩)) ⟨op, a, b, c, d⟩ _ ⟨true, ty, ls, hand⟩ ⟨oa, ca, rfl, HM.out.below hb⟩ (Nat.le_trans HFT.out.ty (by decide))
          simp only [ht] at this
          exact this
        have HC46 := hide hc46
        have HT := hide ht
        clear hc46 ht
        go_upto_region 7 with (go_at_call 46
                               refine (HC46.out _ HB.out).mono ?_
                               rintro en w3 ⟨v3, rfl, ⟨o1, c1, rfl, hm1⟩, hb3⟩
                               have HB := hide (HB.out.trans (hb3.mono HB.out.size))
                               have KX := hide (KX.out.below hb3 KX.out.lt)
                               have KS := hide (KS.out.below hb3 KS.out.lt)
                               have x0 : w3.cell? ⟨bx, 0, none⟩ = some (.int .i64 op) := by rw [KX.out.cell]; rfl
                               have x1 : w3.cell? ⟨bx, 1, none⟩ = some (.int .i64 a) := by rw [KX.out.cell]; rfl
                               have x2 : w3.cell? ⟨bx, 2, none⟩ = some (.int .i64 b) := by rw [KX.out.cell]; rfl
                               have x3 : w3.cell? ⟨bx, 3, none⟩ = some (.int .i64 c) := by rw [KX.out.cell]; rfl
                               have x4 : w3.cell? ⟨bx, 4, none⟩ = some (.int .i64 d) := by rw [KX.out.cell]; rfl
                               have s0 : w3.cell? ⟨bs, 0, none⟩ = some (.bool true) := by rw [KS.out.cell]; rfl
                               have sf0 := KS.out.frozen 0
                               have s1 : w3.cell? ⟨bs, 1, none⟩ = some (.string ty) := by rw [KS.out.cell]; rfl
                               have sf1 := KS.out.frozen 1
                               have s2 : w3.cell? ⟨bs, 2, none⟩ = some (.int .i64 (lv ls 0)) := by rw [KS.out.cell]; rfl
                               have sf2 := KS.out.frozen 2
                               have s3 : w3.cell? ⟨bs, 3, none⟩ = some (.int .i64 (lv ls 1)) := by rw [KS.out.cell]; rfl
                               have sf3 := KS.out.frozen 3
                               have s4 : w3.cell? ⟨bs, 4, none⟩ = some (.int .i64 (lv ls 2)) := by rw [KS.out.cell]; rfl
                               have sf4 := KS.out.frozen 4
                               have s5 : w3.cell? ⟨bs, 5, none⟩ = some (.int .i64 (lv ls 3)) := by rw [KS.out.cell]; rfl
                               have sf5 := KS.out.frozen 5
                               have s6 : w3.cell? ⟨bs, 6, none⟩ = some (.int .i64 (lv ls 4)) := by rw [KS.out.cell]; rfl
                               have sf6 := KS.out.frozen 6
                               have s7 : w3.cell? ⟨bs, 7, none⟩ = some (.int .i64 (lv ls 5)) := by rw [KS.out.cell]; rfl
                               have sf7 := KS.out.frozen 7
                               have s8 : w3.cell? ⟨bs, 8, none⟩ = some (.int .i64 (lv ls 6)) := by rw [KS.out.cell]; rfl
                               have sf8 := KS.out.frozen 8
                               have s9 : w3.cell? ⟨bs, 9, none⟩ = some (.int .i64 (lv ls 7)) := by rw [KS.out.cell]; rfl
                               have sf9 := KS.out.frozen 9
                               have s10 : w3.cell? ⟨bs, 10, none⟩ = some (.int .i64 (ls.length : Int)) := by rw [KS.out.cell]; rfl
                               have sf10 := KS.out.frozen 10
                               have s11 : w3.cell? ⟨bs, 11, none⟩ = some (.int .i64 hand) := by rw [KS.out.cell]; rfl
                               have sf11 := KS.out.frozen 11
                               have s12 : w3.cell? ⟨bs, 12, none⟩ = some (.slice oa (ls.length - 8) ca) := by rw [KS.out.cell]; rfl
                               have sf12 := KS.out.frozen 12
                               clear hb3
                               have HM1 := hide hm1
                               clear hm1
                               simp only [St.cells])
        rw [put13_eq]
        have kS4 := blk13 (.bool true) (.string ty1) (.int .i64 (lv ls 0)) (.int .i64 (lv ls 1)) (.int .i64 (lv ls 2)) (.int .i64 (lv ls 3)) (.int .i64 (lv ls 4)) (.int .i64 (lv ls 5)) (.int .i64 (lv ls 6)) (.int .i64 (lv ls 7)) (.int .i64 (ls.length : Int)) (.int .i64 hand) (.slice o1 (ls.length - 8) c1) KS.out rfl
        have kX4 := far13 (.bool true) (.string ty1) (.int .i64 (lv ls 0)) (.int .i64 (lv ls 1)) (.int .i64 (lv ls 2)) (.int .i64 (lv ls 3)) (.int .i64 (lv ls 4)) (.int .i64 (lv ls 5)) (.int .i64 (lv ls 6)) (.int .i64 (lv ls 7)) (.int .i64 (ls.length : Int)) (.int .i64 hand) (.slice o1 (ls.length - 8) c1) KX.out hNX
        have hb4 := below13 (.bool true) (.string ty1) (.int .i64 (lv ls 0)) (.int .i64 (lv ls 1)) (.int .i64 (lv ls 2)) (.int .i64 (lv ls 3)) (.int .i64 (lv ls 4)) (.int .i64 (lv ls 5)) (.int .i64 (lv ls 6)) (.int .i64 (lv ls 7)) (.int .i64 (ls.length : Int)) (.int .i64 hand) (.slice o1 (ls.length - 8) c1) HB.out HBS.out
        have hm4 : Mt (put13 w3 bs (.bool true) (.string ty1) (.int .i64 (lv ls 0)) (.int .i64 (lv ls 1)) (.int .i64 (lv ls 2)) (.int .i64 (lv ls 3)) (.int .i64 (lv ls 4)) (.int .i64 (lv ls 5)) (.int .i64 (lv ls 6)) (.int .i64 (lv ls 7)) (.int .i64 (ls.length : Int)) (.int .i64 hand) (.slice o1 (ls.length - 8) c1)) o1 c1 (ls.drop 8) := HM1.out.keep (by rw [size13]; exact Nat.le_refl _) (fun g cs hg => heap13 _ _ _ _ _ _ _ _ _ _ _ _ _ (hg.ne_ KS.out (by decide)))
        generalize put13 w3 bs (.bool true) (.string ty1) (.int .i64 (lv ls 0)) (.int .i64 (lv ls 1)) (.int .i64 (lv ls 2)) (.int .i64 (lv ls 3)) (.int .i64 (lv ls 4)) (.int .i64 (lv ls 5)) (.int .i64 (lv ls 6)) (.int .i64 (lv ls 7)) (.int .i64 (ls.length : Int)) (.int .i64 hand) (.slice o1 (ls.length - 8) c1) = w4 at *
        have HB := hide hb4
        have KX := hide kX4
        have KS := hide kS4
        have HM1 := hide hm4
        have HQ : Hid (Below w4.heap.size w4 w4) := hide (Below.refl _ w4)
        have x0 : w4.cell? ⟨bx, 0, none⟩ = some (.int .i64 op) := by rw [KX.out.cell]; rfl
        have x1 : w4.cell? ⟨bx, 1, none⟩ = some (.int .i64 a) := by rw [KX.out.cell]; rfl
        have x2 : w4.cell? ⟨bx, 2, none⟩ = some (.int .i64 b) := by rw [KX.out.cell]; rfl
        have x3 : w4.cell? ⟨bx, 3, none⟩ = some (.int .i64 c) := by rw [KX.out.cell]; rfl
        have x4 : w4.cell? ⟨bx, 4, none⟩ = some (.int .i64 d) := by rw [KX.out.cell]; rfl
        have s0 : w4.cell? ⟨bs, 0, none⟩ = some (.bool true) := by rw [KS.out.cell]; rfl
        have sf0 := KS.out.frozen 0
        have s1 : w4.cell? ⟨bs, 1, none⟩ = some (.string ty1) := by rw [KS.out.cell]; rfl
        have sf1 := KS.out.frozen 1
        have s2 : w4.cell? ⟨bs, 2, none⟩ = some (.int .i64 (lv ls 0)) := by rw [KS.out.cell]; rfl
        have sf2 := KS.out.frozen 2
        have s3 : w4.cell? ⟨bs, 3, none⟩ = some (.int .i64 (lv ls 1)) := by rw [KS.out.cell]; rfl
        have sf3 := KS.out.frozen 3
        have s4 : w4.cell? ⟨bs, 4, none⟩ = some (.int .i64 (lv ls 2)) := by rw [KS.out.cell]; rfl
        have sf4 := KS.out.frozen 4
        have s5 : w4.cell? ⟨bs, 5, none⟩ = some (.int .i64 (lv ls 3)) := by rw [KS.out.cell]; rfl
        have sf5 := KS.out.frozen 5
        have s6 : w4.cell? ⟨bs, 6, none⟩ = some (.int .i64 (lv ls 4)) := by rw [KS.out.cell]; rfl
        have sf6 := KS.out.frozen 6
        have s7 : w4.cell? ⟨bs, 7, none⟩ = some (.int .i64 (lv ls 5)) := by rw [KS.out.cell]; rfl
        have sf7 := KS.out.frozen 7
        have s8 : w4.cell? ⟨bs, 8, none⟩ = some (.int .i64 (lv ls 6)) := by rw [KS.out.cell]; rfl
        have sf8 := KS.out.frozen 8
        have s9 : w4.cell? ⟨bs, 9, none⟩ = some (.int .i64 (lv ls 7)) := by rw [KS.out.cell]; rfl
        have sf9 := KS.out.frozen 9
        have s10 : w4.cell? ⟨bs, 10, none⟩ = some (.int .i64 (ls.length : Int)) := by rw [KS.out.cell]; rfl
        have sf10 := KS.out.frozen 10
        have s11 : w4.cell? ⟨bs, 11, none⟩ = some (.int .i64 hand) := by rw [KS.out.cell]; rfl
        have sf11 := KS.out.frozen 11
        have s12 : w4.cell? ⟨bs, 12, none⟩ = some (.slice o1 (ls.length - 8) c1) := by rw [KS.out.cell]; rfl
        have sf12 := KS.out.frozen 12
        clear hb4 kX4 kS4 hm4
        by_cases he : e1 = 0
        · subst he
          cases hk : kindsV P op a c with
          | false =>
            as_aux_lemma =>
              have HK := hide hk
              have hc47 : ∀ W, Below w.heap.size w W → Below w4.heap.size w4 W → Calls Try.prog 47 #[.pointer (some ⟨vb, 0, none⟩), .agg #[.int .i64 op, .int .i64 a, .int .i64 b, .int .i64 c, .int .i64 d]] W fun en w' => en = .returned (.bool false) ∧ Below W.heap.size W w' := fun W hb hq => by
                have := kinds_i W p P (HV.out.below hb).m vb _ (HV.out.below hb).v ⟨op, a, b, c, d⟩ HC.out.qk HC.out.qc
                rw [show kindsV P (⟨op, a, b, c, d⟩ : Ins).op (⟨op, a, b, c, d⟩ : Ins).a (⟨op, a, b, c, d⟩ : Ins).c = false from HK.out] at this
                exact this
              have HC47 := hide hc47
              clear hc47
              clear hk
              go_wp2_with
                (first
                | (go_at_call 47
                   refine (HC47.out _ HB.out HQ.out).mono ?_
                   rintro en w5 ⟨rfl, hb5⟩
                   have HQ := hide (HQ.out.trans (hb5.mono HQ.out.size))
                   have HB := hide (HB.out.trans (hb5.mono HB.out.size))
                   have KX := hide (KX.out.below hb5 KX.out.lt)
                   have KS := hide (KS.out.below hb5 KS.out.lt)
                   have x0 : w5.cell? ⟨bx, 0, none⟩ = some (.int .i64 op) := by rw [KX.out.cell]; rfl
                   have x1 : w5.cell? ⟨bx, 1, none⟩ = some (.int .i64 a) := by rw [KX.out.cell]; rfl
                   have x2 : w5.cell? ⟨bx, 2, none⟩ = some (.int .i64 b) := by rw [KX.out.cell]; rfl
                   have x3 : w5.cell? ⟨bx, 3, none⟩ = some (.int .i64 c) := by rw [KX.out.cell]; rfl
                   have x4 : w5.cell? ⟨bx, 4, none⟩ = some (.int .i64 d) := by rw [KX.out.cell]; rfl
                   have s0 : w5.cell? ⟨bs, 0, none⟩ = some (.bool true) := by rw [KS.out.cell]; rfl
                   have sf0 := KS.out.frozen 0
                   have s1 : w5.cell? ⟨bs, 1, none⟩ = some (.string ty1) := by rw [KS.out.cell]; rfl
                   have sf1 := KS.out.frozen 1
                   have s2 : w5.cell? ⟨bs, 2, none⟩ = some (.int .i64 (lv ls 0)) := by rw [KS.out.cell]; rfl
                   have sf2 := KS.out.frozen 2
                   have s3 : w5.cell? ⟨bs, 3, none⟩ = some (.int .i64 (lv ls 1)) := by rw [KS.out.cell]; rfl
                   have sf3 := KS.out.frozen 3
                   have s4 : w5.cell? ⟨bs, 4, none⟩ = some (.int .i64 (lv ls 2)) := by rw [KS.out.cell]; rfl
                   have sf4 := KS.out.frozen 4
                   have s5 : w5.cell? ⟨bs, 5, none⟩ = some (.int .i64 (lv ls 3)) := by rw [KS.out.cell]; rfl
                   have sf5 := KS.out.frozen 5
                   have s6 : w5.cell? ⟨bs, 6, none⟩ = some (.int .i64 (lv ls 4)) := by rw [KS.out.cell]; rfl
                   have sf6 := KS.out.frozen 6
                   have s7 : w5.cell? ⟨bs, 7, none⟩ = some (.int .i64 (lv ls 5)) := by rw [KS.out.cell]; rfl
                   have sf7 := KS.out.frozen 7
                   have s8 : w5.cell? ⟨bs, 8, none⟩ = some (.int .i64 (lv ls 6)) := by rw [KS.out.cell]; rfl
                   have sf8 := KS.out.frozen 8
                   have s9 : w5.cell? ⟨bs, 9, none⟩ = some (.int .i64 (lv ls 7)) := by rw [KS.out.cell]; rfl
                   have sf9 := KS.out.frozen 9
                   have s10 : w5.cell? ⟨bs, 10, none⟩ = some (.int .i64 (ls.length : Int)) := by rw [KS.out.cell]; rfl
                   have sf10 := KS.out.frozen 10
                   have s11 : w5.cell? ⟨bs, 11, none⟩ = some (.int .i64 hand) := by rw [KS.out.cell]; rfl
                   have sf11 := KS.out.frozen 11
                   have s12 : w5.cell? ⟨bs, 12, none⟩ = some (.slice o1 (ls.length - 8) c1) := by rw [KS.out.cell]; rfl
                   have sf12 := KS.out.frozen 12
                   clear hb5))
              have e : Lk = (92, ats) := by rw [← HLK.out]; simp [lookV, HHH.out, HT.out, HK.out]
              subst e
              rw [Exit.noGoto_ret]
              go_ret
              exact ⟨rfl, HED.out _ HB.out⟩
          | true =>
            have HK := hide hk
            have hc47 : ∀ W, Below w.heap.size w W → Below w4.heap.size w4 W → Calls Try.prog 47 #[.pointer (some ⟨vb, 0, none⟩), .agg #[.int .i64 op, .int .i64 a, .int .i64 b, .int .i64 c, .int .i64 d]] W fun en w' => en = .returned (.bool true) ∧ Below W.heap.size W w' := fun W hb hq => by
              have := kinds_i W p P (HV.out.below hb).m vb _ (HV.out.below hb).v ⟨op, a, b, c, d⟩ HC.out.qk HC.out.qc
              rw [show kindsV P (⟨op, a, b, c, d⟩ : Ins).op (⟨op, a, b, c, d⟩ : Ins).a (⟨op, a, b, c, d⟩ : Ins).c = true from HK.out] at this
              exact this
            have HC47 := hide hc47
            clear hc47
            clear hk
            cases hj : jumpsV P na ⟨op, a, b, c, d⟩ ⟨true, ty1, ls, hand⟩ ats with
            | false =>
              as_aux_lemma =>
                have HJ := hide hj
                have hc48 : ∀ W, Below w.heap.size w W → Below w4.heap.size w4 W → Calls Try.prog 48 #[.pointer (some ⟨vb, 0, none⟩), .int .i64 (na : Int), .agg #[.int .i64 op, .int .i64 a, .int .i64 b, .int .i64 c, .int .i64 d], .agg #[.bool true, .string ty1, .int .i64 (lv ls 0), .int .i64 (lv ls 1), .int .i64 (lv ls 2), .int .i64 (lv ls 3), .int .i64 (lv ls 4), .int .i64 (lv ls 5), .int .i64 (lv ls 6), .int .i64 (lv ls 7), .int .i64 (ls.length : Int), .int .i64 hand, .slice o1 (ls.length - 8) c1]] W fun en w' => en = .returned (.bool false) ∧ Below W.heap.size W w' := fun W hb hq => by
                  have := jumps_i W vb rb p P ats (HV.out.below hb) hn ho na hat ⟨op, a, b, c, d⟩ _ ⟨true, ty1, ls, hand⟩ ⟨o1, c1, rfl, HM1.out.below hq⟩ (by have := HFT.out.ls; simp only at this ⊢; omega) (inner_in P ls HFT.out.pl) (fun i x hi => by have h1 := (HF.out i x hi).ls; have h2 := (List.getElem?_eq_some_iff.1 hi).1; have h3 := HV.out.len; omega) HC.out.pj
                  rw [HJ.out] at this
                  exact this
                have HC48 := hide hc48
                clear hc48
                clear hj
                go_wp2_with
                  (first
                  | (go_at_call 47
                     refine (HC47.out _ HB.out HQ.out).mono ?_
                     rintro en w5 ⟨rfl, hb5⟩
                     have HQ := hide (HQ.out.trans (hb5.mono HQ.out.size))
                     have HB := hide (HB.out.trans (hb5.mono HB.out.size))
                     have KX := hide (KX.out.below hb5 KX.out.lt)
                     have KS := hide (KS.out.below hb5 KS.out.lt)
                     have x0 : w5.cell? ⟨bx, 0, none⟩ = some (.int .i64 op) := by rw [KX.out.cell]; rfl
                     have x1 : w5.cell? ⟨bx, 1, none⟩ = some (.int .i64 a) := by rw [KX.out.cell]; rfl
                     have x2 : w5.cell? ⟨bx, 2, none⟩ = some (.int .i64 b) := by rw [KX.out.cell]; rfl
                     have x3 : w5.cell? ⟨bx, 3, none⟩ = some (.int .i64 c) := by rw [KX.out.cell]; rfl
                     have x4 : w5.cell? ⟨bx, 4, none⟩ = some (.int .i64 d) := by rw [KX.out.cell]; rfl
                     have s0 : w5.cell? ⟨bs, 0, none⟩ = some (.bool true) := by rw [KS.out.cell]; rfl
                     have sf0 := KS.out.frozen 0
                     have s1 : w5.cell? ⟨bs, 1, none⟩ = some (.string ty1) := by rw [KS.out.cell]; rfl
                     have sf1 := KS.out.frozen 1
                     have s2 : w5.cell? ⟨bs, 2, none⟩ = some (.int .i64 (lv ls 0)) := by rw [KS.out.cell]; rfl
                     have sf2 := KS.out.frozen 2
                     have s3 : w5.cell? ⟨bs, 3, none⟩ = some (.int .i64 (lv ls 1)) := by rw [KS.out.cell]; rfl
                     have sf3 := KS.out.frozen 3
                     have s4 : w5.cell? ⟨bs, 4, none⟩ = some (.int .i64 (lv ls 2)) := by rw [KS.out.cell]; rfl
                     have sf4 := KS.out.frozen 4
                     have s5 : w5.cell? ⟨bs, 5, none⟩ = some (.int .i64 (lv ls 3)) := by rw [KS.out.cell]; rfl
                     have sf5 := KS.out.frozen 5
                     have s6 : w5.cell? ⟨bs, 6, none⟩ = some (.int .i64 (lv ls 4)) := by rw [KS.out.cell]; rfl
                     have sf6 := KS.out.frozen 6
                     have s7 : w5.cell? ⟨bs, 7, none⟩ = some (.int .i64 (lv ls 5)) := by rw [KS.out.cell]; rfl
                     have sf7 := KS.out.frozen 7
                     have s8 : w5.cell? ⟨bs, 8, none⟩ = some (.int .i64 (lv ls 6)) := by rw [KS.out.cell]; rfl
                     have sf8 := KS.out.frozen 8
                     have s9 : w5.cell? ⟨bs, 9, none⟩ = some (.int .i64 (lv ls 7)) := by rw [KS.out.cell]; rfl
                     have sf9 := KS.out.frozen 9
                     have s10 : w5.cell? ⟨bs, 10, none⟩ = some (.int .i64 (ls.length : Int)) := by rw [KS.out.cell]; rfl
                     have sf10 := KS.out.frozen 10
                     have s11 : w5.cell? ⟨bs, 11, none⟩ = some (.int .i64 hand) := by rw [KS.out.cell]; rfl
                     have sf11 := KS.out.frozen 11
                     have s12 : w5.cell? ⟨bs, 12, none⟩ = some (.slice o1 (ls.length - 8) c1) := by rw [KS.out.cell]; rfl
                     have sf12 := KS.out.frozen 12
                     clear hb5)
                  | (go_at_call 48
                     refine (HC48.out _ HB.out HQ.out).mono ?_
                     rintro en w6 ⟨rfl, hb6⟩
                     have HQ := hide (HQ.out.trans (hb6.mono HQ.out.size))
                     have HB := hide (HB.out.trans (hb6.mono HB.out.size))
                     have KX := hide (KX.out.below hb6 KX.out.lt)
                     have KS := hide (KS.out.below hb6 KS.out.lt)
                     have x0 : w6.cell? ⟨bx, 0, none⟩ = some (.int .i64 op) := by rw [KX.out.cell]; rfl
                     have x1 : w6.cell? ⟨bx, 1, none⟩ = some (.int .i64 a) := by rw [KX.out.cell]; rfl
                     have x2 : w6.cell? ⟨bx, 2, none⟩ = some (.int .i64 b) := by rw [KX.out.cell]; rfl
                     have x3 : w6.cell? ⟨bx, 3, none⟩ = some (.int .i64 c) := by rw [KX.out.cell]; rfl
                     have x4 : w6.cell? ⟨bx, 4, none⟩ = some (.int .i64 d) := by rw [KX.out.cell]; rfl
                     have s0 : w6.cell? ⟨bs, 0, none⟩ = some (.bool true) := by rw [KS.out.cell]; rfl
                     have sf0 := KS.out.frozen 0
                     have s1 : w6.cell? ⟨bs, 1, none⟩ = some (.string ty1) := by rw [KS.out.cell]; rfl
                     have sf1 := KS.out.frozen 1
                     have s2 : w6.cell? ⟨bs, 2, none⟩ = some (.int .i64 (lv ls 0)) := by rw [KS.out.cell]; rfl
                     have sf2 := KS.out.frozen 2
                     have s3 : w6.cell? ⟨bs, 3, none⟩ = some (.int .i64 (lv ls 1)) := by rw [KS.out.cell]; rfl
                     have sf3 := KS.out.frozen 3
                     have s4 : w6.cell? ⟨bs, 4, none⟩ = some (.int .i64 (lv ls 2)) := by rw [KS.out.cell]; rfl
                     have sf4 := KS.out.frozen 4
                     have s5 : w6.cell? ⟨bs, 5, none⟩ = some (.int .i64 (lv ls 3)) := by rw [KS.out.cell]; rfl
                     have sf5 := KS.out.frozen 5
                     have s6 : w6.cell? ⟨bs, 6, none⟩ = some (.int .i64 (lv ls 4)) := by rw [KS.out.cell]; rfl
                     have sf6 := KS.out.frozen 6
                     have s7 : w6.cell? ⟨bs, 7, none⟩ = some (.int .i64 (lv ls 5)) := by rw [KS.out.cell]; rfl
                     have sf7 := KS.out.frozen 7
                     have s8 : w6.cell? ⟨bs, 8, none⟩ = some (.int .i64 (lv ls 6)) := by rw [KS.out.cell]; rfl
                     have sf8 := KS.out.frozen 8
                     have s9 : w6.cell? ⟨bs, 9, none⟩ = some (.int .i64 (lv ls 7)) := by rw [KS.out.cell]; rfl
                     have sf9 := KS.out.frozen 9
                     have s10 : w6.cell? ⟨bs, 10, none⟩ = some (.int .i64 (ls.length : Int)) := by rw [KS.out.cell]; rfl
                     have sf10 := KS.out.frozen 10
                     have s11 : w6.cell? ⟨bs, 11, none⟩ = some (.int .i64 hand) := by rw [KS.out.cell]; rfl
                     have sf11 := KS.out.frozen 11
                     have s12 : w6.cell? ⟨bs, 12, none⟩ = some (.slice o1 (ls.length - 8) c1) := by rw [KS.out.cell]; rfl
                     have sf12 := KS.out.frozen 12
                     clear hb6))
                have e : Lk = (95, ats) := by rw [← HLK.out]; simp [lookV, HHH.out, HT.out, HK.out, HJ.out]
                subst e
                rw [Exit.noGoto_ret]
                go_ret
                exact ⟨rfl, HED.out _ HB.out⟩
            | true =>
              have HJ := hide hj
              have hc48 : ∀ W, Below w.heap.size w W → Below w4.heap.size w4 W → Calls Try.prog 48 #[.pointer (some ⟨vb, 0, none⟩), .int .i64 (na : Int), .agg #[.int .i64 op, .int .i64 a, .int .i64 b, .int .i64 c, .int .i64 d], .agg #[.bool true, .string ty1, .int .i64 (lv ls 0), .int .i64 (lv ls 1), .int .i64 (lv ls 2), .int .i64 (lv ls 3), .int .i64 (lv ls 4), .int .i64 (lv ls 5), .int .i64 (lv ls 6), .int .i64 (lv ls 7), .int .i64 (ls.length : Int), .int .i64 hand, .slice o1 (ls.length - 8) c1]] W fun en w' => en = .returned (.bool true) ∧ Below W.heap.size W w' := fun W hb hq => by
                have := jumps_i W vb rb p P ats (HV.out.below hb) hn ho na hat ⟨op, a, b, c, d⟩ _ ⟨true, ty1, ls, hand⟩ ⟨o1, c1, rfl, HM1.out.below hq⟩ (by have := HFT.out.ls; simp only at this ⊢; omega) (inner_in P ls HFT.out.pl) (fun i x hi => by have h1 := (HF.out i x hi).ls; have h2 := (List.getElem?_eq_some_iff.1 hi).1; have h3 := HV.out.len; omega) HC.out.pj
                rw [HJ.out] at this
                exact this
              have HC48 := hide hc48
              clear hc48
              clear hj
              have hquit : op = 26 → 0 < ls.length := by
                rintro rfl
                have := HJ.out
                simp only [jumpsV] at this
                simp at this
                exact inner_pos ls this.2.1
              have HQUIT := hide hquit
              obtain ⟨hv, hhv⟩ : ∃ hv, holdV P op a hand = hv := ⟨_, rfl⟩
              have HHV := hide hhv
              clear hquit hhv
              have hc49 : ∀ W, Below w.heap.size w W → Below w4.heap.size w4 W → Calls Try.prog 49 #[.pointer (some ⟨vb, 0, none⟩), .agg #[.int .i64 op, .int .i64 a, .int .i64 b, .int .i64 c, .int .i64 d], .int .i64 hand] W fun en w' => en = .returned (.int .i64 hv) ∧ Below W.heap.size W w' := fun W hb hq => by
                have := hold_i W p P (HV.out.below hb).m vb _ (HV.out.below hb).v ⟨op, a, b, c, d⟩ hand HC.out.q34
                rw [show holdV P (⟨op, a, b, c, d⟩ : Ins).op (⟨op, a, b, c, d⟩ : Ins).a hand = hv from HHV.out] at this
                exact this
              have HC49 := hide hc49
              clear hc49
              go_upto_region 15 with
                (first
                | (go_at_call 47
                   refine (HC47.out _ HB.out HQ.out).mono ?_
                   rintro en w5 ⟨rfl, hb5⟩
                   have HQ := hide (HQ.out.trans (hb5.mono HQ.out.size))
                   have HB := hide (HB.out.trans (hb5.mono HB.out.size))
                   have KX := hide (KX.out.below hb5 KX.out.lt)
                   have KS := hide (KS.out.below hb5 KS.out.lt)
                   have x0 : w5.cell? ⟨bx, 0, none⟩ = some (.int .i64 op) := by rw [KX.out.cell]; rfl
                   have x1 : w5.cell? ⟨bx, 1, none⟩ = some (.int .i64 a) := by rw [KX.out.cell]; rfl
                   have x2 : w5.cell? ⟨bx, 2, none⟩ = some (.int .i64 b) := by rw [KX.out.cell]; rfl
                   have x3 : w5.cell? ⟨bx, 3, none⟩ = some (.int .i64 c) := by rw [KX.out.cell]; rfl
                   have x4 : w5.cell? ⟨bx, 4, none⟩ = some (.int .i64 d) := by rw [KX.out.cell]; rfl
                   have s0 : w5.cell? ⟨bs, 0, none⟩ = some (.bool true) := by rw [KS.out.cell]; rfl
                   have sf0 := KS.out.frozen 0
                   have s1 : w5.cell? ⟨bs, 1, none⟩ = some (.string ty1) := by rw [KS.out.cell]; rfl
                   have sf1 := KS.out.frozen 1
                   have s2 : w5.cell? ⟨bs, 2, none⟩ = some (.int .i64 (lv ls 0)) := by rw [KS.out.cell]; rfl
                   have sf2 := KS.out.frozen 2
                   have s3 : w5.cell? ⟨bs, 3, none⟩ = some (.int .i64 (lv ls 1)) := by rw [KS.out.cell]; rfl
                   have sf3 := KS.out.frozen 3
                   have s4 : w5.cell? ⟨bs, 4, none⟩ = some (.int .i64 (lv ls 2)) := by rw [KS.out.cell]; rfl
                   have sf4 := KS.out.frozen 4
                   have s5 : w5.cell? ⟨bs, 5, none⟩ = some (.int .i64 (lv ls 3)) := by rw [KS.out.cell]; rfl
                   have sf5 := KS.out.frozen 5
                   have s6 : w5.cell? ⟨bs, 6, none⟩ = some (.int .i64 (lv ls 4)) := by rw [KS.out.cell]; rfl
                   have sf6 := KS.out.frozen 6
                   have s7 : w5.cell? ⟨bs, 7, none⟩ = some (.int .i64 (lv ls 5)) := by rw [KS.out.cell]; rfl
                   have sf7 := KS.out.frozen 7
                   have s8 : w5.cell? ⟨bs, 8, none⟩ = some (.int .i64 (lv ls 6)) := by rw [KS.out.cell]; rfl
                   have sf8 := KS.out.frozen 8
                   have s9 : w5.cell? ⟨bs, 9, none⟩ = some (.int .i64 (lv ls 7)) := by rw [KS.out.cell]; rfl
                   have sf9 := KS.out.frozen 9
                   have s10 : w5.cell? ⟨bs, 10, none⟩ = some (.int .i64 (ls.length : Int)) := by rw [KS.out.cell]; rfl
                   have sf10 := KS.out.frozen 10
                   have s11 : w5.cell? ⟨bs, 11, none⟩ = some (.int .i64 hand) := by rw [KS.out.cell]; rfl
                   have sf11 := KS.out.frozen 11
                   have s12 : w5.cell? ⟨bs, 12, none⟩ = some (.slice o1 (ls.length - 8) c1) := by rw [KS.out.cell]; rfl
                   have sf12 := KS.out.frozen 12
                   clear hb5)
                | (go_at_call 48
                   refine (HC48.out _ HB.out HQ.out).mono ?_
                   rintro en w6 ⟨rfl, hb6⟩
                   have HQ := hide (HQ.out.trans (hb6.mono HQ.out.size))
                   have HB := hide (HB.out.trans (hb6.mono HB.out.size))
                   have KX := hide (KX.out.below hb6 KX.out.lt)
                   have KS := hide (KS.out.below hb6 KS.out.lt)
                   have x0 : w6.cell? ⟨bx, 0, none⟩ = some (.int .i64 op) := by rw [KX.out.cell]; rfl
                   have x1 : w6.cell? ⟨bx, 1, none⟩ = some (.int .i64 a) := by rw [KX.out.cell]; rfl
                   have x2 : w6.cell? ⟨bx, 2, none⟩ = some (.int .i64 b) := by rw [KX.out.cell]; rfl
                   have x3 : w6.cell? ⟨bx, 3, none⟩ = some (.int .i64 c) := by rw [KX.out.cell]; rfl
                   have x4 : w6.cell? ⟨bx, 4, none⟩ = some (.int .i64 d) := by rw [KX.out.cell]; rfl
                   have s0 : w6.cell? ⟨bs, 0, none⟩ = some (.bool true) := by rw [KS.out.cell]; rfl
                   have sf0 := KS.out.frozen 0
                   have s1 : w6.cell? ⟨bs, 1, none⟩ = some (.string ty1) := by rw [KS.out.cell]; rfl
                   have sf1 := KS.out.frozen 1
                   have s2 : w6.cell? ⟨bs, 2, none⟩ = some (.int .i64 (lv ls 0)) := by rw [KS.out.cell]; rfl
                   have sf2 := KS.out.frozen 2
                   have s3 : w6.cell? ⟨bs, 3, none⟩ = some (.int .i64 (lv ls 1)) := by rw [KS.out.cell]; rfl
                   have sf3 := KS.out.frozen 3
                   have s4 : w6.cell? ⟨bs, 4, none⟩ = some (.int .i64 (lv ls 2)) := by rw [KS.out.cell]; rfl
                   have sf4 := KS.out.frozen 4
                   have s5 : w6.cell? ⟨bs, 5, none⟩ = some (.int .i64 (lv ls 3)) := by rw [KS.out.cell]; rfl
                   have sf5 := KS.out.frozen 5
                   have s6 : w6.cell? ⟨bs, 6, none⟩ = some (.int .i64 (lv ls 4)) := by rw [KS.out.cell]; rfl
                   have sf6 := KS.out.frozen 6
                   have s7 : w6.cell? ⟨bs, 7, none⟩ = some (.int .i64 (lv ls 5)) := by rw [KS.out.cell]; rfl
                   have sf7 := KS.out.frozen 7
                   have s8 : w6.cell? ⟨bs, 8, none⟩ = some (.int .i64 (lv ls 6)) := by rw [KS.out.cell]; rfl
                   have sf8 := KS.out.frozen 8
                   have s9 : w6.cell? ⟨bs, 9, none⟩ = some (.int .i64 (lv ls 7)) := by rw [KS.out.cell]; rfl
                   have sf9 := KS.out.frozen 9
                   have s10 : w6.cell? ⟨bs, 10, none⟩ = some (.int .i64 (ls.length : Int)) := by rw [KS.out.cell]; rfl
                   have sf10 := KS.out.frozen 10
                   have s11 : w6.cell? ⟨bs, 11, none⟩ = some (.int .i64 hand) := by rw [KS.out.cell]; rfl
                   have sf11 := KS.out.frozen 11
                   have s12 : w6.cell? ⟨bs, 12, none⟩ = some (.slice o1 (ls.length - 8) c1) := by rw [KS.out.cell]; rfl
                   have sf12 := KS.out.frozen 12
                   clear hb6)
                | (go_at_call 49
                   refine (HC49.out _ HB.out HQ.out).mono ?_
                   rintro en w7 ⟨rfl, hb7⟩
                   have HQ := hide (HQ.out.trans (hb7.mono HQ.out.size))
                   have HB := hide (HB.out.trans (hb7.mono HB.out.size))
                   have KX := hide (KX.out.below hb7 KX.out.lt)
                   have KS := hide (KS.out.below hb7 KS.out.lt)
                   have x0 : w7.cell? ⟨bx, 0, none⟩ = some (.int .i64 op) := by rw [KX.out.cell]; rfl
                   have x1 : w7.cell? ⟨bx, 1, none⟩ = some (.int .i64 a) := by rw [KX.out.cell]; rfl
                   have x2 : w7.cell? ⟨bx, 2, none⟩ = some (.int .i64 b) := by rw [KX.out.cell]; rfl
                   have x3 : w7.cell? ⟨bx, 3, none⟩ = some (.int .i64 c) := by rw [KX.out.cell]; rfl
                   have x4 : w7.cell? ⟨bx, 4, none⟩ = some (.int .i64 d) := by rw [KX.out.cell]; rfl
                   have s0 : w7.cell? ⟨bs, 0, none⟩ = some (.bool true) := by rw [KS.out.cell]; rfl
                   have sf0 := KS.out.frozen 0
                   have s1 : w7.cell? ⟨bs, 1, none⟩ = some (.string ty1) := by rw [KS.out.cell]; rfl
                   have sf1 := KS.out.frozen 1
                   have s2 : w7.cell? ⟨bs, 2, none⟩ = some (.int .i64 (lv ls 0)) := by rw [KS.out.cell]; rfl
                   have sf2 := KS.out.frozen 2
                   have s3 : w7.cell? ⟨bs, 3, none⟩ = some (.int .i64 (lv ls 1)) := by rw [KS.out.cell]; rfl
                   have sf3 := KS.out.frozen 3
                   have s4 : w7.cell? ⟨bs, 4, none⟩ = some (.int .i64 (lv ls 2)) := by rw [KS.out.cell]; rfl
                   have sf4 := KS.out.frozen 4
                   have s5 : w7.cell? ⟨bs, 5, none⟩ = some (.int .i64 (lv ls 3)) := by rw [KS.out.cell]; rfl
                   have sf5 := KS.out.frozen 5
                   have s6 : w7.cell? ⟨bs, 6, none⟩ = some (.int .i64 (lv ls 4)) := by rw [KS.out.cell]; rfl
                   have sf6 := KS.out.frozen 6
                   have s7 : w7.cell? ⟨bs, 7, none⟩ = some (.int .i64 (lv ls 5)) := by rw [KS.out.cell]; rfl
                   have sf7 := KS.out.frozen 7
                   have s8 : w7.cell? ⟨bs, 8, none⟩ = some (.int .i64 (lv ls 6)) := by rw [KS.out.cell]; rfl
                   have sf8 := KS.out.frozen 8
                   have s9 : w7.cell? ⟨bs, 9, none⟩ = some (.int .i64 (lv ls 7)) := by rw [KS.out.cell]; rfl
                   have sf9 := KS.out.frozen 9
                   have s10 : w7.cell? ⟨bs, 10, none⟩ = some (.int .i64 (ls.length : Int)) := by rw [KS.out.cell]; rfl
                   have sf10 := KS.out.frozen 10
                   have s11 : w7.cell? ⟨bs, 11, none⟩ = some (.int .i64 hand) := by rw [KS.out.cell]; rfl
                   have sf11 := KS.out.frozen 11
                   have s12 : w7.cell? ⟨bs, 12, none⟩ = some (.slice o1 (ls.length - 8) c1) := by rw [KS.out.cell]; rfl
                   have sf12 := KS.out.frozen 12
                   clear hb7
                   have hM7 : Mt (w7.setCell ⟨bs, 11, none⟩ (.int .i64 hv)) o1 c1 (ls.drop 8) := (HM1.out.below HQ.out).keep (by simp) (fun g cs hg => Below.heap_setCell _ _ _ g (by exact hg.ne_ KS.out (by decide)))
                   have HB7 : Hid (Below w.heap.size w (w7.setCell ⟨bs, 11, none⟩ (.int .i64 hv))) := hide (HB.out.setCell (by exact HBS.out) _)
                   have HC50 := hide (ways_i (w7.setCell ⟨bs, 11, none⟩ (.int .i64 hv)) na ⟨op, a, b, c, d⟩ (.agg #[.bool true, .string ty1, .int .i64 (lv ls 0), .int .i64 (lv ls 1), .int .i64 (lv ls 2), .int .i64 (lv ls 3), .int .i64 (lv ls 4), .int .i64 (lv ls 5), .int .i64 (lv ls 6), .int .i64 (lv ls 7), .int .i64 (ls.length : Int), .int .i64 hv, .slice o1 (ls.length - 8) c1]) ⟨true, ty1, ls, hv⟩ ⟨o1, c1, rfl, hM7⟩ (by omega) (by have := HFT.out.ls; simp only at this ⊢; omega) HQUIT.out)
                   clear hM7)
                | (go_at_call 50
                   refine HC50.out.mono ?_
                   rintro en w8 ⟨v8, rfl, hwy, hb8⟩
                   have HWY := hide hwy
                   have HB8 := hide (HB7.out.trans (hb8.mono HB7.out.size))
                   clear hwy hb8))
              as_aux_lemma =>
                obtain ⟨l, hl⟩ : ∃ l, waysV na ⟨op, a, b, c, d⟩ ⟨true, ty1, ls, hv⟩ = l := ⟨_, rfl⟩
                have hw2 := HWY.out
                rw [hl] at hw2
                have hl2 := waysV_len na ⟨op, a, b, c, d⟩ ⟨true, ty1, ls, hv⟩
                rw [hl] at hl2
                have hbeh : stBeh P ⟨op, a, b, c, d⟩ ⟨true, ty, ls, hand⟩ = ⟨true, ty1, ls, hv⟩ := by unfold stBeh; rw [HT.out]; simp [HHV.out]
                have hLk : Lk = if l.any (fun u => decide ((P.cd.length : Int) ≤ u.1)) then (98, ats) else if clash l ats then (94, ats) else (0, l.foldl putSt ats) := by
                  rw [← HLK.out]
                  unfold lookV
                  rw [hbeh, hl]
                  simp only [HHH.out, HT.out, HK.out, HJ.out]
                  simp
                have hlen : ∀ (i : Nat) (u : Int × St), l[i]? = some u → u.2.ls.length ≤ 4194304 := fun i u hu => by
                  have h1 := waysV_ls na ⟨op, a, b, c, d⟩ ⟨true, ty1, ls, hv⟩ u (by rw [hl]; exact List.mem_of_getElem? hu)
                  have h2 := HFT.out.ls
                  simp only at h1 h2
                  omega
                have HLEN := hide hlen
                clear hlen
                have HLW := hide hLk
                have HL2 := hide hl2
                have HLL := hide hl
                obtain ⟨oy, cy, rfl, hcy, hy⟩ := hw2
                have HY := hide hy
                clear hy hl2 hl hLk hbeh HWY
                have HED8 : ∀ W, Below w8.heap.size w8 W → VMem W vb rb p P ats ∧ Only (fun k => k = rb) w W := fun W hb => HED.out W (HB8.out.trans (hb.mono HB8.out.size))
                have HE8 := hide HED8
                clear HED8
                go_wp2_with fail
                go_loopw [73] (fun tx W => ∃ i : Nat, tx = .int .i64 (i : Int) ∧ i ≤ l.length ∧ (∀ (j : Nat) (u : Int × St), j < i → l[j]? = some u → u.1 < (P.cd.length : Int)) ∧ Below w8.heap.size w8 W) (fun tx _ => l.length - (intOf tx).toNat)
                case atStart => exact ⟨0, rfl, Nat.zero_le _, fun j u hj => absurd hj (Nat.not_lt_zero j), Below.refl _ _⟩
                case round =>
                  obtain ⟨i, rfl, hi, hall, hB⟩ := hrel
                  rename World => W
                  have HA := hide hall
                  have HBW := hide hB
                  clear hall
                  have hl2 := HL2.out
                  by_cases hlt : i < l.length
                  · obtain ⟨u, hu⟩ : ∃ u, l[i]? = some u := ⟨_, List.getElem?_eq_getElem hlt⟩
                    obtain ⟨gy, rfl, hgy, ⟨ou, cu, hmu, hw0, hwr⟩, _⟩ := HY.out i u hu
                    obtain ⟨pl, thu, tyu, lu, hdu⟩ := u
                    have hBo : Below w8.heap.size w8 (W.alloc (.cells #[.int .i64 pl, .bool thu, .string tyu, .int .i64 (lv lu 0), .int .i64 (lv lu 1), .int .i64 (lv lu 2), .int .i64 (lv lu 3), .int .i64 (lv lu 4), .int .i64 (lv lu 5), .int .i64 (lv lu 6), .int .i64 (lv lu 7), .int .i64 (lu.length : Int), .int .i64 hdu, .slice ou (lu.length - 8) cu] 108)) := HBW.out.alloc HBW.out.size _
                    have y0 : W.cell? ⟨gy, i * 14, none⟩ = some (.int .i64 pl) := (HBW.out.cell (by exact hgy)).trans hw0
                    have y1 : W.cell? ⟨gy, i * 14 + 1, none⟩ = some (.bool thu) := (HBW.out.cell (by exact hgy)).trans (hwr 0 _ rfl)
                    have y2 : W.cell? ⟨gy, i * 14 + 2, none⟩ = some (.string tyu) := (HBW.out.cell (by exact hgy)).trans (hwr 1 _ rfl)
                    have y3 : W.cell? ⟨gy, i * 14 + 3, none⟩ = some (.int .i64 (lv lu 0)) := (HBW.out.cell (by exact hgy)).trans (hwr 2 _ rfl)
                    have y4 : W.cell? ⟨gy, i * 14 + 4, none⟩ = some (.int .i64 (lv lu 1)) := (HBW.out.cell (by exact hgy)).trans (hwr 3 _ rfl)
                    have y5 : W.cell? ⟨gy, i * 14 + 5, none⟩ = some (.int .i64 (lv lu 2)) := (HBW.out.cell (by exact hgy)).trans (hwr 4 _ rfl)
                    have y6 : W.cell? ⟨gy, i * 14 + 6, none⟩ = some (.int .i64 (lv lu 3)) := (HBW.out.cell (by exact hgy)).trans (hwr 5 _ rfl)
                    have y7 : W.cell? ⟨gy, i * 14 + 7, none⟩ = some (.int .i64 (lv lu 4)) := (HBW.out.cell (by exact hgy)).trans (hwr 6 _ rfl)
                    have y8 : W.cell? ⟨gy, i * 14 + 8, none⟩ = some (.int .i64 (lv lu 5)) := (HBW.out.cell (by exact hgy)).trans (hwr 7 _ rfl)
                    have y9 : W.cell? ⟨gy, i * 14 + 9, none⟩ = some (.int .i64 (lv lu 6)) := (HBW.out.cell (by exact hgy)).trans (hwr 8 _ rfl)
                    have y10 : W.cell? ⟨gy, i * 14 + 10, none⟩ = some (.int .i64 (lv lu 7)) := (HBW.out.cell (by exact hgy)).trans (hwr 9 _ rfl)
                    have y11 : W.cell? ⟨gy, i * 14 + 11, none⟩ = some (.int .i64 (lu.length : Int)) := (HBW.out.cell (by exact hgy)).trans (hwr 10 _ rfl)
                    have y12 : W.cell? ⟨gy, i * 14 + 12, none⟩ = some (.int .i64 hdu) := (HBW.out.cell (by exact hgy)).trans (hwr 11 _ rfl)
                    have y13 : W.cell? ⟨gy, i * 14 + 13, none⟩ = some (.slice ou (lu.length - 8) cu) := (HBW.out.cell (by exact hgy)).trans (hwr 12 _ rfl)
                    have HU := hide hu
                    have c5 : (W.alloc (.cells #[.int .i64 pl, .bool thu, .string tyu, .int .i64 (lv lu 0), .int .i64 (lv lu 1), .int .i64 (lv lu 2), .int .i64 (lv lu 3), .int .i64 (lv lu 4), .int .i64 (lv lu 5), .int .i64 (lv lu 6), .int .i64 (lv lu 7), .int .i64 (lu.length : Int), .int .i64 hdu, .slice ou (lu.length - 8) cu] 108)).cell? ⟨vb, 5, none⟩ = some (.slice (some ⟨g, 0, none⟩) P.cd.length p.cc) := by have := (HE8.out _ hBo).1; rw [this.v.cell, ← this.m.cl, ← hg]; rfl
                    have HBO := hide hBo
                    clear hBo hu hw0 hwr hmu
                    have u1 := IntWalk.i64_in ((i : Int) + 1) (by omega)
                    by_cases hge : (P.cd.length : Int) ≤ pl
                    · as_aux_lemma =>
                        have e : Lk = (98, ats) := by
                          rw [HLW.out, if_pos]
                          rw [List.any_eq_true]
                          exact ⟨_, List.mem_of_getElem? HU.out, by simpa using hge⟩
                        subst e
                        have b1 : decide ((P.cd.length : Int) ≤ pl) = true := decide_eq_true hge
                        go_wp2_with fail
                        go_quiet (fail)
                        go_wp2_with fail
                        try rw [Exit.noGoto_ret]
                        go_ret
                        exact ⟨rfl, HE8.out _ (below_drewN HBO.out _)⟩
                    · as_aux_lemma =>
                        have b1 : decide ((P.cd.length : Int) ≤ pl) = false := decide_eq_false hge
                        go_wp2_with fail
                        go_quiet (fail)
                        go_wp2_with fail
                        go_roundw
                        case rel =>
                          refine ⟨i + 1, by go_num, by omega, fun j u hj hju => ?_, below_drewN HBO.out _⟩
                          rcases Nat.lt_succ_iff_lt_or_eq.1 hj with h | rfl
                          · exact HA.out j u h hju
                          · rw [HU.out] at hju
                            cases hju
                            show pl < _
                            omega
                        case measure => simp [intOf]; omega
                  · obtain rfl : i = l.length := by omega
                    clear hlt
                    have hall : ∀ u ∈ l, u.1 < (P.cd.length : Int) := fun u hu => by
                      obtain ⟨j, hj⟩ := List.mem_iff_getElem?.1 hu
                      exact HA.out j u (List.getElem?_eq_some_iff.1 hj).1 hj
                    have hpos : ∀ u ∈ l, pIn P u.1 := by
                      have := waysV_pos P na ⟨op, a, b, c, d⟩ ⟨true, ty1, ls, hv⟩ HC.out (by rw [HLL.out]; exact hall)
                      rw [HLL.out] at this
                      exact this
                    have hany : l.any (fun u => decide ((P.cd.length : Int) ≤ u.1)) = false := by
                      rw [List.any_eq_false]
                      intro u hu
                      have := hall u hu
                      simp
                      omega
                    have hL3 : Lk = if clash l ats then (94, ats) else (0, l.foldl putSt ats) := by rw [HLW.out, hany]; rfl
                    have HL3 := hide hL3
                    have HPOS := hide hpos
                    clear hall hpos hany hL3 hi
                    go_wp2_with fail
                    go_step3
                    go_wp2_with fail
                    go_loopw [89] (fun tx W2 => ∃ i : Nat, tx = .int .i64 (i : Int) ∧ i ≤ l.length ∧ noClash l ats i ∧ Below w8.heap.size w8 W2) (fun tx _ => l.length - (intOf tx).toNat)
                    case atStart => exact ⟨0, rfl, Nat.zero_le _, (fun j u hj => absurd hj (Nat.not_lt_zero j)), HBW.out⟩
                    case round =>
                      clear HBW HA
                      obtain ⟨i, rfl, hi, hno, hB⟩ := hrel
                      rename World => W
                      have HNO := hide hno
                      have HBW := hide hB
                      clear hno hB
                      by_cases hlt : i < l.length
                      · obtain ⟨u, hu⟩ : ∃ u, l[i]? = some u := ⟨_, List.getElem?_eq_getElem hlt⟩
                        obtain ⟨gy, rfl, hgy, ⟨ou, cu, hmu, hw0, hwr⟩, _⟩ := HY.out i u hu
                        have hpu := HPOS.out u (List.mem_of_getElem? hu)
                        obtain ⟨pl, thu, tyu, lu, hdu⟩ := u
                        obtain ⟨pn, rfl⟩ := Int.eq_ofNat_of_zero_le hpu.1
                        have hpn : pn < P.cd.length := by have := hpu.2; simpa using this
                        have y0 : W.cell? ⟨gy, i * 14, none⟩ = some (.int .i64 (pn : Int)) := (HBW.out.cell (by exact hgy)).trans hw0
                        have y1 : W.cell? ⟨gy, i * 14 + 1, none⟩ = some (.bool thu) := (HBW.out.cell (by exact hgy)).trans (hwr 0 _ rfl)
                        have y2 : W.cell? ⟨gy, i * 14 + 2, none⟩ = some (.string tyu) := (HBW.out.cell (by exact hgy)).trans (hwr 1 _ rfl)
                        have y3 : W.cell? ⟨gy, i * 14 + 3, none⟩ = some (.int .i64 (lv lu 0)) := (HBW.out.cell (by exact hgy)).trans (hwr 2 _ rfl)
                        have y4 : W.cell? ⟨gy, i * 14 + 4, none⟩ = some (.int .i64 (lv lu 1)) := (HBW.out.cell (by exact hgy)).trans (hwr 3 _ rfl)
                        have y5 : W.cell? ⟨gy, i * 14 + 5, none⟩ = some (.int .i64 (lv lu 2)) := (HBW.out.cell (by exact hgy)).trans (hwr 4 _ rfl)
                        have y6 : W.cell? ⟨gy, i * 14 + 6, none⟩ = some (.int .i64 (lv lu 3)) := (HBW.out.cell (by exact hgy)).trans (hwr 5 _ rfl)
                        have y7 : W.cell? ⟨gy, i * 14 + 7, none⟩ = some (.int .i64 (lv lu 4)) := (HBW.out.cell (by exact hgy)).trans (hwr 6 _ rfl)
                        have y8 : W.cell? ⟨gy, i * 14 + 8, none⟩ = some (.int .i64 (lv lu 5)) := (HBW.out.cell (by exact hgy)).trans (hwr 7 _ rfl)
                        have y9 : W.cell? ⟨gy, i * 14 + 9, none⟩ = some (.int .i64 (lv lu 6)) := (HBW.out.cell (by exact hgy)).trans (hwr 8 _ rfl)
                        have y10 : W.cell? ⟨gy, i * 14 + 10, none⟩ = some (.int .i64 (lv lu 7)) := (HBW.out.cell (by exact hgy)).trans (hwr 9 _ rfl)
                        have y11 : W.cell? ⟨gy, i * 14 + 11, none⟩ = some (.int .i64 (lu.length : Int)) := (HBW.out.cell (by exact hgy)).trans (hwr 10 _ rfl)
                        have y12 : W.cell? ⟨gy, i * 14 + 12, none⟩ = some (.int .i64 hdu) := (HBW.out.cell (by exact hgy)).trans (hwr 11 _ rfl)
                        have y13 : W.cell? ⟨gy, i * 14 + 13, none⟩ = some (.slice ou (lu.length - 8) cu) := (HBW.out.cell (by exact hgy)).trans (hwr 12 _ rfl)
                        have HU := hide hu
                        have HMU := hide hmu
                        have HGY := hide hgy
                        clear hu hw0 hwr hmu hpu hgy
                        have kWA := Blk.new W 108 #[.int .i64 (pn : Int), .bool thu, .string tyu, .int .i64 (lv lu 0), .int .i64 (lv lu 1), .int .i64 (lv lu 2), .int .i64 (lv lu 3), .int .i64 (lv lu 4), .int .i64 (lv lu 5), .int .i64 (lv lu 6), .int .i64 (lv lu 7), .int .i64 (lu.length : Int), .int .i64 hdu, .slice ou (lu.length - 8) cu]
                        have hBA : Below w8.heap.size w8 (W.alloc (.cells #[.int .i64 (pn : Int), .bool thu, .string tyu, .int .i64 (lv lu 0), .int .i64 (lv lu 1), .int .i64 (lv lu 2), .int .i64 (lv lu 3), .int .i64 (lv lu 4), .int .i64 (lv lu 5), .int .i64 (lv lu 6), .int .i64 (lv lu 7), .int .i64 (lu.length : Int), .int .i64 hdu, .slice ou (lu.length - 8) cu] 108)) := HBW.out.alloc HBW.out.size _
                        have HWA := hide kWA
                        have HBA := hide hBA
                        clear kWA hBA
                        go_wp2_with fail
                        go_loopw [98] (fun tx W3 => ∃ k : Nat, tx = .int .i64 (k : Int) ∧ k ≤ i ∧ (∀ (m : Nat) (v : Int × St), m < k → l[m]? = some v → v.1 = (pn : Int) → sameV v.2 ⟨thu, tyu, lu, hdu⟩ = true) ∧ Below w8.heap.size w8 W3 ∧ Blk W3 W.heap.size 108 #[.int .i64 (pn : Int), .bool thu, .string tyu, .int .i64 (lv lu 0), .int .i64 (lv lu 1), .int .i64 (lv lu 2), .int .i64 (lv lu 3), .int .i64 (lv lu 4), .int .i64 (lv lu 5), .int .i64 (lv lu 6), .int .i64 (lv lu 7), .int .i64 (lu.length : Int), .int .i64 hdu, .slice ou (lu.length - 8) cu]) (fun tx _ => i - (intOf tx).toNat)
                        case atStart => exact ⟨0, rfl, Nat.zero_le _, (fun m v hm => absurd hm (Nat.not_lt_zero m)), HBA.out, HWA.out⟩
                        case round =>
                          clear y0 y1 y2 y3 y4 y5 y6 y7 y8 y9 y10 y11 y12 y13
                          obtain ⟨k, rfl, hk, hin3, hB3, kW⟩ := hrel
                          rename World => W3
                          have HI3 := hide hin3
                          have HB3 := hide hB3
                          have HW3 := hide kW
                          clear hin3 hB3 kW
                          by_cases hlk : k < i
                          · obtain ⟨v, hv2⟩ : ∃ v, l[k]? = some v := ⟨_, List.getElem?_eq_getElem (by omega)⟩
                            obtain ⟨gy2, egy, hgy2, ⟨ov, cv, hmv, hw0, hwr⟩, _⟩ := HY.out k v hv2
                            obtain rfl : gy = gy2 := by injection egy with e; injection e
                            obtain ⟨pv, thv, tyv, lw, hdv⟩ := v
                            have y0 : W3.cell? ⟨gy, k * 14, none⟩ = some (.int .i64 pv) := (HB3.out.cell (by exact hgy2)).trans hw0
                            have y1 : W3.cell? ⟨gy, k * 14 + 1, none⟩ = some (.bool thv) := (HB3.out.cell (by exact hgy2)).trans (hwr 0 _ rfl)
                            have y2 : W3.cell? ⟨gy, k * 14 + 2, none⟩ = some (.string tyv) := (HB3.out.cell (by exact hgy2)).trans (hwr 1 _ rfl)
                            have y3 : W3.cell? ⟨gy, k * 14 + 3, none⟩ = some (.int .i64 (lv lw 0)) := (HB3.out.cell (by exact hgy2)).trans (hwr 2 _ rfl)
                            have y4 : W3.cell? ⟨gy, k * 14 + 4, none⟩ = some (.int .i64 (lv lw 1)) := (HB3.out.cell (by exact hgy2)).trans (hwr 3 _ rfl)
                            have y5 : W3.cell? ⟨gy, k * 14 + 5, none⟩ = some (.int .i64 (lv lw 2)) := (HB3.out.cell (by exact hgy2)).trans (hwr 4 _ rfl)
                            have y6 : W3.cell? ⟨gy, k * 14 + 6, none⟩ = some (.int .i64 (lv lw 3)) := (HB3.out.cell (by exact hgy2)).trans (hwr 5 _ rfl)
                            have y7 : W3.cell? ⟨gy, k * 14 + 7, none⟩ = some (.int .i64 (lv lw 4)) := (HB3.out.cell (by exact hgy2)).trans (hwr 6 _ rfl)
                            have y8 : W3.cell? ⟨gy, k * 14 + 8, none⟩ = some (.int .i64 (lv lw 5)) := (HB3.out.cell (by exact hgy2)).trans (hwr 7 _ rfl)
                            have y9 : W3.cell? ⟨gy, k * 14 + 9, none⟩ = some (.int .i64 (lv lw 6)) := (HB3.out.cell (by exact hgy2)).trans (hwr 8 _ rfl)
                            have y10 : W3.cell? ⟨gy, k * 14 + 10, none⟩ = some (.int .i64 (lv lw 7)) := (HB3.out.cell (by exact hgy2)).trans (hwr 9 _ rfl)
                            have y11 : W3.cell? ⟨gy, k * 14 + 11, none⟩ = some (.int .i64 (lw.length : Int)) := (HB3.out.cell (by exact hgy2)).trans (hwr 10 _ rfl)
                            have y12 : W3.cell? ⟨gy, k * 14 + 12, none⟩ = some (.int .i64 hdv) := (HB3.out.cell (by exact hgy2)).trans (hwr 11 _ rfl)
                            have y13 : W3.cell? ⟨gy, k * 14 + 13, none⟩ = some (.slice ov (lw.length - 8) cv) := (HB3.out.cell (by exact hgy2)).trans (hwr 12 _ rfl)
                            have kW4 : Blk (W3.alloc (.cells #[.int .i64 pv, .bool thv, .string tyv, .int .i64 (lv lw 0), .int .i64 (lv lw 1), .int .i64 (lv lw 2), .int .i64 (lv lw 3), .int .i64 (lv lw 4), .int .i64 (lv lw 5), .int .i64 (lv lw 6), .int .i64 (lv lw 7), .int .i64 (lw.length : Int), .int .i64 hdv, .slice ov (lw.length - 8) cv] 108)) W.heap.size 108 #[.int .i64 (pn : Int), .bool thu, .string tyu, .int .i64 (lv lu 0), .int .i64 (lv lu 1), .int .i64 (lv lu 2), .int .i64 (lv lu 3), .int .i64 (lv lu 4), .int .i64 (lv lu 5), .int .i64 (lv lu 6), .int .i64 (lv lu 7), .int .i64 (lu.length : Int), .int .i64 hdu, .slice ou (lu.length - 8) cu] := HW3.out.alloc _
                            have hB4 : Below w8.heap.size w8 (W3.alloc (.cells #[.int .i64 pv, .bool thv, .string tyv, .int .i64 (lv lw 0), .int .i64 (lv lw 1), .int .i64 (lv lw 2), .int .i64 (lv lw 3), .int .i64 (lv lw 4), .int .i64 (lv lw 5), .int .i64 (lv lw 6), .int .i64 (lv lw 7), .int .i64 (lw.length : Int), .int .i64 hdv, .slice ov (lw.length - 8) cv] 108)) := HB3.out.alloc HB3.out.size _
                            have z0 : (W3.alloc (.cells #[.int .i64 pv, .bool thv, .string tyv, .int .i64 (lv lw 0), .int .i64 (lv lw 1), .int .i64 (lv lw 2), .int .i64 (lv lw 3), .int .i64 (lv lw 4), .int .i64 (lv lw 5), .int .i64 (lv lw 6), .int .i64 (lv lw 7), .int .i64 (lw.length : Int), .int .i64 hdv, .slice ov (lw.length - 8) cv] 108)).cell? ⟨W.heap.size, 0, none⟩ = some (.int .i64 (pn : Int)) := by rw [kW4.cell]; rfl
                            have z1 : (W3.alloc (.cells #[.int .i64 pv, .bool thv, .string tyv, .int .i64 (lv lw 0), .int .i64 (lv lw 1), .int .i64 (lv lw 2), .int .i64 (lv lw 3), .int .i64 (lv lw 4), .int .i64 (lv lw 5), .int .i64 (lv lw 6), .int .i64 (lv lw 7), .int .i64 (lw.length : Int), .int .i64 hdv, .slice ov (lw.length - 8) cv] 108)).cell? ⟨W.heap.size, 1, none⟩ = some (.bool thu) := by rw [kW4.cell]; rfl
                            have z2 : (W3.alloc (.cells #[.int .i64 pv, .bool thv, .string tyv, .int .i64 (lv lw 0), .int .i64 (lv lw 1), .int .i64 (lv lw 2), .int .i64 (lv lw 3), .int .i64 (lv lw 4), .int .i64 (lv lw 5), .int .i64 (lv lw 6), .int .i64 (lv lw 7), .int .i64 (lw.length : Int), .int .i64 hdv, .slice ov (lw.length - 8) cv] 108)).cell? ⟨W.heap.size, 2, none⟩ = some (.string tyu) := by rw [kW4.cell]; rfl
                            have z3 : (W3.alloc (.cells #[.int .i64 pv, .bool thv, .string tyv, .int .i64 (lv lw 0), .int .i64 (lv lw 1), .int .i64 (lv lw 2), .int .i64 (lv lw 3), .int .i64 (lv lw 4), .int .i64 (lv lw 5), .int .i64 (lv lw 6), .int .i64 (lv lw 7), .int .i64 (lw.length : Int), .int .i64 hdv, .slice ov (lw.length - 8) cv] 108)).cell? ⟨W.heap.size, 3, none⟩ = some (.int .i64 (lv lu 0)) := by rw [kW4.cell]; rfl
                            have z4 : (W3.alloc (.cells #[.int .i64 pv, .bool thv, .string tyv, .int .i64 (lv lw 0), .int .i64 (lv lw 1), .int .i64 (lv lw 2), .int .i64 (lv lw 3), .int .i64 (lv lw 4), .int .i64 (lv lw 5), .int .i64 (lv lw 6), .int .i64 (lv lw 7), .int .i64 (lw.length : Int), .int .i64 hdv, .slice ov (lw.length - 8) cv] 108)).cell? ⟨W.heap.size, 4, none⟩ = some (.int .i64 (lv lu 1)) := by rw [kW4.cell]; rfl
                            have z5 : (W3.alloc (.cells #[.int .i64 pv, .bool thv, .string tyv, .int .i64 (lv lw 0), .int .i64 (lv lw 1), .int .i64 (lv lw 2), .int .i64 (lv lw 3), .int .i64 (lv lw 4), .int .i64 (lv lw 5), .int .i64 (lv lw 6), .int .i64 (lv lw 7), .int .i64 (lw.length : Int), .int .i64 hdv, .slice ov (lw.length - 8) cv] 108)).cell? ⟨W.heap.size, 5, none⟩ = some (.int .i64 (lv lu 2)) := by rw [kW4.cell]; rfl
                            have z6 : (W3.alloc (.cells #[.int .i64 pv, .bool thv, .string tyv, .int .i64 (lv lw 0), .int .i64 (lv lw 1), .int .i64 (lv lw 2), .int .i64 (lv lw 3), .int .i64 (lv lw 4), .int .i64 (lv lw 5), .int .i64 (lv lw 6), .int .i64 (lv lw 7), .int .i64 (lw.length : Int), .int .i64 hdv, .slice ov (lw.length - 8) cv] 108)).cell? ⟨W.heap.size, 6, none⟩ = some (.int .i64 (lv lu 3)) := by rw [kW4.cell]; rfl
                            have z7 : (W3.alloc (.cells #[.int .i64 pv, .bool thv, .string tyv, .int .i64 (lv lw 0), .int .i64 (lv lw 1), .int .i64 (lv lw 2), .int .i64 (lv lw 3), .int .i64 (lv lw 4), .int .i64 (lv lw 5), .int .i64 (lv lw 6), .int .i64 (lv lw 7), .int .i64 (lw.length : Int), .int .i64 hdv, .slice ov (lw.length - 8) cv] 108)).cell? ⟨W.heap.size, 7, none⟩ = some (.int .i64 (lv lu 4)) := by rw [kW4.cell]; rfl
                            have z8 : (W3.alloc (.cells #[.int .i64 pv, .bool thv, .string tyv, .int .i64 (lv lw 0), .int .i64 (lv lw 1), .int .i64 (lv lw 2), .int .i64 (lv lw 3), .int .i64 (lv lw 4), .int .i64 (lv lw 5), .int .i64 (lv lw 6), .int .i64 (lv lw 7), .int .i64 (lw.length : Int), .int .i64 hdv, .slice ov (lw.length - 8) cv] 108)).cell? ⟨W.heap.size, 8, none⟩ = some (.int .i64 (lv lu 5)) := by rw [kW4.cell]; rfl
                            have z9 : (W3.alloc (.cells #[.int .i64 pv, .bool thv, .string tyv, .int .i64 (lv lw 0), .int .i64 (lv lw 1), .int .i64 (lv lw 2), .int .i64 (lv lw 3), .int .i64 (lv lw 4), .int .i64 (lv lw 5), .int .i64 (lv lw 6), .int .i64 (lv lw 7), .int .i64 (lw.length : Int), .int .i64 hdv, .slice ov (lw.length - 8) cv] 108)).cell? ⟨W.heap.size, 9, none⟩ = some (.int .i64 (lv lu 6)) := by rw [kW4.cell]; rfl
                            have z10 : (W3.alloc (.cells #[.int .i64 pv, .bool thv, .string tyv, .int .i64 (lv lw 0), .int .i64 (lv lw 1), .int .i64 (lv lw 2), .int .i64 (lv lw 3), .int .i64 (lv lw 4), .int .i64 (lv lw 5), .int .i64 (lv lw 6), .int .i64 (lv lw 7), .int .i64 (lw.length : Int), .int .i64 hdv, .slice ov (lw.length - 8) cv] 108)).cell? ⟨W.heap.size, 10, none⟩ = some (.int .i64 (lv lu 7)) := by rw [kW4.cell]; rfl
                            have z11 : (W3.alloc (.cells #[.int .i64 pv, .bool thv, .string tyv, .int .i64 (lv lw 0), .int .i64 (lv lw 1), .int .i64 (lv lw 2), .int .i64 (lv lw 3), .int .i64 (lv lw 4), .int .i64 (lv lw 5), .int .i64 (lv lw 6), .int .i64 (lv lw 7), .int .i64 (lw.length : Int), .int .i64 hdv, .slice ov (lw.length - 8) cv] 108)).cell? ⟨W.heap.size, 11, none⟩ = some (.int .i64 (lu.length : Int)) := by rw [kW4.cell]; rfl
                            have z12 : (W3.alloc (.cells #[.int .i64 pv, .bool thv, .string tyv, .int .i64 (lv lw 0), .int .i64 (lv lw 1), .int .i64 (lv lw 2), .int .i64 (lv lw 3), .int .i64 (lv lw 4), .int .i64 (lv lw 5), .int .i64 (lv lw 6), .int .i64 (lv lw 7), .int .i64 (lw.length : Int), .int .i64 hdv, .slice ov (lw.length - 8) cv] 108)).cell? ⟨W.heap.size, 12, none⟩ = some (.int .i64 hdu) := by rw [kW4.cell]; rfl
                            have z13 : (W3.alloc (.cells #[.int .i64 pv, .bool thv, .string tyv, .int .i64 (lv lw 0), .int .i64 (lv lw 1), .int .i64 (lv lw 2), .int .i64 (lv lw 3), .int .i64 (lv lw 4), .int .i64 (lv lw 5), .int .i64 (lv lw 6), .int .i64 (lv lw 7), .int .i64 (lw.length : Int), .int .i64 hdv, .slice ov (lw.length - 8) cv] 108)).cell? ⟨W.heap.size, 13, none⟩ = some (.slice ou (lu.length - 8) cu) := by rw [kW4.cell]; rfl
                            have hsa := same_i (W3.alloc (.cells #[.int .i64 pv, .bool thv, .string tyv, .int .i64 (lv lw 0), .int .i64 (lv lw 1), .int .i64 (lv lw 2), .int .i64 (lv lw 3), .int .i64 (lv lw 4), .int .i64 (lv lw 5), .int .i64 (lv lw 6), .int .i64 (lv lw 7), .int .i64 (lw.length : Int), .int .i64 hdv, .slice ov (lw.length - 8) cv] 108)) (.agg #[.bool thv, .string tyv, .int .i64 (lv lw 0), .int .i64 (lv lw 1), .int .i64 (lv lw 2), .int .i64 (lv lw 3), .int .i64 (lv lw 4), .int .i64 (lv lw 5), .int .i64 (lv lw 6), .int .i64 (lv lw 7), .int .i64 (lw.length : Int), .int .i64 hdv, .slice ov (lw.length - 8) cv]) (.agg #[.bool thu, .string tyu, .int .i64 (lv lu 0), .int .i64 (lv lu 1), .int .i64 (lv lu 2), .int .i64 (lv lu 3), .int .i64 (lv lu 4), .int .i64 (lv lu 5), .int .i64 (lv lu 6), .int .i64 (lv lu 7), .int .i64 (lu.length : Int), .int .i64 hdu, .slice ou (lu.length - 8) cu]) ⟨thv, tyv, lw, hdv⟩ ⟨thu, tyu, lu, hdu⟩ ⟨ov, cv, rfl, hmv.below hB4⟩ ⟨ou, cu, rfl, HMU.out.below hB4⟩ (HLEN.out k _ hv2) (HLEN.out i _ HU.out)
                            have HV2 := hide hv2
                            have HB4 := hide hB4
                            have HW4 := hide kW4
                            clear hv2 hB4 kW4 hw0 hwr hmv hgy2 egy
                            have u3 := IntWalk.i64_in ((k : Int) + 1) (by omega)
                            by_cases hpp : pv = (pn : Int)
                            · subst hpp
                              cases hsm : sameV ⟨thv, tyv, lw, hdv⟩ ⟨thu, tyu, lu, hdu⟩ with
                              | false =>
                                as_aux_lemma =>
                                  rw [hsm] at hsa
                                  have HSA := hide hsa
                                  have hcl := clash_both l ats HL2.out i k _ _ hlk HU.out HV2.out rfl hsm
                                  have e : Lk = (94, ats) := by rw [HL3.out, hcl]; rfl
                                  subst e
                                  clear hsa hsm hcl
                                  go_wp2_with (go_at_call 51
                                               refine HSA.out.mono ?_
                                               rintro en w9 ⟨rfl, hb9⟩
                                               have HB9 := hide (HB4.out.trans (hb9.mono HB4.out.size))
                                               clear hb9)
                                  try rw [Exit.noGoto_ret]
                                  go_ret
                                  exact ⟨rfl, HE8.out _ HB9.out⟩
                              | true =>
                                as_aux_lemma =>
                                  rw [hsm] at hsa
                                  have HSA := hide hsa
                                  have HSM := hide hsm
                                  clear hsa hsm
                                  go_wp2_with (go_at_call 51
                                               refine HSA.out.mono ?_
                                               rintro en w9 ⟨rfl, hb9⟩
                                               have HW9 := hide (HW4.out.below hb9 HW4.out.lt)
                                               have HB9 := hide (HB4.out.trans (hb9.mono HB4.out.size))
                                               clear hb9)
                                  go_roundw
                                  case rel =>
                                    refine ⟨k + 1, by go_num, by omega, fun m v hm hmv hvp => ?_, HB9.out, HW9.out⟩
                                    rcases Nat.lt_succ_iff_lt_or_eq.1 hm with h | rfl
                                    · exact HI3.out m v h hmv hvp
                                    · rw [HV2.out] at hmv
                                      cases hmv
                                      exact HSM.out
                                  case measure => simp [intOf]; omega
                            · as_aux_lemma =>
                                have hpb : (pv == (pn : Int)) = false := by simpa using hpp
                                have HPP := hide hpp
                                clear hsa hpp
                                go_wp2_with fail
                                go_roundw
                                case rel =>
                                  refine ⟨k + 1, by go_num, by omega, fun m v hm hmv hvp => ?_, HB4.out, HW4.out⟩
                                  rcases Nat.lt_succ_iff_lt_or_eq.1 hm with h | rfl
                                  · exact HI3.out m v h hmv hvp
                                  · rw [HV2.out] at hmv
                                    cases hmv
                                    exact absurd hvp HPP.out
                                case measure => simp [intOf]; omega
                          · have v6 : W3.cell? ⟨vb, 6, none⟩ = some (.slice (some ⟨rb, 0, none⟩) P.cd.length P.cd.length) := by have := (HE8.out _ HB3.out).1; rw [this.v.cell, ← this.len]; rfl
                            have z0 : W3.cell? ⟨W.heap.size, 0, none⟩ = some (.int .i64 (pn : Int)) := by rw [HW3.out.cell]; rfl
                            have z1 : W3.cell? ⟨W.heap.size, 1, none⟩ = some (.bool thu) := by rw [HW3.out.cell]; rfl
                            have z2 : W3.cell? ⟨W.heap.size, 2, none⟩ = some (.string tyu) := by rw [HW3.out.cell]; rfl
                            have z3 : W3.cell? ⟨W.heap.size, 3, none⟩ = some (.int .i64 (lv lu 0)) := by rw [HW3.out.cell]; rfl
                            have z4 : W3.cell? ⟨W.heap.size, 4, none⟩ = some (.int .i64 (lv lu 1)) := by rw [HW3.out.cell]; rfl
                            have z5 : W3.cell? ⟨W.heap.size, 5, none⟩ = some (.int .i64 (lv lu 2)) := by rw [HW3.out.cell]; rfl
                            have z6 : W3.cell? ⟨W.heap.size, 6, none⟩ = some (.int .i64 (lv lu 3)) := by rw [HW3.out.cell]; rfl
                            have z7 : W3.cell? ⟨W.heap.size, 7, none⟩ = some (.int .i64 (lv lu 4)) := by rw [HW3.out.cell]; rfl
                            have z8 : W3.cell? ⟨W.heap.size, 8, none⟩ = some (.int .i64 (lv lu 5)) := by rw [HW3.out.cell]; rfl
                            have z9 : W3.cell? ⟨W.heap.size, 9, none⟩ = some (.int .i64 (lv lu 6)) := by rw [HW3.out.cell]; rfl
                            have z10 : W3.cell? ⟨W.heap.size, 10, none⟩ = some (.int .i64 (lv lu 7)) := by rw [HW3.out.cell]; rfl
                            have z11 : W3.cell? ⟨W.heap.size, 11, none⟩ = some (.int .i64 (lu.length : Int)) := by rw [HW3.out.cell]; rfl
                            have z12 : W3.cell? ⟨W.heap.size, 12, none⟩ = some (.int .i64 hdu) := by rw [HW3.out.cell]; rfl
                            have z13 : W3.cell? ⟨W.heap.size, 13, none⟩ = some (.slice ou (lu.length - 8) cu) := by rw [HW3.out.cell]; rfl
                            obtain ⟨sx, hsx⟩ : ∃ sx, ats[pn]? = some sx := ⟨_, List.getElem?_eq_getElem (by have := HV.out.len; omega)⟩
                            have es : atSt ats (pn : Int) = sx := by simp [atSt, hsx]
                            have hlx := (HF.out pn sx hsx).ls
                            obtain ⟨ox, cx, hmx, hrow⟩ := (HE8.out _ HB3.out).1.r.row pn sx hsx
                            obtain ⟨thx, tyx, lx, hdx⟩ := sx
                            have r0 : W3.cell? ⟨rb, pn * 13, none⟩ = some (.bool thx) := hrow 0 _ rfl
                            have r1 : W3.cell? ⟨rb, pn * 13 + 1, none⟩ = some (.string tyx) := hrow 1 _ rfl
                            have r2 : W3.cell? ⟨rb, pn * 13 + 2, none⟩ = some (.int .i64 (lv lx 0)) := hrow 2 _ rfl
                            have r3 : W3.cell? ⟨rb, pn * 13 + 3, none⟩ = some (.int .i64 (lv lx 1)) := hrow 3 _ rfl
                            have r4 : W3.cell? ⟨rb, pn * 13 + 4, none⟩ = some (.int .i64 (lv lx 2)) := hrow 4 _ rfl
                            have r5 : W3.cell? ⟨rb, pn * 13 + 5, none⟩ = some (.int .i64 (lv lx 3)) := hrow 5 _ rfl
                            have r6 : W3.cell? ⟨rb, pn * 13 + 6, none⟩ = some (.int .i64 (lv lx 4)) := hrow 6 _ rfl
                            have r7 : W3.cell? ⟨rb, pn * 13 + 7, none⟩ = some (.int .i64 (lv lx 5)) := hrow 7 _ rfl
                            have r8 : W3.cell? ⟨rb, pn * 13 + 8, none⟩ = some (.int .i64 (lv lx 6)) := hrow 8 _ rfl
                            have r9 : W3.cell? ⟨rb, pn * 13 + 9, none⟩ = some (.int .i64 (lv lx 7)) := hrow 9 _ rfl
                            have r10 : W3.cell? ⟨rb, pn * 13 + 10, none⟩ = some (.int .i64 (lx.length : Int)) := hrow 10 _ rfl
                            have r11 : W3.cell? ⟨rb, pn * 13 + 11, none⟩ = some (.int .i64 hdx) := hrow 11 _ rfl
                            have r12 : W3.cell? ⟨rb, pn * 13 + 12, none⟩ = some (.slice ox (lx.length - 8) cx) := hrow 12 _ rfl
                            have HES := hide es
                            have hki : k = i := by omega
                            have hn1 : ((atSt ats (pn : Int)).there = true → sameV (atSt ats (pn : Int)) ⟨thu, tyu, lu, hdu⟩ = true) → noClash l ats (i + 1) := by
                              intro h2 j u hj hju
                              rcases Nat.lt_succ_iff_lt_or_eq.1 hj with h | rfl
                              · exact HNO.out j u h hju
                              · rw [HU.out] at hju
                                cases hju
                                exact ⟨fun m v hm hmv hvp => HI3.out m v (by omega) hmv hvp, h2⟩
                            have HN1 := hide hn1
                            have hsa : ∀ W', Below W3.heap.size W3 W' → Calls Try.prog 51 #[.agg #[.bool thx, .string tyx, .int .i64 (lv lx 0), .int .i64 (lv lx 1), .int .i64 (lv lx 2), .int .i64 (lv lx 3), .int .i64 (lv lx 4), .int .i64 (lv lx 5), .int .i64 (lv lx 6), .int .i64 (lv lx 7), .int .i64 (lx.length : Int), .int .i64 hdx, .slice ox (lx.length - 8) cx], .agg #[.bool thu, .string tyu, .int .i64 (lv lu 0), .int .i64 (lv lu 1), .int .i64 (lv lu 2), .int .i64 (lv lu 3), .int .i64 (lv lu 4), .int .i64 (lv lu 5), .int .i64 (lv lu 6), .int .i64 (lv lu 7), .int .i64 (lu.length : Int), .int .i64 hdu, .slice ou (lu.length - 8) cu]] W' fun en w' => en = .returned (.bool (sameV ⟨thx, tyx, lx, hdx⟩ ⟨thu, tyu, lu, hdu⟩)) ∧ Below W'.heap.size W' w' := fun W' hb => same_i W' _ _ ⟨thx, tyx, lx, hdx⟩ ⟨thu, tyu, lu, hdu⟩ ⟨ox, cx, rfl, hmx.below hb⟩ ⟨ou, cu, rfl, (HMU.out.below HB3.out).below hb⟩ (by simp only at hlx ⊢; omega) (HLEN.out i _ HU.out)
                            clear hn1 es hsx hmx hrow hki
                            have u5 := IntWalk.i64_in ((i : Int) + 1) (by omega)
                            cases thx
                            · as_aux_lemma =>
                                clear hsa
                                go_wp2_with fail
                                go_quiet (fail)
                                go_wp2_with fail
                                go_roundw
                                case rel => exact ⟨i + 1, by go_num, by omega, HN1.out (fun h => by rw [HES.out] at h; cases h), below_drewN HB3.out _⟩
                                case measure => simp [intOf]; omega
                            · cases hsm : sameV ⟨true, tyx, lx, hdx⟩ ⟨thu, tyu, lu, hdu⟩ with
                              | false =>
                                as_aux_lemma =>
                                  rw [hsm] at hsa
                                  have HSA := hide hsa
                                  have hcl := clash_here l ats HL2.out i _ HU.out (by rw [HES.out]) (by rw [HES.out]; exact hsm)
                                  have e : Lk = (94, ats) := by rw [HL3.out, hcl]; rfl
                                  subst e
                                  clear hsa hsm hcl
                                  go_wp2_with fail
                                  go_quiet (fail)
                                  go_wp2_with fail
                                  go_region_with (go_at_call 51
                                                  refine (HSA.out _ (by first | exact (below_drewN (Below.refl _ _) _).drew | exact (Below.refl _ _).drew | exact below_drewN (Below.refl _ _) _)).mono ?_
                                                  rintro en w9 ⟨rfl, hb9⟩
                                                  have HB9 := hide ((below_drewN HB3.out nq).drew.trans (hb9.mono (below_drewN HB3.out nq).drew.size))
                                                  clear hb9)
                                  all_goals
                                    go_wp2_with fail
                                    try rw [Exit.noGoto_ret]
                                    go_ret
                                    exact ⟨rfl, HE8.out _ HB9.out⟩
                              | true =>
                                as_aux_lemma =>
                                  rw [hsm] at hsa
                                  have HSA := hide hsa
                                  have HSM := hide hsm
                                  clear hsa hsm
                                  go_wp2_with fail
                                  go_quiet (fail)
                                  go_wp2_with fail
                                  go_region_with (go_at_call 51
                                                  refine (HSA.out _ (by first | exact (below_drewN (Below.refl _ _) _).drew | exact (Below.refl _ _).drew | exact below_drewN (Below.refl _ _) _)).mono ?_
                                                  rintro en w9 ⟨rfl, hb9⟩
                                                  have HB9 := hide ((below_drewN HB3.out nq).drew.trans (hb9.mono (below_drewN HB3.out nq).drew.size))
                                                  clear hb9)
                                  all_goals
                                    go_wp2_with fail
                                    go_roundw
                                    case rel => exact ⟨i + 1, by go_num, by omega, HN1.out (fun h => by rw [HES.out]; exact HSM.out), HB9.out⟩
                                    case measure => simp [intOf]; omega
                      · have hil : i = l.length := by omega
                        as_aux_lemma =>
                          have hno : noClash l ats l.length := by rw [← hil]; exact HNO.out
                          have hcl := clash_false l ats HL2.out hno
                          have e : Lk = (0, l.foldl putSt ats) := by rw [HL3.out, hcl]; rfl
                          subst e
                          have hst := HE8.out _ HBW.out
                          have hwy : Wy W (.slice oy l.length cy) l := by
                            obtain ⟨⟨cs, hcs, _⟩, _⟩ := (HE8.out _ (Below.refl _ _)).1.r
                            exact Wy.only ⟨oy, cy, rfl, hcy, HY.out⟩ (Only.of_new HBW.out) hcs
                          have HST := hide hst
                          have HWY := hide hwy
                          clear hno hcl hst hwy hil
                          go_wp2_with fail
                          go_loopw [141] (fun tx W4 => ∃ i : Nat, tx = .int .i64 (i : Int) ∧ i ≤ l.length ∧ VMem W4 vb rb p P ((l.take i).foldl putSt ats) ∧ Only (fun k => k = rb) w W4 ∧ Wy W4 (.slice oy l.length cy) l) (fun tx _ => l.length - (intOf tx).toNat)
                          case atStart => exact ⟨0, rfl, Nat.zero_le _, HST.out.1, HST.out.2, HWY.out⟩
                          case round =>
                            clear HBW HST HWY
                            obtain ⟨i, rfl, hi, hvm, hon, hwy⟩ := hrel
                            rename World => W
                            have u1 := IntWalk.i64_in ((i : Int) + 1) (by have := HL2.out; omega)
                            by_cases hlt : i < l.length
                            · as_aux_lemma =>
                                obtain ⟨u, hu⟩ : ∃ u, l[i]? = some u := ⟨_, List.getElem?_eq_getElem hlt⟩
                                have hwy0 := hwy
                                obtain ⟨oz, cz, ez, _, hz⟩ := hwy
                                obtain rfl : oz = oy := by injection ez with e _ _; exact e.symm
                                obtain ⟨gy, rfl, hgy, ⟨ou, cu, hmu, hw0, hwr⟩, csy, hby⟩ := hz i u hu
                                have hpu := HPOS.out u (List.mem_of_getElem? hu)
                                obtain ⟨pl, thu, tyu, lu, hdu⟩ := u
                                obtain ⟨pn, rfl⟩ := Int.eq_ofNat_of_zero_le hpu.1
                                have hpn : pn < P.cd.length := by have := hpu.2; simpa using this
                                have y0 : W.cell? ⟨gy, i * 14, none⟩ = some (.int .i64 (pn : Int)) := hw0
                                have y1 : W.cell? ⟨gy, i * 14 + 1, none⟩ = some (.bool thu) := hwr 0 _ rfl
                                have y2 : W.cell? ⟨gy, i * 14 + 2, none⟩ = some (.string tyu) := hwr 1 _ rfl
                                have y3 : W.cell? ⟨gy, i * 14 + 3, none⟩ = some (.int .i64 (lv lu 0)) := hwr 2 _ rfl
                                have y4 : W.cell? ⟨gy, i * 14 + 4, none⟩ = some (.int .i64 (lv lu 1)) := hwr 3 _ rfl
                                have y5 : W.cell? ⟨gy, i * 14 + 5, none⟩ = some (.int .i64 (lv lu 2)) := hwr 4 _ rfl
                                have y6 : W.cell? ⟨gy, i * 14 + 6, none⟩ = some (.int .i64 (lv lu 3)) := hwr 5 _ rfl
                                have y7 : W.cell? ⟨gy, i * 14 + 7, none⟩ = some (.int .i64 (lv lu 4)) := hwr 6 _ rfl
                                have y8 : W.cell? ⟨gy, i * 14 + 8, none⟩ = some (.int .i64 (lv lu 5)) := hwr 7 _ rfl
                                have y9 : W.cell? ⟨gy, i * 14 + 9, none⟩ = some (.int .i64 (lv lu 6)) := hwr 8 _ rfl
                                have y10 : W.cell? ⟨gy, i * 14 + 10, none⟩ = some (.int .i64 (lv lu 7)) := hwr 9 _ rfl
                                have y11 : W.cell? ⟨gy, i * 14 + 11, none⟩ = some (.int .i64 (lu.length : Int)) := hwr 10 _ rfl
                                have y12 : W.cell? ⟨gy, i * 14 + 12, none⟩ = some (.int .i64 hdu) := hwr 11 _ rfl
                                have y13 : W.cell? ⟨gy, i * 14 + 13, none⟩ = some (.slice ou (lu.length - 8) cu) := hwr 12 _ rfl
                                have HVMo := hide hvm
                                have HONo := hide hon
                                have HWYo := hide hwy0
                                have HMUo := hide hmu
                                have HUo := hide hu
                                clear hvm hon hwy0 hmu hu hw0 hwr hpu hz hby
                                go_wp2_with fail
                                clear y0 y1 y2 y3 y4 y5 y6 y7 y8 y9 y10 y11 y12 y13
                                have hvm := HVMo.out
                                have hon := HONo.out
                                have hwy0 := HWYo.out
                                have hmu := HMUo.out
                                have hu := HUo.out
                                have hr := hvm.r
                                obtain ⟨⟨cs, hcs, hsz⟩, _⟩ := hvm.r
                                have hlen := hvm.len
                                have hbT : Below W.heap.size W (W.alloc (.cells #[.int .i64 (pn : Int), .bool true, .string tyu, .int .i64 (lv lu 0), .int .i64 (lv lu 1), .int .i64 (lv lu 2), .int .i64 (lv lu 3), .int .i64 (lv lu 4), .int .i64 (lv lu 5), .int .i64 (lv lu 6), .int .i64 (lv lu 7), .int .i64 (lu.length : Int), .int .i64 hdu, .slice ou (lu.length - 8) cu] 108)) := (Below.refl _ W).alloc (Nat.le_refl _) _
                                have hnew : Blk (W.alloc (.cells #[.int .i64 (pn : Int), .bool true, .string tyu, .int .i64 (lv lu 0), .int .i64 (lv lu 1), .int .i64 (lv lu 2), .int .i64 (lv lu 3), .int .i64 (lv lu 4), .int .i64 (lv lu 5), .int .i64 (lv lu 6), .int .i64 (lv lu 7), .int .i64 (lu.length : Int), .int .i64 hdu, .slice ou (lu.length - 8) cu] 108)) W.heap.size 108 _ := Blk.new W 108 _
                                have v6 : (W.alloc (.cells #[.int .i64 (pn : Int), .bool true, .string tyu, .int .i64 (lv lu 0), .int .i64 (lv lu 1), .int .i64 (lv lu 2), .int .i64 (lv lu 3), .int .i64 (lv lu 4), .int .i64 (lv lu 5), .int .i64 (lv lu 6), .int .i64 (lv lu 7), .int .i64 (lu.length : Int), .int .i64 hdu, .slice ou (lu.length - 8) cu] 108)).cell? ⟨vb, 6, none⟩ = some (.slice (some ⟨rb, 0, none⟩) P.cd.length P.cd.length) := by have := hvm.below ((Below.refl _ W).alloc (Nat.le_refl _) (.cells #[.int .i64 (pn : Int), .bool true, .string tyu, .int .i64 (lv lu 0), .int .i64 (lv lu 1), .int .i64 (lv lu 2), .int .i64 (lv lu 3), .int .i64 (lv lu 4), .int .i64 (lv lu 5), .int .i64 (lv lu 6), .int .i64 (lv lu 7), .int .i64 (lu.length : Int), .int .i64 hdu, .slice ou (lu.length - 8) cu] 108)); rw [this.v.cell, ← hvm.len]; rfl
                                have kr : Blk (W.alloc (.cells #[.int .i64 (pn : Int), .bool true, .string tyu, .int .i64 (lv lu 0), .int .i64 (lv lu 1), .int .i64 (lv lu 2), .int .i64 (lv lu 3), .int .i64 (lv lu 4), .int .i64 (lv lu 5), .int .i64 (lv lu 6), .int .i64 (lv lu 7), .int .i64 (lu.length : Int), .int .i64 hdu, .slice ou (lu.length - 8) cu] 108)) rb 74 cs := hcs.alloc _
                                have hcs13 : pn * 13 + 12 < cs.size := by rw [hsz, hlen]; omega
                                have c0 : (W.alloc (.cells #[.int .i64 (pn : Int), .bool true, .string tyu, .int .i64 (lv lu 0), .int .i64 (lv lu 1), .int .i64 (lv lu 2), .int .i64 (lv lu 3), .int .i64 (lv lu 4), .int .i64 (lv lu 5), .int .i64 (lv lu 6), .int .i64 (lv lu 7), .int .i64 (lu.length : Int), .int .i64 hdu, .slice ou (lu.length - 8) cu] 108)).cell? ⟨W.heap.size, 0, none⟩ = some (.int .i64 (pn : Int)) := by rw [hnew.cell]; rfl
                                have c1 : (W.alloc (.cells #[.int .i64 (pn : Int), .bool true, .string tyu, .int .i64 (lv lu 0), .int .i64 (lv lu 1), .int .i64 (lv lu 2), .int .i64 (lv lu 3), .int .i64 (lv lu 4), .int .i64 (lv lu 5), .int .i64 (lv lu 6), .int .i64 (lv lu 7), .int .i64 (lu.length : Int), .int .i64 hdu, .slice ou (lu.length - 8) cu] 108)).cell? ⟨W.heap.size, 1, none⟩ = some (.bool true) := by rw [hnew.cell]; rfl
                                have c2 : (W.alloc (.cells #[.int .i64 (pn : Int), .bool true, .string tyu, .int .i64 (lv lu 0), .int .i64 (lv lu 1), .int .i64 (lv lu 2), .int .i64 (lv lu 3), .int .i64 (lv lu 4), .int .i64 (lv lu 5), .int .i64 (lv lu 6), .int .i64 (lv lu 7), .int .i64 (lu.length : Int), .int .i64 hdu, .slice ou (lu.length - 8) cu] 108)).cell? ⟨W.heap.size, 2, none⟩ = some (.string tyu) := by rw [hnew.cell]; rfl
                                have c3 : (W.alloc (.cells #[.int .i64 (pn : Int), .bool true, .string tyu, .int .i64 (lv lu 0), .int .i64 (lv lu 1), .int .i64 (lv lu 2), .int .i64 (lv lu 3), .int .i64 (lv lu 4), .int .i64 (lv lu 5), .int .i64 (lv lu 6), .int .i64 (lv lu 7), .int .i64 (lu.length : Int), .int .i64 hdu, .slice ou (lu.length - 8) cu] 108)).cell? ⟨W.heap.size, 3, none⟩ = some (.int .i64 (lv lu 0)) := by rw [hnew.cell]; rfl
                                have c4 : (W.alloc (.cells #[.int .i64 (pn : Int), .bool true, .string tyu, .int .i64 (lv lu 0), .int .i64 (lv lu 1), .int .i64 (lv lu 2), .int .i64 (lv lu 3), .int .i64 (lv lu 4), .int .i64 (lv lu 5), .int .i64 (lv lu 6), .int .i64 (lv lu 7), .int .i64 (lu.length : Int), .int .i64 hdu, .slice ou (lu.length - 8) cu] 108)).cell? ⟨W.heap.size, 4, none⟩ = some (.int .i64 (lv lu 1)) := by rw [hnew.cell]; rfl
                                have c5 : (W.alloc (.cells #[.int .i64 (pn : Int), .bool true, .string tyu, .int .i64 (lv lu 0), .int .i64 (lv lu 1), .int .i64 (lv lu 2), .int .i64 (lv lu 3), .int .i64 (lv lu 4), .int .i64 (lv lu 5), .int .i64 (lv lu 6), .int .i64 (lv lu 7), .int .i64 (lu.length : Int), .int .i64 hdu, .slice ou (lu.length - 8) cu] 108)).cell? ⟨W.heap.size, 5, none⟩ = some (.int .i64 (lv lu 2)) := by rw [hnew.cell]; rfl
                                have c6 : (W.alloc (.cells #[.int .i64 (pn : Int), .bool true, .string tyu, .int .i64 (lv lu 0), .int .i64 (lv lu 1), .int .i64 (lv lu 2), .int .i64 (lv lu 3), .int .i64 (lv lu 4), .int .i64 (lv lu 5), .int .i64 (lv lu 6), .int .i64 (lv lu 7), .int .i64 (lu.length : Int), .int .i64 hdu, .slice ou (lu.length - 8) cu] 108)).cell? ⟨W.heap.size, 6, none⟩ = some (.int .i64 (lv lu 3)) := by rw [hnew.cell]; rfl
                                have c7 : (W.alloc (.cells #[.int .i64 (pn : Int), .bool true, .string tyu, .int .i64 (lv lu 0), .int .i64 (lv lu 1), .int .i64 (lv lu 2), .int .i64 (lv lu 3), .int .i64 (lv lu 4), .int .i64 (lv lu 5), .int .i64 (lv lu 6), .int .i64 (lv lu 7), .int .i64 (lu.length : Int), .int .i64 hdu, .slice ou (lu.length - 8) cu] 108)).cell? ⟨W.heap.size, 7, none⟩ = some (.int .i64 (lv lu 4)) := by rw [hnew.cell]; rfl
                                have c8 : (W.alloc (.cells #[.int .i64 (pn : Int), .bool true, .string tyu, .int .i64 (lv lu 0), .int .i64 (lv lu 1), .int .i64 (lv lu 2), .int .i64 (lv lu 3), .int .i64 (lv lu 4), .int .i64 (lv lu 5), .int .i64 (lv lu 6), .int .i64 (lv lu 7), .int .i64 (lu.length : Int), .int .i64 hdu, .slice ou (lu.length - 8) cu] 108)).cell? ⟨W.heap.size, 8, none⟩ = some (.int .i64 (lv lu 5)) := by rw [hnew.cell]; rfl
                                have c9 : (W.alloc (.cells #[.int .i64 (pn : Int), .bool true, .string tyu, .int .i64 (lv lu 0), .int .i64 (lv lu 1), .int .i64 (lv lu 2), .int .i64 (lv lu 3), .int .i64 (lv lu 4), .int .i64 (lv lu 5), .int .i64 (lv lu 6), .int .i64 (lv lu 7), .int .i64 (lu.length : Int), .int .i64 hdu, .slice ou (lu.length - 8) cu] 108)).cell? ⟨W.heap.size, 9, none⟩ = some (.int .i64 (lv lu 6)) := by rw [hnew.cell]; rfl
                                have c10 : (W.alloc (.cells #[.int .i64 (pn : Int), .bool true, .string tyu, .int .i64 (lv lu 0), .int .i64 (lv lu 1), .int .i64 (lv lu 2), .int .i64 (lv lu 3), .int .i64 (lv lu 4), .int .i64 (lv lu 5), .int .i64 (lv lu 6), .int .i64 (lv lu 7), .int .i64 (lu.length : Int), .int .i64 hdu, .slice ou (lu.length - 8) cu] 108)).cell? ⟨W.heap.size, 10, none⟩ = some (.int .i64 (lv lu 7)) := by rw [hnew.cell]; rfl
                                have c11 : (W.alloc (.cells #[.int .i64 (pn : Int), .bool true, .string tyu, .int .i64 (lv lu 0), .int .i64 (lv lu 1), .int .i64 (lv lu 2), .int .i64 (lv lu 3), .int .i64 (lv lu 4), .int .i64 (lv lu 5), .int .i64 (lv lu 6), .int .i64 (lv lu 7), .int .i64 (lu.length : Int), .int .i64 hdu, .slice ou (lu.length - 8) cu] 108)).cell? ⟨W.heap.size, 11, none⟩ = some (.int .i64 (lu.length : Int)) := by rw [hnew.cell]; rfl
                                have c12 : (W.alloc (.cells #[.int .i64 (pn : Int), .bool true, .string tyu, .int .i64 (lv lu 0), .int .i64 (lv lu 1), .int .i64 (lv lu 2), .int .i64 (lv lu 3), .int .i64 (lv lu 4), .int .i64 (lv lu 5), .int .i64 (lv lu 6), .int .i64 (lv lu 7), .int .i64 (lu.length : Int), .int .i64 hdu, .slice ou (lu.length - 8) cu] 108)).cell? ⟨W.heap.size, 12, none⟩ = some (.int .i64 hdu) := by rw [hnew.cell]; rfl
                                have c13 : (W.alloc (.cells #[.int .i64 (pn : Int), .bool true, .string tyu, .int .i64 (lv lu 0), .int .i64 (lv lu 1), .int .i64 (lv lu 2), .int .i64 (lv lu 3), .int .i64 (lv lu 4), .int .i64 (lv lu 5), .int .i64 (lv lu 6), .int .i64 (lv lu 7), .int .i64 (lu.length : Int), .int .i64 hdu, .slice ou (lu.length - 8) cu] 108)).cell? ⟨W.heap.size, 13, none⟩ = some (.slice ou (lu.length - 8) cu) := by rw [hnew.cell]; rfl
                                have hon2 : Only (fun k => k = rb) w (putAt (W.alloc (.cells #[.int .i64 (pn : Int), .bool true, .string tyu, .int .i64 (lv lu 0), .int .i64 (lv lu 1), .int .i64 (lv lu 2), .int .i64 (lv lu 3), .int .i64 (lv lu 4), .int .i64 (lv lu 5), .int .i64 (lv lu 6), .int .i64 (lv lu 7), .int .i64 (lu.length : Int), .int .i64 hdu, .slice ou (lu.length - 8) cu] 108)) rb pn (.bool true) (.string tyu) (.int .i64 (lv lu 0)) (.int .i64 (lv lu 1)) (.int .i64 (lv lu 2)) (.int .i64 (lv lu 3)) (.int .i64 (lv lu 4)) (.int .i64 (lv lu 5)) (.int .i64 (lv lu 6)) (.int .i64 (lv lu 7)) (.int .i64 (lu.length : Int)) (.int .i64 hdu) (.slice ou (lu.length - 8) cu)).drew := ((hon.alloc _).trans (putAt_only _ _ _ _ _ _ _ _ _ _ _ _ _ _ _ _)).drew
                                have hrw : AtRow (putAt (W.alloc (.cells #[.int .i64 (pn : Int), .bool true, .string tyu, .int .i64 (lv lu 0), .int .i64 (lv lu 1), .int .i64 (lv lu 2), .int .i64 (lv lu 3), .int .i64 (lv lu 4), .int .i64 (lv lu 5), .int .i64 (lv lu 6), .int .i64 (lv lu 7), .int .i64 (lu.length : Int), .int .i64 hdu, .slice ou (lu.length - 8) cu] 108)) rb pn (.bool true) (.string tyu) (.int .i64 (lv lu 0)) (.int .i64 (lv lu 1)) (.int .i64 (lv lu 2)) (.int .i64 (lv lu 3)) (.int .i64 (lv lu 4)) (.int .i64 (lv lu 5)) (.int .i64 (lv lu 6)) (.int .i64 (lv lu 7)) (.int .i64 (lu.length : Int)) (.int .i64 hdu) (.slice ou (lu.length - 8) cu)).drew rb (((l.take i).foldl putSt ats).set pn ⟨true, tyu, lu, hdu⟩) := (put_row (hr.below hbT) (by rw [hlen]; exact hpn) ⟨true, tyu, lu, hdu⟩ ou cu (hmu.below hbT)).below (Below.refl _ _).drew
                                have hvb0 : Blk (putAt (W.alloc (.cells #[.int .i64 (pn : Int), .bool true, .string tyu, .int .i64 (lv lu 0), .int .i64 (lv lu 1), .int .i64 (lv lu 2), .int .i64 (lv lu 3), .int .i64 (lv lu 4), .int .i64 (lv lu 5), .int .i64 (lv lu 6), .int .i64 (lv lu 7), .int .i64 (lu.length : Int), .int .i64 hdu, .slice ou (lu.length - 8) cu] 108)) rb pn (.bool true) (.string tyu) (.int .i64 (lv lu 0)) (.int .i64 (lv lu 1)) (.int .i64 (lv lu 2)) (.int .i64 (lv lu 3)) (.int .i64 (lv lu 4)) (.int .i64 (lv lu 5)) (.int .i64 (lv lu 6)) (.int .i64 (lv lu 7)) (.int .i64 (lu.length : Int)) (.int .i64 hdu) (.slice ou (lu.length - 8) cu)) vb 71 _ := (only_ty (putAt_only _ _ _ _ _ _ _ _ _ _ _ _ _ _ _ _) (hcs.below hbT hcs.lt) (hvm.v.below hbT hvm.v.lt) (by decide)).trans (hvm.v.below hbT hvm.v.lt)
                                have hvb : Blk (putAt (W.alloc (.cells #[.int .i64 (pn : Int), .bool true, .string tyu, .int .i64 (lv lu 0), .int .i64 (lv lu 1), .int .i64 (lv lu 2), .int .i64 (lv lu 3), .int .i64 (lv lu 4), .int .i64 (lv lu 5), .int .i64 (lv lu 6), .int .i64 (lv lu 7), .int .i64 (lu.length : Int), .int .i64 hdu, .slice ou (lu.length - 8) cu] 108)) rb pn (.bool true) (.string tyu) (.int .i64 (lv lu 0)) (.int .i64 (lv lu 1)) (.int .i64 (lv lu 2)) (.int .i64 (lv lu 3)) (.int .i64 (lv lu 4)) (.int .i64 (lv lu 5)) (.int .i64 (lv lu 6)) (.int .i64 (lv lu 7)) (.int .i64 (lu.length : Int)) (.int .i64 hdu) (.slice ou (lu.length - 8) cu)).drew vb 71 _ := Blk.drew (t := 71) hvb0
                                have htk : (l.take (i + 1)).foldl putSt ats = ((l.take i).foldl putSt ats).set pn ⟨true, tyu, lu, hdu⟩ := by rw [List.take_add_one, hu]; simp [putSt]
                                have hvm2 : VMem (putAt (W.alloc (.cells #[.int .i64 (pn : Int), .bool true, .string tyu, .int .i64 (lv lu 0), .int .i64 (lv lu 1), .int .i64 (lv lu 2), .int .i64 (lv lu 3), .int .i64 (lv lu 4), .int .i64 (lv lu 5), .int .i64 (lv lu 6), .int .i64 (lv lu 7), .int .i64 (lu.length : Int), .int .i64 hdu, .slice ou (lu.length - 8) cu] 108)) rb pn (.bool true) (.string tyu) (.int .i64 (lv lu 0)) (.int .i64 (lv lu 1)) (.int .i64 (lv lu 2)) (.int .i64 (lv lu 3)) (.int .i64 (lv lu 4)) (.int .i64 (lv lu 5)) (.int .i64 (lv lu 6)) (.int .i64 (lv lu 7)) (.int .i64 (lu.length : Int)) (.int .i64 hdu) (.slice ou (lu.length - 8) cu)).drew vb rb p P ((l.take (i + 1)).foldl putSt ats) := by
                                  rw [htk]
                                  refine ⟨HFAR.out _ hon2, ?_, hrw, by rw [List.length_set]; exact hlen⟩
                                  rw [List.length_set]
                                  exact hvb
                                have hwy2 : Wy (putAt (W.alloc (.cells #[.int .i64 (pn : Int), .bool true, .string tyu, .int .i64 (lv lu 0), .int .i64 (lv lu 1), .int .i64 (lv lu 2), .int .i64 (lv lu 3), .int .i64 (lv lu 4), .int .i64 (lv lu 5), .int .i64 (lv lu 6), .int .i64 (lv lu 7), .int .i64 (lu.length : Int), .int .i64 hdu, .slice ou (lu.length - 8) cu] 108)) rb pn (.bool true) (.string tyu) (.int .i64 (lv lu 0)) (.int .i64 (lv lu 1)) (.int .i64 (lv lu 2)) (.int .i64 (lv lu 3)) (.int .i64 (lv lu 4)) (.int .i64 (lv lu 5)) (.int .i64 (lv lu 6)) (.int .i64 (lv lu 7)) (.int .i64 (lu.length : Int)) (.int .i64 hdu) (.slice ou (lu.length - 8) cu)).drew (.slice (some ⟨gy, 0, none⟩) l.length cy) l := (hwy0.only (Only.of_new hbT) hcs).only (putAt_only _ _ _ _ _ _ _ _ _ _ _ _ _ _ _ _).drew (hcs.below hbT hcs.lt)
                                have HON2 := hide hon2
                                have HVM2 := hide hvm2
                                have HWY2 := hide hwy2
                                clear hvm hon hwy0 hr hlen hbT hcs hon2 hrw hvb hvb0 htk hvm2 hwy2 hu hmu hsz hnew HVMo HONo HWYo HMUo HUo
                                generalize (W.alloc (.cells #[.int .i64 (pn : Int), .bool true, .string tyu, .int .i64 (lv lu 0), .int .i64 (lv lu 1), .int .i64 (lv lu 2), .int .i64 (lv lu 3), .int .i64 (lv lu 4), .int .i64 (lv lu 5), .int .i64 (lv lu 6), .int .i64 (lv lu 7), .int .i64 (lu.length : Int), .int .i64 hdu, .slice ou (lu.length - 8) cu] 108)) = W2 at *
                                have kr2 : Blk W2 rb 74 cs := kr
                                clear kr
                                refine wp_region_still_tail 9 (by kernel_rfl) (by kernel_rfl) ?_
                                simp only [List.take_succ_cons, List.take_zero, List.drop_succ_cons, List.drop_zero]
                                change wpStill _ _ W2.drew _ _ _
                                repeat still_step
                                refine wpStill_nil ?_
                                change wpList _ _ _ _ _ W2.drew
                                refine wpList_put13 rfl (.tmp 155) (.tmp 154) rfl rfl kr2.drew hcs13 _ _ _ _ _ _ _ _ _ _ _ _ _ rfl rfl (by simp [Value.oneCell']) ?_
                                have HVM3 : Hid (VMem (putAt W2.drew rb pn (.bool true) (.string tyu) (.int .i64 (lv lu 0)) (.int .i64 (lv lu 1)) (.int .i64 (lv lu 2)) (.int .i64 (lv lu 3)) (.int .i64 (lv lu 4)) (.int .i64 (lv lu 5)) (.int .i64 (lv lu 6)) (.int .i64 (lv lu 7)) (.int .i64 (lu.length : Int)) (.int .i64 hdu) (.slice ou (lu.length - 8) cu)) vb rb p P ((l.take (i + 1)).foldl putSt ats)) := hide (by have := HVM2.out; rw [putAt_drew] at this; exact this)
                                have HON3 : Hid (Only (fun k => k = rb) w (putAt W2.drew rb pn (.bool true) (.string tyu) (.int .i64 (lv lu 0)) (.int .i64 (lv lu 1)) (.int .i64 (lv lu 2)) (.int .i64 (lv lu 3)) (.int .i64 (lv lu 4)) (.int .i64 (lv lu 5)) (.int .i64 (lv lu 6)) (.int .i64 (lv lu 7)) (.int .i64 (lu.length : Int)) (.int .i64 hdu) (.slice ou (lu.length - 8) cu))) := hide (by have := HON2.out; rw [putAt_drew] at this; exact this)
                                have HWY3 : Hid (Wy (putAt W2.drew rb pn (.bool true) (.string tyu) (.int .i64 (lv lu 0)) (.int .i64 (lv lu 1)) (.int .i64 (lv lu 2)) (.int .i64 (lv lu 3)) (.int .i64 (lv lu 4)) (.int .i64 (lv lu 5)) (.int .i64 (lv lu 6)) (.int .i64 (lv lu 7)) (.int .i64 (lu.length : Int)) (.int .i64 hdu) (.slice ou (lu.length - 8) cu)) (.slice (some ⟨gy, 0, none⟩) l.length cy) l) := hide (by have := HWY2.out; rw [putAt_drew] at this; exact this)
                                clear kr2 HVM2 HON2 HWY2 v6 c0 c1 c2 c3 c4 c5 c6 c7 c8 c9 c10 c11 c12 c13
                                generalize (putAt W2.drew rb pn (.bool true) (.string tyu) (.int .i64 (lv lu 0)) (.int .i64 (lv lu 1)) (.int .i64 (lv lu 2)) (.int .i64 (lv lu 3)) (.int .i64 (lv lu 4)) (.int .i64 (lv lu 5)) (.int .i64 (lv lu 6)) (.int .i64 (lv lu 7)) (.int .i64 (lu.length : Int)) (.int .i64 hdu) (.slice ou (lu.length - 8) cu)) = Wz at *
                                clear W2
                                go_wp2_with fail
                                go_roundw
                                case rel => exact ⟨i + 1, by go_num, by omega, HVM3.out, HON3.out, HWY3.out⟩
                                case measure => simp [intOf]; omega
                            · as_aux_lemma =>
                                have hil : i = l.length := by omega
                                have hvm2 : VMem W vb rb p P (l.foldl putSt ats) := by rw [hil, List.take_length] at hvm; exact hvm
                                have HVM2 := hide hvm2
                                have HON := hide hon
                                clear hvm hon hwy hvm2
                                go_wp2_with fail
                                try rw [Exit.noGoto_ret]
                                go_ret
                                exact ⟨rfl, HVM2.out, HON.out⟩
        · as_aux_lemma =>
            have he2 : (e1 != 0) = true := by simpa using he
            have HE := hide he
            clear he
            go_wp2_with fail
            have e : Lk = (e1, ats) := by rw [← HLK.out]; simp [lookV, HHH.out, HT.out, HE.out]
            subst e
            try rw [Exit.noGoto_ret]
            go_ret
            exact ⟨rfl, HED.out _ HB.out⟩
end Go.Proofs.Ytjflllfkgbhemaa
