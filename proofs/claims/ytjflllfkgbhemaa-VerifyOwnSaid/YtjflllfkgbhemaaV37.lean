/- The walk of verify's Heights. Conditions: the program lies in memory. -/
import Derived.Test.YtjflllfkgbhemaaV36
namespace Go.Proofs.Ytjflllfkgbhemaa
open Go.RowKit
def htsV (ats : List St) : List Int := ats.map fun s => (s.ty.size : Int)
/-- the heights that are told -/
def HtsAre (B : Nat) (w : World) (v : Value) (P : Prg) : Prop :=
  ((runV P).1 ≠ 0 → v = .slice none 0 0) ∧
  ((runV P).1 = 0 → w.ownsRow B 3 1 v P.cd.length (ints (htsV (runV P).2.2)) ∧ (runV P).2.2.length = P.cd.length)
theorem ver6 {w : World} {vb rb : Nat} {p : PV} {P : Prg} {ats : List St} (h : VMem w vb rb p P ats) : w.cell? ⟨vb, 6, none⟩ = some (.slice (some ⟨rb, 0, none⟩) P.cd.length P.cd.length) := by
  have := h.v.cell 6
  rw [← h.len]
  exact this
theorem ver6b {w : World} {vb rb : Nat} {p : PV} {P : Prg} {ats : List St} (h : VMem w vb rb p P ats) (o o1 : Obj) : ((w.alloc o).alloc o1).cell? ⟨vb, 6, none⟩ = some (.slice (some ⟨rb, 0, none⟩) P.cd.length P.cd.length) :=
  (World.cell?_alloc_lt (w.alloc o) o1 _ (by have := h.v.lt; simp; omega)).trans ((World.cell?_alloc_lt w o _ (by exact h.v.lt)).trans (ver6 h))
theorem one_cell2 (w : World) (o : Obj) (x : Value) : ∀ j u, [x][j]? = some u → ((w.alloc o).alloc (.cells #[x] 3)).cell? ((⟨w.heap.size + 1, 0, none⟩ : Addr).add j) = some u := by
  have := one_cell (w.alloc o) x
  simpa using this
theorem hts_take {ats : List St} {i : Nat} {s : St} (h : ats[i]? = some s) : ints (htsV (ats.take (i + 1))) = ints (htsV (ats.take i)) ++ [.int .i64 (s.ty.size : Int)] := by
  rw [List.take_add_one, h]
  simp [ints, htsV]
theorem checkV_lens {P : Prg} (h : (runV P).1 = 0) : P.os.length ≤ 16 ∧ P.cd.length ≤ 262144 := by
  by_cases h0 : checkV P = 0
  · have := check_len h0
    exact ⟨this.1, this.2.1⟩
  · unfold runV at h
    rw [if_pos h0] at h
    simp at h
    exact absurd h (by omega)
set_option maxRecDepth 100000 in
set_option maxHeartbeats 8000000 in
theorem verifyHeights_i (w : World) (p : PV) (P : Prg) (h : PMem w p P) (hov : Mv w p.oa p.oc P.os) :
    Calls Try.prog 17 #[p.val] w fun en w' => ∃ v, en = .returned (.tuple #[v, .agg #[.int .i64 (runV P).1, .int .i64 (runV P).2.1]]) ∧ HtsAre w.heap.size w' v P ∧ Below w.heap.size w w' := by
  have hres : Try.f17.results = #[.tmp 2, .cell 3 35] := by kernel_rfl
  have hrun := fun (W : World) (hb : Below w.heap.size w W) => hide (run_all W p P (h.below hb) (hov.below hb))
  obtain ⟨ga, va, ta, oa, ca, gl, gc, vl, vc, tl, tc, ol, oc, cl, cc, miss⟩ := p
  simp only [PV.val] at *
  have hB : Below w.heap.size w ((w.alloc (.cells #[.slice ga gl gc, .slice va vl vc, .slice ta tl tc, .slice oa ol oc, .int .i64 miss, .slice ca cl cc] 28)).alloc (.cells #[.int .i64 0, .int .i64 0] 35)) := ((Below.refl _ w).alloc (Nat.le_refl _) _).alloc (by simp) _
  have hF : Blk ((w.alloc (.cells #[.slice ga gl gc, .slice va vl vc, .slice ta tl tc, .slice oa ol oc, .int .i64 miss, .slice ca cl cc] 28)).alloc (.cells #[.int .i64 0, .int .i64 0] 35)) (w.heap.size + 1) 35 #[.int .i64 0, .int .i64 0] := by
    have := Blk.new (w.alloc (.cells #[.slice ga gl gc, .slice va vl vc, .slice ta tl tc, .slice oa ol oc, .int .i64 miss, .slice ca cl cc] 28)) 35 #[.int .i64 0, .int .i64 0]
    simpa using this
  have HB := hide hB
  have HF := hide hF
  have HR := hide (hrun _ hB).out
  clear hB hF hrun h hov
  obtain ⟨i3, hi3, hz0, hz1, hz2⟩ := info_parts info3
  obtain ⟨e, he⟩ : ∃ e, e = (runV P).1 := ⟨_, rfl⟩
  have hat : e = 0 → (runV P).2.1 = 0 := fun h0 => runV_zero (he ▸ h0)
  have hl := fun h0 : e = 0 => checkV_lens (P := P) (he ▸ h0)
  rw [← he] at HR
  rw [← he]
  have HE := hide he
  clear he
  generalize hat_ : (runV P).2.1 = at_ at *
  by_cases h0 : e = 0
  · obtain ⟨hl1, hl2⟩ := hl h0
    have ha0 := hat h0
    clear hat hl hat_
    subst ha0
    subst h0
    go_enter Try.func17, Try.ntmps17
    go_wp2_with (go_at_call 26
                 refine HR.out.mono ?_
                 rintro en w4 ⟨pa, oa, n, c, m, rfl, hc, hb, hv0⟩
                 obtain ⟨vb, rb, rfl, hv⟩ := hv0 rfl
                 clear hv0
                 have HF := hide (HF.out.below hb HF.out.lt)
                 have HB := hide (HB.out.trans (hb.mono HB.out.size))
                 have HV := hide hv
                 have v6 := ver6 hv
                 have v6b := ver6b hv
                 clear hc hb hv)
    clear v6 v6b
    have hb5 : Below w.heap.size w ((w4.alloc (.cells #[.slice oa n c, .int .i64 m] 32)).alloc (.cells #[.int .i64 0, .int .i64 0] 35)) := (HB.out.alloc HB.out.size _).alloc (by have := HB.out.size; simp; omega) _
    have hvm : VMem ((w4.alloc (.cells #[.slice oa n c, .int .i64 m] 32)).alloc (.cells #[.int .i64 0, .int .i64 0] 35)) vb rb ⟨ga, va, ta, _, ca, gl, gc, vl, vc, tl, tc, ol, oc, cl, cc, miss⟩ P (runV P).2.2 := HV.out.below (((Below.refl _ w4).alloc (Nat.le_refl _) _).alloc (by simp) _)
    have kF := (HF.out.alloc (.cells #[.slice oa n c, .int .i64 m] 32)).alloc (.cells #[.int .i64 0, .int .i64 0] 35)
    have HB5 := hide hb5
    have HVM := hide hvm
    have HKF := hide kF
    clear hb5 hvm kF
    obtain ⟨ats, hats⟩ : ∃ ats, ats = (runV P).2.2 := ⟨_, rfl⟩
    have HATS := hide hats
    rw [← hats] at HVM
    clear hats HV
    generalize ((w4.alloc (.cells #[.slice oa n c, .int .i64 m] 32)).alloc (.cells #[.int .i64 0, .int .i64 0] 35)) = W5 at *
    go_loopw [7, 25] (fun tl tx W => ∃ i : Nat, tx = .int .i64 (i : Int) ∧ i ≤ P.cd.length ∧ W.ownsRow W5.heap.size 3 1 tl i (ints (htsV (ats.take i))) ∧ Below W5.heap.size W5 W) (fun _ tx _ => P.cd.length - (intOf tx).toNat)
    case atStart => exact ⟨0, rfl, Nat.zero_le _, World.ownsRow_nil _ _ _ _, Below.refl _ _⟩
    case round =>
      obtain ⟨i, rfl, hi, hown, hb3⟩ := hrel
      rename World => W
      have u1 := IntWalk.i64_in ((i : Int) + 1) (by omega)
      have HB3 := hide hb3
      have HOWN := hide hown
      clear hb3 hown
      by_cases hlt : i < P.cd.length
      · obtain ⟨s, hs⟩ : ∃ s, ats[i]? = some s := ⟨_, List.getElem?_eq_getElem (by rw [HVM.out.len]; exact hlt)⟩
        obtain ⟨om, cm, hm, hrow⟩ := HVM.out.r.row i s hs
        have HRL : Hid (rb < W5.heap.size) := hide (by obtain ⟨⟨cs, hcs, _⟩, _⟩ := HVM.out.r; exact hcs.lt)
        have htk := hts_take hs
        obtain ⟨there, ty, ls, hand⟩ := s
        simp only [St.cells] at hrow htk
        have r0 : W.cell? ⟨rb, i * 13, none⟩ = some (.bool there) := (HB3.out.cell (by exact HRL.out)).trans (hrow 0 _ rfl)
        have r1 : W.cell? ⟨rb, i * 13 + 1, none⟩ = some (.string ty) := (HB3.out.cell (by exact HRL.out)).trans (hrow 1 _ rfl)
        have r2 : W.cell? ⟨rb, i * 13 + 2, none⟩ = some (.int .i64 (lv ls 0)) := (HB3.out.cell (by exact HRL.out)).trans (hrow 2 _ rfl)
        have r3 : W.cell? ⟨rb, i * 13 + 3, none⟩ = some (.int .i64 (lv ls 1)) := (HB3.out.cell (by exact HRL.out)).trans (hrow 3 _ rfl)
        have r4 : W.cell? ⟨rb, i * 13 + 4, none⟩ = some (.int .i64 (lv ls 2)) := (HB3.out.cell (by exact HRL.out)).trans (hrow 4 _ rfl)
        have r5 : W.cell? ⟨rb, i * 13 + 5, none⟩ = some (.int .i64 (lv ls 3)) := (HB3.out.cell (by exact HRL.out)).trans (hrow 5 _ rfl)
        have r6 : W.cell? ⟨rb, i * 13 + 6, none⟩ = some (.int .i64 (lv ls 4)) := (HB3.out.cell (by exact HRL.out)).trans (hrow 6 _ rfl)
        have r7 : W.cell? ⟨rb, i * 13 + 7, none⟩ = some (.int .i64 (lv ls 5)) := (HB3.out.cell (by exact HRL.out)).trans (hrow 7 _ rfl)
        have r8 : W.cell? ⟨rb, i * 13 + 8, none⟩ = some (.int .i64 (lv ls 6)) := (HB3.out.cell (by exact HRL.out)).trans (hrow 8 _ rfl)
        have r9 : W.cell? ⟨rb, i * 13 + 9, none⟩ = some (.int .i64 (lv ls 7)) := (HB3.out.cell (by exact HRL.out)).trans (hrow 9 _ rfl)
        have r10 : W.cell? ⟨rb, i * 13 + 10, none⟩ = some (.int .i64 (ls.length : Int)) := (HB3.out.cell (by exact HRL.out)).trans (hrow 10 _ rfl)
        have r11 : W.cell? ⟨rb, i * 13 + 11, none⟩ = some (.int .i64 hand) := (HB3.out.cell (by exact HRL.out)).trans (hrow 11 _ rfl)
        have r12 : W.cell? ⟨rb, i * 13 + 12, none⟩ = some (.slice om (ls.length - 8) cm) := (HB3.out.cell (by exact HRL.out)).trans (hrow 12 _ rfl)
        have HTK := hide htk
        clear hm hrow htk hs
        go_wp2_with (at_builtin
                     refine wpList_append_own _ rfl (.tmp 29) (.tmp 33) 25 rfl W5.heap.size 3 i3 (.int .i64 0) 1 8 Try.underlying25 hi3 hz0 hz1 hz2 rfl (by decide) _ _ _ rfl ((HOWN.out.alloc _).alloc _) ⟨W.heap.size + 1, 0, none⟩ 1 1 [.int .i64 (ty.size : Int)] rfl rfl (one_cell2 W _ _) (by simp [Value.oneCell']) (by unfold maxLen; omega) (by omega) (by have := HB3.out.size; simp; omega) ?_
                     intro v' w10 hown' hgrow _
                     have HOWN2 := hide hown'
                     have HG2 := hide hgrow
                     clear hown' hgrow)
        go_roundw
        case rel => exact ⟨i + 1, by go_num, by omega, by rw [HTK.out]; exact HOWN2.out, ((HB3.out.alloc HB3.out.size _).alloc (by have := HB3.out.size; simp; omega) _).trans (below_grow HG2.out (fun k hk => (HOWN.out.lt k hk).1) (by have := HB3.out.size; simp; omega))⟩
        case measure => simp [intOf]; omega
      · have hil : i = P.cd.length := by omega
        have htk : ats.take i = ats := by rw [hil, ← HVM.out.len, List.take_length]
        have hown := HOWN.out
        rw [htk, hil] at hown
        have kF := HKF.out.below HB3.out HKF.out.lt
        have d0 : W.cell? ⟨w.heap.size + 1, 0, none⟩ = some (.int .i64 0) := by rw [kF.cell]; rfl
        have d1 : W.cell? ⟨w.heap.size + 1, 1, none⟩ = some (.int .i64 0) := by rw [kF.cell]; rfl
        have df0 := kF.frozen 0
        have df1 := kF.frozen 1
        have kFY : Blk ((W.setCell ⟨w.heap.size + 1, 0, none⟩ (.int .i64 0)).setCell ⟨w.heap.size + 1, 1, none⟩ (.int .i64 0)) (w.heap.size + 1) 35 #[.int .i64 0, .int .i64 0] := (kF.set_ 0 _).set_ 1 _
        have hBY : Below w.heap.size w ((W.setCell ⟨w.heap.size + 1, 0, none⟩ (.int .i64 0)).setCell ⟨w.heap.size + 1, 1, none⟩ (.int .i64 0)) := ((HB5.out.trans (HB3.out.mono HB5.out.size)).setCell (by show w.heap.size ≤ w.heap.size + 1; omega) _).setCell (by show w.heap.size ≤ w.heap.size + 1; omega) _
        have hne := own_blk_ne hown kF (by decide)
        have hownY : World.ownsRow ((W.setCell ⟨w.heap.size + 1, 0, none⟩ (.int .i64 0)).setCell ⟨w.heap.size + 1, 1, none⟩ (.int .i64 0)) W5.heap.size 3 1 _ P.cd.length (ints (htsV ats)) := own_far (own_far hown (p := ⟨w.heap.size + 1, 0, none⟩) hne _) (p := ⟨w.heap.size + 1, 1, none⟩) hne _
        have HFY := hide kFY
        have HBY := hide hBY
        have HOWNY := hide (own_down hownY HB5.out.size)
        clear hown kF kFY hBY hne hownY htk hil
        go_wp2_with fail
        generalize ((W.setCell ⟨w.heap.size + 1, 0, none⟩ (.int .i64 0)).setCell ⟨w.heap.size + 1, 1, none⟩ (.int .i64 0)) = Wy at *
        have z2 : Wy.cell? ⟨w.heap.size + 1, 0, none⟩ = some (.int .i64 0) := by rw [HFY.out.cell]; rfl
        have z3 : Wy.cell? ⟨w.heap.size + 1, 1, none⟩ = some (.int .i64 0) := by rw [HFY.out.cell]; rfl
        refine bodyPost_ret (v := .tuple #[u7, .agg #[.int .i64 0, .int .i64 0]]) ?_ rfl ⟨u7, rfl, ⟨fun h => absurd HE.out.symm h, fun _ => by rw [← HATS.out]; exact ⟨HOWNY.out, HVM.out.len⟩⟩, HBY.out⟩
        simp only [results, hres]
        go_simp
  · clear hat hl hat_
    have he2 : (e != 0) = true := by simpa using h0
    have HE0 := hide h0
    clear h0
    go_enter Try.func17, Try.ntmps17
    go_wp2_with (go_at_call 26
                 refine HR.out.mono ?_
                 rintro en w4 ⟨pa, oa, n, c, m, rfl, hc, hb, hv⟩
                 have HF := hide (HF.out.below hb HF.out.lt)
                 have HB := hide (HB.out.trans (hb.mono HB.out.size))
                 clear hc hb hv)
    have kF5 : Blk ((w4.alloc (.cells #[.slice oa n c, .int .i64 m] 32)).alloc (.cells #[.int .i64 e, .int .i64 at_] 35)) (w4.heap.size + 1) 35 #[.int .i64 e, .int .i64 at_] := by
      have := Blk.new (w4.alloc (.cells #[.slice oa n c, .int .i64 m] 32)) 35 #[.int .i64 e, .int .i64 at_]
      simpa using this
    have kF := (HF.out.alloc (.cells #[.slice oa n c, .int .i64 m] 32)).alloc (.cells #[.int .i64 e, .int .i64 at_] 35)
    have hb5 : Below w.heap.size w ((w4.alloc (.cells #[.slice oa n c, .int .i64 m] 32)).alloc (.cells #[.int .i64 e, .int .i64 at_] 35)) := (HB.out.alloc HB.out.size _).alloc (by have := HB.out.size; simp; omega) _
    generalize ((w4.alloc (.cells #[.slice oa n c, .int .i64 m] 32)).alloc (.cells #[.int .i64 e, .int .i64 at_] 35)) = W5 at *
    have a2 : W5.drew.cell? ⟨w4.heap.size + 1, 0, none⟩ = some (.int .i64 e) := by rw [kF5.drew.cell]; rfl
    have a3 : W5.drew.cell? ⟨w4.heap.size + 1, 1, none⟩ = some (.int .i64 at_) := by rw [kF5.drew.cell]; rfl
    have a2n : W5.cell? ⟨w4.heap.size + 1, 0, none⟩ = some (.int .i64 e) := a2
    have a3n : W5.cell? ⟨w4.heap.size + 1, 1, none⟩ = some (.int .i64 at_) := a3
    have d0 : W5.drew.cell? ⟨w.heap.size + 1, 0, none⟩ = some (.int .i64 0) := by rw [kF.drew.cell]; rfl
    have d1 : W5.drew.cell? ⟨w.heap.size + 1, 1, none⟩ = some (.int .i64 0) := by rw [kF.drew.cell]; rfl
    have d0n : W5.cell? ⟨w.heap.size + 1, 0, none⟩ = some (.int .i64 0) := d0
    have d1n : W5.cell? ⟨w.heap.size + 1, 1, none⟩ = some (.int .i64 0) := d1
    have df0 := kF.drew.frozen 0
    have df1 := kF.drew.frozen 1
    have df0n := kF.frozen 0
    have df1n := kF.frozen 1
    have kFY : Blk ((W5.setCell ⟨w.heap.size + 1, 0, none⟩ (.int .i64 e)).setCell ⟨w.heap.size + 1, 1, none⟩ (.int .i64 at_)) (w.heap.size + 1) 35 #[.int .i64 e, .int .i64 at_] := (kF.set_ 0 _).set_ 1 _
    have hBY : Below w.heap.size w ((W5.setCell ⟨w.heap.size + 1, 0, none⟩ (.int .i64 e)).setCell ⟨w.heap.size + 1, 1, none⟩ (.int .i64 at_)) := (hb5.setCell (by show w.heap.size ≤ w.heap.size + 1; omega) _).setCell (by show w.heap.size ≤ w.heap.size + 1; omega) _
    have HFY := hide kFY
    have HBY := hide hBY
    clear kFY hBY hb5 kF5 kF
    go_region
    all_goals
      go_wp2_with fail
      generalize ((W5.setCell ⟨w.heap.size + 1, 0, none⟩ (.int .i64 e)).setCell ⟨w.heap.size + 1, 1, none⟩ (.int .i64 at_)) = Wy at *
      have z2 : Wy.drew.cell? ⟨w.heap.size + 1, 0, none⟩ = some (.int .i64 e) := by rw [HFY.out.drew.cell]; rfl
      have z3 : Wy.drew.cell? ⟨w.heap.size + 1, 1, none⟩ = some (.int .i64 at_) := by rw [HFY.out.drew.cell]; rfl
      have zn2 : Wy.cell? ⟨w.heap.size + 1, 0, none⟩ = some (.int .i64 e) := z2
      have zn3 : Wy.cell? ⟨w.heap.size + 1, 1, none⟩ = some (.int .i64 at_) := z3
      refine bodyPost_ret (v := .tuple #[.slice none 0 0, .agg #[.int .i64 e, .int .i64 at_]]) ?_ rfl ⟨_, rfl, ⟨fun _ => rfl, fun h => absurd (HE.out.trans h) HE0.out⟩, HBY.out.drew⟩
      simp only [results, hres]
      go_simp
end Go.Proofs.Ytjflllfkgbhemaa
