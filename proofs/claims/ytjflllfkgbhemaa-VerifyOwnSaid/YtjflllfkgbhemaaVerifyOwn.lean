/- This file proves VerifyOwn: the law returns true on every input and leaves its arguments as they were. Conditions: none. -/
import Derived.Test.YtjflllfkgbhemaaM11
import Derived.WalkKit
import Derived.ProofKit
import Derived.OpenShut
namespace Go.Proofs.Ytjflllfkgbhemaa
open Go.RowKit Go.Proofs.Ytjflllfkgbhemaa.opened
theorem ovL_at {i k : Nat} {m : List Int} (h : m = ovL i m.length) (hk : k < m.length) : m[k] = 0 - 1000 * (i : Int) - (k : Int) := by
  have h1 : m[k]? = (ovL i m.length)[k]? := by rw [← h]
  rw [List.getElem?_eq_getElem hk] at h1
  simp only [ovL, List.getElem?_map, List.getElem?_range hk, Option.map_some, Option.some.injEq] at h1
  exact h1
set_option linter.unusedVariables false in
set_option linter.unusedSimpArgs false in
set_option maxRecDepth 100000 in
set_option maxHeartbeats 40000000 in
theorem own_i (w : World) (oa : Option Addr) (ca : Nat) (l : List (PV × Prg)) (hp : ProgsAt w oa l) (hm : ∀ y ∈ l, AMem w y.1 y.2) (hln : l.length ≤ maxLen) :
    Calls Try.prog 9 #[.slice oa l.length ca] w fun en w' => en = .returned (.bool true) ∧ Below w.heap.size w w' := by
  have HPA := hide hp
  have HAM := hide hm
  have HHD := fun W => hide (head_i W)
  have HMK := fun W => hide (make0_i W)
  unfold noPlan at HMK
  unfold maxLen at hln
  clear hp hm
  obtain ⟨i25, hi25, hz0, hz1, hz2⟩ := info_parts info25
  obtain ⟨i3, hi3, hy0, hy1, hy2⟩ := info_parts infoI
  generalize hN : l.length = N at *
  have HN := hide hN
  clear hN
  have HO0 := hide (own_nil w.heap.size w)
  go_enter Try.func9, Try.ntmps9
  go_wp2_with fail
  go_loopw [3, 4, 5] (fun t3 t4 t5 W => ∃ (i : Nat) (vs us : List Value) (kl : List (List Int)), t5 = .int .i64 (i : Int) ∧ i ≤ N ∧ i ≤ 9 ∧ kl.length ≤ 4 * i ∧ Own w.heap.size W t3 t4 vs kl us kl ∧ Below w.heap.size w W) (fun _ _ t5 _ => N - (intOf t5).toNat)
  case atStart => exact ⟨0, [], [], [], rfl, Nat.zero_le _, by omega, Nat.le_refl _, HO0.out, Below.refl _ _⟩
  case round =>
    clear HO0
    obtain ⟨i, vs, us, kl, rfl, hiN, hi9, hkl, hown, hB⟩ := hrel
    rename World => W
    rename_i tk tw
    have HOWN := hide hown
    have HB := hide hB
    clear hown hB
    have u1 := IntWalk.i64_in ((i : Int) + 1) (by omega)
    by_cases hc : i < N ∧ i < 9
    · obtain ⟨h1, h2⟩ := hc
      have h1I : (i : Int) < (N : Int) := by omega
      have h2I : (i : Int) < 9 := by omega
      obtain ⟨⟨q, P⟩, hq⟩ : ∃ y, l[i]? = some y := ⟨_, List.getElem?_eq_getElem (by rw [HN.out]; exact h1)⟩
      obtain ⟨ad, rfl, hab, hcl⟩ := HPA.out (by rw [HN.out]; omega)
      have ham : AMem w q P := HAM.out _ (List.mem_of_getElem? hq)
      have HMEM := hide ham
      have hcell : ∀ W, Below w.heap.size w W → W.cell? (ad.add (i * 6)) = some (.slice q.ga q.gl q.gc) ∧ W.cell? ⟨(ad.add (i * 6)).block, (ad.add (i * 6)).off + 1, none⟩ = some (.slice q.va q.vl q.vc) ∧ W.cell? ⟨(ad.add (i * 6)).block, (ad.add (i * 6)).off + 2, none⟩ = some (.slice q.ta q.tl q.tc) ∧ W.cell? ⟨(ad.add (i * 6)).block, (ad.add (i * 6)).off + 3, none⟩ = some (.slice q.oa q.ol q.oc) ∧ W.cell? ⟨(ad.add (i * 6)).block, (ad.add (i * 6)).off + 4, none⟩ = some (.int .i64 q.miss) ∧ W.cell? ⟨(ad.add (i * 6)).block, (ad.add (i * 6)).off + 5, none⟩ = some (.slice q.ca q.cl q.cc) := fun W hb => by
        obtain ⟨y0, y1, y2, y3, y4, y5⟩ := hcl i q P hq
        have hz : ∀ k, W.cell? (ad.add (i * 6 + k)) = w.cell? (ad.add (i * 6 + k)) := fun k => hb.cell (by rw [add_block]; exact hab)
        have z0 := (hz 0).trans y0
        have z1 := (hz 1).trans y1
        have z2 := (hz 2).trans y2
        have z3 := (hz 3).trans y3
        have z4 := (hz 4).trans y4
        have z5 := (hz 5).trans y5
        rw [add_fld ad (i * 6) 0] at z1
        rw [add_fld ad (i * 6) 1] at z2
        rw [add_fld ad (i * 6) 2] at z3
        rw [add_fld ad (i * 6) 3] at z4
        rw [add_fld ad (i * 6) 4] at z5
        exact ⟨z0, z1, z2, z3, z4, z5⟩
      have HCELL := hide hcell
      have HFAR := fun (W : World) (hb : Below w.heap.size w W) => hide (far_i W q P (ham.below hb))
      have HREF := fun (W : World) (hb : Below w.heap.size w W) => hide (run_r W q P (ham.below hb))
      have HRFH := fun (W : World) (hb : Below w.heap.size w W) => hide (heights_r W q P (ham.below hb))
      simp only [PV.val] at HFAR HREF HRFH
      unfold RunRP at HREF
      unfold HeightsRP at HRFH
      obtain ⟨fv, hfv⟩ : ∃ f, farV P = f := ⟨_, rfl⟩
      simp only [hfv] at HFAR
      have HFV := hide hfv
      clear hfv hab hcl hq ham
      obtain ⟨k0, k1, k2, k3, k4, k5⟩ := hcell W HB.out
      clear hcell
      go_wp2_with fail
      go_at_call 11
      refine (HFAR _ HB.out).out.mono ?_
      rintro en w2 ⟨rfl, hb2⟩
      have HB2 := hide (HB.out.trans (hb2.mono HB.out.size))
      have HOWN2 := hide (HOWN.out.below hb2)
      clear hb2 k0 k1 k2 k3 k4 k5
      cases fv
      case true =>
        go_wp2_with fail
        go_roundw
        case rel => exact ⟨i + 1, vs, us, kl, by go_num, by omega, by omega, by omega, HOWN2.out, HB2.out⟩
        case measure =>
          simp only [intOf]
          omega
      obtain ⟨k0, k1, k2, k3, k4, k5⟩ := HCELL.out w2 HB2.out
      go_wp2_with fail
      go_at_call 14
      refine (HREF _ HB2.out).out.mono ?_
      rintro en w3 ⟨v2, m2, rfl, hc3, hb3⟩
      obtain ⟨ox, nx, cx, rfl⟩ := costsR_slice hc3
      clear k0 k1 k2 k3 k4 k5
      have hb4 : Below w3.heap.size w3 ((w3.alloc (.cells #[.slice ox nx cx, .int .i64 m2] 32)).alloc (.cells #[.int .i64 (runV P).1, .int .i64 (runV P).2.1] 35)) := ((Below.refl _ w3).alloc (Nat.le_refl _) _).alloc (by simp) _
      have HB4 := hide ((HB2.out.trans (hb3.mono HB2.out.size)).trans (hb4.mono (Nat.le_trans HB2.out.size hb3.size)))
      have HOWN4 := hide ((HOWN2.out.below hb3).below hb4)
      have HKA : Hid ((runV P).1 = 0 → Kp w2.heap.size ((w3.alloc (.cells #[.slice ox nx cx, .int .i64 m2] 32)).alloc (.cells #[.int .i64 (runV P).1, .int .i64 (runV P).2.1] 35)) (.slice ox nx cx) (costL P)) := hide (fun he => (kp_of_costsR hc3 he (check_of_run he).1).below hb4)
      have HX4 := hide ((Blk.new w3 32 #[.slice ox nx cx, .int .i64 m2]).alloc (.cells #[.int .i64 (runV P).1, .int .i64 (runV P).2.1] 35))
      have HY4 : Hid (Blk ((w3.alloc (.cells #[.slice ox nx cx, .int .i64 m2] 32)).alloc (.cells #[.int .i64 (runV P).1, .int .i64 (runV P).2.1] 35)) (w3.heap.size + 1) 35 #[.int .i64 (runV P).1, .int .i64 (runV P).2.1]) := hide (by
        have := Blk.new (w3.alloc (.cells #[.slice ox nx cx, .int .i64 m2] 32)) 35 #[.int .i64 (runV P).1, .int .i64 (runV P).2.1]
        simpa using this)
      have HZ4 : Hid (w2.heap.size + 2 ≤ w3.heap.size + 2) := hide (by have := hb3.size; omega)
      clear hb3 hb4 hc3
      obtain ⟨k0, k1, k2, k3, k4, k5⟩ := HCELL.out ((w3.alloc (.cells #[.slice ox nx cx, .int .i64 m2] 32)).alloc (.cells #[.int .i64 (runV P).1, .int .i64 (runV P).2.1] 35)) HB4.out
      go_wp2_with fail
      go_at_call 18
      refine (HRFH _ HB4.out).out.mono ?_
      rintro en w5 ⟨v3, rfl, hc5, hb5⟩
      obtain ⟨oy, ny, cy, rfl⟩ := hts_slice hc5
      clear k0 k1 k2 k3 k4 k5
      have hb6 : Below w5.heap.size w5 (w5.alloc (.cells #[.int .i64 (runV P).1, .int .i64 (runV P).2.1] 35)) := (Below.refl _ w5).alloc (Nat.le_refl _) _
      have HB6 := hide ((HB4.out.trans (hb5.mono HB4.out.size)).trans (hb6.mono (Nat.le_trans HB4.out.size hb5.size)))
      have HOWN6 := hide ((HOWN4.out.below hb5).below hb6)
      have HKA6 : Hid ((runV P).1 = 0 → Kp w2.heap.size (w5.alloc (.cells #[.int .i64 (runV P).1, .int .i64 (runV P).2.1] 35)) (.slice ox nx cx) (costL P)) := hide (fun he => ((HKA.out he).below hb5).below hb6)
      have HKB6 : Hid ((runV P).1 = 0 → Kp w2.heap.size (w5.alloc (.cells #[.int .i64 (runV P).1, .int .i64 (runV P).2.1] 35)) (.slice oy ny cy) (hgtL P)) := hide (fun he => ((kp_of_hts hc5 he (check_of_run he).2).below hb6).base (by have := hb5.size; have := HZ4.out; simp at this ⊢; omega))
      have HX6 := hide ((HX4.out.below hb5 HX4.out.lt).below hb6 (HX4.out.below hb5 HX4.out.lt).lt)
      have HY6 := hide ((HY4.out.below hb5 HY4.out.lt).below hb6 (HY4.out.below hb5 HY4.out.lt).lt)
      have HSZ : Hid (w2.heap.size ≤ w3.heap.size) := hide (by have := HZ4.out; omega)
      clear hb5 hb6 hc5
      have HINN : Hid (Inn w w2.heap.size w3.heap.size P (.slice ox nx cx) (.slice oy ny cy) m2 (4 * i) u3 u4 (w5.alloc (.cells #[.int .i64 (runV P).1, .int .i64 (runV P).2.1] 35))) := hide ⟨⟨vs, us, kl, hkl, HOWN6.out, fun he => ⟨(sep_new HOWN2.out (fun g hg => ((HKA6.out he).blk hg).1) (Nat.le_refl _)).1, (sep_new HOWN2.out (fun g hg => ((HKB6.out he).blk hg).1) (Nat.le_refl _)).1⟩⟩, HB6.out, HX6.out, HY6.out, HKA6.out, HKB6.out⟩
      have HFP := hide (rfl : costL P = costL P)
      have HS2 := hide HB2.out.size
      have HLD := fun (W : World) (hb : Below w.heap.size w W) => hide (lends_i w W q P HMEM.out hb HFV.out)
      simp only [PV.val] at HLD
      clear HKA HKB6 HKA6 HX4 HY4 HX6 HY6 HZ4 HB4 HB6 HOWN4 HOWN6 HOWN HOWN2 HREF HRFH HFAR
      go_wp2_with fail
      go_loopw [3, 4, 10] (fun t3 t4 t10 W => ∃ (k : Nat), t10 = .int .i64 (k : Int) ∧ k ≤ 2 ∧ Inn w w2.heap.size w3.heap.size P (.slice ox nx cx) (.slice oy ny cy) m2 (4 * i + 2 * k) t3 t4 W) (fun _ _ t10 _ => 2 - (intOf t10).toNat)
      case atStart => exact ⟨0, rfl, Nat.zero_le _, HINN.out⟩
      case round =>
        clear HINN
        obtain ⟨k, rfl, hk2, hinn⟩ := hrel
        rename World => W
        have HINN := hide hinn
        clear hinn
        have z0 : W.cell? ⟨w3.heap.size + 1, 0, none⟩ = some (.int .i64 (runV P).1) := by rw [HINN.out.hy.cell]; rfl
        have u2 := IntWalk.i64_in ((k : Int) + 1) (by omega)
        by_cases hck : (k : Int) < 2
        · by_cases he : (runV P).1 = 0
          · have HE := hide he
            rw [he] at z0
            clear he
            obtain ⟨k0, k1, k2, k3, k4, k5⟩ := HCELL.out W HINN.out.b
            go_wp2_with fail
            go_at_call 12
            refine (HLD _ HINN.out.b).out.mono ?_
            rintro en w6 ⟨gg, gv, gt, go, gc, rfl, ⟨hpm, hmv⟩, hb6⟩
            have HRUN := hide (verifyRun_i _ _ P hpm hmv)
            simp only [PV.val, lentPV] at HRUN ⊢
            rw [HE.out] at HRUN
            have HB6 := hide hb6
            clear hb6 hpm hmv
            go_wp2_with fail
            go_at_call 13
            refine HRUN.out.mono ?_
            rintro en w7 ⟨o7, n7, c7, m7, rfl, hc7, hb7⟩
            have hb8 : Below w7.heap.size w7 ((w7.alloc (.cells #[.slice o7 n7 c7, .int .i64 m7] 32)).alloc (.cells #[.int .i64 0, .int .i64 (runV P).2.1] 35)) := ((Below.refl _ w7).alloc (Nat.le_refl _) _).alloc (by simp) _
            have HB7 := hide (HB6.out.trans (hb7.mono HB6.out.size))
            have HB8 := hide (HB7.out.trans (hb8.mono HB7.out.size))
            have HKX := hide ((kp_of_costs hc7 HE.out (check_of_run HE.out).1).below hb8)
            have HX8 := hide ((Blk.new w7 32 #[.slice o7 n7 c7, .int .i64 m7]).alloc (.cells #[.int .i64 0, .int .i64 (runV P).2.1] 35))
            have HY8 : Hid (Blk ((w7.alloc (.cells #[.slice o7 n7 c7, .int .i64 m7] 32)).alloc (.cells #[.int .i64 0, .int .i64 (runV P).2.1] 35)) (w7.heap.size + 1) 35 #[.int .i64 0, .int .i64 (runV P).2.1]) := hide (by
              have := Blk.new (w7.alloc (.cells #[.slice o7 n7 c7, .int .i64 m7] 32)) 35 #[.int .i64 0, .int .i64 (runV P).2.1]
              simpa using this)
            have HZ7 : Hid (w6.heap.size ≤ w7.heap.size) := hide hb7.size
            clear hb7 hb8 hc7 k0 k1 k2 k3 k4 k5
            obtain ⟨k0, k1, k2, k3, k4, k5⟩ := HCELL.out ((w7.alloc (.cells #[.slice o7 n7 c7, .int .i64 m7] 32)).alloc (.cells #[.int .i64 0, .int .i64 (runV P).2.1] 35)) (HINN.out.b.trans (HB8.out.mono HINN.out.b.size))
            go_wp2_with fail
            go_at_call 12
            refine (HLD _ (HINN.out.b.trans (HB8.out.mono HINN.out.b.size))).out.mono ?_
            rintro en w9 ⟨gg2, gv2, gt2, go2, gc2, rfl, ⟨hpm, hmv⟩, hb9⟩
            have HRN2 := hide (verifyHeights_i _ _ P hpm hmv)
            simp only [PV.val, lentPV] at HRN2 ⊢
            rw [HE.out] at HRN2
            have HB9 := hide hb9
            clear hb9 hpm hmv
            go_wp2_with fail
            go_at_call 17
            refine HRN2.out.mono ?_
            rintro en w10 ⟨vy, rfl, hc10, hb10⟩
            obtain ⟨oz, nz, cz, rfl⟩ := hts_slice hc10
            have hb11 : Below w10.heap.size w10 (w10.alloc (.cells #[.int .i64 0, .int .i64 (runV P).2.1] 35)) := (Below.refl _ w10).alloc (Nat.le_refl _) _
            have hb811 := (HB9.out.trans (hb10.mono HB9.out.size)).trans (hb11.mono (Nat.le_trans HB9.out.size hb10.size))
            have HB11 := hide (HB8.out.trans (hb811.mono HB8.out.size))
            have HKX11 := hide (HKX.out.below hb811)
            have HKY11 := hide ((kp_of_hts hc10 HE.out (check_of_run HE.out).2).below hb11)
            have HX11 := hide (HX8.out.below hb811 HX8.out.lt)
            have HY11 := hide (HY8.out.below hb811 HY8.out.lt)
            have HZ10 : Hid (w7.heap.size + 2 ≤ w9.heap.size) := hide (by have := HB9.out.size; simp at this; omega)
            have HW10 : Hid (w9.heap.size ≤ w10.heap.size) := hide hb10.size
            clear hb10 hb11 hb811 hc10 k0 k1 k2 k3 k4 k5
            obtain ⟨vs, us, kl, hkl, hown, hsep⟩ := HINN.out.ex
            have HSEP := hide (hsep HE.out)
            have HOWN := hide hown
            have HKL := hide hkl
            clear hown hsep
            have HOWNA := hide ((HOWN.out.below HB11.out).below ((Below.refl _ (w10.alloc (.cells #[.int .i64 0, .int .i64 (runV P).2.1] 35))).alloc (Nat.le_refl _) (.cells #[.slice o7 n7 c7, .slice oz nz cz] 25)))
            have q1 : (w10.alloc (.cells #[.int .i64 0, .int .i64 (runV P).2.1] 35)).cell? ⟨w7.heap.size + 1, 0, none⟩ = some (.int .i64 0) := by rw [HY11.out.cell]; rfl
            have q2 : (w10.alloc (.cells #[.int .i64 0, .int .i64 (runV P).2.1] 35)).cell? ⟨w7.heap.size, 0, none⟩ = some (.slice o7 n7 c7) := by rw [HX11.out.cell]; rfl
            have q3 : (w10.alloc (.cells #[.int .i64 0, .int .i64 (runV P).2.1] 35)).cell? ⟨w10.heap.size, 0, none⟩ = some (.int .i64 0) := by rw [(Blk.new w10 35 #[.int .i64 0, .int .i64 (runV P).2.1]).cell]; rfl
            have HTWO : Hid (∀ j u, [Value.slice o7 n7 c7, .slice oz nz cz][j]? = some u → ((w10.alloc (.cells #[.int .i64 0, .int .i64 (runV P).2.1] 35)).alloc (.cells #[.slice o7 n7 c7, .slice oz nz cz] 25)).cell? ((⟨w10.heap.size + 1, 0, none⟩ : Addr).add j) = some u) := hide (by
              intro j u hj
              have := two_cells (w10.alloc (.cells #[.int .i64 0, .int .i64 (runV P).2.1] 35)) (.slice o7 n7 c7) (.slice oz nz cz) j u hj
              rw [show (w10.alloc (.cells #[.int .i64 0, .int .i64 (runV P).2.1] 35)).heap.size = w10.heap.size + 1 by simp] at this
              exact this)
            have HBS : Hid (w.heap.size ≤ w10.heap.size) := hide (by have := HINN.out.b.size; have := HB8.out.size; have := HZ7.out; have := HB9.out.size; have := HB6.out.size; have := HZ10.out; have := HW10.out; omega)
            have hkl2 : kl.length ≤ 40 := by have := HKL.out; omega
            have HK2 := hide hkl2
            go_wp2_with (first | (at_builtin; refine wpList_append_own_at _ rfl (.tmp 88) (.tmp 92) 53 rfl w.heap.size 25 i25 _ 1 24 Try.underlying53 hi25 hz0 hz1 hz2 rfl (by decide) u3 kl.length vs rfl HOWNA.out.k ⟨w10.heap.size + 1, 0, none⟩ 2 2 [.slice o7 n7 c7, .slice oz nz cz] rfl rfl HTWO.out (by simp [Value.oneCell']) (by unfold maxLen; omega) (by omega) (by have := HBS.out; simp; omega) ?_; rintro tk3 w12 hown3 hgr3 hnil3 hat3; clear hnil3; have HO3 := hide hown3; have HG3 := hide hgr3; have HA3 := hide hat3; clear hown3 hgr3 hat3; have r1 : w12.cell? ⟨w3.heap.size, 0, none⟩ = some (.slice ox nx cx) := (by rw [(blk_grown HOWNA.out.k HG3.out ((HINN.out.hx.below HB11.out HINN.out.hx.lt).alloc _) (by decide)).cell]; rfl); have HOW12 := hide (own_other HOWNA.out HG3.out (.cells #[.slice ox nx cx, .slice oy ny cy] 25)); have HTW := hide (two_cells w12 (.slice ox nx cx) (.slice oy ny cy)); have hsz12 : w.heap.size ≤ w12.heap.size := (by have := HG3.out.size; have := HBS.out; simp at *; omega); have HSZ12 := hide hsz12; clear hsz12) | (at_builtin; refine wpList_append_own_at _ rfl (.tmp 94) (.tmp 98) 53 rfl w.heap.size 25 i25 _ 1 24 Try.underlying53 hi25 hz0 hz1 hz2 rfl (by decide) u4 kl.length us rfl HOW12.out ⟨w12.heap.size, 0, none⟩ 2 2 [.slice ox nx cx, .slice oy ny cy] rfl rfl HTW.out (by simp [Value.oneCell']) (by unfold maxLen; omega) (by omega) (by have := HSZ12.out; simp; omega) ?_; rintro tw3 w13 hown4 hgr4 hnil4 hat4; clear hnil4; have HO4 := hide hown4; have HG4 := hide hgr4; have HA4 := hide hat4; clear hown4 hgr4 hat4))
            go_roundw
            case rel => exact ⟨k + 1, by go_num, by omega, (inn_add HOWN.out HKL.out HSEP.out.1 HSEP.out.2 HINN.out.b HINN.out.hx HINN.out.hy (HINN.out.ka HE.out) (HINN.out.kb HE.out) HS2.out HB11.out (HKX11.out.base HB6.out.size) (HKY11.out.base (by have := HB8.out.size; have := HB9.out.size; omega)) (fun g h1 h2 => by obtain ⟨_, cs1, c1⟩ := HKX.out.blk h1; have := (HKY11.out.blk h2).1; have := c1.lt; have := HB9.out.size; omega) HO3.out HG3.out HA3.out HO4.out HG4.out HA4.out).up (by omega)⟩
            case measure =>
              simp only [intOf]
              omega
          · skip
            obtain ⟨vs, us, kl, hkl, hown, hsep⟩ := HINN.out.ex
            clear hsep
            have HOWN := hide hown
            clear hown
            go_wp2_with fail
            go_roundw
            case rel => exact ⟨i + 1, vs, us, kl, by go_num, by omega, by omega, by omega, HOWN.out, HINN.out.b⟩
            case measure =>
              simp only [intOf]
              omega
        · have hk2 : k = 2 := by omega
          subst hk2
          obtain ⟨vs, us, kl, hkl, hown, hsep⟩ := HINN.out.ex
          clear hsep
          have HOWN := hide hown
          clear hown
          go_wp2_with fail
          go_roundw
          case rel => exact ⟨i + 1, vs, us, kl, by go_num, by omega, by omega, by omega, HOWN.out, HINN.out.b⟩
          case measure =>
            simp only [intOf]
            omega
    · by_cases h1 : i < N
      · have h1I : (i : Int) < (N : Int) := by omega
        have h2I : ¬ (i : Int) < 9 := by omega
        obtain ⟨o3, c3, rfl⟩ := own_slice HOWN.out.k
        obtain ⟨o4, c4, rfl⟩ := own_slice HOWN.out.w
        have HKL := hide hkl
        clear hkl
        go_wp2_with fail
        go_loopw [15] (fun t15 W => ∃ (j : Nat) (kl2 : List (List Int)), t15 = .int .i64 (j : Int) ∧ j ≤ kl.length ∧ Ovr kl kl2 j ∧ Own w.heap.size W (.slice o3 kl.length c3) (.slice o4 kl.length c4) vs kl2 us kl ∧ Below w.heap.size w W) (fun t15 _ => kl.length - (intOf t15).toNat)
        case atStart => exact ⟨0, kl, rfl, Nat.zero_le _, ⟨rfl, fun _ _ => rfl, fun _ _ h => by omega⟩, HOWN.out, HB.out⟩
        case round =>
          clear HOWN HB
          obtain ⟨j, kl2, rfl, hj, hov, hown, hb⟩ := hrel
          rename World => W
          have HOV := hide hov
          have HOWN := hide hown
          have HB := hide hb
          clear hov hown hb
          have hkl3 : kl.length ≤ 36 := by have := HKL.out; omega
          have u3 := IntWalk.i64_in ((j : Int) + 1) (by omega)
          by_cases hjn : j < kl.length
          · have hjI : (j : Int) < (kl.length : Int) := by omega
            have hlen := HOV.out.1
            obtain ⟨g3, p3, e3, _⟩ := own_form HOWN.out.k (by omega)
            obtain ⟨g4, p4, e4, _⟩ := own_form HOWN.out.w (by omega)
            simp only [Value.slice.injEq] at e3 e4
            obtain ⟨rfl, e5, rfl⟩ := e3
            obtain ⟨rfl, e6, rfl⟩ := e4
            clear e5 e6
            obtain ⟨v, hv⟩ : ∃ v, vs[j]? = some v := ⟨_, List.getElem?_eq_getElem (by rw [HOWN.out.lv]; omega)⟩
            obtain ⟨u, hu⟩ : ∃ u, us[j]? = some u := ⟨_, List.getElem?_eq_getElem (by rw [HOWN.out.lu]; omega)⟩
            obtain ⟨m, hm⟩ : ∃ m, kl[j]? = some m := ⟨_, List.getElem?_eq_getElem hjn⟩
            have hm2 : kl2[j]? = some m := by rw [HOV.out.2.1 j (Nat.le_refl _)]; exact hm
            have hkp := HOWN.out.kp j v m hv hm2
            have hkq := HOWN.out.wt j u m hu hm
            obtain ⟨ov, cv, rfl, hsv⟩ := hkp.src
            obtain ⟨ou, cu, rfl, hsu⟩ := hkq.src
            have hml : m.length ≤ 262144 := by obtain ⟨_, _, _, _, _, hh, _⟩ := hkp; exact hh
            have HSAME := fun (W2 : World) (hb : Below W.heap.size W W2) => hide (same19_i W2 ov ou m.length cv cu m (hsv.below hb) (hsu.below hb) rfl (by unfold maxLen; omega))
            have hk := HOWN.out.k
            rw [hlen] at hk
            have ce1 : W.cell? ⟨g3, j, none⟩ = some (.slice ov m.length cv) := own_get hk j _ hv
            have ce2 : W.cell? ⟨g4, j, none⟩ = some (.slice ou m.length cu) := own_get HOWN.out.w j _ hu
            have HDR : Hid (Below W.heap.size W W.drew) := hide (by have h0 := Below.refl W.heap.size W; exact ⟨h0.os, h0.tape, h0.output, h0.size, h0.block⟩)
            have HV := hide hv
            have HM2 := hide hm2
            have HML := hide hml
            clear hk hv hu hm hm2 hkp hkq hsv hsu hml hlen
            go_wp2_with fail
            go_region_with (go_at_call 19; refine (HSAME _ HDR.out).out.mono ?_; rintro en w2 ⟨rfl, hb2⟩; have HB2 := hide hb2; clear hb2)
            all_goals
              have HB2w := hide (HDR.out.trans HB2.out)
              have HOWN2 := hide (HOWN.out.below HB2w.out)
              have HBB := hide (HB.out.trans (HB2w.out.mono HB.out.size))
              have HOWN2a := hide (HOWN2.out.below ((Below.refl _ w2).alloc (Nat.le_refl _) (.cells #[.int .i64 (-1), .int .i64 (-2), .int .i64 (-3)] 3)))
              have hk := HOWN2.out.k
              rw [HOV.out.1] at hk
              have ce3 : w2.cell? ⟨g3, j, none⟩ = some (.slice ov m.length cv) := own_get hk j _ HV.out
              clear hk ce1 ce2
              have u4 := IntWalk.i64_in ((m.length : Int) + 3) (by have := HML.out; omega)
              have HTH := hide (three_cells w2 (-1) (-2) (-3))
              go_wp2_with (at_builtin; refine wp_more rfl (.tmp 119) (.tmp 120) rfl i3 hi3 hy0 hy1 hy2 (HOWN2a.out.kp j _ m HV.out HM2.out) rfl ⟨w2.heap.size, 0, none⟩ 3 [-1, -2, -3] rfl rfl HTH.out ?_; rintro o5 c5 w3 hk3 hon3; have HK3 := hide hk3; have HON3 := hide hon3; have HOWN3 := hide (own_kept HOWN2a.out HV.out HM2.out HK3.out HON3.out); have hk := HOWN3.out.k; rw [HOV.out.1] at hk; have ce4 : w3.cell? ⟨g3, j, none⟩ = some (.slice ov m.length cv) := own_get hk j _ HV.out; have HBB3 := hide (HBB.out.trans (((HON3.out).below (fun q hq => (HK3.out.blk hq).1) (by have := HBB.out.size; simp; omega)) |> fun hx => (((Below.refl w.heap.size w2).alloc HBB.out.size (.cells #[.int .i64 (-1), .int .i64 (-2), .int .i64 (-3)] 3)).trans hx))); clear hk hk3 hon3)
              go_loopw [17] (fun t17 W4 => ∃ (k : Nat), t17 = .int .i64 (k : Int) ∧ k ≤ m.length ∧ Own w.heap.size W4 (.slice (some ⟨g3, 0, none⟩) kl.length c3) (.slice (some ⟨g4, 0, none⟩) kl.length c4) vs (kl2.set j (ovK j k m)) us kl ∧ Below w.heap.size w W4) (fun t17 _ => m.length - (intOf t17).toNat)
              case atStart => exact ⟨0, rfl, Nat.zero_le _, by rw [ovK_zero]; exact (by have := own_set_self HOWN3.out HM2.out; exact this), HBB3.out⟩
              case round =>
                obtain ⟨k, rfl, hk, hown4, hb4⟩ := hrel
                rename World => W4
                have HOWN4 := hide hown4
                have HB4 := hide hb4
                clear hown4 hb4
                have hj4 : j < (kl2.set j (ovK j k m)).length := by rw [List.length_set, HOV.out.1]; exact hjn
                have hkj : (kl2.set j (ovK j k m))[j]? = some (ovK j k m) := by rw [List.getElem?_set_self (by simpa using hj4)]
                have hkp4 := HOWN4.out.kp j _ _ HV.out hkj
                have hk4 := HOWN4.out.k
                rw [List.length_set, HOV.out.1] at hk4
                have ce5 : W4.cell? ⟨g3, j, none⟩ = some (.slice ov m.length cv) := own_get hk4 j _ HV.out
                have HKP4 := hide hkp4
                have HKJ := hide hkj
                clear hkp4 hkj hj4 hk4
                have u5 := IntWalk.i64_in ((k : Int) + 1) (by have := HML.out; omega)
                by_cases hkm : k < m.length
                · have hkI : (k : Int) < (m.length : Int) := by omega
                  obtain ⟨gv, rfl⟩ : ∃ gv, ov = some ⟨gv, 0, none⟩ := by
                    obtain ⟨oa5, ca5, e, _, _, _, hz, hx⟩ := HKP4.out
                    simp only [Value.slice.injEq] at e
                    obtain ⟨rfl, e2, rfl⟩ := e
                    cases ov with
                    | none => have := hz rfl; omega
                    | some ad5 => obtain ⟨g5, _, rfl, _⟩ := hx ad5 rfl; exact ⟨g5, rfl⟩
                  have hlk : (ovK j k m).length = m.length := ovK_length hk
                  obtain ⟨⟨y6, ce6⟩, fr6⟩ : (∃ y, W4.cell? ⟨gv, k, none⟩ = some (.int .i64 y)) ∧ W4.frozen? ⟨gv, k, none⟩ = false := by
                    have h6 := kp_at (k := k) HKP4.out (by omega)
                    exact ⟨⟨_, h6.1⟩, h6.2⟩
                  have HLK := hide hlk
                  clear hlk
                  have n1 := IntWalk.i64_in (1000 * (j : Int)) (by omega)
                  have n2 := IntWalk.i64_in (-(1000 * (j : Int))) (by omega)
                  have n3 := IntWalk.i64_in (-(1000 * (j : Int)) - (k : Int)) (by have := HML.out; omega)
                  go_wp2_with fail
                  go_roundw
                  case rel =>
                    refine ⟨k + 1, by go_num, by omega, ?_, ?_⟩
                    · have h1 := HOWN4.out.setK HV.out HKJ.out (kp_store (k := k) (0 - 1000 * (j : Int) - (k : Int)) HKP4.out (by have := HLK.out; omega)) only_store
                      rw [List.set_set, ovK_set hkm] at h1
                      simpa using h1
                    · exact (HB4.out.trans (only_store.below (fun q hq => (HKP4.out.blk hq).1) HB4.out.size))
                  case measure =>
                    simp only [intOf]
                    omega
                · have hkm2 : k = m.length := by omega
                  subst hkm2
                  have hown5 := HOWN4.out
                  rw [ovK_all] at hown5
                  have HOWN5 := hide hown5
                  clear hown5
                  go_wp2_with fail
                  go_roundw
                  case rel => exact ⟨j + 1, _, by go_num, by omega, HOV.out.step HM2.out, HOWN5.out, HB4.out⟩
                  case measure =>
                    simp only [intOf]
                    omega
          · have hjn2 : j = kl.length := by omega
            subst hjn2
            clear hjn
            have u6 := IntWalk.i64_in (0 : Int) (by omega)
            go_wp2_with fail
            go_loopw [18] (fun t18 W2 => ∃ (i2 : Nat), t18 = .int .i64 (i2 : Int) ∧ i2 ≤ kl.length ∧ W = W2) (fun t18 _ => kl.length - (intOf t18).toNat)
            case atStart => exact ⟨0, rfl, Nat.zero_le _, rfl⟩
            case round =>
              obtain ⟨i2, rfl, hi2, rfl⟩ := hrel
              have u7 := IntWalk.i64_in ((i2 : Int) + 1) (by omega)
              by_cases hin : i2 < kl.length
              · have hinI : (i2 : Int) < (kl.length : Int) := by omega
                have hlen := HOV.out.1
                obtain ⟨g3, p3, e3, _⟩ := own_form HOWN.out.k (by omega)
                simp only [Value.slice.injEq] at e3
                obtain ⟨rfl, e5, rfl⟩ := e3
                clear e5
                obtain ⟨v, hv⟩ : ∃ v, vs[i2]? = some v := ⟨_, List.getElem?_eq_getElem (by rw [HOWN.out.lv]; omega)⟩
                obtain ⟨m, hm2⟩ : ∃ m, kl2[i2]? = some m := ⟨_, List.getElem?_eq_getElem (by omega)⟩
                have hkp := HOWN.out.kp i2 v m hv hm2
                obtain ⟨ov, cv, rfl, hsv⟩ := hkp.src
                have hml : m.length ≤ 262144 := by obtain ⟨_, _, _, _, _, hh, _⟩ := hkp; exact hh
                have hov := HOV.out.2.2 i2 m hin hm2
                have hk := HOWN.out.k
                rw [hlen] at hk
                have ce1 : W.cell? ⟨g3, i2, none⟩ = some (.slice ov m.length cv) := own_get hk i2 _ hv
                have HKP := hide hkp
                have HML := hide hml
                have HOVM := hide hov
                clear hk hv hm2 hkp hsv hml hlen hov
                go_wp2_with fail
                go_loopw [19] (fun t19 W3 => ∃ (k : Nat), t19 = .int .i64 (k : Int) ∧ k ≤ m.length ∧ W = W3) (fun t19 _ => m.length - (intOf t19).toNat)
                case atStart => exact ⟨0, rfl, Nat.zero_le _, rfl⟩
                case round =>
                  obtain ⟨k, rfl, hk, rfl⟩ := hrel
                  have u8 := IntWalk.i64_in ((k : Int) + 1) (by have := HML.out; omega)
                  by_cases hkm : k < m.length
                  · have hkI : (k : Int) < (m.length : Int) := by omega
                    obtain ⟨gv, rfl⟩ : ∃ gv, ov = some ⟨gv, 0, none⟩ := by
                      obtain ⟨oa5, ca5, e, _, _, _, hz, hx⟩ := HKP.out
                      simp only [Value.slice.injEq] at e
                      obtain ⟨rfl, e2, rfl⟩ := e
                      cases ov with
                      | none => have := hz rfl; omega
                      | some ad5 => obtain ⟨g5, _, rfl, _⟩ := hx ad5 rfl; exact ⟨g5, rfl⟩
                    have ce6 : W.cell? ⟨gv, k, none⟩ = some (.int .i64 (-(1000 * (i2 : Int)) - (k : Int))) := by
                      have h6 := (kp_at (k := k) HKP.out hkm).1
                      rw [ovL_at HOVM.out hkm] at h6
                      simpa using h6
                    have n1 := IntWalk.i64_in (1000 * (i2 : Int)) (by omega)
                    have n2 := IntWalk.i64_in (-(1000 * (i2 : Int))) (by omega)
                    have n3 := IntWalk.i64_in (-(1000 * (i2 : Int)) - (k : Int)) (by have := HML.out; omega)
                    go_wp2_with fail
                    go_roundw
                    case rel => exact ⟨k + 1, by go_num, by omega, trivial⟩
                    case measure =>
                      simp only [intOf]
                      omega
                  · have hkm2 : k = m.length := by omega
                    subst hkm2
                    go_wp2_with fail
                    go_roundw
                    case rel => exact ⟨i2 + 1, by go_num, by omega, trivial⟩
                    case measure =>
                      simp only [intOf]
                      omega
              · have hin2 : i2 = kl.length := by omega
                subst hin2
                clear hin
                go_wp2_with fail
                go_at_call 24
                refine (HMK _).out.mono ?_
                rintro en w5 ⟨⟨v5, rfl, rfl⟩, hb5⟩
                have HB5 := hide (HB.out.trans (hb5.mono HB.out.size))
                clear hb5
                go_wp2_with fail
                go_at_call 10
                refine (HHD _).out.mono ?_
                rintro en w6 ⟨rfl, hb6⟩
                have HB6 := hide ((HB5.out.alloc HB5.out.size _).trans (hb6.mono (by simp; have := HB5.out.size; omega)))
                clear hb6
                go_wp2_with fail
                go_ret
                exact ⟨rfl, HB6.out⟩
      · have h1I : ¬ (i : Int) < (N : Int) := by omega
        obtain ⟨o3, c3, rfl⟩ := own_slice HOWN.out.k
        obtain ⟨o4, c4, rfl⟩ := own_slice HOWN.out.w
        have HKL := hide hkl
        clear hkl
        go_wp2_with fail
        go_loopw [15] (fun t15 W => ∃ (j : Nat) (kl2 : List (List Int)), t15 = .int .i64 (j : Int) ∧ j ≤ kl.length ∧ Ovr kl kl2 j ∧ Own w.heap.size W (.slice o3 kl.length c3) (.slice o4 kl.length c4) vs kl2 us kl ∧ Below w.heap.size w W) (fun t15 _ => kl.length - (intOf t15).toNat)
        case atStart => exact ⟨0, kl, rfl, Nat.zero_le _, ⟨rfl, fun _ _ => rfl, fun _ _ h => by omega⟩, HOWN.out, HB.out⟩
        case round =>
          clear HOWN HB
          obtain ⟨j, kl2, rfl, hj, hov, hown, hb⟩ := hrel
          rename World => W
          have HOV := hide hov
          have HOWN := hide hown
          have HB := hide hb
          clear hov hown hb
          have hkl3 : kl.length ≤ 36 := by have := HKL.out; omega
          have u3 := IntWalk.i64_in ((j : Int) + 1) (by omega)
          by_cases hjn : j < kl.length
          · have hjI : (j : Int) < (kl.length : Int) := by omega
            have hlen := HOV.out.1
            obtain ⟨g3, p3, e3, _⟩ := own_form HOWN.out.k (by omega)
            obtain ⟨g4, p4, e4, _⟩ := own_form HOWN.out.w (by omega)
            simp only [Value.slice.injEq] at e3 e4
            obtain ⟨rfl, e5, rfl⟩ := e3
            obtain ⟨rfl, e6, rfl⟩ := e4
            clear e5 e6
            obtain ⟨v, hv⟩ : ∃ v, vs[j]? = some v := ⟨_, List.getElem?_eq_getElem (by rw [HOWN.out.lv]; omega)⟩
            obtain ⟨u, hu⟩ : ∃ u, us[j]? = some u := ⟨_, List.getElem?_eq_getElem (by rw [HOWN.out.lu]; omega)⟩
            obtain ⟨m, hm⟩ : ∃ m, kl[j]? = some m := ⟨_, List.getElem?_eq_getElem hjn⟩
            have hm2 : kl2[j]? = some m := by rw [HOV.out.2.1 j (Nat.le_refl _)]; exact hm
            have hkp := HOWN.out.kp j v m hv hm2
            have hkq := HOWN.out.wt j u m hu hm
            obtain ⟨ov, cv, rfl, hsv⟩ := hkp.src
            obtain ⟨ou, cu, rfl, hsu⟩ := hkq.src
            have hml : m.length ≤ 262144 := by obtain ⟨_, _, _, _, _, hh, _⟩ := hkp; exact hh
            have HSAME := fun (W2 : World) (hb : Below W.heap.size W W2) => hide (same19_i W2 ov ou m.length cv cu m (hsv.below hb) (hsu.below hb) rfl (by unfold maxLen; omega))
            have hk := HOWN.out.k
            rw [hlen] at hk
            have ce1 : W.cell? ⟨g3, j, none⟩ = some (.slice ov m.length cv) := own_get hk j _ hv
            have ce2 : W.cell? ⟨g4, j, none⟩ = some (.slice ou m.length cu) := own_get HOWN.out.w j _ hu
            have HDR : Hid (Below W.heap.size W W.drew) := hide (by have h0 := Below.refl W.heap.size W; exact ⟨h0.os, h0.tape, h0.output, h0.size, h0.block⟩)
            have HV := hide hv
            have HM2 := hide hm2
            have HML := hide hml
            clear hk hv hu hm hm2 hkp hkq hsv hsu hml hlen
            go_wp2_with fail
            go_region_with (go_at_call 19; refine (HSAME _ HDR.out).out.mono ?_; rintro en w2 ⟨rfl, hb2⟩; have HB2 := hide hb2; clear hb2)
            all_goals
              have HB2w := hide (HDR.out.trans HB2.out)
              have HOWN2 := hide (HOWN.out.below HB2w.out)
              have HBB := hide (HB.out.trans (HB2w.out.mono HB.out.size))
              have HOWN2a := hide (HOWN2.out.below ((Below.refl _ w2).alloc (Nat.le_refl _) (.cells #[.int .i64 (-1), .int .i64 (-2), .int .i64 (-3)] 3)))
              have hk := HOWN2.out.k
              rw [HOV.out.1] at hk
              have ce3 : w2.cell? ⟨g3, j, none⟩ = some (.slice ov m.length cv) := own_get hk j _ HV.out
              clear hk ce1 ce2
              have u4 := IntWalk.i64_in ((m.length : Int) + 3) (by have := HML.out; omega)
              have HTH := hide (three_cells w2 (-1) (-2) (-3))
              go_wp2_with (at_builtin; refine wp_more rfl (.tmp 119) (.tmp 120) rfl i3 hi3 hy0 hy1 hy2 (HOWN2a.out.kp j _ m HV.out HM2.out) rfl ⟨w2.heap.size, 0, none⟩ 3 [-1, -2, -3] rfl rfl HTH.out ?_; rintro o5 c5 w3 hk3 hon3; have HK3 := hide hk3; have HON3 := hide hon3; have HOWN3 := hide (own_kept HOWN2a.out HV.out HM2.out HK3.out HON3.out); have hk := HOWN3.out.k; rw [HOV.out.1] at hk; have ce4 : w3.cell? ⟨g3, j, none⟩ = some (.slice ov m.length cv) := own_get hk j _ HV.out; have HBB3 := hide (HBB.out.trans (((HON3.out).below (fun q hq => (HK3.out.blk hq).1) (by have := HBB.out.size; simp; omega)) |> fun hx => (((Below.refl w.heap.size w2).alloc HBB.out.size (.cells #[.int .i64 (-1), .int .i64 (-2), .int .i64 (-3)] 3)).trans hx))); clear hk hk3 hon3)
              go_loopw [17] (fun t17 W4 => ∃ (k : Nat), t17 = .int .i64 (k : Int) ∧ k ≤ m.length ∧ Own w.heap.size W4 (.slice (some ⟨g3, 0, none⟩) kl.length c3) (.slice (some ⟨g4, 0, none⟩) kl.length c4) vs (kl2.set j (ovK j k m)) us kl ∧ Below w.heap.size w W4) (fun t17 _ => m.length - (intOf t17).toNat)
              case atStart => exact ⟨0, rfl, Nat.zero_le _, by rw [ovK_zero]; exact (by have := own_set_self HOWN3.out HM2.out; exact this), HBB3.out⟩
              case round =>
                obtain ⟨k, rfl, hk, hown4, hb4⟩ := hrel
                rename World => W4
                have HOWN4 := hide hown4
                have HB4 := hide hb4
                clear hown4 hb4
                have hj4 : j < (kl2.set j (ovK j k m)).length := by rw [List.length_set, HOV.out.1]; exact hjn
                have hkj : (kl2.set j (ovK j k m))[j]? = some (ovK j k m) := by rw [List.getElem?_set_self (by simpa using hj4)]
                have hkp4 := HOWN4.out.kp j _ _ HV.out hkj
                have hk4 := HOWN4.out.k
                rw [List.length_set, HOV.out.1] at hk4
                have ce5 : W4.cell? ⟨g3, j, none⟩ = some (.slice ov m.length cv) := own_get hk4 j _ HV.out
                have HKP4 := hide hkp4
                have HKJ := hide hkj
                clear hkp4 hkj hj4 hk4
                have u5 := IntWalk.i64_in ((k : Int) + 1) (by have := HML.out; omega)
                by_cases hkm : k < m.length
                · have hkI : (k : Int) < (m.length : Int) := by omega
                  obtain ⟨gv, rfl⟩ : ∃ gv, ov = some ⟨gv, 0, none⟩ := by
                    obtain ⟨oa5, ca5, e, _, _, _, hz, hx⟩ := HKP4.out
                    simp only [Value.slice.injEq] at e
                    obtain ⟨rfl, e2, rfl⟩ := e
                    cases ov with
                    | none => have := hz rfl; omega
                    | some ad5 => obtain ⟨g5, _, rfl, _⟩ := hx ad5 rfl; exact ⟨g5, rfl⟩
                  have hlk : (ovK j k m).length = m.length := ovK_length hk
                  obtain ⟨⟨y6, ce6⟩, fr6⟩ : (∃ y, W4.cell? ⟨gv, k, none⟩ = some (.int .i64 y)) ∧ W4.frozen? ⟨gv, k, none⟩ = false := by
                    have h6 := kp_at (k := k) HKP4.out (by omega)
                    exact ⟨⟨_, h6.1⟩, h6.2⟩
                  have HLK := hide hlk
                  clear hlk
                  have n1 := IntWalk.i64_in (1000 * (j : Int)) (by omega)
                  have n2 := IntWalk.i64_in (-(1000 * (j : Int))) (by omega)
                  have n3 := IntWalk.i64_in (-(1000 * (j : Int)) - (k : Int)) (by have := HML.out; omega)
                  go_wp2_with fail
                  go_roundw
                  case rel =>
                    refine ⟨k + 1, by go_num, by omega, ?_, ?_⟩
                    · have h1 := HOWN4.out.setK HV.out HKJ.out (kp_store (k := k) (0 - 1000 * (j : Int) - (k : Int)) HKP4.out (by have := HLK.out; omega)) only_store
                      rw [List.set_set, ovK_set hkm] at h1
                      simpa using h1
                    · exact (HB4.out.trans (only_store.below (fun q hq => (HKP4.out.blk hq).1) HB4.out.size))
                  case measure =>
                    simp only [intOf]
                    omega
                · have hkm2 : k = m.length := by omega
                  subst hkm2
                  have hown5 := HOWN4.out
                  rw [ovK_all] at hown5
                  have HOWN5 := hide hown5
                  clear hown5
                  go_wp2_with fail
                  go_roundw
                  case rel => exact ⟨j + 1, _, by go_num, by omega, HOV.out.step HM2.out, HOWN5.out, HB4.out⟩
                  case measure =>
                    simp only [intOf]
                    omega
          · have hjn2 : j = kl.length := by omega
            subst hjn2
            clear hjn
            have u6 := IntWalk.i64_in (0 : Int) (by omega)
            go_wp2_with fail
            go_loopw [18] (fun t18 W2 => ∃ (i2 : Nat), t18 = .int .i64 (i2 : Int) ∧ i2 ≤ kl.length ∧ W = W2) (fun t18 _ => kl.length - (intOf t18).toNat)
            case atStart => exact ⟨0, rfl, Nat.zero_le _, rfl⟩
            case round =>
              obtain ⟨i2, rfl, hi2, rfl⟩ := hrel
              have u7 := IntWalk.i64_in ((i2 : Int) + 1) (by omega)
              by_cases hin : i2 < kl.length
              · have hinI : (i2 : Int) < (kl.length : Int) := by omega
                have hlen := HOV.out.1
                obtain ⟨g3, p3, e3, _⟩ := own_form HOWN.out.k (by omega)
                simp only [Value.slice.injEq] at e3
                obtain ⟨rfl, e5, rfl⟩ := e3
                clear e5
                obtain ⟨v, hv⟩ : ∃ v, vs[i2]? = some v := ⟨_, List.getElem?_eq_getElem (by rw [HOWN.out.lv]; omega)⟩
                obtain ⟨m, hm2⟩ : ∃ m, kl2[i2]? = some m := ⟨_, List.getElem?_eq_getElem (by omega)⟩
                have hkp := HOWN.out.kp i2 v m hv hm2
                obtain ⟨ov, cv, rfl, hsv⟩ := hkp.src
                have hml : m.length ≤ 262144 := by obtain ⟨_, _, _, _, _, hh, _⟩ := hkp; exact hh
                have hov := HOV.out.2.2 i2 m hin hm2
                have hk := HOWN.out.k
                rw [hlen] at hk
                have ce1 : W.cell? ⟨g3, i2, none⟩ = some (.slice ov m.length cv) := own_get hk i2 _ hv
                have HKP := hide hkp
                have HML := hide hml
                have HOVM := hide hov
                clear hk hv hm2 hkp hsv hml hlen hov
                go_wp2_with fail
                go_loopw [19] (fun t19 W3 => ∃ (k : Nat), t19 = .int .i64 (k : Int) ∧ k ≤ m.length ∧ W = W3) (fun t19 _ => m.length - (intOf t19).toNat)
                case atStart => exact ⟨0, rfl, Nat.zero_le _, rfl⟩
                case round =>
                  obtain ⟨k, rfl, hk, rfl⟩ := hrel
                  have u8 := IntWalk.i64_in ((k : Int) + 1) (by have := HML.out; omega)
                  by_cases hkm : k < m.length
                  · have hkI : (k : Int) < (m.length : Int) := by omega
                    obtain ⟨gv, rfl⟩ : ∃ gv, ov = some ⟨gv, 0, none⟩ := by
                      obtain ⟨oa5, ca5, e, _, _, _, hz, hx⟩ := HKP.out
                      simp only [Value.slice.injEq] at e
                      obtain ⟨rfl, e2, rfl⟩ := e
                      cases ov with
                      | none => have := hz rfl; omega
                      | some ad5 => obtain ⟨g5, _, rfl, _⟩ := hx ad5 rfl; exact ⟨g5, rfl⟩
                    have ce6 : W.cell? ⟨gv, k, none⟩ = some (.int .i64 (-(1000 * (i2 : Int)) - (k : Int))) := by
                      have h6 := (kp_at (k := k) HKP.out hkm).1
                      rw [ovL_at HOVM.out hkm] at h6
                      simpa using h6
                    have n1 := IntWalk.i64_in (1000 * (i2 : Int)) (by omega)
                    have n2 := IntWalk.i64_in (-(1000 * (i2 : Int))) (by omega)
                    have n3 := IntWalk.i64_in (-(1000 * (i2 : Int)) - (k : Int)) (by have := HML.out; omega)
                    go_wp2_with fail
                    go_roundw
                    case rel => exact ⟨k + 1, by go_num, by omega, trivial⟩
                    case measure =>
                      simp only [intOf]
                      omega
                  · have hkm2 : k = m.length := by omega
                    subst hkm2
                    go_wp2_with fail
                    go_roundw
                    case rel => exact ⟨i2 + 1, by go_num, by omega, trivial⟩
                    case measure =>
                      simp only [intOf]
                      omega
              · have hin2 : i2 = kl.length := by omega
                subst hin2
                clear hin
                go_wp2_with fail
                go_at_call 24
                refine (HMK _).out.mono ?_
                rintro en w5 ⟨⟨v5, rfl, rfl⟩, hb5⟩
                have HB5 := hide (HB.out.trans (hb5.mono HB.out.size))
                clear hb5
                go_wp2_with fail
                go_at_call 10
                refine (HHD _).out.mono ?_
                rintro en w6 ⟨rfl, hb6⟩
                have HB6 := hide ((HB5.out.alloc HB5.out.size _).trans (hb6.mono (by simp; have := HB5.out.size; omega)))
                clear hb6
                go_wp2_with fail
                go_ret
                exact ⟨rfl, HB6.out⟩
end Go.Proofs.Ytjflllfkgbhemaa
namespace Go.Proofs.Ytjflllfkgbhemaa.verifyOwn
open Go.ChangeShapes Go.WideShapes Go.ChangeAt Go.RowKit Go.Proofs.Ytjflllfkgbhemaa.opened
set_option linter.unusedVariables false

theorem own : ownKnob Try.prog.godebug = none := by kernel_rfl

set_option maxRecDepth 100000 in
theorem lifted (os : Os) (started : os.Started) (H : Type) (enc : TypeId × Value → H) :
    ReturnsInHanded {} Try.checked os 9 .any (Rows.verifyOwnSpec.pre6 enc Try.prog Try.f9 Rows.verifyOwnRow.domain false) (Rows.verifyOwnSpec.post enc Try.prog Try.f9 false true false false) := by
  refine returnsInHanded_of_change (C := Try.checked) own started (by kernel_rfl) Try.func9
    (ChangeSpec.witness6 (enc := enc) (C := Try.checked) false ⟨#[], #[.slice none 0 0], []⟩ 8 (by kernel_rfl) (by kernel_rfl) (by kernel_rfl) (by kernel_rfl)) ?_
  intro W base args ds gs before hval0 hW hcnd _
  have hval : ∀ (j : Nat) t v, Try.f9.params[j]? = some t → args[j]? = some v → Value.okWide Try.prog W .any base t v := hval0
  have hW' := hW
  have hlt : ∀ p ∈ before, p.block < W.heap.size := fun p hp => hW.lt p hp
  obtain ⟨p, q, hA0, hV, rfl, hfz, hnd⟩ := hW
  have hA : DataW.TrodAll enc Try.prog W 0 (fun _ => true) true Try.f9.params.toList args.toList ds p := hA0
  have hAk := hA
  rw [Try.params9] at hA hval
  obtain ⟨v0, vs0, d0, ds0, p0, q0, hargs, rfl, rfl, h0, r0⟩ := trodAll_cons hA
  obtain ⟨rfl, rfl, rfl⟩ := trodAll_nil r0
  obtain rfl : args = #[v0] := by cases args; simp_all
  obtain ⟨rfl, rfl⟩ := trodVars_none hV
  obtain ⟨oa, ca, l, rfl, hprogs, hmem, hlen⟩ := open_progs (hval 0 52 v0 rfl rfl) h0
  clear hA0 hval0
  simp only [List.append_nil] at hW' hlt
  refine (own_i W oa ca l hprogs hmem hlen).mono fun e W' ⟨he, hb⟩ => ?_
  subst he
  exact ⟨_, rfl, post_of_below (pa := p0 ++ []) (pv := []) hW' (fun _ _ _ => (trodAll_cons_mk (shut_bool Try.underlying4 _) trodAll_mk0))
    (fun sp hs => stays_all hb (by decide +kernel) hAk (fun x hx => hlt x (by simpa using hx)) (fun x hx => hs x (by simpa using hx))) (fun _ _ => rfl) (by simp) hb
    (ok_one (by kernel_rfl) rfl (okWide_bool_mk Try.underlying4 _))⟩

theorem over : Rows.verifyOwnRow.holds Try.pinned (OpenSpec.ofChange Rows.verifyOwnSpec) :=
  OpenClaim.holds_of_wide 9 Try.f9 rfl rfl rfl rfl rfl rfl rfl ⟨rfl, rfl, rfl, rfl, rfl⟩ rfl rfl rfl rfl rfl (by kernel_rfl) Try.func9 (by kernel_rfl)
    (of_decide_eq_true (by kernel_rfl)) (by unfold Func.isWrapper; first | (rw [if_pos (by decide +kernel)]; kernel_rfl) | (rw [if_neg (by decide +kernel)]; exact ⟨rfl, rfl⟩))
    (fun os started H enc _ => lifted os started H enc)

theorem proved : Rows.VerifyOwnSaid :=
  over
#print axioms proved
end Go.Proofs.Ytjflllfkgbhemaa.verifyOwn
