/- The walk of ArenaSeqs, where an arena is opened and there are lists. Conditions: those; both scripts lie in memory. -/
import Derived.Test.YtbjmmfoklnhiiaaX2
import Derived.Deep.RegionWith
import Derived.Deep.CutBlock
import Derived.Deep.DeepCutAuto
import Derived.Shelf.RegionOpen
namespace Go.Proofs.Ytbjmmfoklnhiiaa
open Go.RowKit Go.Shelf
theorem run_store_fun {P : Program} {w : World} {a : Addr} {m : Mode} (f : Fn) (x y : Array Value) : (store a (.func f x y) m).run P w = stored P w a (.func f x y) m := run_store P w a _ m rfl
attribute [local go_sem] run_store_fun
attribute [local go_sem] Oper.semAt_some
/-- a body that does not panic -/
def qM (F : Fence) (n : Nat) (P : Program) (fn : Func) (R : Ending → World → Prop) : Exit → Act → World → Prop
  | .normal, a, w => LeavesInM F n P fn a.tmps R a.defers .returning w
  | .ret, a, w => LeavesInM F n P fn a.tmps R a.defers .returning w
  | _, _, _ => False
theorem qM_imp {F : Fence} {n : Nat} {P : Program} {fn : Func} {R : Ending → World → Prop} {e : Exit} {a : Act} {w : World} (h : qM F n P fn R e a w) : bodyPostM F n P fn R e a w := by
  cases e with
  | normal => exact h
  | ret => exact h
  | exit id => exact h.elim
  | goto t => exact h.elim
  | panic c => exact h.elim
  | outgrown => exact h.elim
theorem split_tail {P : Program} {s : Code} {Q : Exit → Act → World → Prop} {a : Act} {w : World} (R : Act → World → Prop) (tail : ∀ a' w', R a' w' → Q .normal a' w') (first : (∀ a' w', R a' w' → Q .normal a' w') → s.wp P Q a w) : s.wp P Q a w := first tail
set_option maxRecDepth 100000 in
set_option maxHeartbeats 20000000 in
theorem seqs_run (w : World) (nn ll : Nat) (st : Int) (o1 o2 : Option Addr) (l1 c1 l2 c2 : Nat) (hn2 : nn ≤ 2000) (HE : Hid (newE nn ll = 0)) (hl : 0 < ll) (HS1 : Hid (Script w o1 l1)) (HS2 : Hid (Script w o2 l2)) : Calls Try.prog 6 #[.int .i64 nn, .int .i64 ll, .slice o1 l1 c1, .slice o2 l2 c2, .int .i64 st] w fun en w' => en = .returned (.bool true) ∧ Below w.heap.size w w' := by
  have HK := fun W => hide (known_i W)
  have hz : (((ll : Nat) : Int) == 0) = false := by simp; omega
  refine (callsIn_wide (n := 9)).1 ?_
  refine callsIn_of_wp_marks Try.func6 rfl trivial ?_ rfl
  refine wpIn_mono (Q := qM Fence.wide 9 Try.prog Try.f6 _) ?_ (fun e a w h => qM_imp h)
  refine wpIn_wide.2 ?_
  simp only [Try.ntmps6, List.size_toArray, List.length_cons, List.length_nil, Nat.reduceAdd, Nat.reduceSub, Array.replicate_succ, Array.replicate_zero, List.push_toArray, List.append_toArray, List.nil_append, List.cons_append]
  let _bp : Exit → Act → World → Prop := bodyPost Try.prog Try.f6 (fun _ _ => True)
  go_upto_block 0 with
      (first
      | (go_at_call 10
         refine (HK _).out.mono ?_
         rintro en w1 ⟨rfl, hB1⟩
         have HB1 := hide hB1
         clear hB1)
      | (go_at_call 11
         refine ((Ars.none_ _ w1 nn ll).open_ (Nat.le_refl _) hn2 HE.out).mono ?_
         rintro en w2 ⟨a, rfl, _, hA2, hB2⟩
         obtain ⟨f2, hL2⟩ := hA2.get (upd_same _ _ _)
         have HL2 := hide hL2
         have HB2 := hide (HB1.out.trans (hB2.mono HB1.out.size))
         have hsz2 := HB2.out.size
         have hsz1 := hB2.size
         have hszw : w.heap.size + 3 ≤ w1.heap.size := by have := HB1.out.size; simpa using this
         clear hA2 hB2))
  simp only [World.size_alloc] at hsz2
  have b0 : Blk w2 w.heap.size 23 #[.slice o2 l2 c2] := (((Blk.new w 23 #[.slice o2 l2 c2]).alloc _).alloc _).below HB2.out (by simp; omega)
  have b1 : Blk w2 (w.heap.size + 1) 3 #[.int .i64 st] := by
    have := ((Blk.new (w.alloc (.cells #[.slice o2 l2 c2] 23)) 3 #[.int .i64 st]).alloc (.cells #[.bool false] 4)).below HB2.out (by simp)
    simpa using this
  have b2 : Blk w2 (w.heap.size + 1 + 1) 4 #[.bool false] := by
    have := (Blk.new ((w.alloc (.cells #[.slice o2 l2 c2] 23)).alloc (.cells #[.int .i64 st] 3)) 4 #[.bool false]).below HB2.out (by simp)
    simpa using this
  have hBw : Below w.heap.size w w2 := ((((Below.refl _ w).alloc (Nat.le_refl _) _).alloc (by simp) _).alloc (by simp; omega) _).trans (HB2.out.mono (by simp; omega))
  obtain ⟨X, hX⟩ : ∃ X : Nat → Prop, X = fun b => b = w.heap.size ∨ b = w.heap.size + 1 ∨ b = w.heap.size + 1 + 1 ∨ b = w2.heap.size := ⟨_, rfl⟩
  have hx0 : X w.heap.size := by rw [hX]; simp
  have hx1 : X (w.heap.size + 1) := by rw [hX]; simp
  have hx2 : X (w.heap.size + 1 + 1) := by rw [hX]; simp
  have hx3 : X w2.heap.size := by rw [hX]; simp
  have hSix : Sx X w1.heap.size (w2.alloc (.cells #[.pointer (some ⟨a, 0, none⟩)] 24)) a nn ll := by
    have hL := HL2.out
    refine ⟨ASt.init 0 nn ll ll, f2, hL.below ((Below.refl _ w2).alloc (Nat.le_refl _) _), fun b hb => ?_⟩
    rw [hX] at hb
    simp only [World.size_alloc]
    rcases hb with rfl | rfl | rfl | rfl
    · exact ⟨by omega, fun h => by have := hL.fresh _ h; omega⟩
    · exact ⟨by omega, fun h => by have := hL.fresh _ h; omega⟩
    · exact ⟨by omega, fun h => by have := hL.fresh _ h; omega⟩
    · exact ⟨by omega, fun h => by have := hL.lt h; omega⟩
  have HSX := hide hSix
  have HB0 := hide b0
  have HBX1 := hide b1
  have HBX2 := hide b2
  have HBW := hide hBw
  have HXX := hide hX
  have H23 : Hid (w2.heap.size < w2.heap.size + 1) := by exact Nat.lt_succ_self _
  clear hSix b0 b1 b2 hBw hX HL2
  go_cut [12] (fun s12 wx => (∃ z : Value, s12 = z) ∧ Sx X w1.heap.size wx a nn ll ∧ Blk wx w.heap.size 23 #[.slice o2 l2 c2] ∧ Blk wx (w.heap.size + 1) 3 #[.int .i64 st] ∧ Blk wx (w.heap.size + 1 + 1) 4 #[.bool false] ∧
      Blk wx w2.heap.size 24 #[.pointer (some ⟨a, 0, none⟩)] ∧ w1.heap.size ≤ wx.heap.size ∧ Below w.heap.size w wx)
  case first =>
    go_wp2_with fail
    go_loopw [12] (fun tx W => ∃ (i : Nat), tx = .int .i64 (i : Int) ∧ i ≤ l1 ∧ i ≤ 200 ∧ Sx X w1.heap.size W a nn ll ∧ Blk W w.heap.size 23 #[.slice o2 l2 c2] ∧ Blk W (w.heap.size + 1) 3 #[.int .i64 st] ∧ Blk W (w.heap.size + 1 + 1) 4 #[.bool false] ∧
        Blk W w2.heap.size 24 #[.pointer (some ⟨a, 0, none⟩)] ∧ w1.heap.size ≤ W.heap.size ∧ Below w.heap.size w W) (fun tx _ => 200 - (intOf tx).toNat)
    case atStart => exact ⟨0, rfl, Nat.zero_le _, Nat.zero_le _, HSX.out, HB0.out.alloc _, HBX1.out.alloc _, HBX2.out.alloc _, Blk.new _ _ _, by simp; omega, HBW.out.alloc (by omega) _⟩
    case round =>
      obtain ⟨i, rfl, hi1, hi2, hS3, k0, k1, k2, k3, hs3, hB3⟩ := hrel
      rename World => w3
      by_cases hx : i < l1 ∧ i < 200
      · obtain ⟨hxa, hxb⟩ := hx
        obtain ⟨p, rfl, hab, k, x, y, z, q0, q1, q2, q3⟩ := (HS1.out.below hB3) i hxa
        have e3 : w3.cell? ⟨w2.heap.size, 0, none⟩ = some (.pointer (some ⟨a, 0, none⟩)) := by rw [k3.cell]; rfl
        have hS3d : Sx X w1.heap.size w3.drew a nn ll := hS3.below (Below.refl _ w3).drew
        have hd := hS3d.do_ hs3 k x y z
        have HD := hide hd
        clear hd
        go_wp2
        go_region_with (go_at_call 12; refine HD.out.mono ?_; rintro en w4 ⟨rfl, hS4, hk4, hB4, _⟩)
        all_goals
          have HS4 := hide hS4
          have HK4 := hide hk4
          have HB4 := hide hB4
          clear hS4 hk4 hB4
          go_wp2
          go_roundw
          case rel =>
            have hk := HK4.out
            refine ⟨i + 1, by go_num, by omega, by omega, HS4.out, ?_, ?_, ?_, ?_, Nat.le_trans hs3 HB4.out.size, hB3.drew.trans (HB4.out.mono (by omega))⟩
            · exact (hk _ hx0).trans k0
            · exact (hk _ hx1).trans k1
            · exact (hk _ hx2).trans k2
            · exact (hk _ hx3).trans k3
          case measure => simp [intOf]; omega
      · have HS3 := hide hS3
        have hor : ¬ i < l1 ∨ (i < l1 ∧ ¬ i < 200) := by omega
        clear hx
        rcases hor with hor | ⟨hor, hor2⟩
        all_goals
          go_wp2
          go_meet
          exact ⟨⟨_, rfl⟩, HS3.out, k0, k1, k2, k3, hs3, hB3⟩
  case rest =>
    obtain ⟨-, ⟨s, h6⟩, k0, k1, k2, k3, hs3, hB3⟩ := hcut
    obtain ⟨wa, rfl⟩ : ∃ x, x = wc := ⟨_, rfl⟩
    obtain ⟨xs, hxs, hxl⟩ := h6.told (roundV st ll) 0
    obtain ⟨ys, hys, hyl⟩ := h6.told (roundV (wrap64 (st + 1)) ll) 1
    have H6 := hide h6
    have HX := hide hxs
    have HY := hide hys
    have K0 := hide k0
    have K1 := hide k1
    have K2 := hide k2
    have K3 := hide k3
    have hl1 : (0 : Int) < (ll : Int) := by omega
    have hl2 : (ll : Int) ≤ 256 := by
      have h := HE.out
      unfold newE at h
      split at h
      · cases h
      · omega
    have heq1 := eqf wa.heap.size
    have e3 : wa.cell? ⟨w2.heap.size, 0, none⟩ = some (.pointer (some ⟨a, 0, none⟩)) := by rw [k3.cell]; rfl
    have f3 : wa.cell? ⟨w.heap.size + 1, 0, none⟩ = some (.int .i64 st) := by rw [k1.cell]; rfl
    have tok1 : True := trivial
    have tok2 : True := trivial
    have tok3 : True := trivial
    have tok4 : True := trivial
    clear h6 hxs hys k0 k1 k2 k3
    go_wp2_with
      (first
      | (go_at_call 14
         refine (round_i _ _ _ hl1 hl2).mono ?_
         rintro en w' ⟨rfl, rfl⟩)
      | (go_at_call 15
         have _t := tok1
         refine (H6.out.all HX.out).mono ?_
         rintro en w4 ⟨v1, rfl, hbx1, hr1, hb4⟩
         have hq := (H6.out.below hb4).below ((Below.refl _ w4).alloc (Nat.le_refl _) (.cells #[.func (.func 38) #[] #[.pointer (some ⟨wa.heap.size, 0, none⟩)]] 33))
         have H64 := hide hq
         have k34 := K3.out.below hb4 K3.out.lt
         have K34 := hide k34
         have e4 : (w4.alloc (.cells #[.func (.func 38) #[] #[.pointer (some ⟨wa.heap.size, 0, none⟩)]] 33)).cell? ⟨w2.heap.size, 0, none⟩ = some (.pointer (some ⟨a, 0, none⟩)) := by rw [(k34.alloc _).cell]; rfl
         have HX1 := hide hbx1
         have HR1 := hide hr1
         have HB4 := hide hb4
         have heq2 := eqf (w4.heap.size + 1)
         clear tok1 hq hbx1 hr1 hb4 k34)
      | (go_at_call 15
         have _t := tok2
         refine (H64.out.all HY.out).mono ?_
         rintro en w6 ⟨v2, rfl, hbx2, hr2, hb6⟩
         have k36 := (K34.out.alloc (.cells #[.func (.func 38) #[] #[.pointer (some ⟨wa.heap.size, 0, none⟩)]] 33)).below hb6 (K34.out.alloc _).lt
         have K36 := hide k36
         have e6 : (w6.alloc (.cells #[.func (.func 38) #[] #[.pointer (some ⟨w4.heap.size + 1, 0, none⟩)]] 33)).cell? ⟨w2.heap.size, 0, none⟩ = some (.pointer (some ⟨a, 0, none⟩)) := by rw [(k36.alloc _).cell]; rfl
         have kf := (Blk.new w4 33 #[.func (.func 38) #[] #[.pointer (some ⟨wa.heap.size, 0, none⟩)]]).below hb6 (by simp)
         have KF6 := hide kf
         have f6 : (w6.alloc (.cells #[.func (.func 38) #[] #[.pointer (some ⟨w4.heap.size + 1, 0, none⟩)]] 33)).cell? ⟨w4.heap.size, 0, none⟩ = some (.func (.func 38) #[] #[.pointer (some ⟨wa.heap.size, 0, none⟩)]) := by rw [(kf.alloc _).cell]; rfl
         have HX2 := hide hbx2
         have HR2 := hide hr2
         have HB6 := hide hb6
         have hq := (H64.out.below hb6).below ((Below.refl _ w6).alloc (Nat.le_refl _) (.cells #[.func (.func 38) #[] #[.pointer (some ⟨w4.heap.size + 1, 0, none⟩)]] 33))
         have H67 := hide hq
         clear tok2 hbx2 hr2 hb6 k36 kf hq)
      | (go_at_call 16
         have _t := tok3
         refine (H67.out.listed HX.out).mono ?_
         rintro en w8 ⟨u1, rfl, hw1, hb8⟩
         obtain ⟨oa1, ca1, rfl⟩ := own_len hw1
         have k38 := (K36.out.alloc (.cells #[.func (.func 38) #[] #[.pointer (some ⟨w4.heap.size + 1, 0, none⟩)]] 33)).below hb8 (K36.out.alloc _).lt
         have K38 := hide k38
         have e8 : (w8.alloc (.cells #[.slice oa1 (xs.length * 2) ca1] 35)).cell? ⟨w2.heap.size, 0, none⟩ = some (.pointer (some ⟨a, 0, none⟩)) := by rw [(k38.alloc _).cell]; rfl
         have hq := (H67.out.below hb8).below ((Below.refl _ w8).alloc (Nat.le_refl _) (.cells #[.slice oa1 (xs.length * 2) ca1] 35))
         have H69 := hide hq
         have HW1 := hide hw1
         have HB8 := hide hb8
         clear tok3 hq hw1 hb8 k38)
      | (go_at_call 16
         have _t := tok4
         refine (H69.out.listed HY.out).mono ?_
         rintro en w10 ⟨u2, rfl, hw2, hb10⟩
         obtain ⟨oa2, ca2, rfl⟩ := own_len hw2
         have kf := (((KF6.out.alloc (.cells #[.func (.func 38) #[] #[.pointer (some ⟨w4.heap.size + 1, 0, none⟩)]] 33)).below HB8.out (KF6.out.alloc _).lt).alloc (.cells #[.slice oa1 (xs.length * 2) ca1] 35)).below hb10 (((KF6.out.alloc (.cells #[.func (.func 38) #[] #[.pointer (some ⟨w4.heap.size + 1, 0, none⟩)]] 33)).below HB8.out (KF6.out.alloc _).lt).alloc _).lt
         have KF10 := hide kf
         have f10 : ((w10.alloc (.cells #[.slice oa2 (ys.length * 2) ca2] 35)).alloc (.cells #[.int .i64 0] 3)).cell? ⟨w4.heap.size, 0, none⟩ = some (.func (.func 38) #[] #[.pointer (some ⟨wa.heap.size, 0, none⟩)]) := by rw [((kf.alloc _).alloc _).cell]; rfl
         have HW2 := hide hw2
         have HB10 := hide hb10
         clear tok4 hw2 hb10 kf))
    obtain ⟨W0, hW0⟩ : ∃ W0, (w10.alloc (.cells #[.slice oa2 (ys.length * 2) ca2] 35)).alloc (.cells #[.int .i64 0] 3) = W0 := ⟨_, rfl⟩
    have tw10 : Below w10.heap.size w10 W0 := by rw [← hW0]; exact ((Below.refl _ w10).alloc (Nat.le_refl _) _).alloc (by simp) _
    have tw9 := HB10.out.trans (tw10.mono HB10.out.size)
    have tw8 : Below w8.heap.size w8 W0 := ((Below.refl _ w8).alloc (Nat.le_refl _) _).trans (tw9.mono (by simp))
    have tw7 := HB8.out.trans (tw8.mono HB8.out.size)
    have tw6 : Below w6.heap.size w6 W0 := ((Below.refl _ w6).alloc (Nat.le_refl _) _).trans (tw7.mono (by simp))
    have tw5 := HB6.out.trans (tw6.mono HB6.out.size)
    have tw4 : Below w4.heap.size w4 W0 := ((Below.refl _ w4).alloc (Nat.le_refl _) _).trans (tw5.mono (by simp))
    have tw3 := HB4.out.trans (tw4.mono HB4.out.size)
    have z3 := HB4.out.size
    have z5 := HB6.out.size
    have z7 := HB8.out.size
    have z9 := HB10.out.size
    have z10 : W0.heap.size = w10.heap.size + 2 := by rw [← hW0]; simp
    simp only [World.size_alloc] at z5 z7 z9
    have hHeld : Held w.heap.size (w.heap.size + 1) w2.heap.size w4.heap.size w6.heap.size w8.heap.size w10.heap.size wa.heap.size (w4.heap.size + 1) (.slice o2 l2 c2) st a v1 v2 (.slice oa1 (xs.length * 2) ca1) (.slice oa2 (ys.length * 2) ca2) xs ys W0 := by
      refine ⟨K0.out.below tw3 K0.out.lt, K1.out.below tw3 K1.out.lt, K3.out.below tw3 K3.out.lt, (Blk.new w4 _ _).below tw5 (by simp), (Blk.new w6 _ _).below tw7 (by simp), (Blk.new w8 _ _).below tw9 (by simp), ?_, HX1.out.below tw4 HX1.out.lt, ?_, ?_, ?_, ?_, ?_⟩
      · rw [← hW0]; exact (Blk.new w10 _ _).alloc _
      · have h := HX2.out.below tw6 HX2.out.lt
        simpa using h
      · exact own_rebase (own_keep HR1.out fun g hg => tw4.block g (HR1.out.lt g hg).2) (fun _ _ => Nat.zero_le _)
      · exact own_rebase (own_keep HR2.out fun g hg => tw6.block g (HR2.out.lt g hg).2) (fun _ _ => Nat.zero_le _)
      · exact own_rebase (own_keep HW1.out fun g hg => tw8.block g (HW1.out.lt g hg).2) (fun _ _ => Nat.zero_le _)
      · exact own_rebase (own_keep HW2.out fun g hg => tw10.block g (HW2.out.lt g hg).2) (fun _ _ => Nat.zero_le _)
    have hbk : Blk W0 (w10.heap.size + 1) 3 #[.int .i64 ((0 : Nat) : Int)] := by
      rw [← hW0]
      have := Blk.new (w10.alloc (.cells #[.slice oa2 (ys.length * 2) ca2] 35)) 3 #[.int .i64 0]
      simpa using this
    have hre : Blk W0 (w.heap.size + 1 + 1) 4 #[.bool false] := K2.out.below tw3 K2.out.lt
    have hlow : ∀ b, hasB w.heap.size (w.heap.size + 1) w2.heap.size w4.heap.size w6.heap.size w8.heap.size w10.heap.size wa.heap.size (w4.heap.size + 1) v1 v2 (.slice oa1 (xs.length * 2) ca1) (.slice oa2 (ys.length * 2) ca2) b → (X b ∨ wa.heap.size ≤ b) ∧ b < w10.heap.size + 1 ∧ b ≠ w.heap.size + 1 + 1 := by
      have q0 := K0.out.lt
      have q1 := K1.out.lt
      have q2 := K2.out.lt
      have q3 := K3.out.lt
      intro b hb
      rcases hb with rfl | rfl | rfl | rfl | rfl | rfl | rfl | rfl | rfl | hb | hb | hb | hb
      · exact ⟨.inl hx0, by omega, by omega⟩
      · exact ⟨.inl hx1, by omega, by omega⟩
      · exact ⟨.inl hx3, by omega, by omega⟩
      · exact ⟨.inr (by omega), by omega, by omega⟩
      · exact ⟨.inr (by omega), by omega, by omega⟩
      · exact ⟨.inr (by omega), by omega, by omega⟩
      · exact ⟨.inr (by omega), by omega, by omega⟩
      · exact ⟨.inr (by omega), by omega, by omega⟩
      · exact ⟨.inr (by omega), by omega, by omega⟩
      · have := HR1.out.lt b hb; exact ⟨.inr (by omega), by omega, by omega⟩
      · have := HR2.out.lt b hb; simp only [World.size_alloc] at this; exact ⟨.inr (by omega), by omega, by omega⟩
      · have := HW1.out.lt b hb; simp only [World.size_alloc] at this; exact ⟨.inr (by omega), by omega, by omega⟩
      · have := HW2.out.lt b hb; simp only [World.size_alloc] at this; exact ⟨.inr (by omega), by omega, by omega⟩
    obtain ⟨Y, hY⟩ : ∃ Y : Nat → Prop, Y = fun b => hasB w.heap.size (w.heap.size + 1) w2.heap.size w4.heap.size w6.heap.size w8.heap.size w10.heap.size wa.heap.size (w4.heap.size + 1) v1 v2 (.slice oa1 (xs.length * 2) ca1) (.slice oa2 (ys.length * 2) ca2) b ∨ b = w.heap.size + 1 + 1 ∨ b = w10.heap.size + 1 := ⟨_, rfl⟩
    have hSY : Sx Y w1.heap.size W0 a nn ll := ⟨s, H6.out.more tw3 (fun b hb => by
      rw [hY] at hb
      rcases hb with hb | rfl | rfl
      · rcases (hlow b hb).1 with h | h
        · exact .inl h
        · exact .inr ⟨h, hHeld.lt hb⟩
      · exact .inl hx2
      · exact .inr ⟨by omega, by omega⟩)⟩
    have hBW0 : Below w.heap.size w W0 := hB3.trans (tw3.mono (by have := hB3.size; omega))
    have hv1l : ∀ g, v1.ownBlock = some g → g < W0.heap.size := fun g hg => (hHeld.r1.lt g hg).2
    have hown : OwnFrom W0.heap.size (fun (pre : List (Nat × Int)) W => (Held w.heap.size (w.heap.size + 1) w2.heap.size w4.heap.size w6.heap.size w8.heap.size w10.heap.size wa.heap.size (w4.heap.size + 1) (.slice o2 l2 c2) st a v1 v2 (.slice oa1 (xs.length * 2) ca1) (.slice oa2 (ys.length * 2) ca2) xs ys W ∧ Blk W (w.heap.size + 1 + 1) 4 #[.bool false] ∧ Sx Y w1.heap.size W a nn ll ∧ Below w.heap.size w W) ∧ Blk W (w10.heap.size + 1) 3 #[.int .i64 ((pre.length * 2 : Nat) : Int)] ∧ pre <+: xs) :=
      OwnFrom.and (OwnFrom.and (Held.own _) (OwnFrom.and (Blk.ownF _ _ _ (fun _ => #[.bool false])) (OwnFrom.and (Sx.own _) (ownFrom_below (Nat.le_refl _) (by have := hBW0.size; omega)))))
        (OwnFrom.and (Blk.ownF _ _ _ (fun (pre : List (Nat × Int)) => #[.int .i64 ((pre.length * 2 : Nat) : Int)])) (ownFrom_pure _ (fun pre => pre <+: xs)))
    rw [hW0] at *
    clear hW0
    have hreW := hre
    refine (wpIn_wide (n := 3)).1 ?_
    refine wpIn_rangeFunc_ownG rfl (by omega) (gf := 38) (lb := #[.pointer (some ⟨wa.heap.size, 0, none⟩)]) rfl trivial (enters_of Try.func38 (by kernel_rfl) rfl)
      (all_stops Fence.wide (3 - 1) trivial rfl (by omega) wa.heap.size xs v1 W0 hxl hHeld.x1 hHeld.r1) Kpt.trans (Kpt.b hv1l) (Below.refl _ _) (fun _ => rfl)
      _ (fun _ pre _ => ¬ pre <+: xs) hown (fun _ => ownFrom_pure _ (fun pre => ¬ pre <+: xs)) ⟨⟨hHeld, hre, hSY, hBW0⟩, hbk, List.nil_prefix⟩
      (fun x => { tmps := #[.int .i64 ↑nn, .int .i64 ↑ll, .slice o1 l1 c1, .slice o2 l2 c2, .int .i64 st, undef, undef, undef, .pointer (some ⟨w.heap.size, 0, none⟩), .pointer (some ⟨w.heap.size + 1, 0, none⟩), .pointer (some ⟨w.heap.size + 1 + 1, 0, none⟩), .pointer (some ⟨w2.heap.size, 0, none⟩), u12, .int .i64 (roundV st ↑ll), .int .i64 (roundV (wrap64 (st + 1)) ↑ll), .pointer (some ⟨w4.heap.size, 0, none⟩), .pointer (some ⟨w6.heap.size, 0, none⟩), .pointer (some ⟨w8.heap.size, 0, none⟩), .pointer (some ⟨w10.heap.size, 0, none⟩), .pointer (some ⟨w10.heap.size + 1, 0, none⟩), .int .i64 (x.1 : Int), .int .i64 x.2, undef, undef, undef, undef, undef, undef, undef, undef, undef, undef, .bool true, .bool false, .int .i64 ↑nn, .int .i64 ↑ll, .pointer (some ⟨a, 0, none⟩), .pointer (some ⟨a, 0, none⟩), .bool false, .bool false, .int .i64 ↑ll, .bool false, .bool false, u43, u44, u45, u46, u47, u48, u49, u50, u51, u52, u53, u54, u55, u56, u57, u58, .int .i64 st, .int .i64 ↑ll, .int .i64 (roundV st ↑ll), .int .i64 st, .int .i64 (wrap64 (st + 1)), .int .i64 ↑ll, .int .i64 (roundV (wrap64 (st + 1)) ↑ll), .pointer (some ⟨a, 0, none⟩), .int .i64 (roundV st ↑ll), .func (.func 38) #[] #[.pointer (some ⟨wa.heap.size, 0, none⟩)], .pointer (some ⟨a, 0, none⟩), .int .i64 (roundV (wrap64 (st + 1)) ↑ll), .func (.func 38) #[] #[.pointer (some ⟨w4.heap.size + 1, 0, none⟩)], .func (.func 38) #[] #[.pointer (some ⟨wa.heap.size, 0, none⟩)], .bool false, .bool false, .func (.func 38) #[] #[.pointer (some ⟨w4.heap.size + 1, 0, none⟩)], .bool false, .bool false, .pointer (some ⟨a, 0, none⟩), .int .i64 (roundV st ↑ll), .slice oa1 (xs.length * 2) ca1, .pointer (some ⟨a, 0, none⟩), .int .i64 (roundV (wrap64 (st + 1)) ↑ll), .slice oa2 (ys.length * 2) ca2, .func (.func 38) #[] #[.pointer (some ⟨wa.heap.size, 0, none⟩)], .int .i64 (x.1 : Int), .int .i64 x.2, undef, undef, undef, undef, undef, undef, undef, undef, undef, undef, undef, undef, undef, undef, undef, undef, undef, undef, undef, undef, undef, undef, undef, undef, undef, undef, undef, undef, undef, undef, undef, undef, undef, undef, undef, undef, undef, undef, undef, undef, undef, undef, undef, undef, undef, undef, undef, undef, undef, undef, undef, undef, undef, undef, undef, undef, undef, undef, undef, undef, undef, undef, undef, undef, undef, undef, undef, undef, undef, undef, undef, undef, undef, undef, undef, undef, undef, undef, undef, undef, undef, undef, undef, undef, undef, undef, undef, undef, undef, undef, undef, undef, undef, undef, undef, undef, undef, undef, undef, undef, undef, undef, undef, undef, undef, undef, undef, undef, undef, undef, undef, undef, undef, undef, undef, undef, undef, undef, undef, undef, undef, undef, undef, undef, undef, undef, undef, undef, undef, undef, undef, undef, undef, undef, undef, undef, undef, undef, undef, undef, undef, undef, undef, undef, undef, undef, undef, undef, undef, undef, undef, undef, undef, undef, undef, undef, undef, undef, undef, undef, undef, undef, undef, undef, undef, undef, undef, undef, undef, undef, undef, undef, undef, undef, undef, undef, undef, undef, undef, undef, undef, undef, undef, undef, undef, undef, undef], defers := [] }) ?assign ?body ?done ?stop
    case assign =>
      intro l x W K hK
      gi_wp2
      exact hK
    case body =>
      rintro l pre x W ⟨⟨hH, hre, hS, hB⟩, hk, hpre⟩ hlt
      have HLOW := hide hlow
      have HYY := hide hY
      clear HE HK hz hL2 HB1 HB2 HSX HB0 HBX1 HBX2 HBW HXX H23 H6 HX HY K0 K1 K2 K3 heq1 e3 f3 H64 K34 e4 HX1 HR1 HB4 heq2 K36 e6 KF6 f6 HX2 HR2 HB6 H67 K38 e8 H69 HW1 HB8 KF10 f10 HW2 HB10 tw3 tw4 tw5 tw6 tw7 tw8 tw9 tw10 hbk hSY hown hn2 hl HS1 hx0 hx1 hx2 hx3 hHeld hBW0 hv1l hl1 hl2
      obtain ⟨y, hy⟩ : ∃ y, xs[pre.length]? = some y := ⟨_, List.getElem?_eq_getElem hlt⟩
      obtain ⟨g, cap, hu, q0, q1⟩ := ints_at hH.w1 hy
      have hsn := pre_snoc (x := x) hpre
      rw [hy] at hsn
      obtain ⟨m, hm⟩ : ∃ m, m = pre.length * 2 := ⟨_, rfl⟩
      obtain ⟨nx, hnx⟩ : ∃ nx, nx = xs.length * 2 := ⟨_, rfl⟩
      have hm2 : (pre ++ [x]).length * 2 = m + 2 := by simp; omega
      have hm1 : m + 1 < nx := by omega
      have hmb : m ≤ 8388608 := by omega
      have hmd : ((m : Nat) : Int).tdiv 2 = ((pre.length : Nat) : Int) := by rw [hm, Int.tdiv_eq_ediv_of_nonneg (by omega)]; omega
      rw [← hm] at hk q0 q1
      have c0 : W.cell? ⟨w.heap.size, 0, none⟩ = some (.slice o2 l2 c2) := by rw [hH.mo.cell]; rfl
      have cw : W.cell? ⟨w8.heap.size, 0, none⟩ = some (.slice oa1 nx ca1) := by rw [hH.bw.cell, hnx]; rfl
      have ca : W.cell? ⟨w2.heap.size, 0, none⟩ = some (.pointer (some ⟨a, 0, none⟩)) := by rw [hH.fa.cell]; rfl
      have ck : W.cell? ⟨w10.heap.size + 1, 0, none⟩ = some (.int .i64 (m : Int)) := by rw [hk.cell]; rfl
      have fk := hk.frozen 0
      have cr : W.cell? ⟨w.heap.size + 1 + 1, 0, none⟩ = some (.bool false) := by rw [hre.cell]; rfl
      have fr := hre.frozen 0
      have hyk : Y (w10.heap.size + 1) := by rw [HYY.out]; exact .inr (.inr rfl)
      have hyr : Y (w.heap.size + 1 + 1) := by rw [HYY.out]; exact .inr (.inl rfl)
      have hnk : ¬ hasB w.heap.size (w.heap.size + 1) w2.heap.size w4.heap.size w6.heap.size w8.heap.size w10.heap.size wa.heap.size (w4.heap.size + 1) v1 v2 (.slice oa1 (xs.length * 2) ca1) (.slice oa2 (ys.length * 2) ca2) (w10.heap.size + 1) := fun h => by have := (HLOW.out _ h).2.1; omega
      have hwk : w.heap.size + 1 + 1 < W0.heap.size ∧ w10.heap.size + 1 < W0.heap.size ∧ w1.heap.size ≤ W.heap.size ∧ W0.heap.size = w10.heap.size + 2 := ⟨hreW.lt, by omega, by have := hk.lt; omega, z10⟩
      have hsW := hB.size
      cases hu
      obtain ⟨xn, xv⟩ := x
      obtain ⟨yn, yv⟩ := y
      have HH := hide hH
      have HRE := hide hre
      have HS := hide hS
      have HB := hide hB
      have HKK := hide hk
      have HSN := hide hsn
      have HM2 := hide hm2
      have HNK := hide hnk
      have HWK := hide hwk
      have kill : xn ≠ yn ∨ xv ≠ yv → ¬ pre ++ [(xn, xv)] <+: xs := by
        intro h hp
        have := HSN.out.1 hp
        simp at this
        omega
      have KILL := hide kill
      have hpnb : pre.length ≤ 4194304 := by omega
      have HXL := hide hxl
      have HW1C : Hid (w.heap.size ≤ w1.heap.size) := by exact (by omega : w.heap.size ≤ w1.heap.size)
      have HWK1 : Hid (w.heap.size ≤ w10.heap.size + 1 ∧ w.heap.size + 1 + 1 ≠ w10.heap.size + 1) := by exact (by omega : w.heap.size ≤ w10.heap.size + 1 ∧ w.heap.size + 1 + 1 ≠ w10.heap.size + 1)
      generalize pre.length = pn at *
      clear hsz1 hszw hsz2 hs3 z3 z5 z7 z9 z10 hxl hyl hsW hreW hB3 hlow hY hH hre hS hB hk hsn hm2 hnk hwk hm hnx hpre hlt hy kill
      have hwp : wrap64 ((pn : Nat) : Int) = ((pn : Nat) : Int) := by unfold wrap64; omega
      have hwq : IntKind.i64.wrap ((pn : Nat) : Int) = ((pn : Nat) : Int) := IntWalk.i64_in _ (by omega)
      by_cases hml : pn < l2
      · obtain ⟨p, rfl, hab, k, x0, y0, z0, r0, r1, r2, r3⟩ := (HS2.out.below HB.out) pn hml
        have hSd : Sx Y w1.heap.size W.drew a nn ll := HS.out.below (Below.refl _ W).drew
        have hd := hSd.do_ (HWK.out.2.2.1) k x0 y0 z0
        have HD := hide hd
        have hmx : Try.prog.follows .mixedOrders = true := by kernel_rfl
        clear hd hSd hab
        gi_wp2
        · rename_i g1 g2 g3 g4 g5
          refine ⟨KeepsFrom.of_grownBy (grownBy_setCell' W _ _) (fun j e => by cases e; exact HWK.out.1), KILL.out ?_⟩
          rcases g5 with g | g
          · omega
          · exact .inr (bne_iff_ne.1 g).symm
        · have hxy : some (yn, yv) = some (xn, xv) := by
            have g3 : (yn : Int) = (xn : Int) := by assumption
            have g5 : (m : Int) + 1 < (nx : Int) ∧ (yv != xv) = false := by assumption
            have e1 : yn = xn := by omega
            have e2 : yv = xv := by have := g5.2; simpa using this
            rw [e1, e2]
          have HXY := hide hxy
          clear hxy
          gi_region_with_o (first
            | (refine ⟨trivial, ?_⟩
               gi_at_call 12
               refine (CallsIn.inRound l (callsIn_wide.2 HD.out)).mono ?_
               rintro en W5 ⟨rfl, hS5, hk5, hB5, hf5⟩
               have kk : Blk W5 (w10.heap.size + 1) 3 #[.int .i64 (m : Int)] := (hk5 _ hyk).trans HKK.out
               have ck5 : W5.cell? ⟨w10.heap.size + 1, 0, none⟩ = some (.int .i64 (m : Int)) := by rw [kk.cell]; rfl
               have fk5 := kk.frozen 0
               have KK := hide kk
               have HS5 := hide hS5
               have HK5 := hide hk5
               have HB5 := hide hB5
               have HF5 := hide hf5
               clear kk hS5 hk5 hB5 hf5))
          all_goals
            gi_wp2
            have hne : ∀ b, hasB w.heap.size (w.heap.size + 1) w2.heap.size w4.heap.size w6.heap.size w8.heap.size w10.heap.size wa.heap.size (w4.heap.size + 1) v1 v2 (.slice (some ⟨g, 0, none⟩) (xs.length * 2) ca1) (.slice oa2 (ys.length * 2) ca2) b → b ≠ w10.heap.size + 1 := fun b hb e => HNK.out (e ▸ hb)
            have hkp : ∀ b, Y b → W5.heap[b]? = W.heap[b]? := HK5.out
            have hY1 := HYY.out
            refine ⟨((KeepsOthers.drew W).from _).trans (KeepsFrom.trans ⟨HF5.out.size, fun k o _ hk ho => HF5.out.same k o (Nat.zero_le _) hk ho⟩ (KeepsFrom.of_grownBy (grownBy_setCell' W5 _ _) (fun j e => by cases e; exact HWK.out.2.1))), ⟨?_, fun q hq => ?_⟩, ⟨HH.out.keep fun b hb => ?_, ?_, HS5.out.setX hyk _, ?_⟩, ?_, ?_⟩
            · have := HF5.out.size
              simpa using this
            · have hb : hasB w.heap.size (w.heap.size + 1) w2.heap.size w4.heap.size w6.heap.size w8.heap.size w10.heap.size wa.heap.size (w4.heap.size + 1) v1 v2 (.slice (some ⟨g, 0, none⟩) (xs.length * 2) ca1) (.slice oa2 (ys.length * 2) ca2) q := by simp [hasB, hq]
              exact (Below.heap_setCell W5 _ _ q (hne q hb)).trans (hkp q (by rw [hY1]; exact .inl hb))
            · exact (Below.heap_setCell W5 _ _ b (hne b hb)).trans (hkp b (by rw [hY1]; exact .inl hb))
            · exact (Below.heap_setCell W5 _ _ _ HWK1.out.2).trans ((hkp _ hyr).trans HRE.out)
            · exact (HB.out.drew.trans (HB5.out.mono HW1C.out)).setCell HWK1.out.1 _
            · rw [HM2.out]
              have := KK.out.set_ 0 (.int .i64 (((m + 2 : Nat)) : Int))
              simpa using this
            · exact HSN.out.2 HXY.out
        · rename_i g1 g2 g3
          exact ⟨KeepsFrom.of_grownBy (grownBy_setCell' W _ _) (fun j e => by cases e; exact HWK.out.1), KILL.out (.inl (by omega))⟩
      · gi_wp2
        · have g5 : (nx : Int) ≤ (m : Int) + 1 ∨ (yv != xv) = true := by assumption
          refine ⟨KeepsFrom.of_grownBy (grownBy_setCell' W _ _) (fun j e => by cases e; exact HWK.out.1), KILL.out ?_⟩
          rcases g5 with g | g
          · omega
          · exact .inr (bne_iff_ne.1 g).symm
        · have hxy : some (yn, yv) = some (xn, xv) := by
            have g3 : (yn : Int) = (xn : Int) := by assumption
            have g5 : (m : Int) + 1 < (nx : Int) ∧ (yv != xv) = false := by assumption
            have e1 : yn = xn := by omega
            have e2 : yv = xv := by have := g5.2; simpa using this
            rw [e1, e2]
          have hne : ∀ b, hasB w.heap.size (w.heap.size + 1) w2.heap.size w4.heap.size w6.heap.size w8.heap.size w10.heap.size wa.heap.size (w4.heap.size + 1) v1 v2 (.slice (some ⟨g, 0, none⟩) (xs.length * 2) ca1) (.slice oa2 (ys.length * 2) ca2) b → b ≠ w10.heap.size + 1 := fun b hb e => HNK.out (e ▸ hb)
          refine ⟨KeepsFrom.of_grownBy (grownBy_setCell' W _ _) (fun j e => by cases e; exact HWK.out.2.1), ⟨by simp, fun q hq => ?_⟩, ⟨HH.out.keep fun b hb => ?_, ?_, HS.out.setX hyk _, ?_⟩, ?_, ?_⟩
          · exact Below.heap_setCell W _ _ q (hne q (by simp [hasB, hq]))
          · exact Below.heap_setCell W _ _ b (hne b hb)
          · exact (Below.heap_setCell W _ _ _ HWK1.out.2).trans HRE.out
          · exact HB.out.setCell HWK1.out.1 _
          · have e : (((pre ++ [(xn, xv)]).length : Nat) : Int) * 2 = (m : Int) + 2 := by have := HM2.out; omega
            rw [e]
            have := HKK.out.set_ 0 (.int .i64 ((m : Int) + 2))
            simpa using this
          · exact HSN.out.2 hxy
        · exact ⟨KeepsFrom.of_grownBy (grownBy_setCell' W _ _) (fun j e => by cases e; exact HWK.out.1), KILL.out (.inl (by
            have g3 : ¬ (yn : Int) = (xn : Int) := by assumption
            omega))⟩
    case done =>
      rintro D zs W hD hzs ⟨⟨hH, hre, hS, hB⟩, hk, _⟩ hK
      subst zs
      have hR : RR w w1.heap.size a nn ll (w.heap.size + 1 + 1) w.heap.size (w.heap.size + 1) w2.heap.size w4.heap.size w6.heap.size w8.heap.size w10.heap.size wa.heap.size (w4.heap.size + 1) (.slice o2 l2 c2) st v1 v2 (.slice oa1 (xs.length * 2) ca1) (.slice oa2 (ys.length * 2) ca2) xs ys Y W := ⟨hH, hre, hS, hB⟩
      have cw : W.cell? ⟨w8.heap.size, 0, none⟩ = some (.slice oa1 (xs.length * 2) ca1) := by rw [hH.bw.cell]; rfl
      have ck : W.cell? ⟨w10.heap.size + 1, 0, none⟩ = some (.int .i64 ((xs.length * 2 : Nat) : Int)) := by rw [hk.cell]; rfl
      have HR := hide hR
      have HK9 := hide hk
      have HKD := hide hK
      have hyH : ∀ b, hasB w.heap.size (w.heap.size + 1) w2.heap.size w4.heap.size w6.heap.size w8.heap.size w10.heap.size wa.heap.size (w4.heap.size + 1) v1 v2 (.slice oa1 (xs.length * 2) ca1) (.slice oa2 (ys.length * 2) ca2) b → Y b := fun b hb => by rw [hY]; exact .inl hb
      have hyr : Y (w.heap.size + 1 + 1) := by rw [hY]; exact .inr (.inl rfl)
      have hyk : Y (w10.heap.size + 1) := by rw [hY]; exact .inr (.inr rfl)
      have hnk : ¬ hasB w.heap.size (w.heap.size + 1) w2.heap.size w4.heap.size w6.heap.size w8.heap.size w10.heap.size wa.heap.size (w4.heap.size + 1) v1 v2 (.slice oa1 (xs.length * 2) ca1) (.slice oa2 (ys.length * 2) ca2) (w10.heap.size + 1) := fun h => by have := (hlow _ h).2.1; omega
      have hww : w.heap.size ≤ w1.heap.size := by omega
      have hwk : w1.heap.size ≤ w10.heap.size := by omega
      have hrk : w.heap.size + 1 + 1 ≠ w10.heap.size + 1 := by omega
      have HYH := hide hyH
      have HNK := hide hnk
      have HWW := hide hww
      have HWK := hide hwk
      have HRK := hide hrk
      have HZ10 := hide z10
      have hwz : w.heap.size ≤ W0.heap.size := by omega
      have HWZ := hide hwz
      clear hwz hR hk hK hH hre hS hB hyH hnk hrk hY hlow HE HK hz hL2 HB1 HB2 HSX HB0 HBX1 HBX2 HBW HXX H23 H6 HX HY K0 K1 K2 K3 heq1 e3 f3 H64 K34 e4 HX1 HR1 HB4 heq2 K36 e6 KF6 f6 HX2 HR2 HB6 H67 K38 e8 H69 HW1 HB8 KF10 f10 HW2 HB10 tw3 tw4 tw5 tw6 tw7 tw8 tw9 tw10 hbk hSY hown HS1 hx0 hx1 hx2 hx3 hHeld hBW0 hv1l hreW hww hwk hsz1 hszw hsz2 hs3 z3 z5 z7 z9 z10 hB3
      go_upto_block 4 with fail
      go_cut [22] (fun s22 wx => (∃ z : Value, s22 = z) ∧ RR w w1.heap.size a nn ll (w.heap.size + 1 + 1) w.heap.size (w.heap.size + 1) w2.heap.size w4.heap.size w6.heap.size w8.heap.size w10.heap.size wa.heap.size (w4.heap.size + 1) (.slice o2 l2 c2) st v1 v2 (.slice oa1 (xs.length * 2) ca1) (.slice oa2 (ys.length * 2) ca2) xs ys Y wx ∧ Blk wx (w10.heap.size + 1) 3 #[.int .i64 ((xs.length * 2 : Nat) : Int)] ∧ KeepsFrom 0 W wx)
      case first =>
        go_wp2_with fail
        go_loopw [22] (fun tx W' => ∃ (i : Nat), tx = .int .i64 (i : Int) ∧ i ≤ l2 ∧ i ≤ 200 ∧ RR w w1.heap.size a nn ll (w.heap.size + 1 + 1) w.heap.size (w.heap.size + 1) w2.heap.size w4.heap.size w6.heap.size w8.heap.size w10.heap.size wa.heap.size (w4.heap.size + 1) (.slice o2 l2 c2) st v1 v2 (.slice oa1 (xs.length * 2) ca1) (.slice oa2 (ys.length * 2) ca2) xs ys Y W' ∧ Blk W' (w10.heap.size + 1) 3 #[.int .i64 ((xs.length * 2 : Nat) : Int)] ∧ KeepsFrom 0 W W') (fun tx _ => 200 - (intOf tx).toNat)
        case atStart => exact ⟨0, rfl, Nat.zero_le _, Nat.zero_le _, HR.out, HK9.out, KeepsFrom.refl _ _⟩
        case round =>
          obtain ⟨i, rfl, hi1, hi2, hR3, hk3, hf3⟩ := hrel
          rename World => w3
          have hs3 : w1.heap.size ≤ w3.heap.size := by have := hk3.lt; have := HWK.out; omega
          have c0 : w3.cell? ⟨w.heap.size, 0, none⟩ = some (.slice o2 l2 c2) := by rw [hR3.held.mo.cell]; rfl
          have ca : w3.cell? ⟨w2.heap.size, 0, none⟩ = some (.pointer (some ⟨a, 0, none⟩)) := by rw [hR3.held.fa.cell]; rfl
          have HR3 := hide hR3
          have HK3 := hide hk3
          have HF3 := hide hf3
          by_cases hx : i < l2 ∧ i < 200
          · obtain ⟨hxa, hxb⟩ := hx
            obtain ⟨p, rfl, hab, k, x, y, z, q0, q1, q2, q3⟩ := (HS2.out.below hR3.low) i hxa
            have hd := (hR3.below (Below.refl _ w3).drew).do_ hs3 HWW.out HYH.out hyr k x y z
            have HD := hide hd
            clear hd hR3 hk3 hf3 hs3 hab
            go_wp2
            go_region_with (go_at_call 12; refine HD.out.mono ?_; rintro en w4' ⟨rfl, hR4, hk4, hf4⟩)
            all_goals
              have HR4 := hide hR4
              have HK4 := hide hk4
              have HF4 := hide hf4
              clear hR4 hk4 hf4
              go_wp2
              go_roundw
              case rel => exact ⟨i + 1, by go_num, by omega, by omega, HR4.out, (HK4.out _ hyk).trans HK3.out, HF3.out.trans (((KeepsOthers.drew w3).from _).trans HF4.out)⟩
              case measure => simp [intOf]; omega
          · have hor : ¬ i < l2 ∨ (i < l2 ∧ ¬ i < 200) := by omega
            clear hx hR3 hk3 hf3
            rcases hor with hor | ⟨hor, hor2⟩
            all_goals
              go_wp2
              go_meet
              exact ⟨⟨_, rfl⟩, HR3.out, HK3.out, HF3.out⟩
      case rest =>
        obtain ⟨-, hR4, hk4, hf4⟩ := hcut
        have HR4 := hide hR4
        have HF4 := hide hf4
        have hks : Blk (wc.setCell ⟨w10.heap.size + 1, 0, none⟩ (.int .i64 0)) (w10.heap.size + 1) 3 #[.int .i64 ((0 : Nat) : Int)] := by
          have := hk4.set_ 0 (.int .i64 0)
          simpa using this
        have ck4 : wc.cell? ⟨w10.heap.size + 1, 0, none⟩ = some (.int .i64 ((xs.length * 2 : Nat) : Int)) := by rw [hk4.cell]; rfl
        have fk4 := hk4.frozen 0
        have hRs := hR4.set HNK.out HRK.out hyk (by have := HWW.out; have := HWK.out; omega) (.int .i64 0)
        have hfs := hf4.trans (keeps_set hk4.cel (.int .i64 0))
        have cf : (wc.setCell ⟨w10.heap.size + 1, 0, none⟩ (.int .i64 0)).cell? ⟨w4.heap.size, 0, none⟩ = some (.func (.func 38) #[] #[.pointer (some ⟨wa.heap.size, 0, none⟩)]) := by rw [hRs.held.b1.cell]; rfl
        have HRS := hide hRs
        have HFS := hide hfs
        have HKS := hide hks
        clear hR4 hk4 hf4 hks hRs hfs
        go_wp2
        obtain ⟨Ws, hWs⟩ : ∃ Ws, wc.setCell ⟨w10.heap.size + 1, 0, none⟩ (.int .i64 0) = Ws := ⟨_, rfl⟩
        rw [hWs] at HRS HKS HFS ⊢
        clear hWs cf
        refine split_tail (fun a' W' => ∃ D', a' = { tmps := #[.int .i64 ↑nn, .int .i64 ↑ll, .slice o1 l1 c1, .slice o2 l2 c2, .int .i64 st, undef, undef, undef, .pointer (some ⟨w.heap.size, 0, none⟩), .pointer (some ⟨w.heap.size + 1, 0, none⟩), .pointer (some ⟨w.heap.size + 1 + 1, 0, none⟩), .pointer (some ⟨w2.heap.size, 0, none⟩), u12, .int .i64 (roundV st ↑ll), .int .i64 (roundV (wrap64 (st + 1)) ↑ll), .pointer (some ⟨w4.heap.size, 0, none⟩), .pointer (some ⟨w6.heap.size, 0, none⟩), .pointer (some ⟨w8.heap.size, 0, none⟩), .pointer (some ⟨w10.heap.size, 0, none⟩), .pointer (some ⟨w10.heap.size + 1, 0, none⟩), undef, undef, u22, undef, undef, undef, undef, undef, undef, undef, undef, undef, .bool true, .bool false, .int .i64 ↑nn, .int .i64 ↑ll, .pointer (some ⟨a, 0, none⟩), .pointer (some ⟨a, 0, none⟩), .bool false, .bool false, .int .i64 ↑ll, .bool false, .bool false, u43, u44, u45, u46, u47, u48, u49, u50, u51, u52, u53, u54, u55, u56, u57, u58, .int .i64 st, .int .i64 ↑ll, .int .i64 (roundV st ↑ll), .int .i64 st, .int .i64 (wrap64 (st + 1)), .int .i64 ↑ll, .int .i64 (roundV (wrap64 (st + 1)) ↑ll), .pointer (some ⟨a, 0, none⟩), .int .i64 (roundV st ↑ll), .func (.func 38) #[] #[.pointer (some ⟨wa.heap.size, 0, none⟩)], .pointer (some ⟨a, 0, none⟩), .int .i64 (roundV (wrap64 (st + 1)) ↑ll), .func (.func 38) #[] #[.pointer (some ⟨w4.heap.size + 1, 0, none⟩)], .func (.func 38) #[] #[.pointer (some ⟨wa.heap.size, 0, none⟩)], .bool false, .bool false, .func (.func 38) #[] #[.pointer (some ⟨w4.heap.size + 1, 0, none⟩)], .bool false, .bool false, .pointer (some ⟨a, 0, none⟩), .int .i64 (roundV st ↑ll), .slice oa1 (xs.length * 2) ca1, .pointer (some ⟨a, 0, none⟩), .int .i64 (roundV (wrap64 (st + 1)) ↑ll), .slice oa2 (ys.length * 2) ca2, .func (.func 38) #[] #[.pointer (some ⟨wa.heap.size, 0, none⟩)], undef, undef, undef, undef, undef, undef, undef, undef, undef, undef, undef, undef, undef, undef, undef, undef, undef, undef, undef, undef, undef, undef, undef, undef, undef, undef, undef, undef, undef, undef, undef, undef, undef, undef, undef, undef, undef, undef, .int .i64 (↑xs.length * 2), .slice oa1 (xs.length * 2) ca1, .int .i64 (↑xs.length * 2), .bool false, u127, u128, u129, u130, u131, u132, u133, u134, u135, u136, u137, u138, u139, u140, u141, u142, .func (.func 38) #[] #[.pointer (some ⟨wa.heap.size, 0, none⟩)], undef, undef, undef, undef, undef, undef, undef, undef, undef, undef, undef, undef, undef, undef, undef, undef, undef, undef, undef, undef, undef, undef, undef, undef, undef, undef, undef, undef, undef, undef, undef, undef, undef, undef, undef, undef, undef, undef, undef, undef, undef, undef, undef, undef, undef, undef, undef, undef, undef, undef, undef, undef, undef, undef, undef, undef, undef, undef, undef, undef, undef, undef, undef, undef, undef, undef, undef, undef, undef, undef, undef, undef, undef, undef, undef, undef, undef, undef, undef, undef, undef, undef, undef, undef, undef, undef, undef, undef, undef, undef, undef, undef, undef, undef, undef, undef, undef, undef, undef, undef, undef, undef, undef, undef, undef, undef, undef, undef, undef, undef, undef, undef, undef, undef, undef, undef, undef, undef, undef, undef, undef, undef, undef, undef, undef, undef, undef, undef, undef, undef], defers := [{ target := .collected D', args := #[] }, { target := .collected D, args := #[] }] } ∧ RR w w1.heap.size a nn ll (w.heap.size + 1 + 1) w.heap.size (w.heap.size + 1) w2.heap.size w4.heap.size w6.heap.size w8.heap.size w10.heap.size wa.heap.size (w4.heap.size + 1) (.slice o2 l2 c2) st v1 v2 (.slice oa1 (xs.length * 2) ca1) (.slice oa2 (ys.length * 2) ca2) xs ys Y W' ∧ (∃ z, Blk W' (w10.heap.size + 1) 3 #[z]) ∧ KeepsFrom 0 Ws W' ∧ Ws.heap.size ≤ D' ∧ W'.heap[D']? = some (.deferred (some []))) ?tail ?range
        case tail =>
          rintro a' W' ⟨D', rfl, hR, ⟨z, hk⟩, hf, hDs, hD'⟩
          have ck : W'.cell? ⟨w10.heap.size + 1, 0, none⟩ = some z := by rw [hk.cell]; rfl
          have fk := hk.frozen 0
          have hR4 := hR.set HNK.out HRK.out hyk (by have := HWW.out; have := HWK.out; omega) (.int .i64 0)
          have hk4 : Blk (W'.setCell ⟨w10.heap.size + 1, 0, none⟩ (.int .i64 0)) (w10.heap.size + 1) 3 #[.int .i64 ((0 : Nat) : Int)] := by
            have := hk.set_ 0 (.int .i64 0)
            simpa using this
          have hf4 := hf.trans (keeps_set hk.cel (.int .i64 0))
          have hD4 := (keeps_set hk.cel (.int .i64 0)).same _ _ (Nat.zero_le _) hD' rfl
          have cf : (W'.setCell ⟨w10.heap.size + 1, 0, none⟩ (.int .i64 0)).cell? ⟨w4.heap.size, 0, none⟩ = some (.func (.func 38) #[] #[.pointer (some ⟨wa.heap.size, 0, none⟩)]) := by rw [hR4.held.b1.cell]; rfl
          have HR4' := hide hR4
          have HK4' := hide hk4
          have HF4' := hide hf4
          have HD4 := hide hD4
          clear hR hk hf hD' hR4 hk4 hf4 hD4
          go_wp2
          obtain ⟨W4, hW4⟩ : ∃ W4, W'.setCell ⟨w10.heap.size + 1, 0, none⟩ (.int .i64 0) = W4 := ⟨_, rfl⟩
          rw [hW4] at HR4' HK4' HF4' HD4 ⊢
          clear hW4 cf ck fk
          have hv1l : ∀ g, v1.ownBlock = some g → g < W4.heap.size := fun g hg => (HR4'.out.held.r1.lt g hg).2
          have hwB : w.heap.size ≤ W4.heap.size := HR4'.out.low.size
          have HWB4 := hide hwB
          refine (wpIn_wide (n := 9)).1 ?_
          refine wpIn_rangeFunc_ownG rfl (by omega) (gf := 38) (lb := #[.pointer (some ⟨wa.heap.size, 0, none⟩)]) rfl trivial (enters_of Try.func38 (by kernel_rfl) rfl)
            (all_stops Fence.wide (9 - 1) trivial rfl (by omega) wa.heap.size xs v1 W4 hxl HR4'.out.held.x1 HR4'.out.held.r1) Kpt.trans (Kpt.b hv1l) (Below.refl _ _) (fun _ => rfl)
            (fun pre V => RR w w1.heap.size a nn ll (w.heap.size + 1 + 1) w.heap.size (w.heap.size + 1) w2.heap.size w4.heap.size w6.heap.size w8.heap.size w10.heap.size wa.heap.size (w4.heap.size + 1) (.slice o2 l2 c2) st v1 v2 (.slice oa1 (xs.length * 2) ca1) (.slice oa2 (ys.length * 2) ca2) xs ys Y V ∧ Blk V (w10.heap.size + 1) 3 #[.int .i64 ((pre.length * 2 : Nat) : Int)] ∧ KeepsFrom 0 W4 V ∧ pre <+: xs)
            (fun _ pre _ => ¬ pre <+: xs)
            (OwnFrom.and (RR.own hwB) (OwnFrom.and (Blk.ownF _ _ _ (fun (pre : List (Nat × Int)) => #[.int .i64 ((pre.length * 2 : Nat) : Int)])) (OwnFrom.and (ownFrom_keepsFrom (Nat.le_refl _)) (ownFrom_pure _ (fun pre => pre <+: xs)))))
            (fun _ => ownFrom_pure _ (fun pre => ¬ pre <+: xs)) ⟨HR4'.out, HK4'.out, KeepsFrom.refl _ _, List.nil_prefix⟩
            (fun x => { tmps := #[.int .i64 (nn : Int), .int .i64 (ll : Int), .slice o1 l1 c1, .slice o2 l2 c2, .int .i64 st, undef, undef, undef, .pointer (some ⟨w.heap.size, 0, none⟩), .pointer (some ⟨w.heap.size + 1, 0, none⟩), .pointer (some ⟨w.heap.size + 1 + 1, 0, none⟩), .pointer (some ⟨w2.heap.size, 0, none⟩), u12, .int .i64 (roundV st (ll : Int)), .int .i64 (roundV (wrap64 (st + 1)) (ll : Int)), .pointer (some ⟨w4.heap.size, 0, none⟩), .pointer (some ⟨w6.heap.size, 0, none⟩), .pointer (some ⟨w8.heap.size, 0, none⟩), .pointer (some ⟨w10.heap.size, 0, none⟩), .pointer (some ⟨w10.heap.size + 1, 0, none⟩), undef, undef, u22, undef, undef, undef, undef, undef, undef, undef, .int .i64 (x.1 : Int), .int .i64 x.2, .bool true, .bool false, .int .i64 (nn : Int), .int .i64 (ll : Int), .pointer (some ⟨a, 0, none⟩), .pointer (some ⟨a, 0, none⟩), .bool false, .bool false, .int .i64 (ll : Int), .bool false, .bool false, u43, u44, u45, u46, u47, u48, u49, u50, u51, u52, u53, u54, u55, u56, u57, u58, .int .i64 st, .int .i64 (ll : Int), .int .i64 (roundV st (ll : Int)), .int .i64 st, .int .i64 (wrap64 (st + 1)), .int .i64 (ll : Int), .int .i64 (roundV (wrap64 (st + 1)) (ll : Int)), .pointer (some ⟨a, 0, none⟩), .int .i64 (roundV st (ll : Int)), .func (.func 38) #[] #[.pointer (some ⟨wa.heap.size, 0, none⟩)], .pointer (some ⟨a, 0, none⟩), .int .i64 (roundV (wrap64 (st + 1)) (ll : Int)), .func (.func 38) #[] #[.pointer (some ⟨w4.heap.size + 1, 0, none⟩)], .func (.func 38) #[] #[.pointer (some ⟨wa.heap.size, 0, none⟩)], .bool false, .bool false, .func (.func 38) #[] #[.pointer (some ⟨w4.heap.size + 1, 0, none⟩)], .bool false, .bool false, .pointer (some ⟨a, 0, none⟩), .int .i64 (roundV st (ll : Int)), .slice oa1 (xs.length * 2) ca1, .pointer (some ⟨a, 0, none⟩), .int .i64 (roundV (wrap64 (st + 1)) (ll : Int)), .slice oa2 (ys.length * 2) ca2, .func (.func 38) #[] #[.pointer (some ⟨wa.heap.size, 0, none⟩)], undef, undef, undef, undef, undef, undef, undef, undef, undef, undef, undef, undef, undef, undef, undef, undef, undef, undef, undef, undef, undef, undef, undef, undef, undef, undef, undef, undef, undef, undef, undef, undef, undef, undef, undef, undef, undef, undef, .int .i64 ((xs.length : Int) * 2), .slice oa1 (xs.length * 2) ca1, .int .i64 ((xs.length : Int) * 2), .bool false, u127, u128, u129, u130, u131, u132, u133, u134, u135, u136, u137, u138, u139, u140, u141, u142, .func (.func 38) #[] #[.pointer (some ⟨wa.heap.size, 0, none⟩)], undef, undef, undef, undef, undef, undef, undef, undef, undef, undef, undef, undef, undef, undef, undef, undef, undef, undef, undef, undef, undef, undef, undef, undef, undef, undef, undef, undef, undef, undef, undef, undef, undef, undef, undef, undef, undef, undef, undef, undef, undef, undef, undef, undef, undef, undef, undef, undef, undef, undef, undef, undef, undef, undef, undef, undef, undef, undef, undef, undef, undef, undef, undef, undef, undef, undef, undef, undef, undef, undef, undef, undef, undef, undef, undef, undef, undef, undef, undef, undef, undef, undef, undef, undef, undef, undef, undef, undef, undef, undef, undef, undef, undef, .func (.func 38) #[] #[.pointer (some ⟨wa.heap.size, 0, none⟩)], .int .i64 (x.1 : Int), .int .i64 x.2, undef, undef, undef, undef, undef, undef, undef, undef, undef, undef, undef, undef, undef, undef, undef, undef, undef, undef, undef, undef, undef, undef, undef, undef, undef, undef, undef, undef, undef, undef, undef, undef, undef, undef], defers := [] }) ?assign6 ?body6 ?done6 ?stop6
          case assign6 =>
            intro l x V K hK
            gi_wp2
            exact hK
          case body6 =>
            rintro l pre x V ⟨hR, hk, hf, hpre⟩ hlt
            obtain ⟨y, hy⟩ : ∃ y, xs[pre.length]? = some y := ⟨_, List.getElem?_eq_getElem hlt⟩
            obtain ⟨g, cap, hu, q0, q1⟩ := ints_at hR.held.w1 hy
            have hsn := pre_snoc (x := x) hpre
            rw [hy] at hsn
            obtain ⟨m, hm⟩ : ∃ m, m = pre.length * 2 := ⟨_, rfl⟩
            obtain ⟨nx, hnx⟩ : ∃ nx, nx = xs.length * 2 := ⟨_, rfl⟩
            have hm2 : (pre ++ [x]).length * 2 = m + 2 := by simp; omega
            have hm1 : m + 1 < nx := by omega
            have hmb : m ≤ 8388608 := by omega
            rw [← hm] at hk q0 q1
            have cw : V.cell? ⟨w8.heap.size, 0, none⟩ = some (.slice oa1 nx ca1) := by rw [hR.held.bw.cell, hnx]; rfl
            have ck : V.cell? ⟨w10.heap.size + 1, 0, none⟩ = some (.int .i64 (m : Int)) := by rw [hk.cell]; rfl
            have fk := hk.frozen 0
            have cr : V.cell? ⟨w.heap.size + 1 + 1, 0, none⟩ = some (.bool false) := by rw [hR.re.cell]; rfl
            have fr := hR.re.frozen 0
            have HRe := hide hR.re.cel
            cases hu
            obtain ⟨xn, xv⟩ := x
            obtain ⟨yn, yv⟩ := y
            have kill : xn ≠ yn ∨ xv ≠ yv → ¬ pre ++ [(xn, xv)] <+: xs := by
              intro h hp
              have := hsn.1 hp
              simp at this
              omega
            have KILL := hide kill
            have HR3 := hide hR
            have HK3 := hide hk
            have HF3 := hide hf
            have HSN := hide hsn
            have HM2 := hide hm2
            clear hxl hyl hwB hv1l kill hR hk hf hsn hm2 hpre hlt hm hnx hy
            gi_wp2
            · have g5 : (nx : Int) ≤ (m : Int) + 1 ∨ (yv != xv) = true := by assumption
              refine ⟨KeepsFrom.zero (keeps_set HRe.out _) _, KILL.out ?_⟩
              rcases g5 with g | g
              · omega
              · exact .inr (bne_iff_ne.1 g).symm
            · have hxy : some (yn, yv) = some (xn, xv) := by
                have g3 : (yn : Int) = (xn : Int) := by assumption
                have g5 : (m : Int) + 1 < (nx : Int) ∧ (yv != xv) = false := by assumption
                have e1 : yn = xn := by omega
                have e2 : yv = xv := by have := g5.2; simpa using this
                rw [e1, e2]
              refine ⟨KeepsFrom.zero (keeps_set HK3.out.cel _) _, ⟨by simp, fun q hq => Below.heap_setCell V _ _ q (fun e => HNK.out (by rw [show w10.heap.size + 1 = q from e.symm]; simp [hasB, hq]))⟩, HR3.out.set HNK.out HRK.out hyk (by have := HWW.out; have := HWK.out; omega) _, ?_, HF3.out.trans (keeps_set HK3.out.cel _), HSN.out.2 hxy⟩
              have e : (((pre ++ [(xn, xv)]).length : Nat) : Int) * 2 = (m : Int) + 2 := by have := HM2.out; omega
              rw [e]
              have := HK3.out.set_ 0 (.int .i64 ((m : Int) + 2))
              simpa using this
            · exact ⟨KeepsFrom.zero (keeps_set HRe.out _) _, KILL.out (.inl (by
                have g3 : ¬ (yn : Int) = (xn : Int) := by assumption
                omega))⟩
          case done6 =>
            rintro D'' zs V hD'' hzs ⟨hR, hk, hf, _⟩ hK''
            subst zs
            have cw : V.cell? ⟨w8.heap.size, 0, none⟩ = some (.slice oa1 (xs.length * 2) ca1) := by rw [hR.held.bw.cell]; rfl
            have ck : V.cell? ⟨w10.heap.size + 1, 0, none⟩ = some (.int .i64 ((xs.length * 2 : Nat) : Int)) := by rw [hk.cell]; rfl
            have ca : V.cell? ⟨w2.heap.size, 0, none⟩ = some (.pointer (some ⟨a, 0, none⟩)) := by rw [hR.held.fa.cell]; rfl
            have hwh := hR.sx.whole hn2
            have d1 : V.heap[D']? = some (.deferred (some [])) := hf.same _ _ (Nat.zero_le _) HD4.out rfl
            have d0 : V.heap[D]? = some (.deferred (some [])) := (HFS.out.trans (HF4'.out.trans hf)).same _ _ (Nat.zero_le _) HKD.out rfl
            have HWH := hide hwh
            have HRV := hide hR
            have HD1 := hide d1
            have HD0 := hide d0
            have HD2 := hide hK''
            clear hR hk hf hwh d1 d0 hK'' hv1l hwB
            go_wp2_with (go_at_call 13
                         refine HWH.out.mono ?_
                         rintro en w9 ⟨rfl, hB9⟩
                         have kr := HRV.out.re.below hB9 HRV.out.re.lt
                         have c9 : w9.cell? ⟨w.heap.size + 1 + 1, 0, none⟩ = some (.bool false) := by rw [kr.cell]; rfl
                         have f9 := kr.frozen 0
                         have HB9 := hide hB9
                         have KR9 := hide kr
                         clear kr hB9)
            have hkp : KeepsFrom 0 V w9 := ⟨HB9.out.size, fun k o _ hk _ => (HB9.out.block k (Array.getElem?_eq_some_iff.1 hk).1).trans hk⟩
            have hkq := hkp.trans (keeps_set KR9.out.cel (.bool true))
            have g2 := hkq.same _ _ (Nat.zero_le _) HD2.out rfl
            have g1 := hkq.same _ _ (Nat.zero_le _) HD1.out rfl
            have g0 := hkq.same _ _ (Nat.zero_le _) HD0.out rfl
            have kre : Blk (w9.setCell ⟨w.heap.size + 1 + 1, 0, none⟩ (.bool true)) (w.heap.size + 1 + 1) 4 #[.bool true] := by
              have := KR9.out.set_ 0 (.bool true)
              simpa using this
            have hlw : Below w.heap.size w (w9.setCell ⟨w.heap.size + 1 + 1, 0, none⟩ (.bool true)) := (HRV.out.low.trans (HB9.out.mono HRV.out.low.size)).setCell (by show w.heap.size ≤ w.heap.size + 1 + 1; omega) _
            have n1 : D' < W4.heap.size := (Array.getElem?_eq_some_iff.1 HD4.out).1
            have n0 : D < Ws.heap.size := (Array.getElem?_eq_some_iff.1 (HFS.out.same _ _ (Nat.zero_le _) HKD.out rfl)).1
            have nw : w.heap.size ≤ Ws.heap.size := HRS.out.low.size
            have nw0 : w.heap.size ≤ D := Nat.le_trans HWZ.out hD
            generalize w9.setCell ⟨w.heap.size + 1 + 1, 0, none⟩ (.bool true) = W9 at *
            have l2 : w.heap.size ≤ D'' := Nat.le_trans HWB4.out hD''
            have m2 : D'' ≠ w.heap.size + 1 + 1 := fun e => by have := kre; unfold Blk at this; rw [← e, g2] at this; cases this
            have m1 : D' ≠ w.heap.size + 1 + 1 := fun e => by have := kre; unfold Blk at this; rw [← e, g1] at this; cases this
            have m0 : D ≠ w.heap.size + 1 + 1 := fun e => by have := kre; unfold Blk at this; rw [← e, g0] at this; cases this
            have q1 : (W9.putObj D'' (.deferred none)).heap[D']? = some (.deferred (some [])) := (World.putObj_heap_other (by omega)).trans g1
            have q0 : ((W9.putObj D'' (.deferred none)).putObj D' (.deferred none)).heap[D]? = some (.deferred (some [])) := (World.putObj_heap_other (by omega)).trans ((World.putObj_heap_other (by omega)).trans g0)
            refine ⟨by simp, .inl ⟨_, _, rfl, run_takeDeferred g2, by simp, .inl ⟨_, _, rfl, run_takeDeferred q1, by simp, .inl ⟨_, _, rfl, run_takeDeferred q0, ?_⟩⟩⟩⟩
            have kz : Blk (((W9.putObj D'' (.deferred none)).putObj D' (.deferred none)).putObj D (.deferred none)) (w.heap.size + 1 + 1) 4 #[.bool true] :=
              (World.putObj_heap_other (by omega)).trans ((World.putObj_heap_other (by omega)).trans ((World.putObj_heap_other (by omega)).trans kre))
            have bz : Below w.heap.size w (((W9.putObj D'' (.deferred none)).putObj D' (.deferred none)).putObj D (.deferred none)) :=
              ((hlw.trans (belowK_b (w := w) (Nat.le_refl _) W9 D'' _ _ l2 g2 rfl rfl)).trans (belowK_b (w := w) (Nat.le_refl _) _ D' _ _ (by omega) q1 rfl rfl)).trans (belowK_b (w := w) (Nat.le_refl _) _ D _ _ nw0 q0 rfl rfl)
            generalize ((W9.putObj D'' (.deferred none)).putObj D' (.deferred none)).putObj D (.deferred none) = Wz at *
            have cz : Wz.cell? ⟨w.heap.size + 1 + 1, 0, none⟩ = some (.bool true) := by rw [kz.cell]; rfl
            have hres : Try.f6.results = #[.cell 10 4] := by kernel_rfl
            refine ⟨.bool true, ?_, rfl, bz⟩
            simp only [results, hres]
            go_simp
          case stop6 =>
            rintro D'' c pre V _ hp hn _
            exact (hn hp).elim
        case range =>
          intro T
          have hv1l : ∀ g, v1.ownBlock = some g → g < Ws.heap.size := fun g hg => (HRS.out.held.r1.lt g hg).2
          have hwB : w.heap.size ≤ Ws.heap.size := HRS.out.low.size
          refine (wpIn_wide (n := 9)).1 ?_
          refine wpIn_rangeFunc_ownH rfl (by omega) (gf := 38) (lb := #[.pointer (some ⟨wa.heap.size, 0, none⟩)]) rfl trivial (enters_of Try.func38 (by kernel_rfl) rfl)
            (all_stops Fence.wide (9 - 1) trivial rfl (by omega) wa.heap.size xs v1 Ws hxl HRS.out.held.x1 HRS.out.held.r1) Kpt.trans (Kpt.b hv1l) (Below.refl _ _) (fun _ => rfl)
            (fun pre V => RR w w1.heap.size a nn ll (w.heap.size + 1 + 1) w.heap.size (w.heap.size + 1) w2.heap.size w4.heap.size w6.heap.size w8.heap.size w10.heap.size wa.heap.size (w4.heap.size + 1) (.slice o2 l2 c2) st v1 v2 (.slice oa1 (xs.length * 2) ca1) (.slice oa2 (ys.length * 2) ca2) xs ys Y V ∧ Blk V (w10.heap.size + 1) 3 #[.int .i64 ((pre.length * 2 : Nat) : Int)] ∧ KeepsFrom 0 Ws V ∧ pre <+: xs)
            (fun c pre V => (c = .ret ∧ ¬ pre <+: xs) ∨ (c = .exit 6 ∧ RR w w1.heap.size a nn ll (w.heap.size + 1 + 1) w.heap.size (w.heap.size + 1) w2.heap.size w4.heap.size w6.heap.size w8.heap.size w10.heap.size wa.heap.size (w4.heap.size + 1) (.slice o2 l2 c2) st v1 v2 (.slice oa1 (xs.length * 2) ca1) (.slice oa2 (ys.length * 2) ca2) xs ys Y V ∧ (∃ z, Blk V (w10.heap.size + 1) 3 #[z]) ∧ KeepsFrom 0 Ws V))
            (OwnFrom.and (RR.own hwB) (OwnFrom.and (Blk.ownF _ _ _ (fun (pre : List (Nat × Int)) => #[.int .i64 ((pre.length * 2 : Nat) : Int)])) (OwnFrom.and (ownFrom_keepsFrom (Nat.le_refl _)) (ownFrom_pure _ (fun pre => pre <+: xs)))))
            ?hIx3 ⟨HRS.out, HKS.out, KeepsFrom.refl _ _, List.nil_prefix⟩
            (fun x a' _ => a' = { tmps := #[.int .i64 ↑nn, .int .i64 ↑ll, .slice o1 l1 c1, .slice o2 l2 c2, .int .i64 st, undef, undef, undef, .pointer (some ⟨w.heap.size, 0, none⟩), .pointer (some ⟨w.heap.size + 1, 0, none⟩), .pointer (some ⟨w.heap.size + 1 + 1, 0, none⟩), .pointer (some ⟨w2.heap.size, 0, none⟩), u12, .int .i64 (roundV st ↑ll), .int .i64 (roundV (wrap64 (st + 1)) ↑ll), .pointer (some ⟨w4.heap.size, 0, none⟩), .pointer (some ⟨w6.heap.size, 0, none⟩), .pointer (some ⟨w8.heap.size, 0, none⟩), .pointer (some ⟨w10.heap.size, 0, none⟩), .pointer (some ⟨w10.heap.size + 1, 0, none⟩), undef, undef, u22, .int .i64 (x.1 : Int), .int .i64 x.2, undef, undef, undef, undef, undef, undef, undef, .bool true, .bool false, .int .i64 ↑nn, .int .i64 ↑ll, .pointer (some ⟨a, 0, none⟩), .pointer (some ⟨a, 0, none⟩), .bool false, .bool false, .int .i64 ↑ll, .bool false, .bool false, u43, u44, u45, u46, u47, u48, u49, u50, u51, u52, u53, u54, u55, u56, u57, u58, .int .i64 st, .int .i64 ↑ll, .int .i64 (roundV st ↑ll), .int .i64 st, .int .i64 (wrap64 (st + 1)), .int .i64 ↑ll, .int .i64 (roundV (wrap64 (st + 1)) ↑ll), .pointer (some ⟨a, 0, none⟩), .int .i64 (roundV st ↑ll), .func (.func 38) #[] #[.pointer (some ⟨wa.heap.size, 0, none⟩)], .pointer (some ⟨a, 0, none⟩), .int .i64 (roundV (wrap64 (st + 1)) ↑ll), .func (.func 38) #[] #[.pointer (some ⟨w4.heap.size + 1, 0, none⟩)], .func (.func 38) #[] #[.pointer (some ⟨wa.heap.size, 0, none⟩)], .bool false, .bool false, .func (.func 38) #[] #[.pointer (some ⟨w4.heap.size + 1, 0, none⟩)], .bool false, .bool false, .pointer (some ⟨a, 0, none⟩), .int .i64 (roundV st ↑ll), .slice oa1 (xs.length * 2) ca1, .pointer (some ⟨a, 0, none⟩), .int .i64 (roundV (wrap64 (st + 1)) ↑ll), .slice oa2 (ys.length * 2) ca2, .func (.func 38) #[] #[.pointer (some ⟨wa.heap.size, 0, none⟩)], undef, undef, undef, undef, undef, undef, undef, undef, undef, undef, undef, undef, undef, undef, undef, undef, undef, undef, undef, undef, undef, undef, undef, undef, undef, undef, undef, undef, undef, undef, undef, undef, undef, undef, undef, undef, undef, undef, .int .i64 (↑xs.length * 2), .slice oa1 (xs.length * 2) ca1, .int .i64 (↑xs.length * 2), .bool false, u127, u128, u129, u130, u131, u132, u133, u134, u135, u136, u137, u138, u139, u140, u141, u142, .func (.func 38) #[] #[.pointer (some ⟨wa.heap.size, 0, none⟩)], .int .i64 (x.1 : Int), .int .i64 x.2, undef, undef, undef, undef, undef, undef, undef, undef, undef, undef, undef, undef, undef, undef, undef, undef, undef, undef, undef, undef, undef, undef, undef, undef, undef, undef, undef, undef, undef, undef, undef, undef, undef, undef, undef, undef, undef, undef, undef, undef, undef, undef, undef, undef, undef, undef, undef, undef, undef, undef, undef, undef, undef, undef, undef, undef, undef, undef, undef, undef, undef, undef, undef, undef, undef, undef, undef, undef, undef, undef, undef, undef, undef, undef, undef, undef, undef, undef, undef, undef, undef, undef, undef, undef, undef, undef, undef, undef, undef, undef, undef, undef, undef, undef, undef, undef, undef, undef, undef, undef, undef, undef, undef, undef, undef, undef, undef, undef, undef, undef, undef, undef, undef, undef, undef, undef, undef, undef, undef, undef, undef, undef, undef, undef, undef, undef, undef, undef], defers := [] }) (fun _ _ _ _ _ _ h _ _ => h) ?assign3 ?body3 ?done3 ?stop3
          case hIx3 =>
            intro c pre A B row hs hg hr
            rcases hs with hs | ⟨h1, h2, ⟨z, h3⟩, h4⟩
            · exact .inl hs
            · exact .inr ⟨h1, RR.own (β := Unit) hwB () A B row h2 hg hr, ⟨z, Blk.ownF (β := Unit) Ws.heap.size _ _ (fun _ => #[z]) () A B row h3 hg hr⟩, ownFrom_keepsFrom (β := Unit) (Nat.le_refl _) () A B row h4 hg hr⟩
          case assign3 =>
            intro l pre x V K hI hK
            gi_wp2
            exact hK _ _ (KeepsFrom.refl _ _) (Kpt.refl _ _) hI rfl
          case body3 =>
            rintro l pre x a' V hl ⟨r0, hr0⟩ ⟨hR, hk, hf, hpre⟩ rfl hlt
            obtain ⟨y, hy⟩ : ∃ y, xs[pre.length]? = some y := ⟨_, List.getElem?_eq_getElem hlt⟩
            obtain ⟨g, cap, hu, q0, q1⟩ := ints_at hR.held.w1 hy
            have hsn := pre_snoc (x := x) hpre
            rw [hy] at hsn
            obtain ⟨m, hm⟩ : ∃ m, m = pre.length * 2 := ⟨_, rfl⟩
            obtain ⟨nx, hnx⟩ : ∃ nx, nx = xs.length * 2 := ⟨_, rfl⟩
            have hm2 : (pre ++ [x]).length * 2 = m + 2 := by simp; omega
            have hm1 : m + 1 < nx := by omega
            have hmb : m ≤ 8388608 := by omega
            rw [← hm] at hk q0 q1
            have cw : V.cell? ⟨w8.heap.size, 0, none⟩ = some (.slice oa1 nx ca1) := by rw [hR.held.bw.cell, hnx]; rfl
            have ck : V.cell? ⟨w10.heap.size + 1, 0, none⟩ = some (.int .i64 (m : Int)) := by rw [hk.cell]; rfl
            have fk := hk.frozen 0
            have cr : V.cell? ⟨w.heap.size + 1 + 1, 0, none⟩ = some (.bool false) := by rw [hR.re.cell]; rfl
            have fr := hR.re.frozen 0
            have cs : (V.alloc (.cells #[.int .i64 0] 3)).cell? ⟨w6.heap.size, 0, none⟩ = some (.func (.func 38) #[] #[.pointer (some ⟨w4.heap.size + 1, 0, none⟩)]) := by rw [(hR.held.b2.alloc _).cell]; rfl
            have HXL := hide hxl
            have HYL := hide hyl
            have HWB := hide hwB
            have HV1L := hide hv1l
            have HRe := hide hR.re.cel
            cases hu
            obtain ⟨xn, xv⟩ := x
            obtain ⟨yn, yv⟩ := y
            have kill : xn ≠ yn ∨ xv ≠ yv → ¬ pre ++ [(xn, xv)] <+: xs := by
              intro h hp
              have := hsn.1 hp
              simp at this
              omega
            have KILL := hide kill
            have HR3 := hide hR
            have HK3 := hide hk
            have HF3 := hide hf
            have HSN := hide hsn
            have HM2 := hide hm2
            have HL3 := hide hl
            have HR0 := hide hr0
            clear hxl hyl hwB hv1l kill hR hk hf hsn hm2 hl hr0 hpre hlt hm hnx hy
            gi_wp2
            · have g5 : (nx : Int) ≤ (m : Int) + 1 ∨ (yv != xv) = true := by assumption
              refine ⟨KeepsFrom.zero (keeps_set HRe.out _) _, .inl ⟨rfl, KILL.out ?_⟩⟩
              rcases g5 with g | g
              · omega
              · exact .inr (bne_iff_ne.1 g).symm
            · have hxy : some (yn, yv) = some (xn, xv) := by
                have g3 : (yn : Int) = (xn : Int) := by assumption
                have g5 : (m : Int) + 1 < (nx : Int) ∧ (yv != xv) = false := by assumption
                have e1 : yn = xn := by omega
                have e2 : yv = xv := by have := g5.2; simpa using this
                rw [e1, e2]
              have HXY := hide hxy
              obtain ⟨V1, hV1⟩ : ∃ V1, V.alloc (.cells #[.int .i64 0] 3) = V1 := ⟨_, rfl⟩
              have hal : Below V.heap.size V V1 := by rw [← hV1]; exact (Below.refl _ V).alloc (Nat.le_refl _) _
              have hsz : V1.heap.size = V.heap.size + 1 := by rw [← hV1]; simp
              have hbm : Blk V1 V.heap.size 3 #[.int .i64 ((0 : Nat) : Int)] := by rw [← hV1]; exact Blk.new V 3 _
              have hR1 : RR w w1.heap.size a nn ll (w.heap.size + 1 + 1) w.heap.size (w.heap.size + 1) w2.heap.size w4.heap.size w6.heap.size w8.heap.size w10.heap.size wa.heap.size (w4.heap.size + 1) (.slice o2 l2 c2) st v1 v2 (.slice (some ⟨g, 0, none⟩) (xs.length * 2) ca1) (.slice oa2 (ys.length * 2) ca2) xs ys (fun b => Y b ∨ b = V.heap.size) V1 := HR3.out.moreX hal (fun b hb => by
                rcases hb with h | rfl
                · exact .inl h
                · exact .inr ⟨Nat.le_refl _, by omega⟩)
              have hk1 := HK3.out.below hal HK3.out.lt
              have hf1 : KeepsFrom 0 V V1 := by rw [← hV1]; exact keeps_alloc _ _
              have hl1' : V1.heap[l]? = some (.loop r0) := hf1.same _ _ (Nat.zero_le _) HR0.out rfl
              have hv2l : ∀ g, v2.ownBlock = some g → g < V1.heap.size := fun g hg => (hR1.held.r2.lt g hg).2
              have hv1l : ∀ g, v1.ownBlock = some g → g < V1.heap.size := fun g hg => (hR1.held.r1.lt g hg).2
              have hv1c : ∀ g, v1.ownBlock = some g → Cel V1 g := fun g hg => own_cel hR1.held.r1 hg
              have hwV : w.heap.size ≤ V1.heap.size := hR1.low.size
              have hnm : ¬ hasB w.heap.size (w.heap.size + 1) w2.heap.size w4.heap.size w6.heap.size w8.heap.size w10.heap.size wa.heap.size (w4.heap.size + 1) v1 v2 (.slice (some ⟨g, 0, none⟩) (xs.length * 2) ca1) (.slice oa2 (ys.length * 2) ca2) V.heap.size := fun h => Nat.lt_irrefl _ (HR3.out.held.lt h)
              have hrm : w.heap.size + 1 + 1 ≠ V.heap.size := by have := HR3.out.re.lt; omega
              have hkm : w10.heap.size + 1 ≠ V.heap.size := by have := HK3.out.lt; omega
              have hwm : w.heap.size ≤ V.heap.size := HR3.out.low.size
              have hpm : ∀ q, hasB w.heap.size (w.heap.size + 1) w2.heap.size w4.heap.size w6.heap.size w8.heap.size w10.heap.size wa.heap.size (w4.heap.size + 1) v1 v2 (.slice (some ⟨g, 0, none⟩) (xs.length * 2) ca1) (.slice oa2 (ys.length * 2) ca2) q → q ≠ V.heap.size := fun q hq e => hnm (e ▸ hq)
              rw [hV1]
              clear hV1
              refine wpIn_rangeFunc_ownN (l₀ := l) (r₀ := r0) rfl hl1' (by omega) (gf := 38) (lb := #[.pointer (some ⟨w4.heap.size + 1, 0, none⟩)]) rfl trivial (enters_of Try.func38 (by kernel_rfl) rfl)
                (SeqStopsK.inRound l (all_stops Fence.wide (7 - 1) trivial rfl (by omega) (w4.heap.size + 1) ys v2 V1 HYL.out hR1.held.x2 hR1.held.r2)) Kpt.trans (Kpt.b hv2l) (Below.refl _ _) (fun _ => rfl)
                (fun pre' U => RR w w1.heap.size a nn ll (w.heap.size + 1 + 1) w.heap.size (w.heap.size + 1) w2.heap.size w4.heap.size w6.heap.size w8.heap.size w10.heap.size wa.heap.size (w4.heap.size + 1) (.slice o2 l2 c2) st v1 v2 (.slice (some ⟨g, 0, none⟩) (xs.length * 2) ca1) (.slice oa2 (ys.length * 2) ca2) xs ys (fun b => Y b ∨ b = V.heap.size) U ∧ Blk U (w10.heap.size + 1) 3 #[.int .i64 (m : Int)] ∧ Blk U V.heap.size 3 #[.int .i64 ((pre'.length * 2 : Nat) : Int)] ∧ (KeepsFrom 0 V1 U ∧ Kpt v1 V1 U) ∧ pre' <+: ys)
                (fun _ pre' _ => ¬ pre' <+: ys)
                (OwnFrom.and (RR.own hwV) (OwnFrom.and (Blk.ownF _ _ _ (fun _ => #[.int .i64 (m : Int)])) (OwnFrom.and (Blk.ownF _ _ _ (fun (pre : List (Nat × Int)) => #[.int .i64 ((pre.length * 2 : Nat) : Int)])) (OwnFrom.and (OwnFrom.and (ownFrom_keepsFrom (Nat.le_refl _)) (Kpt.ownF hv1c)) (ownFrom_pure _ (fun pre => pre <+: ys))))))
                (fun _ => ownFrom_pure _ (fun pre => ¬ pre <+: ys)) ⟨hR1, hk1, hbm, ⟨KeepsFrom.refl _ _, Kpt.refl _ _⟩, List.nil_prefix⟩
                (fun x' a' _ => a' = { tmps := #[.int .i64 (nn : Int), .int .i64 (ll : Int), .slice o1 l1 c1, .slice o2 l2 c2, .int .i64 st, undef, undef, undef, .pointer (some ⟨w.heap.size, 0, none⟩), .pointer (some ⟨w.heap.size + 1, 0, none⟩), .pointer (some ⟨w.heap.size + 1 + 1, 0, none⟩), .pointer (some ⟨w2.heap.size, 0, none⟩), u12, .int .i64 (roundV st (ll : Int)), .int .i64 (roundV (wrap64 (st + 1)) (ll : Int)), .pointer (some ⟨w4.heap.size, 0, none⟩), .pointer (some ⟨w6.heap.size, 0, none⟩), .pointer (some ⟨w8.heap.size, 0, none⟩), .pointer (some ⟨w10.heap.size, 0, none⟩), .pointer (some ⟨w10.heap.size + 1, 0, none⟩), undef, undef, u22, .int .i64 (xn : Int), .int .i64 xv, .pointer (some ⟨V.heap.size, 0, none⟩), .int .i64 (x'.1 : Int), .int .i64 x'.2, undef, undef, undef, undef, .bool true, .bool false, .int .i64 (nn : Int), .int .i64 (ll : Int), .pointer (some ⟨a, 0, none⟩), .pointer (some ⟨a, 0, none⟩), .bool false, .bool false, .int .i64 (ll : Int), .bool false, .bool false, u43, u44, u45, u46, u47, u48, u49, u50, u51, u52, u53, u54, u55, u56, u57, u58, .int .i64 st, .int .i64 (ll : Int), .int .i64 (roundV st (ll : Int)), .int .i64 st, .int .i64 (wrap64 (st + 1)), .int .i64 (ll : Int), .int .i64 (roundV (wrap64 (st + 1)) (ll : Int)), .pointer (some ⟨a, 0, none⟩), .int .i64 (roundV st (ll : Int)), .func (.func 38) #[] #[.pointer (some ⟨wa.heap.size, 0, none⟩)], .pointer (some ⟨a, 0, none⟩), .int .i64 (roundV (wrap64 (st + 1)) (ll : Int)), .func (.func 38) #[] #[.pointer (some ⟨w4.heap.size + 1, 0, none⟩)], .func (.func 38) #[] #[.pointer (some ⟨wa.heap.size, 0, none⟩)], .bool false, .bool false, .func (.func 38) #[] #[.pointer (some ⟨w4.heap.size + 1, 0, none⟩)], .bool false, .bool false, .pointer (some ⟨a, 0, none⟩), .int .i64 (roundV st (ll : Int)), .slice (some ⟨g, 0, none⟩) (xs.length * 2) ca1, .pointer (some ⟨a, 0, none⟩), .int .i64 (roundV (wrap64 (st + 1)) (ll : Int)), .slice oa2 (ys.length * 2) ca2, .func (.func 38) #[] #[.pointer (some ⟨wa.heap.size, 0, none⟩)], undef, undef, undef, undef, undef, undef, undef, undef, undef, undef, undef, undef, undef, undef, undef, undef, undef, undef, undef, undef, undef, undef, undef, undef, undef, undef, undef, undef, undef, undef, undef, undef, undef, undef, undef, undef, undef, undef, .int .i64 ((xs.length : Int) * 2), .slice (some ⟨g, 0, none⟩) (xs.length * 2) ca1, .int .i64 ((xs.length : Int) * 2), .bool false, u127, u128, u129, u130, u131, u132, u133, u134, u135, u136, u137, u138, u139, u140, u141, u142, .func (.func 38) #[] #[.pointer (some ⟨wa.heap.size, 0, none⟩)], .int .i64 (xn : Int), .int .i64 xv, .int .i64 (m : Int), .int .i64 ((m : Int) + 1), .slice (some ⟨g, 0, none⟩) nx ca1, .int .i64 (nx : Int), .bool (decide ((nx : Int) ≤ (m : Int) + 1)), .bool (decide ((nx : Int) ≤ (m : Int) + 1)), .slice (some ⟨g, 0, none⟩) nx ca1, .int .i64 (m : Int), .pointer (some ⟨g, m, none⟩), .int .i64 (xn : Int), .int .i64 (xn : Int), .bool false, .bool (decide ((nx : Int) ≤ (m : Int) + 1)), .bool (decide ((nx : Int) ≤ (m : Int) + 1)), .slice (some ⟨g, 0, none⟩) nx ca1, .int .i64 (m : Int), .int .i64 ((m : Int) + 1), .pointer (some ⟨g, m + 1, none⟩), .int .i64 yv, .int .i64 xv, .bool false, .bool (decide ((nx : Int) ≤ (m : Int) + 1)), .func (.func 38) #[] #[.pointer (some ⟨w4.heap.size + 1, 0, none⟩)], .int .i64 (x'.1 : Int), .int .i64 x'.2, undef, undef, undef, undef, undef, undef, undef, undef, undef, undef, undef, undef, undef, undef, undef, undef, undef, undef, undef, undef, undef, undef, undef, undef, undef, undef, undef, undef, undef, undef, undef, undef, undef, undef, undef, undef, undef, undef, undef, undef, undef, undef, undef, undef, undef, undef, undef, undef, undef, undef, undef, undef, undef, undef, undef, undef, undef, undef, undef, undef, undef, undef, undef, undef, undef, undef, undef, undef, undef, undef, undef, undef, undef, undef, undef, undef, undef, undef, undef, undef, undef, undef, undef, undef, undef, undef, undef, undef, undef, undef, undef, undef, undef, undef, undef, undef, undef, undef, undef, undef, undef, undef, undef], defers := [] }) (fun _ _ _ _ _ _ h _ _ => h) ?assign4 ?body4 ?done4 ?stop4
              case assign4 =>
                intro l' pre' x' U K hI hK
                gi_wp2
                exact hK _ _ (KeepsFrom.refl _ _) (Kpt.refl _ _) hI rfl
              case body4 =>
                rintro l' pre' x' a' U hl' - ⟨hR, hk, hmb', hf, hpre⟩ rfl hlt
                obtain ⟨y', hy⟩ : ∃ y', ys[pre'.length]? = some y' := ⟨_, List.getElem?_eq_getElem hlt⟩
                obtain ⟨g', cap', hu, r0', r1'⟩ := ints_at hR.held.w2 hy
                have hsn := pre_snoc (x := x') hpre
                rw [hy] at hsn
                obtain ⟨m', hm⟩ : ∃ m', m' = pre'.length * 2 := ⟨_, rfl⟩
                obtain ⟨ny, hny⟩ : ∃ ny, ny = ys.length * 2 := ⟨_, rfl⟩
                have hm2 : (((pre' ++ [x']).length : Nat) : Int) * 2 = (m' : Int) + 2 := by simp; omega
                have hm1' : m' + 1 < ny := by omega
                have hmb2 : m' ≤ 8388608 := by have := HYL.out; omega
                rw [← hm] at hmb' r0' r1'
                have cw' : U.cell? ⟨w10.heap.size, 0, none⟩ = some (.slice oa2 ny ca2) := by rw [hR.held.bo.cell, hny]; rfl
                have ck' : U.cell? ⟨V.heap.size, 0, none⟩ = some (.int .i64 (m' : Int)) := by rw [hmb'.cell]; rfl
                have fk' := hmb'.frozen 0
                have cr' : U.cell? ⟨w.heap.size + 1 + 1, 0, none⟩ = some (.bool false) := by rw [hR.re.cell]; rfl
                have fr' := hR.re.frozen 0
                have HRe' := hide hR.re.cel
                cases hu
                obtain ⟨xn', xv'⟩ := x'
                obtain ⟨yn', yv'⟩ := y'
                have kill : xn' ≠ yn' ∨ xv' ≠ yv' → ¬ pre' ++ [(xn', xv')] <+: ys := by
                  intro h hp
                  have := hsn.1 hp
                  simp at this
                  omega
                have KILL' := hide kill
                have HR4 := hide hR
                have HK4 := hide hk
                have HM4 := hide hmb'
                have HF4 := hide hf
                have HSN4 := hide hsn
                have HM24 := hide hm2
                have HNM := hide hnm
                have HRM := hide hrm
                have HKM := hide hkm
                have HWM := hide hwm
                have HPM := hide hpm
                clear hv1l hv2l hv1c hwV hnm hrm hkm hwm hpm kill hR hk hmb' hf hsn hm2 hpre hlt hm hny hy hl1' hR1 hk1 hf1 hbm hal hsz hxy cw ck fk cr fr cs q0 q1 hm1 hmb hl'
                gi_wp2
                · have g5 : (ny : Int) ≤ (m' : Int) + 1 ∨ (yv' != xv') = true := by assumption
                  refine ⟨KeepsFrom.zero (keeps_set HRe'.out _) _, KILL'.out ?_⟩
                  rcases g5 with g | g
                  · omega
                  · exact .inr (bne_iff_ne.1 g).symm
                · have hxy : some (yn', yv') = some (xn', xv') := by
                    have g3 : (yn' : Int) = (xn' : Int) := by assumption
                    have g5 : (m' : Int) + 1 < (ny : Int) ∧ (yv' != xv') = false := by assumption
                    have e1 : yn' = xn' := by omega
                    have e2 : yv' = xv' := by have := g5.2; simpa using this
                    rw [e1, e2]
                  refine ⟨KeepsFrom.zero (keeps_set HM4.out.cel _) _, ⟨by simp, fun q hq => Below.heap_setCell U _ _ q (HPM.out q (by simp [hasB, hq]))⟩, HR4.out.set HNM.out HRM.out (.inr rfl) HWM.out _, HK4.out.far (p := ⟨V.heap.size, 0, none⟩) HKM.out _, ?_, ⟨HF4.out.1.trans (keeps_set HM4.out.cel _), HF4.out.2.trans ⟨by simp, fun q hq => Below.heap_setCell U _ _ q (HPM.out q (by simp [hasB, hq]))⟩⟩, HSN4.out.2 hxy⟩
                  rw [HM24.out]
                  have := HM4.out.set_ 0 (.int .i64 ((m' : Int) + 2))
                  simpa using this
                · exact ⟨KeepsFrom.zero (keeps_set HRe'.out _) _, KILL'.out (.inl (by
                    have g3 : ¬ (yn' : Int) = (xn' : Int) := by assumption
                    omega))⟩
              case done4 =>
                rintro zs U hzs ⟨hR, hk, hmb', hf, _⟩
                subst zs
                have cw' : U.cell? ⟨w10.heap.size, 0, none⟩ = some (.slice oa2 (ys.length * 2) ca2) := by rw [hR.held.bo.cell]; rfl
                have ck' : U.cell? ⟨V.heap.size, 0, none⟩ = some (.int .i64 ((ys.length * 2 : Nat) : Int)) := by rw [hmb'.cell]; rfl
                have fk' := hmb'.frozen 0
                have hR2 := hR.set hnm hrm (.inr rfl) hwm (.int .i64 0)
                have hk2 := hk.far (p := ⟨V.heap.size, 0, none⟩) hkm (.int .i64 0)
                have hmb2 : Blk (U.setCell ⟨V.heap.size, 0, none⟩ (.int .i64 0)) V.heap.size 3 #[.int .i64 ((0 : Nat) : Int)] := by
                  have := hmb'.set_ 0 (.int .i64 0)
                  simpa using this
                have hf2 : KeepsFrom 0 V1 (U.setCell ⟨V.heap.size, 0, none⟩ (.int .i64 0)) ∧ Kpt v1 V1 (U.setCell ⟨V.heap.size, 0, none⟩ (.int .i64 0)) := ⟨hf.1.trans (keeps_set hmb'.cel (.int .i64 0)), hf.2.trans ⟨by simp, fun q hq => Below.heap_setCell U _ _ q (hpm q (by simp [hasB, hq]))⟩⟩
                have cf' : (U.setCell ⟨V.heap.size, 0, none⟩ (.int .i64 0)).cell? ⟨w4.heap.size, 0, none⟩ = some (.func (.func 38) #[] #[.pointer (some ⟨wa.heap.size, 0, none⟩)]) := by rw [hR2.held.b1.cell]; rfl
                have HR2 := hide hR2
                have HK2 := hide hk2
                have HM2' := hide hmb2
                have HF2 := hide hf2
                have HHL := hide hl1'
                have hvk : Kpt v1 V V1 := ⟨by omega, fun q hq => hal.block q (HR3.out.held.r1.lt q hq).2⟩
                have HVK := hide hvk
                have HMB := hide hmb
                have HNM := hide hnm
                have HRM := hide hrm
                have HKM := hide hkm
                have HWM := hide hwm
                have HPM := hide hpm
                have HWV := hide hwV
                have HSZ := hide hsz
                have HF1 := hide hf1
                have HV1C := hide hv1c
                clear hvk hv1c hR hk hmb' hf hR2 hk2 hmb2 hf2 hv1l hv2l hwV hnm hrm hkm hwm hpm hl1' hR1 hk1 hf1 hbm hal hsz hxy cw ck fk cr fr cs q0 q1 hm1 hmb
                gi_wp2
                obtain ⟨V2, hV2⟩ : ∃ V2, U.setCell ⟨V.heap.size, 0, none⟩ (.int .i64 0) = V2 := ⟨_, rfl⟩
                rw [hV2] at HR2 HK2 HM2' HF2 ⊢
                clear hV2 cf' ck' cw' fk'
                have hl2' : V2.heap[l]? = some (.loop r0) := HF2.out.1.same _ _ (Nat.zero_le _) HHL.out rfl
                have hv1l : ∀ g, v1.ownBlock = some g → g < V2.heap.size := fun g hg => (HR2.out.held.r1.lt g hg).2
                have hwV2 : w.heap.size ≤ V2.heap.size := HR2.out.low.size
                refine wpIn_rangeFunc_ownN (l₀ := l) (r₀ := r0) rfl hl2' (by omega) (gf := 38) (lb := #[.pointer (some ⟨wa.heap.size, 0, none⟩)]) rfl trivial (enters_of Try.func38 (by kernel_rfl) rfl)
                  (SeqStopsK.inRound l (all_stops Fence.wide (9 - 1 - 1 - 1) trivial rfl (by omega) wa.heap.size xs v1 V2 HXL.out HR2.out.held.x1 HR2.out.held.r1)) Kpt.trans (Kpt.b hv1l) (Below.refl _ _) (fun _ => rfl)
                  (fun pre' U => RR w w1.heap.size a nn ll (w.heap.size + 1 + 1) w.heap.size (w.heap.size + 1) w2.heap.size w4.heap.size w6.heap.size w8.heap.size w10.heap.size wa.heap.size (w4.heap.size + 1) (.slice o2 l2 c2) st v1 v2 (.slice (some ⟨g, 0, none⟩) (xs.length * 2) ca1) (.slice oa2 (ys.length * 2) ca2) xs ys (fun b => Y b ∨ b = V.heap.size) U ∧ Blk U (w10.heap.size + 1) 3 #[.int .i64 (m : Int)] ∧ Blk U V.heap.size 3 #[.int .i64 ((pre'.length * 2 : Nat) : Int)] ∧ (KeepsFrom 0 V1 U ∧ Kpt v1 V1 U) ∧ pre' <+: xs)
                  (fun _ pre' _ => ¬ pre' <+: xs)
                  (OwnFrom.and (RR.own hwV2) (OwnFrom.and (Blk.ownF _ _ _ (fun _ => #[.int .i64 (m : Int)])) (OwnFrom.and (Blk.ownF _ _ _ (fun (pre : List (Nat × Int)) => #[.int .i64 ((pre.length * 2 : Nat) : Int)])) (OwnFrom.and (OwnFrom.and (ownFrom_keepsFrom HF2.out.1.size) (Kpt.ownF HV1C.out)) (ownFrom_pure _ (fun pre => pre <+: xs))))))
                  (fun _ => ownFrom_pure _ (fun pre => ¬ pre <+: xs)) ⟨HR2.out, HK2.out, HM2'.out, HF2.out, List.nil_prefix⟩
                  (fun x' a' _ => a' = { tmps := #[.int .i64 (nn : Int), .int .i64 (ll : Int), .slice o1 l1 c1, .slice o2 l2 c2, .int .i64 st, undef, undef, undef, .pointer (some ⟨w.heap.size, 0, none⟩), .pointer (some ⟨w.heap.size + 1, 0, none⟩), .pointer (some ⟨w.heap.size + 1 + 1, 0, none⟩), .pointer (some ⟨w2.heap.size, 0, none⟩), u12, .int .i64 (roundV st (ll : Int)), .int .i64 (roundV (wrap64 (st + 1)) (ll : Int)), .pointer (some ⟨w4.heap.size, 0, none⟩), .pointer (some ⟨w6.heap.size, 0, none⟩), .pointer (some ⟨w8.heap.size, 0, none⟩), .pointer (some ⟨w10.heap.size, 0, none⟩), .pointer (some ⟨w10.heap.size + 1, 0, none⟩), undef, undef, u22, .int .i64 (xn : Int), .int .i64 xv, .pointer (some ⟨V.heap.size, 0, none⟩), undef, undef, .int .i64 (x'.1 : Int), .int .i64 x'.2, undef, undef, .bool true, .bool false, .int .i64 (nn : Int), .int .i64 (ll : Int), .pointer (some ⟨a, 0, none⟩), .pointer (some ⟨a, 0, none⟩), .bool false, .bool false, .int .i64 (ll : Int), .bool false, .bool false, u43, u44, u45, u46, u47, u48, u49, u50, u51, u52, u53, u54, u55, u56, u57, u58, .int .i64 st, .int .i64 (ll : Int), .int .i64 (roundV st (ll : Int)), .int .i64 st, .int .i64 (wrap64 (st + 1)), .int .i64 (ll : Int), .int .i64 (roundV (wrap64 (st + 1)) (ll : Int)), .pointer (some ⟨a, 0, none⟩), .int .i64 (roundV st (ll : Int)), .func (.func 38) #[] #[.pointer (some ⟨wa.heap.size, 0, none⟩)], .pointer (some ⟨a, 0, none⟩), .int .i64 (roundV (wrap64 (st + 1)) (ll : Int)), .func (.func 38) #[] #[.pointer (some ⟨w4.heap.size + 1, 0, none⟩)], .func (.func 38) #[] #[.pointer (some ⟨wa.heap.size, 0, none⟩)], .bool false, .bool false, .func (.func 38) #[] #[.pointer (some ⟨w4.heap.size + 1, 0, none⟩)], .bool false, .bool false, .pointer (some ⟨a, 0, none⟩), .int .i64 (roundV st (ll : Int)), .slice (some ⟨g, 0, none⟩) (xs.length * 2) ca1, .pointer (some ⟨a, 0, none⟩), .int .i64 (roundV (wrap64 (st + 1)) (ll : Int)), .slice oa2 (ys.length * 2) ca2, .func (.func 38) #[] #[.pointer (some ⟨wa.heap.size, 0, none⟩)], undef, undef, undef, undef, undef, undef, undef, undef, undef, undef, undef, undef, undef, undef, undef, undef, undef, undef, undef, undef, undef, undef, undef, undef, undef, undef, undef, undef, undef, undef, undef, undef, undef, undef, undef, undef, undef, undef, .int .i64 ((xs.length : Int) * 2), .slice (some ⟨g, 0, none⟩) (xs.length * 2) ca1, .int .i64 ((xs.length : Int) * 2), .bool false, u127, u128, u129, u130, u131, u132, u133, u134, u135, u136, u137, u138, u139, u140, u141, u142, .func (.func 38) #[] #[.pointer (some ⟨wa.heap.size, 0, none⟩)], .int .i64 (xn : Int), .int .i64 xv, .int .i64 (m : Int), .int .i64 ((m : Int) + 1), .slice (some ⟨g, 0, none⟩) nx ca1, .int .i64 (nx : Int), .bool (decide ((nx : Int) ≤ (m : Int) + 1)), .bool (decide ((nx : Int) ≤ (m : Int) + 1)), .slice (some ⟨g, 0, none⟩) nx ca1, .int .i64 (m : Int), .pointer (some ⟨g, m, none⟩), .int .i64 (xn : Int), .int .i64 (xn : Int), .bool false, .bool (decide ((nx : Int) ≤ (m : Int) + 1)), .bool (decide ((nx : Int) ≤ (m : Int) + 1)), .slice (some ⟨g, 0, none⟩) nx ca1, .int .i64 (m : Int), .int .i64 ((m : Int) + 1), .pointer (some ⟨g, m + 1, none⟩), .int .i64 yv, .int .i64 xv, .bool false, .bool (decide ((nx : Int) ≤ (m : Int) + 1)), .func (.func 38) #[] #[.pointer (some ⟨w4.heap.size + 1, 0, none⟩)], undef, undef, undef, undef, undef, undef, undef, undef, undef, undef, undef, undef, undef, undef, undef, undef, undef, undef, undef, undef, undef, undef, undef, undef, undef, undef, .int .i64 ((ys.length : Int) * 2), .slice oa2 (ys.length * 2) ca2, .int .i64 ((ys.length : Int) * 2), .bool false, .func (.func 38) #[] #[.pointer (some ⟨wa.heap.size, 0, none⟩)], .int .i64 (x'.1 : Int), .int .i64 x'.2, undef, undef, undef, undef, undef, undef, undef, undef, undef, undef, undef, undef, undef, undef, undef, undef, undef, undef, undef, undef, undef, undef, undef, undef, undef, undef, undef, undef, undef, undef, undef, undef, undef, undef, undef, undef, undef, undef, undef, undef, undef, undef, undef, undef, undef, undef, undef, undef, undef, undef, undef, undef, undef, undef, undef, undef, undef, undef, undef, undef, undef, undef, undef, undef, undef, undef, undef, undef, undef, undef, undef, undef], defers := [] }) (fun _ _ _ _ _ _ h _ _ => h) ?assign5 ?body5 ?done5 ?stop5
                case assign5 =>
                  intro l' pre' x' U K hI hK
                  gi_wp2
                  exact hK _ _ (KeepsFrom.refl _ _) (Kpt.refl _ _) hI rfl
                case body5 =>
                  rintro l' pre' x' a' U hl' - ⟨hR, hk, hmb', hf, hpre⟩ rfl hlt
                  obtain ⟨y', hy⟩ : ∃ y', xs[pre'.length]? = some y' := ⟨_, List.getElem?_eq_getElem hlt⟩
                  obtain ⟨g', cap', hu, r0', r1'⟩ := ints_at hR.held.w1 hy
                  have hsn := pre_snoc (x := x') hpre
                  rw [hy] at hsn
                  obtain ⟨m', hm⟩ : ∃ m', m' = pre'.length * 2 := ⟨_, rfl⟩
                  obtain ⟨ny, hny⟩ : ∃ ny, ny = xs.length * 2 := ⟨_, rfl⟩
                  have hm2 : (((pre' ++ [x']).length : Nat) : Int) * 2 = (m' : Int) + 2 := by simp; omega
                  have hm1' : m' + 1 < ny := by omega
                  have hmb2 : m' ≤ 8388608 := by have := HXL.out; omega
                  rw [← hm] at hmb' r0' r1'
                  have cw' : U.cell? ⟨w8.heap.size, 0, none⟩ = some (.slice (some ⟨g, 0, none⟩) ny ca1) := by rw [hR.held.bw.cell, hny]; rfl
                  have ck' : U.cell? ⟨V.heap.size, 0, none⟩ = some (.int .i64 (m' : Int)) := by rw [hmb'.cell]; rfl
                  have fk' := hmb'.frozen 0
                  have cr' : U.cell? ⟨w.heap.size + 1 + 1, 0, none⟩ = some (.bool false) := by rw [hR.re.cell]; rfl
                  have fr' := hR.re.frozen 0
                  have HRe' := hide hR.re.cel
                  obtain ⟨rfl, rfl⟩ : g' = g ∧ cap' = ca1 := by
                    injection hu with e1 e2 e3
                    injection e1 with e1
                    injection e1 with e1
                    exact ⟨e1.symm, e3.symm⟩
                  clear hu
                  obtain ⟨xn', xv'⟩ := x'
                  obtain ⟨yn', yv'⟩ := y'
                  have kill : xn' ≠ yn' ∨ xv' ≠ yv' → ¬ pre' ++ [(xn', xv')] <+: xs := by
                    intro h hp
                    have := hsn.1 hp
                    simp at this
                    omega
                  have KILL' := hide kill
                  have HR4 := hide hR
                  have HK4 := hide hk
                  have HM4 := hide hmb'
                  have HF4 := hide hf
                  have HSN4 := hide hsn
                  have HM24 := hide hm2
                  clear kill hR hk hmb' hf hsn hm2 hpre hlt hm hny hy hl'
                  gi_wp2
                  · have g5 : (ny : Int) ≤ (m' : Int) + 1 ∨ (yv' != xv') = true := by assumption
                    refine ⟨KeepsFrom.zero (keeps_set HRe'.out _) _, KILL'.out ?_⟩
                    rcases g5 with g | g
                    · omega
                    · exact .inr (bne_iff_ne.1 g).symm
                  · have hxy : some (yn', yv') = some (xn', xv') := by
                      have g3 : (yn' : Int) = (xn' : Int) := by assumption
                      have g5 : (m' : Int) + 1 < (ny : Int) ∧ (yv' != xv') = false := by assumption
                      have e1 : yn' = xn' := by omega
                      have e2 : yv' = xv' := by have := g5.2; simpa using this
                      rw [e1, e2]
                    refine ⟨KeepsFrom.zero (keeps_set HM4.out.cel _) _, ⟨by simp, fun q hq => Below.heap_setCell U _ _ q (HPM.out q (by simp [hasB, hq]))⟩, HR4.out.set HNM.out HRM.out (.inr rfl) HWM.out _, HK4.out.far (p := ⟨V.heap.size, 0, none⟩) HKM.out _, ?_, ⟨HF4.out.1.trans (keeps_set HM4.out.cel _), HF4.out.2.trans ⟨by simp, fun q hq => Below.heap_setCell U _ _ q (HPM.out q (by simp [hasB, hq]))⟩⟩, HSN4.out.2 hxy⟩
                    rw [HM24.out]
                    have := HM4.out.set_ 0 (.int .i64 ((m' : Int) + 2))
                    simpa using this
                  · exact ⟨KeepsFrom.zero (keeps_set HRe'.out _) _, KILL'.out (.inl (by
                      have g3 : ¬ (yn' : Int) = (xn' : Int) := by assumption
                      omega))⟩
                case done5 =>
                  rintro zs U hzs ⟨hR, hk, hmb', hf, _⟩
                  subst zs
                  have cw' : U.cell? ⟨w8.heap.size, 0, none⟩ = some (.slice (some ⟨g, 0, none⟩) (xs.length * 2) ca1) := by rw [hR.held.bw.cell]; rfl
                  have cm' : U.cell? ⟨V.heap.size, 0, none⟩ = some (.int .i64 ((xs.length * 2 : Nat) : Int)) := by rw [hmb'.cell]; rfl
                  have ck' : U.cell? ⟨w10.heap.size + 1, 0, none⟩ = some (.int .i64 (m : Int)) := by rw [hk.cell]; rfl
                  have fk' := hk.frozen 0
                  have hR2 := hR.set HNK.out HRK.out (.inl hyk) (by have := HWW.out; have := HWK.out; omega) (.int .i64 ((m : Int) + 2))
                  have cst : (U.setCell ⟨w10.heap.size + 1, 0, none⟩ (.int .i64 ((m : Int) + 2))).cell? ⟨w.heap.size + 1, 0, none⟩ = some (.int .i64 st) := by rw [hR2.held.st.cell]; rfl
                  have hks2 : Blk (U.setCell ⟨w10.heap.size + 1, 0, none⟩ (.int .i64 ((m : Int) + 2))) (w10.heap.size + 1) 3 #[.int .i64 ((m : Int) + 2)] := by
                    have := hk.set_ 0 (.int .i64 ((m : Int) + 2))
                    simpa using this
                  have ck2 : (U.setCell ⟨w10.heap.size + 1, 0, none⟩ (.int .i64 ((m : Int) + 2))).cell? ⟨w10.heap.size + 1, 0, none⟩ = some (.int .i64 ((m : Int) + 2)) := by rw [hks2.cell]; rfl
                  have hfk := hf.1.trans (keeps_set hk.cel (.int .i64 ((m : Int) + 2)))
                  have hpk : Kpt v1 V1 (U.setCell ⟨w10.heap.size + 1, 0, none⟩ (.int .i64 ((m : Int) + 2))) := hf.2.trans ⟨by simp, fun q hq => Below.heap_setCell U _ _ q (fun e => HNK.out (by rw [show w10.heap.size + 1 = q from e.symm]; simp [hasB, hq]))⟩
                  have hmb9 : m ≤ 8388608 := HMB.out
                  have hmx : Try.prog.follows .mixedOrders = true := by kernel_rfl
                  have HR5 := hide (hR2.lessX (Z := Y) fun b hb => .inl hb)
                  have HK5 := hide hks2
                  have HF5 := hide hfk
                  have HP5 := hide hpk
                  have HM6 := HM2.out
                  have HM5 := hide HM6
                  clear hR hk hmb' hf hR2 hks2 hfk hpk HM6 hv1l hwV2 hl2'
                  gi_wp2
                  obtain ⟨U2, hU2⟩ : ∃ U2, U.setCell ⟨w10.heap.size + 1, 0, none⟩ (.int .i64 ((m : Int) + 2)) = U2 := ⟨_, rfl⟩
                  rw [hU2] at HR5 HK5 HF5 HP5 cst ck2 ⊢
                  clear hU2 cw' cm' ck' fk'
                  gi_region_with_o (first
                    | (refine ⟨trivial, ?_⟩
                       gi_at_call 14
                       refine (CallsIn.inRound l (callsIn_wide.2 (round_i _ _ _ (by decide) (by decide)))).mono ?_
                       rintro en w' ⟨rfl, rfl⟩))
                  all_goals
                    have hDr : Below U2.heap.size U2 U2.drew := (Below.refl _ _).drew
                    have FR := hide (HR5.out.below hDr)
                    have FK : Hid (Blk U2.drew (w10.heap.size + 1) 3 #[.int .i64 ((m : Int) + 2)]) := HK5.out
                    have FKF := hide (HF1.out.trans (HF5.out.trans ((KeepsOthers.drew U2).from 0)))
                    have FKS := hide (HF3.out.trans FKF.out)
                    have FP : Hid (Kpt v1 V U2.drew) := HVK.out.trans HP5.out
                    have FPRE := hide (HSN.out.2 HXY.out)
                    have FK2 : Hid (Blk U2.drew (w10.heap.size + 1) 3 #[.int .i64 (((pre ++ [(xn, xv)]).length * 2 : Nat) : Int)]) := by
                      have e := HM5.out
                      have := FK.out
                      rw [e]
                      exact this
                    clear hDr
                    gi_wp2
                    all_goals
                      first
                      | exact ⟨KeepsFrom.zero FKF.out _, .inr ⟨rfl, FR.out, ⟨_, FK.out⟩, FKS.out⟩⟩
                      | exact ⟨KeepsFrom.zero FKF.out _, FP.out, FR.out, FK2.out, FKS.out, FPRE.out⟩
                case stop5 =>
                  rintro c pre' U hp hn
                  exact (hn hp).elim
              case stop4 =>
                rintro c pre' U hp hn
                exact (hn hp).elim
            · exact ⟨KeepsFrom.zero (keeps_set HRe.out _) _, .inl ⟨rfl, KILL.out (.inl (by
                have g3 : ¬ (yn : Int) = (xn : Int) := by assumption
                omega))⟩⟩
          case done3 =>
            rintro D' zs V hD' hzs ⟨hR, hk, hf, _⟩ hK'
            subst zs
            exact T _ _ ⟨D', rfl, hR, ⟨_, hk⟩, hf, hD', hK'⟩
          case stop3 =>
            rintro D' c pre V hD' hp hn hK'
            rcases hn with ⟨_, hn⟩ | ⟨rfl, hR, hk, hf⟩
            · exact (hn hp).elim
            · refine wpIn_exit ?_
              exact T _ _ ⟨D', rfl, hR, hk, hf, hD', hK'⟩
    case stop =>
      rintro D c pre W _ hp hn _
      exact (hn hp).elim
end Go.Proofs.Ytbjmmfoklnhiiaa
