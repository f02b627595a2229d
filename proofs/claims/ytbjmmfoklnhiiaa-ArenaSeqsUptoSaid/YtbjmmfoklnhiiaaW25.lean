/- The walk of ArenaMoves. Conditions: the script lies in memory. -/
import Derived.Test.YtbjmmfoklnhiiaaW24
namespace Go.Proofs.Ytbjmmfoklnhiiaa
open Go.RowKit
section
variable {w0 n l : Nat} {w w' : World} {T : Nat → Option (ASt Int)} {ab : Nat} {s : ASt Int}
theorem Ars.move (h : Ars w0 w n l T) (h0 : w0 ≤ w.heap.size) (ht : T ab = some s) (k i e : Int) :
    Calls Try.prog 23 #[.pointer (some ⟨ab, 0, none⟩), .int .i64 k, .int .i64 i, .int .i64 e] w fun en w' => en = .returned (.int .i64 (s.moveE k i e)) ∧ Ars w0 w' n l (upd T ab (some (s.move k i e))) ∧ Below w0 w w' := by
  obtain ⟨f, hL, hop⟩ := h.op h0 ht
  obtain ⟨A, hr, e1, e2⟩ := hL.rep
  obtain ⟨B, hB, l1, l2⟩ := hr.move_ k i e
  have := move_i w f s hL.mem hr.bd k i e
  rw [hL.ab] at this
  refine this.mono ?_
  rintro en w' ⟨he, hM, hO⟩
  exact ⟨he, hop w' _ _ hM ⟨B, hB, by omega, by omega⟩ hO (Moved.refl _ _)⟩
theorem Ars.unlink (h : Ars w0 w n l T) (h0 : w0 ≤ w.heap.size) (ht : T ab = some s) (k : Int) :
    Calls Try.prog 24 #[.pointer (some ⟨ab, 0, none⟩), .int .i64 k] w fun en w' => en = .returned (.tuple #[.int .i64 (s.get 0 k), .int .i64 (s.holds k)]) ∧ Ars w0 w' n l (upd T ab (some (s.unlink 0 k))) ∧ Below w0 w w' := by
  obtain ⟨f, hL, hop⟩ := h.op h0 ht
  obtain ⟨A, hr, e1, e2⟩ := hL.rep
  obtain ⟨B, hB, l1, l2⟩ := hr.unlink_ 0 k
  have := unlink_i w f s hL.mem hr.bd k
  rw [hL.ab] at this
  refine this.mono ?_
  rintro en w' ⟨he, hM, hO⟩
  exact ⟨he, hop w' _ _ hM ⟨B, hB, by omega, by omega⟩ hO (Moved.refl _ _)⟩
theorem upd_upd {α : Type} (T : Nat → α) (a : Nat) (x y : α) : upd (upd T a x) a y = upd T a y := by funext k; simp only [upd]; by_cases h : k = a <;> simp [h]
theorem T3_ua {a b c : Nat} {x y z v : ASt Int} : upd (T3 a b c x y z) a (some v) = T3 a b c v y z := by funext k; simp only [upd, T3]; by_cases h : k = a <;> simp [h]
theorem T3_ub {a b c : Nat} {x y z v : ASt Int} (h : b ≠ a) : upd (T3 a b c x y z) b (some v) = T3 a b c x v z := by funext k; simp only [upd, T3]; by_cases h1 : k = b <;> simp [h1, h]
end

set_option maxRecDepth 100000 in
set_option maxHeartbeats 4000000 in
theorem arenaMoves_i (w : World) (n l node li ed : Int) (oa : Option Addr) (len cap : Nat) (hsc : Script w oa len) :
    Calls Try.prog 8 #[.int .i64 n, .int .i64 l, .slice oa len cap, .int .i64 node, .int .i64 li, .int .i64 ed] w fun en w' => en = .returned (.bool true) ∧ Below w.heap.size w w' := by
  have HK := fun W => hide (known_i W)
  have HS := hide hsc
  clear hsc
  by_cases hb : 2000 < n ∨ newE n l = 1
  · have HN := fun W => hide (open_no W n l hb)
    clear hb
    go_enter Try.func8, Try.ntmps8
    go_wp2_with
      (first
      | (go_at_call 10
         refine (HK _).out.mono ?_
         rintro en w1 ⟨rfl, hB1⟩
         have HB1 := hide hB1
         clear hB1)
      | (go_at_call 11
         refine (HN _).out.mono ?_
         rintro en w2 ⟨rfl, rfl⟩))
    go_ret
    exact ⟨rfl, HB1.out⟩
  · have hb1 : ¬ 2000 < n := fun h => hb (.inl h)
    have hb2 : newE n l = 0 := (newE_cases n l).resolve_right (fun h => hb (.inr h))
    have hz : 0 ≤ n ∧ 0 ≤ l := by unfold newE at hb2; split at hb2 <;> first | omega | cases hb2
    obtain ⟨nn, rfl⟩ := Int.eq_ofNat_of_zero_le hz.1
    obtain ⟨ll, rfl⟩ := Int.eq_ofNat_of_zero_le hz.2
    have hn2 : nn ≤ 2000 := by omega
    have hl2 : ll ≤ 256 := by have h := hb2; unfold newE at h; split at h <;> first | omega | cases h
    have HE := hide hb2
    clear hb hb1 hb2 hz
    go_enter Try.func8, Try.ntmps8
    go_wp2_with
      (first
      | (go_at_call 10
         refine (HK _).out.mono ?_
         rintro en w1 ⟨rfl, hB1⟩
         have HB1 := hide hB1
         clear hB1)
      | (go_at_call 11
         refine ((Ars.none_ w.heap.size w1 nn ll).open_ HB1.out.size hn2 HE.out).mono ?_
         rintro en w2 ⟨a, rfl, _, hA2, hB2⟩
         have HA2 := hide hA2
         have HB2 := hide (HB1.out.trans (hB2.mono HB1.out.size))
         clear hA2 hB2))
    go_loopw [14] (fun tx w3 => ∃ (i : Nat) (s : ASt Int), tx = .int .i64 (i : Int) ∧ i ≤ len ∧ i ≤ 3000 ∧ Ars w.heap.size w3 nn ll (upd (fun _ => none) a (some s)) ∧ Below w.heap.size w w3) (fun tx _ => 3000 - (intOf tx).toNat)
    case atStart => exact ⟨0, _, rfl, Nat.zero_le _, Nat.zero_le _, HA2.out, HB2.out⟩
    case round =>
      clear HA2 HB2 HB1
      obtain ⟨i, s, rfl, hi1, hi3, hA3, hB3⟩ := hrel
      rename World => w3
      have HA3 := hide hA3
      have HB3 := hide hB3
      by_cases hx : i < len ∧ i < 3000
      · obtain ⟨hx1, hx2⟩ := hx
        obtain ⟨p, rfl, hab, k, x, y, z, c0, c1, c2, c3⟩ := (HS.out.below hB3) i hx1
        have hd := hA3.do_ hB3.size (upd_same _ _ _) k x y z
        rw [upd_upd] at hd
        have HD := hide hd
        clear hd hA3 hB3
        go_wp2_with
          (go_at_call 12
           refine HD.out.mono ?_
           rintro en w4 ⟨rfl, hA4, hB4⟩
           have HA4 := hide hA4
           have HB4 := hide (HB3.out.trans hB4)
           clear hA4 hB4)
        go_roundw
        case rel => exact ⟨i + 1, _, by go_num, by omega, by omega, HA4.out, HB4.out⟩
        case measure => simp [intOf]; omega
      · have hci : ¬ i < len ∨ (i < len ∧ ¬ i < 3000) := by omega
        obtain ⟨hbd, hmost, hlen, A, hr⟩ := hA3.bd (upd_same _ _ _)
        have tok1 : True := trivial
        clear hx hA3 hB3 HS
        by_cases hE : s.moveE node li ed = 0
        · obtain ⟨m1, m2, m3, m4⟩ := move_is (z := (0 : Int)) hbd hE
          obtain ⟨B, hrB, _, hrest⟩ := hr.move_rest hE
          have hget := fun k : Nat => move_get (z := (0 : Int)) hE k
          have hmv := fun W T (h : Ars w.heap.size W nn ll T) h0 (ht : T a = some s) => h.move h0 ht node li ed
          rw [hE] at hmv
          have hul := fun W T b (h : Ars w.heap.size W nn ll T) h0 (ht : T b = some s) => h.unlink h0 ht node
          rw [m1] at hul
          have hps := fun W T b (h : Ars w.heap.size W nn ll T) h0 (ht : T b = some (s.unlink 0 node)) => h.push h0 ht li ed (s.get 0 node)
          rw [m2, m3, m4] at hps
          generalize s.get 0 node = gv at hul hps
          generalize s.unlink 0 node = su at hul hps
          generalize s.move node li ed = sm at hmv hps hget hrB
          have HMV := hide hmv
          have HUL := hide hul
          have HPS := hide hps
          have HGET := hide hget
          have HR := hide hr
          have HRB := hide hrB
          have HREST := hide hrest
          have HBD := hide hbd
          clear hmv hul hps hget hr hrB hrest m1 m2 m3 m4 hE hbd
          rcases hci with hi | ⟨hi, hi'⟩
          all_goals
            go_wp2_with
              (first
              | (go_at_call 22
                 have _t := tok1
                 refine (HA3.out.twin HB3.out.size (upd_same _ _ _)).mono ?_
                 rintro en w4 ⟨b, rfl, hT4, hA4, hB4⟩
                 have hba := T1_ne hT4
                 rw [T2_of, if_neg hba] at hA4
                 have HA4 := hide hA4
                 have HB4 := hide (HB3.out.trans (hB4.mono HB3.out.size))
                 clear hA4 hB4 hT4 tok1)
              | (go_at_call 22
                 refine (HA4.out.twin HB4.out.size T2_a).mono ?_
                 rintro en w5 ⟨c, rfl, hT5, hA5, hB5⟩
                 obtain ⟨hca, hcb⟩ := T2_ne hT5
                 rw [T2_uc hca hcb] at hA5
                 have HA5 := hide hA5
                 have HB5 := hide (HB4.out.trans (hB5.mono HB4.out.size))
                 clear hA5 hB5 hT5)
              | (go_at_call 23
                 refine (HMV.out w5 _ HA5.out HB5.out.size T3_a).mono ?_
                 rintro en w6 ⟨rfl, hA6, hB6⟩
                 rw [T3_ua] at hA6
                 have HA6 := hide hA6
                 have HB6 := hide (HB5.out.trans hB6)
                 clear hA6 hB6)
              | (go_at_call 24
                 refine (HUL.out w6 _ b HA6.out HB6.out.size (T3_b hba)).mono ?_
                 rintro en w7 ⟨rfl, hA7, hB7⟩
                 rw [T3_ub hba] at hA7
                 have HA7 := hide hA7
                 have HB7 := hide (HB6.out.trans hB7)
                 clear hA7 hB7)
              | (go_at_call 25
                 refine (HPS.out w7 _ b HA7.out HB7.out.size (T3_b hba)).mono ?_
                 rintro en w8 ⟨rfl, hA8, hB8⟩
                 rw [T3_ub hba] at hA8
                 have HA8 := hide hA8
                 have HB8 := hide (HB7.out.trans hB8)
                 clear hA8 hB8))
            clear HMV HUL HPS HA3 HA4 HA5 HA6 HA7 HB3 HB4 HB5 HB6 HB7 HBD
            obtain ⟨la, lc, hna, hnb, hnc, hla, hlc, hfl⟩ : ∃ la lc : Nat → List Int,
                (∀ W, Below w8.heap.size w8 W → ∀ j : Nat, Calls Try.prog 26 #[.pointer (some ⟨a, 0, none⟩), .int .i64 (j : Int), .int .i64 0] W fun en w' => ∃ v, en = .returned v ∧ Vw w' v (la j) ∧ Below W.heap.size W w') ∧
                (∀ W, Below w8.heap.size w8 W → ∀ j : Nat, Calls Try.prog 26 #[.pointer (some ⟨b, 0, none⟩), .int .i64 (j : Int), .int .i64 0] W fun en w' => ∃ v, en = .returned v ∧ Vw w' v (la j) ∧ Below W.heap.size W w') ∧
                (∀ W, Below w8.heap.size w8 W → ∀ j : Nat, Calls Try.prog 26 #[.pointer (some ⟨c, 0, none⟩), .int .i64 (j : Int), .int .i64 0] W fun en w' => ∃ v, en = .returned v ∧ Vw w' v (lc j) ∧ Below W.heap.size W w') ∧
                (∀ j, (la j).length ≤ 4194304) ∧ (∀ j, (lc j).length ≤ 4194304) ∧ (∀ j, (la j).filter (fun y => y != node) = (lc j).filter (fun y => y != node)) := by
              have b1 : sm.made ≤ 4194304 := by have := HRB.out.bd.mm; have := HRB.out.bd.m22; omega
              have b2 : s.made ≤ 4194304 := by have := HR.out.bd.mm; have := HR.out.bd.m22; omega
              refine ⟨fun j => (B.tell (j : Int) 0).map fun y => (y.1 : Int), fun j => (A.tell (j : Int) 0).map fun y => (y.1 : Int), ?_, ?_, ?_, ?_, ?_, ?_⟩
              · exact fun W hW j => (HA8.out.below hW).nodes T3_a j 0 _ (HRB.out.told j 0) b1
              · exact fun W hW j => (HA8.out.below hW).nodes (T3_b hba) j 0 _ (HRB.out.told j 0) b1
              · exact fun W hW j => (HA8.out.below hW).nodes (T3_c hca hcb) j 0 _ (HR.out.told j 0) b2
              · intro j; have := (HRB.out.told (j : Int) 0).short; simp; omega
              · intro j; have := (HR.out.told (j : Int) 0).short; simp; omega
              · exact fun j => HREST.out j
            have HNA := hide hna
            have HNB := hide hnb
            have HNC := hide hnc
            have HLA := hide hla
            have HLC := hide hlc
            have HFL := hide hfl
            clear hna hnb hnc hla hlc hfl HR HREST
            go_loopw [22] (fun tx w9 => ∃ j : Nat, tx = .int .i64 (j : Int) ∧ j ≤ ll ∧ Below w8.heap.size w8 w9) (fun tx _ => ll - (intOf tx).toNat)
            case atStart => exact ⟨0, rfl, Nat.zero_le _, Below.refl _ _⟩
            case round =>
              obtain ⟨j, rfl, hj, hB9⟩ := hrel
              rename World => w9
              have HB9 := hide hB9
              clear hB9
              by_cases hjt : j < ll
              · have tokA : True := trivial
                have tokB : True := trivial
                have tokS : True := trivial
                have tokW : True := trivial
                go_wp2_with
                  (first
                  | (go_at_call 26
                     have _t := tokA
                     refine (HNA.out w9 HB9.out j).mono ?_
                     rintro en wa ⟨va, rfl, hva, hBa⟩
                     have HVA := hide hva
                     have HBA := hide (HB9.out.trans (hBa.mono HB9.out.size))
                     clear hva hBa tokA)
                  | (go_at_call 26
                     have _t := tokB
                     refine (HNB.out wa HBA.out j).mono ?_
                     rintro en wb ⟨vb, rfl, hvb, hBb⟩
                     have HVB := hide hvb
                     have HVAB := hide (HVA.out.below hBb)
                     have HBB := hide (HBA.out.trans (hBb.mono HBA.out.size))
                     clear hvb hBb tokB)
                  | (go_at_call 27
                     have _t := tokS
                     refine (same_i wb va vb _ HVAB.out HVB.out (HLA.out j)).mono ?_
                     rintro en wc ⟨rfl, hBc⟩
                     have HVAC := hide (HVAB.out.below hBc)
                     have HBC := hide (HBB.out.trans (hBc.mono HBB.out.size))
                     clear hBc tokS)
                  | (go_at_call 28
                     have _t := tokW
                     refine (without_i wc va _ node HVAC.out (HLA.out j)).mono ?_
                     rintro en wd ⟨ua, rfl, hua, hBd⟩
                     have HUA := hide hua
                     have HBD := hide (HBC.out.trans (hBd.mono HBC.out.size))
                     clear hua hBd tokW)
                  | (go_at_call 26
                     refine (HNC.out wd HBD.out j).mono ?_
                     rintro en we ⟨vc, rfl, hvc, hBe⟩
                     have HVC := hide hvc
                     have HUAE := hide (HUA.out.below hBe)
                     have HBE := hide (HBD.out.trans (hBe.mono HBD.out.size))
                     clear hvc hBe)
                  | (go_at_call 28
                     refine (without_i we vc _ node HVC.out (HLC.out j)).mono ?_
                     rintro en wf ⟨uc, rfl, huc, hBf⟩
                     rw [← HFL.out j] at huc
                     have HUC := hide huc
                     have HUAF := hide (HUAE.out.below hBf)
                     have HBF := hide (HBE.out.trans (hBf.mono HBE.out.size))
                     clear huc hBf)
                  | (go_at_call 27
                     refine (same_i wf ua uc _ HUAF.out HUC.out (Nat.le_trans (List.length_filter_le _ _) (HLA.out j))).mono ?_
                     rintro en wg ⟨rfl, hBg⟩
                     have HBG := hide (HBF.out.trans (hBg.mono HBF.out.size))
                     clear hBg))
                go_roundw
                case rel => exact ⟨j + 1, by go_num, by omega, HBG.out⟩
                case measure => simp [intOf]; omega
              · clear HNA HNB HNC HLA HLC HFL
                go_wp2
                go_loopw [24] (fun tx w10 => ∃ k : Nat, tx = .int .i64 (k : Int) ∧ k ≤ nn ∧ Below w8.heap.size w8 w10) (fun tx _ => nn - (intOf tx).toNat)
                case atStart => exact ⟨0, rfl, Nat.zero_le _, HB9.out⟩
                case round =>
                  clear HB9
                  obtain ⟨k, rfl, hk, hB10⟩ := hrel
                  rename World => w10
                  have HB10 := hide hB10
                  have HA10 := hide (HA8.out.below hB10)
                  clear hB10
                  by_cases hkt : k < nn
                  · have q1 := HA10.out.get_ T3_a (k : Int)
                    have q2 := HA10.out.get_ (T3_b hba) (k : Int)
                    have q3 := HA10.out.get_ (T3_c hca hcb) (k : Int)
                    rw [(HGET.out k).1, (HGET.out k).2] at q1 q2
                    generalize s.get 0 (k : Int) = gk at q1 q2 q3
                    generalize s.holds (k : Int) = hk2 at q1 q2 q3
                    have Q1 := hide q1
                    have Q2 := hide q2
                    have Q3 := hide q3
                    have tokA : True := trivial
                    have tokB : True := trivial
                    clear q1 q2 q3
                    go_wp2_with
                      (first
                      | (go_at_call 29
                         have _t := tokA
                         refine Q1.out.mono ?_
                         rintro en wx ⟨rfl, rfl⟩
                         clear tokA)
                      | (go_at_call 29
                         have _t := tokB
                         refine Q2.out.mono ?_
                         rintro en wx ⟨rfl, rfl⟩
                         clear tokB)
                      | (go_at_call 29
                         refine Q3.out.mono ?_
                         rintro en wx ⟨rfl, rfl⟩))
                    go_roundw
                    case rel => exact ⟨k + 1, by go_num, by omega, HB10.out⟩
                    case measure => simp [intOf]; omega
                  · have hw0 : w.heap.size ≤ w10.heap.size := Nat.le_trans HB8.out.size HB10.out.size
                    have q1 := HA10.out.push hw0 T3_a li ed 5
                    have q2 := fun W (h : Ars w.heap.size W nn ll (upd (T3 a b c sm sm s) a (some (sm.push 0 li ed 5)))) h0 => h.push h0 (by rw [T3_ua]; exact T3_b hba : upd (T3 a b c sm sm s) a (some (sm.push 0 li ed 5)) b = some sm) li ed 5
                    generalize sm.pushR li ed = pr at q1 q2
                    generalize sm.pushE li ed = pe at q1 q2
                    have Q1 := hide q1
                    have Q2 := hide q2
                    have HBX := hide (HB8.out.trans (HB10.out.mono HB8.out.size))
                    have tokA : True := trivial
                    clear q1 q2 HA10 HA8
                    go_wp2_with
                      (first
                      | (go_at_call 25
                         have _t := tokA
                         refine Q1.out.mono ?_
                         rintro en wx ⟨rfl, hAx, hBx⟩
                         have HAX := hide hAx
                         have HBY := hide (HBX.out.trans hBx)
                         clear tokA hAx hBx)
                      | (go_at_call 25
                         refine (Q2.out wx HAX.out HBY.out.size).mono ?_
                         rintro en wy ⟨rfl, hAy, hBy⟩
                         have HBZ := hide (HBY.out.trans hBy)
                         clear hAy hBy))
                    go_ret
                    exact ⟨by first | rfl | simp, HBZ.out⟩
        · have hmv := fun W T (h : Ars w.heap.size W nn ll T) h0 (ht : T a = some s) => h.move h0 ht node li ed
          generalize s.moveE node li ed = me at hE hmv
          have HMV := hide hmv
          clear hmv hbd hr
          rcases hci with hi | ⟨hi, hi'⟩
          all_goals
            go_wp2_with
              (first
              | (go_at_call 22
                 have _t := tok1
                 refine (HA3.out.twin HB3.out.size (upd_same _ _ _)).mono ?_
                 rintro en w4 ⟨b, rfl, hT4, hA4, hB4⟩
                 have hba := T1_ne hT4
                 rw [T2_of, if_neg hba] at hA4
                 have HA4 := hide hA4
                 have HB4 := hide (HB3.out.trans (hB4.mono HB3.out.size))
                 clear hA4 hB4 hT4 tok1)
              | (go_at_call 22
                 refine (HA4.out.twin HB4.out.size T2_a).mono ?_
                 rintro en w5 ⟨c, rfl, hT5, hA5, hB5⟩
                 obtain ⟨hca, hcb⟩ := T2_ne hT5
                 rw [T2_uc hca hcb] at hA5
                 have HA5 := hide hA5
                 have HB5 := hide (HB4.out.trans (hB5.mono HB4.out.size))
                 clear hA5 hB5 hT5)
              | (go_at_call 23
                 refine (HMV.out w5 _ HA5.out HB5.out.size T3_a).mono ?_
                 rintro en w6 ⟨rfl, hA6, hB6⟩
                 rw [T3_ua] at hA6
                 have HA6 := hide hA6
                 have HB6 := hide (HB5.out.trans hB6)
                 clear hA6 hB6)
              | (go_at_call 13
                 refine (HA6.out.whole T3_a hn2).mono ?_
                 rintro en w7 ⟨rfl, hB7⟩
                 have HB7 := hide (HB6.out.trans (hB7.mono HB6.out.size))
                 clear hB7))
            go_ret
            exact ⟨rfl, HB7.out⟩
end Go.Proofs.Ytbjmmfoklnhiiaa
