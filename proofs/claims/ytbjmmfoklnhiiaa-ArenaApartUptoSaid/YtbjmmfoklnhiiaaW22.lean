/- The walk of ArenaApart. Conditions: the scripts lie in memory. -/
import Derived.Test.YtbjmmfoklnhiiaaW21
namespace Go.Proofs.Ytbjmmfoklnhiiaa
open Go.RowKit

set_option maxRecDepth 100000 in
set_option maxHeartbeats 4000000 in
theorem arenaApart_i (w : World) (n l : Int) (o1 o2 o3 : Option Addr) (l1 c1 l2 c2 l3 c3 : Nat) (hs1 : Script w o1 l1) (hs2 : Script w o2 l2) (hs3 : Script w o3 l3) :
    Calls Try.prog 9 #[.int .i64 n, .int .i64 l, .slice o1 l1 c1, .slice o2 l2 c2, .slice o3 l3 c3] w fun en w' => en = .returned (.bool true) ∧ Below w.heap.size w w' := by
  have HK := fun W => hide (known_i W)
  obtain ⟨g1, hs1⟩ := hs1.fn
  obtain ⟨g2, hs2⟩ := hs2.fn
  obtain ⟨g3, hs3⟩ := hs3.fn
  have HS1 := hide hs1
  have HS2 := hide hs2
  have HS3 := hide hs3
  clear hs1 hs2 hs3
  by_cases hb : 2000 < n ∨ newE n l = 1
  · have HN := fun W => hide (open_no W n l hb)
    have tok1 : True := trivial
    clear hb
    go_enter Try.func9, Try.ntmps9
    go_wp2_with
      (first
      | (go_at_call 10
         refine (HK _).out.mono ?_
         rintro en w1 ⟨rfl, hB1⟩
         have HB1 := hide hB1
         clear hB1)
      | (go_at_call 11
         have _t := tok1
         refine (HN _).out.mono ?_
         rintro en w2 ⟨rfl, rfl⟩
         clear tok1)
      | (go_at_call 11
         refine (HN _).out.mono ?_
         rintro en w2 ⟨rfl, rfl⟩))
    go_ret
    exact ⟨rfl, HB1.out⟩
  · have hb1 : ¬ 2000 < n := fun h => hb (.inl h)
    have hb2 : newE n l = 0 := (newE_cases n l).resolve_right (fun h => hb (.inr h))
    have hz : 0 ≤ n ∧ 0 ≤ l := by unfold newE at hb2; split at hb2 <;> first | omega | cases hb2
    obtain ⟨nn, rfl⟩ := Int.eq_ofNat_of_zero_le hz.1
    obtain ⟨ll, rfl⟩ := Int.eq_ofNat_of_zero_le hz.2
    have hn2 : nn ≤ 2000 := by omega
    have HE := hide hb2
    have tok1 : True := trivial
    clear hb hb1 hb2 hz
    go_enter Try.func9, Try.ntmps9
    go_wp2_with
      (first
      | (go_at_call 10
         refine (HK _).out.mono ?_
         rintro en w1 ⟨rfl, hB1⟩
         have HB1 := hide hB1
         clear hB1)
      | (go_at_call 11
         have _t := tok1
         refine ((Ars.none_ w.heap.size w1 nn ll).open_ HB1.out.size hn2 HE.out).mono ?_
         rintro en w2 ⟨a, rfl, _, hA2, hB2⟩
         have HA2 := hide hA2
         have HB2 := hide (HB1.out.trans (hB2.mono HB1.out.size))
         clear hA2 hB2 tok1)
      | (go_at_call 11
         refine (HA2.out.open_ HB2.out.size hn2 HE.out).mono ?_
         rintro en w3 ⟨b, rfl, hT3, hA3, hB3⟩
         have hba := T1_ne hT3
         rw [T2_of, if_neg hba] at hA3
         have HA3 := hide hA3
         have HB3 := hide (HB2.out.trans (hB3.mono HB2.out.size))
         clear hA3 hB3 hT3))
    clear HA2 HB2 HB1
    generalize hs0 : ASt.init (0 : Int) nn ll ll = s0 at HA3
    have HN0 := hide hs0
    have HA3' := HA3
    clear hs0
    go_loopw [13] (fun tx w4 => ∃ i : Nat, tx = .int .i64 (i : Int) ∧ i ≤ max l1 l2 ∧ i ≤ 3000 ∧ Ars w.heap.size w4 nn ll (T2 a b (run s0 g1 (min i l1)) (run s0 g2 (min i l2))) ∧ Below w.heap.size w w4) (fun tx _ => 3000 - (intOf tx).toNat)
    case atStart => exact ⟨0, rfl, Nat.zero_le _, Nat.zero_le _, by rw [Nat.zero_min, Nat.zero_min]; exact HA3.out, HB3.out⟩
    case round =>
      clear HA3 HA3' HB3
      obtain ⟨i, rfl, him, hi3, hA4, hB4⟩ := hrel
      rename World => w4
      have HA4 := hide hA4
      have HB4 := hide hB4
      clear hA4 hB4
      by_cases hx : (i < l1 ∨ i < l2) ∧ i < 3000
      · have h3 : i < 3000 := hx.2
        by_cases h1 : i < l1
        · have hm1 : min i l1 = i := by omega
          have hm1' : min (i + 1) l1 = i + 1 := by omega
          obtain ⟨p1, rfl, q1⟩ := HS1.out i h1
          obtain ⟨e0, e1, e2, e3⟩ := q1 w4 HB4.out
          rw [hm1] at HA4
          clear q1
          by_cases h2 : i < l2
          · have hm2 : min i l2 = i := by omega
            have hm2' : min (i + 1) l2 = i + 1 := by omega
            obtain ⟨p2, rfl, q2⟩ := HS2.out i h2
            have Q2 := hide q2
            rw [hm2] at HA4
            have hd := HA4.out.do_ HB4.out.size T2_a (g1 i).1 (g1 i).2.1 (g1 i).2.2.1 (g1 i).2.2.2
            rw [T2_ua] at hd
            have HD := hide hd
            have tok2 : True := trivial
            clear q2 hd
            go_wp2_with
              (first
              | (go_at_call 12
                 have _t := tok2
                 refine HD.out.mono ?_
                 rintro en w5 ⟨rfl, hA5, hB5⟩
                 have HA5 := hide hA5
                 have HB5 := hide (HB4.out.trans hB5)
                 obtain ⟨f0, f1, f2, f3⟩ := Q2.out w5 HB5.out
                 clear hA5 hB5 tok2)
              | (go_at_call 12
                 refine (HA5.out.do_ HB5.out.size (T2_b hba) (g2 i).1 (g2 i).2.1 (g2 i).2.2.1 (g2 i).2.2.2).mono ?_
                 rintro en w6 ⟨rfl, hA6, hB6⟩
                 rw [T2_ub hba] at hA6
                 have HA6 := hide hA6
                 have HB6 := hide (HB5.out.trans hB6)
                 clear hA6 hB6))
            go_roundw
            case rel => exact ⟨i + 1, by go_num, by omega, by omega, by rw [hm1', hm2']; exact HA6.out, HB6.out⟩
            case measure => simp [intOf]; omega
          · have hm2 : min i l2 = l2 := by omega
            have hm2' : min (i + 1) l2 = l2 := by omega
            rw [hm2] at HA4
            have hd := HA4.out.do_ HB4.out.size T2_a (g1 i).1 (g1 i).2.1 (g1 i).2.2.1 (g1 i).2.2.2
            rw [T2_ua] at hd
            have HD := hide hd
            clear hd
            go_wp2_with
              (go_at_call 12
               refine HD.out.mono ?_
               rintro en w5 ⟨rfl, hA5, hB5⟩
               have HA5 := hide hA5
               have HB5 := hide (HB4.out.trans hB5)
               clear hA5 hB5)
            go_roundw
            case rel => exact ⟨i + 1, by go_num, by omega, by omega, by rw [hm1', hm2']; exact HA5.out, HB5.out⟩
            case measure => simp [intOf]; omega
        · have hm1 : min i l1 = l1 := by omega
          have hm1' : min (i + 1) l1 = l1 := by omega
          rw [hm1] at HA4
          by_cases h2 : i < l2
          · have hm2 : min i l2 = i := by omega
            have hm2' : min (i + 1) l2 = i + 1 := by omega
            obtain ⟨p2, rfl, q2⟩ := HS2.out i h2
            obtain ⟨f0, f1, f2, f3⟩ := q2 w4 HB4.out
            rw [hm2] at HA4
            have hd := HA4.out.do_ HB4.out.size (T2_b hba) (g2 i).1 (g2 i).2.1 (g2 i).2.2.1 (g2 i).2.2.2
            rw [T2_ub hba] at hd
            have HD := hide hd
            clear hd q2
            go_wp2_with
              (go_at_call 12
               refine HD.out.mono ?_
               rintro en w5 ⟨rfl, hA5, hB5⟩
               have HA5 := hide hA5
               have HB5 := hide (HB4.out.trans hB5)
               clear hA5 hB5)
            go_roundw
            case rel => exact ⟨i + 1, by go_num, by omega, by omega, by rw [hm1', hm2']; exact HA5.out, HB5.out⟩
            case measure => simp [intOf]; omega
          · exact absurd hx (by omega)
      · have e1 : min i l1 = min l1 3000 := by omega
        have e2 : min i l2 = min l2 3000 := by omega
        have hcs : (¬ i < l1 ∧ ¬ i < l2) ∨ (i < l1 ∧ ¬ i < 3000) ∨ (¬ i < l1 ∧ i < l2 ∧ ¬ i < 3000) := by omega
        rw [e1, e2] at HA4
        generalize run s0 g2 (min l2 3000) = sb at HA4
        clear hx e1 e2
        rcases hcs with ⟨h1, h2⟩ | ⟨h1, h2⟩ | ⟨h1, h2, h3⟩
        all_goals
          go_wp2_with
            (first
            | (go_at_call 22
               refine (HA4.out.twin HB4.out.size T2_a).mono ?_
               rintro en w5 ⟨c, rfl, hT5, hA5, hB5⟩
               obtain ⟨hca, hcb⟩ := T2_ne hT5
               rw [T2_uc hca hcb] at hA5
               have HA5 := hide hA5
               have HB5 := hide (HB4.out.trans (hB5.mono HB4.out.size))
               clear hA5 hB5 hT5)
            | (go_at_call 11
               refine (HA5.out.open_ HB5.out.size hn2 HE.out).mono ?_
               rintro en w6 ⟨d, rfl, hT6, hA6, hB6⟩
               obtain ⟨hda, hdb, hdc⟩ := T3_ne hT6
               rw [T3_ud hda hdb hdc, HN0.out] at hA6
               have HA6 := hide hA6
               have HB6 := hide (HB5.out.trans (hB6.mono HB5.out.size))
               clear hA6 hB6 hT6))
          clear HA4 HA5 HB4 HB5
          go_loopw [16] (fun tx w7 => ∃ j : Nat, tx = .int .i64 (j : Int) ∧ j ≤ l1 ∧ j ≤ 3000 ∧ Ars w.heap.size w7 nn ll (T4 a b c d (run s0 g1 (min l1 3000)) sb (run s0 g1 (min l1 3000)) (run s0 g1 j)) ∧ Below w.heap.size w w7) (fun tx _ => 3000 - (intOf tx).toNat)
          case atStart => exact ⟨0, rfl, Nat.zero_le _, Nat.zero_le _, HA6.out, HB6.out⟩
          case round =>
            clear HA6 HB6
            obtain ⟨j, rfl, hj1, hj3, hA7, hB7⟩ := hrel
            rename World => w7
            have HA7 := hide hA7
            have HB7 := hide hB7
            clear hA7 hB7
            by_cases hx : j < l1 ∧ j < 3000
            · obtain ⟨hx1, hx2⟩ := hx
              obtain ⟨p1, rfl, q1⟩ := HS1.out j hx1
              obtain ⟨e0, e1, e2, e3⟩ := q1 w7 HB7.out
              have hd := HA7.out.do_ HB7.out.size (T4_d hda hdb hdc) (g1 j).1 (g1 j).2.1 (g1 j).2.2.1 (g1 j).2.2.2
              rw [T4_ud hda hdb hdc] at hd
              have HD := hide hd
              clear hd q1
              go_wp2_with
                (go_at_call 12
                 refine HD.out.mono ?_
                 rintro en w8 ⟨rfl, hA8, hB8⟩
                 have HA8 := hide hA8
                 have HB8 := hide (HB7.out.trans hB8)
                 clear hA8 hB8)
              go_roundw
              case rel => exact ⟨j + 1, by go_num, by omega, by omega, HA8.out, HB8.out⟩
              case measure => simp [intOf]; omega
            · have ej : j = min l1 3000 := by omega
              have hcj : ¬ j < l1 ∨ (j < l1 ∧ ¬ j < 3000) := by omega
              rw [← ej] at HA7
              generalize run s0 g1 j = sa at HA7
              clear hx ej
              rcases hcj with hj | ⟨hj, hj'⟩
              all_goals try (exfalso; omega)
              all_goals
                go_wp2
                all_goals
                  go_loopw [17] (fun tx w8 => ∃ (k : Nat) (x y : ASt Int), tx = .int .i64 (k : Int) ∧ k ≤ l3 ∧ k ≤ 3000 ∧ Ars w.heap.size w8 nn ll (T4 a b c d x y sa sa) ∧ Below w.heap.size w w8) (fun tx _ => 3000 - (intOf tx).toNat)
                  case atStart => exact ⟨0, _, _, rfl, Nat.zero_le _, Nat.zero_le _, HA7.out, HB7.out⟩
                  case round =>
                    clear HA7 HB7
                    obtain ⟨k, x, y, rfl, hk1, hk3, hA8, hB8⟩ := hrel
                    rename World => w8
                    have HA8 := hide hA8
                    have HB8 := hide hB8
                    clear hA8 hB8
                    by_cases hx : k < l3 ∧ k < 3000
                    · obtain ⟨hx1, hx2⟩ := hx
                      obtain ⟨p3, rfl, q3⟩ := HS3.out k hx1
                      obtain ⟨e0, e1, e2, e3⟩ := q3 w8 HB8.out
                      have Q3 := hide q3
                      have hd := HA8.out.do_ HB8.out.size T4_a (g3 k).1 (g3 k).2.1 (g3 k).2.2.1 (g3 k).2.2.2
                      rw [T4_ua] at hd
                      have HD := hide hd
                      have tok2 : True := trivial
                      clear hd q3
                      go_wp2_with
                        (first
                        | (go_at_call 12
                           have _t := tok2
                           refine HD.out.mono ?_
                           rintro en w9 ⟨rfl, hA9, hB9⟩
                           have HA9 := hide hA9
                           have HB9 := hide (HB8.out.trans hB9)
                           obtain ⟨f0, f1, f2, f3⟩ := Q3.out w9 HB9.out
                           clear hA9 hB9 tok2)
                        | (go_at_call 12
                           refine (HA9.out.do_ HB9.out.size (T4_b hba) (g3 k).1 (g3 k).2.1 (g3 k).2.2.1 (g3 k).2.2.2).mono ?_
                           rintro en w10 ⟨rfl, hA10, hB10⟩
                           rw [T4_ub hba] at hA10
                           have HA10 := hide hA10
                           have HB10 := hide (HB9.out.trans hB10)
                           clear hA10 hB10))
                      go_roundw
                      case rel => exact ⟨k + 1, _, _, by go_num, by omega, by omega, HA10.out, HB10.out⟩
                      case measure => simp [intOf]; omega
                    · have hck : ¬ k < l3 ∨ (k < l3 ∧ ¬ k < 3000) := by omega
                      clear hx
                      rcases hck with hk | ⟨hk, hk'⟩
                      all_goals try (exfalso; omega)
                      all_goals
                        go_wp2
                        all_goals
                          go_loopw [18] (fun tx v8 => ∃ (m : Nat) (z : ASt Int), tx = .int .i64 (m : Int) ∧ m ≤ l2 ∧ m ≤ 3000 ∧ Ars w.heap.size v8 nn ll (T4 a b c d x y z z) ∧ Below w.heap.size w v8) (fun tx _ => 3000 - (intOf tx).toNat)
                          case atStart => exact ⟨0, _, rfl, Nat.zero_le _, Nat.zero_le _, HA8.out, HB8.out⟩
                          case round =>
                            clear HA8 HB8
                            obtain ⟨m, z, rfl, hm1, hm3, hA8, hB8⟩ := hrel
                            rename World => v8
                            have HA8 := hide hA8
                            have HB8 := hide hB8
                            clear hA8 hB8
                            by_cases hx : m < l2 ∧ m < 3000
                            · obtain ⟨hx1, hx2⟩ := hx
                              obtain ⟨p3, rfl, q3⟩ := HS2.out m hx1
                              obtain ⟨e0, e1, e2, e3⟩ := q3 v8 HB8.out
                              have Q3 := hide q3
                              have hd := HA8.out.do_ HB8.out.size (T4_c hca hcb) (g2 m).1 (g2 m).2.1 (g2 m).2.2.1 (g2 m).2.2.2
                              rw [T4_uc hca hcb] at hd
                              have HD := hide hd
                              have tok2 : True := trivial
                              clear hd q3
                              go_wp2_with
                                (first
                                | (go_at_call 12
                                   have _t := tok2
                                   refine HD.out.mono ?_
                                   rintro en w9 ⟨rfl, hA9, hB9⟩
                                   have HA9 := hide hA9
                                   have HB9 := hide (HB8.out.trans hB9)
                                   obtain ⟨f0, f1, f2, f3⟩ := Q3.out w9 HB9.out
                                   clear hA9 hB9 tok2)
                                | (go_at_call 12
                                   refine (HA9.out.do_ HB9.out.size (T4_d hda hdb hdc) (g2 m).1 (g2 m).2.1 (g2 m).2.2.1 (g2 m).2.2.2).mono ?_
                                   rintro en w10 ⟨rfl, hA10, hB10⟩
                                   rw [T4_ud hda hdb hdc] at hA10
                                   have HA10 := hide hA10
                                   have HB10 := hide (HB9.out.trans hB10)
                                   clear hA10 hB10))
                              go_roundw
                              case rel => exact ⟨m + 1, _, by go_num, by omega, by omega, HA10.out, HB10.out⟩
                              case measure => simp [intOf]; omega
                            · have hcm : ¬ m < l2 ∨ (m < l2 ∧ ¬ m < 3000) := by omega
                              have tok3 : True := trivial
                              have tok4 : True := trivial
                              clear hx HS1 HS2 HS3
                              rcases hcm with hm | ⟨hm, hm'⟩
                              all_goals try (exfalso; omega)
                              all_goals
                                go_wp2_with
                                  (first
                                  | (go_at_call 30
                                     refine (alike_i HA8.out HB8.out.size (Ne.symm hdc) (T4_c hca hcb) (T4_d hda hdb hdc) hn2).mono ?_
                                     rintro en w9 ⟨rfl, ⟨z', hA9⟩, hB9⟩
                                     rw [T4_uc hca hcb, T4_ud hda hdb hdc] at hA9
                                     have HA9 := hide hA9
                                     have HB9 := hide (HB8.out.trans hB9)
                                     clear hA9 hB9)
                                  | (go_at_call 13
                                     have _t := tok3
                                     refine (HA9.out.whole T4_a hn2).mono ?_
                                     rintro en w10 ⟨rfl, hB10⟩
                                     have HA10 := hide (HA9.out.below hB10)
                                     have HB10 := hide (HB9.out.trans (hB10.mono HB9.out.size))
                                     clear hB10 tok3)
                                  | (go_at_call 13
                                     have _t := tok4
                                     refine (HA10.out.whole (T4_b hba) hn2).mono ?_
                                     rintro en w11 ⟨rfl, hB11⟩
                                     have HA11 := hide (HA10.out.below hB11)
                                     have HB11 := hide (HB10.out.trans (hB11.mono HB10.out.size))
                                     clear hB11 tok4)
                                  | (go_at_call 13
                                     refine (HA11.out.whole (T4_c hca hcb) hn2).mono ?_
                                     rintro en w12 ⟨rfl, hB12⟩
                                     have HB12 := hide (HB11.out.trans (hB12.mono HB11.out.size))
                                     clear hB12))
                                all_goals
                                  go_ret
                                  exact ⟨rfl, HB12.out⟩
end Go.Proofs.Ytbjmmfoklnhiiaa
