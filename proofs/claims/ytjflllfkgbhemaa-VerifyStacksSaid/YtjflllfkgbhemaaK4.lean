/- The walk of VerifyStacks. Conditions: none. -/
import Derived.Test.YtjflllfkgbhemaaK3
namespace Go.Proofs.Ytjflllfkgbhemaa
open Go.RowKit
theorem code_num (i : Nat) : codeV ((List.range (i + 1)).map numI) = codeV ((List.range i).map numI) ++ [.int .i64 1, .int .i64 (i : Int), .int .i64 0, .int .i64 0, .int .i64 0] := by
  rw [List.range_succ, List.map_append, codeV_append]
  rfl
theorem code_add (l : List Ins) (j : Nat) : codeV (l ++ List.replicate (j + 1) addI) = codeV (l ++ List.replicate j addI) ++ [.int .i64 17, .int .i64 0, .int .i64 0, .int .i64 0, .int .i64 0] := by
  rw [List.replicate_succ', ← List.append_assoc, codeV_append]
  rfl
theorem stack_hts {n m k : Nat} (hk : k < n + m + 2) : (ints (htsV (atsK n m (n + m + 1))))[k]? = some (.int .i64 (hgt n k : Int)) := by
  unfold ints htsV
  rw [List.getElem?_map, List.getElem?_map, atsK_get hk, if_pos (by omega)]
  simp [stk_size]
set_option linter.unusedVariables false in
set_option linter.unusedSimpArgs false in
set_option maxRecDepth 100000 in
set_option maxHeartbeats 40000000 in
theorem stacks_i (w : World) (a b : Int) : Calls Try.prog 7 #[.int .i64 a, .int .i64 b] w fun en w' => en = .returned (.bool true) ∧ Below w.heap.size w w' := by
  obtain ⟨i46, hi46, hz0, hz1, hz2⟩ := info_parts info46
  have hwa := within_in a 300 (by decide)
  have hwb := within_in b 5 (by decide)
  have HWA := hide (fun W => within_i W a 300 (by decide) (by decide))
  have HWB := hide (fun W => within_i W b 5 (by decide) (by decide))
  generalize withinV a 300 = x at *
  generalize withinV b 5 = y at *
  obtain ⟨n, rfl⟩ := Int.eq_ofNat_of_zero_le hwa.1
  obtain ⟨l, rfl⟩ := Int.eq_ofNat_of_zero_le hwb.1
  have hn : n < 300 := by omega
  have hl : l < 5 := by omega
  clear hwa hwb
  have u1 := IntWalk.i64_in (1 + (n : Int)) (by omega)
  have u2 := IntWalk.i64_in ((l : Int) - 2) (by omega)
  have HS := hide small_j
  have ta := 0
  go_enter Try.func7, Try.ntmps7
  go_upto_region 6 with (first
    | (go_at_call 20
       have _t := ta
       clear _t ta
       have tb := 0
       refine (HWA.out _).mono ?_
       rintro en w1 ⟨rfl, hw⟩
       obtain rfl := hw.symm
       clear hw)
    | (go_at_call 20
       have _t := tb
       clear _t tb
       have tc := 0
       refine (HWB.out _).mono ?_
       rintro en w1 ⟨rfl, hw⟩
       obtain rfl := hw.symm
       clear hw)
    | (go_at_call 21
       have _t := tc
       clear _t tc
       refine (HS.out _).mono ?_
       rintro en w1 ⟨n1, rfl, _, _, hb1, hn1, hk3, hk4⟩
       have HB1 := hide hb1
       have HK3 := hide hk3
       have HK4 := hide hk4
       have HN1 := hide hn1
       clear hb1 hk3 hk4 hn1))
  have kp : Blk ((w1.alloc (.cells #[.slice (some ⟨n1, 0, none⟩) 1 1, .slice (some ⟨w1.heap.size + 1, 0, none⟩) 1 1, .slice none 0 0, .slice (some ⟨n1 + 1, 0, none⟩) 1 1, .int .i64 0, .slice none 0 0] 28)).alloc (.cells #[.int .i64 0, .int .i64 0, .int .i64 0] 49)) w1.heap.size 28 #[.slice (some ⟨n1, 0, none⟩) 1 1, .slice (some ⟨w1.heap.size + 1, 0, none⟩) 1 1, .slice none 0 0, .slice (some ⟨n1 + 1, 0, none⟩) 1 1, .int .i64 0, .slice none 0 0] := (Blk.new w1 28 _).alloc _
  have kv : Blk ((w1.alloc (.cells #[.slice (some ⟨n1, 0, none⟩) 1 1, .slice (some ⟨w1.heap.size + 1, 0, none⟩) 1 1, .slice none 0 0, .slice (some ⟨n1 + 1, 0, none⟩) 1 1, .int .i64 0, .slice none 0 0] 28)).alloc (.cells #[.int .i64 0, .int .i64 0, .int .i64 0] 49)) (w1.heap.size + 1) 49 #[.int .i64 0, .int .i64 0, .int .i64 0] := by
    have := Blk.new (w1.alloc (.cells #[.slice (some ⟨n1, 0, none⟩) 1 1, .slice (some ⟨w1.heap.size + 1, 0, none⟩) 1 1, .slice none 0 0, .slice (some ⟨n1 + 1, 0, none⟩) 1 1, .int .i64 0, .slice none 0 0] 28)) 49 #[.int .i64 0, .int .i64 0, .int .i64 0]
    simpa using this
  have k3 : Blk ((w1.alloc (.cells #[.slice (some ⟨n1, 0, none⟩) 1 1, .slice (some ⟨w1.heap.size + 1, 0, none⟩) 1 1, .slice none 0 0, .slice (some ⟨n1 + 1, 0, none⟩) 1 1, .int .i64 0, .slice none 0 0] 28)).alloc (.cells #[.int .i64 0, .int .i64 0, .int .i64 0] 49)) n1 4 #[.bool false] := (HK3.out.alloc _).alloc _
  have k4 : Blk ((w1.alloc (.cells #[.slice (some ⟨n1, 0, none⟩) 1 1, .slice (some ⟨w1.heap.size + 1, 0, none⟩) 1 1, .slice none 0 0, .slice (some ⟨n1 + 1, 0, none⟩) 1 1, .int .i64 0, .slice none 0 0] 28)).alloc (.cells #[.int .i64 0, .int .i64 0, .int .i64 0] 49)) (n1 + 1) 3 #[.int .i64 (-1)] := (HK4.out.alloc _).alloc _
  have hb2 : Below w.heap.size w ((w1.alloc (.cells #[.slice (some ⟨n1, 0, none⟩) 1 1, .slice (some ⟨w1.heap.size + 1, 0, none⟩) 1 1, .slice none 0 0, .slice (some ⟨n1 + 1, 0, none⟩) 1 1, .int .i64 0, .slice none 0 0] 28)).alloc (.cells #[.int .i64 0, .int .i64 0, .int .i64 0] 49)) := (HB1.out.alloc HB1.out.size _).alloc (by have := HB1.out.size; simp; omega) _
  generalize ((w1.alloc (.cells #[.slice (some ⟨n1, 0, none⟩) 1 1, .slice (some ⟨w1.heap.size + 1, 0, none⟩) 1 1, .slice none 0 0, .slice (some ⟨n1 + 1, 0, none⟩) 1 1, .int .i64 0, .slice none 0 0] 28)).alloc (.cells #[.int .i64 0, .int .i64 0, .int .i64 0] 49)) = W2 at *
  have hpw : w.heap.size ≤ w1.heap.size := HB1.out.size
  clear HB1
  generalize w1.heap.size + 1 = vb at *
  generalize w1.heap.size = pb at *
  have HPW := hide hpw
  have HKP := hide kp
  have HKV := hide kv
  have HK3 := hide k3
  have HK4 := hide k4
  have HB2 := hide hb2
  clear kp kv k3 k4 hb2 hpw
  obtain ⟨B, hB⟩ : ∃ B, B = W2.heap.size := ⟨_, rfl⟩
  have HPL : Hid (pb < B) := hide (by rw [hB]; exact HKP.out.lt)
  have HBE := hide hB
  clear hB
  have u3 := IntWalk.i64_in (1 + (n : Int) - 1) (by omega)
  have u4 := IntWalk.i64_in (1 + (n : Int) - 1 - ((l : Int) - 2)) (by omega)
  go_wp2_with fail
  go_loopw [6] (fun tx W => ∃ (i : Nat) (v : Value), tx = .int .i64 (i : Int) ∧ i ≤ n + 1 ∧ W.ownsRow B 46 5 v (i) (codeV ((List.range i).map numI)) ∧ Blk W pb 28 #[.slice (some ⟨n1, 0, none⟩) 1 1, .slice (some ⟨vb, 0, none⟩) 1 1, .slice none 0 0, .slice (some ⟨n1 + 1, 0, none⟩) 1 1, .int .i64 0, v] ∧ Only (fun k => k = pb) W2 W) (fun tx _ => n + 1 - (intOf tx).toNat)
  case atStart => exact ⟨0, _, rfl, Nat.zero_le _, World.ownsRow_nil _ _ _ _, HKP.out, Only.refl _ _⟩
  case round =>
    obtain ⟨i, v, rfl, hi, hown, hpb, hon⟩ := hrel
    rename World => W
    have u5 := IntWalk.i64_in ((i : Int) + 1) (by omega)
    have c5 : W.cell? ⟨pb, 5, none⟩ = some v := by rw [hpb.cell]; rfl
    have HOWN := hide hown
    have HPB := hide hpb
    have HON := hide hon
    have HBS : Hid (B ≤ W.heap.size) := hide (by rw [HBE.out]; exact hon.size)
    clear hown hpb hon
    by_cases hlt : i < n + 1
    · go_wp2_with (at_builtin
                   refine wpList_append_own _ rfl (.tmp 32) (.tmp 35) 26 rfl B 46 i46 (.agg #[.int .i64 0, .int .i64 0, .int .i64 0, .int .i64 0, .int .i64 0]) 5 40 Try.underlying26 hi46 hz0 hz1 hz2 rfl (by decide) _ _ _ rfl (HOWN.out.alloc _) ⟨W.heap.size, 0, none⟩ 1 1 [.int .i64 1, .int .i64 (i : Int), .int .i64 0, .int .i64 0, .int .i64 0] rfl rfl (ins_cells W [.int .i64 1, .int .i64 (i : Int), .int .i64 0, .int .i64 0, .int .i64 0] 46) (by simp [Value.oneCell']) (by unfold maxLen; omega) (by omega) (by have := HON.out.size; have := HBS.out; simp; omega) ?_
                   intro v' w10 hown' hgrow _
                   obtain ⟨gq, cq, ev, hq1, hq2⟩ := own_form hown' (by omega)
                   subst ev
                   have k10 := (HPB.out.alloc (.cells [.int .i64 1, .int .i64 (i : Int), .int .i64 0, .int .i64 0, .int .i64 0].toArray 46)).grown hgrow (fun e => by have := (HOWN.out.lt pb e.symm).1; have := HPL.out; omega)
                   have c5 : w10.cell? ⟨pb, 5, none⟩ = some v := by rw [k10.cell]; rfl
                   have f5 := k10.frozen 5
                   have HOWN2 := hide hown'
                   have HG2 := hide hgrow
                   have HK10 := hide k10
                   clear hown' hgrow k10)
      go_roundw
      case rel => exact ⟨i + 1, _, by go_num, by omega, by rw [code_num]; exact own_far HOWN2.out (fun e => by have := (HOWN2.out.lt pb e).1; have := HPL.out; omega) _, HK10.out.set_ 5 _, ((HON.out.alloc _).grown HG2.out (fun k hk => .inr (by rw [← HBE.out]; exact (HOWN.out.lt k hk).1))).setCell (.inl rfl) _⟩
      case measure => simp [intOf]; omega
    · have hil : i = n + 1 := by omega
      have hown := HOWN.out
      rw [hil] at hown
      clear HOWN
      have HOWN := hide hown
      have hno : ¬ (i : Int) < 1 + (n : Int) := by omega
      clear u5 hil hown hi hlt
      have C0 := hide c5
      clear c5
      obtain ⟨m, hm⟩ : ∃ m : Nat, m = n + 2 - l := ⟨_, rfl⟩
      have hm1 : m ≤ 301 := by omega
      have HM := hide hm
      clear hm
      go_wp2_with fail
      go_loopw [7] (fun tx W => ∃ (j : Nat) (v : Value), tx = .int .i64 (j : Int) ∧ j ≤ m ∧ W.ownsRow B 46 5 v (n + 1 + j) (codeV ((List.range (n + 1)).map numI ++ List.replicate j addI)) ∧ Blk W pb 28 #[.slice (some ⟨n1, 0, none⟩) 1 1, .slice (some ⟨vb, 0, none⟩) 1 1, .slice none 0 0, .slice (some ⟨n1 + 1, 0, none⟩) 1 1, .int .i64 0, v] ∧ Only (fun k => k = pb) W2 W) (fun tx _ => m - (intOf tx).toNat)
      case atStart => exact ⟨0, v, rfl, Nat.zero_le _, by simpa using HOWN.out, HPB.out, HON.out⟩
      case round =>
        clear HOWN HPB HON HBS C0
        clear v W
        obtain ⟨j, v, rfl, hj, hown, hpb, hon⟩ := hrel
        rename World => W
        have u5 := IntWalk.i64_in ((j : Int) + 1) (by omega)
        have c5 : W.cell? ⟨pb, 5, none⟩ = some v := by rw [hpb.cell]; rfl
        have HOWN := hide hown
        have HPB := hide hpb
        have HON := hide hon
        have HBS : Hid (B ≤ W.heap.size) := hide (by rw [HBE.out]; exact hon.size)
        clear hown hpb hon
        by_cases hlt : j < m
        · have hltI : (j : Int) < 1 + (n : Int) - 1 - ((l : Int) - 2) := by have := HM.out; omega
          go_wp2_with (at_builtin
                       refine wpList_append_own _ rfl (.tmp 47) (.tmp 49) 26 rfl B 46 i46 (.agg #[.int .i64 0, .int .i64 0, .int .i64 0, .int .i64 0, .int .i64 0]) 5 40 Try.underlying26 hi46 hz0 hz1 hz2 rfl (by decide) _ _ _ rfl (HOWN.out.alloc _) ⟨W.heap.size, 0, none⟩ 1 1 [.int .i64 17, .int .i64 0, .int .i64 0, .int .i64 0, .int .i64 0] rfl rfl (ins_cells W [.int .i64 17, .int .i64 0, .int .i64 0, .int .i64 0, .int .i64 0] 46) (by simp [Value.oneCell']) (by unfold maxLen; omega) (by omega) (by have := HON.out.size; have := HBS.out; simp; omega) ?_
                       intro v' w10 hown' hgrow _
                       obtain ⟨gq, cq, ev, hq1, hq2⟩ := own_form hown' (by omega)
                       subst ev
                       have k10 := (HPB.out.alloc (.cells [.int .i64 17, .int .i64 0, .int .i64 0, .int .i64 0, .int .i64 0].toArray 46)).grown hgrow (fun e => by have := (HOWN.out.lt pb e.symm).1; have := HPL.out; omega)
                       have c5 : w10.cell? ⟨pb, 5, none⟩ = some v := by rw [k10.cell]; rfl
                       have f5 := k10.frozen 5
                       have HOWN2 := hide hown'
                       have HG2 := hide hgrow
                       have HK10 := hide k10
                       clear hown' hgrow k10)
          go_roundw
          case rel => exact ⟨j + 1, _, by go_num, by omega, by rw [code_add]; exact own_far HOWN2.out (fun e => by have := (HOWN2.out.lt pb e).1; have := HPL.out; omega) _, HK10.out.set_ 5 _, ((HON.out.alloc _).grown HG2.out (fun k hk => .inr (by rw [← HBE.out]; exact (HOWN.out.lt k hk).1))).setCell (.inl rfl) _⟩
          case measure => simp [intOf]; omega
        · have hjl : j = m := by omega
          have hown := HOWN.out
          rw [hjl] at hown
          clear HOWN
          have HOWN := hide hown
          have hltI : ¬ (j : Int) < 1 + (n : Int) - 1 - ((l : Int) - 2) := by have := HM.out; omega
          clear u5 hjl hown hj hlt
          go_upto_region 15 with (at_builtin
                                  refine wpList_append_own _ rfl (.tmp 53) (.tmp 56) 26 rfl B 46 i46 (.agg #[.int .i64 0, .int .i64 0, .int .i64 0, .int .i64 0, .int .i64 0]) 5 40 Try.underlying26 hi46 hz0 hz1 hz2 rfl (by decide) _ _ _ rfl (HOWN.out.alloc _) ⟨W.heap.size, 0, none⟩ 2 2 [.int .i64 28, .int .i64 0, .int .i64 0, .int .i64 0, .int .i64 0, .int .i64 0, .int .i64 0, .int .i64 0, .int .i64 0, .int .i64 0] rfl rfl (ins_cells W [.int .i64 28, .int .i64 0, .int .i64 0, .int .i64 0, .int .i64 0, .int .i64 0, .int .i64 0, .int .i64 0, .int .i64 0, .int .i64 0] 46) (by simp [Value.oneCell']) (by unfold maxLen; omega) (by omega) (by have := HON.out.size; have := HBS.out; simp; omega) ?_
                                  intro v' w10 hown' hgrow _
                                  obtain ⟨gq, cq, ev, hq1, hq2⟩ := own_form hown' (by omega)
                                  subst ev
                                  have k10 := (HPB.out.alloc (.cells [.int .i64 28, .int .i64 0, .int .i64 0, .int .i64 0, .int .i64 0, .int .i64 0, .int .i64 0, .int .i64 0, .int .i64 0, .int .i64 0].toArray 46)).grown hgrow (fun e => by have := (HOWN.out.lt pb e.symm).1; have := HPL.out; omega)
                                  have c5 : w10.cell? ⟨pb, 5, none⟩ = some v := by rw [k10.cell]; rfl
                                  have f5 := k10.frozen 5
                                  have HOWN2 := hide hown'
                                  have HG2 := hide hgrow
                                  have HK10 := hide k10
                                  clear hown' hgrow k10)
          have hvp : vb ≠ pb := HKV.out.ne_ HKP.out (by decide)
          have hon3 : Only (fun k => k = pb) W2 (w10.setCell ⟨pb, 5, none⟩ (.slice (some ⟨gq, 0, none⟩) (n + 1 + m + 2) cq)) := ((HON.out.alloc _).grown HG2.out (fun k hk => .inr (by rw [← HBE.out]; exact (HOWN.out.lt k hk).1))).setCell (.inl rfl) _
          have kp3 : Blk (w10.setCell ⟨pb, 5, none⟩ (.slice (some ⟨gq, 0, none⟩) (n + 1 + m + 2) cq)) pb 28 #[.slice (some ⟨n1, 0, none⟩) 1 1, .slice (some ⟨vb, 0, none⟩) 1 1, .slice none 0 0, .slice (some ⟨n1 + 1, 0, none⟩) 1 1, .int .i64 0, .slice (some ⟨gq, 0, none⟩) (n + 1 + m + 2) cq] := HK10.out.set_ 5 _
          have hlen : (stackC (n + 1) m).length = n + 1 + m + 2 := stack_len (n + 1) m
          have hown3 : World.ownsRow (w10.setCell ⟨pb, 5, none⟩ (.slice (some ⟨gq, 0, none⟩) (n + 1 + m + 2) cq)) B 46 5 (.slice (some ⟨gq, 0, none⟩) (n + 1 + m + 2) cq) (stackC (n + 1) m).length (codeV (stackC (n + 1) m)) := by
            rw [hlen]
            have := own_far HOWN2.out (p := ⟨pb, 5, none⟩) (fun e => by have := (HOWN2.out.lt pb e).1; have := HPL.out; omega) (.slice (some ⟨gq, 0, none⟩) (n + 1 + m + 2) cq)
            have e : codeV (stackC (n + 1) m) = codeV ((List.range (n + 1)).map numI ++ List.replicate m addI) ++ [.int .i64 28, .int .i64 0, .int .i64 0, .int .i64 0, .int .i64 0, .int .i64 0, .int .i64 0, .int .i64 0, .int .i64 0, .int .i64 0] := by
              rw [stackC, codeV_append]; rfl
            rw [e]
            exact this
          have k33 : Blk (w10.setCell ⟨pb, 5, none⟩ (.slice (some ⟨gq, 0, none⟩) (n + 1 + m + 2) cq)) n1 4 #[.bool false] := HK3.out.only hon3 (fun e => HK3.out.ne_ HKP.out (by decide) e)
          have k43 : Blk (w10.setCell ⟨pb, 5, none⟩ (.slice (some ⟨gq, 0, none⟩) (n + 1 + m + 2) cq)) (n1 + 1) 3 #[.int .i64 (-1)] := HK4.out.only hon3 (fun e => HK4.out.ne_ HKP.out (by decide) e)
          have kv3 : Blk (w10.setCell ⟨pb, 5, none⟩ (.slice (some ⟨gq, 0, none⟩) (n + 1 + m + 2) cq)) vb 49 #[.int .i64 0, .int .i64 0, .int .i64 0] := HKV.out.only hon3 hvp
          have hmem : PMem (w10.setCell ⟨pb, 5, none⟩ (.slice (some ⟨gq, 0, none⟩) (n + 1 + m + 2) cq)) (stackV n1 vb 1 gq (n + 1 + m + 2) cq) (stackP (n + 1) m) := by
            have := own_mem (cap := cq) (g := gq) (cd := stackC (n + 1) m) k33 k43 (nv := 1) (Nat.le_refl _) (fun _ => kv3) (by rw [hlen] at hown3 ⊢; exact hown3) (by rw [hlen]; unfold maxLen; omega)
            rw [hlen] at this
            exact this
          have hb3 : Below w.heap.size w (w10.setCell ⟨pb, 5, none⟩ (.slice (some ⟨gq, 0, none⟩) (n + 1 + m + 2) cq)) := below_only HB2.out hon3 HPW.out HB2.out.size
          have hmv : Mv (w10.setCell ⟨pb, 5, none⟩ (.slice (some ⟨gq, 0, none⟩) (n + 1 + m + 2) cq)) (stackV n1 vb 1 gq (n + 1 + m + 2) cq).oa (stackV n1 vb 1 gq (n + 1 + m + 2) cq).oc (stackP (n + 1) m).os := own_mv k43
          generalize (w10.setCell ⟨pb, 5, none⟩ (.slice (some ⟨gq, 0, none⟩) (n + 1 + m + 2) cq)) = W3 at *
          have HRUN : Hid (Calls Try.prog 13 #[.agg #[.slice (some ⟨n1, 0, none⟩) 1 1, .slice (some ⟨vb, 0, none⟩) 1 1, .slice none 0 0, .slice (some ⟨n1 + 1, 0, none⟩) 1 1, .int .i64 0, .slice (some ⟨gq, 0, none⟩) (n + 1 + m + 2) cq]] W3 _) := hide (verifyRun_i W3 (stackV n1 vb 1 gq (n + 1 + m + 2) cq) (stackP (n + 1) m) hmem hmv)
          have HHTS : Hid (∀ X, Below W3.heap.size W3 X → Calls Try.prog 17 #[.agg #[.slice (some ⟨n1, 0, none⟩) 1 1, .slice (some ⟨vb, 0, none⟩) 1 1, .slice none 0 0, .slice (some ⟨n1 + 1, 0, none⟩) 1 1, .int .i64 0, .slice (some ⟨gq, 0, none⟩) (n + 1 + m + 2) cq]] X _) := hide (fun X hX => verifyHeights_i X (stackV n1 vb 1 gq (n + 1 + m + 2) cq) (stackP (n + 1) m) (hmem.below hX) (hmv.below hX))
          have q0 : W3.cell? ⟨pb, 0, none⟩ = some (.slice (some ⟨n1, 0, none⟩) 1 1) := by rw [kp3.cell]; rfl
          have q1 : W3.cell? ⟨pb, 1, none⟩ = some (.slice (some ⟨vb, 0, none⟩) 1 1) := by rw [kp3.cell]; rfl
          have q2 : W3.cell? ⟨pb, 2, none⟩ = some (.slice none 0 0) := by rw [kp3.cell]; rfl
          have q3 : W3.cell? ⟨pb, 3, none⟩ = some (.slice (some ⟨n1 + 1, 0, none⟩) 1 1) := by rw [kp3.cell]; rfl
          have q4 : W3.cell? ⟨pb, 4, none⟩ = some (.int .i64 0) := by rw [kp3.cell]; rfl
          have q5 : W3.cell? ⟨pb, 5, none⟩ = some (.slice (some ⟨gq, 0, none⟩) (n + 1 + m + 2) cq) := by rw [kp3.cell]; rfl
          have HPL3 : Hid (pb < W3.heap.size) := hide kp3.lt
          have HB3 := hide hb3
          clear hvp hon3 kp3 hown3 k33 k43 kv3 hmem hmv hb3 HG2 HK10 HOWN2 HOWN HPB HON HBS HKP HKV HK3 HK4 HB2 c5 f5 hq1 hq2 hlen
          obtain ⟨P, hP⟩ : ∃ P, P = stackP (n + 1) m := ⟨_, rfl⟩
          rw [← hP] at HRUN HHTS
          have HP := hide hP
          clear hP
          obtain ⟨e, he⟩ : ∃ e, e = (runV P).1 := ⟨_, rfl⟩
          obtain ⟨at_, hat⟩ : ∃ e, e = (runV P).2.1 := ⟨_, rfl⟩
          rw [← he, ← hat] at HRUN HHTS
          have HE := hide he
          have HAT := hide hat
          clear he hat
          go_upto_region 17 with (first
            | (go_at_call 13
               refine HRUN.out.mono ?_
               rintro en w11 ⟨oa1, n11, c11, m11, rfl, _, hb11⟩
               have HB11 := hide hb11
               have q0a : ∀ o o1, ((w11.alloc o).alloc o1).cell? ⟨pb, 0, none⟩ = some (.slice (some ⟨n1, 0, none⟩) 1 1) := fun o o1 => (World.cell?_alloc_lt (w11.alloc o) o1 _ (by have := HPL3.out; have := HB11.out.size; simp; omega)).trans ((World.cell?_alloc_lt w11 o _ (by have := HPL3.out; have := HB11.out.size; show pb < w11.heap.size; omega)).trans ((HB11.out.cell (by exact HPL3.out)).trans q0))
               have q1a : ∀ o o1, ((w11.alloc o).alloc o1).cell? ⟨pb, 1, none⟩ = some (.slice (some ⟨vb, 0, none⟩) 1 1) := fun o o1 => (World.cell?_alloc_lt (w11.alloc o) o1 _ (by have := HPL3.out; have := HB11.out.size; simp; omega)).trans ((World.cell?_alloc_lt w11 o _ (by have := HPL3.out; have := HB11.out.size; show pb < w11.heap.size; omega)).trans ((HB11.out.cell (by exact HPL3.out)).trans q1))
               have q2a : ∀ o o1, ((w11.alloc o).alloc o1).cell? ⟨pb, 2, none⟩ = some (.slice none 0 0) := fun o o1 => (World.cell?_alloc_lt (w11.alloc o) o1 _ (by have := HPL3.out; have := HB11.out.size; simp; omega)).trans ((World.cell?_alloc_lt w11 o _ (by have := HPL3.out; have := HB11.out.size; show pb < w11.heap.size; omega)).trans ((HB11.out.cell (by exact HPL3.out)).trans q2))
               have q3a : ∀ o o1, ((w11.alloc o).alloc o1).cell? ⟨pb, 3, none⟩ = some (.slice (some ⟨n1 + 1, 0, none⟩) 1 1) := fun o o1 => (World.cell?_alloc_lt (w11.alloc o) o1 _ (by have := HPL3.out; have := HB11.out.size; simp; omega)).trans ((World.cell?_alloc_lt w11 o _ (by have := HPL3.out; have := HB11.out.size; show pb < w11.heap.size; omega)).trans ((HB11.out.cell (by exact HPL3.out)).trans q3))
               have q4a : ∀ o o1, ((w11.alloc o).alloc o1).cell? ⟨pb, 4, none⟩ = some (.int .i64 0) := fun o o1 => (World.cell?_alloc_lt (w11.alloc o) o1 _ (by have := HPL3.out; have := HB11.out.size; simp; omega)).trans ((World.cell?_alloc_lt w11 o _ (by have := HPL3.out; have := HB11.out.size; show pb < w11.heap.size; omega)).trans ((HB11.out.cell (by exact HPL3.out)).trans q4))
               have q5a : ∀ o o1, ((w11.alloc o).alloc o1).cell? ⟨pb, 5, none⟩ = some (.slice (some ⟨gq, 0, none⟩) (n + 1 + m + 2) cq) := fun o o1 => (World.cell?_alloc_lt (w11.alloc o) o1 _ (by have := HPL3.out; have := HB11.out.size; simp; omega)).trans ((World.cell?_alloc_lt w11 o _ (by have := HPL3.out; have := HB11.out.size; show pb < w11.heap.size; omega)).trans ((HB11.out.cell (by exact HPL3.out)).trans q5))
               clear hb11)
            | (go_at_call 17
               refine (HHTS.out _ (by have h1 := HB11.out; exact (h1.alloc h1.size _).alloc (by have := h1.size; simp; omega) _)).mono ?_
               rintro en w12 ⟨v12, rfl, hh12, hb12⟩
               have HH12 := hide hh12
               have HB12 := hide hb12
               clear hh12 hb12))
          have kf11 : Blk ((w11.alloc (.cells #[.slice oa1 n11 c11, .int .i64 m11] 32)).alloc (.cells #[.int .i64 e, .int .i64 at_] 35)) (w11.heap.size + 1) 35 #[.int .i64 e, .int .i64 at_] := by
            have := Blk.new (w11.alloc (.cells #[.slice oa1 n11 c11, .int .i64 m11] 32)) 35 #[.int .i64 e, .int .i64 at_]
            simpa using this
          have kf : Blk (w12.alloc (.cells #[.int .i64 e, .int .i64 at_] 35)) (w11.heap.size + 1) 35 #[.int .i64 e, .int .i64 at_] := (kf11.below HB12.out kf11.lt).alloc _
          have kg : Blk (w12.alloc (.cells #[.int .i64 e, .int .i64 at_] 35)) w12.heap.size 35 #[.int .i64 e, .int .i64 at_] := Blk.new w12 35 _
          have hb11 : Below W3.heap.size W3 ((w11.alloc (.cells #[.slice oa1 n11 c11, .int .i64 m11] 32)).alloc (.cells #[.int .i64 e, .int .i64 at_] 35)) := by have h1 := HB11.out; exact (h1.alloc h1.size _).alloc (by have := h1.size; simp; omega) _
          have hb12 : Below W3.heap.size W3 (w12.alloc (.cells #[.int .i64 e, .int .i64 at_] 35)) := (hb11.trans (HB12.out.mono hb11.size)).alloc (Nat.le_trans hb11.size HB12.out.size) _
          have q5d : (w12.alloc (.cells #[.int .i64 e, .int .i64 at_] 35)).cell? ⟨pb, 5, none⟩ = some (.slice (some ⟨gq, 0, none⟩) (n + 1 + m + 2) cq) := (hb12.cell (by exact HPL3.out)).trans q5
          have hb4 : Below w.heap.size w (w12.alloc (.cells #[.int .i64 e, .int .i64 at_] 35)) := HB3.out.trans (hb12.mono HB3.out.size)
          have hb12b : Below w12.heap.size w12 (w12.alloc (.cells #[.int .i64 e, .int .i64 at_] 35)) := (Below.refl _ _).alloc (Nat.le_refl _) _
          generalize (w12.alloc (.cells #[.int .i64 e, .int .i64 at_] 35)) = W4 at *
          have f0 : W4.cell? ⟨w11.heap.size + 1, 0, none⟩ = some (.int .i64 e) := by rw [kf.cell]; rfl
          have f1 : W4.cell? ⟨w11.heap.size + 1, 1, none⟩ = some (.int .i64 at_) := by rw [kf.cell]; rfl
          have g0 : W4.cell? ⟨w12.heap.size, 0, none⟩ = some (.int .i64 e) := by rw [kg.cell]; rfl
          have g1 : W4.cell? ⟨w12.heap.size, 1, none⟩ = some (.int .i64 at_) := by rw [kg.cell]; rfl
          have f0a : ∀ o, (W4.alloc o).cell? ⟨w11.heap.size + 1, 0, none⟩ = some (.int .i64 e) := fun o => (World.cell?_alloc_lt W4 o _ (by exact kf.lt)).trans f0
          have f1a : ∀ o, (W4.alloc o).cell? ⟨w11.heap.size + 1, 1, none⟩ = some (.int .i64 at_) := fun o => (World.cell?_alloc_lt W4 o _ (by exact kf.lt)).trans f1
          have g0a : ∀ o, (W4.alloc o).cell? ⟨w12.heap.size, 0, none⟩ = some (.int .i64 e) := fun o => (World.cell?_alloc_lt W4 o _ (by exact kg.lt)).trans g0
          have g1a : ∀ o, (W4.alloc o).cell? ⟨w12.heap.size, 1, none⟩ = some (.int .i64 at_) := fun o => (World.cell?_alloc_lt W4 o _ (by exact kg.lt)).trans g1
          have q5e : ∀ o, (W4.alloc o).cell? ⟨pb, 5, none⟩ = _ := fun o => (World.cell?_alloc_lt W4 o _ (by have := hb12.size; have := HPL3.out; show pb < W4.heap.size; omega)).trans q5d
          have HB4 := hide hb4
          have HB12b := hide hb12b
          clear kf11 kf kg hb11 hb12 hb4 hb12b q0 q1 q2 q3 q4 q5 q0a q1a q2a q3a q4a q5a HB11 HRUN HHTS f0 f1 g0 g1 q5d
          have u6 := IntWalk.i64_in (1 + (n : Int) + (1 + (n : Int))) (by omega)
          have u7 := IntWalk.i64_in (1 + (n : Int) + (1 + (n : Int)) - 1) (by omega)
          have hMM := HM.out
          by_cases hS : 1 + (n : Int) - 1 - ((l : Int) - 2) < 0
          · have hm0 : m = 0 := by omega
            have HM0 := hide hm0
            clear hm0
            go_upto_region 20 with fail
            have hm0 := HM0.out
            have u9 := IntWalk.i64_in (1 + (n : Int) + 1) (by omega)
            by_cases hA : 256 < n + 1
            · exfalso; omega
            · have hA2 : ¬ (256 : Int) < 1 + (n : Int) := by omega
              by_cases hB : n < m
              · exfalso; omega
              · have hB2 : ¬ 1 + (n : Int) - 1 < 0 := by omega
                by_cases hC : m < n
                · have hr := stack_few (n := n + 1) (m := m) (by omega) (by omega)
                  obtain rfl : e = 93 := by rw [HE.out, HP.out, hr]
                  obtain rfl : at_ = 1 + (n : Int) + 1 := by rw [HAT.out, HP.out, hr]; try (first | rfl | (dsimp only; omega))
                  obtain rfl : v12 = .slice none 0 0 := HH12.out.1 (by rw [HP.out, hr]; simp)
                  clear hr HE HAT HH12 HP
                  have hC2 : 0 < 1 + (n : Int) - 1 := by omega
                  go_wp2_with (go_at_call 10
                               refine (head_i _).mono ?_
                               rintro en w20 ⟨rfl, hb20⟩
                               have HB20 := hide hb20
                               clear hb20)
                  go_ret
                  exact ⟨rfl, (HB4.out.alloc HB4.out.size _).trans (HB20.out.mono (by have := HB4.out.size; simp; omega))⟩
                · have hC2 : ¬ 0 < 1 + (n : Int) - 1 := by omega
                  have hmn : m = n := by omega
                  have hr := stack_right (n := n + 1) (m := m) (by omega) (by omega) (by omega)
                  obtain rfl : e = 0 := by rw [HE.out, HP.out, hr]
                  obtain rfl : at_ = 0 := by rw [HAT.out, HP.out, hr]
                  obtain ⟨hown, hlen⟩ := HH12.out.2 (by rw [HP.out, hr])
                  rw [HP.out, hr, stack_len] at hown
                  obtain ⟨gh, ch, rfl, hch, hch2⟩ := own_form hown (by omega)
                  have hcell : ∀ k : Nat, k < n + 1 + m + 2 → ∀ o, (W4.alloc o).cell? ⟨gh, k, none⟩ = some (.int .i64 (hgt (n + 1) k : Int)) := fun k hk o => by
                    have h1 := hown.cellAt k (by omega)
                    rw [stack_hts hk] at h1
                    have hgl := (hown.lt gh rfl).2
                    exact (World.cell?_alloc_lt W4 o _ (by have := HB12b.out.size; show gh < W4.heap.size; omega)).trans ((HB12b.out.cell (by exact hgl)).trans h1)
                  have HCE := hide hcell
                  have hz : ∀ o, (W4.alloc o).cell? ⟨gh, n + 1 + m + 1, none⟩ = some (.int .i64 0) := fun o => by have := hcell (n + 1 + m + 1) (by omega) o; rw [hgt_down (by omega)] at this; rw [this]; congr 2; omega
                  clear hr HE HAT HH12 HP hown hlen hcell hch2 hch
                  generalize hlen : n + 1 + m + 2 = len at *
                  have u10 : IntKind.i64.wrap ((len : Int) - 1) = ((n + 1 + m + 1 : Nat) : Int) := (IntWalk.i64_in ((len : Int) - 1) (by omega)).trans (by omega)
                  have HMN := hide hmn
                  clear hMM hmn
                  clear hm0
                  have hlt2 : n + 1 + m + 1 < len := by have := HMN.out; omega
                  go_wp2_with fail
                  have q5X := q5e (.cells #[.int .i64 0, .int .i64 0] 35)
                  have hzX := hz (.cells #[.int .i64 0, .int .i64 0] 35)
                  have HCX := hide (fun k hk => HCE.out k hk (.cells #[.int .i64 0, .int .i64 0] 35))
                  have HBX := hide (HB4.out.alloc HB4.out.size (.cells #[.int .i64 0, .int .i64 0] 35))
                  have HLEN := hide hlen
                  clear q5e hz HCE f0a f1a g0a g1a hlen
                  generalize (W4.alloc (.cells #[.int .i64 0, .int .i64 0] 35)) = X at *
                  go_loopw [14] (fun tx W => ∃ k : Nat, tx = .int .i64 (k : Int) ∧ k ≤ len ∧ W = X) (fun tx _ => len - (intOf tx).toNat)
                  case atStart => exact ⟨0, rfl, Nat.zero_le _, rfl⟩
                  case round =>
                    obtain ⟨k, rfl, hk, hw⟩ := hrel
                    subst hw
                    rename World => X
                    have v1 := IntWalk.i64_in ((k : Int) + 1) (by have := HLEN.out; omega)
                    by_cases hlt : k < len
                    · have ck := HCX.out k (by have := HLEN.out; omega)
                      by_cases hk1 : k ≤ n + 1
                      · have hk2 : (k : Int) ≤ 1 + (n : Int) := by omega
                        have hk3 : ¬ 1 + (n : Int) < (k : Int) := by omega
                        have hh : hgt (n + 1) k = k := by unfold hgt; rw [if_pos hk1]
                        rw [hh] at ck
                        clear hh hk1
                        go_wp2_with fail
                        go_roundw
                        case rel => exact ⟨k + 1, by go_num, by omega, trivial⟩
                        case measure => simp [intOf]; omega
                      · have hk2 : ¬ (k : Int) ≤ 1 + (n : Int) := by omega
                        have hk3 : 1 + (n : Int) < (k : Int) := by omega
                        have hh : hgt (n + 1) k = 2 * (n + 1) - k := by unfold hgt; rw [if_neg hk1]
                        by_cases hk4 : k < n + 1 + m + 1
                        · have hk5 : (k : Int) < ((n + 1 + m + 1 : Nat) : Int) := by omega
                          have hval : ((hgt (n + 1) k : Nat) : Int) = 1 + (n : Int) - ((k : Int) - (1 + (n : Int))) := by have := HMN.out; rw [hh]; omega
                          rw [hval] at ck
                          have v2 := IntWalk.i64_in ((k : Int) - (1 + (n : Int))) (by omega)
                          have v3 := IntWalk.i64_in (1 + (n : Int) - ((k : Int) - (1 + (n : Int)))) (by omega)
                          clear hh hk1 hk4 hval
                          generalize ((n + 1 + m + 1 : Nat) : Int) = lm at *
                          go_wp2_with fail
                          go_roundw
                          case rel => exact ⟨k + 1, by go_num, by omega, trivial⟩
                          case measure => simp [intOf]; omega
                        · have hk5 : ¬ (k : Int) < ((n + 1 + m + 1 : Nat) : Int) := by omega
                          clear hh hk1 hk4
                          generalize ((n + 1 + m + 1 : Nat) : Int) = lm at *
                          go_wp2_with fail
                          go_roundw
                          case rel => exact ⟨k + 1, by go_num, by omega, trivial⟩
                          case measure => simp [intOf]; omega
                    · have hkl2 : ¬ (k : Int) < (len : Int) := by omega
                      clear hlt
                      go_wp2_with (go_at_call 10
                                   refine (head_i _).mono ?_
                                   rintro en w20 ⟨rfl, hb20⟩
                                   have HB20 := hide hb20
                                   clear hb20)
                      go_ret
                      exact ⟨rfl, HBX.out.trans (HB20.out.mono HBX.out.size)⟩
          · have hSm : 1 + (n : Int) - 1 - ((l : Int) - 2) = (m : Int) := by omega
            have u4 := u4.trans hSm
            have hS0 : ¬ (m : Int) < 0 := by omega
            have u8 := IntWalk.i64_in (1 + (n : Int) + (m : Int)) (by omega)
            have u9 := IntWalk.i64_in (1 + (n : Int) + (m : Int) + 1) (by omega)
            clear hS hltI
            rw [hSm]
            clear hSm
            go_upto_region 20 with fail
            by_cases hA : 256 < n + 1
            · have hr := stack_high (n := n + 1) (m := m) hA (by omega) (by omega)
              obtain rfl : e = 93 := by rw [HE.out, HP.out, hr]
              obtain rfl : at_ = 256 := by rw [HAT.out, HP.out, hr]; try (first | rfl | (dsimp only; omega))
              obtain rfl : v12 = .slice none 0 0 := HH12.out.1 (by rw [HP.out, hr]; simp)
              clear hr HE HAT HH12 HP
              have hA2 : (256 : Int) < 1 + (n : Int) := by omega
              go_wp2_with (go_at_call 10
                           refine (head_i _).mono ?_
                           rintro en w20 ⟨rfl, hb20⟩
                           have HB20 := hide hb20
                           clear hb20)
              go_ret
              exact ⟨rfl, (HB4.out.alloc HB4.out.size _).trans (HB20.out.mono (by have := HB4.out.size; simp; omega))⟩
            · have hA2 : ¬ (256 : Int) < 1 + (n : Int) := by omega
              by_cases hB : n < m
              · have hr := stack_many (n := n + 1) (m := m) (by omega) (by omega) (by omega) (by omega)
                obtain rfl : e = 93 := by rw [HE.out, HP.out, hr]
                obtain rfl : at_ = 1 + (n : Int) + (1 + (n : Int)) - 1 := by rw [HAT.out, HP.out, hr]; try (first | rfl | (dsimp only; omega))
                obtain rfl : v12 = .slice none 0 0 := HH12.out.1 (by rw [HP.out, hr]; simp)
                clear hr HE HAT HH12 HP
                have hB2 : 1 + (n : Int) - 1 < (m : Int) := by omega
                go_wp2_with (go_at_call 10
                             refine (head_i _).mono ?_
                             rintro en w20 ⟨rfl, hb20⟩
                             have HB20 := hide hb20
                             clear hb20)
                go_ret
                exact ⟨rfl, (HB4.out.alloc HB4.out.size _).trans (HB20.out.mono (by have := HB4.out.size; simp; omega))⟩
              · have hB2 : ¬ 1 + (n : Int) - 1 < (m : Int) := by omega
                by_cases hC : m < n
                · have hr := stack_few (n := n + 1) (m := m) (by omega) (by omega)
                  obtain rfl : e = 93 := by rw [HE.out, HP.out, hr]
                  obtain rfl : at_ = 1 + (n : Int) + (m : Int) + 1 := by rw [HAT.out, HP.out, hr]; try (first | rfl | (dsimp only; omega))
                  obtain rfl : v12 = .slice none 0 0 := HH12.out.1 (by rw [HP.out, hr]; simp)
                  clear hr HE HAT HH12 HP
                  have hC2 : (m : Int) < 1 + (n : Int) - 1 := by omega
                  go_wp2_with (go_at_call 10
                               refine (head_i _).mono ?_
                               rintro en w20 ⟨rfl, hb20⟩
                               have HB20 := hide hb20
                               clear hb20)
                  go_ret
                  exact ⟨rfl, (HB4.out.alloc HB4.out.size _).trans (HB20.out.mono (by have := HB4.out.size; simp; omega))⟩
                · have hC2 : ¬ (m : Int) < 1 + (n : Int) - 1 := by omega
                  have hmn : m = n := by omega
                  have hr := stack_right (n := n + 1) (m := m) (by omega) (by omega) (by omega)
                  obtain rfl : e = 0 := by rw [HE.out, HP.out, hr]
                  obtain rfl : at_ = 0 := by rw [HAT.out, HP.out, hr]
                  obtain ⟨hown, hlen⟩ := HH12.out.2 (by rw [HP.out, hr])
                  rw [HP.out, hr, stack_len] at hown
                  obtain ⟨gh, ch, rfl, hch, hch2⟩ := own_form hown (by omega)
                  have hcell : ∀ k : Nat, k < n + 1 + m + 2 → ∀ o, (W4.alloc o).cell? ⟨gh, k, none⟩ = some (.int .i64 (hgt (n + 1) k : Int)) := fun k hk o => by
                    have h1 := hown.cellAt k (by omega)
                    rw [stack_hts hk] at h1
                    have hgl := (hown.lt gh rfl).2
                    exact (World.cell?_alloc_lt W4 o _ (by have := HB12b.out.size; show gh < W4.heap.size; omega)).trans ((HB12b.out.cell (by exact hgl)).trans h1)
                  have HCE := hide hcell
                  have hz : ∀ o, (W4.alloc o).cell? ⟨gh, n + 1 + m + 1, none⟩ = some (.int .i64 0) := fun o => by have := hcell (n + 1 + m + 1) (by omega) o; rw [hgt_down (by omega)] at this; rw [this]; congr 2; omega
                  clear hr HE HAT HH12 HP hown hlen hcell hch2 hch
                  generalize hlen : n + 1 + m + 2 = len at *
                  have u10 : IntKind.i64.wrap ((len : Int) - 1) = ((n + 1 + m + 1 : Nat) : Int) := (IntWalk.i64_in ((len : Int) - 1) (by omega)).trans (by omega)
                  have HMN := hide hmn
                  clear hMM hmn
                  have hlt2 : n + 1 + m + 1 < len := by have := HMN.out; omega
                  go_wp2_with fail
                  have q5X := q5e (.cells #[.int .i64 0, .int .i64 0] 35)
                  have hzX := hz (.cells #[.int .i64 0, .int .i64 0] 35)
                  have HCX := hide (fun k hk => HCE.out k hk (.cells #[.int .i64 0, .int .i64 0] 35))
                  have HBX := hide (HB4.out.alloc HB4.out.size (.cells #[.int .i64 0, .int .i64 0] 35))
                  have HLEN := hide hlen
                  clear q5e hz HCE f0a f1a g0a g1a hlen
                  generalize (W4.alloc (.cells #[.int .i64 0, .int .i64 0] 35)) = X at *
                  go_loopw [14] (fun tx W => ∃ k : Nat, tx = .int .i64 (k : Int) ∧ k ≤ len ∧ W = X) (fun tx _ => len - (intOf tx).toNat)
                  case atStart => exact ⟨0, rfl, Nat.zero_le _, rfl⟩
                  case round =>
                    obtain ⟨k, rfl, hk, hw⟩ := hrel
                    subst hw
                    rename World => X
                    have v1 := IntWalk.i64_in ((k : Int) + 1) (by have := HLEN.out; omega)
                    by_cases hlt : k < len
                    · have ck := HCX.out k (by have := HLEN.out; omega)
                      by_cases hk1 : k ≤ n + 1
                      · have hk2 : (k : Int) ≤ 1 + (n : Int) := by omega
                        have hk3 : ¬ 1 + (n : Int) < (k : Int) := by omega
                        have hh : hgt (n + 1) k = k := by unfold hgt; rw [if_pos hk1]
                        rw [hh] at ck
                        clear hh hk1
                        go_wp2_with fail
                        go_roundw
                        case rel => exact ⟨k + 1, by go_num, by omega, trivial⟩
                        case measure => simp [intOf]; omega
                      · have hk2 : ¬ (k : Int) ≤ 1 + (n : Int) := by omega
                        have hk3 : 1 + (n : Int) < (k : Int) := by omega
                        have hh : hgt (n + 1) k = 2 * (n + 1) - k := by unfold hgt; rw [if_neg hk1]
                        by_cases hk4 : k < n + 1 + m + 1
                        · have hk5 : (k : Int) < ((n + 1 + m + 1 : Nat) : Int) := by omega
                          have hval : ((hgt (n + 1) k : Nat) : Int) = 1 + (n : Int) - ((k : Int) - (1 + (n : Int))) := by have := HMN.out; rw [hh]; omega
                          rw [hval] at ck
                          have v2 := IntWalk.i64_in ((k : Int) - (1 + (n : Int))) (by omega)
                          have v3 := IntWalk.i64_in (1 + (n : Int) - ((k : Int) - (1 + (n : Int)))) (by omega)
                          clear hh hk1 hk4 hval
                          generalize ((n + 1 + m + 1 : Nat) : Int) = lm at *
                          go_wp2_with fail
                          go_roundw
                          case rel => exact ⟨k + 1, by go_num, by omega, trivial⟩
                          case measure => simp [intOf]; omega
                        · have hk5 : ¬ (k : Int) < ((n + 1 + m + 1 : Nat) : Int) := by omega
                          clear hh hk1 hk4
                          generalize ((n + 1 + m + 1 : Nat) : Int) = lm at *
                          go_wp2_with fail
                          go_roundw
                          case rel => exact ⟨k + 1, by go_num, by omega, trivial⟩
                          case measure => simp [intOf]; omega
                    · have hkl2 : ¬ (k : Int) < (len : Int) := by omega
                      clear hlt
                      go_wp2_with (go_at_call 10
                                   refine (head_i _).mono ?_
                                   rintro en w20 ⟨rfl, hb20⟩
                                   have HB20 := hide hb20
                                   clear hb20)
                      go_ret
                      exact ⟨rfl, HBX.out.trans (HB20.out.mono HBX.out.size)⟩
end Go.Proofs.Ytjflllfkgbhemaa
