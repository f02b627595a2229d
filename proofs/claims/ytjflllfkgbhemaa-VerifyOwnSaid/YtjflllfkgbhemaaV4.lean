/- The walk of code.Check. Conditions: the program lies in memory. -/
import Derived.Test.YtjflllfkgbhemaaV3
import Derived.Deep.RegionWith
namespace Go.Proofs.Ytjflllfkgbhemaa
open Go.RowKit

/-- the bounds of an instruction's i-th operand -/
def opB (P : Prg) (s : ByteArray) (i : Nat) : Int × Int :=
  match s.data[i]? with
  | some c => boundsV P.gh.length P.vs.length P.ts.length P.cd.length c.toNat
  | none => (0, 0)
def Ins.arg (x : Ins) : Nat → Int
  | 0 => x.a
  | 1 => x.b
  | 2 => x.c
  | _ => x.d
def opOk (P : Prg) (s : ByteArray) (x : Ins) (i : Nat) : Bool := fromV (x.arg i) (opB P s i).1 (opB P s i).2
def insE (P : Prg) (x : Ins) : Nat :=
  if x.op < 0 then 91 else
  match table[x.op.toNat]? with
  | none => 91
  | some r => if opOk P r.2 x 0 && opOk P r.2 x 1 && opOk P r.2 x 2 && opOk P r.2 x 3 then 0 else 92
def insEs (P : Prg) : List Ins → Nat
  | [] => 0
  | x :: l => if insE P x = 0 then insEs P l else insE P x
def checkV (P : Prg) : Nat := if tablesV P then insEs P P.cd else 85
theorem insEs_at {P : Prg} : ∀ {l : List Ins} {i : Nat} {x : Ins}, l[i]? = some x → (∀ y ∈ l.take i, insE P y = 0) → insE P x ≠ 0 → insEs P l = insE P x
  | [], _, _, h, _, _ => by simp at h
  | y :: l, 0, x, h, _, hn => by simp at h; subst h; simp [insEs, hn]
  | y :: l, i + 1, x, h, ha, hn => by
    have h0 : insE P y = 0 := ha y (by simp)
    simp only [insEs, h0, if_true]
    exact insEs_at (by simpa using h) (fun z hz => ha z (by simp [hz])) hn
theorem insEs_all {P : Prg} : ∀ {l : List Ins}, (∀ y ∈ l, insE P y = 0) → insEs P l = 0
  | [], _ => rfl
  | y :: l, h => by simp [insEs, h y (by simp)]; exact insEs_all (fun z hz => h z (by simp [hz]))
theorem opB_in (P : Prg) {s : ByteArray} {j : Nat} (h : j < s.size) : opB P s j = boundsV P.gh.length P.vs.length P.ts.length P.cd.length (s[j].toNat : Int) := by
  have h' : j < s.data.size := h
  unfold opB
  rw [Array.getElem?_eq_getElem h']
  rfl
theorem opB_out (P : Prg) {s : ByteArray} {j : Nat} (h : ¬ j < s.size) : opB P s j = (0, 0) := by
  have h' : s.data.size ≤ j := Nat.le_of_not_lt h
  unfold opB
  rw [Array.getElem?_eq_none h']
theorem insE_none (P : Prg) {x : Ins} (h : x.op < 0 ∨ 42 ≤ x.op) : insE P x = 91 := by
  unfold insE
  by_cases h0 : x.op < 0
  · simp [h0]
  · have : table[x.op.toNat]? = none := List.getElem?_eq_none (by rw [table_length]; omega)
    simp [h0, this]
theorem insE_at (P : Prg) {k : Nat} {x1 x2 x3 x4 : Int} {r : ByteArray × ByteArray} (hr : table[k]? = some r) :
    insE P ⟨k, x1, x2, x3, x4⟩ = if opOk P r.2 ⟨k, x1, x2, x3, x4⟩ 0 && opOk P r.2 ⟨k, x1, x2, x3, x4⟩ 1 && opOk P r.2 ⟨k, x1, x2, x3, x4⟩ 2 && opOk P r.2 ⟨k, x1, x2, x3, x4⟩ 3 then 0 else 92 := by
  unfold insE
  have h0 : ¬ ((k : Nat) : Int) < 0 := by omega
  simp only [h0, if_false, Int.toNat_natCast, hr]
theorem insE_good {P : Prg} {k : Nat} {x1 x2 x3 x4 : Int} {n s : ByteArray} (hr : table[k]? = some (n, s)) (h : ∀ m, m < 4 → opOk P s ⟨k, x1, x2, x3, x4⟩ m = true) : insE P ⟨k, x1, x2, x3, x4⟩ = 0 := by
  rw [insE_at P hr]
  simp [h 0 (by omega), h 1 (by omega), h 2 (by omega), h 3 (by omega)]
theorem insE_bad {P : Prg} {k j : Nat} {x1 x2 x3 x4 : Int} {n s : ByteArray} (hr : table[k]? = some (n, s)) (hj : j < 4) (h : opOk P s ⟨k, x1, x2, x3, x4⟩ j = false) : insE P ⟨k, x1, x2, x3, x4⟩ = 92 := by
  rw [insE_at P hr]
  obtain rfl | rfl | rfl | rfl : j = 0 ∨ j = 1 ∨ j = 2 ∨ j = 3 := by omega
  all_goals simp [h]
set_option maxRecDepth 100000 in
set_option maxHeartbeats 4000000 in
theorem check_i (w : World) (p : PV) (P : Prg) (h : PMem w p P) : Calls Try.prog 32 #[p.val] w fun en w' => en = .returned (.int .i64 (checkV P : Int)) ∧ Below w.heap.size w w' := by
  have HM := hide h
  have ht := fun (W : World) (hb : Below w.heap.size w W) => hide (tables_i W p P (h.below hb))
  obtain ⟨e1, e2, e3, e4, e5, e6, _, _, _, _, _, l1, l2, l3, l4, l5⟩ := h
  obtain ⟨ga, va, ta, oa, ca, gl, gc, vl, vc, tl, tc, ol, oc, cl, cc, miss⟩ := p
  simp only at e1 e2 e3 e4 e5 e6
  subst e1 e2 e3 e4 e5 e6
  simp only [PV.val] at *
  unfold maxLen at *
  have hW1 : Below w.heap.size w (w.alloc (.cells #[.slice ga P.gh.length gc, .slice va P.vs.length vc, .slice ta P.ts.length tc, .slice oa P.os.length oc, .int .i64 P.miss, .slice ca P.cd.length cc] 28)) := (Below.refl _ w).alloc (Nat.le_refl _) _
  have hk1 := Blk.new w 28 #[.slice ga P.gh.length gc, .slice va P.vs.length vc, .slice ta P.ts.length tc, .slice oa P.os.length oc, .int .i64 P.miss, .slice ca P.cd.length cc]
  have HT := hide (ht _ hW1).out
  have HW1 := hide hW1
  have HK1 := hide hk1
  clear ht hW1 hk1
  cases hT : tablesV P with
  | false =>
    have hc : checkV P = 85 := by simp [checkV, hT]
    have HC := hide hc
    clear hc
    go_enter Try.func32, Try.ntmps32
    go_wp2_with (go_at_call 41
                 refine HT.out.mono ?_
                 rintro en w1 ⟨rfl, hB1⟩
                 have HB1 := hide hB1
                 clear hB1)
    go_ret
    refine ⟨?_, HW1.out.trans (HB1.out.mono (by simp))⟩
    rw [HC.out]
    rfl
  | true =>
    have hc : checkV P = insEs P P.cd := by simp [checkV, hT]
    have HC := hide hc
    clear hc
    go_enter Try.func32, Try.ntmps32
    go_wp2_with (go_at_call 41
                 refine HT.out.mono ?_
                 rintro en w1 ⟨rfl, hB1⟩
                 have hk2 := HK1.out.below hB1 HK1.out.lt
                 have p5 : w1.cell? ⟨w.heap.size, 5, none⟩ = some (.slice ca P.cd.length cc) := by rw [hk2.cell]; rfl
                 have HB1 := hide (HW1.out.trans (hB1.mono (by simp)))
                 have HK2 := hide hk2
                 clear hB1 hk2)
    go_loopw [17] (fun tx W => ∃ i : Nat, tx = .int .i64 (i : Int) ∧ i ≤ P.cd.length ∧ (∀ y ∈ P.cd.take i, insE P y = 0) ∧ Below w.heap.size w W ∧ Blk W w.heap.size 28 #[.slice ga P.gh.length gc, .slice va P.vs.length vc, .slice ta P.ts.length tc, .slice oa P.os.length oc, .int .i64 P.miss, .slice ca P.cd.length cc]) (fun tx _ => P.cd.length - (intOf tx).toNat)
    case atStart => exact ⟨0, rfl, Nat.zero_le _, by simp, HB1.out, HK2.out⟩
    case round =>
      obtain ⟨i, rfl, hi, hall, hB, hk⟩ := hrel
      rename World => W
      have HA := hide hall
      have HB := hide hB
      have HK := hide hk
      clear p5
      by_cases hlt : i < P.cd.length
      · obtain ⟨x, hx⟩ : ∃ x, P.cd[i]? = some x := ⟨_, List.getElem?_eq_getElem hlt⟩
        obtain ⟨⟨g, hg, hgl, q0⟩, ⟨_, hg1, _, q1⟩, ⟨_, hg2, _, q2⟩, ⟨_, hg3, _, q3⟩, ⟨_, hg4, _, q4⟩⟩ := (HM.out.below hB).c i x hx
        simp only at hg hg1 hg2 hg3 hg4
        subst hg
        cases hg1
        cases hg2
        cases hg3
        cases hg4
        obtain ⟨x0, x1, x2, x3, x4⟩ := x
        simp only at q0 q1 q2 q3 q4
        have HX := hide hx
        clear hall hB hk hx hgl
        by_cases hop : x0 < 0 ∨ 42 ≤ x0
        · have hsh := fun W' => hide (shapeOf_no W' x0 hop)
          have h91 : insE P ⟨x0, x1, x2, x3, x4⟩ = 91 := insE_none P hop
          have hc2 : checkV P = 91 := by rw [HC.out, insEs_at HX.out HA.out (by rw [h91]; decide), h91]
          have HC2 := hide hc2
          clear h91 hc2 hop
          go_wp2_with (go_at_call 42
                       refine (hsh _).out.mono ?_
                       rintro en w3 ⟨rfl, hB3⟩
                       have HB3 := hide hB3
                       clear hB3)
          go_ret
          refine ⟨?_, ?_⟩
          · rw [HC2.out]
            rfl
          · have hs := HB.out.size
            have hs3 := HB3.out.size
            simp at hs3
            exact ((HB.out.alloc hs _).trans (HB3.out.mono (by simp; omega))).alloc (by omega) _
        · obtain ⟨k, rfl⟩ := Int.eq_ofNat_of_zero_le (show 0 ≤ x0 by omega)
          have hk42 : k < 42 := by omega
          obtain ⟨r, hr⟩ := table_in hk42
          obtain ⟨rn, rs⟩ := r
          have hbd := fun (W' : World) (c : Int) => hide (bounds_i W' ⟨ga, va, ta, oa, some ⟨g, 0, none⟩, P.gh.length, gc, P.vs.length, vc, P.ts.length, tc, P.os.length, oc, P.cd.length, cc, P.miss⟩ c l1 l2 l3 l5)
          simp only [PV.val] at hbd
          have hsh := fun W' => hide (shapeOf_yes W' k (rn, rs) hr hk42)
          have HR := hide hr
          clear hr
          go_wp2_with (go_at_call 42
                       refine (hsh _).out.mono ?_
                       rintro en w3 ⟨rfl, hB3⟩
                       have b46 := ((Blk.new W 46 #[.int .i64 ((k : Nat) : Int), .int .i64 x1, .int .i64 x2, .int .i64 x3, .int .i64 x4]).below hB3 (by simp)).alloc (.cells #[.string rn, .string rs] 93)
                       have b28 := (((HK.out.alloc (.cells #[.int .i64 ((k : Nat) : Int), .int .i64 x1, .int .i64 x2, .int .i64 x3, .int .i64 x4] 46)).below hB3 (HK.out.alloc _).lt).alloc (.cells #[.string rn, .string rs] 93)).alloc (.cells #[.int .i64 x1, .int .i64 x2, .int .i64 x3, .int .i64 x4] 3)
                       have c1 : (w3.alloc (.cells #[.string rn, .string rs] 93)).cell? ⟨W.heap.size, 1, none⟩ = some (.int .i64 x1) := by rw [b46.cell]; rfl
                       have c2 : (w3.alloc (.cells #[.string rn, .string rs] 93)).cell? ⟨W.heap.size, 2, none⟩ = some (.int .i64 x2) := by rw [b46.cell]; rfl
                       have c3 : (w3.alloc (.cells #[.string rn, .string rs] 93)).cell? ⟨W.heap.size, 3, none⟩ = some (.int .i64 x3) := by rw [b46.cell]; rfl
                       have c4 : (w3.alloc (.cells #[.string rn, .string rs] 93)).cell? ⟨W.heap.size, 4, none⟩ = some (.int .i64 x4) := by rw [b46.cell]; rfl
                       have b93 : Blk ((w3.alloc (.cells #[.string rn, .string rs] 93)).alloc (.cells #[.int .i64 x1, .int .i64 x2, .int .i64 x3, .int .i64 x4] 3)) w3.heap.size 93 #[.string rn, .string rs] := (Blk.new w3 93 _).alloc _
                       have b3 : Blk ((w3.alloc (.cells #[.string rn, .string rs] 93)).alloc (.cells #[.int .i64 x1, .int .i64 x2, .int .i64 x3, .int .i64 x4] 3)) (w3.heap.size + 1) 3 #[.int .i64 x1, .int .i64 x2, .int .i64 x3, .int .i64 x4] := by
                         have := Blk.new (w3.alloc (.cells #[.string rn, .string rs] 93)) 3 #[.int .i64 x1, .int .i64 x2, .int .i64 x3, .int .i64 x4]
                         simpa using this
                       have hlw : Below w.heap.size w ((w3.alloc (.cells #[.string rn, .string rs] 93)).alloc (.cells #[.int .i64 x1, .int .i64 x2, .int .i64 x3, .int .i64 x4] 3)) := by
                         have hs := HB.out.size
                         have hs3 := hB3.size
                         simp at hs3
                         exact (((HB.out.alloc hs _).trans (hB3.mono (by simp; omega))).alloc (by omega) _).alloc (by simp; omega) _
                       have B93 := hide b93
                       have B3 := hide b3
                       have B28 := hide b28
                       have HLW := hide hlw
                       clear hB3 b46 b93 b3 b28 hlw)
          go_loopw [39] (fun tx V => ∃ j : Nat, tx = .int .i64 (j : Int) ∧ j ≤ 4 ∧ (∀ m, m < j → opOk P rs ⟨k, x1, x2, x3, x4⟩ m = true) ∧ Below w.heap.size w V ∧ Blk V w.heap.size 28 #[.slice ga P.gh.length gc, .slice va P.vs.length vc, .slice ta P.ts.length tc, .slice oa P.os.length oc, .int .i64 P.miss, .slice (some ⟨g, 0, none⟩) P.cd.length cc] ∧
              Blk V w3.heap.size 93 #[.string rn, .string rs] ∧ Blk V (w3.heap.size + 1) 3 #[.int .i64 x1, .int .i64 x2, .int .i64 x3, .int .i64 x4]) (fun tx _ => 4 - (intOf tx).toNat)
          case atStart => exact ⟨0, rfl, Nat.zero_le _, by intro m hm; omega, HLW.out, B28.out, B93.out, B3.out⟩
          case round =>
            clear c1 c2 c3 c4
            obtain ⟨j, rfl, hj, hok, hB, hk28, hk93, hk3⟩ := hrel
            rename World => V
            have HOK := hide hok
            have HBV := hide hB
            have HK28 := hide hk28
            have HK93 := hide hk93
            have HK3 := hide hk3
            have s1 : V.cell? ⟨w3.heap.size, 1, none⟩ = some (.string rs) := by rw [hk93.cell]; rfl
            have a0 : V.cell? ⟨w.heap.size, 0, none⟩ = some (.slice ga P.gh.length gc) := by rw [hk28.cell]; rfl
            have a1 : V.cell? ⟨w.heap.size, 1, none⟩ = some (.slice va P.vs.length vc) := by rw [hk28.cell]; rfl
            have a2 : V.cell? ⟨w.heap.size, 2, none⟩ = some (.slice ta P.ts.length tc) := by rw [hk28.cell]; rfl
            have a3 : V.cell? ⟨w.heap.size, 3, none⟩ = some (.slice oa P.os.length oc) := by rw [hk28.cell]; rfl
            have a4 : V.cell? ⟨w.heap.size, 4, none⟩ = some (.int .i64 P.miss) := by rw [hk28.cell]; rfl
            have a5 : V.cell? ⟨w.heap.size, 5, none⟩ = some (.slice (some ⟨g, 0, none⟩) P.cd.length cc) := by rw [hk28.cell]; rfl
            by_cases hj4 : j < 4
            · have n0 : V.cell? ⟨w3.heap.size + 1, j, none⟩ = some (.int .i64 (Ins.arg ⟨k, x1, x2, x3, x4⟩ j)) := by
                rw [hk3.cell]
                obtain rfl | rfl | rfl | rfl : j = 0 ∨ j = 1 ∨ j = 2 ∨ j = 3 := by omega
                all_goals rfl
              clear hok hB hk28 hk93 hk3
              have hi92 : opOk P rs ⟨k, x1, x2, x3, x4⟩ j = false → checkV P = 92 := by
                intro hf
                have h92 : insE P ⟨k, x1, x2, x3, x4⟩ = 92 := insE_bad HR.out hj4 hf
                rw [HC.out, insEs_at HX.out HA.out (by rw [h92]; decide), h92]
              have HI := hide hi92
              clear hi92
              by_cases hjs : j < rs.size
              · have hob : opB P rs j = boundsV P.gh.length P.vs.length P.ts.length P.cd.length (rs[j].toNat : Int) := opB_in P hjs
                cases hv : opOk P rs ⟨k, x1, x2, x3, x4⟩ j with
                | true =>
                  have hfr : ∀ W', Hid (Calls Try.prog 44 #[.int .i64 (Ins.arg ⟨k, x1, x2, x3, x4⟩ j), .int .i64 (boundsV P.gh.length P.vs.length P.ts.length P.cd.length (rs[j].toNat : Int)).1, .int .i64 (boundsV P.gh.length P.vs.length P.ts.length P.cd.length (rs[j].toNat : Int)).2] W' fun en w' => en = .returned (.bool true) ∧ W' = w') := by
                    intro W'
                    have := from_i W' (Ins.arg ⟨k, x1, x2, x3, x4⟩ j) (opB P rs j).1 (opB P rs j).2
                    rw [show fromV (Ins.arg ⟨k, x1, x2, x3, x4⟩ j) (opB P rs j).1 (opB P rs j).2 = true from hv, hob] at this
                    exact this
                  have HV := hide hv
                  clear hob hv
                  go_wp2
                  go_region_with (go_at_call 43
                                  refine (hbd _ _).out.mono ?_
                                  rintro en w5 ⟨rfl, hB5⟩
                                  have HB5 := hide hB5
                                  clear hB5)
                  all_goals
                    go_wp2_with (go_at_call 44
                                 refine (hfr _).out.mono ?_
                                 rintro en w' ⟨rfl, rfl⟩)
                    go_roundw
                    case rel => exact ⟨j + 1, by go_num, by omega, fun m hm => by rcases Nat.lt_succ_iff_lt_or_eq.1 hm with h | rfl; exact HOK.out m h; exact HV.out, HBV.out.drew.trans (HB5.out.mono HBV.out.size), HK28.out.drew.below HB5.out HK28.out.lt, HK93.out.drew.below HB5.out HK93.out.lt, HK3.out.drew.below HB5.out HK3.out.lt⟩
                    case measure => simp [intOf]; omega
                | false =>
                  have hfr : ∀ W', Hid (Calls Try.prog 44 #[.int .i64 (Ins.arg ⟨k, x1, x2, x3, x4⟩ j), .int .i64 (boundsV P.gh.length P.vs.length P.ts.length P.cd.length (rs[j].toNat : Int)).1, .int .i64 (boundsV P.gh.length P.vs.length P.ts.length P.cd.length (rs[j].toNat : Int)).2] W' fun en w' => en = .returned (.bool false) ∧ W' = w') := by
                    intro W'
                    have := from_i W' (Ins.arg ⟨k, x1, x2, x3, x4⟩ j) (opB P rs j).1 (opB P rs j).2
                    rw [show fromV (Ins.arg ⟨k, x1, x2, x3, x4⟩ j) (opB P rs j).1 (opB P rs j).2 = false from hv, hob] at this
                    exact this
                  have h92 := HI.out hv
                  have H92 := hide h92
                  clear hob hv h92
                  go_wp2
                  go_region_with (go_at_call 43
                                  refine (hbd _ _).out.mono ?_
                                  rintro en w5 ⟨rfl, hB5⟩
                                  have HB5 := hide hB5
                                  clear hB5)
                  all_goals
                    go_wp2_with (go_at_call 44
                                 refine (hfr _).out.mono ?_
                                 rintro en w' ⟨rfl, rfl⟩)
                    go_ret
                    refine ⟨?_, HBV.out.drew.trans (HB5.out.mono HBV.out.size)⟩
                    rw [H92.out]
                    rfl
              · have hob : opB P rs j = (0, 0) := opB_out P hjs
                have hfr : ∀ W', Hid (Calls Try.prog 44 #[.int .i64 (Ins.arg ⟨k, x1, x2, x3, x4⟩ j), .int .i64 0, .int .i64 0] W' fun en w' => en = .returned (.bool (opOk P rs ⟨k, x1, x2, x3, x4⟩ j)) ∧ W' = w') := by
                  intro W'
                  have := from_i W' (Ins.arg ⟨k, x1, x2, x3, x4⟩ j) (opB P rs j).1 (opB P rs j).2
                  rw [show fromV (Ins.arg ⟨k, x1, x2, x3, x4⟩ j) (opB P rs j).1 (opB P rs j).2 = opOk P rs ⟨k, x1, x2, x3, x4⟩ j from rfl, hob] at this
                  exact this
                clear hob
                cases hv : opOk P rs ⟨k, x1, x2, x3, x4⟩ j with
                | true =>
                  simp only [hv] at hfr
                  have HV := hide hv
                  clear hv
                  go_wp2_with (go_at_call 44
                               refine (hfr _).out.mono ?_
                               rintro en w' ⟨rfl, rfl⟩)
                  go_roundw
                  case rel => exact ⟨j + 1, by go_num, by omega, fun m hm => by rcases Nat.lt_succ_iff_lt_or_eq.1 hm with h | rfl; exact HOK.out m h; exact HV.out, HBV.out, HK28.out, HK93.out, HK3.out⟩
                  case measure => simp [intOf]; omega
                | false =>
                  simp only [hv] at hfr
                  have h92 := HI.out hv
                  have H92 := hide h92
                  clear hv h92
                  go_wp2_with (go_at_call 44
                               refine (hfr _).out.mono ?_
                               rintro en w' ⟨rfl, rfl⟩)
                  go_ret
                  refine ⟨?_, HBV.out⟩
                  rw [H92.out]
                  rfl
            · obtain rfl : j = 4 := by omega
              have hgood : insE P ⟨k, x1, x2, x3, x4⟩ = 0 := insE_good HR.out (fun m hm => hok m hm)
              have HG := hide hgood
              clear hok hB hk28 hk93 hk3 hgood
              go_wp2
              go_roundw
              case rel =>
                refine ⟨i + 1, by go_num, by omega, fun y hy => ?_, HBV.out, HK28.out⟩
                rw [List.take_add_one, HX.out] at hy
                rcases List.mem_append.1 hy with h | h
                · exact HA.out y h
                · simp at h
                  subst h
                  exact HG.out
              case measure => simp [intOf]; omega
      · have he : i = P.cd.length := by omega
        have hall2 : insEs P P.cd = 0 := by rw [he, List.take_of_length_le (Nat.le_refl _)] at hall; exact insEs_all hall
        have HA2 := hide hall2
        clear hall hB hk hall2
        go_wp2
        go_ret
        refine ⟨?_, HB.out⟩
        rw [HC.out, HA2.out]
        rfl
end Go.Proofs.Ytjflllfkgbhemaa
