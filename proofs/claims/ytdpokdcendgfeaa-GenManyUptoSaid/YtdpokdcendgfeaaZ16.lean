/- Several texts in one: The walk of KeptInts, where what was lent is as it was. The walk of KeptProgram, where what was lent is as it was. Conditions: those of each. -/
import Derived.Test.YtdpokdcendgfeaaZ14
set_option linter.unusedSimpArgs false
set_option linter.unusedVariables false
set_option maxHeartbeats 40000000
namespace Go.Proofs.Ytdpokdcendgfeaa
open Go.RowKit
theorem lend_mark (l : List Int) {j : Nat} (hj : j < 5) : fAt (lendL l) ((l.length + j : Nat) : Int) = -77 - ((l.length : Int) + (j : Int)) := by
 unfold fAt lendL lendJ
 rw [Int.toNat_natCast, List.getElem?_append_right (by omega), Nat.add_sub_cancel_left]
 simp [hj]
theorem src_blkN {w : World} {g : Nat} {t : TypeId} {cs : List Value} (h : Blk w g t cs.toArray) (n : Nat) {xs : List Value} (hx : ∀ (j : Nat) (v : Value), xs[j]? = some v → cs[j]? = some v) : Src w (some ⟨g, 0, none⟩) n xs := fun _ =>
 ⟨⟨g, 0, none⟩, rfl, h.lt, fun j v hj => by
   have hadd : (⟨g, 0, none⟩ : Addr).add j = ⟨g, j, none⟩ := by unfold Addr.add; split <;> simp_all
   rw [hadd, h.cell]
   simpa using hx j v hj⟩
set_option maxRecDepth 100000 in
theorem keptInts_i (w : World) (g : Nat) (ob : Option Addr) (cb : Nat) (l : List Int) (hg : Blk w g 3 (ints (lendL l)).toArray) (hb : Src w ob l.length (ints l)) (hm : l.length ≤ 2000000) :
   Calls Try.prog 73 #[.slice (some ⟨g, 0, none⟩) l.length (l.length + 5), .slice ob l.length cb] w fun en w' => en = .returned (.bool true) ∧ Only (fun k => k = g) w w' := by
 have ha : Src w (some ⟨g, 0, none⟩) l.length (ints l) := src_blkN hg _ fun j v hj => by
   simp only [ints, List.getElem?_map, Option.map_eq_some_iff] at hj ⊢
   obtain ⟨x, hx, rfl⟩ := hj
   exact ⟨x, get_left hx, rfl⟩
 have HS := hide (sameInts_i w _ ob l.length (l.length + 5) cb l ha hb rfl (by unfold maxLen; omega))
 have HG := hide hg
 clear ha hb hg
 have u1 := IntWalk.i64_in ((l.length : Int) + 5) (by omega)
 generalize hn : l.length = n at *
 have HN := hide hn
 clear hn
 go_enter Try.func73, Try.ntmps73
 go_wp2_with fail
 go_at_call 21
 refine HS.out.mono ?_
 rintro en w1 ⟨rfl, hb1⟩
 have HB1 := hide hb1
 have HG1 := hide (HG.out.below hb1 HG.out.lt)
 clear hb1
 go_wp2_with fail
 go_loopw [5, 7] (fun t5 tx W => ∃ j : Nat, t5 = .bool true ∧ tx = .int .i64 ((n : Int) + (j : Int)) ∧ j ≤ 5 ∧ Below w1.heap.size w1 W) (fun _ tx _ => n + 5 - (intOf tx).toNat)
 case atStart => exact ⟨0, rfl, by simp, by omega, Below.refl _ _⟩
 case round =>
   obtain ⟨j, rfl, rfl, hj, hW⟩ := hrel
   rename World => W
   have hk := HG1.out.below hW HG1.out.lt
   have HW := hide hW
   have HK := hide hk
   clear hW
   have u2 := IntWalk.i64_in ((n : Int) + (j : Int) + 1) (by omega)
   have u3 := IntWalk.i64_in (-77 - ((n : Int) + (j : Int))) (by omega)
   by_cases hlt : j < 5
   · have hlt2 : (n : Int) + (j : Int) < (n : Int) + 5 := by omega
     have hlt3 : n + j < n + 5 := by omega
     have e0 : ((n : Int) + (j : Int)).toNat = n + j := by omega
     have c0 : W.cell? ⟨g, n + j, none⟩ = some (.int .i64 (-77 - ((n : Int) + (j : Int)))) := by
       rw [hk.cell, ints_at (by rw [show (lendL l).length = l.length + 5 from lendJ_len l 5, HN.out]; omega), ← HN.out, lend_mark l hlt]
     clear hk
     go_wp2_with fail
     all_goals try go_quiet (fail)
     all_goals
       go_wp2_with fail
       go_roundw
       case rel => exact ⟨j + 1, rfl, by go_num, by omega, by first | exact HW.out | exact HW.out.drew | exact below_drewN HW.out _⟩
       case measure =>
         simp only [intOf]
         omega
   · have hj5 : j = 5 := by omega
     have hno : ¬ (n : Int) + (j : Int) < (n : Int) + 5 := by omega
     clear hk hj5 hlt hj
     go_wp2_with fail
     have HO : Hid (Only (fun k => k = g) w W) := hide ((Only.of_new HB1.out).trans ((Only.of_new HW.out).mono fun k hk => .inl hk))
     go_loopw [8] (fun tx W => ∃ i : Nat, tx = .int .i64 (i : Int) ∧ i ≤ n + 5 ∧ (∃ f : List Int, f.length = n + 5 ∧ Blk W g 3 (ints f).toArray) ∧ Only (fun k => k = g) w W) (fun tx _ => n + 5 - (intOf tx).toNat)
     case atStart => exact ⟨0, rfl, Nat.zero_le _, ⟨lendL l, by rw [show (lendL l).length = l.length + 5 from lendJ_len l 5, HN.out], HK.out⟩, HO.out⟩
     case round =>
       clear HO HK HW hno
       obtain ⟨i, rfl, hi, ⟨f, hfl, hk⟩, ho⟩ := hrel
       rename World => W
       have HK := hide hk
       have HO := hide ho
       have HFL := hide hfl
       have u4 := IntWalk.i64_in ((i : Int) + 1) (by omega)
       by_cases hlt : i < n + 5
       · have hI : (i : Int) < (n : Int) + 5 := by omega
         have c0 : W.cell? ⟨g, i, none⟩ = some (.int .i64 (fAt f (i : Int))) := by rw [hk.cell]; exact ints_at (by omega)
         have f0 := hk.frozen i
         clear hk ho hfl
         go_wp2_with fail
         go_roundw
         case rel =>
           refine ⟨i + 1, by go_num, by omega, ⟨f.set i 31, by rw [List.length_set]; exact HFL.out, ?_⟩, HO.out.setCell (.inl rfl) _⟩
           have := HK.out.set_ i (.int .i64 31)
           rw [ints_set] at this
           exact this
         case measure =>
           simp only [intOf]
           omega
       · have hno : ¬ (i : Int) < (n : Int) + 5 := by omega
         clear hk ho hfl hlt hi
         go_wp2_with fail
         go_ret
         exact ⟨rfl, HO.out⟩
end Go.Proofs.Ytdpokdcendgfeaa
namespace Go.Proofs.Ytdpokdcendgfeaa
open Go.RowKit
theorem Lent.amem {w : World} {B gg gv gt go gc : Nat} {P : Prg} (h : Lent w B gg gv gt go gc P) (hl : P.gh.length ≤ maxLen ∧ P.vs.length ≤ maxLen ∧ P.ts.length ≤ maxLen ∧ P.os.length ≤ maxLen ∧ P.cd.length ≤ maxLen) : AMem w (lentPV gg gv gt go gc P) P where
 gl := rfl
 vl := rfl
 tl := rfl
 ol := rfl
 cl := rfl
 miss := rfl
 g := src_blkN h.g _ fun j v hj => by
   have e : boolsV (P.gh ++ List.replicate 3 false) = boolsV P.gh ++ boolsV (List.replicate 3 false) := by simp [boolsV]
   rw [e]; exact get_left hj
 v := src_blkN h.v _ fun j v hj => by
   have e : varsV (P.vs ++ markV) = varsV P.vs ++ varsV markV := by simp [varsV]
   rw [e]; exact get_left hj
 t := src_blkN h.t _ fun j v hj => by
   simp only [ints, List.getElem?_map, Option.map_eq_some_iff] at hj ⊢
   obtain ⟨x, hx, rfl⟩ := hj
   exact ⟨x, get_left hx, rfl⟩
 o := src_blkN h.o _ fun j v hj => by
   simp only [ints, List.getElem?_map, Option.map_eq_some_iff] at hj ⊢
   obtain ⟨x, hx, rfl⟩ := hj
   exact ⟨x, get_left hx, rfl⟩
 c := src_blkN h.c _ fun j v hj => by rw [codeV_append]; exact get_left hj
 lens := hl
theorem bools_mark (l : List Bool) (i : Nat) (h : i < l.length + 3) : ∃ b, (l ++ List.replicate 3 false)[i]? = some b ∧ (l.length ≤ i → b = false) := by
 rcases Nat.lt_or_ge i l.length with h1 | h1
 · exact ⟨l[i], by rw [List.getElem?_append_left h1, List.getElem?_eq_getElem h1], fun h2 => by omega⟩
 · refine ⟨false, ?_, fun _ => rfl⟩
   rw [List.getElem?_append_right h1, List.getElem?_replicate, if_pos (by omega)]
theorem marks_at (l : List Ins) (i : Nat) (h1 : l.length ≤ i) (h : i < l.length + 9) : (l ++ marksC l.length)[i]? = some ⟨-9, (i : Int), 0, 0, 0⟩ := by
 rw [List.getElem?_append_right h1]
 unfold marksC
 rw [List.getElem?_map, List.getElem?_range (by omega)]
 simp
 omega
set_option maxRecDepth 100000 in
theorem keptProgram_i (w0 w : World) (B gg gv gt go gc : Nat) (q : PV) (P : Prg) (h : Lent w B gg gv gt go gc P) (hq : AMem w0 q P) (hb : Below w0.heap.size w0 w) (hB : w0.heap.size ≤ B) (hl : P.gh.length ≤ 1048576 ∧ P.vs.length ≤ 1048576 ∧ P.ts.length ≤ 1048576 ∧ P.os.length ≤ 1048576 ∧ P.cd.length ≤ 1048576) :
   Calls Try.prog 45 #[(lentPV gg gv gt go gc P).val, q.val] w fun en w' => en = .returned (.bool true) ∧ Only (fun k => k = gg ∨ k = gv ∨ k = gt ∨ k = go ∨ k = gc) w w' := by
 have hla := h.amem (by unfold maxLen; omega)
 have HQ := hide hq
 have HSP := fun (W : World) (hb1 : Below w.heap.size w W) => hide (sameProgram_i W _ q P (hla.below hb1) ((hq.below hb).below hb1))
 have HLN := hide h
 have HBW := hide hb
 obtain ⟨g1, g2, g3, g4, g5⟩ := h.base
 have HBS : Hid (w0.heap.size ≤ gg ∧ w0.heap.size ≤ gv ∧ w0.heap.size ≤ gt ∧ w0.heap.size ≤ go ∧ w0.heap.size ≤ gc) := hide (by omega)
 have HAP := hide h.apart
 have HWG : Hid (gg < w.heap.size ∧ gv < w.heap.size ∧ gt < w.heap.size ∧ go < w.heap.size ∧ gc < w.heap.size) := hide ⟨h.g.lt, h.v.lt, h.t.lt, h.o.lt, h.c.lt⟩
 clear g1 g2 g3 g4 g5 hla
 obtain ⟨f1, f2, f3, f4, f5, f6, _, _, _, _, _, _⟩ := hq
 obtain ⟨yga, yva, yta, yoa, yca, ygl, ygc, yvl, yvc, ytl, ytc, yol, yoc, ycl, ycc, ymiss⟩ := q
 simp only at f1 f2 f3 f4 f5 f6
 subst f1 f2 f3 f4 f5 f6
 simp only [PV.val, lentPV] at *
 obtain ⟨l1, l2, l3, l4, l5⟩ := hl
 have hB0 : Below w.heap.size w ((w.alloc (.cells #[.slice (some ⟨gg, 0, none⟩) P.gh.length (P.gh.length + 3), .slice (some ⟨gv, 0, none⟩) P.vs.length (P.vs.length + 3), .slice (some ⟨gt, 0, none⟩) P.ts.length (P.ts.length + 5), .slice (some ⟨go, 0, none⟩) P.os.length (P.os.length + 5), .int .i64 P.miss, .slice (some ⟨gc, 0, none⟩) P.cd.length (P.cd.length + 9)] 34)).alloc (.cells #[.slice yga P.gh.length ygc, .slice yva P.vs.length yvc, .slice yta P.ts.length ytc, .slice yoa P.os.length yoc, .int .i64 P.miss, .slice yca P.cd.length ycc] 34)) := ((Below.refl _ w).alloc (Nat.le_refl _) _).alloc (by simp) _
 have HKA := hide ((Blk.new w 34 #[.slice (some ⟨gg, 0, none⟩) P.gh.length (P.gh.length + 3), .slice (some ⟨gv, 0, none⟩) P.vs.length (P.vs.length + 3), .slice (some ⟨gt, 0, none⟩) P.ts.length (P.ts.length + 5), .slice (some ⟨go, 0, none⟩) P.os.length (P.os.length + 5), .int .i64 P.miss, .slice (some ⟨gc, 0, none⟩) P.cd.length (P.cd.length + 9)]).alloc (.cells #[.slice yga P.gh.length ygc, .slice yva P.vs.length yvc, .slice yta P.ts.length ytc, .slice yoa P.os.length yoc, .int .i64 P.miss, .slice yca P.cd.length ycc] 34))
 have HKB : Hid (Blk ((w.alloc (.cells #[.slice (some ⟨gg, 0, none⟩) P.gh.length (P.gh.length + 3), .slice (some ⟨gv, 0, none⟩) P.vs.length (P.vs.length + 3), .slice (some ⟨gt, 0, none⟩) P.ts.length (P.ts.length + 5), .slice (some ⟨go, 0, none⟩) P.os.length (P.os.length + 5), .int .i64 P.miss, .slice (some ⟨gc, 0, none⟩) P.cd.length (P.cd.length + 9)] 34)).alloc (.cells #[.slice yga P.gh.length ygc, .slice yva P.vs.length yvc, .slice yta P.ts.length ytc, .slice yoa P.os.length yoc, .int .i64 P.miss, .slice yca P.cd.length ycc] 34)) (w.heap.size + 1) 34 #[.slice yga P.gh.length ygc, .slice yva P.vs.length yvc, .slice yta P.ts.length ytc, .slice yoa P.os.length yoc, .int .i64 P.miss, .slice yca P.cd.length ycc]) := hide (by
   have := Blk.new (w.alloc (.cells #[.slice (some ⟨gg, 0, none⟩) P.gh.length (P.gh.length + 3), .slice (some ⟨gv, 0, none⟩) P.vs.length (P.vs.length + 3), .slice (some ⟨gt, 0, none⟩) P.ts.length (P.ts.length + 5), .slice (some ⟨go, 0, none⟩) P.os.length (P.os.length + 5), .int .i64 P.miss, .slice (some ⟨gc, 0, none⟩) P.cd.length (P.cd.length + 9)] 34)) 34 #[.slice yga P.gh.length ygc, .slice yva P.vs.length yvc, .slice yta P.ts.length ytc, .slice yoa P.os.length yoc, .int .i64 P.miss, .slice yca P.cd.length ycc]
   simpa using this)
 have HB0 := hide hB0
 clear hB0 h hb hB
 have u1 := IntWalk.i64_in ((P.gh.length : Int) + 3) (by omega)
 have u2 := IntWalk.i64_in ((P.vs.length : Int) + 3) (by omega)
 have u3 := IntWalk.i64_in ((P.cd.length : Int) + 9) (by omega)
 have u4 := IntWalk.i64_in ((P.vs.length : Int) + 1) (by omega)
 go_enter Try.func45, Try.ntmps45
 go_wp2_with fail
 go_at_call 18
 refine (HSP _ HB0.out).out.mono ?_
 rintro en w3 ⟨rfl, hb3⟩
 have ka := HKA.out.below hb3 HKA.out.lt
 have kb := HKB.out.below hb3 HKB.out.lt
 have pa0 : w3.cell? ⟨w.heap.size, 0, none⟩ = some (.slice (some ⟨gg, 0, none⟩) P.gh.length (P.gh.length + 3)) := by rw [(ka).cell]; rfl
 have pa1 : w3.cell? ⟨w.heap.size, 1, none⟩ = some (.slice (some ⟨gv, 0, none⟩) P.vs.length (P.vs.length + 3)) := by rw [(ka).cell]; rfl
 have pa2 : w3.cell? ⟨w.heap.size, 2, none⟩ = some (.slice (some ⟨gt, 0, none⟩) P.ts.length (P.ts.length + 5)) := by rw [(ka).cell]; rfl
 have pa3 : w3.cell? ⟨w.heap.size, 3, none⟩ = some (.slice (some ⟨go, 0, none⟩) P.os.length (P.os.length + 5)) := by rw [(ka).cell]; rfl
 have pa4 : w3.cell? ⟨w.heap.size, 4, none⟩ = some (.int .i64 P.miss) := by rw [(ka).cell]; rfl
 have pa5 : w3.cell? ⟨w.heap.size, 5, none⟩ = some (.slice (some ⟨gc, 0, none⟩) P.cd.length (P.cd.length + 9)) := by rw [(ka).cell]; rfl
 have pb0 : w3.cell? ⟨w.heap.size + 1, 0, none⟩ = some (.slice yga P.gh.length ygc) := by rw [(kb).cell]; rfl
 have pb1 : w3.cell? ⟨w.heap.size + 1, 1, none⟩ = some (.slice yva P.vs.length yvc) := by rw [(kb).cell]; rfl
 have pb2 : w3.cell? ⟨w.heap.size + 1, 2, none⟩ = some (.slice yta P.ts.length ytc) := by rw [(kb).cell]; rfl
 have pb3 : w3.cell? ⟨w.heap.size + 1, 3, none⟩ = some (.slice yoa P.os.length yoc) := by rw [(kb).cell]; rfl
 have pb4 : w3.cell? ⟨w.heap.size + 1, 4, none⟩ = some (.int .i64 P.miss) := by rw [(kb).cell]; rfl
 have pb5 : w3.cell? ⟨w.heap.size + 1, 5, none⟩ = some (.slice yca P.cd.length ycc) := by rw [(kb).cell]; rfl
 have hb03 := HB0.out.trans (hb3.mono HB0.out.size)
 have HL3 := hide (HLN.out.below hb03)
 have HB3 := hide hb03
 have HKA3 := hide ka
 have HKB3 := hide kb
 have HAZ : Hid (w.heap.size + 2 ≤ w3.heap.size) := hide (by have := hb3.size; simp at this; omega)
 clear ka kb hb3 hb03
 go_wp2_with fail
 have hk1 := keptInts_i w3 gt yta ytc P.ts HL3.out.t (HQ.out.t.below (HBW.out.trans (HB3.out.mono HBW.out.size))) (by omega)
 have HK1 := hide hk1
 clear hk1
 go_at_call 73
 refine HK1.out.mono ?_
 rintro en w4 ⟨rfl, ho4⟩
 have HO4 : Hid (Only (fun k => k = gg ∨ k = gv ∨ k = gt ∨ k = go ∨ k = gc) w w4) := hide ((Only.of_new HB3.out).trans (ho4.mono fun k hk => .inl (.inr (.inr (.inl hk)))))
 have hne1 : gt ≠ w.heap.size := by have := HWG.out; omega
 have hne2 : gt ≠ w.heap.size + 1 := by have := HWG.out; omega
 have ka := HKA3.out.only ho4 (fun e => hne1 e.symm)
 have kb := HKB3.out.only ho4 (fun e => hne2 e.symm)
 have HG4 := hide (HL3.out.g.only ho4 (HL3.out.g.ne_ HL3.out.t (by decide)))
 have HV4 := hide (HL3.out.v.only ho4 (HL3.out.v.ne_ HL3.out.t (by decide)))
 have HOO4 := hide (HL3.out.o.only ho4 (fun e => HAP.out e.symm))
 have HC4 := hide (HL3.out.c.only ho4 (HL3.out.c.ne_ HL3.out.t (by decide)))
 have hbq4 : Below w0.heap.size w0 w4 := (HBW.out.trans (HB3.out.mono HBW.out.size)).trans (ho4.below (fun k hk => by rw [hk]; exact HBS.out.2.2.1) (by have := HBW.out.size; have := HB3.out.size; omega))
 have HBQ4 := hide hbq4
 clear pa0 pb0 pa1 pb1 pa2 pb2 pa3 pb3 pa4 pb4 pa5 pb5
 have qa0 : w4.cell? ⟨w.heap.size, 0, none⟩ = some (.slice (some ⟨gg, 0, none⟩) P.gh.length (P.gh.length + 3)) := by rw [(ka).cell]; rfl
 have qa1 : w4.cell? ⟨w.heap.size, 1, none⟩ = some (.slice (some ⟨gv, 0, none⟩) P.vs.length (P.vs.length + 3)) := by rw [(ka).cell]; rfl
 have qa2 : w4.cell? ⟨w.heap.size, 2, none⟩ = some (.slice (some ⟨gt, 0, none⟩) P.ts.length (P.ts.length + 5)) := by rw [(ka).cell]; rfl
 have qa3 : w4.cell? ⟨w.heap.size, 3, none⟩ = some (.slice (some ⟨go, 0, none⟩) P.os.length (P.os.length + 5)) := by rw [(ka).cell]; rfl
 have qa4 : w4.cell? ⟨w.heap.size, 4, none⟩ = some (.int .i64 P.miss) := by rw [(ka).cell]; rfl
 have qa5 : w4.cell? ⟨w.heap.size, 5, none⟩ = some (.slice (some ⟨gc, 0, none⟩) P.cd.length (P.cd.length + 9)) := by rw [(ka).cell]; rfl
 have qb0 : w4.cell? ⟨w.heap.size + 1, 0, none⟩ = some (.slice yga P.gh.length ygc) := by rw [(kb).cell]; rfl
 have qb1 : w4.cell? ⟨w.heap.size + 1, 1, none⟩ = some (.slice yva P.vs.length yvc) := by rw [(kb).cell]; rfl
 have qb2 : w4.cell? ⟨w.heap.size + 1, 2, none⟩ = some (.slice yta P.ts.length ytc) := by rw [(kb).cell]; rfl
 have qb3 : w4.cell? ⟨w.heap.size + 1, 3, none⟩ = some (.slice yoa P.os.length yoc) := by rw [(kb).cell]; rfl
 have qb4 : w4.cell? ⟨w.heap.size + 1, 4, none⟩ = some (.int .i64 P.miss) := by rw [(kb).cell]; rfl
 have qb5 : w4.cell? ⟨w.heap.size + 1, 5, none⟩ = some (.slice yca P.cd.length ycc) := by rw [(kb).cell]; rfl
 have HKA4 := hide ka
 have HKB4 := hide kb
 have HZ4 : Hid (w.heap.size + 2 ≤ w4.heap.size) := hide (by have := ho4.size; have := HAZ.out; omega)
 clear ka kb ho4 hbq4 hne1 hne2
 have hk2 := keptInts_i w4 go yoa yoc P.os HOO4.out (HQ.out.o.below HBQ4.out) (by omega)
 have HK2 := hide hk2
 clear hk2
 go_wp2_with fail
 go_at_call 73
 refine HK2.out.mono ?_
 rintro en w5 ⟨rfl, ho5⟩
 have HO5 : Hid (Only (fun k => k = gg ∨ k = gv ∨ k = gt ∨ k = go ∨ k = gc) w w5) := hide (HO4.out.trans (ho5.mono fun k hk => .inl (.inr (.inr (.inr (.inl hk))))))
 have hne1 : go ≠ w.heap.size := by have := HWG.out; omega
 have hne2 : go ≠ w.heap.size + 1 := by have := HWG.out; omega
 have ka := HKA4.out.only ho5 (fun e => hne1 e.symm)
 have kb := HKB4.out.only ho5 (fun e => hne2 e.symm)
 have HG5 := hide (HG4.out.only ho5 (HG4.out.ne_ HOO4.out (by decide)))
 have HV5 := hide (HV4.out.only ho5 (HV4.out.ne_ HOO4.out (by decide)))
 have HC5 := hide (HC4.out.only ho5 (HC4.out.ne_ HOO4.out (by decide)))
 clear qa0 qb0 qa1 qb1 qa2 qb2 qa3 qb3 qa4 qb4 qa5 qb5
 have ra0 : w5.cell? ⟨w.heap.size, 0, none⟩ = some (.slice (some ⟨gg, 0, none⟩) P.gh.length (P.gh.length + 3)) := by rw [(ka).cell]; rfl
 have ra1 : w5.cell? ⟨w.heap.size, 1, none⟩ = some (.slice (some ⟨gv, 0, none⟩) P.vs.length (P.vs.length + 3)) := by rw [(ka).cell]; rfl
 have ra2 : w5.cell? ⟨w.heap.size, 2, none⟩ = some (.slice (some ⟨gt, 0, none⟩) P.ts.length (P.ts.length + 5)) := by rw [(ka).cell]; rfl
 have ra3 : w5.cell? ⟨w.heap.size, 3, none⟩ = some (.slice (some ⟨go, 0, none⟩) P.os.length (P.os.length + 5)) := by rw [(ka).cell]; rfl
 have ra4 : w5.cell? ⟨w.heap.size, 4, none⟩ = some (.int .i64 P.miss) := by rw [(ka).cell]; rfl
 have ra5 : w5.cell? ⟨w.heap.size, 5, none⟩ = some (.slice (some ⟨gc, 0, none⟩) P.cd.length (P.cd.length + 9)) := by rw [(ka).cell]; rfl
 have rb0 : w5.cell? ⟨w.heap.size + 1, 0, none⟩ = some (.slice yga P.gh.length ygc) := by rw [(kb).cell]; rfl
 have rb1 : w5.cell? ⟨w.heap.size + 1, 1, none⟩ = some (.slice yva P.vs.length yvc) := by rw [(kb).cell]; rfl
 have rb2 : w5.cell? ⟨w.heap.size + 1, 2, none⟩ = some (.slice yta P.ts.length ytc) := by rw [(kb).cell]; rfl
 have rb3 : w5.cell? ⟨w.heap.size + 1, 3, none⟩ = some (.slice yoa P.os.length yoc) := by rw [(kb).cell]; rfl
 have rb4 : w5.cell? ⟨w.heap.size + 1, 4, none⟩ = some (.int .i64 P.miss) := by rw [(kb).cell]; rfl
 have rb5 : w5.cell? ⟨w.heap.size + 1, 5, none⟩ = some (.slice yca P.cd.length ycc) := by rw [(kb).cell]; rfl
 have HKA5 := hide ka
 have HKB5 := hide kb
 clear ka kb ho5 hne1 hne2
 go_wp2_with fail
 go_loopw [5, 7] (fun t5 tx W => ∃ (i : Nat) (cs : Array Value), t5 = .bool true ∧ tx = .int .i64 (i : Int) ∧ i ≤ P.gh.length + 3 ∧ Blk W gg 4 cs ∧ cs.size = P.gh.length + 3 ∧ (∀ j, i ≤ j → cs[j]? = (boolsV (P.gh ++ List.replicate 3 false)).toArray[j]?) ∧ Only (fun k => k = gg) w5 W) (fun _ tx _ => P.gh.length + 3 - (intOf tx).toNat)
 case atStart => exact ⟨0, _, rfl, rfl, Nat.zero_le _, HG5.out, by simp [boolsV], fun _ _ => rfl, Only.refl _ _⟩
 case round =>
   clear ra0 rb0 ra1 rb1 ra2 rb2 ra3 rb3 ra4 rb4 ra5 rb5
   obtain ⟨i, cs, rfl, rfl, hi, hk, hsz, hcs, ho⟩ := hrel
   rename World => W
   have hna : ¬ w.heap.size = gg := by have := HWG.out; omega
   have hnb : ¬ w.heap.size + 1 = gg := by have := HWG.out; omega
   have ka := HKA5.out.only ho hna
   have kb := HKB5.out.only ho hnb
   have sa0 : W.cell? ⟨w.heap.size, 0, none⟩ = some (.slice (some ⟨gg, 0, none⟩) P.gh.length (P.gh.length + 3)) := by rw [(ka).cell]; rfl
   have sa1 : W.cell? ⟨w.heap.size, 1, none⟩ = some (.slice (some ⟨gv, 0, none⟩) P.vs.length (P.vs.length + 3)) := by rw [(ka).cell]; rfl
   have sa2 : W.cell? ⟨w.heap.size, 2, none⟩ = some (.slice (some ⟨gt, 0, none⟩) P.ts.length (P.ts.length + 5)) := by rw [(ka).cell]; rfl
   have sa3 : W.cell? ⟨w.heap.size, 3, none⟩ = some (.slice (some ⟨go, 0, none⟩) P.os.length (P.os.length + 5)) := by rw [(ka).cell]; rfl
   have sa4 : W.cell? ⟨w.heap.size, 4, none⟩ = some (.int .i64 P.miss) := by rw [(ka).cell]; rfl
   have sa5 : W.cell? ⟨w.heap.size, 5, none⟩ = some (.slice (some ⟨gc, 0, none⟩) P.cd.length (P.cd.length + 9)) := by rw [(ka).cell]; rfl
   have sb0 : W.cell? ⟨w.heap.size + 1, 0, none⟩ = some (.slice yga P.gh.length ygc) := by rw [(kb).cell]; rfl
   have sb1 : W.cell? ⟨w.heap.size + 1, 1, none⟩ = some (.slice yva P.vs.length yvc) := by rw [(kb).cell]; rfl
   have sb2 : W.cell? ⟨w.heap.size + 1, 2, none⟩ = some (.slice yta P.ts.length ytc) := by rw [(kb).cell]; rfl
   have sb3 : W.cell? ⟨w.heap.size + 1, 3, none⟩ = some (.slice yoa P.os.length yoc) := by rw [(kb).cell]; rfl
   have sb4 : W.cell? ⟨w.heap.size + 1, 4, none⟩ = some (.int .i64 P.miss) := by rw [(kb).cell]; rfl
   have sb5 : W.cell? ⟨w.heap.size + 1, 5, none⟩ = some (.slice yca P.cd.length ycc) := by rw [(kb).cell]; rfl
   have HK := hide hk
   have HO := hide ho
   have HCS := hide hcs
   have HSZ := hide hsz
   have u5 := IntWalk.i64_in ((i : Int) + 1) (by omega)
   clear ka kb ho
   by_cases hlt : i < P.gh.length + 3
   · obtain ⟨b, hb1, hb2⟩ := bools_mark P.gh i hlt
     have hI : (i : Int) < (P.gh.length : Int) + 3 := by omega
     have c0 : W.cell? ⟨gg, i, none⟩ = some (.bool b) := by rw [hk.cell, hcs i (Nat.le_refl _)]; simp only [boolsV, List.getElem?_toArray, List.getElem?_map, hb1, Option.map_some]
     have f0 := hk.frozen i
     clear hk hsz hcs hb1
     by_cases hg : i < P.gh.length
     · have hgI : (i : Int) < (P.gh.length : Int) := by omega
       clear hb2
       go_wp2_with fail
       all_goals try go_quiet (fail)
       all_goals
         go_wp2_with fail
         go_roundw
         case rel =>
           refine ⟨i + 1, _, rfl, by go_num, by omega, HK.out.set_ i _, by rw [Array.size_setIfInBounds]; exact HSZ.out, fun j hj => ?_, HO.out.setCell (.inl rfl) _⟩
           rw [Array.getElem?_setIfInBounds_ne (by omega)]
           exact HCS.out j (by omega)
         case measure =>
           simp only [intOf]
           omega
     · have hgI : ¬ (i : Int) < (P.gh.length : Int) := by omega
       obtain rfl := hb2 (by omega)
       clear hb2
       go_wp2_with fail
       all_goals try go_quiet (fail)
       all_goals
         go_wp2_with fail
         go_roundw
         case rel =>
           refine ⟨i + 1, _, rfl, by go_num, by omega, HK.out.set_ i _, by rw [Array.size_setIfInBounds]; exact HSZ.out, fun j hj => ?_, HO.out.setCell (.inl rfl) _⟩
           rw [Array.getElem?_setIfInBounds_ne (by omega)]
           exact HCS.out j (by omega)
         case measure =>
           simp only [intOf]
           omega
   · have hno : ¬ (i : Int) < (P.gh.length : Int) + 3 := by omega
     have HV6 := hide (HV5.out.only HO.out (HV5.out.ne_ HG5.out (by decide)))
     have HC6 := hide (HC5.out.only HO.out (HC5.out.ne_ HG5.out (by decide)))
     have HKA6 := hide (HKA5.out.only HO.out hna)
     have HKB6 := hide (HKB5.out.only HO.out hnb)
     have HO6 : Hid (Only (fun k => k = gg ∨ k = gv ∨ k = gt ∨ k = go ∨ k = gc) w W) := hide (HO5.out.trans (HO.out.mono fun k hk => .inl (.inl hk)))
     have hv6 := HV6.out
     have m0 : W.cell? ⟨gv, P.vs.length * 3, none⟩ = some (.int .i64 91) := by
       rw [hv6.cell]
       have e : varsV (P.vs ++ markV) = varsV P.vs ++ varsV markV := by simp [varsV]
       have e2 : P.vs.length * 3 = (varsV P.vs).length + 0 := by have := varsV_len P.vs; omega
       rw [e2, e, List.getElem?_toArray, List.getElem?_append_right (by omega), Nat.add_sub_cancel_left]
       rfl
     have m1 : W.cell? ⟨gv, P.vs.length * 3 + 1, none⟩ = some (.int .i64 0) := by
       rw [hv6.cell]
       have e : varsV (P.vs ++ markV) = varsV P.vs ++ varsV markV := by simp [varsV]
       have e2 : P.vs.length * 3 + 1 = (varsV P.vs).length + 1 := by have := varsV_len P.vs; omega
       rw [e2, e, List.getElem?_toArray, List.getElem?_append_right (by omega), Nat.add_sub_cancel_left]
       rfl
     have m2 : W.cell? ⟨gv, P.vs.length * 3 + 2, none⟩ = some (.int .i64 0) := by
       rw [hv6.cell]
       have e : varsV (P.vs ++ markV) = varsV P.vs ++ varsV markV := by simp [varsV]
       have e2 : P.vs.length * 3 + 2 = (varsV P.vs).length + 2 := by have := varsV_len P.vs; omega
       rw [e2, e, List.getElem?_toArray, List.getElem?_append_right (by omega), Nat.add_sub_cancel_left]
       rfl
     have m3 : W.cell? ⟨gv, (P.vs.length + 1) * 3, none⟩ = some (.int .i64 0) := by
       rw [hv6.cell]
       have e : varsV (P.vs ++ markV) = varsV P.vs ++ varsV markV := by simp [varsV]
       have e2 : (P.vs.length + 1) * 3 = (varsV P.vs).length + 3 := by have := varsV_len P.vs; omega
       rw [e2, e, List.getElem?_toArray, List.getElem?_append_right (by omega), Nat.add_sub_cancel_left]
       rfl
     have m4 : W.cell? ⟨gv, (P.vs.length + 1) * 3 + 1, none⟩ = some (.int .i64 0) := by
       rw [hv6.cell]
       have e : varsV (P.vs ++ markV) = varsV P.vs ++ varsV markV := by simp [varsV]
       have e2 : (P.vs.length + 1) * 3 + 1 = (varsV P.vs).length + 4 := by have := varsV_len P.vs; omega
       rw [e2, e, List.getElem?_toArray, List.getElem?_append_right (by omega), Nat.add_sub_cancel_left]
       rfl
     have m5 : W.cell? ⟨gv, (P.vs.length + 1) * 3 + 2, none⟩ = some (.int .i64 0) := by
       rw [hv6.cell]
       have e : varsV (P.vs ++ markV) = varsV P.vs ++ varsV markV := by simp [varsV]
       have e2 : (P.vs.length + 1) * 3 + 2 = (varsV P.vs).length + 5 := by have := varsV_len P.vs; omega
       rw [e2, e, List.getElem?_toArray, List.getElem?_append_right (by omega), Nat.add_sub_cancel_left]
       rfl
     clear hv6 hk hsz hcs hlt hi
     go_wp2_with fail
     all_goals try go_quiet (fail)
     all_goals try go_wp2_with fail
     have hWz := HO6.out.size
     have HWZ := hide hWz
     clear hWz m0 m1 m2 m3 m4 m5
     go_loopw [9] (fun tx W => ∃ (i : Nat) (cs : Array Value), tx = .int .i64 (i : Int) ∧ i ≤ P.vs.length + 3 ∧ Blk W gv 51 cs ∧ cs.size = (P.vs.length + 3) * 3 ∧ Only (fun k => k = gg ∨ k = gv ∨ k = gt ∨ k = go ∨ k = gc) w W ∧ Blk W gc 56 (codeV (P.cd ++ marksC P.cd.length)).toArray ∧ Blk W w.heap.size 34 #[.slice (some ⟨gg, 0, none⟩) P.gh.length (P.gh.length + 3), .slice (some ⟨gv, 0, none⟩) P.vs.length (P.vs.length + 3), .slice (some ⟨gt, 0, none⟩) P.ts.length (P.ts.length + 5), .slice (some ⟨go, 0, none⟩) P.os.length (P.os.length + 5), .int .i64 P.miss, .slice (some ⟨gc, 0, none⟩) P.cd.length (P.cd.length + 9)] ∧ Blk W (w.heap.size + 1) 34 #[.slice yga P.gh.length ygc, .slice yva P.vs.length yvc, .slice yta P.ts.length ytc, .slice yoa P.os.length yoc, .int .i64 P.miss, .slice yca P.cd.length ycc]) (fun tx _ => P.vs.length + 3 - (intOf tx).toNat)
     case atStart => exact ⟨0, _, rfl, Nat.zero_le _, HV6.out, by rw [List.size_toArray, varsV_len]; simp [markV], HO6.out, HC6.out, HKA6.out, HKB6.out⟩
     case round =>
       clear sa0 sb0 sa1 sb1 sa2 sb2 sa3 sb3 sa4 sb4 sa5 sb5 hno
       obtain ⟨i, cs, rfl, hi, hk, hsz, ho, hc, ka, kb⟩ := hrel
       rename World => W
       have HK := hide hk
       have HO := hide ho
       have HC := hide hc
       have HSZ := hide hsz
       have HKA7 := hide ka
       have HKB7 := hide kb
       have u6 := IntWalk.i64_in ((i : Int) + 1) (by omega)
       by_cases hlt : i < P.vs.length + 3
       · have hI : (i : Int) < (P.vs.length : Int) + 3 := by omega
         obtain ⟨v0, hv0⟩ : ∃ v, cs[i * 3]? = some v := ⟨_, Array.getElem?_eq_getElem (by omega)⟩
         obtain ⟨v1, hv1⟩ : ∃ v, cs[i * 3 + 1]? = some v := ⟨_, Array.getElem?_eq_getElem (by omega)⟩
         obtain ⟨v2, hv2⟩ : ∃ v, cs[i * 3 + 2]? = some v := ⟨_, Array.getElem?_eq_getElem (by omega)⟩
         have c0 : W.cell? ⟨gv, i * 3, none⟩ = some v0 := by rw [hk.cell]; exact hv0
         have c1 : W.cell? ⟨gv, i * 3 + 1, none⟩ = some v1 := by rw [hk.cell]; exact hv1
         have c2 : W.cell? ⟨gv, i * 3 + 2, none⟩ = some v2 := by rw [hk.cell]; exact hv2
         have f0 := hk.frozen (i * 3)
         have f1 := hk.frozen (i * 3 + 1)
         have f2 := hk.frozen (i * 3 + 2)
         clear hk hsz ho hc ka kb hv0 hv1 hv2
         go_wp2_with fail
         go_roundw
         case rel =>
           have hx1 := HC.out.ne_ HK.out (by decide)
           have hx2 := HKA7.out.ne_ HK.out (by decide)
           have hx3 := HKB7.out.ne_ HK.out (by decide)
           exact ⟨i + 1, _, by go_num, by omega, ((HK.out.set_ _ _).set_ _ _).set_ _ _, by rw [Array.size_setIfInBounds, Array.size_setIfInBounds, Array.size_setIfInBounds]; exact HSZ.out, ((HO.out.setCell (.inl (.inr (.inl rfl))) _).setCell (.inl (.inr (.inl rfl))) _).setCell (.inl (.inr (.inl rfl))) _, ((HC.out.far (p := ⟨gv, i * 3, none⟩) hx1 _).far (p := ⟨gv, i * 3 + 1, none⟩) hx1 _).far (p := ⟨gv, i * 3 + 2, none⟩) hx1 _, ((HKA7.out.far (p := ⟨gv, i * 3, none⟩) hx2 _).far (p := ⟨gv, i * 3 + 1, none⟩) hx2 _).far (p := ⟨gv, i * 3 + 2, none⟩) hx2 _, ((HKB7.out.far (p := ⟨gv, i * 3, none⟩) hx3 _).far (p := ⟨gv, i * 3 + 1, none⟩) hx3 _).far (p := ⟨gv, i * 3 + 2, none⟩) hx3 _⟩
         case measure =>
           simp only [intOf]
           omega
       · have hno : ¬ (i : Int) < (P.vs.length : Int) + 3 := by omega
         have ta5 : W.cell? ⟨w.heap.size, 5, none⟩ = some (.slice (some ⟨gc, 0, none⟩) P.cd.length (P.cd.length + 9)) := by rw [ka.cell]; rfl
         have tb5 : W.cell? ⟨w.heap.size + 1, 5, none⟩ = some (.slice yca P.cd.length ycc) := by rw [kb.cell]; rfl
         clear hk hsz ho hc ka kb hlt hi
         go_wp2_with fail
         go_loopw [5, 11] (fun t5 tx W => ∃ (i : Nat) (cs : Array Value), t5 = .bool true ∧ tx = .int .i64 (i : Int) ∧ i ≤ P.cd.length + 9 ∧ Blk W gc 56 cs ∧ cs.size = (P.cd.length + 9) * 5 ∧ (∀ j, i * 5 ≤ j → cs[j]? = (codeV (P.cd ++ marksC P.cd.length)).toArray[j]?) ∧ Only (fun k => k = gg ∨ k = gv ∨ k = gt ∨ k = go ∨ k = gc) w W ∧ Blk W (w.heap.size + 1) 34 #[.slice yga P.gh.length ygc, .slice yva P.vs.length yvc, .slice yta P.ts.length ytc, .slice yoa P.os.length yoc, .int .i64 P.miss, .slice yca P.cd.length ycc]) (fun _ tx _ => P.cd.length + 9 - (intOf tx).toNat)
         case atStart => exact ⟨0, _, rfl, rfl, Nat.zero_le _, HC.out, by rw [List.size_toArray, codeV_len]; simp [marksC], fun _ _ => rfl, HO.out, HKB7.out⟩
         case round =>
           clear ta5 tb5 hno
           obtain ⟨i, cs, rfl, rfl, hi, hk, hsz, hcs, ho, kb⟩ := hrel
           rename World => W
           have HK := hide hk
           have HO := hide ho
           have HCS := hide hcs
           have HSZ := hide hsz
           have HKB8 := hide kb
           have tb5 : W.cell? ⟨w.heap.size + 1, 5, none⟩ = some (.slice yca P.cd.length ycc) := by rw [kb.cell]; rfl
           have u7 := IntWalk.i64_in ((i : Int) + 1) (by omega)
           by_cases hlt : i < P.cd.length + 9
           · have hI : (i : Int) < (P.cd.length : Int) + 9 := by omega
             have f0 := hk.frozen (i * 5)
             have f1 := hk.frozen (i * 5 + 1)
             have f2 := hk.frozen (i * 5 + 2)
             have f3 := hk.frozen (i * 5 + 3)
             have f4 := hk.frozen (i * 5 + 4)
             by_cases hg : i < P.cd.length
             · have hgI : (i : Int) < (P.cd.length : Int) := by omega
               obtain ⟨v0, hv0⟩ : ∃ v, cs[i * 5]? = some v := ⟨_, Array.getElem?_eq_getElem (by omega)⟩
               obtain ⟨v1, hv1⟩ : ∃ v, cs[i * 5 + 1]? = some v := ⟨_, Array.getElem?_eq_getElem (by omega)⟩
               obtain ⟨v2, hv2⟩ : ∃ v, cs[i * 5 + 2]? = some v := ⟨_, Array.getElem?_eq_getElem (by omega)⟩
               obtain ⟨v3, hv3⟩ : ∃ v, cs[i * 5 + 3]? = some v := ⟨_, Array.getElem?_eq_getElem (by omega)⟩
               obtain ⟨v4, hv4⟩ : ∃ v, cs[i * 5 + 4]? = some v := ⟨_, Array.getElem?_eq_getElem (by omega)⟩
               have c0 : W.cell? ⟨gc, i * 5, none⟩ = some v0 := by rw [hk.cell]; exact hv0
               have c1 : W.cell? ⟨gc, i * 5 + 1, none⟩ = some v1 := by rw [hk.cell]; exact hv1
               have c2 : W.cell? ⟨gc, i * 5 + 2, none⟩ = some v2 := by rw [hk.cell]; exact hv2
               have c3 : W.cell? ⟨gc, i * 5 + 3, none⟩ = some v3 := by rw [hk.cell]; exact hv3
               have c4 : W.cell? ⟨gc, i * 5 + 4, none⟩ = some v4 := by rw [hk.cell]; exact hv4
               clear hk hsz hcs ho kb hv0 hv1 hv2 hv3 hv4
               go_wp2_with fail
               all_goals try go_quiet (fail)
               all_goals
                 go_wp2_with fail
                 go_roundw
                 case rel =>
                   have hx3 := HKB8.out.ne_ HK.out (by decide)
                   refine ⟨i + 1, _, rfl, by go_num, by omega, ((((HK.out.set_ _ _).set_ _ _).set_ _ _).set_ _ _).set_ _ _, by rw [Array.size_setIfInBounds, Array.size_setIfInBounds, Array.size_setIfInBounds, Array.size_setIfInBounds, Array.size_setIfInBounds]; exact HSZ.out, fun j hj => ?_, ((((HO.out.setCell (.inl (.inr (.inr (.inr (.inr rfl))))) _).setCell (.inl (.inr (.inr (.inr (.inr rfl))))) _).setCell (.inl (.inr (.inr (.inr (.inr rfl))))) _).setCell (.inl (.inr (.inr (.inr (.inr rfl))))) _).setCell (.inl (.inr (.inr (.inr (.inr rfl))))) _, ((((HKB8.out.far (p := ⟨gc, i * 5, none⟩) hx3 _).far (p := ⟨gc, i * 5 + 1, none⟩) hx3 _).far (p := ⟨gc, i * 5 + 2, none⟩) hx3 _).far (p := ⟨gc, i * 5 + 3, none⟩) hx3 _).far (p := ⟨gc, i * 5 + 4, none⟩) hx3 _⟩
                   rw [Array.getElem?_setIfInBounds_ne (by omega), Array.getElem?_setIfInBounds_ne (by omega), Array.getElem?_setIfInBounds_ne (by omega), Array.getElem?_setIfInBounds_ne (by omega), Array.getElem?_setIfInBounds_ne (by omega)]
                   exact HCS.out j (by omega)
                 case measure =>
                   simp only [intOf]
                   omega
             · have hgI : ¬ (i : Int) < (P.cd.length : Int) := by omega
               obtain ⟨y0, y1, y2, y3, y4⟩ := codeV_get (marks_at P.cd i (by omega) hlt)
               simp only at y0 y1 y2 y3 y4
               have c0 : W.cell? ⟨gc, i * 5, none⟩ = some (.int .i64 (-9)) := by rw [hk.cell, hcs _ (by omega)]; simpa using y0
               have c1 : W.cell? ⟨gc, i * 5 + 1, none⟩ = some (.int .i64 (i : Int)) := by rw [hk.cell, hcs _ (by omega)]; simpa using y1
               have c2 : W.cell? ⟨gc, i * 5 + 2, none⟩ = some (.int .i64 0) := by rw [hk.cell, hcs _ (by omega)]; simpa using y2
               have c3 : W.cell? ⟨gc, i * 5 + 3, none⟩ = some (.int .i64 0) := by rw [hk.cell, hcs _ (by omega)]; simpa using y3
               have c4 : W.cell? ⟨gc, i * 5 + 4, none⟩ = some (.int .i64 0) := by rw [hk.cell, hcs _ (by omega)]; simpa using y4
               clear hk hsz hcs ho kb y0 y1 y2 y3 y4
               go_wp2_with fail
               all_goals try go_quiet (fail)
               all_goals
                 go_wp2_with fail
                 go_roundw
                 case rel =>
                   have hx3 := HKB8.out.ne_ HK.out (by decide)
                   refine ⟨i + 1, _, rfl, by go_num, by omega, ((((HK.out.set_ _ _).set_ _ _).set_ _ _).set_ _ _).set_ _ _, by rw [Array.size_setIfInBounds, Array.size_setIfInBounds, Array.size_setIfInBounds, Array.size_setIfInBounds, Array.size_setIfInBounds]; exact HSZ.out, fun j hj => ?_, ((((HO.out.setCell (.inl (.inr (.inr (.inr (.inr rfl))))) _).setCell (.inl (.inr (.inr (.inr (.inr rfl))))) _).setCell (.inl (.inr (.inr (.inr (.inr rfl))))) _).setCell (.inl (.inr (.inr (.inr (.inr rfl))))) _).setCell (.inl (.inr (.inr (.inr (.inr rfl))))) _, ((((HKB8.out.far (p := ⟨gc, i * 5, none⟩) hx3 _).far (p := ⟨gc, i * 5 + 1, none⟩) hx3 _).far (p := ⟨gc, i * 5 + 2, none⟩) hx3 _).far (p := ⟨gc, i * 5 + 3, none⟩) hx3 _).far (p := ⟨gc, i * 5 + 4, none⟩) hx3 _⟩
                   rw [Array.getElem?_setIfInBounds_ne (by omega), Array.getElem?_setIfInBounds_ne (by omega), Array.getElem?_setIfInBounds_ne (by omega), Array.getElem?_setIfInBounds_ne (by omega), Array.getElem?_setIfInBounds_ne (by omega)]
                   exact HCS.out j (by omega)
                 case measure =>
                   simp only [intOf]
                   omega
           · have hno : ¬ (i : Int) < (P.cd.length : Int) + 9 := by omega
             clear hk hsz hcs ho kb hlt hi
             go_wp2_with fail
             go_ret
             exact ⟨rfl, HO.out⟩
end Go.Proofs.Ytdpokdcendgfeaa
