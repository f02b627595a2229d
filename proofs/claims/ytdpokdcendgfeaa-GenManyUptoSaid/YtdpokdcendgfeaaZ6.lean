/- Several texts in one: The walk of gen.made's closure: an event's code, laid behind the program's. The walk of gen.made's closure on an event without rows. gen.made's closure on any event that is right; what made's loop keeps. Conditions: those of each. -/
import Derived.Test.YtdpokdcendgfeaaZ5
import Derived.Test.YtdpokdcendgfeaaZ2
set_option linter.unusedSimpArgs false
set_option linter.unusedVariables false
set_option maxHeartbeats 40000000
namespace Go.Proofs.Ytdpokdcendgfeaa
open Go.RowKit
attribute [local go_sem] par parUpon
section
variable {P : Pl} {W : World} {B ob eb rb : Nat} {g vv t : Value} {ms : Int} {v : Ov} {on : List Int} {cd : List In} {ev rw : List Int} {l : List Ac} {ad : Addr} {cap : Nat}
set_option maxRecDepth 100000 in
theorem mk_some (h : Om W B ob eb rb g vv t ms v on cd ev rw) (n : Int) (hs : Src W (some ad) l.length (acs l)) (h0 : 0 < l.length) (hw : Wf P l (l.length + 2) 1 0 l.length) (hl : l.length ≤ 131072) (hb : cd.length + (evC l).length ≤ 1048576) (hev : ev.length = cd.length) (hrw : rw.length = cd.length) :
   Calls Try.prog 69 #[.int .i64 n, .slice (some ad) l.length cap, .pointer (some ⟨ob, 0, none⟩), .pointer (some ⟨eb, 0, none⟩), .pointer (some ⟨rb, 0, none⟩)] W fun en w' => en = .returned (.int .i64 (cd.length : Int)) ∧ ∃ v' : Ov, v'.o = v.o ∧ Om w' B ob eb rb g vv t ms v' on (cd ++ finL cd.length l) (ev ++ List.replicate (evC l).length n) (rw ++ cdR (evC l)) ∧ Oto W w' ob eb rb v v' := by
 have HO := hide h
 have HEN := hide (ends_i W ad cap l hs (by omega) h0 (fun i hi => rowOk_all hw i hi))
 have HS := hide hs
 have hel := ev_le hw
 have HW := hide hw
 have hl0 : ((l.length : Int) == 0) = false := beq_eq_false_iff_ne.2 (by omega)
 have hl1 : ¬ (l.length : Int) = 0 := by omega
 clear h hs hw
 go_enter Try.func69, Try.ntmps69
 go_upto_region 4 with (go_at_call 70
                        refine HEN.out.mono ?_
                        rintro en w2 ⟨rfl, he2, hb2⟩
                        have HE2 := hide he2
                        have HB2 := hide hb2
                        clear he2 hb2)
 have HGW := hide (gw_new (ca := cap) HS.out h0 HE2.out HB2.out)
 have HBN := hide ((Below.refl w2.heap.size w2).alloc (Nat.le_refl _) (.cells (gcells l ad cap W.heap.size nilV4) 119))
 simp only [gcells, nilV4] at HBN
 have HEV := hide (event_i (P := P) HGW.out HW.out (by omega) (by omega))
 simp only [gcells, nilV4] at HEV HGW
 generalize w2.alloc (.cells #[.slice (some ad) l.length cap, .slice (some ⟨W.heap.size, 0, none⟩) l.length l.length, .slice none 0 0, .slice none 0 0, .slice none 0 0, .slice none 0 0] 119) = W1 at HBN HGW HEV
 go_upto_region 5 with (go_at_call 71
                        refine HEV.out.mono ?_
                        rintro en w3 ⟨rfl, v', lt', hg3, hb3⟩
                        have HG3 := hide hg3
                        have HB3 := hide hb3
                        clear hg3 hb3)
 have hsz2 := HB2.out.size
 have hsz3 := HB3.out.size
 have hszn := HBN.out.size
 have HB13 := hide ((HB2.out.trans (HBN.out.mono hsz2)).trans (HB3.out.mono hsz2))
 have HO3 := hide (HO.out.grow HB13.out)
 have hne0 : 0 < (evC l).length := by simp [evC]
 obtain ⟨ne, hne⟩ : ∃ ne, (evC l).length = ne := ⟨_, rfl⟩
 rw [hne] at hb hel hne0 HG3
 obtain ⟨oc, cc, hvc⟩ := own_slice HO3.out.oc
 have hob5 : w3.cell? ⟨ob, 5, none⟩ = some (.slice oc cd.length cc) := by rw [← hvc, HO3.out.kk.cell]; rfl
 have hkc := HG3.out.kc
 rw [List.length_map, hne] at hkc
 obtain ⟨gc, cp, hgc, _, _⟩ := own_form hkc (by omega)
 have hkr := HG3.out.kr
 rw [cdR_length, hne] at hkr
 obtain ⟨gr, cr, hgr, _, _⟩ := own_form hkr (by omega)
 rw [hgc] at hkc
 rw [hgr] at hkr
 have hb2c : w3.cell? ⟨w2.heap.size, 2, none⟩ = some (.slice (some ⟨gc, 0, none⟩) ne cp) := by rw [← hgc]; exact (gw_cells HG3.out).2.2.1
 have hb3c : w3.cell? ⟨w2.heap.size, 3, none⟩ = some (.slice (some ⟨gr, 0, none⟩) ne cr) := by rw [← hgr]; exact (gw_cells HG3.out).2.2.2.1
 have hgcl := hkc.lt gc rfl
 have hgrl := hkr.lt gr rfl
 have HKC := hide hkc
 have HKR := hide hkr
 have hbl3 := HG3.out.kk.lt
 clear hkc hkr
 have HFR := hide (show ∀ (Wi : World) (vi : Ov), Oto w3 Wi ob eb rb v vi → (∀ k j, w2.heap.size ≤ k → k < w3.heap.size → Wi.cell? ⟨k, j, none⟩ = w3.cell? ⟨k, j, none⟩) from fun Wi vi ht k j h1 h2 => ht.o.cell h2 (fun h9 => by have h10 : k < W.heap.size := HO.out.high _ h9; omega))
 go_wp2_with fail
 go_loopw [30] (fun t30 Wi => ∃ (i : Nat) (vi : Ov), t30 = .int .i64 (i : Int) ∧ i ≤ ne ∧ vi.o = v.o ∧ Om Wi B ob eb rb g vv t ms vi on (cd ++ (finL cd.length l).take i) (ev ++ List.replicate i n) (rw ++ (cdR (evC l)).take i) ∧ Oto w3 Wi ob eb rb v vi) (fun t30 _ => ne - (intOf t30).toNat)
 case atStart => exact ⟨0, v, rfl, Nat.zero_le _, rfl, by simpa using HO3.out, Oto.refl _ _ _ _ _⟩
 case round =>
   obtain ⟨i, vi, rfl, hi, hvi, hom, hto⟩ := hrel
   have HVI := hide hvi
   clear hvi
   rename World => Wi
   have HOM := hide hom
   have HTO := hide hto
   have hq2 := IntWalk.i64_in ((i : Int) + 1) (by omega)
   by_cases hil : i < ne
   · have hiI : (i : Int) < (ne : Int) := by omega
     go_upto_block 1 with fail
     go_cut [30] from 30 to 68 (fun s30 wx => s30 = .int .i64 (i : Int) ∧ ∃ vi' : Ov, vi'.o = v.o ∧ Om wx B ob eb rb g vv t ms vi' on (cd ++ (finL cd.length l).take (i + 1)) (ev ++ List.replicate (i + 1) n) (rw ++ (cdR (evC l)).take (i + 1)) ∧ Oto w3 wx ob eb rb v vi')
     case first =>
       obtain ⟨x0, hx0⟩ : ∃ x0, (evC l)[i]? = some x0 := ⟨_, List.getElem?_eq_getElem (by rw [hne]; exact hil)⟩
       obtain ⟨x, hxf⟩ : ∃ x, x0.fin = x := ⟨_, rfl⟩
       have hxm : ((evC l).map Cd.fin)[i]? = some x := by rw [List.getElem?_map, hx0, Option.map_some, hxf]
       have hz : ∀ j, j < 5 → Wi.cell? ⟨gc, i * 5 + j, none⟩ = x.cells[j]? := fun j hj => by
         rw [HFR.out Wi vi hto gc (i * 5 + j) hgcl.1 hgcl.2, World.ownsRow.cellAt HKC.out (i * 5 + j) (by omega), ins_at _ i j x hxm hj]
       have hrowz : Wi.cell? ⟨gr, i, none⟩ = some (.int .i64 (x0.row : Int)) := by
         rw [HFR.out Wi vi hto gr i hgrl.1 hgrl.2, World.ownsRow.cellAt HKR.out i (by omega), ints_get (x := (x0.row : Int)) (by simp [cdR, hx0])]
       have hb3i : Wi.cell? ⟨w2.heap.size, 3, none⟩ = some (.slice (some ⟨gr, 0, none⟩) ne cr) := (HFR.out Wi vi hto w2.heap.size 3 (Nat.le_refl _) hbl3).trans hb3c
       have HFC := hide (show (finL cd.length l).take (i + 1) = (finL cd.length l).take i ++ [relC cd.length x] from by rw [List.take_add_one]; simp [finL, hx0, hxf])
       have HFRW := hide (show (cdR (evC l)).take (i + 1) = (cdR (evC l)).take i ++ [(x0.row : Int)] from by rw [List.take_add_one]; simp [cdR, hx0])
       obtain ⟨xo, xa, xb, xc, xd⟩ := x
       have z0 := hz 0 (by decide)
       have z1 := hz 1 (by decide)
       have z2 := hz 2 (by decide)
       have z3 := hz 3 (by decide)
       have z4 := hz 4 (by decide)
       simp only [In.cells, List.getElem?_cons_zero, List.getElem?_cons_succ, Nat.add_zero] at z0 z1 z2 z3 z4
       have hsm : S5 xo → 0 ≤ xa ∧ xa ≤ (ne : Int) := fun h9 => by
         have := fin_small (List.mem_of_getElem? hx0) (by rw [hxf]; exact h9)
         rw [hxf, hne] at this
         exact this
       clear hom hto hx0 hxf hxm hz
       have y0 : (Wi.alloc (.cells #[.int .i64 xo, .int .i64 xa, .int .i64 xb, .int .i64 xc, .int .i64 xd] 56)).cell? ⟨Wi.heap.size, 0, none⟩ = some (.int .i64 xo) := (Blk.new Wi 56 #[.int .i64 xo, .int .i64 xa, .int .i64 xb, .int .i64 xc, .int .i64 xd]).cell 0
       have y1 : (Wi.alloc (.cells #[.int .i64 xo, .int .i64 xa, .int .i64 xb, .int .i64 xc, .int .i64 xd] 56)).cell? ⟨Wi.heap.size, 1, none⟩ = some (.int .i64 xa) := (Blk.new Wi 56 #[.int .i64 xo, .int .i64 xa, .int .i64 xb, .int .i64 xc, .int .i64 xd]).cell 1
       go_upto_region 8 with fail
       iterate 23 (first | go_values | go_skip | go_guarded | go_step | go_upon | go_back)
       go_cut [30] from 30 to 68 (fun s30 wx => s30 = .int .i64 (i : Int) ∧ wx = Wi.alloc (.cells (relC cd.length ⟨xo, xa, xb, xc, xd⟩).cells.toArray 56))
       case first =>
         by_cases h5 : S5 xo
         · obtain ⟨s1, s2⟩ := hsm h5
           have u1 := IntWalk.i64_in (xa + (cd.length : Int)) (by omega)
           have HR := hide (show relC cd.length ⟨xo, xa, xb, xc, xd⟩ = ⟨xo, xa + (cd.length : Int), xb, xc, xd⟩ from relC_yes h5)
           rcases h5 with rfl | rfl | rfl | rfl | rfl
           all_goals
             go_wp2_with fail
             go_meet
             case rel => exact ⟨rfl, by rw [HR.out]; rfl⟩
         · have HR := hide (show relC cd.length ⟨xo, xa, xb, xc, xd⟩ = ⟨xo, xa, xb, xc, xd⟩ from relC_no h5)
           have k22 : (xo == 22) = false := beq_eq_false_iff_ne.2 (fun e => h5 (by simp [S5, e]))
           have k23 : (xo == 23) = false := beq_eq_false_iff_ne.2 (fun e => h5 (by simp [S5, e]))
           have k25 : (xo == 25) = false := beq_eq_false_iff_ne.2 (fun e => h5 (by simp [S5, e]))
           have k26 : (xo == 26) = false := beq_eq_false_iff_ne.2 (fun e => h5 (by simp [S5, e]))
           have k27 : (xo == 27) = false := beq_eq_false_iff_ne.2 (fun e => h5 (by simp [S5, e]))
           clear h5
           go_wp2_with fail
           go_meet
           case rel => exact ⟨rfl, by rw [HR.out]; rfl⟩
       case rest =>
         obtain ⟨rfl, rfl⟩ := hcut
         clear y0 y1 hsm z0 z1 z2 z3 z4
         obtain ⟨y, hy⟩ : ∃ y, relC cd.length ⟨xo, xa, xb, xc, xd⟩ = y := ⟨_, rfl⟩
         rw [hy] at HFC ⊢
         clear hy
         obtain ⟨yo, ya, yb, yc, yd⟩ := y
         have HYB := hide ((Below.refl Wi.heap.size Wi).alloc (Nat.le_refl _) (.cells #[.int .i64 yo, .int .i64 ya, .int .i64 yb, .int .i64 yc, .int .i64 yd] 56))
         have hyk := Blk.new Wi 56 #[.int .i64 yo, .int .i64 ya, .int .i64 yb, .int .i64 yc, .int .i64 yd]
         have HOM9 := hide (HOM.out.grow HYB.out)
         have hb39 := HYB.out.cell (p := ⟨w2.heap.size, 3, none⟩) (show w2.heap.size < Wi.heap.size by have := HTO.out.o.size; omega)
         have hrow9 := HYB.out.cell (p := ⟨gr, i, none⟩) (show gr < Wi.heap.size by have := HTO.out.o.size; omega)
         rw [hb3i] at hb39
         rw [hrowz] at hrow9
         have hw9 : w3.heap.size ≤ (Wi.alloc (.cells #[.int .i64 yo, .int .i64 ya, .int .i64 yb, .int .i64 yc, .int .i64 yd] 56)).heap.size := Nat.le_trans HTO.out.o.size HYB.out.size
         simp only [In.cells]
         generalize Wi.alloc (.cells #[.int .i64 yo, .int .i64 ya, .int .i64 yb, .int .i64 yc, .int .i64 yd] 56) = W9 at HYB hyk HOM9 hb39 hrow9 hw9
         have y0 : W9.cell? ⟨Wi.heap.size, 0, none⟩ = some (.int .i64 yo) := hyk.cell 0
         have y1 : W9.cell? ⟨Wi.heap.size, 1, none⟩ = some (.int .i64 ya) := hyk.cell 1
         have y2 : W9.cell? ⟨Wi.heap.size, 2, none⟩ = some (.int .i64 yb) := hyk.cell 2
         have y3 : W9.cell? ⟨Wi.heap.size, 3, none⟩ = some (.int .i64 yc) := hyk.cell 3
         have y4 : W9.cell? ⟨Wi.heap.size, 4, none⟩ = some (.int .i64 yd) := hyk.cell 4
         have hc5 : W9.cell? ⟨ob, 5, none⟩ = some vi.c := by rw [HOM9.out.kk.cell]; rfl
         have pa5 : ∀ o, (W9.alloc o).cell? ⟨ob, 5, none⟩ = some vi.c := fun o => (World.cell?_alloc_lt W9 o _ HOM9.out.kk.lt).trans hc5
         obtain ⟨i3, hi3, hz0, hz1, hz2⟩ := info_parts3 infR
         obtain ⟨i4, hi4, hy0, hy1, hy2⟩ := info_parts3 infI
         clear hrowz hb3i hyk
         have hlc : (cd ++ (finL cd.length l).take i).length ≤ 2097152 := by
           simp only [List.length_append, List.length_take]
           have : (finL cd.length l).length = ne := by simp [finL, hne]
           omega
         have hBA : ∀ o, B ≤ (W9.alloc o).heap.size := fun o => Nat.le_trans HOM9.out.size (by simp)
         go_upto_region 17 with (
           at_builtin
           refine wpList_append_own_at _ rfl (.tmp 49) (.tmp 51) 32 rfl B 56 i3 _ 5 40 Try.underlying32 hi3 hz0 hz1 hz2 rfl (by decide) vi.c (cd ++ (finL cd.length l).take i).length (ins (cd ++ (finL cd.length l).take i)) rfl (own_keep (w' := W9.alloc (.cells #[.int .i64 yo, .int .i64 ya, .int .i64 yb, .int .i64 yc, .int .i64 yd] 56)) HOM9.out.oc (fun k hk => Below.heap_alloc _ _ k (HOM9.out.oc.lt k hk).2)) ⟨W9.heap.size, 0, none⟩ 1 1 [.int .i64 yo, .int .i64 ya, .int .i64 yb, .int .i64 yc, .int .i64 yd] rfl rfl (cells_at W9 56 [.int .i64 yo, .int .i64 ya, .int .i64 yb, .int .i64 yc, .int .i64 yd]) (by simp [Value.oneCell']) (by unfold maxLen; omega) (by omega) (hBA _) ?_
           intro u6 w6 hown6 hgr6 _ hat6
           have HK6 := hide ((HOM9.out.kk.below ((Below.refl _ W9).alloc (Nat.le_refl _) (.cells #[.int .i64 yo, .int .i64 ya, .int .i64 yb, .int .i64 yc, .int .i64 yd] 56)) HOM9.out.kk.lt).grown hgr6 (fun e => own_blk_ne HOM9.out.oc HOM9.out.kk (by decide) e.symm))
           have c6 : w6.cell? ⟨ob, 5, none⟩ = some vi.c := by rw [HK6.out.cell]; rfl
           have f6 := HK6.out.frozen 5
           have HC := hide (HOM9.out.app_c (x := ⟨yo, ya, yb, yc, yd⟩) ((Below.refl _ W9).alloc (Nat.le_refl _) (.cells #[.int .i64 yo, .int .i64 ya, .int .i64 yb, .int .i64 yc, .int .i64 yd] 56)) hown6 hgr6 hat6)
           obtain ⟨oa6, cp6, rfl⟩ := own_slice hown6
           clear hown6 hgr6 hat6)
         have HNI := hide (show ∀ k, w2.heap.size ≤ k → k < w3.heap.size → ¬ vi.in_ ob eb rb k from fun k h1 h2 h9 => by
           rcases HTO.out.n k h9 with h10 | h10
           · have h11 : k < W.heap.size := HO.out.high _ h10
             omega
           · omega)
         have hbb := (HC.out.2.o.cell (p := ⟨w2.heap.size, 3, none⟩) (show w2.heap.size < W9.heap.size by omega) (HNI.out _ (Nat.le_refl _) hbl3)).trans hb39
         have hbr := (HC.out.2.o.cell (p := ⟨gr, i, none⟩) (show gr < W9.heap.size by omega) (HNI.out _ hgrl.1 hgrl.2)).trans hrow9
         have hszb := HC.out.2.o.size
         simp only [List.length_append, List.length_take] at HC hbb hbr hszb
         have HNB := hide (show ∀ k, w2.heap.size ≤ k → k < w3.heap.size → ¬ ({ vi with c := .slice oa6 (cd.length + min i (finL cd.length l).length + 1) cp6 } : Ov).in_ ob eb rb k from fun k h1 h2 h9 => by
           have h12 := HC.out.2.n k h9
           rcases h12 with h10 | h10
           · exact HNI.out k h1 h2 h10
           · omega)
         generalize w6.setCell ⟨ob, 5, none⟩ (.slice oa6 (cd.length + min i (finL cd.length l).length + 1) cp6) = Wb at HC hbb hbr hszb
         have HVO := hide (show ({ vi with c := .slice oa6 (cd.length + min i (finL cd.length l).length + 1) cp6 } : Ov).o = v.o from HVI.out)
         generalize ({ vi with c := .slice oa6 (cd.length + min i (finL cd.length l).length + 1) cp6 } : Ov) = vb at HC HNB HVO
         have HOB := hide HC.out.1
         have HTB := hide (HTO.out.trans ((Oto.grow HYB.out).trans HC.out.2))
         have hle1 : (ev ++ List.replicate i n).length ≤ 2097152 := by simp; omega
         have hle2 : (rw ++ (cdR (evC l)).take i).length ≤ 2097152 := by simp; omega
         have me : Wb.cell? ⟨eb, 0, none⟩ = some vb.e := by rw [HOB.out.ke.cell]; rfl
         have mr : Wb.cell? ⟨rb, 0, none⟩ = some vb.r := by rw [HOB.out.kr.cell]; rfl
         have hebl := HOB.out.ke.lt
         have hrbl := HOB.out.kr.lt
         have HOE0 := hide (show Wb.drew.ownsRow B 3 1 vb.e (ev ++ List.replicate i n).length (ints (ev ++ List.replicate i n)) from HOB.out.oe)
         have HOR0 := hide (show Wb.drew.ownsRow B 3 1 vb.r (rw ++ (cdR (evC l)).take i).length (ints (rw ++ (cdR (evC l)).take i)) from HOB.out.or)
         have hBs : ∀ w' : World, Wb.heap.size ≤ w'.heap.size → B ≤ w'.heap.size := fun w' h9 => Nat.le_trans HOB.out.size h9
         have hi0 : (0 : Int) ≤ (i : Int) := by omega
         clear HC y0 y1 y2 y3 y4 hc5 c6 f6 pa5 hb39 hrow9 HK6
         have hpw : w2.heap.size < Wb.heap.size ∧ ¬ S2 vb w2.heap.size := ⟨by omega, fun h9 => HNB.out _ (Nat.le_refl _) hbl3 (by rcases h9 with h9 | h9; exact .inr (.inr (.inr (.inr (.inr (.inl h9))))); exact .inr (.inr (.inr (.inr (.inr (.inr h9))))))⟩
         have hgw : gr < Wb.heap.size ∧ ¬ S2 vb gr := ⟨by omega, fun h9 => HNB.out _ hgrl.1 hgrl.2 (by rcases h9 with h9 | h9; exact .inr (.inr (.inr (.inr (.inr (.inl h9))))); exact .inr (.inr (.inr (.inr (.inr (.inr h9))))))⟩
         have hew : ¬ S2 vb eb := fun h9 => by rcases h9 with h9 | h9; exact own_blk_ne HOB.out.oe HOB.out.ke (by decide) h9; exact own_blk_ne HOB.out.or HOB.out.ke (by decide) h9
         have hrw2 : ¬ S2 vb rb := fun h9 => by rcases h9 with h9 | h9; exact own_blk_ne HOB.out.oe HOB.out.kr (by decide) h9; exact own_blk_ne HOB.out.or HOB.out.kr (by decide) h9
         have HPW := hide hpw; have HGWR := hide hgw; have HEW := hide hew; have HRW := hide hrw2
         clear hpw hgw hew hrw2 HNB
         clear HO HEN HS hl0 hl1 HE2 HB2 HB13 HO3 hne0 hob5 hb2c hb3c HKC HKR HFR HOM HTO HNI hBA hlc hsz2 hsz3 hszn hw9 hszb hel h0 hl HOM9 HYB HG3 HB3 HBN HGW HEV hi3 hz0 hz1 hz2 HOE0 HOR0 hBs
         refine wp_region_par (J17 Wb B eb rb vb (ev ++ List.replicate i n) (rw ++ (cdR (evC l)).take i) n w2.heap.size gr ne cr i (x0.row : Int)) [[], [], [1], [0, 1, 2], [], [], [5], [5, 6], [5, 6, 7], [], [5, 6, 7, 8, 9], [5, 6, 7, 8, 9, 10], [5, 6, 7, 8, 9, 10, 11], [0, 1, 2, 3, 4, 5, 6, 7, 8, 9, 10, 11, 12], [0, 1, 2, 3, 4, 5, 6, 7, 8, 9, 10, 11, 12, 13], [0, 1, 2, 3, 4, 5, 6, 7, 8, 9, 10, 11, 12, 13, 14]] (by kernel_rfl) (by kernel_rfl) (fun _ => J17.start HOB.out) (fun vs => ?_)
         refine wpPar_step0 rfl (fun S w' hS hA hD hJ R hR => ?_) (fun K hK => ?_)
         · have h14 : S 14 = false := hD 14 (by decide) (by decide)
           have hc := ((hJ.pre h14).o.cell (p := ⟨eb, 0, none⟩) hebl HEW.out).trans me
           go_simp
           exact hR _ _ (hJ.pure h14 (by decide) rfl)
         go_simp
         refine hK _ ?_
         clear hK K
         refine wpPar_step0 rfl (fun S w' hS hA hD hJ R hR => ?_) (fun K hK => ?_)
         · have h14 : S 14 = false := hD 14 (by decide) (by decide)
           go_simp
           exact hR _ _ (hJ.pure h14 (by decide) rfl)
         go_simp
         refine hK _ ?_
         clear hK K
         refine wpPar_step0 rfl (fun S w' hS hA hD hJ R hR => ?_) (fun K hK => ?_)
         · have h14 : S 14 = false := hD 14 (by decide) (by decide)
           have k1 : vs 1 = _ := hJ.known 1 _ rfl (hA 1 (by decide))
           simp only [k1]
           go_simp
           exact hR _ _ (hJ.new2 HOB.out h14)
         go_simp
         refine hK _ ?_
         clear hK K
         refine wpPar_step0 rfl (fun S w' hS hA hD hJ R hR => ?_) (fun K hK => ?_)
         · have h14 : S 14 = false := hD 14 (by decide) (by decide)
           have k0 : vs 0 = _ := hJ.known 0 _ rfl (hA 0 (by decide))
           have k1 : vs 1 = _ := hJ.known 1 _ rfl (hA 1 (by decide))
           obtain ⟨gx, kx, hx1, hx2, hx3⟩ := (hJ.pre h14).s2 (hA 2 (by decide))
           have h13 : S 13 = false := hD 13 (by decide) (by decide)
           obtain ⟨u9, w9, hrun, r1, r2, r3⟩ := run_append_own_at (P := Try.prog) w' B 24 24 3 i4 _ 1 8 Try.underlying24 hi4 hy0 hy1 hy2 rfl (by decide) vb.e (ev ++ List.replicate i n).length (ints (ev ++ List.replicate i n)) ((hJ.pre h14).e0 hS) ⟨gx, 0, none⟩ 1 1 [.int .i64 n] rfl (one_cell hx3) (by simp [Value.oneCell']) (by unfold maxLen; omega) (by omega) (Nat.le_trans HOB.out.size (hJ.pre h14).o.size)
           have hfin := hR _ _ (hJ.app3 HOB.out h14 hS h13 r1 r2 r3.2)
           refine par_append (.tmp 54) (.tmp 56) 24 (by rfl) vb.e (.slice (some ⟨gx, 0, none⟩) 1 1) ?_ ?_ hrun ?_
           · exact k0
           · exact kx
           · exact hfin
         go_simp
         refine hK _ ?_
         clear hK K
         refine wpPar_step0 rfl (fun S w' hS hA hD hJ R hR => ?_) (fun K hK => ?_)
         · have h14 : S 14 = false := hD 14 (by decide) (by decide)
           have hc := ((hJ.pre h14).o.cell (p := ⟨rb, 0, none⟩) hrbl HRW.out).trans mr
           go_simp
           exact hR _ _ (hJ.pure h14 (by decide) rfl)
         go_simp
         refine hK _ ?_
         clear hK K
         refine wpPar_step0 rfl (fun S w' hS hA hD hJ R hR => ?_) (fun K hK => ?_)
         · have h14 : S 14 = false := hD 14 (by decide) (by decide)
           go_simp
           exact hR _ _ (hJ.pure h14 (by decide) rfl)
         go_simp
         refine hK _ ?_
         clear hK K
         refine wpPar_step0 rfl (fun S w' hS hA hD hJ R hR => ?_) (fun K hK => ?_)
         · have h14 : S 14 = false := hD 14 (by decide) (by decide)
           have k5 : vs 5 = _ := hJ.known 5 _ rfl (hA 5 (by decide))
           simp only [k5]
           go_simp
           exact hR _ _ (hJ.pure h14 (by decide) rfl)
         go_simp
         refine hK _ ?_
         clear hK K
         refine wpPar_step0 rfl (fun S w' hS hA hD hJ R hR => ?_) (fun K hK => ?_)
         · have h14 : S 14 = false := hD 14 (by decide) (by decide)
           have k5 : vs 5 = _ := hJ.known 5 _ rfl (hA 5 (by decide))
           have k6 : vs 6 = _ := hJ.known 6 _ rfl (hA 6 (by decide))
           simp only [k5, k6]
           go_simp
           exact hR _ _ (hJ.pure h14 (by decide) rfl)
         go_simp
         refine hK _ ?_
         clear hK K
         refine wpPar_step0 rfl (fun S w' hS hA hD hJ R hR => ?_) (fun K hK => ?_)
         · have h14 : S 14 = false := hD 14 (by decide) (by decide)
           have k5 : vs 5 = _ := hJ.known 5 _ rfl (hA 5 (by decide))
           have k6 : vs 6 = _ := hJ.known 6 _ rfl (hA 6 (by decide))
           have k7 : vs 7 = _ := hJ.known 7 _ rfl (hA 7 (by decide))
           have hc := ((hJ.pre h14).o.cell (p := ⟨w2.heap.size, 3, none⟩) HPW.out.1 HPW.out.2).trans hbb
           simp only [k5, k6, k7]
           go_simp
           exact hR _ _ (hJ.pure h14 (by decide) rfl)
         go_simp
         refine hK _ ?_
         clear hK K
         refine wpPar_step0 rfl (fun S w' hS hA hD hJ R hR => ?_) (fun K hK => ?_)
         · have h14 : S 14 = false := hD 14 (by decide) (by decide)
           go_simp
           exact hR _ _ (hJ.pure h14 (by decide) rfl)
         go_simp
         refine hK _ ?_
         clear hK K
         refine wpPar_step0 rfl (fun S w' hS hA hD hJ R hR => ?_) (fun K hK => ?_)
         · have h14 : S 14 = false := hD 14 (by decide) (by decide)
           have k5 : vs 5 = _ := hJ.known 5 _ rfl (hA 5 (by decide))
           have k6 : vs 6 = _ := hJ.known 6 _ rfl (hA 6 (by decide))
           have k7 : vs 7 = _ := hJ.known 7 _ rfl (hA 7 (by decide))
           have k8 : vs 8 = _ := hJ.known 8 _ rfl (hA 8 (by decide))
           have k9 : vs 9 = _ := hJ.known 9 _ rfl (hA 9 (by decide))
           simp only [k5, k6, k7, k8, k9]
           go_simp
           exact hR _ _ (hJ.pure h14 (by decide) rfl)
         go_simp
         refine hK _ ?_
         clear hK K
         refine wpPar_step0 rfl (fun S w' hS hA hD hJ R hR => ?_) (fun K hK => ?_)
         · have h14 : S 14 = false := hD 14 (by decide) (by decide)
           have k5 : vs 5 = _ := hJ.known 5 _ rfl (hA 5 (by decide))
           have k6 : vs 6 = _ := hJ.known 6 _ rfl (hA 6 (by decide))
           have k7 : vs 7 = _ := hJ.known 7 _ rfl (hA 7 (by decide))
           have k8 : vs 8 = _ := hJ.known 8 _ rfl (hA 8 (by decide))
           have k9 : vs 9 = _ := hJ.known 9 _ rfl (hA 9 (by decide))
           have k10 : vs 10 = _ := hJ.known 10 _ rfl (hA 10 (by decide))
           have hc := ((hJ.pre h14).o.cell (p := ⟨gr, i, none⟩) HGWR.out.1 HGWR.out.2).trans hbr
           simp only [k5, k6, k7, k8, k9, k10]
           go_simp
           exact hR _ _ (hJ.pure h14 (by decide) rfl)
         go_simp
         refine hK _ ?_
         clear hK K
         refine wpPar_step0 rfl (fun S w' hS hA hD hJ R hR => ?_) (fun K hK => ?_)
         · have h14 : S 14 = false := hD 14 (by decide) (by decide)
           have k5 : vs 5 = _ := hJ.known 5 _ rfl (hA 5 (by decide))
           have k6 : vs 6 = _ := hJ.known 6 _ rfl (hA 6 (by decide))
           have k7 : vs 7 = _ := hJ.known 7 _ rfl (hA 7 (by decide))
           have k8 : vs 8 = _ := hJ.known 8 _ rfl (hA 8 (by decide))
           have k9 : vs 9 = _ := hJ.known 9 _ rfl (hA 9 (by decide))
           have k10 : vs 10 = _ := hJ.known 10 _ rfl (hA 10 (by decide))
           have k11 : vs 11 = _ := hJ.known 11 _ rfl (hA 11 (by decide))
           simp only [k5, k6, k7, k8, k9, k10, k11]
           go_simp
           exact hR _ _ (hJ.new12 HOB.out h14)
         go_simp
         refine hK _ ?_
         clear hK K
         refine wpPar_step0 rfl (fun S w' hS hA hD hJ R hR => ?_) (fun K hK => ?_)
         · have h14 : S 14 = false := hD 14 (by decide) (by decide)
           have k0 : vs 0 = _ := hJ.known 0 _ rfl (hA 0 (by decide))
           have k1 : vs 1 = _ := hJ.known 1 _ rfl (hA 1 (by decide))
           have k4 : vs 4 = _ := hJ.known 4 _ rfl (hA 4 (by decide))
           have k5 : vs 5 = _ := hJ.known 5 _ rfl (hA 5 (by decide))
           have k6 : vs 6 = _ := hJ.known 6 _ rfl (hA 6 (by decide))
           have k7 : vs 7 = _ := hJ.known 7 _ rfl (hA 7 (by decide))
           have k8 : vs 8 = _ := hJ.known 8 _ rfl (hA 8 (by decide))
           have k9 : vs 9 = _ := hJ.known 9 _ rfl (hA 9 (by decide))
           have k10 : vs 10 = _ := hJ.known 10 _ rfl (hA 10 (by decide))
           have k11 : vs 11 = _ := hJ.known 11 _ rfl (hA 11 (by decide))
           obtain ⟨gx, kx, hx1, hx2, hx3⟩ := (hJ.pre h14).s12 (hA 12 (by decide))
           have h3 : S 3 = true := hA 3 (by decide)
           obtain ⟨u9, w9, hrun, r1, r2, r3⟩ := run_append_own_at (P := Try.prog) w' B 24 24 3 i4 _ 1 8 Try.underlying24 hi4 hy0 hy1 hy2 rfl (by decide) vb.r (rw ++ (cdR (evC l)).take i).length (ints (rw ++ (cdR (evC l)).take i)) ((hJ.pre h14).r0 hS) ⟨gx, 0, none⟩ 1 1 [.int .i64 (x0.row : Int)] rfl (one_cell hx3) (by simp [Value.oneCell']) (by unfold maxLen; omega) (by omega) (Nat.le_trans HOB.out.size (hJ.pre h14).o.size)
           have hfin := hR _ _ (hJ.app13 HOB.out h14 h3 r1 r2 r3.2)
           refine par_append (.tmp 58) (.tmp 66) 24 (by rfl) vb.r (.slice (some ⟨gx, 0, none⟩) 1 1) ?_ ?_ hrun ?_
           · exact k4
           · exact kx
           · exact hfin
         go_simp
         refine hK _ ?_
         clear hK K
         refine wpPar_step0 rfl (fun S w' hS hA hD hJ R hR => ?_) (fun K hK => ?_)
         · have h14 : S 14 = false := hS
           have h15 : S 15 = false := hD 15 (by decide) (by decide)
           have k0 : vs 0 = _ := hJ.known 0 _ rfl (hA 0 (by decide))
           have k1 : vs 1 = _ := hJ.known 1 _ rfl (hA 1 (by decide))
           have k4 : vs 4 = _ := hJ.known 4 _ rfl (hA 4 (by decide))
           have k5 : vs 5 = _ := hJ.known 5 _ rfl (hA 5 (by decide))
           have k6 : vs 6 = _ := hJ.known 6 _ rfl (hA 6 (by decide))
           have k7 : vs 7 = _ := hJ.known 7 _ rfl (hA 7 (by decide))
           have k8 : vs 8 = _ := hJ.known 8 _ rfl (hA 8 (by decide))
           have k9 : vs 9 = _ := hJ.known 9 _ rfl (hA 9 (by decide))
           have k10 : vs 10 = _ := hJ.known 10 _ rfl (hA 10 (by decide))
           have k11 : vs 11 = _ := hJ.known 11 _ rfl (hA 11 (by decide))
           simp only [k0, k1, k4, k5, k6, k7, k8, k9, k10, k11]
           have hfz := (HOB.out.ke.only (hJ.pre h14).o HEW.out).frozen 0
           have hcz := ((hJ.pre h14).o.cell (p := ⟨eb, 0, none⟩) hebl HEW.out).trans me
           obtain ⟨ox, cx, ex⟩ := own_slice ((hJ.pre h14).e1 (hA 3 (by decide))).1
           have hfin := hR _ _ (hJ.st14 (c := undef) h14 h15 (fun k hk => hA k (by have h9 : k ∈ List.range 14 := List.mem_range.2 hk; exact h9)))
           generalize (ev ++ List.replicate i n).length + 1 = m9 at ex
           obtain ⟨oy, hy⟩ : ∃ oy, oy = vs 3 := ⟨_, rfl⟩
           have ey := hy.trans ex
           rw [← hy] at hfin ⊢
           clear hy ex hJ hR
           subst ey
           go_simp
           exact hfin
         go_simp
         refine hK _ ?_
         clear hK K
         refine wpPar_step0 rfl (fun S w' hS hA hD hJ R hR => ?_) (fun K hK => ?_)
         · have h14 : S 14 = true := hA 14 (by decide)
           have k0 : vs 0 = _ := hJ.known 0 _ rfl (hA 0 (by decide))
           have k1 : vs 1 = _ := hJ.known 1 _ rfl (hA 1 (by decide))
           have k4 : vs 4 = _ := hJ.known 4 _ rfl (hA 4 (by decide))
           have k5 : vs 5 = _ := hJ.known 5 _ rfl (hA 5 (by decide))
           have k6 : vs 6 = _ := hJ.known 6 _ rfl (hA 6 (by decide))
           have k7 : vs 7 = _ := hJ.known 7 _ rfl (hA 7 (by decide))
           have k8 : vs 8 = _ := hJ.known 8 _ rfl (hA 8 (by decide))
           have k9 : vs 9 = _ := hJ.known 9 _ rfl (hA 9 (by decide))
           have k10 : vs 10 = _ := hJ.known 10 _ rfl (hA 10 (by decide))
           have k11 : vs 11 = _ := hJ.known 11 _ rfl (hA 11 (by decide))
           simp only [k0, k1, k4, k5, k6, k7, k8, k9, k10, k11]
           obtain ⟨w8, ho8, he8, ox, cx, ex⟩ := hJ.mid h14 hS
           have hb8 := (HOB.out.kr.only ho8 HRW.out).far (p := ⟨eb, 0, none⟩) (Ne.symm HOB.out.d) (vs 3)
           rw [← he8] at hb8
           have hfz := hb8.frozen 0
           have hcz := hb8.cell 0
           have hfin := hR _ _ (hJ.st15 (c := undef) h14 hS)
           clear he8
           generalize (rw ++ (cdR (evC l)).take i).length + 1 = m9 at ex
           obtain ⟨oy, hy⟩ : ∃ oy, oy = vs 13 := ⟨_, rfl⟩
           have ey := hy.trans ex
           rw [← hy] at hfin ⊢
           clear hy ex hJ hR
           subst ey
           go_simp
           exact hfin
         go_simp
         refine hK _ ?_
         clear hK K
         refine wpPar_nil (fun w7 hJ => ?_)
         have HLEAF := hide (hJ.fin HOB.out)
         clear hJ
         go_wp2_with fail
         go_meet
         case rel =>
           refine ⟨rfl, { vb with e := vs 3, r := vs 13 }, HVO.out, ?_, HTB.out.trans HLEAF.out.2⟩
           have h9 := HLEAF.out.1
           rw [HFC.out, HFRW.out, List.replicate_succ', ← List.append_assoc, ← List.append_assoc, ← List.append_assoc]
           exact h9
     case rest =>
       obtain ⟨rfl, vi', hvo', hom', hto'⟩ := hcut
       have HVO' := hide hvo'
       clear hvo'
       have HOM' := hide hom'
       have HTO' := hide hto'
       clear hom' hto' hom hto HOM HTO
       go_wp2_with fail
       go_roundw
       case rel => exact ⟨i + 1, vi', by go_num, by omega, HVO'.out, HOM'.out, HTO'.out⟩
       case measure =>
         simp only [intOf]
         omega
   · have hie : i = ne := by omega
     have HOF := hide (show Om Wi B ob eb rb g vv t ms vi on (cd ++ finL cd.length l) (ev ++ List.replicate (evC l).length n) (rw ++ cdR (evC l)) by
       have := hom
       rw [hie, List.take_of_length_le (by simp [finL]; omega), List.take_of_length_le (by rw [cdR_length]; omega)] at this
       rw [hne]
       exact this)
     have hiI : ¬ (i : Int) < (ne : Int) := by omega
     clear hom hto hie hil
     go_wp2_with fail
     go_ret
     refine ⟨rfl, vi, HVI.out, ?_, (Oto.grow HB13.out).trans HTO.out⟩
     first | exact HOF.out | (rw [← hne]; exact HOF.out)
end
end Go.Proofs.Ytdpokdcendgfeaa
namespace Go.Proofs.Ytdpokdcendgfeaa
open Go.RowKit
set_option maxRecDepth 100000 in
theorem mk_nil (w : World) (n : Int) (oa : Option Addr) (c : Nat) (p q r : Value) : Calls Try.prog 69 #[.int .i64 n, .slice oa 0 c, p, q, r] w fun en w' => en = .returned (.int .i64 (-1)) ∧ w' = w := by
 go_enter Try.func69, Try.ntmps69
 go_wp2_with fail
 go_ret
 exact ⟨rfl, rfl⟩
end Go.Proofs.Ytdpokdcendgfeaa
namespace Go.Proofs.Ytdpokdcendgfeaa
open Go.RowKit
/-- an event that is right, or none -/
def Right (P : Pl) (l : List Ac) : Prop := l ≠ [] → Wf P l (l.length + 2) 1 0 l.length
theorem right_of (P : Pl) (l : List Ac) (h : eventV P l = true) : Right P l := fun h0 => wf_event h h0
theorem add_nil (m : Mk) (n : Int) : m.add n [] = (m, -1) := rfl
theorem add_some {m : Mk} {n : Int} {l : List Ac} (h : l ≠ []) : m.add n l = ({ m with cd := m.cd ++ finL m.cd.length l, ev := m.ev ++ List.replicate (evC l).length n, rw := m.rw ++ cdR (evC l) }, (m.cd.length : Int)) := by
 unfold Mk.add
 cases l with
 | nil => exact absurd rfl h
 | cons x l => rfl
/-- what is made so far, in memory -/
structure OmM (W : World) (B ob eb rb : Nat) (g vv t : Value) (v : Ov) (m : Mk) : Prop where
 o : Om W B ob eb rb g vv t 0 v m.on m.cd m.ev m.rw
 e : m.ev.length = m.cd.length
 r : m.rw.length = m.cd.length
theorem OmM.mono {W W' : World} {B ob eb rb : Nat} {g vv t : Value} {v : Ov} {m : Mk} (h : OmM W B ob eb rb g vv t v m) (h2 : Om W' B ob eb rb g vv t 0 v m.on m.cd m.ev m.rw) : OmM W' B ob eb rb g vv t v m := ⟨h2, h.e, h.r⟩
section
variable {P : Pl} {W : World} {B ob eb rb : Nat} {g vv t : Value} {v : Ov} {m : Mk} {l : List Ac} {oa : Option Addr} {cap : Nat}
theorem mk_i (h : OmM W B ob eb rb g vv t v m) (n : Int) (hs : Src W oa l.length (acs l)) (hw : Right P l) (hl : l.length ≤ 131072) (hb : m.cd.length + 4 * l.length + 1 ≤ 1048576) :
   Calls Try.prog 69 #[.int .i64 n, .slice oa l.length cap, .pointer (some ⟨ob, 0, none⟩), .pointer (some ⟨eb, 0, none⟩), .pointer (some ⟨rb, 0, none⟩)] W fun en w' => en = .returned (.int .i64 (m.add n l).2) ∧ ∃ v' : Ov, v'.o = v.o ∧ OmM w' B ob eb rb g vv t v' (m.add n l).1 ∧ Oto W w' ob eb rb v v' := by
 by_cases h0 : l = []
 · subst h0
   rw [add_nil]
   refine (mk_nil W n oa cap _ _ _).mono ?_
   rintro en w' ⟨rfl, rfl⟩
   exact ⟨rfl, v, rfl, h, Oto.refl _ _ _ _ _⟩
 · have hp : 0 < l.length := List.length_pos_iff.2 h0
   obtain ⟨ad, rfl, _⟩ := hs hp
   have hel := ev_le (hw h0)
   refine (mk_some h.o n hs hp (hw h0) hl (by omega) h.e h.r).mono ?_
   rintro en w' ⟨rfl, v', h1, h2, h3⟩
   rw [add_some h0]
   refine ⟨rfl, v', h1, ⟨h2, ?_, ?_⟩, h3⟩
   · simp [h.e, finL]
   · simp [h.r, finL, cdR_length]
end
/-! made's region 10: an event's place, laid behind the others -/
def K10 (ob : Nat) (u f : Value) (n : Int) (x : Value) : Nat → Option Value
 | 0 => some (.pointer (some ⟨ob, 3, none⟩))
 | 1 => some u
 | 2 => some f
 | 3 => some (.int .i64 n)
 | 4 => some x
 | 8 => some (.pointer (some ⟨ob, 3, none⟩))
 | _ => none
/-- behind the append -/
def App10 (wc : World) (B : Nat) (u : Value) (m : Mk) (r : Int) (y : Value) (w6 : World) : Prop :=
 ∃ w1, Below wc.heap.size wc w1 ∧ w1.grownBy w6 u.ownBlock ∧ w6.ownsRow B 3 1 y (m.on.length + 1) (ints m.on ++ [.int .i64 r]) ∧ (y.ownBlock = u.ownBlock ∨ y.ownBlock = some w1.heap.size)
structure J10 (W : World) (B ob eb rb : Nat) (g vv t : Value) (v : Ov) (m m' : Mk) (n r : Int) (f x : Value) (S : Nat → Bool) (vs : Nat → Value) (w : World) : Prop where
 k : ∀ i c, K10 ob v.o f n x i = some c → S i = true → vs i = c
 b : S 5 = false → w = W.drew
 s5 : S 5 = true → vs 5 = .int .i64 r ∧ ∃ wc v', v'.o = v.o ∧ OmM wc B ob eb rb g vv t v' m' ∧ Oto W wc ob eb rb v v' ∧
   (S 7 = false → Below wc.heap.size wc w ∧ (S 6 = true → ∃ k, vs 6 = .slice (some ⟨k, 0, none⟩) 1 1 ∧ w.cell? ⟨k, 0, none⟩ = some (.int .i64 r) ∧ k < w.heap.size)) ∧
   (S 7 = true → ∃ w6, App10 wc B v.o m' r (vs 7) w6 ∧ (S 9 = false → w = w6) ∧ (S 9 = true → w = w6.setCell ⟨ob, 3, none⟩ (vs 7)))
section
variable {W w w' : World} {B ob eb rb : Nat} {g vv t : Value} {v v' : Ov} {m m' : Mk} {n r : Int} {f x : Value} {S : Nat → Bool} {vs : Nat → Value} {j : Nat} {c u : Value}
theorem J10.kn (h : J10 W B ob eb rb g vv t v m m' n r f x S vs w) {j : Nat} {c : Value} (hj : ∀ d, K10 ob v.o f n x j = some d → c = d) : ∀ i d, K10 ob v.o f n x i = some d → upn S j true i = true → upn vs j c i = d := by
 intro i d hk hS
 by_cases hkj : i = j
 · subst hkj
   rw [upn_eq]
   exact hj d hk
 · rw [upn_ne hkj] at hS ⊢
   exact h.k i d hk hS
theorem J10.known (h : J10 W B ob eb rb g vv t v m m' n r f x S vs w) (hj : j ≠ 5 ∧ j ≠ 6 ∧ j ≠ 7 ∧ j ≠ 9) (hk : K10 ob v.o f n x j = some u) : J10 W B ob eb rb g vv t v m m' n r f x (upn S j true) (upn vs j u) w := by
 obtain ⟨h5, h6, h7, h9⟩ := hj
 refine ⟨h.kn (fun d hd => by rw [hk] at hd; injection hd), fun h8 => ?_, fun h8 => ?_⟩
 · rw [upn_ne (Ne.symm h5)] at h8; exact h.b h8
 · rw [upn_ne (Ne.symm h5)] at h8
   rw [upn_ne (Ne.symm h5), upn_ne (Ne.symm h7), upn_ne (Ne.symm h6), upn_ne (Ne.symm h6), upn_ne (Ne.symm h7), upn_ne (Ne.symm h9)]
   exact h.s5 h8
theorem J10.c5 (h : J10 W B ob eb rb g vv t v m m' n r f x S vs w) (h6 : S 6 = false) (h7 : S 7 = false) (h1 : v'.o = v.o) (h2 : OmM w' B ob eb rb g vv t v' m') (h3 : Oto W w' ob eb rb v v') : J10 W B ob eb rb g vv t v m m' n r f x (upn S 5 true) (upn vs 5 (.int .i64 r)) w' := by
 refine ⟨h.kn (fun d hd => by simp [K10] at hd), fun h8 => ?_, fun _ => ⟨upn_eq, w', v', h1, h2, h3, fun _ => ⟨Below.refl _ _, fun h8 => ?_⟩, fun h8 => ?_⟩⟩
 · rw [upn_eq] at h8; cases h8
 · rw [upn_ne (by decide : (6 : Nat) ≠ 5), h6] at h8; cases h8
 · rw [upn_ne (by decide : (7 : Nat) ≠ 5), h7] at h8; cases h8
theorem J10.c6 (h : J10 W B ob eb rb g vv t v m m' n r f x S vs w) (h5 : S 5 = true) (h7 : S 7 = false) : J10 W B ob eb rb g vv t v m m' n r f x (upn S 6 true) (upn vs 6 (.slice (some ⟨w.heap.size, 0, none⟩) 1 1)) (w.alloc (.cells #[.int .i64 r] 3)) := by
 obtain ⟨e5, wc, v', h1, h2, h3, h4, _⟩ := h.s5 h5
 have hb := (h4 h7).1
 refine ⟨h.kn (fun d hd => by simp [K10] at hd), fun h8 => ?_, fun _ => ⟨by rw [upn_ne (by decide : (5 : Nat) ≠ 6)]; exact e5, wc, v', h1, h2, h3, fun _ => ⟨hb.alloc hb.size _, fun _ => ?_⟩, fun h8 => ?_⟩⟩
 · rw [upn_ne (by decide : (5 : Nat) ≠ 6), h5] at h8; cases h8
 · rw [upn_eq]
   exact ⟨_, rfl, (Blk.new w 3 #[.int .i64 r]).cell 0, by simp⟩
 · rw [upn_ne (by decide : (7 : Nat) ≠ 6), h7] at h8; cases h8
theorem J10.own (h : J10 W B ob eb rb g vv t v m m' n r f x S vs w) (h5 : S 5 = true) (h7 : S 7 = false) : w.ownsRow B 3 1 v.o m'.on.length (ints m'.on) ∧ B ≤ w.heap.size := by
 obtain ⟨_, wc, v', h1, h2, h3, h4, _⟩ := h.s5 h5
 have hb := (h4 h7).1
 rw [← h1]
 exact ⟨own_below h2.o.oo hb (Nat.le_refl _), Nat.le_trans h2.o.size hb.size⟩
theorem J10.c7 (h : J10 W B ob eb rb g vv t v m m' n r f x S vs w) (h5 : S 5 = true) (h7 : S 7 = false) (h9 : S 9 = false) (hown : w'.ownsRow B 3 1 u (m'.on.length + 1) (ints m'.on ++ [.int .i64 r])) (hg : w.grownBy w' v.o.ownBlock) (hat : u.ownBlock = v.o.ownBlock ∨ u.ownBlock = some w.heap.size) : J10 W B ob eb rb g vv t v m m' n r f x (upn S 7 true) (upn vs 7 u) w' := by
 obtain ⟨e5, wc, v', h1, h2, h3, h4, _⟩ := h.s5 h5
 refine ⟨h.kn (fun d hd => by simp [K10] at hd), fun h8 => ?_, fun _ => ⟨by rw [upn_ne (by decide : (5 : Nat) ≠ 7)]; exact e5, wc, v', h1, h2, h3, fun h8 => ?_, fun _ => ⟨w', ⟨w, (h4 h7).1, hg, ?_, ?_⟩, fun _ => rfl, fun h8 => ?_⟩⟩⟩
 · rw [upn_ne (by decide : (5 : Nat) ≠ 7), h5] at h8; cases h8
 · rw [upn_eq] at h8; cases h8
 · rw [upn_eq]; exact hown
 · rw [upn_eq]; exact hat
 · rw [upn_ne (by decide : (9 : Nat) ≠ 7), h9] at h8; cases h8
theorem J10.c9 (h : J10 W B ob eb rb g vv t v m m' n r f x S vs w) (h5 : S 5 = true) (h7 : S 7 = true) (h9 : S 9 = false) : J10 W B ob eb rb g vv t v m m' n r f x (upn S 9 true) (upn vs 9 c) (w.setCell ⟨ob, 3, none⟩ (vs 7)) := by
 obtain ⟨e5, wc, v', h1, h2, h3, _, h4⟩ := h.s5 h5
 obtain ⟨w6, ha, h8, _⟩ := h4 h7
 refine ⟨h.kn (fun d hd => by simp [K10] at hd), fun h8 => ?_, fun _ => ⟨by rw [upn_ne (by decide : (5 : Nat) ≠ 9)]; exact e5, wc, v', h1, h2, h3, fun h8 => ?_, fun _ => ⟨w6, ?_, fun h8 => ?_, fun _ => ?_⟩⟩⟩
 · rw [upn_ne (by decide : (5 : Nat) ≠ 9), h5] at h8; cases h8
 · rw [upn_ne (by decide : (7 : Nat) ≠ 9), h7] at h8; cases h8
 · rw [upn_ne (by decide : (7 : Nat) ≠ 9)]; exact ha
 · rw [upn_eq] at h8; cases h8
 · rw [upn_ne (by decide : (7 : Nat) ≠ 9), h8 h9]
theorem J10.load (h : J10 W B ob eb rb g vv t v m m' n r f x S vs w) (h7 : S 7 = false) (hc : W.cell? ⟨ob, 3, none⟩ = some v.o) : w.cell? ⟨ob, 3, none⟩ = some v.o := by
 cases h5 : S 5 with
 | false => rw [h.b h5]; exact hc
 | true =>
   obtain ⟨e5, wc, v', h1, h2, h3, h4, _⟩ := h.s5 h5
   have hk := h2.o.kk.below (h4 h7).1 h2.o.kk.lt
   rw [hk.cell, ← h1]
   rfl
theorem J10.mid (h : J10 W B ob eb rb g vv t v m m' n r f x S vs w) (h5 : S 5 = true) (h7 : S 7 = true) (h9 : S 9 = false) : (∃ k, w.cell? ⟨ob, 3, none⟩ = some k) ∧ w.frozen? ⟨ob, 3, none⟩ = false ∧ ∃ oa c, vs 7 = .slice oa (m'.on.length + 1) c := by
 obtain ⟨e5, wc, v', h1, h2, h3, _, h4⟩ := h.s5 h5
 obtain ⟨w6, ⟨w1, hb, hg, ho, ha⟩, h8, _⟩ := h4 h7
 rw [h8 h9]
 rw [← h1] at hg
 have hk := (h2.o.kk.below hb h2.o.kk.lt).grown hg (fun e => own_blk_ne h2.o.oo h2.o.kk (by decide) e.symm)
 exact ⟨⟨_, hk.cell 3⟩, hk.frozen 3, own_slice ho⟩
theorem J10.fin (h : J10 W B ob eb rb g vv t v m m' n r f x (fun _ => true) vs w) : ∃ v', OmM w B ob eb rb g vv t v' { m' with on := m'.on ++ [r] } ∧ Oto W w ob eb rb v v' := by
 obtain ⟨e5, wc, v', h1, h2, h3, _, h4⟩ := h.s5 rfl
 obtain ⟨w6, ⟨w1, hb, hg, ho, ha⟩, _, h8⟩ := h4 rfl
 rw [← h1] at hg ha
 obtain ⟨a1, a2⟩ := h2.o.app_o hb ho hg ha
 rw [h8 rfl]
 exact ⟨_, ⟨a1, h2.e, h2.r⟩, h3.trans a2⟩
theorem J10.start (W : World) (B ob eb rb : Nat) (g vv t : Value) (v : Ov) (m m' : Mk) (n r : Int) (f x : Value) (vs : Nat → Value) : J10 W B ob eb rb g vv t v m m' n r f x (fun i => decide (10 ≤ i)) vs W.drew := by
 refine ⟨fun k c hk hS => ?_, fun _ => rfl, fun h9 => ?_⟩
 · simp at hS
   obtain ⟨m, rfl⟩ : ∃ m, k = m + 10 := ⟨k - 10, by omega⟩
   simp [K10] at hk
 · simp at h9
end
end Go.Proofs.Ytdpokdcendgfeaa
