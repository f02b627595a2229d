/- Several texts in one: The walk of gen's act, by kinds. The walk of gen's act, by kinds. gen's act at every row of a tree. The walk of the closure that lays a place. The walks of gen's event and of its deferred closure. gen's program under way in memory. How long a row's code is. Nothing here names the program's functions. gen.made's closure: words for memory. gen.made's closure, region 17 (two appends in one statement): what holds of the operations that have come up, whatever the order. Conditions: those of each. -/
import Derived.Test.YtdpokdcendgfeaaZ3
import Derived.StillTailTactics
import Derived.Test.YtdpokdcendgfeaaZ4
import Derived.Defers
import Derived.Deep.RegionHeld3
import Derived.Test.YtdpokdcendgfeaaZ1
set_option linter.unusedSimpArgs false
set_option linter.unusedVariables false
set_option maxHeartbeats 40000000
namespace Go.Proofs.Ytdpokdcendgfeaa
open Go.RowKit
section
variable {P : Pl} {l : List Ac} {f : Nat} {B b : Nat} {ad : Addr} {ca ge : Nat} {W : World} {v : Wv} {cd : List In} {rw : List Int} {lt : List Value} {i : Nat} {xa xb xc xd : Int}
set_option maxRecDepth 100000 in
theorem act_plain (hg : Gw W B b l ad ca ge v cd rw lt cd.length) (hr : rw.length = cd.length) (hxl : lt.length ≤ cd.length) {xk xn op : Int} (hx : l[i]? = some ⟨xk, xa, xb, xc, xd, xn⟩) (hpl : plainV xk = (op, true)) (hb : cd.length + 1 ≤ 1048576) :
   ActGoal l B b ad ca ge W v cd rw lt i [sayC op xa xb xc xd i] := by
 unfold ActGoal
 have HBX := hide ((Below.refl W.heap.size W).alloc (Nat.le_refl _) (.cells #[.int .i64 xk, .int .i64 xa, .int .i64 xb, .int .i64 xc, .int .i64 xd, .int .i64 xn] 49))
 have HBK := hide (Blk.new W 49 #[.int .i64 xk, .int .i64 xa, .int .i64 xb, .int .i64 xc, .int .i64 xd, .int .i64 xn])
 have HPL := fun W' : World => hide (show Calls Try.prog 150 #[.int .i64 xk] W' fun en w' => en = .returned (.tuple #[.int .i64 op, .bool true]) ∧ w' = W' from by have := plain_i W' xk; rw [hpl] at this; exact this)
 have hst := sta_init hg hr hxl HBX.out
 have hc9 := sta_say hst i op xa xb xc xd (N := cd.length) (by simp) (by omega)
 have HC9 := hide hc9
 obtain ⟨q0, q1, _⟩ := gw_cells hg
 obtain ⟨ad', e', hab, p0, p1, p2, p3, p4, p5⟩ := acs_row hg.ke.src hx
 cases e'
 simp only at p0 p1 p2 p3 p4 p5
 have hil := (List.getElem?_eq_some_iff.1 hx).1
 have hI0 : (0 : Int) ≤ (i : Int) := by omega
 have hI1 : (i : Int) < (l.length : Int) := by omega
 have y0 : (W.alloc (.cells #[.int .i64 xk, .int .i64 xa, .int .i64 xb, .int .i64 xc, .int .i64 xd, .int .i64 xn] 49)).cell? ⟨W.heap.size, 0, none⟩ = some (.int .i64 xk) := HBK.out.cell 0
 have y1 : (W.alloc (.cells #[.int .i64 xk, .int .i64 xa, .int .i64 xb, .int .i64 xc, .int .i64 xd, .int .i64 xn] 49)).cell? ⟨W.heap.size, 1, none⟩ = some (.int .i64 xa) := HBK.out.cell 1
 have y2 : (W.alloc (.cells #[.int .i64 xk, .int .i64 xa, .int .i64 xb, .int .i64 xc, .int .i64 xd, .int .i64 xn] 49)).cell? ⟨W.heap.size, 2, none⟩ = some (.int .i64 xb) := HBK.out.cell 2
 have y3 : (W.alloc (.cells #[.int .i64 xk, .int .i64 xa, .int .i64 xb, .int .i64 xc, .int .i64 xd, .int .i64 xn] 49)).cell? ⟨W.heap.size, 3, none⟩ = some (.int .i64 xc) := HBK.out.cell 3
 have y4 : (W.alloc (.cells #[.int .i64 xk, .int .i64 xa, .int .i64 xb, .int .i64 xc, .int .i64 xd, .int .i64 xn] 49)).cell? ⟨W.heap.size, 4, none⟩ = some (.int .i64 xd) := HBK.out.cell 4
 clear hg hx hab hst hc9 hpl
 go_enter Try.func110, Try.ntmps110
 go_wp2_with (first
   | (go_at_call 150; refine (HPL _).out.mono ?_; rintro en w1 ⟨rfl, rfl⟩)
   | (go_at_call 111; with_reducible refine HC9.out.mono ?_; rintro en w30 ⟨rfl, v30, hst9⟩; have HST9 := hide hst9; clear hst9))
 first
 | go_end0
 | refine bodyPost_ret (results_none rfl _ _ _) rfl ?_
 refine ⟨rfl, sta_done HST9.out (fun a => 0) ?_ (by simp) ?_⟩
 · simp [jumpsC, sayC]
 · intro p pc hm
   simp at hm
set_option maxRecDepth 100000 in
theorem act_block (HA : ActAll P l f) (hg : Gw W B b l ad ca ge v cd rw lt cd.length) (hr : rw.length = cd.length) (hxl : lt.length ≤ cd.length) {n : Nat} (hx : l[i]? = some ⟨1, xa, xb, xc, xd, (n : Int)⟩)
   {sp : List (Nat × Nat)} (hks : kidsS l n (i + 1) = some sp) (hsp : sp.length = n) (hws : ∀ r ∈ sp, ∃ what, (what ≠ 5 ∧ what ≠ -1) ∧ Wf P l f what r.1 r.2) (hl : l.length ≤ 262144) (hnl : (n : Int) ≤ (l.length : Int))
   (hb : cd.length + (seqC (actC l f) (sp.map Prod.fst) cd.length).length ≤ 1048576) :
   ActGoal l B b ad ca ge W v cd rw lt i (seqC (actC l f) (sp.map Prod.fst) cd.length) := by
 unfold ActGoal
 have HG := hide hg
 have HWS := hide hws
 have HSP := hide hsp
 have HBX := hide ((Below.refl W.heap.size W).alloc (Nat.le_refl _) (.cells #[.int .i64 1, .int .i64 xa, .int .i64 xb, .int .i64 xc, .int .i64 xd, .int .i64 (n : Int)] 49))
 have HBK := hide (Blk.new W 49 #[.int .i64 1, .int .i64 xa, .int .i64 xb, .int .i64 xc, .int .i64 xd, .int .i64 (n : Int)])
 have HPL := fun W' : World => hide (show Calls Try.prog 150 #[.int .i64 1] W' fun en w' => en = .returned (.tuple #[.int .i64 0, .bool false]) ∧ w' = W' from by simpa [plainV] using plain_i W' 1)
 have HK := hide (kidsG_i (hg.grow HBX.out) i ⟨1, xa, xb, xc, xd, (n : Int)⟩ sp hx (by simpa using hks) (show (0 : Int) ≤ (n : Int) by omega) hnl hl)
 obtain ⟨q0, q1, _⟩ := gw_cells hg
 obtain ⟨ad', e', hab, p0, p1, p2, p3, p4, p5⟩ := acs_row hg.ke.src hx
 cases e'
 simp only at p0 p1 p2 p3 p4 p5
 have hil := (List.getElem?_eq_some_iff.1 hx).1
 have hI0 : (0 : Int) ≤ (i : Int) := by omega
 have hI1 : (i : Int) < (l.length : Int) := by omega
 have y0 : (W.alloc (.cells #[.int .i64 1, .int .i64 xa, .int .i64 xb, .int .i64 xc, .int .i64 xd, .int .i64 (n : Int)] 49)).cell? ⟨W.heap.size, 0, none⟩ = some (.int .i64 1) := HBK.out.cell 0
 have hnl2 : n ≤ 262144 := by omega
 have hks0 : (sp.map Prod.fst).length = n := by simp [hsp]
 have HKS := hide hks0
 clear hg hx hab hws hsp
 go_enter Try.func110, Try.ntmps110
 go_upto_region 6 with (first
   | (go_at_call 150; refine (HPL _).out.mono ?_; rintro en w1 ⟨rfl, rfl⟩)
   | (go_at_call 151; refine HK.out.mono ?_; rintro en w2 ⟨u, rfl, hown, hbl⟩; have HOWN := hide hown; have HBL := hide hbl; clear hown hbl))
 have hown2 : w2.ownsRow (W.alloc (.cells #[.int .i64 1, .int .i64 xa, .int .i64 xb, .int .i64 xc, .int .i64 xd, .int .i64 (n : Int)] 49)).heap.size 3 1 u (sp.map Prod.fst).length (ints ((sp.map Prod.fst).map fun r : Nat => (r : Int))) := by
   have := HOWN.out
   simpa [List.map_map, Function.comp_def] using this
 obtain ⟨oa, cp, kb, rfl, hka⟩ : ∃ oa cp kb, u = .slice oa n cp ∧ (0 < n → oa = some ⟨kb, 0, none⟩) := by
   rcases Nat.eq_zero_or_pos n with h0 | h0
   · obtain ⟨oa, cp, e⟩ := own_slice hown2
     exact ⟨oa, cp, 0, by rw [e, HKS.out], fun h => by omega⟩
   · obtain ⟨kb, cp, e, _⟩ := own_form hown2 (by rw [HKS.out]; omega)
     exact ⟨_, cp, kb, by rw [e, HKS.out], fun _ => rfl⟩
 obtain ⟨lo, H, hst, hbo⟩ : ∃ lo H, Sta B b l ad ca ge W v cd rw lt lo H ((w2.alloc (.cells #[.int .i64 0] 3)).alloc (.cells #[.int .i64 0] 3)) v [] [] [] ∧ Boxes W lo H ⟨1, xa, xb, xc, xd, (n : Int)⟩ W.heap.size kb (sp.map Prod.fst) w2.heap.size (w2.heap.size + 1) (.int .i64 0) (.int .i64 0) :=
   ⟨_, _, sta_init HG.out hr hxl (((HBX.out.trans (HBL.out.mono HBX.out.size)).alloc (Nat.le_trans HBX.out.size HBL.out.size) _).alloc (by have := HBX.out.size; have := HBL.out.size; simp at this ⊢; omega) _), boxes_init _ 0 HBK.out HBL.out hown2 (fun h0 => ⟨cp, by rw [HKS.out, hka (by rw [← HKS.out]; exact List.length_pos_iff.2 h0)]⟩)⟩
 have hlo : W.heap.size ≤ lo := by have := hbo.rx; omega
 generalize ((w2.alloc (.cells #[.int .i64 0] 3)).alloc (.cells #[.int .i64 0] 3)) = W1 at hst
 generalize w2.heap.size = eb at hbo
 obtain ⟨fb, hfb⟩ : ∃ fb, eb + 1 = fb := ⟨_, rfl⟩
 rw [hfb] at hbo
 rw [hfb]
 have HST0 := hide hst
 have HBO0 := hide hbo
 obtain ⟨c0x, c0a, fk0, fe0, ff0, ze0, zf0⟩ := sta_facts hst hbo
 have HKA := hide hka
 clear fk0 hst hbo hown2 HOWN HBL HK HPL HBX HBK q0 q1 p0 p1 p2 p3 p4 p5 y0 hI0 hI1 hil hnl hfb hka c0a fe0 ff0 ze0 zf0 hks0
 go_wp2_with fail
 clear c0x
 go_loopw [70] (fun t70 W' => ∃ (j : Nat) (vj : Wv) (xj : List Value), t70 = .int .i64 (j : Int) ∧ j ≤ n ∧ Sta B b l ad ca ge W v cd rw lt lo H W' vj (seqC (actC l f) ((sp.map Prod.fst).take j) cd.length) xj (jumpsC cd.length (seqC (actC l f) ((sp.map Prod.fst).take j) cd.length))) (fun t70 _ => n - (intOf t70).toNat)
 case atStart => exact ⟨0, v, [], rfl, Nat.zero_le _, by simpa [seqC, jumpsC] using HST0.out⟩
 case round =>
   obtain ⟨j, vj, xj, rfl, hj, hstj⟩ := hrel
   rename World => Wj
   have HSTJ := hide hstj
   clear HST0
   have hq2 := IntWalk.i64_in ((j : Int) + 1) (by omega)
   by_cases hjn : j < n
   · obtain rfl := HKA.out (by omega)
     have hjI : (j : Int) < (n : Int) := by omega
     obtain ⟨r, hr9⟩ : ∃ r, sp[j]? = some r := ⟨_, List.getElem?_eq_getElem (by rw [HSP.out]; exact hjn)⟩
     obtain ⟨what, hw5, hwf⟩ := HWS.out r (List.mem_of_getElem? hr9)
     obtain ⟨r0, r1⟩ := r
     simp only at hwf
     have hkj : (sp.map Prod.fst)[j]? = some r0 := by simp [hr9]
     have HTK := hide (show seqC (actC l f) ((sp.map Prod.fst).take (j + 1)) cd.length = seqC (actC l f) ((sp.map Prod.fst).take j) cd.length ++ actC l f r0 (cd.length + (seqC (actC l f) ((sp.map Prod.fst).take j) cd.length).length) from by rw [List.take_add_one, hkj, Option.toList_some, seqC_append]; simp [seqC])
     have hle := seqC_take_le (actC l f) (sp.map Prod.fst) (j + 1) cd.length
     rw [HTK.out, List.length_append] at hle
     obtain ⟨_, _, fkj, _⟩ := sta_facts hstj HBO0.out
     have ckj := fkj j r0 hkj
     obtain ⟨Nj, hNj⟩ : ∃ Nj, cd.length + (seqC (actC l f) ((sp.map Prod.fst).take j) cd.length).length = Nj := ⟨_, rfl⟩
     have hcj := sta_act HA hstj what r0 r1 hwf hw5 hNj (by rw [hNj] at hle; omega)
     have HCJ := hide hcj
     have HNJ := hide hNj
     clear hcj hle hstj hr9 hkj fkj hwf hw5 hNj
     go_wp2_with (go_at_call 110
                  with_reducible refine HCJ.out.mono ?_
                  rintro en w30 ⟨rfl, v30, ys30, hst9⟩
                  have HST9 := hide hst9
                  clear hst9)
     go_roundw
     case rel =>
       refine ⟨j + 1, v30, xj ++ ys30, by go_num, by omega, ?_⟩
       rw [HTK.out, jumpsC_append, HNJ.out]
       exact HST9.out
     case measure =>
       simp only [intOf]
       omega
   · have hjn2 : j = n := by omega
     have HSTF := hide (show Sta B b l ad ca ge W v cd rw lt lo H Wj vj (seqC (actC l f) (sp.map Prod.fst) cd.length) xj (jumpsC cd.length (seqC (actC l f) (sp.map Prod.fst) cd.length)) by
       have := hstj
       rw [hjn2, ← HKS.out, List.take_length] at this
       exact this)
     have hjI : ¬ (j : Int) < (n : Int) := by omega
     clear hstj HSTJ hjn2 hjn
     go_wp2_with fail
     first
     | go_end0
     | refine bodyPost_ret (results_none rfl _ _ _) rfl ?_
     refine ⟨rfl, sta_done HSTF.out (fun a => 0) (resolve_jumps _ _ _) hlo ?_⟩
     intro p pc hm
     exact (not_inr _ _ hm).elim
end
end Go.Proofs.Ytdpokdcendgfeaa
namespace Go.Proofs.Ytdpokdcendgfeaa
open Go.RowKit
section
variable {P : Pl} {l : List Ac} {f : Nat} {B b : Nat} {ad : Addr} {ca ge : Nat} {W : World} {v : Wv} {cd : List In} {rw : List Int} {lt : List Value} {i : Nat} {xa xb xc xd : Int}
set_option maxRecDepth 100000 in
theorem act_dflt (HA : ActAll P l f) (hg : Gw W B b l ad ca ge v cd rw lt cd.length) (hr : rw.length = cd.length) (hxl : lt.length ≤ cd.length) {xk : Int} (hpl : plainV xk = (0, false)) (hkk : xk ≠ 1 ∧ xk ≠ 2 ∧ xk ≠ 3 ∧ xk ≠ 5 ∧ xk ≠ 25 ∧ xk ≠ 37 ∧ xk ≠ 38) {n : Nat} (hx : l[i]? = some ⟨xk, xa, xb, xc, xd, (n : Int)⟩)
   {sp : List (Nat × Nat)} (hks : kidsS l n (i + 1) = some sp) (hsp : sp.length = n) (hws : ∀ r ∈ sp, ∃ what, (what ≠ 5 ∧ what ≠ -1) ∧ Wf P l f what r.1 r.2) (hl : l.length ≤ 262144) (hnl : (n : Int) ≤ (l.length : Int))
   (hb : cd.length + (seqC (actC l f) (sp.map Prod.fst) cd.length).length + 1 ≤ 1048576) :
   ActGoal l B b ad ca ge W v cd rw lt i (seqC (actC l f) (sp.map Prod.fst) cd.length ++ [sayC (behindV xk) xa 0 0 0 i]) := by
 unfold ActGoal
 have HG := hide hg
 have HWS := hide hws
 have HSP := hide hsp
 have HBX := hide ((Below.refl W.heap.size W).alloc (Nat.le_refl _) (.cells #[.int .i64 xk, .int .i64 xa, .int .i64 xb, .int .i64 xc, .int .i64 xd, .int .i64 (n : Int)] 49))
 have HBK := hide (Blk.new W 49 #[.int .i64 xk, .int .i64 xa, .int .i64 xb, .int .i64 xc, .int .i64 xd, .int .i64 (n : Int)])
 have HPL := fun W' : World => hide (show Calls Try.prog 150 #[.int .i64 xk] W' fun en w' => en = .returned (.tuple #[.int .i64 0, .bool false]) ∧ w' = W' from by have := plain_i W' xk; rw [hpl] at this; exact this)
 have HK := hide (kidsG_i (hg.grow HBX.out) i ⟨xk, xa, xb, xc, xd, (n : Int)⟩ sp hx (by simpa using hks) (show (0 : Int) ≤ (n : Int) by omega) hnl hl)
 obtain ⟨q0, q1, _⟩ := gw_cells hg
 obtain ⟨ad', e', hab, p0, p1, p2, p3, p4, p5⟩ := acs_row hg.ke.src hx
 cases e'
 simp only at p0 p1 p2 p3 p4 p5
 have hil := (List.getElem?_eq_some_iff.1 hx).1
 have hI0 : (0 : Int) ≤ (i : Int) := by omega
 have hI1 : (i : Int) < (l.length : Int) := by omega
 have y0 : (W.alloc (.cells #[.int .i64 xk, .int .i64 xa, .int .i64 xb, .int .i64 xc, .int .i64 xd, .int .i64 (n : Int)] 49)).cell? ⟨W.heap.size, 0, none⟩ = some (.int .i64 xk) := HBK.out.cell 0
 have hnl2 : n ≤ 262144 := by omega
 have hks0 : (sp.map Prod.fst).length = n := by simp [hsp]
 have HKS := hide hks0
 clear hg hx hab hws hsp
 go_enter Try.func110, Try.ntmps110
 go_upto_region 6 with (first
   | (go_at_call 150; refine (HPL _).out.mono ?_; rintro en w1 ⟨rfl, rfl⟩)
   | (go_at_call 151; refine HK.out.mono ?_; rintro en w2 ⟨u, rfl, hown, hbl⟩; have HOWN := hide hown; have HBL := hide hbl; clear hown hbl))
 have hown2 : w2.ownsRow (W.alloc (.cells #[.int .i64 xk, .int .i64 xa, .int .i64 xb, .int .i64 xc, .int .i64 xd, .int .i64 (n : Int)] 49)).heap.size 3 1 u (sp.map Prod.fst).length (ints ((sp.map Prod.fst).map fun r : Nat => (r : Int))) := by
   have := HOWN.out
   simpa [List.map_map, Function.comp_def] using this
 obtain ⟨oa, cp, kb, rfl, hka⟩ : ∃ oa cp kb, u = .slice oa n cp ∧ (0 < n → oa = some ⟨kb, 0, none⟩) := by
   rcases Nat.eq_zero_or_pos n with h0 | h0
   · obtain ⟨oa, cp, e⟩ := own_slice hown2
     exact ⟨oa, cp, 0, by rw [e, HKS.out], fun h => by omega⟩
   · obtain ⟨kb, cp, e, _⟩ := own_form hown2 (by rw [HKS.out]; omega)
     exact ⟨_, cp, kb, by rw [e, HKS.out], fun _ => rfl⟩
 obtain ⟨lo, H, hst, hbo⟩ : ∃ lo H, Sta B b l ad ca ge W v cd rw lt lo H ((w2.alloc (.cells #[.int .i64 0] 3)).alloc (.cells #[.int .i64 0] 3)) v [] [] [] ∧ Boxes W lo H ⟨xk, xa, xb, xc, xd, (n : Int)⟩ W.heap.size kb (sp.map Prod.fst) w2.heap.size (w2.heap.size + 1) (.int .i64 0) (.int .i64 0) :=
   ⟨_, _, sta_init HG.out hr hxl (((HBX.out.trans (HBL.out.mono HBX.out.size)).alloc (Nat.le_trans HBX.out.size HBL.out.size) _).alloc (by have := HBX.out.size; have := HBL.out.size; simp at this ⊢; omega) _), boxes_init _ 0 HBK.out HBL.out hown2 (fun h0 => ⟨cp, by rw [HKS.out, hka (by rw [← HKS.out]; exact List.length_pos_iff.2 h0)]⟩)⟩
 have hlo : W.heap.size ≤ lo := by have := hbo.rx; omega
 generalize ((w2.alloc (.cells #[.int .i64 0] 3)).alloc (.cells #[.int .i64 0] 3)) = W1 at hst
 generalize w2.heap.size = eb at hbo
 obtain ⟨fb, hfb⟩ : ∃ fb, eb + 1 = fb := ⟨_, rfl⟩
 rw [hfb] at hbo
 rw [hfb]
 have HST0 := hide hst
 have HBO0 := hide hbo
 obtain ⟨c0x, c0a, fk0, fe0, ff0, ze0, zf0⟩ := sta_facts hst hbo
 have HKA := hide hka
 clear fk0 hst hbo hown2 HOWN HBL HK HPL HBX HBK q0 q1 p0 p1 p2 p3 p4 p5 y0 hI0 hI1 hil hnl hfb hka c0a fe0 ff0 ze0 zf0 hks0
 have hk1 : (xk == 1) = false := by simp [hkk]
 have hk2 : (xk == 2) = false := by simp [hkk]
 have hk3 : (xk == 3) = false := by simp [hkk]
 have hk5 : (xk == 5) = false := by simp [hkk]
 have hk25 : (xk == 25) = false := by simp [hkk]
 have hk37 : (xk == 37) = false := by simp [hkk]
 have hk38 : (xk == 38) = false := by simp [hkk]
 clear hkk hpl
 go_wp2_with fail
 clear c0x
 go_loopw [49] (fun t49 W' => ∃ (j : Nat) (vj : Wv) (xj : List Value), t49 = .int .i64 (j : Int) ∧ j ≤ n ∧ Sta B b l ad ca ge W v cd rw lt lo H W' vj (seqC (actC l f) ((sp.map Prod.fst).take j) cd.length) xj (jumpsC cd.length (seqC (actC l f) ((sp.map Prod.fst).take j) cd.length))) (fun t49 _ => n - (intOf t49).toNat)
 case atStart => exact ⟨0, v, [], rfl, Nat.zero_le _, by simpa [seqC, jumpsC] using HST0.out⟩
 case round =>
   obtain ⟨j, vj, xj, rfl, hj, hstj⟩ := hrel
   rename World => Wj
   have HSTJ := hide hstj
   clear HST0
   have hq2 := IntWalk.i64_in ((j : Int) + 1) (by omega)
   by_cases hjn : j < n
   · obtain rfl := HKA.out (by omega)
     have hjI : (j : Int) < (n : Int) := by omega
     obtain ⟨r, hr9⟩ : ∃ r, sp[j]? = some r := ⟨_, List.getElem?_eq_getElem (by rw [HSP.out]; exact hjn)⟩
     obtain ⟨what, hw5, hwf⟩ := HWS.out r (List.mem_of_getElem? hr9)
     obtain ⟨r0, r1⟩ := r
     simp only at hwf
     have hkj : (sp.map Prod.fst)[j]? = some r0 := by simp [hr9]
     have HTK := hide (show seqC (actC l f) ((sp.map Prod.fst).take (j + 1)) cd.length = seqC (actC l f) ((sp.map Prod.fst).take j) cd.length ++ actC l f r0 (cd.length + (seqC (actC l f) ((sp.map Prod.fst).take j) cd.length).length) from by rw [List.take_add_one, hkj, Option.toList_some, seqC_append]; simp [seqC])
     have hle := seqC_take_le (actC l f) (sp.map Prod.fst) (j + 1) cd.length
     rw [HTK.out, List.length_append] at hle
     obtain ⟨_, _, fkj, _⟩ := sta_facts hstj HBO0.out
     have ckj := fkj j r0 hkj
     obtain ⟨Nj, hNj⟩ : ∃ Nj, cd.length + (seqC (actC l f) ((sp.map Prod.fst).take j) cd.length).length = Nj := ⟨_, rfl⟩
     have hcj := sta_act HA hstj what r0 r1 hwf hw5 hNj (by rw [hNj] at hle; omega)
     have HCJ := hide hcj
     have HNJ := hide hNj
     clear hcj hle hstj hr9 hkj fkj hwf hw5 hNj
     go_wp2_with (go_at_call 110
                  with_reducible refine HCJ.out.mono ?_
                  rintro en w30 ⟨rfl, v30, ys30, hst9⟩
                  have HST9 := hide hst9
                  clear hst9)
     go_roundw
     case rel =>
       refine ⟨j + 1, v30, xj ++ ys30, by go_num, by omega, ?_⟩
       rw [HTK.out, jumpsC_append, HNJ.out]
       exact HST9.out
     case measure =>
       simp only [intOf]
       omega
   · have hjn2 : j = n := by omega
     have HSTF := hide (show Sta B b l ad ca ge W v cd rw lt lo H Wj vj (seqC (actC l f) (sp.map Prod.fst) cd.length) xj (jumpsC cd.length (seqC (actC l f) (sp.map Prod.fst) cd.length)) by
       have := hstj
       rw [hjn2, ← HKS.out, List.take_length] at this
       exact this)
     have hjI : ¬ (j : Int) < (n : Int) := by omega
     clear hstj HSTJ hjn2 hjn
     obtain ⟨cjx, cja, _⟩ := sta_facts HSTF.out HBO0.out
     obtain ⟨N, hN⟩ : ∃ N, cd.length + (seqC (actC l f) (sp.map Prod.fst) cd.length).length = N := ⟨_, rfl⟩
     have hc9 := sta_say HSTF.out.drew i (behindV xk) xa 0 0 0 (N := N) hN (by omega)
     have HC9 := hide hc9
     have HBE := hide (behind_i Wj.drew xk)
     simp only at cjx cja
     clear hc9 hN
     go_upto_region 12 with fail
     go_region_with (first
       | (go_at_call 155; refine HBE.out.mono ?_; rintro en w29 ⟨rfl, rfl⟩)
       | (go_at_call 111; with_reducible refine HC9.out.mono ?_; rintro en w30 ⟨rfl, v30, hst9⟩; have HST9 := hide hst9; clear hst9))
     all_goals
       go_wp2_with fail
       first
       | go_end0
       | refine bodyPost_ret (results_none rfl _ _ _) rfl ?_
       refine ⟨rfl, sta_done HST9.out (fun a => 0) ?_ hlo ?_⟩
       · rw [resolve_jumps, jumpsC_append]
         simp [jumpsC, sayC]
       · intro p pc hm
         exact (not_inr _ _ hm).elim
end
end Go.Proofs.Ytdpokdcendgfeaa
namespace Go.Proofs.Ytdpokdcendgfeaa
open Go.RowKit
theorem kids_all {R : Int → Nat → Nat → Prop} : ∀ (ws : List Int) (i : Nat) (sp : List (Nat × Nat)) (e : Nat), Kids R ws i sp e → ∀ r ∈ sp, ∃ w ∈ ws, R w r.1 r.2
 | [], i, [], e, h, r, hr => by simp at hr
 | w :: ws, i, q :: sp, e, h, r, hr => by
   rcases List.mem_cons.1 hr with rfl | hr
   · exact ⟨w, by simp, h.2.1⟩
   · obtain ⟨w', h1, h2⟩ := kids_all ws _ sp e h.2.2 r hr
     exact ⟨w', by simp [h1], h2⟩
 | [], i, r :: sp, e, h, _, _ => by simp [Kids] at h
 | w :: ws, i, [], e, h, _, hr => by simp at hr
theorem mayV_kind {what k : Int} (h : mayV what k = true) (h5 : what ≠ 5 ∧ what ≠ -1) : (1 ≤ k ∧ k ≤ 16) ∨ (19 ≤ k ∧ k ≤ 38) := by
 have ht : ∀ t, typeV k = t → 0 ≤ t → (19 ≤ k ∧ k ≤ 38) := fun t h1 h2 => by
   unfold typeV at h1
   split at h1
   · omega
   · split at h1 <;> omega
 unfold mayV at h
 split at h
 · simp at h; exact .inl h
 · split at h
   · simp at h; omega
   · split at h
     · simp at h; omega
     · split at h
       · simp at h; exact .inr (ht _ rfl h)
       · next h1 h2 h3 h4 =>
         simp at h
         refine .inr (ht _ rfl ?_)
         have : typeV k = 3 ∨ typeV k = 2 ∨ typeV k = -1 := by unfold typeV; split <;> (try split) <;> simp
         omega
theorem plainV_kinds {k : Int} (h : (1 ≤ k ∧ k ≤ 16) ∨ (19 ≤ k ∧ k ≤ 38)) (hp : ¬ (plainV k).2 = true) : k = 1 ∨ k = 2 ∨ k = 3 ∨ k = 4 ∨ k = 5 ∨ (25 ≤ k ∧ k ≤ 38) := by
 unfold plainV at hp
 repeat' split at hp
 all_goals first | (exact absurd rfl hp) | omega
theorem typeV_first {P : Pl} {l : List Ac} {f : Nat} {j e : Nat} (h : Wf P l f 4 j e) : typeV ((l[j]?.map Ac.k).getD 0) ≠ 5 ∧ typeV ((l[j]?.map Ac.k).getD 0) ≠ -1 := by
 cases f with
 | zero => exact h.elim
 | succ f =>
   obtain ⟨x, sp, hx, hm, _⟩ := h
   rw [hx]
   simp [mayV] at hm
   simp only [Option.map_some, Option.getD_some]
   have : typeV x.k = 3 ∨ typeV x.k = 2 ∨ typeV x.k = -1 := by unfold typeV; split <;> (try split) <;> simp
   omega
theorem kidsC_of {l : List Ac} {i : Nat} {x : Ac} {sp : List (Nat × Nat)} (h : kidsS l x.n.toNat (i + 1) = some sp) : kidsC l i x = sp.map Prod.fst := by simp [kidsC, h]
theorem actC_succ (l : List Ac) (f i c : Nat) (x : Ac) (hx : l[i]? = some x) : actC l (f + 1) i c =
   if (plainV x.k).2 = true then [sayC (plainV x.k).1 x.a x.b x.c x.d i]
   else if x.k = 1 then seqC (actC l f) (kidsC l i x) c
   else if x.k = 2 then ifC (actC l f) i (kidsC l i x) c
   else if x.k = 3 then loopC (actC l f) i x (kidsC l i x) c
   else if x.k = 5 then actC l f ((kidsC l i x)[1]?.getD 0) c ++ [itemC i ((l[(kidsC l i x)[0]?.getD 0]?).getD ⟨0, 0, 0, 0, 0, 0⟩) x.a 29 30]
   else if x.k = 25 then [itemC i ((l[(kidsC l i x)[0]?.getD 0]?).getD ⟨0, 0, 0, 0, 0, 0⟩) x.a 9 10]
   else if x.k = 37 then andC (actC l f) i (kidsC l i x) c
   else if x.k = 38 then orC (actC l f) i (kidsC l i x) c
   else seqC (actC l f) (kidsC l i x) c ++ [sayC (behindV x.k) x.a 0 0 0 i] := by
 conv => lhs; unfold actC
 rw [hx]
theorem act_all {P : Pl} {l : List Ac} (hl : l.length ≤ 262144) : ∀ f, ActAll P l f
 | 0 => fun B b ad ca ge W v cd rw lt what i e hg hr hxl hw => hw.elim
 | f + 1 => fun B b ad ca ge W v cd rw lt what i e hg hr hxl hw h5 hb => by
   have HA := act_all (P := P) hl f
   change ActGoal l B b ad ca ge W v cd rw lt i (actC l (f + 1) i cd.length)
   obtain ⟨x, hx⟩ : ∃ x, l[i]? = some x := by obtain ⟨x, sp, hx, _⟩ := hw; exact ⟨x, hx⟩
   obtain ⟨sp, hm, hv, h0, hnl, hn, hkids, hks, hwl, hspl⟩ := wf_inv hw hx
   obtain ⟨k0, hk0⟩ : ∃ k0, (l[i + 1]?.map Ac.k).getD 0 = k0 := ⟨_, rfl⟩
   rw [hk0] at hkids hwl
   have hkk := mayV_kind hm h5
   have hkc := kidsC_of hks
   have hA := actC_succ l f i cd.length x hx
   rw [hkc] at hA
   obtain ⟨xk, xa, xb, xc, xd, xn⟩ := x
   simp only at hA h0 hnl hn hm hks hspl hwl hkk
   by_cases hp : (plainV xk).2 = true
   · rw [if_pos hp] at hA
     rw [hA] at hb ⊢
     exact act_plain hg hr hxl hx (Prod.ext rfl hp) (by simpa using hb)
   · rw [if_neg hp] at hA
     have hpl0 := plainV_kinds hkk hp
     by_cases h1 : xk = 1
     · subst h1
       rw [if_pos rfl] at hA
       rw [hA] at hb ⊢
       obtain ⟨n, rfl⟩ : ∃ n : Nat, xn = (n : Int) := ⟨xn.toNat, by omega⟩
       refine act_block HA hg hr hxl hx (by simpa using hks) (by simpa using hspl) (fun r hr9 => ?_) hl hnl hb
       obtain ⟨w, hw1, hw2⟩ := kids_all _ _ _ _ hkids r hr9
       simp [wantsV] at hw1
       exact ⟨w, by omega, hw2⟩
     · rw [if_neg h1] at hA
       by_cases h2 : xk = 2
       · subst h2
         rw [if_pos rfl] at hA
         have hn2 := hn (by decide)
         by_cases h3 : xn = 3
         · subst h3
           have hwv : wantsV ⟨2, xa, xb, xc, xd, 3⟩ k0 = [3, 1, 1] := by simp [wantsV, kidsV]
           rw [hwv] at hkids
           obtain ⟨j, k, rfl, g1, g2, g3⟩ := kids_three hkids
           simp only [List.map_cons, List.map_nil, ifC] at hA
           rw [hA] at hb ⊢
           simp only [List.length_append, List.length_cons] at hb
           exact act_if3 HA hg hr hxl hx hks hl hnl g1 g2 g3 rfl rfl rfl rfl rfl rfl rfl (by omega)
         · have hkv : kidsV 2 xn = [3, 1] := by simp [kidsV, h3]
           rw [hkv] at hn2
           simp at hn2
           subst hn2
           have hwv : wantsV ⟨2, xa, xb, xc, xd, 2⟩ k0 = [3, 1] := by simp [wantsV, kidsV]
           rw [hwv] at hkids
           obtain ⟨j, rfl, g1, g2⟩ := kids_two hkids
           simp only [List.map_cons, List.map_nil, ifC] at hA
           rw [hA] at hb ⊢
           simp only [List.length_append, List.length_cons] at hb
           exact act_if2 HA hg hr hxl hx hks hl hnl g1 g2 rfl rfl rfl rfl (by omega)
       · rw [if_neg h2] at hA
         by_cases h3 : xk = 3
         · subst h3
           rw [if_pos rfl] at hA
           have hn2 := hn (by decide)
           simp [kidsV] at hn2
           subst hn2
           have hwv : wantsV ⟨3, xa, xb, xc, xd, 2⟩ k0 = [3, 1] := by simp [wantsV, kidsV]
           rw [hwv] at hkids
           obtain ⟨j, rfl, g1, g2⟩ := kids_two hkids
           simp only [List.map_cons, List.map_nil, loopC] at hA
           rw [hA] at hb ⊢
           simp only [List.length_append, List.length_cons] at hb
           exact act_loop HA hg hr hxl hx hks hl hnl g1 g2 rfl rfl rfl rfl rfl rfl rfl (by omega)
         · rw [if_neg h3] at hA
           by_cases h5' : xk = 5
           · subst h5'
             rw [if_pos rfl] at hA
             have hn2 := hn (by decide)
             simp [kidsV] at hn2
             subst hn2
             have hwv : wantsV ⟨5, xa, xb, xc, xd, 2⟩ k0 = [5, 2] := by simp [wantsV, kidsV]
             rw [hwv] at hkids
             obtain ⟨j, rfl, g1, g2⟩ := kids_two hkids
             obtain ⟨y, hy⟩ : ∃ y, l[i + 1]? = some y := by
               have := wf_le _ _ _ _ g1
               exact ⟨_, List.getElem?_eq_getElem (by omega)⟩
             simp [hy] at hA
             rw [hA] at hb ⊢
             simp only [List.length_append, List.length_cons] at hb
             exact act_mark HA hg hr hxl hx hks hl hnl hy g2 rfl rfl (by omega)
           · rw [if_neg h5'] at hA
             by_cases h25 : xk = 25
             · subst h25
               rw [if_pos rfl] at hA
               have hn2 := hn (by decide)
               simp [kidsV] at hn2
               subst hn2
               have hwv : wantsV ⟨25, xa, xb, xc, xd, 1⟩ k0 = [5] := by simp [wantsV, kidsV]
               rw [hwv] at hkids
               obtain ⟨rfl, g1⟩ := kids_one hkids
               obtain ⟨y, hy⟩ : ∃ y, l[i + 1]? = some y := by
                 have := wf_le _ _ _ _ g1
                 exact ⟨_, List.getElem?_eq_getElem (by omega)⟩
               simp [hy] at hA
               rw [hA] at hb ⊢
               simp only [List.length_cons, List.length_nil] at hb
               exact act_tag HA hg hr hxl hx hks hl hnl hy (by omega)
             · rw [if_neg h25] at hA
               by_cases h37 : xk = 37
               · subst h37
                 rw [if_pos rfl] at hA
                 have hn2 := hn (by decide)
                 simp [kidsV] at hn2
                 subst hn2
                 have hwv : wantsV ⟨37, xa, xb, xc, xd, 2⟩ k0 = [3, 3] := by simp [wantsV, kidsV]
                 rw [hwv] at hkids
                 obtain ⟨j, rfl, g1, g2⟩ := kids_two hkids
                 simp only [List.map_cons, List.map_nil, andC] at hA
                 rw [hA] at hb ⊢
                 simp only [List.length_append, List.length_cons] at hb
                 exact act_and HA hg hr hxl hx hks hl hnl g1 g2 rfl rfl rfl rfl rfl rfl (by omega)
               · rw [if_neg h37] at hA
                 by_cases h38 : xk = 38
                 · subst h38
                   rw [if_pos rfl] at hA
                   have hn2 := hn (by decide)
                   simp [kidsV] at hn2
                   subst hn2
                   have hwv : wantsV ⟨38, xa, xb, xc, xd, 2⟩ k0 = [3, 3] := by simp [wantsV, kidsV]
                   rw [hwv] at hkids
                   obtain ⟨j, rfl, g1, g2⟩ := kids_two hkids
                   simp only [List.map_cons, List.map_nil, orC] at hA
                   rw [hA] at hb ⊢
                   simp only [List.length_append, List.length_cons] at hb
                   exact act_or HA hg hr hxl hx hks hl hnl g1 g2 rfl rfl rfl rfl rfl rfl rfl (by omega)
                 · rw [if_neg h38] at hA
                   rw [hA] at hb ⊢
                   obtain ⟨n, rfl⟩ : ∃ n : Nat, xn = (n : Int) := ⟨xn.toNat, by omega⟩
                   refine act_dflt HA hg hr hxl (Prod.ext ?_ (by simpa using hp)) ⟨h1, h2, h3, h5', h25, h37, h38⟩ hx (by simpa using hks) (by simpa using hspl) (fun r hr9 => ?_) hl hnl (by simpa [Nat.add_assoc] using hb)
                   · show (plainV xk).1 = 0
                     unfold plainV
                     rw [if_neg (by omega), if_neg (by omega), if_neg (by omega), if_neg (by omega)]
                   · by_cases h34 : xk = 34
                     · subst h34
                       have hwv : wantsV ⟨34, xa, xb, xc, xd, (n : Int)⟩ k0 = [4, typeV k0] := by simp [wantsV]
                       rw [hwv] at hkids
                       obtain ⟨j, rfl, g1, g2⟩ := kids_two hkids
                       have := typeV_first g1
                       rw [hk0] at this
                       simp only [List.mem_cons, List.not_mem_nil, or_false] at hr9
                       rcases hr9 with rfl | rfl
                       · exact ⟨4, by decide, g1⟩
                       · exact ⟨_, this, g2⟩
                     · obtain ⟨w, hw1, hw2⟩ := kids_all _ _ _ _ hkids r hr9
                       refine ⟨w, ?_, hw2⟩
                       simp only [wantsV, if_neg h1, if_neg h34] at hw1
                       unfold kidsV at hw1
                       (repeat' split at hw1) <;> simp at hw1 <;> omega
end Go.Proofs.Ytdpokdcendgfeaa
namespace Go.Proofs.Ytdpokdcendgfeaa
open Go.RowKit
def setA (cd : List In) (p t : Nat) : List In := cd.modify p fun x => { x with a := (t : Int) }
theorem setA_length (cd : List In) (p t : Nat) : (setA cd p t).length = cd.length := by simp [setA]
theorem ins_at : ∀ (l : List In) (i j : Nat) (x : In), l[i]? = some x → j < 5 → (ins l)[i * 5 + j]? = x.cells[j]?
 | [], i, j, x, h, _ => by simp at h
 | y :: l, 0, j, x, h, hj => by
   simp at h
   subst h
   simp only [ins, List.map_cons, List.flatten_cons, Nat.zero_mul, Nat.zero_add]
   rw [List.getElem?_append_left (by simp [In.cells]; omega)]
 | y :: l, i + 1, j, x, h, hj => by
   have ih := ins_at l i j x (by simpa using h) hj
   simp only [ins, List.map_cons, List.flatten_cons] at ih ⊢
   rw [List.getElem?_append_right (by simp [In.cells]; omega)]
   rw [← ih]
   congr 1
   simp [In.cells]
   omega
theorem ins_set : ∀ (cd : List In) (p t : Nat), p < cd.length → (ins cd).set (p * 5 + 1) (.int .i64 (t : Int)) = ins (setA cd p t)
 | [], p, t, h => by simp at h
 | x :: cd, 0, t, h => by simp [ins, setA, In.cells]
 | x :: cd, p + 1, t, h => by
   have ih := ins_set cd p t (by simpa using h)
   simp only [ins, setA, List.map_cons, List.flatten_cons, List.modify_succ_cons] at ih ⊢
   rw [← ih, List.set_append, if_neg (by simp [In.cells]; omega)]
   congr 2
   simp [In.cells]
   omega
section
variable {W : World} {B b : Nat} {l : List Ac} {ad : Addr} {ca ge : Nat} {v : Wv} {cd : List In} {rw : List Int} {lt : List Value} {sn : Nat}
/-- an instruction's place written -/
theorem Gw.set_c (h : Gw W B b l ad ca ge v cd rw lt sn) {g n cap : Nat} (hv : v.c = .slice (some ⟨g, 0, none⟩) n cap) (p t : Nat) (hp : p < cd.length) : Gw (W.setCell ⟨g, p * 5 + 1, none⟩ (.int .i64 (t : Int))) B b l ad ca ge v (setA cd p t) rw lt sn ∧ Wto W (W.setCell ⟨g, p * 5 + 1, none⟩ (.int .i64 (t : Int))) b v v := by
 obtain ⟨st, hs⟩ := h.ks
 have hcs := h.kc
 have hn : n = cd.length := by
   obtain ⟨oa, c, e⟩ := own_slice hcs
   rw [hv] at e
   simp only [Value.slice.injEq] at e
   exact e.2.1
 subst hn
 have hs2 := hcs
 rw [hv] at hs2
 obtain ⟨h3, _⟩ := World.ownsRow.stored hs2 (p * 5 + 1) (.int .i64 (t : Int))
 have hin : v.c.ownBlock = some g := by rw [hv]; rfl
 have ho : Only (fun k => k = g) W (W.setCell ⟨g, p * 5 + 1, none⟩ (.int .i64 (t : Int))) := (Only.refl (fun k => k = g) W).setCell (.inl rfl) _
 have hg := hcs.lt g hin
 have hcb := own_blk_ne hcs h.kk (by decide)
 have hr := own_own_ne h.kr hcs (by decide)
 have hl := own_own_ne h.kl hcs (by decide)
 have hs3 := own_own_ne hs hcs (by decide)
 refine ⟨⟨h.kk.only ho (fun e => by subst e; exact hcb hin), h.kb, ?_, own_only h.kr ho (fun k hk e => by subst e; exact hr _ hk hin), own_only h.kl ho (fun k hk e => by subst e; exact hl _ hk hin), ⟨st, own_only hs ho (fun k hk e => by subst e; exact hs3 _ hk hin)⟩, h.ka, h.ke.below (ho.below (fun k hk => by subst hk; exact hg.1) h.size)⟩, ⟨ho.mono (fun k hk => .inl (by subst hk; exact .inr (.inl hin))), fun _ hk => .inl hk⟩⟩
 rw [hv, setA_length, ← ins_set cd p t hp]
 exact h3
set_option maxRecDepth 100000 in
theorem clo_i (h : Gw W B b l ad ca ge v cd rw lt cd.length) {qb wb ab p t : Nat} {pc : Addr} (hq : W.cell? ⟨qb, 0, none⟩ = some (.pointer (some pc))) (hw : W.cell? ⟨wb, 0, none⟩ = some (.pointer (some ⟨b, 0, none⟩))) (ha : W.cell? ⟨ab, 0, none⟩ = some (.int .i64 (p : Int))) (ht : W.cell? pc = some (.int .i64 (t : Int))) (hp : p < cd.length) (hn : ¬ v.in_ b pc.block) :
   Calls Try.prog 181 #[.pointer (some ⟨qb, 0, none⟩), .pointer (some ⟨wb, 0, none⟩), .pointer (some ⟨ab, 0, none⟩)] W fun en w' => en = .returned (.tuple #[]) ∧ Gw w' B b l ad ca ge v (setA cd p t) rw lt cd.length ∧ Wto W w' b v v := by
 obtain ⟨st, hs⟩ := h.ks
 obtain ⟨gc, cc, hvc, _⟩ := own_form h.kc (by omega)
 obtain ⟨gs, cs, hvs, _⟩ := own_form hs (by omega)
 obtain ⟨q0, q1, q2, q3, q4, q5, _⟩ := gw_cells h
 rw [hvc] at q2
 rw [hvs] at q5
 have h1 := Gw.set_c h hvc p t hp
 have h2 := Gw.set_s h1.1 hvs p 1
 have HG := hide h2.1.drew
 have HT := hide (h1.2.trans h2.2).drew
 have h3 := Gw.set_s h hvs p 1
 have h4 := Gw.set_c h3.1 hvc p t hp
 have HG2 := hide h4.1.drew
 have HT2 := hide (h3.2.trans h4.2).drew
 have hp0 : (0 : Int) ≤ (p : Int) := by omega
 have hp1 : (p : Int) < (cd.length : Int) := by omega
 have hcx := h.kc
 rw [hvc] at hcx
 have hsx := hs
 rw [hvs] at hsx
 obtain ⟨y, hy⟩ : ∃ y, cd[p]? = some y := ⟨_, List.getElem?_eq_getElem hp⟩
 have z1 := World.ownsRow.cellAt hcx (p * 5 + 1) (by omega)
 rw [ins_at cd p 1 y hy (by decide), show y.cells[1]? = some (.int .i64 y.a) from rfl] at z1
 have z2 := World.ownsRow.frozenAt hcx (p * 5 + 1)
 obtain ⟨sy, hsy⟩ : ∃ sy, st[p]? = some sy := by
   have hl : (ints st).length = cd.length * 1 := hs.1
   simp [ints] at hl
   exact ⟨_, List.getElem?_eq_getElem (by omega)⟩
 have z3 := World.ownsRow.cellAt hsx p (by omega)
 rw [ints_get hsy] at z3
 have z4 := World.ownsRow.frozenAt hsx p
 clear h h1 h2 h3 h4 q0 q1 q3 q4 hs hcx hsx hy hsy hn hvc hvs
 go_enter Try.func181, Try.ntmps181
 go_region
 all_goals
   go_wp2_with fail
   go_end0
   first
   | exact ⟨rfl, HG.out, HT.out⟩
   | exact ⟨rfl, HG2.out, HT2.out⟩
end
end Go.Proofs.Ytdpokdcendgfeaa
namespace Go.Proofs.Ytdpokdcendgfeaa
open Go.RowKit
/-- all places laid -/
def lay (cd : List In) (js : List (Nat × (Nat ⊕ Addr))) : List In := js.foldl (fun c j => match j.2 with | .inl t => setA c j.1 t | .inr _ => c) cd
theorem lay_length (js : List (Nat × (Nat ⊕ Addr))) : ∀ cd, (lay cd js).length = cd.length := by
 induction js with
 | nil => intro cd; rfl
 | cons j js ih =>
   intro cd
   simp only [lay, List.foldl_cons] at ih ⊢
   rw [ih]
   split
   · exact setA_length _ _ _
   · rfl
theorem lay_take (cd : List In) (js : List (Nat × (Nat ⊕ Addr))) (i : Nat) (p t : Nat) (h : js[i]? = some (p, .inl t)) : lay cd (js.take (i + 1)) = setA (lay cd (js.take i)) p t := by
 rw [List.take_add_one, h]
 simp [lay, List.foldl_append]
theorem setA_mid (x : In) (t : Nat) (post : List In) : ∀ pre : List In, setA (pre ++ x :: post) pre.length t = pre ++ { x with a := (t : Int) } :: post
 | [] => by simp [setA]
 | y :: pre => by
   have ih := setA_mid x t post pre
   simp only [setA, List.cons_append, List.length_cons, List.modify_succ_cons] at ih ⊢
   rw [ih]
theorem lay_fin : ∀ (m : List Cd) (pre post : List In), lay (pre ++ cdI m ++ post) (jumpsC pre.length m) = pre ++ m.map Cd.fin ++ post
 | [], pre, post => by simp [cdI, jumpsC, lay]
 | x :: m, pre, post => by
   have h1 := lay_fin m (pre ++ [x.fin]) post
   have e1 : pre ++ cdI (x :: m) ++ post = pre ++ x.i :: (cdI m ++ post) := by simp [cdI]
   cases ht : x.to with
   | none =>
     have hf : x.fin = x.i := by simp [Cd.fin, ht]
     have e2 : jumpsC pre.length (x :: m) = jumpsC (pre ++ [x.fin]).length m := by simp [jumpsC, ht]
     rw [e2, show pre ++ cdI (x :: m) ++ post = pre ++ [x.fin] ++ cdI m ++ post by simp [cdI, hf], h1]
     simp
   | some t =>
     have hf : x.fin = { x.i with a := (t : Int) } := by simp [Cd.fin, ht]
     have e2 : jumpsC pre.length (x :: m) = (pre.length, .inl t) :: jumpsC (pre ++ [x.fin]).length m := by simp [jumpsC, ht]
     rw [e2, e1]
     have e3 : lay (pre ++ x.i :: (cdI m ++ post)) ((pre.length, .inl t) :: jumpsC (pre ++ [x.fin]).length m) = lay (pre ++ [x.fin] ++ cdI m ++ post) (jumpsC (pre ++ [x.fin]).length m) := by
       simp only [lay, List.foldl_cons]
       congr 1
       rw [setA_mid, hf]
       simp
     rw [e3, h1]
     simp
theorem jumps_in : ∀ (m : List Cd) (c p t : Nat), (p, (Sum.inl t : Nat ⊕ Addr)) ∈ jumpsC c m → c ≤ p ∧ p < c + m.length
 | [], c, p, t, h => by simp [jumpsC] at h
 | x :: m, c, p, t, h => by
   simp only [jumpsC] at h
   split at h
   · have := jumps_in m (c + 1) p t h
     simp only [List.length_cons]
     omega
   · rcases List.mem_cons.1 h with h | h
     · simp at h
       simp only [List.length_cons]
       omega
     · have := jumps_in m (c + 1) p t h
       simp only [List.length_cons]
       omega
theorem Bun.get {W : World} {b lo : Nat} {fp : Nat → Prop} : ∀ {xs : List Value} {js : List (Nat × (Nat ⊕ Addr))}, Bun W b fp lo xs js → ∀ (i : Nat) (j : Nat × (Nat ⊕ Addr)), js[i]? = some j → ∃ x, xs[i]? = some x ∧ Ent W b fp lo x j
 | [], [], _, i, j, h => by simp at h
 | x :: xs, j :: js, h, 0, j', hj => by
   simp at hj
   subst hj
   exact ⟨x, rfl, h.1⟩
 | x :: xs, j :: js, h, i + 1, j', hj => by
   obtain ⟨y, h1, h2⟩ := Bun.get h.2 i j' (by simpa using hj)
   exact ⟨y, by simpa using h1, h2⟩
 | [], j :: js, h, _, _, _ => h.elim
 | x :: xs, [], h, _, _, _ => h.elim
section
variable {W : World} {B b : Nat} {l : List Ac} {ad : Addr} {ca ge : Nat} {v : Wv} {cd : List In} {rw : List Int} {lt : List Value}
set_option maxRecDepth 100000 in
theorem evd_i (h : Gw W B b l ad ca ge v cd rw lt cd.length) {lo : Nat} {m : List Cd} (hu : Bun W b (v.in_ b) lo lt (jumpsC 0 m)) (hm : m.length ≤ cd.length) (hc : cd.length ≤ 4194304) {xb : Nat} (hx : W.cell? ⟨xb, 0, none⟩ = some (.pointer (some ⟨b, 0, none⟩))) (u : FrameMode) :
   CallsD Try.prog 109 #[.pointer (some ⟨xb, 0, none⟩)] u W fun en u' w' => u' = u ∧ (en = .returned (.tuple #[]) ∧ Gw w' B b l ad ca ge v (lay cd (jumpsC 0 m)) rw lt cd.length ∧ Wto W w' b v v) := by
 have hul := hu.length
 have hjl := jumpsC_length m 0
 obtain ⟨q0, q1, q2, q3, q4, q5, _⟩ := gw_cells h
 have HG := hide h
 have HU := hide hu
 obtain ⟨oa, cp, hvl⟩ := own_slice h.kl
 rw [hvl] at q4
 have HKL := hide h.kl
 rw [hvl] at HKL
 have hN : lt.length ≤ 4194304 := by omega
 clear h hu q0 q1 q2 q3 q5
 go_enter_d Try.func109, Try.ntmps109
 go_wp2_with fail
 go_loopw [8] (fun t8 W' => ∃ i : Nat, t8 = .int .i64 (i : Int) ∧ i ≤ lt.length ∧ Gw W' B b l ad ca ge v (lay cd ((jumpsC 0 m).take i)) rw lt cd.length ∧ Wto W W' b v v) (fun t8 _ => lt.length - (intOf t8).toNat)
 case atStart => exact ⟨0, rfl, Nat.zero_le _, by simpa [lay] using HG.out, Wto.refl _ _ _⟩
 case round =>
   obtain ⟨i, rfl, hi, hg, ht⟩ := hrel
   rename World => W'
   have HG' := hide hg
   have HT' := hide ht
   have hq2 := IntWalk.i64_in ((i : Int) + 1) (by omega)
   by_cases hil : i < lt.length
   · have hiI : (i : Int) < (lt.length : Int) := by omega
     obtain ⟨j, hj⟩ : ∃ j, (jumpsC 0 m)[i]? = some j := ⟨_, List.getElem?_eq_getElem (by omega)⟩
     obtain ⟨p, t | pc⟩ := j
     · obtain ⟨x, hxi, pc, hclo, hpc, hfp, _⟩ := (HU.out.wto ht).get i _ hj
       obtain ⟨qb, wb, ab, rfl, c1, c2, c3, _⟩ := hclo
       have hpl := (jumps_in m 0 p t (List.mem_of_getElem? hj)).2
       have HLT := hide (lay_take cd (jumpsC 0 m) i p t hj)
       have hcl := hide (clo_i (by rw [lay_length]; exact hg) c1 c2 c3 hpc (by rw [lay_length]; omega) hfp)
       rw [lay_length] at hcl
       have hkl := hg.kl
       rw [hvl] at hkl
       obtain ⟨gl, cpl, e, _⟩ := own_form hkl (by omega)
       simp only [Value.slice.injEq, true_and] at e
       obtain ⟨rfl, rfl⟩ := e
       have ce := own_get hkl i _ hxi
       clear hg ht hj hxi c1 c2 c3 hpc hfp hkl hpl
       go_wp2_with (go_at_call 181
                    with_reducible refine hcl.out.mono ?_
                    rintro en w2 ⟨rfl, hg2, ht2⟩
                    have HG2 := hide hg2
                    have HT2 := hide ht2
                    clear hg2 ht2)
       go_roundw
       case rel => exact ⟨i + 1, by go_num, by omega, by rw [HLT.out]; exact HG2.out, HT'.out.trans HT2.out⟩
       case measure =>
         simp only [intOf]
         omega
     · exact (not_inr m 0 (List.mem_of_getElem? hj)).elim
   · have hiI : ¬ (i : Int) < (lt.length : Int) := by omega
     have HF := hide (show Gw W' B b l ad ca ge v (lay cd (jumpsC 0 m)) rw lt cd.length by
       rw [List.take_of_length_le (by omega)] at hg
       exact hg)
     clear hg ht hil
     go_wp2_with fail
     go_end0
     exact ⟨rfl, HF.out, HT'.out⟩
/-- an event's code: the rows are a tree -/
theorem fin_ev (l : List Ac) : lay (cdI (actC l (l.length + 2) 0 0) ++ [⟨0, 0, 0, 0, 0⟩]) (jumpsC 0 (actC l (l.length + 2) 0 0)) = (evC l).map Cd.fin := by
 have := lay_fin (actC l (l.length + 2) 0 0) [] [⟨0, 0, 0, 0, 0⟩]
 simp only [List.nil_append, List.length_nil] at this
 rw [this]
 simp [evC, Cd.fin, sayC]
set_option maxRecDepth 100000 in
theorem event_i {P : Pl} (h : Gw W B b l ad ca ge v [] [] [] 0) (hw : Wf P l (l.length + 2) 1 0 l.length) (hl : l.length ≤ 262144) (hb : (evC l).length ≤ 1048576) :
   Calls Try.prog 71 #[.pointer (some ⟨b, 0, none⟩)] W fun en w' => en = .returned (.tuple #[]) ∧ ∃ v' lt', Gw w' B b l ad ca ge v' ((evC l).map Cd.fin) (cdR (evC l)) lt' (evC l).length ∧ Below B W w' := by
 have hmf : ∀ (fn : Fn) (first cap : Array Value) (w : World), (Instr.makeFunc fn first cap).run Try.prog w = .ok (.func fn first cap) w := fun _ _ _ _ => rfl
 have HB := hide ((Below.refl W.heap.size W).alloc (Nat.le_refl _) (.cells #[.pointer (some ⟨b, 0, none⟩)] 115))
 have hx0 := (Blk.new W 115 #[.pointer (some ⟨b, 0, none⟩)]).cell 0
 simp only [List.getElem?_toArray, List.getElem?_cons_zero] at hx0
 have HG0 := hide h
 have HG := hide (h.grow HB.out)
 have hbl : (actC l (l.length + 2) 0 0).length + 1 = (evC l).length := by simp [evC]
 have HACT := hide (act_all (P := P) hl (l.length + 2) B b ad ca ge _ v [] [] [] 1 0 l.length HG.out rfl (Nat.le_refl _) hw (by decide) (by simp; omega))
 have HHX := hide hx0
 have hxl : W.heap.size < (W.alloc (.cells #[.pointer (some ⟨b, 0, none⟩)] 115)).heap.size := by simp
 have hnx : ¬ v.in_ b W.heap.size := fun h9 => by have := h.high _ h9; omega
 clear h
 go_enter_defers Try.func71, Try.ntmps71
 go_upto_region 2 with fail
 generalize W.alloc (.cells #[.pointer (some ⟨b, 0, none⟩)] 115) = W1 at HB hx0 HG HACT HHX hxl
 go_wp2_with (first
   | (go_at_call 110
      refine HACT.out.mono ?_
      rintro en w2 ⟨rfl, v2, lt2, hg2, ht2, hu2⟩
      simp only [List.nil_append, List.length_nil, Nat.zero_add] at hg2 hu2
      have hx2 := (ht2.o.cell (p := ⟨W.heap.size, 0, none⟩) hxl hnx).trans HHX.out
      have HU2 := hide hu2
      have HT2 := hide ht2
      have HS2 := hide (say_i hg2 0 ⟨0, 0, 0, 0, 0⟩ (by rw [cdI_length]; omega) (by rw [cdR_length]; omega) (by omega))
      simp only [In.val] at HS2
      have HN2 := hide (show ¬ v2.in_ b W.heap.size from fun h9 => by
        rcases ht2.n _ h9 with h10 | h10
        · exact hnx h10
        · omega)
      have HX2 := hide hx2
      have hxs := ht2.o.size
      have HSZ := hide hg2.size
      clear hg2 hu2 ht2)
   | (go_at_call 111
      with_reducible refine HS2.out.mono ?_
      rintro en w3 ⟨rfl, v3, hg3, hl3, ht3⟩
      have HG3 := hide hg3
      have HU3 := hide (HU2.out.wto ht3)
      have HT3 := hide (HT2.out.trans ht3)
      have hx3 := (ht3.o.cell (p := ⟨W.heap.size, 0, none⟩) (show W.heap.size < w2.heap.size by omega) HN2.out).trans HX2.out
      clear hg3 hl3 ht3))
 refine leaves_cons (f := 109) (args := #[.pointer (some ⟨W.heap.size, 0, none⟩)]) (by simp) (by simp [go_sem]) ?_
 have hlen : (cdI (actC l (l.length + 2) 0 0) ++ [(⟨0, 0, 0, 0, 0⟩ : In)]).length = (actC l (l.length + 2) 0 0).length + 1 := by rw [List.length_append, cdI_length]; rfl
 refine (evd_i (by rw [hlen]; exact HG3.out) HU3.out (by rw [hlen]; omega) (by rw [hlen]; omega) hx3 .returning).mono ?_
 rintro en u' w4 ⟨rfl, rfl, hg4, ht4⟩
 rw [fin_ev, hlen, hbl] at hg4
 have hr : cdR (actC l (l.length + 2) 0 0) ++ [0] = cdR (evC l) := by simp [cdR, evC, sayC]
 rw [hr] at hg4
 exact ⟨_, results_none rfl _ _ _, rfl, v3, lt2, hg4, (HB.out.mono HG0.out.size).trans ((HT3.out.trans ht4).below HG.out)⟩
end
end Go.Proofs.Ytdpokdcendgfeaa
namespace Go.Proofs.Ytdpokdcendgfeaa
open Go.RowKit
/-- the program's slices that grow: where events begin, the code, what it stands for -/
structure Ov where
 (o c e r : Value)
def Ov.in_ (v : Ov) (ob eb rb k : Nat) : Prop := k = ob ∨ k = eb ∨ k = rb ∨ v.o.ownBlock = some k ∨ v.c.ownBlock = some k ∨ v.e.ownBlock = some k ∨ v.r.ownBlock = some k
/-- the program under way in memory -/
structure Om (W : World) (B ob eb rb : Nat) (g vv t : Value) (ms : Int) (v : Ov) (on : List Int) (cd : List In) (ev rw : List Int) : Prop where
 kk : Blk W ob 34 #[g, vv, t, v.o, .int .i64 ms, v.c]
 ke : Blk W eb 24 #[v.e]
 kr : Blk W rb 24 #[v.r]
 oo : W.ownsRow B 3 1 v.o on.length (ints on)
 oc : W.ownsRow B 56 5 v.c cd.length (ins cd)
 oe : W.ownsRow B 3 1 v.e ev.length (ints ev)
 or : W.ownsRow B 3 1 v.r rw.length (ints rw)
 n1 : ∀ k, v.o.ownBlock = some k → v.e.ownBlock ≠ some k ∧ v.r.ownBlock ≠ some k
 n2 : ∀ k, v.e.ownBlock = some k → v.r.ownBlock ≠ some k
 b : B ≤ ob ∧ B ≤ eb ∧ B ≤ rb
 d : eb ≠ rb
structure Oto (W W' : World) (ob eb rb : Nat) (v v' : Ov) : Prop where
 o : Only (v.in_ ob eb rb) W W'
 n : ∀ k, v'.in_ ob eb rb k → v.in_ ob eb rb k ∨ W.heap.size ≤ k
section
variable {W W' W'' : World} {B ob eb rb : Nat} {g vv t : Value} {ms : Int} {v v' v'' : Ov} {on : List Int} {cd : List In} {ev rw : List Int}
theorem Oto.refl (W : World) (ob eb rb : Nat) (v : Ov) : Oto W W ob eb rb v v := ⟨Only.refl _ _, fun _ h => .inl h⟩
theorem Oto.trans (h : Oto W W' ob eb rb v v') (h2 : Oto W' W'' ob eb rb v' v'') : Oto W W'' ob eb rb v v'' :=
 ⟨h.o.trans2 h2.o h.n, fun k hk => by
   rcases h2.n k hk with h3 | h3
   · exact h.n k h3
   · have := h.o.size; exact .inr (by omega)⟩
theorem Oto.grow (hb : Below W.heap.size W W') : Oto W W' ob eb rb v v := ⟨Only.of_new hb, fun _ h => .inl h⟩
theorem Oto.drew (h : Oto W W' ob eb rb v v') : Oto W W'.drew ob eb rb v v' := ⟨h.o.drew, h.n⟩
theorem Om.low (h : Om W B ob eb rb g vv t ms v on cd ev rw) : ∀ k, v.in_ ob eb rb k → B ≤ k := by
 intro k hk
 rcases hk with rfl | rfl | rfl | hk | hk | hk | hk
 · exact h.b.1
 · exact h.b.2.1
 · exact h.b.2.2
 · exact (h.oo.lt k hk).1
 · exact (h.oc.lt k hk).1
 · exact (h.oe.lt k hk).1
 · exact (h.or.lt k hk).1
theorem Om.high (h : Om W B ob eb rb g vv t ms v on cd ev rw) : ∀ k, v.in_ ob eb rb k → k < W.heap.size := by
 intro k hk
 rcases hk with rfl | rfl | rfl | hk | hk | hk | hk
 · exact h.kk.lt
 · exact h.ke.lt
 · exact h.kr.lt
 · exact (h.oo.lt k hk).2
 · exact (h.oc.lt k hk).2
 · exact (h.oe.lt k hk).2
 · exact (h.or.lt k hk).2
theorem Om.size (h : Om W B ob eb rb g vv t ms v on cd ev rw) : B ≤ W.heap.size := by have := h.b.1; have := h.kk.lt; omega
theorem Om.only {S : Nat → Prop} (h : Om W B ob eb rb g vv t ms v on cd ev rw) (ho : Only S W W') (hS : ∀ k, v.in_ ob eb rb k → ¬ S k) : Om W' B ob eb rb g vv t ms v on cd ev rw :=
 ⟨h.kk.only ho (hS ob (.inl rfl)), h.ke.only ho (hS eb (.inr (.inl rfl))), h.kr.only ho (hS rb (.inr (.inr (.inl rfl)))), own_only h.oo ho (fun k hk => hS k (.inr (.inr (.inr (.inl hk))))), own_only h.oc ho (fun k hk => hS k (.inr (.inr (.inr (.inr (.inl hk)))))), own_only h.oe ho (fun k hk => hS k (.inr (.inr (.inr (.inr (.inr (.inl hk))))))), own_only h.or ho (fun k hk => hS k (.inr (.inr (.inr (.inr (.inr (.inr hk))))))), h.n1, h.n2, h.b, h.d⟩
theorem Om.grow (h : Om W B ob eb rb g vv t ms v on cd ev rw) (hb : Below W.heap.size W W') : Om W' B ob eb rb g vv t ms v on cd ev rw :=
 h.only (S := fun _ => False) (Only.of_new hb) (fun _ _ => id)
theorem Om.below {C : Nat} (h : Om W B ob eb rb g vv t ms v on cd ev rw) (hb : Below C W W') (hC : W.heap.size ≤ C) : Om W' B ob eb rb g vv t ms v on cd ev rw :=
 h.only (Only.of_below hb) (fun k hk h9 => by have := h.high k hk; omega)
theorem Om.drew (h : Om W B ob eb rb g vv t ms v on cd ev rw) : Om W.drew B ob eb rb g vv t ms v on cd ev rw := h.grow (Below.refl _ _).drew
/-- an append to one of the rows, and its slice stored: what turns -/
theorem oto_app {u u' : Value} {w1 w2 : World} {sb : Nat} (i : Nat) (hs : v.in_ ob eb rb sb) (hv : ∀ k, u.ownBlock = some k → v.in_ ob eb rb k) (h1 : Below W.heap.size W w1) (hg : w1.grownBy w2 u.ownBlock) (hat : u'.ownBlock = u.ownBlock ∨ ∃ k, u'.ownBlock = some k ∧ W.heap.size ≤ k) (hn : ∀ k, v'.in_ ob eb rb k → u'.ownBlock = some k ∨ v.in_ ob eb rb k) : Oto W (w2.setCell ⟨sb, i, none⟩ u') ob eb rb v v' :=
 ⟨((Only.of_new h1).grown hg (fun k hk => .inl (hv k hk))).setCell (.inl hs) u', fun k hk => by
   rcases hn k hk with h | h
   · rcases hat with e | ⟨k', e, hk'⟩
     · exact .inl (hv k (by rw [← e]; exact h))
     · rw [e] at h
       injection h with h
       subst h
       exact .inr hk'
   · exact .inl h⟩
theorem Om.app_o (h : Om W B ob eb rb g vv t ms v on cd ev rw) {x : Int} {u' : Value} {w1 w2 : World} (h1 : Below W.heap.size W w1) (hown : w2.ownsRow B 3 1 u' (on.length + 1) (ints on ++ [.int .i64 x])) (hg : w1.grownBy w2 v.o.ownBlock) (hat : u'.ownBlock = v.o.ownBlock ∨ u'.ownBlock = some w1.heap.size) :
   Om (w2.setCell ⟨ob, 3, none⟩ u') B ob eb rb g vv t ms { v with o := u' } (on ++ [x]) cd ev rw ∧ Oto W (w2.setCell ⟨ob, 3, none⟩ u') ob eb rb v { v with o := u' } := by
 have ho := app_only (b := ob) (i := 3) (u' := u') h1 hg
 have huob := own_blk_ne h.oo h.kk (by decide)
 have hueb := own_blk_ne h.oo h.ke (by decide)
 have hurb := own_blk_ne h.oo h.kr (by decide)
 have hk := app_blk (i := 3) (u' := u') h.kk huob h1 hg
 have hco : ∀ k, v.c.ownBlock = some k → v.o.ownBlock ≠ some k := own_own_ne h.oc h.oo (by decide)
 have hcb := own_blk_ne h.oc h.kk (by decide)
 have heo : ∀ k, v.e.ownBlock = some k → v.o.ownBlock ≠ some k := fun k hk hk2 => (h.n1 k hk2).1 hk
 have heb := own_blk_ne h.oe h.kk (by decide)
 have hro : ∀ k, v.r.ownBlock = some k → v.o.ownBlock ≠ some k := fun k hk hk2 => (h.n1 k hk2).2 hk
 have hrb := own_blk_ne h.or h.kk (by decide)
 have hbe := Blk.ne_ h.kk h.ke (by decide)
 have hbr := Blk.ne_ h.kk h.kr (by decide)
 have hd := h.d
 refine ⟨⟨hk, h.ke.only ho (fun h9 => by rcases h9 with h9 | h9; exact hueb h9; omega), h.kr.only ho (fun h9 => by rcases h9 with h9 | h9; exact hurb h9; omega), ?_, own_only h.oc ho (fun k hk2 h9 => by rcases h9 with h9 | rfl; exact hco k hk2 h9; exact hcb hk2), own_only h.oe ho (fun k hk2 h9 => by rcases h9 with h9 | rfl; exact heo k hk2 h9; exact heb hk2), own_only h.or ho (fun k hk2 h9 => by rcases h9 with h9 | rfl; exact hro k hk2 h9; exact hrb hk2), fun k hk => ⟨at_ne h1 hat (fun k hk => (h.oe.lt k hk).2) (fun k hk hk2 => heo k hk2 hk) k hk, at_ne h1 hat (fun k hk => (h.or.lt k hk).2) (fun k hk hk2 => hro k hk2 hk) k hk⟩, h.n2, h.b, h.d⟩, oto_app 3 (.inl rfl) (fun k hk => .inr (.inr (.inr (.inl hk)))) h1 hg (at_old h1 hat) (fun k hk => ?_)⟩
 · have := app_row hown hk (by decide)
   rw [List.length_append]
   simpa [ints, ins] using this
 · rcases hk with rfl | rfl | rfl | hk | hk | hk | hk
   · exact .inr (.inl rfl)
   · exact .inr (.inr (.inl rfl))
   · exact .inr (.inr (.inr (.inl rfl)))
   · exact .inl hk
   · exact .inr (.inr (.inr (.inr (.inr (.inl hk)))))
   · exact .inr (.inr (.inr (.inr (.inr (.inr (.inl hk))))))
   · exact .inr (.inr (.inr (.inr (.inr (.inr (.inr (hk)))))))
theorem Om.app_c (h : Om W B ob eb rb g vv t ms v on cd ev rw) {x : In} {u' : Value} {w1 w2 : World} (h1 : Below W.heap.size W w1) (hown : w2.ownsRow B 56 5 u' (cd.length + 1) (ins cd ++ x.cells)) (hg : w1.grownBy w2 v.c.ownBlock) (hat : u'.ownBlock = v.c.ownBlock ∨ u'.ownBlock = some w1.heap.size) :
   Om (w2.setCell ⟨ob, 5, none⟩ u') B ob eb rb g vv t ms { v with c := u' } on (cd ++ [x]) ev rw ∧ Oto W (w2.setCell ⟨ob, 5, none⟩ u') ob eb rb v { v with c := u' } := by
 have ho := app_only (b := ob) (i := 5) (u' := u') h1 hg
 have huob := own_blk_ne h.oc h.kk (by decide)
 have hueb := own_blk_ne h.oc h.ke (by decide)
 have hurb := own_blk_ne h.oc h.kr (by decide)
 have hk := app_blk (i := 5) (u' := u') h.kk huob h1 hg
 have hoc : ∀ k, v.o.ownBlock = some k → v.c.ownBlock ≠ some k := own_own_ne h.oo h.oc (by decide)
 have hob := own_blk_ne h.oo h.kk (by decide)
 have hec : ∀ k, v.e.ownBlock = some k → v.c.ownBlock ≠ some k := own_own_ne h.oe h.oc (by decide)
 have heb := own_blk_ne h.oe h.kk (by decide)
 have hrc : ∀ k, v.r.ownBlock = some k → v.c.ownBlock ≠ some k := own_own_ne h.or h.oc (by decide)
 have hrb := own_blk_ne h.or h.kk (by decide)
 have hbe := Blk.ne_ h.kk h.ke (by decide)
 have hbr := Blk.ne_ h.kk h.kr (by decide)
 have hd := h.d
 refine ⟨⟨hk, h.ke.only ho (fun h9 => by rcases h9 with h9 | h9; exact hueb h9; omega), h.kr.only ho (fun h9 => by rcases h9 with h9 | h9; exact hurb h9; omega), own_only h.oo ho (fun k hk2 h9 => by rcases h9 with h9 | rfl; exact hoc k hk2 h9; exact hob hk2), ?_, own_only h.oe ho (fun k hk2 h9 => by rcases h9 with h9 | rfl; exact hec k hk2 h9; exact heb hk2), own_only h.or ho (fun k hk2 h9 => by rcases h9 with h9 | rfl; exact hrc k hk2 h9; exact hrb hk2), h.n1, h.n2, h.b, h.d⟩, oto_app 5 (.inl rfl) (fun k hk => .inr (.inr (.inr (.inr (.inl hk))))) h1 hg (at_old h1 hat) (fun k hk => ?_)⟩
 · have := app_row hown hk (by decide)
   rw [List.length_append]
   simpa [ints, ins] using this
 · rcases hk with rfl | rfl | rfl | hk | hk | hk | hk
   · exact .inr (.inl rfl)
   · exact .inr (.inr (.inl rfl))
   · exact .inr (.inr (.inr (.inl rfl)))
   · exact .inr (.inr (.inr (.inr (.inl hk))))
   · exact .inl hk
   · exact .inr (.inr (.inr (.inr (.inr (.inr (.inl hk))))))
   · exact .inr (.inr (.inr (.inr (.inr (.inr (.inr (hk)))))))
theorem Om.app_r (h : Om W B ob eb rb g vv t ms v on cd ev rw) {x : Int} {u' : Value} {w1 w2 : World} (h1 : Below W.heap.size W w1) (hown : w2.ownsRow B 3 1 u' (rw.length + 1) (ints rw ++ [.int .i64 x])) (hg : w1.grownBy w2 v.r.ownBlock) (hat : u'.ownBlock = v.r.ownBlock ∨ u'.ownBlock = some w1.heap.size) :
   Om (w2.setCell ⟨rb, 0, none⟩ u') B ob eb rb g vv t ms { v with r := u' } on cd ev (rw ++ [x]) ∧ Oto W (w2.setCell ⟨rb, 0, none⟩ u') ob eb rb v { v with r := u' } := by
 have ho := app_only (b := rb) (i := 0) (u' := u') h1 hg
 have huob := own_blk_ne h.or h.kk (by decide)
 have hueb := own_blk_ne h.or h.ke (by decide)
 have hurb := own_blk_ne h.or h.kr (by decide)
 have hk := app_blk (i := 0) (u' := u') h.kr hurb h1 hg
 have hor : ∀ k, v.o.ownBlock = some k → v.r.ownBlock ≠ some k := fun k hk => (h.n1 k hk).2
 have hob := own_blk_ne h.oo h.kr (by decide)
 have hcr : ∀ k, v.c.ownBlock = some k → v.r.ownBlock ≠ some k := own_own_ne h.oc h.or (by decide)
 have hcb := own_blk_ne h.oc h.kr (by decide)
 have her : ∀ k, v.e.ownBlock = some k → v.r.ownBlock ≠ some k := fun k hk => h.n2 k hk
 have heb := own_blk_ne h.oe h.kr (by decide)
 have hbe := Blk.ne_ h.kk h.ke (by decide)
 have hbr := Blk.ne_ h.kk h.kr (by decide)
 have hd := h.d
 refine ⟨⟨h.kk.only ho (fun h9 => by rcases h9 with h9 | h9; exact huob h9; omega), h.ke.only ho (fun h9 => by rcases h9 with h9 | h9; exact hueb h9; omega), hk, own_only h.oo ho (fun k hk2 h9 => by rcases h9 with h9 | rfl; exact hor k hk2 h9; exact hob hk2), own_only h.oc ho (fun k hk2 h9 => by rcases h9 with h9 | rfl; exact hcr k hk2 h9; exact hcb hk2), own_only h.oe ho (fun k hk2 h9 => by rcases h9 with h9 | rfl; exact her k hk2 h9; exact heb hk2), ?_, fun k hk => ⟨(h.n1 k hk).1, fun h9 => at_ne h1 hat (fun k hk => (h.oo.lt k hk).2) (fun k hk hk2 => hor k hk2 hk) k h9 hk⟩, fun k hk h9 => at_ne h1 hat (fun k hk => (h.oe.lt k hk).2) (fun k hk hk2 => her k hk2 hk) k h9 hk, h.b, h.d⟩, oto_app 0 (.inr (.inr (.inl rfl))) (fun k hk => .inr (.inr (.inr (.inr (.inr (.inr (hk))))))) h1 hg (at_old h1 hat) (fun k hk => ?_)⟩
 · have := app_row hown hk (by decide)
   rw [List.length_append]
   simpa [ints, ins] using this
 · rcases hk with rfl | rfl | rfl | hk | hk | hk | hk
   · exact .inr (.inl rfl)
   · exact .inr (.inr (.inl rfl))
   · exact .inr (.inr (.inr (.inl rfl)))
   · exact .inr (.inr (.inr (.inr (.inl hk))))
   · exact .inr (.inr (.inr (.inr (.inr (.inl hk)))))
   · exact .inr (.inr (.inr (.inr (.inr (.inr (.inl hk))))))
   · exact .inl hk
end
end Go.Proofs.Ytdpokdcendgfeaa
namespace Go.Proofs.Ytdpokdcendgfeaa
def Chn (g : Nat → Nat → List Cd) : Nat → List (Nat × Nat) → Nat → Prop
 | i, [], e => i = e
 | i, r :: sp, e => r.1 = i ∧ (∀ c, (g r.1 c).length + 4 * r.1 ≤ 4 * r.2) ∧ Chn g r.2 sp e
theorem chn_of {g : Nat → Nat → List Cd} {R : Int → Nat → Nat → Prop} (hR : ∀ w i e, R w i e → ∀ c, (g i c).length + 4 * i ≤ 4 * e) : ∀ (ws : List Int) (i : Nat) (sp : List (Nat × Nat)) (e : Nat), Kids R ws i sp e → Chn g i sp e
 | [], i, [], e, h => h
 | w :: ws, i, r :: sp, e, h => ⟨h.1, hR _ _ _ h.2.1, chn_of hR ws _ sp e h.2.2⟩
 | [], i, r :: sp, e, h => by simp [Kids] at h
 | w :: ws, i, [], e, h => by simp [Kids] at h
theorem seq_le {g : Nat → Nat → List Cd} : ∀ (sp : List (Nat × Nat)) (i e c : Nat), Chn g i sp e → (seqC g (sp.map Prod.fst) c).length + 4 * i ≤ 4 * e
 | [], i, e, c, h => by
   simp only [Chn] at h
   subst h
   simp [seqC]
 | r :: sp, i, e, c, ⟨h1, h2, h3⟩ => by
   have a1 := h2 c
   have a2 := seq_le sp r.2 e (c + (g r.1 c).length) h3
   simp only [List.map_cons, seqC, List.length_append]
   omega
theorem chn_le {g : Nat → Nat → List Cd} : ∀ (sp : List (Nat × Nat)) (i e : Nat), Chn g i sp e → i ≤ e
 | [], i, e, h => by simp only [Chn] at h; omega
 | r :: sp, i, e, ⟨h1, h2, h3⟩ => by
   have a1 := h2 0
   have := chn_le sp _ _ h3
   omega
theorem two_le {g : Nat → Nat → List Cd} {sp : List (Nat × Nat)} {i e : Nat} (h : Chn g i sp e) {x : Ac} (row c : Nat) : (ifC g row (sp.map Prod.fst) c).length + 4 * i ≤ 4 * e + 2 ∧ (loopC g row x (sp.map Prod.fst) c).length + 4 * i ≤ 4 * e + 4 ∧ (andC g row (sp.map Prod.fst) c).length + 4 * i ≤ 4 * e + 3 ∧ (orC g row (sp.map Prod.fst) c).length + 4 * i ≤ 4 * e + 3 := by
 have hle := chn_le _ _ _ h
 match sp, h with
 | [], h => simp [ifC, loopC, andC, orC]; omega
 | [r], h => simp [ifC, loopC, andC, orC]; omega
 | [r, s], ⟨h1, h2, h3, h4, h5⟩ =>
   simp only [Chn] at h5
   simp only [List.map_cons, List.map_nil, ifC, loopC, andC, orC, List.length_append, List.length_cons, List.length_nil]
   have a1 := h2 c
   have a2 := h4 (c + (g r.1 c).length + 1)
   have b1 := h2 (c + 2)
   have b2 := h4 (c + 2 + (g r.1 (c + 2)).length + 1)
   have c2 := h4 (c + (g r.1 c).length + 1 + 1 + 1)
   omega
 | [r, s, t], ⟨h1, h2, h3, h4, h5, h6, h7⟩ =>
   simp only [Chn] at h7
   simp only [List.map_cons, List.map_nil, ifC, loopC, andC, orC, List.length_append, List.length_cons, List.length_nil]
   have a1 := h2 c
   have a2 := h4 (c + (g r.1 c).length + 1)
   have a3 := h6 (c + (g r.1 c).length + 1 + (g s.1 (c + (g r.1 c).length + 1)).length + 1)
   omega
 | r :: s :: t :: q :: sp, h => simp [ifC, loopC, andC, orC]; omega
theorem code_le {P : Pl} {l : List Ac} : ∀ (f : Nat) (what : Int) (i e : Nat), Wf P l f what i e → ∀ c, (actC l f i c).length + 4 * i ≤ 4 * e
 | 0, what, i, e, h, c => h.elim
 | f + 1, what, i, e, h, c => by
   obtain ⟨x, hx⟩ : ∃ x, l[i]? = some x := by obtain ⟨x, sp, hx, _⟩ := h; exact ⟨x, hx⟩
   obtain ⟨sp, hm, hv, h0, hnl, hn, hkids, hks, hwl, hspl⟩ := wf_inv h hx
   have hc := chn_of (g := actC l f) (fun w i e h => code_le f w i e h) _ _ _ _ hkids
   have hle := chn_le _ _ _ hc
   have h2 := two_le hc (x := x) i c
   have hs := seq_le sp (i + 1) e c hc
   rw [actC_succ l f i c x hx, kidsC_of hks]
   split
   · simp; omega
   · split
     · omega
     · split
       · omega
       · split
         · omega
         · split
           · next h5 =>
             have hn5 : x.n = 2 := by rw [hn (by omega), h5]; simp [kidsV]
             rw [List.length_append]
             have hsp2 : sp.length = 2 := by omega
             match sp, hc, hsp2 with
             | [r, s], ⟨h1, h2, h3, h4, h5⟩, _ =>
               simp only [Chn] at h5
               have a1 := h2 0
               have a2 := h4 c
               simp only [List.map_cons, List.map_nil, List.getElem?_cons_succ, List.getElem?_cons_zero, Option.getD_some, List.length_cons, List.length_nil]
               omega
           · split
             · simp; omega
             · split
               · omega
               · split
                 · omega
                 · rw [List.length_append]
                   simp only [List.length_cons, List.length_nil]
                   omega
theorem ev_le {P : Pl} {l : List Ac} (h : Wf P l (l.length + 2) 1 0 l.length) : (evC l).length ≤ 4 * l.length + 1 := by
 have := code_le _ _ _ _ h 0
 simp only [evC, List.length_append, List.length_cons, List.length_nil]
 omega
/-- an instruction that goes to a place -/
def S5 (o : Int) : Prop := o = 22 ∨ o = 23 ∨ o = 25 ∨ o = 26 ∨ o = 27
def GoodC (N : Nat) (x : Cd) : Prop := (∀ t, x.to = some t → t ≤ N) ∧ (x.to = none → S5 x.i.o → 0 ≤ x.i.a ∧ x.i.a ≤ (N : Int))
theorem GoodC.mono {N M : Nat} {x : Cd} (h : GoodC N x) (hm : N ≤ M) : GoodC M x := ⟨fun t ht => Nat.le_trans (h.1 t ht) hm, fun h1 h2 => by have := h.2 h1 h2; omega⟩
theorem good_say {N : Nat} {o a b c d : Int} {row : Nat} (h : ¬ S5 o) : GoodC N (sayC o a b c d row) := ⟨fun t ht => by simp [sayC] at ht, fun _ h2 => absurd h2 h⟩
theorem good_jmp {N : Nat} {o : Int} {row t : Nat} (h : t ≤ N) : GoodC N (jmpC o row t) := ⟨fun t' ht => by simp [jmpC] at ht; omega, fun h1 => by simp [jmpC] at h1⟩
theorem good_item {N : Nat} {row : Nat} {y : Ac} {tag x e : Int} (h1 : ¬ S5 x) (h2 : ¬ S5 e) : GoodC N (itemC row y tag x e) := by
 unfold itemC
 split
 · exact good_say h1
 · exact good_say h2
theorem good_seq {g : Nat → Nat → List Cd} (hg : ∀ i c, ∀ x ∈ g i c, GoodC (c + (g i c).length) x) : ∀ (ks : List Nat) (c : Nat), ∀ x ∈ seqC g ks c, GoodC (c + (seqC g ks c).length) x
 | [], c, x, h => by simp [seqC] at h
 | k :: ks, c, x, h => by
   simp only [seqC, List.mem_append, List.length_append] at h ⊢
   rcases h with h | h
   · exact (hg k c x h).mono (by omega)
   · exact (good_seq hg ks _ x h).mono (by omega)
theorem good_if {g : Nat → Nat → List Cd} (hg : ∀ i c, ∀ x ∈ g i c, GoodC (c + (g i c).length) x) (row : Nat) (ks : List Nat) (c : Nat) : ∀ x ∈ ifC g row ks c, GoodC (c + (ifC g row ks c).length) x := by
 intro x h
 unfold ifC at h ⊢
 split at h
 · simp only [List.mem_append, List.mem_cons, List.length_append, List.length_cons] at h ⊢
   rcases h with h | rfl | h
   · exact (hg _ _ x h).mono (by omega)
   · exact good_jmp (by omega)
   · exact (hg _ _ x h).mono (by omega)
 · simp only [List.mem_append, List.mem_cons, List.length_append, List.length_cons] at h ⊢
   rcases h with h | rfl | h | rfl | h
   · exact (hg _ _ x h).mono (by omega)
   · exact good_jmp (by omega)
   · exact (hg _ _ x h).mono (by omega)
   · exact good_jmp (by omega)
   · exact (hg _ _ x h).mono (by omega)
 · simp at h
theorem good_loop {g : Nat → Nat → List Cd} (hg : ∀ i c, ∀ x ∈ g i c, GoodC (c + (g i c).length) x) (row : Nat) (y : Ac) (ks : List Nat) (c : Nat) : ∀ x ∈ loopC g row y ks c, GoodC (c + (loopC g row y ks c).length) x := by
 intro x h
 unfold loopC at h ⊢
 split at h
 · simp only [List.mem_append, List.mem_cons, List.length_append, List.length_cons, List.length_nil, List.not_mem_nil, or_false] at h ⊢
   rcases h with rfl | rfl | h | rfl | h | rfl
   · exact good_say (by simp [S5])
   · exact good_jmp (by omega)
   · exact (hg _ _ x h).mono (by omega)
   · exact good_jmp (by omega)
   · exact (hg _ _ x h).mono (by omega)
   · exact ⟨fun t ht => by simp [sayC] at ht, fun _ _ => by simp only [sayC]; omega⟩
 · simp at h
theorem good_and {g : Nat → Nat → List Cd} (hg : ∀ i c, ∀ x ∈ g i c, GoodC (c + (g i c).length) x) (row : Nat) (ks : List Nat) (c : Nat) : ∀ x ∈ andC g row ks c, GoodC (c + (andC g row ks c).length) x := by
 intro x h
 unfold andC at h ⊢
 split at h
 · simp only [List.mem_append, List.mem_cons, List.length_append, List.length_cons, List.length_nil, List.not_mem_nil, or_false] at h ⊢
   rcases h with h | rfl | h | rfl | rfl
   · exact (hg _ _ x h).mono (by omega)
   · exact good_jmp (by omega)
   · exact (hg _ _ x h).mono (by omega)
   · exact good_jmp (by omega)
   · exact good_say (by simp [S5])
 · simp at h
theorem good_or {g : Nat → Nat → List Cd} (hg : ∀ i c, ∀ x ∈ g i c, GoodC (c + (g i c).length) x) (row : Nat) (ks : List Nat) (c : Nat) : ∀ x ∈ orC g row ks c, GoodC (c + (orC g row ks c).length) x := by
 intro x h
 unfold orC at h ⊢
 split at h
 · simp only [List.mem_append, List.mem_cons, List.length_append, List.length_cons] at h ⊢
   rcases h with h | rfl | rfl | rfl | h
   · exact (hg _ _ x h).mono (by omega)
   · exact good_jmp (by omega)
   · exact good_say (by simp [S5])
   · exact good_jmp (by omega)
   · exact (hg _ _ x h).mono (by omega)
 · simp at h
theorem plain_not {k : Int} (h : (plainV k).2 = true) : ¬ S5 (plainV k).1 := by
 unfold plainV at h ⊢
 unfold S5
 repeat' split at h
 all_goals (try simp at h)
 all_goals simp [*]
 all_goals omega
theorem behind_not (k : Int) : ¬ S5 (behindV k) := by
 unfold behindV S5
 split <;> omega
theorem good_act (l : List Ac) : ∀ (f i c : Nat), ∀ x ∈ actC l f i c, GoodC (c + (actC l f i c).length) x
 | 0, i, c, x, h => by simp [actC] at h
 | f + 1, i, c, x, h => by
   cases hx : l[i]? with
   | none => unfold actC at h; simp [hx] at h
   | some y =>
     have ih := good_act l f
     rw [actC_succ l f i c y hx] at h ⊢
     split at h
     · next hp =>
       rw [if_pos hp]
       simp only [List.mem_cons, List.not_mem_nil, or_false] at h
       subst h
       exact good_say (plain_not hp)
     · next hp =>
       rw [if_neg hp]
       split at h
       · next h1 => rw [if_pos h1]; exact good_seq ih _ _ x h
       · next h1 =>
         rw [if_neg h1]
         split at h
         · next h2 => rw [if_pos h2]; exact good_if ih _ _ _ x h
         · next h2 =>
           rw [if_neg h2]
           split at h
           · next h3 => rw [if_pos h3]; exact good_loop ih _ _ _ _ x h
           · next h3 =>
             rw [if_neg h3]
             split at h
             · next h5 =>
               rw [if_pos h5]
               simp only [List.mem_append, List.mem_cons, List.not_mem_nil, or_false, List.length_append] at h ⊢
               rcases h with h | rfl
               · exact (ih _ _ x h).mono (by omega)
               · exact good_item (by simp [S5]) (by simp [S5])
             · next h5 =>
               rw [if_neg h5]
               split at h
               · next h25 =>
                 rw [if_pos h25]
                 simp only [List.mem_cons, List.not_mem_nil, or_false] at h
                 subst h
                 exact good_item (by simp [S5]) (by simp [S5])
               · next h25 =>
                 rw [if_neg h25]
                 split at h
                 · next h37 => rw [if_pos h37]; exact good_and ih _ _ _ x h
                 · next h37 =>
                   rw [if_neg h37]
                   split at h
                   · next h38 => rw [if_pos h38]; exact good_or ih _ _ _ x h
                   · next h38 =>
                     rw [if_neg h38]
                     simp only [List.mem_append, List.mem_cons, List.not_mem_nil, or_false, List.length_append] at h ⊢
                     rcases h with h | rfl
                     · exact (good_seq ih _ _ x h).mono (by omega)
                     · exact good_say (behind_not _)
theorem fin_small {l : List Ac} {x : Cd} (h : x ∈ evC l) (hs : S5 x.fin.o) : 0 ≤ x.fin.a ∧ x.fin.a ≤ ((evC l).length : Int) := by
 have hg : GoodC (evC l).length x := by
   simp only [evC, List.mem_append, List.mem_cons, List.not_mem_nil, or_false] at h
   rcases h with h | rfl
   · exact (good_act l _ _ _ x h).mono (by simp [evC])
   · exact good_say (by simp [S5])
 unfold Cd.fin at hs ⊢
 split
 · next h1 => rw [h1] at hs; exact hg.2 h1 hs
 · next t h1 =>
   have := hg.1 t h1
   simp only
   omega
end Go.Proofs.Ytdpokdcendgfeaa
namespace Go.Proofs.Ytdpokdcendgfeaa
open Go.RowKit
def finL (at_ : Nat) (l : List Ac) : List In := (evC l).map fun x => relC at_ x.fin
theorem relC_yes {n : Nat} {x : In} (h : S5 x.o) : relC n x = { x with a := x.a + (n : Int) } := by unfold relC; exact if_pos h
theorem relC_no {n : Nat} {x : In} (h : ¬ S5 x.o) : relC n x = x := by unfold relC; exact if_neg h
def nilV4 : Wv := ⟨.slice none 0 0, .slice none 0 0, .slice none 0 0, .slice none 0 0⟩
theorem gw_new {W w2 : World} {l : List Ac} {ad : Addr} {ca : Nat} (hs : Src W (some ad) l.length (acs l)) (hl : 0 < l.length) (he : Blk w2 W.heap.size 3 (ints (endsF l 0)).toArray) (hb : Below W.heap.size W w2) :
   Gw (w2.alloc (.cells (gcells l ad ca W.heap.size nilV4) 119)) w2.heap.size w2.heap.size l ad ca W.heap.size nilV4 [] [] [] 0 := by
 obtain ⟨ad', e, hab, hx⟩ := hs hl
 cases e
 have hsz := hb.size
 refine ⟨Blk.new _ _ _, Nat.le_refl _, World.ownsRow_nil _ _ _ _, World.ownsRow_nil _ _ _ _, World.ownsRow_nil _ _ _ _, ⟨[], World.ownsRow_nil _ _ _ _⟩, fun k hk => by simp [nilV4, Value.ownBlock] at hk, ⟨fun _ => ⟨ad, rfl, by simp; omega, fun j v hj => ?_⟩, he.alloc _, by omega, he.lt⟩⟩
 exact (World.cell?_alloc_lt w2 _ _ (by rw [add_block]; omega)).trans ((hb.cell (by rw [add_block]; exact hab)).trans (hx j v hj))
theorem own_al {w : World} {base : Nat} {e : TypeId} {size n : Nat} {u : Value} {xs : List Value} {o : Obj} (h : w.ownsRow base e size u n xs) : (w.alloc o).ownsRow base e size u n xs :=
 own_keep h (fun k hk => Below.heap_alloc w o k (h.lt k hk).2)
theorem one_at0 (w : World) (t : TypeId) (x : Value) : (w.alloc (.cells #[x] t)).cell? ⟨w.heap.size, 0, none⟩ = some x := (Blk.new w t #[x]).cell 0
theorem one_cell {w : World} {g : Nat} {x : Value} (h : w.cell? ⟨g, 0, none⟩ = some x) : ∀ j u, [x][j]? = some u → w.cell? ((⟨g, 0, none⟩ : Addr).add j) = some u := by
 intro j u hj
 obtain rfl : j = 0 := by have := (List.getElem?_eq_some_iff.1 hj).1; simp at this; exact this
 simp at hj
 subst hj
 exact h
section
variable {Wb : World} {B ob eb rb : Nat} {g vv t : Value} {ms : Int} {v : Ov} {on : List Int} {cd : List In} {ev rw : List Int}
def S2 (v : Ov) (k : Nat) : Prop := v.e.ownBlock = some k ∨ v.r.ownBlock = some k
/-- both rows appended to, both slices stored -/
theorem er_fin (h : Om Wb B ob eb rb g vv t ms v on cd ev rw) {w7 : World} {uE uR : Value} {x y : Int} (ho : Only (S2 v) Wb w7)
   (hE : w7.ownsRow B 3 1 uE (ev.length + 1) (ints ev ++ [.int .i64 x])) (hR : w7.ownsRow B 3 1 uR (rw.length + 1) (ints rw ++ [.int .i64 y]))
   (aE : uE.ownBlock = v.e.ownBlock ∨ ∃ k, uE.ownBlock = some k ∧ Wb.heap.size ≤ k) (aR : uR.ownBlock = v.r.ownBlock ∨ ∃ k, uR.ownBlock = some k ∧ Wb.heap.size ≤ k) (hne : ∀ k, uE.ownBlock = some k → uR.ownBlock ≠ some k) :
   Om ((w7.setCell ⟨eb, 0, none⟩ uE).setCell ⟨rb, 0, none⟩ uR) B ob eb rb g vv t ms { v with e := uE, r := uR } on cd (ev ++ [x]) (rw ++ [y]) ∧ Oto Wb ((w7.setCell ⟨eb, 0, none⟩ uE).setCell ⟨rb, 0, none⟩ uR) ob eb rb v { v with e := uE, r := uR } := by
 have e1 := own_blk_ne h.oe h.ke (by decide)
 have e2 := own_blk_ne h.or h.ke (by decide)
 have e3 := own_blk_ne h.oe h.kr (by decide)
 have e4 := own_blk_ne h.or h.kr (by decide)
 have e5 := own_blk_ne h.oe h.kk (by decide)
 have e6 := own_blk_ne h.or h.kk (by decide)
 have hbe := Blk.ne_ h.kk h.ke (by decide)
 have hbr := Blk.ne_ h.kk h.kr (by decide)
 have hd := h.d
 have k1 : Blk w7 eb 24 #[v.e] := h.ke.only ho (fun h9 => by rcases h9 with h9 | h9; exact e1 h9; exact e2 h9)
 have k2 : Blk w7 rb 24 #[v.r] := h.kr.only ho (fun h9 => by rcases h9 with h9 | h9; exact e3 h9; exact e4 h9)
 have k3 : Blk w7 ob 34 #[g, vv, t, v.o, .int .i64 ms, v.c] := h.kk.only ho (fun h9 => by rcases h9 with h9 | h9; exact e5 h9; exact e6 h9)
 have fE := own_blk_ne hE k1 (by decide)
 have fE2 := own_blk_ne hE k2 (by decide)
 have fR := own_blk_ne hR k1 (by decide)
 have fR2 := own_blk_ne hR k2 (by decide)
 have o1 : w7.ownsRow B 3 1 v.o on.length (ints on) := own_only h.oo ho (fun k hk h9 => by rcases h9 with h9 | h9; exact (h.n1 k hk).1 h9; exact (h.n1 k hk).2 h9)
 have o2 : w7.ownsRow B 56 5 v.c cd.length (ins cd) := own_only h.oc ho (fun k hk h9 => by rcases h9 with h9 | h9; exact own_own_ne h.oc h.oe (by decide) k hk h9; exact own_own_ne h.oc h.or (by decide) k hk h9)
 have g1 := own_blk_ne o1 k1 (by decide)
 have g2 := own_blk_ne o1 k2 (by decide)
 have g3 := own_blk_ne o2 k1 (by decide)
 have g4 := own_blk_ne o2 k2 (by decide)
 have hlt1 : ∀ k, v.o.ownBlock = some k → uE.ownBlock ≠ some k := fun k hk hk2 => by
   rcases aE with a | ⟨k', a, hk'⟩
   · exact (h.n1 k hk).1 (by rw [← a]; exact hk2)
   · rw [a] at hk2; injection hk2 with hk2; have := (h.oo.lt k hk).2; omega
 have hlt2 : ∀ k, v.o.ownBlock = some k → uR.ownBlock ≠ some k := fun k hk hk2 => by
   rcases aR with a | ⟨k', a, hk'⟩
   · exact (h.n1 k hk).2 (by rw [← a]; exact hk2)
   · rw [a] at hk2; injection hk2 with hk2; have := (h.oo.lt k hk).2; omega
 refine ⟨⟨(k3.far (by simpa using hbe) _).far (by simpa using hbr) _, ?_, ?_, own_far (own_far o1 (by simpa using g1) _) (by simpa using g2) _, own_far (own_far o2 (by simpa using g3) _) (by simpa using g4) _, ?_, ?_, fun k hk => ⟨hlt1 k hk, hlt2 k hk⟩, hne, h.b, h.d⟩, ⟨?_, ?_⟩⟩
 · exact ((k1.set_ 0 uE).far (by simpa using hd) _)
 · exact ((k2.far (by simpa using (Ne.symm hd)) _).set_ 0 uR)
 · rw [List.length_append]
   have := own_far (own_far hE (p := ⟨eb, 0, none⟩) (by simpa using fE) uE) (p := ⟨rb, 0, none⟩) (by simpa using fE2) uR
   simpa [ints] using this
 · rw [List.length_append]
   have := own_far (own_far hR (p := ⟨eb, 0, none⟩) (by simpa using fR) uE) (p := ⟨rb, 0, none⟩) (by simpa using fR2) uR
   simpa [ints] using this
 · refine ((ho.mono (T := v.in_ ob eb rb) (fun k hk => .inl ?_)).setCell (.inl (.inr (.inl rfl))) uE).setCell (.inl (.inr (.inr (.inl rfl)))) uR
   rcases hk with hk | hk
   · exact .inr (.inr (.inr (.inr (.inr (.inl hk)))))
   · exact .inr (.inr (.inr (.inr (.inr (.inr hk)))))
 · intro k hk
   rcases hk with hk | hk | hk | hk | hk | hk | hk
   · exact .inl (.inl hk)
   · exact .inl (.inr (.inl hk))
   · exact .inl (.inr (.inr (.inl hk)))
   · exact .inl (.inr (.inr (.inr (.inl hk))))
   · exact .inl (.inr (.inr (.inr (.inr (.inl hk)))))
   · rcases aE with a | ⟨k', a, hk'⟩
     · exact .inl (.inr (.inr (.inr (.inr (.inr (.inl (by rw [← a]; exact hk)))))))
     · have hk3 : uE.ownBlock = some k := hk
       rw [a] at hk3; injection hk3 with hk3; exact .inr (by omega)
   · rcases aR with a | ⟨k', a, hk'⟩
     · exact .inl (.inr (.inr (.inr (.inr (.inr (.inr (by rw [← a]; exact hk)))))))
     · have hk3 : uR.ownBlock = some k := hk
       rw [a] at hk3; injection hk3 with hk3; exact .inr (by omega)
end
end Go.Proofs.Ytdpokdcendgfeaa
namespace Go.Proofs.Ytdpokdcendgfeaa
open Go.RowKit
/-- what a listed operation has left: a value that is known ahead -/
def Kn (K : Nat → Option Value) (S : Nat → Bool) (vs : Nat → Value) : Prop := ∀ k c, K k = some c → S k = true → vs k = c
theorem Kn.more {K : Nat → Option Value} {S : Nat → Bool} {vs : Nat → Value} {j : Nat} {c : Value} (h : Kn K S vs) (hj : ∀ d, K j = some d → c = d) : Kn K (upn S j true) (upn vs j c) := by
 intro k d hk hS
 by_cases hkj : k = j
 · subst hkj
   rw [upn_eq]
   exact hj d hk
 · rw [upn_ne hkj] at hS ⊢
   exact h k d hk hS
def K17 (e r : Value) (n : Int) (pw gr ne cr i : Nat) (x : Int) : Nat → Option Value
 | 0 => some e
 | 1 => some (.int .i64 n)
 | 4 => some r
 | 5 => some (.pointer (some ⟨pw, 0, none⟩))
 | 6 => some (.pointer (some ⟨pw, 0, none⟩))
 | 7 => some (.pointer (some ⟨pw, 3, none⟩))
 | 8 => some (.slice (some ⟨gr, 0, none⟩) ne cr)
 | 9 => some (.int .i64 (i : Int))
 | 10 => some (.pointer (some ⟨gr, i, none⟩))
 | 11 => some (.int .i64 x)
 | _ => none
/-- a slice of one, made in the region -/
def One (Wb w : World) (v : Value) (x : Int) : Prop := ∃ g, v = .slice (some ⟨g, 0, none⟩) 1 1 ∧ Wb.heap.size ≤ g ∧ g < w.heap.size ∧ w.cell? ⟨g, 0, none⟩ = some (.int .i64 x)
structure Pre17 (Wb : World) (B : Nat) (vb : Ov) (ev rw : List Int) (n x : Int) (S : Nat → Bool) (vs : Nat → Value) (w : World) : Prop where
 o : Only (S2 vb) Wb w
 s2 : S 2 = true → One Wb w (vs 2) n
 s12 : S 12 = true → One Wb w (vs 12) x
 e0 : S 3 = false → w.ownsRow B 3 1 vb.e ev.length (ints ev)
 e1 : S 3 = true → w.ownsRow B 3 1 (vs 3) (ev.length + 1) (ints ev ++ [.int .i64 n]) ∧ ((vs 3).ownBlock = vb.e.ownBlock ∨ ∃ k, (vs 3).ownBlock = some k ∧ Wb.heap.size ≤ k)
 r0 : S 13 = false → w.ownsRow B 3 1 vb.r rw.length (ints rw)
 r1 : S 13 = true → w.ownsRow B 3 1 (vs 13) (rw.length + 1) (ints rw ++ [.int .i64 x]) ∧ ((vs 13).ownBlock = vb.r.ownBlock ∨ ∃ k, (vs 13).ownBlock = some k ∧ Wb.heap.size ≤ k) ∧ ∀ k, (vs 3).ownBlock = some k → (vs 13).ownBlock ≠ some k
def J17 (Wb : World) (B eb rb : Nat) (vb : Ov) (ev rw : List Int) (n : Int) (pw gr ne cr i : Nat) (x : Int) (S : Nat → Bool) (vs : Nat → Value) (w : World) : Prop :=
 Kn (K17 vb.e vb.r n pw gr ne cr i x) S vs ∧ (S 14 = false → Pre17 Wb B vb ev rw n x S vs w) ∧
 (S 14 = true → ∃ w7, Pre17 Wb B vb ev rw n x (fun _ => true) vs w7 ∧ (S 15 = false → w = w7.setCell ⟨eb, 0, none⟩ (vs 3)) ∧ (S 15 = true → w = (w7.setCell ⟨eb, 0, none⟩ (vs 3)).setCell ⟨rb, 0, none⟩ (vs 13)))
section
variable {Wb w w' : World} {B ob eb rb : Nat} {g vv t : Value} {ms : Int} {vb : Ov} {on : List Int} {cd : List In} {ev rw : List Int} {n x : Int} {pw gr ne cr i : Nat} {S : Nat → Bool} {vs : Nat → Value} {j : Nat} {c u : Value}
theorem One.grow {T : Nat → Prop} (h : One Wb w c x) (ho : Only T w w') (hT : ∀ k, T k → k < Wb.heap.size) : One Wb w' c x := by
 obtain ⟨g, e, h1, h2, h3⟩ := h
 exact ⟨g, e, h1, Nat.lt_of_lt_of_le h2 ho.size, (ho.cell h2 (fun h9 => by have := hT _ h9; simp at this; omega)).trans h3⟩
theorem pre_pure (h : Pre17 Wb B vb ev rw n x S vs w) (h2 : j ≠ 2) (h3 : j ≠ 3) (h12 : j ≠ 12) (h13 : j ≠ 13) : Pre17 Wb B vb ev rw n x (upn S j true) (upn vs j c) w := by
 obtain ⟨a, b, d, e, f, k, l⟩ := h
 refine ⟨a, ?_, ?_, ?_, ?_, ?_, ?_⟩
 · rw [upn_ne (Ne.symm h2), upn_ne (Ne.symm h2)]; exact b
 · rw [upn_ne (Ne.symm h12), upn_ne (Ne.symm h12)]; exact d
 · rw [upn_ne (Ne.symm h3)]; exact e
 · rw [upn_ne (Ne.symm h3), upn_ne (Ne.symm h3)]; exact f
 · rw [upn_ne (Ne.symm h13)]; exact k
 · rw [upn_ne (Ne.symm h13), upn_ne (Ne.symm h13), upn_ne (Ne.symm h3)]; exact l
theorem J17.known (h : J17 Wb B eb rb vb ev rw n pw gr ne cr i x S vs w) : Kn (K17 vb.e vb.r n pw gr ne cr i x) S vs := h.1
theorem J17.pre (h : J17 Wb B eb rb vb ev rw n pw gr ne cr i x S vs w) (h14 : S 14 = false) : Pre17 Wb B vb ev rw n x S vs w := h.2.1 h14
theorem J17.pure (h : J17 Wb B eb rb vb ev rw n pw gr ne cr i x S vs w) (h14 : S 14 = false) (hj : j ≠ 2 ∧ j ≠ 3 ∧ j ≠ 12 ∧ j ≠ 13 ∧ j ≠ 14 ∧ j ≠ 15) (hc : K17 vb.e vb.r n pw gr ne cr i x j = some c) : J17 Wb B eb rb vb ev rw n pw gr ne cr i x (upn S j true) (upn vs j c) w := by
 refine ⟨h.1.more (fun d hd => by rw [hc] at hd; injection hd), fun _ => pre_pure (h.pre h14) hj.1 hj.2.1 hj.2.2.1 hj.2.2.2.1, fun h9 => ?_⟩
 rw [upn_ne (Ne.symm hj.2.2.2.2.1), h14] at h9
 cases h9
theorem one_new (ho : Only (S2 vb) Wb w) (y : Int) : One Wb (w.alloc (.cells #[.int .i64 y] 3)) (.slice (some ⟨w.heap.size, 0, none⟩) 1 1) y :=
 ⟨w.heap.size, rfl, ho.size, by simp, one_at0 w _ _⟩
theorem J17.new2 (hom : Om Wb B ob eb rb g vv t ms vb on cd ev rw) (h : J17 Wb B eb rb vb ev rw n pw gr ne cr i x S vs w) (h14 : S 14 = false) : J17 Wb B eb rb vb ev rw n pw gr ne cr i x (upn S 2 true) (upn vs 2 (.slice (some ⟨w.heap.size, 0, none⟩) 1 1)) (w.alloc (.cells #[.int .i64 n] 3)) := by
 have hp := h.pre h14
 have ho : Only (fun _ => False) w (w.alloc (.cells #[.int .i64 n] 3)) := (Only.refl _ w).alloc _
 refine ⟨h.1.more (fun d hd => by simp [K17] at hd), fun _ => ⟨hp.o.alloc _, fun _ => ?_, fun h9 => ?_, fun h9 => ?_, fun h9 => ?_, fun h9 => ?_, fun h9 => ?_⟩, fun h9 => ?_⟩
 · rw [upn_eq]; exact one_new hp.o n
 · exact (hp.s12 h9).grow ho (fun _ => False.elim)
 · exact own_al (hp.e0 h9)
 · exact ⟨own_al (hp.e1 h9).1, (hp.e1 h9).2⟩
 · exact own_al (hp.r0 h9)
 · exact ⟨own_al (hp.r1 h9).1, (hp.r1 h9).2⟩
 · have h10 : S 14 = true := h9
   rw [h14] at h10; cases h10
theorem J17.new12 (hom : Om Wb B ob eb rb g vv t ms vb on cd ev rw) (h : J17 Wb B eb rb vb ev rw n pw gr ne cr i x S vs w) (h14 : S 14 = false) : J17 Wb B eb rb vb ev rw n pw gr ne cr i x (upn S 12 true) (upn vs 12 (.slice (some ⟨w.heap.size, 0, none⟩) 1 1)) (w.alloc (.cells #[.int .i64 x] 3)) := by
 have hp := h.pre h14
 have ho : Only (fun _ => False) w (w.alloc (.cells #[.int .i64 x] 3)) := (Only.refl _ w).alloc _
 refine ⟨h.1.more (fun d hd => by simp [K17] at hd), fun _ => ⟨hp.o.alloc _, fun h9 => ?_, fun _ => ?_, fun h9 => ?_, fun h9 => ?_, fun h9 => ?_, fun h9 => ?_⟩, fun h9 => ?_⟩
 · exact (hp.s2 h9).grow ho (fun _ => False.elim)
 · rw [upn_eq]; exact one_new hp.o x
 · exact own_al (hp.e0 h9)
 · exact ⟨own_al (hp.e1 h9).1, (hp.e1 h9).2⟩
 · exact own_al (hp.r0 h9)
 · exact ⟨own_al (hp.r1 h9).1, (hp.r1 h9).2⟩
 · have h10 : S 14 = true := h9
   rw [h14] at h10; cases h10
theorem grown_only {row : Option Nat} (hg : w.grownBy w' row) : Only (fun k => row = some k) w w' := (Only.refl _ w).grown hg (fun k hk => .inl hk)
theorem J17.app3 (hom : Om Wb B ob eb rb g vv t ms vb on cd ev rw) (h : J17 Wb B eb rb vb ev rw n pw gr ne cr i x S vs w) (h14 : S 14 = false) (h3 : S 3 = false) (h13 : S 13 = false) (hown : w'.ownsRow B 3 1 u (ev.length + 1) (ints ev ++ [.int .i64 n])) (hg : w.grownBy w' vb.e.ownBlock) (hat : u.ownBlock = vb.e.ownBlock ∨ u.ownBlock = some w.heap.size) : J17 Wb B eb rb vb ev rw n pw gr ne cr i x (upn S 3 true) (upn vs 3 u) w' := by
 have hp := h.pre h14
 have ho := grown_only hg
 have hlt : ∀ k, vb.e.ownBlock = some k → k < Wb.heap.size := fun k hk => (hom.oe.lt k hk).2
 refine ⟨h.1.more (fun d hd => by simp [K17] at hd), fun _ => ⟨hp.o.grown hg (fun k hk => .inl (.inl hk)), fun h9 => (hp.s2 h9).grow ho hlt, fun h9 => (hp.s12 h9).grow ho hlt, fun h9 => ?_, fun _ => ?_, fun h9 => ?_, fun h9 => ?_⟩, fun h9 => ?_⟩
 · rw [upn_eq] at h9; cases h9
 · rw [upn_eq]
   refine ⟨hown, ?_⟩
   rcases hat with h8 | h8
   · exact .inl h8
   · exact .inr ⟨_, h8, hp.o.size⟩
 · exact own_only (hp.r0 h9) ho (fun k hk hk2 => hom.n2 k hk2 hk)
 · have h10 : S 13 = true := h9
   rw [h13] at h10; cases h10
 · have h10 : S 14 = true := h9
   rw [h14] at h10; cases h10
theorem J17.app13 (hom : Om Wb B ob eb rb g vv t ms vb on cd ev rw) (h : J17 Wb B eb rb vb ev rw n pw gr ne cr i x S vs w) (h14 : S 14 = false) (h3 : S 3 = true) (hown : w'.ownsRow B 3 1 u (rw.length + 1) (ints rw ++ [.int .i64 x])) (hg : w.grownBy w' vb.r.ownBlock) (hat : u.ownBlock = vb.r.ownBlock ∨ u.ownBlock = some w.heap.size) : J17 Wb B eb rb vb ev rw n pw gr ne cr i x (upn S 13 true) (upn vs 13 u) w' := by
 have hp := h.pre h14
 have ho := grown_only hg
 have hlt : ∀ k, vb.r.ownBlock = some k → k < Wb.heap.size := fun k hk => (hom.or.lt k hk).2
 obtain ⟨he, hea⟩ := hp.e1 h3
 have hne : ∀ k, (vs 3).ownBlock = some k → vb.r.ownBlock ≠ some k := fun k hk hk2 => by
   rcases hea with h8 | ⟨k', h8, h7⟩
   · exact hom.n2 k (by rw [← h8]; exact hk) hk2
   · rw [h8] at hk; injection hk with hk; have := hlt k hk2; omega
 refine ⟨h.1.more (fun d hd => by simp [K17] at hd), fun _ => ⟨hp.o.grown hg (fun k hk => .inl (.inr hk)), fun h9 => (hp.s2 h9).grow ho hlt, fun h9 => (hp.s12 h9).grow ho hlt, fun h9 => ?_, fun _ => ?_, fun h9 => ?_, fun _ => ?_⟩, fun h9 => ?_⟩
 · have h10 : S 3 = false := h9
   rw [h3] at h10; cases h10
 · rw [upn_ne (by decide : (3 : Nat) ≠ 13)]
   exact ⟨own_only he ho (fun k hk hk2 => hne k hk hk2), hea⟩
 · rw [upn_eq] at h9; cases h9
 · rw [upn_eq, upn_ne (by decide : (3 : Nat) ≠ 13)]
   refine ⟨hown, ?_, fun k hk hk2 => ?_⟩
   · rcases hat with h8 | h8
     · exact .inl h8
     · exact .inr ⟨_, h8, hp.o.size⟩
   · rcases hat with h8 | h8
     · exact hne k hk (by rw [← h8]; exact hk2)
     · rw [h8] at hk2; injection hk2 with hk2; have := (he.lt k hk).2; omega
 · have h10 : S 14 = true := h9
   rw [h14] at h10; cases h10
theorem J17.st14 (h : J17 Wb B eb rb vb ev rw n pw gr ne cr i x S vs w) (h14 : S 14 = false) (h15 : S 15 = false) (hall : ∀ k, k < 14 → S k = true) : J17 Wb B eb rb vb ev rw n pw gr ne cr i x (upn S 14 true) (upn vs 14 c) (w.setCell ⟨eb, 0, none⟩ (vs 3)) := by
 have hp := h.pre h14
 refine ⟨h.1.more (fun d hd => by simp [K17] at hd), fun h9 => (by rw [upn_eq] at h9; cases h9), fun _ => ⟨w, ?_, fun _ => rfl, fun h9 => ?_⟩⟩
 · obtain ⟨a, b, d, e, f, k, l⟩ := hp
   exact ⟨a, fun _ => b (hall 2 (by decide)), fun _ => d (hall 12 (by decide)), fun h9 => (by cases h9), fun _ => f (hall 3 (by decide)), fun h9 => (by cases h9), fun _ => l (hall 13 (by decide))⟩
 · rw [upn_ne (by decide : (15 : Nat) ≠ 14), h15] at h9; cases h9
theorem J17.st15 (h : J17 Wb B eb rb vb ev rw n pw gr ne cr i x S vs w) (h14 : S 14 = true) (h15 : S 15 = false) : J17 Wb B eb rb vb ev rw n pw gr ne cr i x (upn S 15 true) (upn vs 15 c) (w.setCell ⟨rb, 0, none⟩ (vs 13)) := by
 obtain ⟨w7, hp, h1, _⟩ := h.2.2 h14
 refine ⟨h.1.more (fun d hd => by simp [K17] at hd), fun h9 => ?_, fun _ => ⟨w7, ?_, fun h9 => ?_, fun _ => ?_⟩⟩
 · rw [upn_ne (by decide : (14 : Nat) ≠ 15), h14] at h9; cases h9
 · obtain ⟨a, b, d, e, f, k, l⟩ := hp
   exact ⟨a, b, d, e, f, k, l⟩
 · rw [upn_eq] at h9; cases h9
 · rw [h1 h15]
   rfl
theorem J17.mid (h : J17 Wb B eb rb vb ev rw n pw gr ne cr i x S vs w) (h14 : S 14 = true) (h15 : S 15 = false) : ∃ w7, Only (S2 vb) Wb w7 ∧ w = w7.setCell ⟨eb, 0, none⟩ (vs 3) ∧ ∃ oa c, vs 13 = .slice oa (rw.length + 1) c := by
 obtain ⟨w7, hp, h1, _⟩ := h.2.2 h14
 exact ⟨w7, hp.o, h1 h15, own_slice (hp.r1 rfl).1⟩
theorem J17.fin (hom : Om Wb B ob eb rb g vv t ms vb on cd ev rw) (h : J17 Wb B eb rb vb ev rw n pw gr ne cr i x (fun _ => true) vs w) :
   Om w B ob eb rb g vv t ms { vb with e := vs 3, r := vs 13 } on cd (ev ++ [n]) (rw ++ [x]) ∧ Oto Wb w ob eb rb vb { vb with e := vs 3, r := vs 13 } := by
 obtain ⟨w7, hp, _, h2⟩ := h.2.2 rfl
 have he := hp.e1 rfl
 have hr := hp.r1 rfl
 rw [h2 rfl]
 exact er_fin hom hp.o he.1 hr.1 he.2 hr.2.1 hr.2.2
theorem J17.start (hom : Om Wb B ob eb rb g vv t ms vb on cd ev rw) : J17 Wb B eb rb vb ev rw n pw gr ne cr i x (fun i => decide (16 ≤ i)) vs Wb.drew := by
 refine ⟨fun k c hk hS => ?_, fun _ => ⟨(Only.refl _ Wb).drew, fun h9 => ?_, fun h9 => ?_, fun _ => hom.oe, fun h9 => ?_, fun _ => hom.or, fun h9 => ?_⟩, fun h9 => ?_⟩
 · simp at hS
   obtain ⟨m, rfl⟩ : ∃ m, k = m + 16 := ⟨k - 16, by omega⟩
   simp [K17] at hk
 all_goals simp at h9
end
end Go.Proofs.Ytdpokdcendgfeaa
