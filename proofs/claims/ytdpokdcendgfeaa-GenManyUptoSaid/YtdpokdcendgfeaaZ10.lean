/- Several texts in one: A plan in memory. The walk of rule.Check. rule.Check tells checkV. Conditions: those of each. -/
import Derived.Test.YtdpokdcendgfeaaZ7
import Derived.Test.YtdpokdcendgfeaaZ2
import Derived.Test.YtdpokdcendgfeaaZ9
import Derived.Test.YtdpokdcendgfeaaZ1
import Derived.Deep.CutBlock
import Derived.Deep.DeepCutAuto
set_option linter.unusedSimpArgs false
set_option linter.unusedVariables false
set_option maxHeartbeats 40000000
namespace Go.Proofs.Ytdpokdcendgfeaa
open Go.RowKit
def Vr.cells (x : Vr) : List Value := [.int .i64 x.init, .int .i64 x.lo, .int .i64 x.hi]
def vrs (l : List Vr) : List Value := (l.map Vr.cells).flatten
theorem vrs_at : ∀ (l : List Vr) (i j : Nat) (x : Vr), l[i]? = some x → j < 3 → (vrs l)[i * 3 + j]? = x.cells[j]?
 | [], i, j, x, h, _ => by simp at h
 | y :: l, 0, j, x, h, hj => by
   simp at h
   subst h
   simp only [vrs, List.map_cons, List.flatten_cons, Nat.zero_mul, Nat.zero_add]
   rw [List.getElem?_append_left (by simp [Vr.cells]; omega)]
 | y :: l, i + 1, j, x, h, hj => by
   have ih := vrs_at l i j x (by simpa using h) hj
   simp only [vrs, List.map_cons, List.flatten_cons] at ih ⊢
   rw [List.getElem?_append_right (by simp [Vr.cells]; omega)]
   rw [← ih]
   congr 1
   simp [Vr.cells]
   omega
def VrAt (w : World) (p : Addr) (x : Vr) : Prop := w.cell? p = some (.int .i64 x.init) ∧ w.cell? ⟨p.block, p.off + 1, none⟩ = some (.int .i64 x.lo) ∧ w.cell? ⟨p.block, p.off + 2, none⟩ = some (.int .i64 x.hi)
theorem vrs_row {w : World} {oa : Option Addr} {l : List Vr} (h : Src w oa l.length (vrs l)) {i : Nat} {x : Vr} (hi : l[i]? = some x) : ∃ ad, oa = some ad ∧ ad.block < w.heap.size ∧ VrAt w (ad.add (i * 3)) x := by
 have hl := (List.getElem?_eq_some_iff.1 hi).1
 obtain ⟨ad, e, hb, hx⟩ := h (by omega)
 have hz : ∀ j v, j < 3 → x.cells[j]? = some v → w.cell? (ad.add (i * 3 + j)) = some v := fun j v hj hv => hx _ _ ((vrs_at l i j x hi hj).trans hv)
 have z0 := hz 0 _ (by omega) rfl
 have z1 := hz 1 _ (by omega) rfl
 have z2 := hz 2 _ (by omega) rfl
 rw [add_fld ad (i * 3) 0] at z1
 rw [add_fld ad (i * 3) 1] at z2
 exact ⟨ad, e, hb, z0, z1, z2⟩
theorem src_get {w : World} {oa : Option Addr} {n : Nat} {cs : List Value} (h : Src w oa n cs) {i : Nat} {v : Value} (hn : 0 < n) (hi : cs[i]? = some v) : ∃ ad, oa = some ad ∧ ad.block < w.heap.size ∧ w.cell? (ad.add i) = some v := by
 obtain ⟨ad, e, hb, hx⟩ := h hn
 exact ⟨ad, e, hb, hx i v hi⟩
/-- slices of rows, as values -/
def slv : List (Option Addr × Nat) → List (List Ac) → List Value
 | r :: rs, l :: ls => .slice r.1 l.length r.2 :: slv rs ls
 | _, _ => []
theorem slv_length : ∀ (rs : List (Option Addr × Nat)) (ls : List (List Ac)), rs.length = ls.length → (slv rs ls).length = ls.length
 | [], [], _ => rfl
 | r :: rs, l :: ls, h => by simp only [slv, List.length_cons, slv_length rs ls (by simpa using h)]
 | [], l :: ls, h => by simp at h
 | r :: rs, [], h => by simp at h
theorem slv_get : ∀ (rs : List (Option Addr × Nat)) (ls : List (List Ac)) (i : Nat) (r : Option Addr × Nat) (l : List Ac), rs[i]? = some r → ls[i]? = some l → (slv rs ls)[i]? = some (.slice r.1 l.length r.2)
 | r :: rs, l :: ls, 0, r', l', h1, h2 => by
   simp at h1 h2
   subst h1 h2
   rfl
 | r :: rs, l :: ls, i + 1, r', l', h1, h2 => by
   simp only [slv, List.getElem?_cons_succ]
   exact slv_get rs ls i r' l' (by simpa using h1) (by simpa using h2)
 | [], ls, i, r, l, h1, h2 => by simp at h1
 | r :: rs, [], i, r', l', h1, h2 => by simp at h2
theorem slv_append : ∀ (rs : List (Option Addr × Nat)) (ls : List (List Ac)) (r : Option Addr × Nat) (l : List Ac), rs.length = ls.length → slv (rs ++ [r]) (ls ++ [l]) = slv rs ls ++ [.slice r.1 l.length r.2]
 | [], [], r, l, _ => rfl
 | r' :: rs, l' :: ls, r, l, h => by simp only [List.cons_append, slv, slv_append rs ls r l (by simpa using h)]
 | [], l' :: ls, r, l, h => by simp at h
 | r' :: rs, [], r, l, h => by simp at h
theorem slv_one : ∀ (rs : List (Option Addr × Nat)) (ls : List (List Ac)), ∀ u ∈ slv rs ls, u.oneCell' = true
 | r :: rs, l :: ls, u, h => by
   simp only [slv, List.mem_cons] at h
   rcases h with rfl | h
   · rfl
   · exact slv_one rs ls u h
 | [], ls, u, h => by simp [slv] at h
 | r :: rs, [], u, h => by simp [slv] at h
/-- events in memory -/
def EvMem (w : World) (rs : List (Option Addr × Nat)) (ls : List (List Ac)) : Prop := rs.length = ls.length ∧ ∀ (i : Nat) (oa : Option Addr) (c : Nat) (l : List Ac), rs[i]? = some (oa, c) → ls[i]? = some l → Src w oa l.length (acs l) ∧ l.length ≤ c ∧ c ≤ maxLen
theorem EvMem.below {w w' : World} {rs : List (Option Addr × Nat)} {ls : List (List Ac)} (h : EvMem w rs ls) (hb : Below w.heap.size w w') : EvMem w' rs ls := ⟨h.1, fun i oa c l h1 h2 => ⟨(h.2 i oa c l h1 h2).1.below hb, (h.2 i oa c l h1 h2).2⟩⟩
/-- a plan in memory -/
structure PlMem (w : World) (q : PlV) (P : Pl) (rs : List (Option Addr × Nat)) : Prop where
 gl : q.gl = P.gh.length
 vl : q.vl = P.vs.length
 tl : q.tl = P.ts.length
 ol : q.ol = P.on.length
 ml : q.ml = P.ms.length
 g : Src w q.ga P.gh.length (bools P.gh)
 v : Src w q.va P.vs.length (vrs P.vs)
 t : Src w q.ta P.ts.length (ints P.ts)
 o : Src w q.oa P.on.length (slv rs P.on)
 e : EvMem w (rs ++ [(q.ma, q.mc)]) (P.on ++ [P.ms])
 l : P.gh.length ≤ maxLen ∧ P.vs.length ≤ maxLen ∧ P.ts.length ≤ maxLen ∧ P.on.length ≤ maxLen
theorem PlMem.below {w w' : World} {q : PlV} {P : Pl} {rs : List (Option Addr × Nat)} (h : PlMem w q P rs) (hb : Below w.heap.size w w') : PlMem w' q P rs :=
 ⟨h.gl, h.vl, h.tl, h.ol, h.ml, h.g.below hb, h.v.below hb, h.t.below hb, h.o.below hb, h.e.below hb, h.l⟩
/-! checkV, by its parts -/
theorem all_take_succ {α : Type} {l : List α} {p : α → Bool} {i : Nat} {x : α} (hx : l[i]? = some x) (h : (l.take i).all p = true) (hp : p x = true) : (l.take (i + 1)).all p = true := by
 rw [List.take_add_one, hx]
 simp [h, hp]
theorem all_false {α : Type} {l : List α} {p : α → Bool} {i : Nat} {x : α} (hx : l[i]? = some x) (hp : p x = false) : l.all p = false := by
 rw [List.all_eq_false]
 exact ⟨x, List.mem_of_getElem? hx, by simp [hp]⟩
theorem vrOk_iff (v : Vr) : vrOk v = true ↔ (v.lo ≤ v.init ∧ v.init ≤ v.hi ∧ -1073741824 ≤ v.lo ∧ v.hi ≤ 1073741824) := by
 simp [vrOk, and_assoc]
section
variable {P : Pl}
theorem check_sizes (h : ¬ (P.gh.length ≤ 16 ∧ P.vs.length ≤ 16 ∧ P.ts.length ≤ 4 ∧ P.on.length = P.gh.length)) : checkV P = 71 := by
 unfold checkV
 rw [if_neg]
 intro h2
 simp only [Bool.and_eq_true, decide_eq_true_eq] at h2
 exact h ⟨h2.1.1.1.1.1.1.1, h2.1.1.1.1.1.1.2, h2.1.1.1.1.1.2, h2.1.1.1.1.2⟩
theorem check_vars (h : P.vs.all vrOk = false) : checkV P = 71 := by
 unfold checkV
 rw [if_neg]
 rw [h]
 simp
theorem check_tags (h : P.ts.all (fun t => fromV t 1 255) = false) : checkV P = 71 := by
 unfold checkV
 rw [if_neg]
 rw [h]
 simp
theorem check_rows (h : ¬ rowsV (P.on ++ [P.ms]) ≤ 131072) : checkV P = 71 := by
 unfold checkV
 rw [if_neg]
 intro h2
 simp only [Bool.and_eq_true, decide_eq_true_eq] at h2
 exact h h2.1.2
theorem check_event (h : (P.on ++ [P.ms]).all (eventV P) = false) : checkV P = 71 := by
 unfold checkV
 rw [if_neg]
 rw [h]
 simp
theorem check_ok (h1 : P.gh.length ≤ 16) (h2 : P.vs.length ≤ 16) (h3 : P.ts.length ≤ 4) (h4 : P.on.length = P.gh.length) (h5 : P.vs.all vrOk = true) (h6 : P.ts.all (fun t => fromV t 1 255) = true) (h7 : rowsV (P.on ++ [P.ms]) ≤ 131072) (h8 : (P.on ++ [P.ms]).all (eventV P) = true) : checkV P = 0 := by
 unfold checkV
 rw [if_pos]
 simp only [h1, h2, h3, h4, h5, h6, h7, h8, decide_true, Bool.and_self]
end
theorem rowsV_succ {ls : List (List Ac)} {j : Nat} {l : List Ac} (h : ls[j]? = some l) : rowsV (ls.take (j + 1)) = rowsV (ls.take j) + l.length := by
 unfold rowsV
 rw [List.take_add_one, h]
 simp
theorem rowsV_le (ls : List (List Ac)) (j : Nat) : rowsV (ls.take j) ≤ rowsV ls := by
 unfold rowsV
 conv => rhs; rw [← List.take_append_drop j ls]
 rw [List.map_append, List.sum_append]
 omega
theorem rowsV_one {ls : List (List Ac)} {j : Nat} {l : List Ac} (h : ls[j]? = some l) : l.length ≤ rowsV ls := by
 have h1 := rowsV_le ls (j + 1)
 have h2 := rowsV_succ h
 omega
end Go.Proofs.Ytdpokdcendgfeaa
namespace Go.Proofs.Ytdpokdcendgfeaa
open Go.RowKit
set_option maxRecDepth 100000 in
theorem check_of (P : Pl) (hrow : ∀ f, RowAll P f) (w : World) (q : PlV) (rs : List (Option Addr × Nat)) (h : PlMem w q P rs) (hbig : ∀ l ∈ P.on ++ [P.ms], l.length ≤ 4398046511104) :
   Calls Try.prog 37 #[q.val] w fun en w' => en = .returned (.int .i64 (checkV P : Int)) ∧ Below w.heap.size w w' := by
 have HM := hide h
 have HROW := hide hrow
 have HBIG := hide hbig
 clear hbig hrow
 obtain ⟨e1, e2, e3, e4, e5, _, _, _, _, _, l1, l2, l3, l4⟩ := h
 obtain ⟨ga, va, ta, oa, ma, gl, gc, vl, vc, tl, tc, ol, oc, ml, mc⟩ := q
 simp only at e1 e2 e3 e4 e5
 subst e1 e2 e3 e4 e5
 simp only [PlV.val]
 unfold maxLen at l1 l2 l3 l4
 have HF := fun (W : World) (y : Int) => hide (from_i W y 1 255)
 have hb1 : Below w.heap.size w (w.alloc (.cells #[.slice ga P.gh.length gc, .slice va P.vs.length vc, .slice ta P.ts.length tc, .slice oa P.on.length oc, .slice ma P.ms.length mc] 28)) := (Below.refl _ w).alloc (Nat.le_refl _) _
 have hk1 := Blk.new w 28 #[.slice ga P.gh.length gc, .slice va P.vs.length vc, .slice ta P.ts.length tc, .slice oa P.on.length oc, .slice ma P.ms.length mc]
 have HB1 := hide hb1
 have HK1 := hide hk1
 clear hb1 hk1
 by_cases hd : P.gh.length ≤ 16 ∧ P.vs.length ≤ 16 ∧ P.ts.length ≤ 4 ∧ P.on.length = P.gh.length
 · obtain ⟨d1, d2, d3, d4⟩ := hd
   have hd1 : ¬ (16 : Int) < (P.gh.length : Int) := by omega
   have hd2 : ¬ (16 : Int) < (P.vs.length : Int) := by omega
   have hd3 : ¬ (4 : Int) < (P.ts.length : Int) := by omega
   rw [d4]
   rw [d4] at HB1 HK1
   go_enter Try.func37, Try.ntmps37
   go_wp2_with fail
   go_loopw [44] (fun tx W => ∃ i : Nat, tx = .int .i64 (i : Int) ∧ i ≤ P.vs.length ∧ (P.vs.take i).all vrOk = true ∧ Below w.heap.size w W ∧ Blk W w.heap.size 28 #[.slice ga P.gh.length gc, .slice va P.vs.length vc, .slice ta P.ts.length tc, .slice oa P.gh.length oc, .slice ma P.ms.length mc]) (fun tx _ => P.vs.length - (intOf tx).toNat)
   case atStart => exact ⟨0, rfl, Nat.zero_le _, by simp, HB1.out, HK1.out⟩
   case round =>
     obtain ⟨i, rfl, hi, hall, hB, hk⟩ := hrel
     rename World => W
     have HA := hide hall
     have HB := hide hB
     have HK := hide hk
     have hq1 := IntWalk.i64_in ((i : Int) + 1) (by omega)
     by_cases hlt : i < P.vs.length
     · obtain ⟨x, hx⟩ : ∃ x, P.vs[i]? = some x := ⟨_, List.getElem?_eq_getElem hlt⟩
       obtain ⟨ad, e, hab, q0, q1, q2⟩ := vrs_row (HM.out.below hB).v hx
       simp only at e
       subst e
       obtain ⟨x0, x1, x2⟩ := x
       simp only at q0 q1 q2
       have HX := hide hx
       have hvo := vrOk_iff ⟨x0, x1, x2⟩
       simp only at hvo
       clear hall hB hk hx hab
       by_cases hv : x1 ≤ x0 ∧ x0 ≤ x2 ∧ -1073741824 ≤ x1 ∧ x2 ≤ 1073741824
       · have HVT := hide (hvo.2 hv)
         obtain ⟨v1, v2, v3, v4⟩ := hv
         clear hvo
         go_wp2_with fail
         go_roundw
         case rel => exact ⟨i + 1, by go_num, by omega, all_take_succ HX.out HA.out HVT.out, HB.out.alloc HB.out.size _, HK.out.alloc _⟩
         case measure => simp [intOf]; omega
       · have hvf : vrOk ⟨x0, x1, x2⟩ = false := by
           cases hq : vrOk ⟨x0, x1, x2⟩ with
           | false => rfl
           | true => exact (hv (hvo.1 hq)).elim
         have HTF := hide (check_vars (all_false HX.out hvf))
         have HV := hide hv
         clear hvo hvf hv
         go_wp2_with fail
         all_goals
           first
           | (exfalso; have := HV.out; omega)
           | (go_ret
              exact ⟨by rw [HTF.out]; rfl, HB.out.alloc HB.out.size _⟩)
     · have he : i = P.vs.length := by omega
       have HA2 := hide (show P.vs.all vrOk = true by rw [he, List.take_of_length_le (Nat.le_refl _)] at hall; exact hall)
       have p2 : W.cell? ⟨w.heap.size, 2, none⟩ = some (.slice ta P.ts.length tc) := by rw [hk.cell]; rfl
       clear hall hB hk
       go_wp2_with fail
       go_loopw [74] (fun tx W' => ∃ i : Nat, tx = .int .i64 (i : Int) ∧ i ≤ P.ts.length ∧ (P.ts.take i).all (fun t => fromV t 1 255) = true ∧ Below w.heap.size w W' ∧ Blk W' w.heap.size 28 #[.slice ga P.gh.length gc, .slice va P.vs.length vc, .slice ta P.ts.length tc, .slice oa P.gh.length oc, .slice ma P.ms.length mc]) (fun tx _ => P.ts.length - (intOf tx).toNat)
       case atStart => exact ⟨0, rfl, Nat.zero_le _, by simp, HB.out, HK.out⟩
       case round =>
         clear HA HB HK p2 hlt he hq1
         obtain ⟨j, rfl, hj, hall, hB, hk⟩ := hrel
         rename World => W'
         have HA := hide hall
         have HB := hide hB
         have HK := hide hk
         have hq1 := IntWalk.i64_in ((j : Int) + 1) (by omega)
         by_cases hlt : j < P.ts.length
         · obtain ⟨x, hx⟩ : ∃ x, P.ts[j]? = some x := ⟨_, List.getElem?_eq_getElem (by omega)⟩
           obtain ⟨ad, e, hab, q0⟩ := src_get (HM.out.below hB).t (i := j) (v := .int .i64 x) (by omega) (by simp [ints, hx])
           simp only at e
           subst e
           have HX := hide hx
           clear hall hB hk hx hab
           cases hv : fromV x 1 255 with
           | true =>
             have HV := hide hv
             go_wp2_with (go_at_call 63; refine (HF _ _).out.mono ?_; rintro en w1 ⟨rfl, rfl⟩)
             go_roundw
             case rel => exact ⟨j + 1, by go_num, by omega, all_take_succ HX.out HA.out HV.out, HB.out, HK.out⟩
             case measure => simp [intOf]; omega
           | false =>
             have HTF := hide (check_tags (all_false (p := fun t => fromV t 1 255) HX.out hv))
             go_wp2_with (go_at_call 63; refine (HF _ _).out.mono ?_; rintro en w1 ⟨rfl, rfl⟩)
             go_ret
             exact ⟨by rw [HTF.out]; rfl, HB.out⟩
         · have he : j = P.ts.length := by omega
           have HA3 := hide (show P.ts.all (fun t => fromV t 1 255) = true by rw [he, List.take_of_length_le (Nat.le_refl _)] at hall; exact hall)
           have p3 : W'.cell? ⟨w.heap.size, 3, none⟩ = some (.slice oa P.gh.length oc) := by rw [hk.cell]; rfl
           have p4 : W'.cell? ⟨w.heap.size, 4, none⟩ = some (.slice ma P.ms.length mc) := by rw [hk.cell]; rfl
           have hbx : w.heap.size < W'.heap.size := hk.lt
           have pa3 : ∀ o, (W'.alloc o).cell? _ = _ := fun o => (World.cell?_alloc_lt W' o _ (by exact hbx)).trans p3
           have pa4 : ∀ o, (W'.alloc o).cell? _ = _ := fun o => (World.cell?_alloc_lt W' o _ (by exact hbx)).trans p4
           obtain ⟨i3, hi3, hz0, hz1, hz2⟩ := info_parts3 infS
           have HMW := hide (HM.out.below hB)
           have hrl := HMW.out.e.1
           simp only [List.length_append, List.length_cons, List.length_nil] at hrl
           have HCL := hide (fun (W : World) (hb : Below W'.heap.size W' W) => by
             have := cloneS_i W oa P.on.length oc (slv rs P.on) ((HMW.out.o).below hb) (by rw [slv_length _ _ (by omega)]; omega) (slv_one _ _) (by omega)
             rw [d4] at this
             exact this)
           clear hall hB hk hrl he
           go_upto_region 16 with fail
           go_cut [8] from 82 to 88 (fun s8 wx => ∃ v7 : Value, s8 = v7 ∧ wx.ownsRow W'.heap.size 26 1 v7 (P.gh.length + 1) (slv rs P.on ++ [.slice ma P.ms.length mc]) ∧ Below W'.heap.size W' wx)
           case first =>
             go_region_law (first
               | (refine step_call rfl 64 (.tmp 83) 25 rfl Try.f64 Try.func64 (by decide) (by decide) (.slice oa P.gh.length oc) (by simp [Act.eval, Act.put]) (fun v' w' => w'.ownsRow W'.heap.size 26 1 v' P.gh.length (slv rs P.on) ∧ Below W'.heap.size W' w') ((HCL.out W'.drew (Below.refl _ _).drew).mono (fun e w' hh => by
                     obtain ⟨v', rfl, ho, hb'⟩ := hh
                     exact ⟨v', rfl, own_down ho (by simp), (Below.refl _ W').drew.trans hb'⟩)) ?_
                  rintro v4 w4 ⟨hown, hb4⟩
                  have p4 : w4.cell? _ = _ := (hb4.cell (by exact hbx)).trans p4
                  have HOWN := hide hown
                  have HB4 := hide hb4
                  clear hown hb4)
               | (refine step_call rfl 64 (.tmp 83) 25 rfl Try.f64 Try.func64 (by decide) (by decide) (.slice oa P.gh.length oc) (by simp [Act.eval, Act.put]) (fun v' w' => w'.ownsRow (W'.heap.size + 1) 26 1 v' P.gh.length (slv rs P.on) ∧ Below W'.heap.size W' w' ∧ Blk w' W'.heap.size 26 #[.slice ma P.ms.length mc]) ((HCL.out (W'.alloc (.cells #[.slice ma P.ms.length mc] 26)).drew ((Below.refl _ _).alloc (Nat.le_refl _) _).drew).mono (fun e w' hh => by
                     obtain ⟨v', rfl, ho, hb'⟩ := hh
                     exact ⟨v', rfl, own_down ho (by simp), ((Below.refl _ W').alloc (Nat.le_refl _) _).drew.trans (hb'.mono (by simp)), (Blk.new W' 26 _).drew.below hb' (by simp)⟩)) ?_
                  rintro v4 w4 ⟨hown, hb4, hm4⟩
                  have p4 : w4.cell? _ = _ := (hb4.cell (by exact hbx)).trans p4
                  have HOWN := hide (own_down hown (Nat.le_succ _))
                  have HB4 := hide hb4
                  have HM4 := hide hm4
                  clear hown hb4 hm4)
               | (refine step_append_own rfl (.tmp 84) (.tmp 87) 25 rfl W'.heap.size 26 i3 (.slice none 0 0) 1 24 Try.underlying25 hi3 hz0 hz1 hz2 rfl (by decide) v4 P.gh.length (slv rs P.on) (by simp [Act.eval, Act.put]) (by first | exact HOWN.out | exact own_keep HOWN.out (fun k hk => Below.heap_alloc _ _ k (HOWN.out.lt k hk).2)) ⟨_, 0, none⟩ 1 1 [.slice ma P.ms.length mc] (by simp [Act.eval, Act.put]; rfl) rfl (by
                     intro j u hj
                     obtain rfl : j = 0 := by have := (List.getElem?_eq_some_iff.1 hj).1; simp at this; exact this
                     simp at hj
                     subst hj
                     show World.cell? _ ⟨_, 0, none⟩ = _
                     first
                     | exact (Blk.new w4 26 #[.slice ma P.ms.length mc]).cell 0
                     | exact HM4.out.cell 0) (by simp [Value.oneCell']) (by unfold maxLen; omega) (by omega) (by have := HB4.out.size; simp; omega) ?_
                  intro v5 w5 hown5 hgrow
                  have HOWN5 := hide hown5
                  have HGR := hide hgrow
                  clear hown5 hgrow))
             all_goals
               simp only [List.getElem_toArray, List.getElem_cons_succ, List.getElem_cons_zero, Act.put, List.setIfInBounds_toArray, List.set_cons_zero, List.set_cons_succ]
               go_wp2_with fail
               go_meet
               case rel => exact ⟨_, rfl, HOWN5.out, by first | exact HB4.out.trans (below_grow HGR.out (fun k hk => (HOWN.out.lt k hk).1) HB4.out.size) | exact (HB4.out.alloc HB4.out.size _).trans (below_grow HGR.out (fun k hk => (HOWN.out.lt k hk).1) (by have := HB4.out.size; simp; omega))⟩
           case rest =>
             obtain ⟨v7, rfl, hown, hb5⟩ := hcut
             have hrl : rs.length = P.on.length := by have := HMW.out.e.1; simpa using this
             have hown2 : wc.ownsRow W'.heap.size 26 1 u8 (P.gh.length + 1) (slv (rs ++ [(ma, mc)]) (P.on ++ [P.ms])) := by rw [slv_append _ _ _ _ hrl]; exact hown
             have hem := HMW.out.e.below hb5
             have hgc := HMW.out.g.below hb5
             have hkc := HK.out.below hb5 hbx
             have hbc := HB.out.trans (hb5.mono HB.out.size)
             have hn : (P.on ++ [P.ms]).length = P.gh.length + 1 := by simp [d4]
             have HSZ := hide hb5.size
             have HA2O := HA2
             clear hown hb5 hrl p3 p4 pa3 pa4 hi3 hz0 hz1 hz2 HCL HMW HM HA hq1
             simp only at hem hgc
             obtain ⟨N, hN⟩ : ∃ N, P.gh.length + 1 = N := ⟨_, rfl⟩
             rw [hN] at hown2 hn
             have hN0 : 0 < N := by omega
             have hN9 : N ≤ 17 := by omega
             clear hN
             obtain ⟨evs, hevs⟩ : ∃ evs, P.on ++ [P.ms] = evs := ⟨_, rfl⟩
             obtain ⟨ers, hers⟩ : ∃ ers, rs ++ [(ma, mc)] = ers := ⟨_, rfl⟩
             rw [hevs, hers] at hown2 hem
             rw [hevs] at hn HBIG
             have HEVS := hide hevs
             clear hevs hers
             obtain ⟨g8, cap8, rfl, _⟩ := own_form hown2 (by omega)
             have HEM := hide hem
             have HGC := hide hgc
             have HKC := hide hkc
             have HBC := hide hbc
             have HOWN := hide hown2
             have HN := hide hn
             clear hem hgc hkc hbc hown2
             go_wp2_with fail
             go_loopw [7, 91] (fun t7 t91 W => ∃ j : Nat, t7 = .int .i64 ((rowsV (evs.take j) : Nat) : Int) ∧ t91 = .int .i64 (j : Int) ∧ j ≤ N ∧ rowsV (evs.take j) ≤ 131072 ∧ wc = W) (fun _ t91 _ => N - (intOf t91).toNat)
             case atStart => exact ⟨0, by simp [rowsV], rfl, Nat.zero_le _, by simp [rowsV], rfl⟩
             case round =>
               obtain ⟨j, rfl, rfl, hj, hsum, rfl⟩ := hrel
               have hq2 := IntWalk.i64_in ((j : Int) + 1) (by omega)
               by_cases hlt : j < N
               · have hltI : (j : Int) < (N : Int) := by omega
                 obtain ⟨l, hl⟩ : ∃ l, evs[j]? = some l := ⟨_, List.getElem?_eq_getElem (by rw [HN.out]; exact hlt)⟩
                 obtain ⟨⟨ra, rc⟩, hr⟩ : ∃ r, ers[j]? = some r := ⟨_, List.getElem?_eq_getElem (by rw [HEM.out.1, HN.out]; exact hlt)⟩
                 have ce : wc.cell? ⟨g8, j, none⟩ = some (.slice ra l.length rc) := own_get HOWN.out j _ (slv_get _ _ j _ _ hr hl)
                 have hbg := HBIG.out l (List.mem_of_getElem? hl)
                 have hs := rowsV_succ hl
                 have HS := hide hs
                 have HLE := hide (rowsV_le evs (j + 1))
                 clear hl hr hs
                 obtain ⟨sm, hsm⟩ : ∃ sm, rowsV (evs.take j) = sm := ⟨_, rfl⟩
                 rw [hsm] at hsum HS ⊢
                 clear hsm
                 have hq3 := IntWalk.i64_in ((sm : Int) + (l.length : Int)) (by omega)
                 by_cases h7 : sm + l.length ≤ 131072
                 · have h7I : ¬ (131072 : Int) < (sm : Int) + (l.length : Int) := by omega
                   clear hbg
                   go_wp2_with fail
                   go_roundw
                   case rel => exact ⟨j + 1, by rw [HS.out]; go_num, by go_num, by omega, by rw [HS.out]; exact h7, trivial⟩
                   case measure =>
                     simp only [intOf]
                     omega
                 · have h7I : (131072 : Int) < (sm : Int) + (l.length : Int) := by omega
                   have HTF := hide (check_rows (P := P) (by rw [HEVS.out]; have := HLE.out; have := HS.out; omega))
                   clear hbg
                   go_wp2_with fail
                   go_ret
                   exact ⟨by rw [HTF.out]; rfl, HBC.out⟩
               · have he : j = N := by omega
                 have HRV := hide (show rowsV evs ≤ 131072 by rw [he, ← HN.out, List.take_length] at hsum; exact hsum)
                 have hltN : ¬ (j : Int) < (N : Int) := by omega
                 clear hsum hlt
                 clear he
                 go_wp2_with fail
                 go_loopw [104] (fun t104 W => ∃ j : Nat, t104 = .int .i64 (j : Int) ∧ j ≤ N ∧ (evs.take j).all (eventV P) = true ∧ Below wc.heap.size wc W) (fun t104 _ => N - (intOf t104).toNat)
                 case atStart => exact ⟨0, rfl, Nat.zero_le _, by simp, Below.refl _ _⟩
                 case round =>
                   obtain ⟨j, rfl, hj, hall, hb⟩ := hrel
                   rename World => W
                   have hq4 := IntWalk.i64_in ((j : Int) + 1) (by omega)
                   have HALL := hide hall
                   have HB6 := hide hb
                   have HBW := hide (HBC.out.trans (hb.mono HBC.out.size))
                   by_cases hlt : j < N
                   · have hltI : (j : Int) < (N : Int) := by omega
                     obtain ⟨l, hl⟩ : ∃ l, evs[j]? = some l := ⟨_, List.getElem?_eq_getElem (by rw [HN.out]; exact hlt)⟩
                     obtain ⟨⟨ra, rc⟩, hr⟩ : ∃ r, ers[j]? = some r := ⟨_, List.getElem?_eq_getElem (by rw [HEM.out.1, HN.out]; exact hlt)⟩
                     have ce : W.cell? ⟨g8, j, none⟩ = some (.slice ra l.length rc) := own_get (own_below HOWN.out hb (Nat.le_refl _)) j _ (slv_get _ _ j _ _ hr hl)
                     obtain ⟨hs1, hs2, hs3⟩ := (HEM.out.below hb).2 j ra rc l hr hl
                     have hll : l.length ≤ 131072 := Nat.le_trans (rowsV_one hl) HRV.out
                     have hkw := HKC.out.below hb HKC.out.lt
                     have b0 : W.cell? ⟨w.heap.size, 0, none⟩ = some (.slice ga P.gh.length gc) := by rw [hkw.cell]; rfl
                     have b1 : W.cell? ⟨w.heap.size, 1, none⟩ = some (.slice va P.vs.length vc) := by rw [hkw.cell]; rfl
                     have b2 : W.cell? ⟨w.heap.size, 2, none⟩ = some (.slice ta P.ts.length tc) := by rw [hkw.cell]; rfl
                     have b3 : W.cell? ⟨w.heap.size, 3, none⟩ = some (.slice oa P.gh.length oc) := by rw [hkw.cell]; rfl
                     have b4 : W.cell? ⟨w.heap.size, 4, none⟩ = some (.slice ma P.ms.length mc) := by rw [hkw.cell]; rfl
                     have HL := hide hl
                     by_cases hl0 : l.length = 0
                     · have hl0b : ((l.length : Int) == 0) = true := by simp [hl0]
                       have hev : eventV P l = true := by
                         have : l = [] := List.length_eq_zero_iff.1 hl0
                         subst this
                         rfl
                       have HEV := hide hev
                       have HLN := hide hl0
                       obtain ⟨ln, hln⟩ : ∃ ln, l.length = ln := ⟨_, rfl⟩
                       rw [hln] at ce hl0b hl0
                       clear hl hr hs1 hkw hb hall hev hs2 hll hln
                       subst hl0
                       go_wp2_with fail
                       go_roundw
                       case rel => exact ⟨j + 1, by go_num, by omega, all_take_succ HL.out HALL.out HEV.out, HB6.out.alloc HB6.out.size _⟩
                       case measure =>
                         simp only [intOf]
                         omega
                     · have hl0b : ((l.length : Int) == 0) = false := by simp [hl0]
                       have hl0I : ¬ (l.length : Int) = 0 := by omega
                       have hbn := (Below.refl W.heap.size W).alloc (Nat.le_refl _) (.cells (chk ⟨ga, va, ta, oa, ma, P.gh.length, gc, P.vs.length, vc, P.ts.length, tc, P.gh.length, oc, P.ms.length, mc⟩ ra l.length rc 0) 106)
                       have hsn := hs1.below hbn
                       have hckr : Ckr (W.alloc (.cells (chk ⟨ga, va, ta, oa, ma, P.gh.length, gc, P.vs.length, vc, P.ts.length, tc, P.gh.length, oc, P.ms.length, mc⟩ ra l.length rc 0) 106)) W.heap.size ⟨ga, va, ta, oa, ma, P.gh.length, gc, P.vs.length, vc, P.ts.length, tc, P.gh.length, oc, P.ms.length, mc⟩ P ra rc l 0 :=
                         ⟨⟨Blk.new _ _ _, rfl, rfl, rfl, (HGC.out.below hb).below hbn, ⟨by unfold maxLen; omega, by unfold maxLen; omega, by unfold maxLen; omega⟩⟩, hsn, fun ad e h7 => (by obtain ⟨ad', e', hlt2, _⟩ := hs1 (by omega); rw [e] at e'; injection e' with e'; subst e'; omega), fun h0 ad e h7 => (by obtain ⟨ad', e', hlt2, _⟩ := (HGC.out.below hb) h0; simp only at e; rw [e] at e'; injection e' with e'; subst e'; omega), hs2, hs3, by omega⟩
                       have HROWC := hide (HROW.out (l.length + 1) _ W.heap.size _ ra rc l 0 1 hckr (by omega))
                       have hvE : eventV P l = (match rowV P l (l.length + 1) 0 1 with | some (e, _) => decide (l.length ≤ e) | none => false) := by
                         unfold eventV
                         cases l with
                         | nil => simp at hl0
                         | cons => rfl
                       simp only [chk] at HROWC
                       clear hl hr hs1 hkw hb hall hs2 hbn hsn hckr
                       cases hrv : rowV P l (l.length + 1) 0 1 with
                       | none =>
                         rw [hrv] at HROWC hvE
                         have HTF := hide (check_event (P := P) (by rw [HEVS.out]; exact all_false HL.out hvE))
                         clear hrv hvE
                         go_wp2_with (go_at_call 65; refine HROWC.out.mono ?_; rintro en w5 ⟨ho5, -, hno5⟩; obtain ⟨n5, rfl⟩ := hno5 rfl; have HO5 := hide ho5; clear ho5 hno5)
                         go_ret
                         exact ⟨by rw [HTF.out]; rfl, (HBW.out.alloc HBW.out.size _).trans (HO5.out.below (fun k e => by have := HBW.out.size; omega) (by have := HBW.out.size; simp; omega))⟩
                       | some en =>
                         obtain ⟨e5, n5⟩ := en
                         rw [hrv] at HROWC hvE
                         simp only at hvE
                         by_cases h5 : l.length ≤ e5
                         · have h5b : decide (e5 < l.length) = false := by simp; omega
                           have h5I : ¬ (e5 : Int) < (l.length : Int) := by omega
                           have HEV := hide (show eventV P l = true by rw [hvE]; simp [h5])
                           clear hrv hvE
                           go_wp2_with (go_at_call 65; refine HROWC.out.mono ?_; rintro en w5 ⟨ho5, hso5, -⟩; obtain ⟨rfl, hc5⟩ := hso5 _ _ rfl; have m6 : w5.cell? ⟨W.heap.size, 2, none⟩ = w5.cell? ⟨W.heap.size, 2, none⟩ := rfl; have m7 : w5.cell? ⟨W.heap.size, 6, none⟩ = some (.int .i64 (e5 : Int)) := (by rw [hc5.c.k.cell]; rfl); have HO5 := hide ho5; clear ho5 hso5 hc5 m6)
                           go_roundw
                           case rel => exact ⟨j + 1, by go_num, by omega, all_take_succ HL.out HALL.out HEV.out, (HB6.out.alloc HB6.out.size _).trans (HO5.out.below (fun k e => by have := HB6.out.size; omega) (by have := HB6.out.size; simp; omega))⟩
                           case measure =>
                             simp only [intOf]
                             omega
                         · have h5b : decide (e5 < l.length) = true := by simp; omega
                           have h5I : (e5 : Int) < (l.length : Int) := by omega
                           have HTF := hide (check_event (P := P) (by rw [HEVS.out]; exact all_false HL.out (by rw [hvE]; simp; omega)))
                           clear hrv hvE
                           go_wp2_with (go_at_call 65; refine HROWC.out.mono ?_; rintro en w5 ⟨ho5, hso5, -⟩; obtain ⟨rfl, hc5⟩ := hso5 _ _ rfl; have m6 : w5.cell? ⟨W.heap.size, 2, none⟩ = w5.cell? ⟨W.heap.size, 2, none⟩ := rfl; have m7 : w5.cell? ⟨W.heap.size, 6, none⟩ = some (.int .i64 (e5 : Int)) := (by rw [hc5.c.k.cell]; rfl); have HO5 := hide ho5; clear ho5 hso5 hc5 m6)
                           go_ret
                           exact ⟨by rw [HTF.out]; rfl, (HBW.out.alloc HBW.out.size _).trans (HO5.out.below (fun k e => by have := HBW.out.size; omega) (by have := HBW.out.size; simp; omega))⟩
                   · have he : j = N := by omega
                     have HOK := hide (check_ok (P := P) d1 d2 d3 d4 HA2O.out HA3.out (by rw [HEVS.out]; exact HRV.out) (by rw [HEVS.out]; rw [he, ← HN.out, List.take_length] at hall; exact hall))
                     have hltN2 : ¬ (j : Int) < (N : Int) := by omega
                     clear hall hb hlt
                     clear he
                     go_wp2_with fail
                     go_ret
                     exact ⟨by rw [HOK.out]; rfl, HBW.out⟩
 · have HTF := hide (check_sizes hd)
   by_cases d1 : P.gh.length ≤ 16
   · have hd1 : ¬ (16 : Int) < (P.gh.length : Int) := by omega
     by_cases d2 : P.vs.length ≤ 16
     · have hd2 : ¬ (16 : Int) < (P.vs.length : Int) := by omega
       by_cases d3 : P.ts.length ≤ 4
       · have hd3 : ¬ (4 : Int) < (P.ts.length : Int) := by omega
         have hne : P.on.length ≠ P.gh.length := fun e => hd ⟨d1, d2, d3, e⟩
         have hneb : ((P.on.length : Int) != (P.gh.length : Int)) = true := by simp; omega
         clear hd
         go_enter Try.func37, Try.ntmps37
         go_wp2_with fail
         go_ret
         exact ⟨by rw [HTF.out]; rfl, HB1.out⟩
       · have hd3 : (4 : Int) < (P.ts.length : Int) := by omega
         clear hd
         go_enter Try.func37, Try.ntmps37
         go_wp2_with fail
         go_ret
         exact ⟨by rw [HTF.out]; rfl, HB1.out⟩
     · have hd2 : (16 : Int) < (P.vs.length : Int) := by omega
       clear hd
       go_enter Try.func37, Try.ntmps37
       go_wp2_with fail
       go_ret
       exact ⟨by rw [HTF.out]; rfl, HB1.out⟩
   · have hd1 : (16 : Int) < (P.gh.length : Int) := by omega
     clear hd
     go_enter Try.func37, Try.ntmps37
     go_wp2_with fail
     go_ret
     exact ⟨by rw [HTF.out]; rfl, HB1.out⟩
end Go.Proofs.Ytdpokdcendgfeaa
namespace Go.Proofs.Ytdpokdcendgfeaa
open Go.RowKit
set_option maxRecDepth 100000 in
theorem row_zero (P : Pl) : RowAll P 0 := by
 intro w g q ra rc l i what h hf
 have c5 : w.cell? ⟨g, 5, none⟩ = some (.slice ra l.length rc) := by rw [h.c.k.cell]; rfl
 have c6 : w.cell? ⟨g, 6, none⟩ = some (.int .i64 (i : Int)) := by rw [h.c.k.cell]; rfl
 have hed : decide (l.length ≤ i) = true := by simp; omega
 have hil2 : (l.length : Int) ≤ (i : Int) := by omega
 have hrv : rowV P l 0 i what = none := rfl
 rw [hrv]
 clear h hrv
 go_enter Try.func65, Try.ntmps65
 go_wp2_with fail
 go_quiet (fail)
 go_wp2_with fail
 go_ret2
 refine ⟨(Only.refl _ w).drewN _, fun e n h0 => ?_, fun _ => ⟨_, rfl⟩⟩
 cases h0
theorem row_all (P : Pl) : ∀ f, RowAll P f
 | 0 => row_zero P
 | f + 1 => row_of (row_all P f) (block_of (row_all P f))
theorem check_i (w : World) (q : PlV) (P : Pl) (rs : List (Option Addr × Nat)) (h : PlMem w q P rs) (hbig : ∀ l ∈ P.on ++ [P.ms], l.length ≤ 4398046511104) :
   Calls Try.prog 37 #[q.val] w fun en w' => en = .returned (.int .i64 (checkV P : Int)) ∧ Below w.heap.size w w' :=
 check_of P (row_all P) w q rs h hbig
end Go.Proofs.Ytdpokdcendgfeaa
