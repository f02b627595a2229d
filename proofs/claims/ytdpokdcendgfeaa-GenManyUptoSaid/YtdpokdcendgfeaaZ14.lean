/- Several texts in one: The walk of LendProgram. The walks of SameInts, SameProgram, where what is compared is the same. The walk of SameProgram, where what is compared is the same. Conditions: those of each. -/
import Derived.Test.YtdpokdcendgfeaaZ13
set_option linter.unusedSimpArgs false
set_option linter.unusedVariables false
set_option maxHeartbeats 40000000
namespace Go.Proofs.Ytdpokdcendgfeaa
open Go.RowKit
/-- a program that was handed in: its rows lie wherever they lie -/
structure AMem (w : World) (p : PV) (P : Prg) : Prop where
 gl : p.gl = P.gh.length
 vl : p.vl = P.vs.length
 tl : p.tl = P.ts.length
 ol : p.ol = P.os.length
 cl : p.cl = P.cd.length
 miss : p.miss = P.miss
 g : Src w p.ga P.gh.length (boolsV P.gh)
 v : Src w p.va P.vs.length (varsV P.vs)
 t : Src w p.ta P.ts.length (ints P.ts)
 o : Src w p.oa P.os.length (ints P.os)
 c : Src w p.ca P.cd.length (codeV P.cd)
 lens : p.gl ≤ maxLen ∧ p.vl ≤ maxLen ∧ p.tl ≤ maxLen ∧ p.ol ≤ maxLen ∧ p.cl ≤ maxLen
theorem AMem.below {w w' : World} {p : PV} {P : Prg} (h : AMem w p P) (hb : Below w.heap.size w w') : AMem w' p P :=
 ⟨h.gl, h.vl, h.tl, h.ol, h.cl, h.miss, h.g.below hb, h.v.below hb, h.t.below hb, h.o.below hb, h.c.below hb, h.lens⟩
theorem vars_set (l : List Vr) : (((varsV (l ++ [⟨0, 0, 0⟩, ⟨0, 0, 0⟩, ⟨0, 0, 0⟩])).toArray.setIfInBounds (l.length * 3) (.int .i64 91)).setIfInBounds (l.length * 3 + 1) (.int .i64 0)).setIfInBounds (l.length * 3 + 2) (.int .i64 0) = (varsV (l ++ markV)).toArray := by
 have e1 : varsV (l ++ [⟨0, 0, 0⟩, ⟨0, 0, 0⟩, ⟨0, 0, 0⟩]) = varsV l ++ varsV [⟨0, 0, 0⟩, ⟨0, 0, 0⟩, ⟨0, 0, 0⟩] := by simp [varsV]
 have e2 : varsV (l ++ markV) = varsV l ++ varsV markV := by simp [varsV]
 rw [e1, e2, ← varsV_len l]
 simp [varsV, markV]
/-- the marks behind a lent code, j of them laid -/
def marksJ (n j : Nat) : List Ins := (List.range 9).map fun (k : Nat) => if k < j then ⟨-9, (n : Int) + (k : Int), 0, 0, 0⟩ else ⟨0, 0, 0, 0, 0⟩
theorem marksJ_all (n : Nat) : marksJ n 9 = marksC n := by
 unfold marksJ marksC
 apply List.map_congr_left
 intro k hk
 rw [if_pos (List.mem_range.1 hk)]
theorem marksJ_step (l : List Ins) (j : Nat) (hj : j < 9) : (l ++ marksJ l.length j).set (l.length + j) ⟨-9, (l.length : Int) + (j : Int), 0, 0, 0⟩ = l ++ marksJ l.length (j + 1) := by
 rw [List.set_append, if_neg (by omega), Nat.add_sub_cancel_left]
 congr 1
 apply List.ext_getElem?
 intro k
 unfold marksJ
 rw [List.getElem?_set]
 by_cases hk : k < 9
 · rw [List.getElem?_map, List.getElem?_map, List.getElem?_range hk]
   by_cases h1 : j = k
   · subst h1
     simp [hk]
   · rw [if_neg h1]
     simp only [Option.map_some]
     by_cases h2 : k < j
     · rw [if_pos h2, if_pos (by omega)]
     · rw [if_neg h2, if_neg (by omega)]
 · rw [List.getElem?_eq_none (by simp; omega), List.getElem?_eq_none (by simp; omega)]
   simp
   omega
theorem code_set {l : List Ins} {i : Nat} {x : Ins} (hi : i < l.length) : (((((codeV l).toArray.setIfInBounds (i * 5) (.int .i64 x.o)).setIfInBounds (i * 5 + 1) (.int .i64 x.a)).setIfInBounds (i * 5 + 2) (.int .i64 x.b)).setIfInBounds (i * 5 + 3) (.int .i64 x.c)).setIfInBounds (i * 5 + 4) (.int .i64 x.d) = (codeV (l.set i x)).toArray := by
 obtain ⟨l1, y, l2, rfl, rfl⟩ : ∃ l1 y l2, l = l1 ++ y :: l2 ∧ i = l1.length := ⟨l.take i, l[i], l.drop (i + 1), by simp, by simp; omega⟩
 have e1 : codeV (l1 ++ y :: l2) = codeV l1 ++ ([.int .i64 y.o, .int .i64 y.a, .int .i64 y.b, .int .i64 y.c, .int .i64 y.d] ++ codeV l2) := by rw [codeV_append]; rfl
 have e2 : codeV ((l1 ++ y :: l2).set l1.length x) = codeV l1 ++ ([.int .i64 x.o, .int .i64 x.a, .int .i64 x.b, .int .i64 x.c, .int .i64 x.d] ++ codeV l2) := by
   rw [List.set_append, if_neg (by omega), Nat.sub_self, List.set_cons_zero, codeV_append]; rfl
 rw [e1, e2, ← codeV_len l1]
 simp
theorem Lent.far28 {w w' : World} {B gg gv gt go gc k : Nat} {P : Prg} {c : Array Value} (h : Lent w B gg gv gt go gc P) (hk : Blk w k 34 c) (ho : Only (fun x => x = k) w w') : Lent w' B gg gv gt go gc P :=
 ⟨h.g.only ho (h.g.ne_ hk (by decide)), h.v.only ho (h.v.ne_ hk (by decide)), h.t.only ho (h.t.ne_ hk (by decide)), h.o.only ho (h.o.ne_ hk (by decide)), h.c.only ho (h.c.ne_ hk (by decide)), h.base, h.apart⟩
theorem boolsV_one (l : List Bool) : ∀ v ∈ boolsV l, v.oneCell' = true := by
 intro v hv
 simp only [boolsV, List.mem_map] at hv
 obtain ⟨x, _, rfl⟩ := hv
 rfl
theorem vars_one (l : List Vr) : ∀ v ∈ varsV l, v.oneCell' = true := by
 intro v hv
 simp only [varsV, List.mem_flatMap, List.mem_cons, List.not_mem_nil, or_false] at hv
 obtain ⟨x, _, rfl | rfl | rfl⟩ := hv <;> rfl
theorem code_one (l : List Ins) : ∀ v ∈ codeV l, v.oneCell' = true := by
 intro v hv
 simp only [codeV, List.mem_flatMap, List.mem_cons, List.not_mem_nil, or_false] at hv
 obtain ⟨x, _, rfl | rfl | rfl | rfl | rfl⟩ := hv <;> rfl
set_option maxRecDepth 100000 in
theorem lendProgram_i (w : World) (p : PV) (P : Prg) (h : AMem w p P) (hl : P.gh.length ≤ 1048576 ∧ P.vs.length ≤ 1048576 ∧ P.ts.length ≤ 1048576 ∧ P.os.length ≤ 1048576 ∧ P.cd.length ≤ 1048576) :
   Calls Try.prog 23 #[p.val] w fun en w' => ∃ gg gv gt go gc, en = .returned (lentPV gg gv gt go gc P).val ∧ Lent w' w.heap.size gg gv gt go gc P ∧ Below w.heap.size w w' := by
 have hres : Try.f23.results = #[.cell 2 34] := by kernel_rfl
 have HSG : Hid (Src w _ _ _) := hide h.g
 have HSV : Hid (Src w _ _ _) := hide h.v
 have HSC : Hid (Src w _ _ _) := hide h.c
 have HTS := hide (fun (W : World) (hb : Below w.heap.size w W) => lendInts_i W p.ta p.tc _ (h.t.below hb) (by omega))
 have HOS := hide (fun (W : World) (hb : Below w.heap.size w W) => lendInts_i W p.oa p.oc _ (h.o.below hb) (by omega))
 obtain ⟨e1, e2, e3, e4, e5, e6, _, _, _, _, _, _⟩ := h
 obtain ⟨ga, va, ta, oa, ca, gl, gc, vl, vc, tl, tc, ol, oc, cl, cc, miss⟩ := p
 simp only at e1 e2 e3 e4 e5 e6
 subst e1 e2 e3 e4 e5 e6
 simp only [PV.val] at *
 obtain ⟨d1, d2, d3, d4, d5⟩ := hl
 have hmg : ∀ W : World, (Instr.makeSlice 22 (.int .i64 ((P.gh.length : Int) + 3)) (.int .i64 ((P.gh.length : Int) + 3))).run Try.prog W = .ok (.slice (some ⟨W.heap.size, 0, none⟩) (P.gh.length + 3) (P.gh.length + 3)) (W.alloc (.cells (List.replicate (P.gh.length + 3) (.bool false)).toArray 4)) := fun W => by simpa using make_bools W (P.gh.length + 3) (by omega)
 have hmv : ∀ W : World, (Instr.makeSlice 23 (.int .i64 ((P.vs.length : Int) + 3)) (.int .i64 ((P.vs.length : Int) + 3))).run Try.prog W = .ok (.slice (some ⟨W.heap.size, 0, none⟩) (P.vs.length + 3) (P.vs.length + 3)) (W.alloc (.cells (List.replicate ((P.vs.length + 3) * 3) (.int .i64 0)).toArray 51)) := fun W => by have := make_vars W (P.vs.length + 3) (by omega); rw [Int.natCast_add] at this; exact this
 have hmc : ∀ W : World, (Instr.makeSlice 32 (.int .i64 ((P.cd.length : Int) + 9)) (.int .i64 ((P.cd.length : Int) + 9))).run Try.prog W = .ok (.slice (some ⟨W.heap.size, 0, none⟩) (P.cd.length + 9) (P.cd.length + 9)) (W.alloc (.cells (List.replicate ((P.cd.length + 9) * 5) (.int .i64 0)).toArray 56)) := fun W => by have := make_code W (P.cd.length + 9) (by omega); rw [Int.natCast_add] at this; exact this
 have u1 := IntWalk.i64_in ((P.gh.length : Int) + 3) (by omega)
 have u2 := IntWalk.i64_in ((P.vs.length : Int) + 3) (by omega)
 have u3 := IntWalk.i64_in ((P.cd.length : Int) + 9) (by omega)
 go_enter Try.func23, Try.ntmps23
 go_upto_region 2 with fail
 have kp : Blk (((w.alloc (.cells #[.slice ga P.gh.length gc, .slice va P.vs.length vc, .slice ta P.ts.length tc, .slice oa P.os.length oc, .int .i64 P.miss, .slice ca P.cd.length cc] 34)).alloc (.cells #[.slice none 0 0, .slice none 0 0, .slice none 0 0, .slice none 0 0, .int .i64 0, .slice none 0 0] 34)).alloc (.cells #[.slice none 0 0, .slice none 0 0, .slice none 0 0, .slice none 0 0, .int .i64 P.miss, .slice none 0 0] 34)) (w.heap.size) 34 #[.slice ga P.gh.length gc, .slice va P.vs.length vc, .slice ta P.ts.length tc, .slice oa P.os.length oc, .int .i64 P.miss, .slice ca P.cd.length cc] := ((Blk.new w 34 _).alloc _).alloc _
 have kr : Blk (((w.alloc (.cells #[.slice ga P.gh.length gc, .slice va P.vs.length vc, .slice ta P.ts.length tc, .slice oa P.os.length oc, .int .i64 P.miss, .slice ca P.cd.length cc] 34)).alloc (.cells #[.slice none 0 0, .slice none 0 0, .slice none 0 0, .slice none 0 0, .int .i64 0, .slice none 0 0] 34)).alloc (.cells #[.slice none 0 0, .slice none 0 0, .slice none 0 0, .slice none 0 0, .int .i64 P.miss, .slice none 0 0] 34)) (w.heap.size + 1) 34 #[.slice none 0 0, .slice none 0 0, .slice none 0 0, .slice none 0 0, .int .i64 0, .slice none 0 0] := by
   have := (Blk.new (w.alloc (.cells #[.slice ga P.gh.length gc, .slice va P.vs.length vc, .slice ta P.ts.length tc, .slice oa P.os.length oc, .int .i64 P.miss, .slice ca P.cd.length cc] 34)) 34 #[.slice none 0 0, .slice none 0 0, .slice none 0 0, .slice none 0 0, .int .i64 0, .slice none 0 0]).alloc (.cells #[.slice none 0 0, .slice none 0 0, .slice none 0 0, .slice none 0 0, .int .i64 P.miss, .slice none 0 0] 34)
   simpa using this
 have ko : Blk (((w.alloc (.cells #[.slice ga P.gh.length gc, .slice va P.vs.length vc, .slice ta P.ts.length tc, .slice oa P.os.length oc, .int .i64 P.miss, .slice ca P.cd.length cc] 34)).alloc (.cells #[.slice none 0 0, .slice none 0 0, .slice none 0 0, .slice none 0 0, .int .i64 0, .slice none 0 0] 34)).alloc (.cells #[.slice none 0 0, .slice none 0 0, .slice none 0 0, .slice none 0 0, .int .i64 P.miss, .slice none 0 0] 34)) (w.heap.size + 1 + 1) 34 #[.slice none 0 0, .slice none 0 0, .slice none 0 0, .slice none 0 0, .int .i64 P.miss, .slice none 0 0] := by
   have := Blk.new ((w.alloc (.cells #[.slice ga P.gh.length gc, .slice va P.vs.length vc, .slice ta P.ts.length tc, .slice oa P.os.length oc, .int .i64 P.miss, .slice ca P.cd.length cc] 34)).alloc (.cells #[.slice none 0 0, .slice none 0 0, .slice none 0 0, .slice none 0 0, .int .i64 0, .slice none 0 0] 34)) 34 #[.slice none 0 0, .slice none 0 0, .slice none 0 0, .slice none 0 0, .int .i64 P.miss, .slice none 0 0]
   simpa using this
 have hb : Below w.heap.size w (((w.alloc (.cells #[.slice ga P.gh.length gc, .slice va P.vs.length vc, .slice ta P.ts.length tc, .slice oa P.os.length oc, .int .i64 P.miss, .slice ca P.cd.length cc] 34)).alloc (.cells #[.slice none 0 0, .slice none 0 0, .slice none 0 0, .slice none 0 0, .int .i64 0, .slice none 0 0] 34)).alloc (.cells #[.slice none 0 0, .slice none 0 0, .slice none 0 0, .slice none 0 0, .int .i64 P.miss, .slice none 0 0] 34)) := (((Below.refl _ w).alloc (Nat.le_refl _) _).alloc (by simp) _).alloc (by simp; omega) _
 generalize (((w.alloc (.cells #[.slice ga P.gh.length gc, .slice va P.vs.length vc, .slice ta P.ts.length tc, .slice oa P.os.length oc, .int .i64 P.miss, .slice ca P.cd.length cc] 34)).alloc (.cells #[.slice none 0 0, .slice none 0 0, .slice none 0 0, .slice none 0 0, .int .i64 0, .slice none 0 0] 34)).alloc (.cells #[.slice none 0 0, .slice none 0 0, .slice none 0 0, .slice none 0 0, .int .i64 P.miss, .slice none 0 0] 34)) = W1 at *
 have HP := hide kp
 have HR := hide kr
 have HO := hide ko
 have HB := hide hb
 clear kp kr ko hb
 have p0 : W1.cell? ⟨w.heap.size, 0, none⟩ = some (.slice ga P.gh.length gc) := by rw [HP.out.cell]; rfl
 have p1 : W1.cell? ⟨w.heap.size, 1, none⟩ = some (.slice va P.vs.length vc) := by rw [HP.out.cell]; rfl
 have p2 : W1.cell? ⟨w.heap.size, 2, none⟩ = some (.slice ta P.ts.length tc) := by rw [HP.out.cell]; rfl
 have p3 : W1.cell? ⟨w.heap.size, 3, none⟩ = some (.slice oa P.os.length oc) := by rw [HP.out.cell]; rfl
 have p4 : W1.cell? ⟨w.heap.size, 4, none⟩ = some (.int .i64 P.miss) := by rw [HP.out.cell]; rfl
 have p5 : W1.cell? ⟨w.heap.size, 5, none⟩ = some (.slice ca P.cd.length cc) := by rw [HP.out.cell]; rfl
 have o0 : W1.cell? ⟨w.heap.size + 1 + 1, 0, none⟩ = some (.slice none 0 0) := by rw [HO.out.cell]; rfl
 have o1 : W1.cell? ⟨w.heap.size + 1 + 1, 1, none⟩ = some (.slice none 0 0) := by rw [HO.out.cell]; rfl
 have o2 : W1.cell? ⟨w.heap.size + 1 + 1, 2, none⟩ = some (.slice none 0 0) := by rw [HO.out.cell]; rfl
 have o3 : W1.cell? ⟨w.heap.size + 1 + 1, 3, none⟩ = some (.slice none 0 0) := by rw [HO.out.cell]; rfl
 have o4 : W1.cell? ⟨w.heap.size + 1 + 1, 4, none⟩ = some (.int .i64 P.miss) := by rw [HO.out.cell]; rfl
 have o5 : W1.cell? ⟨w.heap.size + 1 + 1, 5, none⟩ = some (.slice none 0 0) := by rw [HO.out.cell]; rfl
 have of0 := HO.out.frozen 0
 have of1 := HO.out.frozen 1
 have of2 := HO.out.frozen 2
 have of3 := HO.out.frozen 3
 have of4 := HO.out.frozen 4
 have of5 := HO.out.frozen 5
 have pa0 : ∀ o, (W1.alloc o).cell? ⟨w.heap.size, 0, none⟩ = some (.slice ga P.gh.length gc) := fun o => (World.cell?_alloc_lt W1 o _ (by exact HP.out.lt)).trans p0
 have pa1 : ∀ o, (W1.alloc o).cell? ⟨w.heap.size, 1, none⟩ = some (.slice va P.vs.length vc) := fun o => (World.cell?_alloc_lt W1 o _ (by exact HP.out.lt)).trans p1
 have pa2 : ∀ o, (W1.alloc o).cell? ⟨w.heap.size, 2, none⟩ = some (.slice ta P.ts.length tc) := fun o => (World.cell?_alloc_lt W1 o _ (by exact HP.out.lt)).trans p2
 have pa3 : ∀ o, (W1.alloc o).cell? ⟨w.heap.size, 3, none⟩ = some (.slice oa P.os.length oc) := fun o => (World.cell?_alloc_lt W1 o _ (by exact HP.out.lt)).trans p3
 have pa4 : ∀ o, (W1.alloc o).cell? ⟨w.heap.size, 4, none⟩ = some (.int .i64 P.miss) := fun o => (World.cell?_alloc_lt W1 o _ (by exact HP.out.lt)).trans p4
 have pa5 : ∀ o, (W1.alloc o).cell? ⟨w.heap.size, 5, none⟩ = some (.slice ca P.cd.length cc) := fun o => (World.cell?_alloc_lt W1 o _ (by exact HP.out.lt)).trans p5
 go_wp2_with (with_reducible refine wpList_copyN rfl (.tmp 16) (.tmp 18) 22 22 rfl 4 Try.underlying22 1 (by kernel_rfl) W1.heap.size (P.gh.length + 3) (P.gh.length + 3) ga P.gh.length gc rfl rfl (by omega) (List.replicate (P.gh.length + 3) (.bool false)) 4 (Blk.new W1 4 _) (boolsV P.gh) (by simp [boolsV]) ?_ ?_ ?_ ?_)
 · exact HSG.out.copy (HB.out.alloc HB.out.size _)
 · simp [boolsV]
 · exact boolsV_one _
 intro w2 hk2 ho2
 have e1 : boolsV P.gh ++ List.replicate (P.gh.length + 3 - (boolsV P.gh).length) (.bool false) = boolsV (P.gh ++ List.replicate 3 false) := by
   have : P.gh.length + 3 - (boolsV P.gh).length = 3 := by simp [boolsV]
   rw [this]; simp [boolsV]
 have hw1 : w.heap.size + 3 ≤ W1.heap.size := by have := HO.out.lt; omega
 have hb2 : Below W1.heap.size W1 w2 := ((Below.refl W1.heap.size W1).alloc (Nat.le_refl _) _).trans (ho2.below (fun k e => Nat.le_of_eq e.symm) (by simp))
 have hg : Blk w2 W1.heap.size 4 (boolsV (P.gh ++ List.replicate 3 false)).toArray := by
   have := hk2
   rw [e1] at this
   exact this
 have HB := hide (HB.out.trans (hb2.mono HB.out.size))
 have HG := hide hg
 clear p0 pa0 p1 pa1 p2 pa2 p3 pa3 p4 pa4 p5 pa5 o0 o1 o2 o3 o4 o5 of0 of1 of2 of3 of4 of5
 have HP := hide (HP.out.below hb2 HP.out.lt)
 have HR := hide (HR.out.below hb2 HR.out.lt)
 have HO := hide (HO.out.below hb2 HO.out.lt)
 skip
 generalize W1.heap.size = gg at *
 have HGE := hide hw1
 clear hk2 ho2 hb2 hg e1 hw1
 have p0 : w2.cell? ⟨w.heap.size, 0, none⟩ = some (.slice ga P.gh.length gc) := by rw [HP.out.cell]; rfl
 have p1 : w2.cell? ⟨w.heap.size, 1, none⟩ = some (.slice va P.vs.length vc) := by rw [HP.out.cell]; rfl
 have p2 : w2.cell? ⟨w.heap.size, 2, none⟩ = some (.slice ta P.ts.length tc) := by rw [HP.out.cell]; rfl
 have p3 : w2.cell? ⟨w.heap.size, 3, none⟩ = some (.slice oa P.os.length oc) := by rw [HP.out.cell]; rfl
 have p4 : w2.cell? ⟨w.heap.size, 4, none⟩ = some (.int .i64 P.miss) := by rw [HP.out.cell]; rfl
 have p5 : w2.cell? ⟨w.heap.size, 5, none⟩ = some (.slice ca P.cd.length cc) := by rw [HP.out.cell]; rfl
 have o0 : w2.cell? ⟨w.heap.size + 1 + 1, 0, none⟩ = some (.slice none 0 0) := by rw [HO.out.cell]; rfl
 have o1 : w2.cell? ⟨w.heap.size + 1 + 1, 1, none⟩ = some (.slice none 0 0) := by rw [HO.out.cell]; rfl
 have o2 : w2.cell? ⟨w.heap.size + 1 + 1, 2, none⟩ = some (.slice none 0 0) := by rw [HO.out.cell]; rfl
 have o3 : w2.cell? ⟨w.heap.size + 1 + 1, 3, none⟩ = some (.slice none 0 0) := by rw [HO.out.cell]; rfl
 have o4 : w2.cell? ⟨w.heap.size + 1 + 1, 4, none⟩ = some (.int .i64 P.miss) := by rw [HO.out.cell]; rfl
 have o5 : w2.cell? ⟨w.heap.size + 1 + 1, 5, none⟩ = some (.slice none 0 0) := by rw [HO.out.cell]; rfl
 have of0 := HO.out.frozen 0
 have of1 := HO.out.frozen 1
 have of2 := HO.out.frozen 2
 have of3 := HO.out.frozen 3
 have of4 := HO.out.frozen 4
 have of5 := HO.out.frozen 5
 have hle := Nat.le_add_right P.gh.length 3
 go_upto_region 5 with fail
 clear hle
 clear p0 p1 p2 p3 p4 p5 o0 o1 o2 o3 o4 o5 of0 of1 of2 of3 of4 of5
 have hB : Below w.heap.size w (w2.setCell ⟨w.heap.size + 1 + 1, 0, none⟩ (.slice (some ⟨gg, 0, none⟩) P.gh.length (P.gh.length + 3))) := HB.out.setCell (by show w.heap.size ≤ w.heap.size + 1 + 1; omega) _
 have hP : Blk (w2.setCell ⟨w.heap.size + 1 + 1, 0, none⟩ (.slice (some ⟨gg, 0, none⟩) P.gh.length (P.gh.length + 3))) (w.heap.size) 34 #[.slice ga P.gh.length gc, .slice va P.vs.length vc, .slice ta P.ts.length tc, .slice oa P.os.length oc, .int .i64 P.miss, .slice ca P.cd.length cc] := HP.out.far (by show w.heap.size ≠ w.heap.size + 1 + 1; omega) _
 have hR : Blk (w2.setCell ⟨w.heap.size + 1 + 1, 0, none⟩ (.slice (some ⟨gg, 0, none⟩) P.gh.length (P.gh.length + 3))) (w.heap.size + 1) 34 #[.slice none 0 0, .slice none 0 0, .slice none 0 0, .slice none 0 0, .int .i64 0, .slice none 0 0] := HR.out.far (by show w.heap.size + 1 ≠ w.heap.size + 1 + 1; omega) _
 have hO : Blk (w2.setCell ⟨w.heap.size + 1 + 1, 0, none⟩ (.slice (some ⟨gg, 0, none⟩) P.gh.length (P.gh.length + 3))) (w.heap.size + 1 + 1) 34 #[.slice (some ⟨gg, 0, none⟩) P.gh.length (P.gh.length + 3), .slice none 0 0, .slice none 0 0, .slice none 0 0, .int .i64 P.miss, .slice none 0 0] := HO.out.set_ 0 _
 have hHG : Blk (w2.setCell ⟨w.heap.size + 1 + 1, 0, none⟩ (.slice (some ⟨gg, 0, none⟩) P.gh.length (P.gh.length + 3))) _ _ _ := HG.out.far (by show _ ≠ w.heap.size + 1 + 1; exact HG.out.ne_ HO.out (by decide)) _
 have HB := hide hB
 have HP := hide hP
 have HR := hide hR
 have HO := hide hO
 have HG := hide hHG
 clear hB hP hR hO hHG
 generalize (w2.setCell ⟨w.heap.size + 1 + 1, 0, none⟩ (.slice (some ⟨gg, 0, none⟩) P.gh.length (P.gh.length + 3))) = W3 at *
 have p0 : W3.cell? ⟨w.heap.size, 0, none⟩ = some (.slice ga P.gh.length gc) := by rw [HP.out.cell]; rfl
 have p1 : W3.cell? ⟨w.heap.size, 1, none⟩ = some (.slice va P.vs.length vc) := by rw [HP.out.cell]; rfl
 have p2 : W3.cell? ⟨w.heap.size, 2, none⟩ = some (.slice ta P.ts.length tc) := by rw [HP.out.cell]; rfl
 have p3 : W3.cell? ⟨w.heap.size, 3, none⟩ = some (.slice oa P.os.length oc) := by rw [HP.out.cell]; rfl
 have p4 : W3.cell? ⟨w.heap.size, 4, none⟩ = some (.int .i64 P.miss) := by rw [HP.out.cell]; rfl
 have p5 : W3.cell? ⟨w.heap.size, 5, none⟩ = some (.slice ca P.cd.length cc) := by rw [HP.out.cell]; rfl
 have o0 : W3.cell? ⟨w.heap.size + 1 + 1, 0, none⟩ = some (.slice (some ⟨gg, 0, none⟩) P.gh.length (P.gh.length + 3)) := by rw [HO.out.cell]; rfl
 have o1 : W3.cell? ⟨w.heap.size + 1 + 1, 1, none⟩ = some (.slice none 0 0) := by rw [HO.out.cell]; rfl
 have o2 : W3.cell? ⟨w.heap.size + 1 + 1, 2, none⟩ = some (.slice none 0 0) := by rw [HO.out.cell]; rfl
 have o3 : W3.cell? ⟨w.heap.size + 1 + 1, 3, none⟩ = some (.slice none 0 0) := by rw [HO.out.cell]; rfl
 have o4 : W3.cell? ⟨w.heap.size + 1 + 1, 4, none⟩ = some (.int .i64 P.miss) := by rw [HO.out.cell]; rfl
 have o5 : W3.cell? ⟨w.heap.size + 1 + 1, 5, none⟩ = some (.slice none 0 0) := by rw [HO.out.cell]; rfl
 have of0 := HO.out.frozen 0
 have of1 := HO.out.frozen 1
 have of2 := HO.out.frozen 2
 have of3 := HO.out.frozen 3
 have of4 := HO.out.frozen 4
 have of5 := HO.out.frozen 5
 have pa0 : ∀ o, (W3.alloc o).cell? ⟨w.heap.size, 0, none⟩ = some (.slice ga P.gh.length gc) := fun o => (World.cell?_alloc_lt W3 o _ (by exact HP.out.lt)).trans p0
 have pa1 : ∀ o, (W3.alloc o).cell? ⟨w.heap.size, 1, none⟩ = some (.slice va P.vs.length vc) := fun o => (World.cell?_alloc_lt W3 o _ (by exact HP.out.lt)).trans p1
 have pa2 : ∀ o, (W3.alloc o).cell? ⟨w.heap.size, 2, none⟩ = some (.slice ta P.ts.length tc) := fun o => (World.cell?_alloc_lt W3 o _ (by exact HP.out.lt)).trans p2
 have pa3 : ∀ o, (W3.alloc o).cell? ⟨w.heap.size, 3, none⟩ = some (.slice oa P.os.length oc) := fun o => (World.cell?_alloc_lt W3 o _ (by exact HP.out.lt)).trans p3
 have pa4 : ∀ o, (W3.alloc o).cell? ⟨w.heap.size, 4, none⟩ = some (.int .i64 P.miss) := fun o => (World.cell?_alloc_lt W3 o _ (by exact HP.out.lt)).trans p4
 have pa5 : ∀ o, (W3.alloc o).cell? ⟨w.heap.size, 5, none⟩ = some (.slice ca P.cd.length cc) := fun o => (World.cell?_alloc_lt W3 o _ (by exact HP.out.lt)).trans p5
 go_wp2_with (with_reducible refine wpList_copyN rfl (.tmp 31) (.tmp 33) 23 23 rfl 51 Try.underlying23 3 (by kernel_rfl) W3.heap.size (P.vs.length + 3) (P.vs.length + 3) va P.vs.length vc rfl rfl (by omega) (List.replicate ((P.vs.length + 3) * 3) (.int .i64 0)) 51 (Blk.new W3 51 _) (varsV P.vs) (varsV_len _) ?_ ?_ ?_ ?_)
 · exact HSV.out.copy (HB.out.alloc HB.out.size _)
 · rw [varsV_len]; first | (simp; done) | (simp; omega)
 · exact vars_one _
 intro w4 hk2 ho2
 have e1 : varsV P.vs ++ List.replicate ((P.vs.length + 3) * 3 - (varsV P.vs).length) (.int .i64 0) = varsV (P.vs ++ [⟨0, 0, 0⟩, ⟨0, 0, 0⟩, ⟨0, 0, 0⟩]) := by
   rw [varsV_len, show (P.vs.length + 3) * 3 - P.vs.length * 3 = 9 by omega, varsV, varsV, List.flatMap_append]; rfl
 have hw1 : w.heap.size + 3 ≤ W3.heap.size := by have := HO.out.lt; omega
 have hb2 : Below W3.heap.size W3 w4 := ((Below.refl W3.heap.size W3).alloc (Nat.le_refl _) _).trans (ho2.below (fun k e => Nat.le_of_eq e.symm) (by simp))
 have hg : Blk w4 W3.heap.size 51 (varsV (P.vs ++ [⟨0, 0, 0⟩, ⟨0, 0, 0⟩, ⟨0, 0, 0⟩])).toArray := by
   have := hk2
   rw [e1] at this
   exact this
 have HB := hide (HB.out.trans (hb2.mono HB.out.size))
 have HV := hide hg
 clear p0 pa0 p1 pa1 p2 pa2 p3 pa3 p4 pa4 p5 pa5 o0 o1 o2 o3 o4 o5 of0 of1 of2 of3 of4 of5
 have HP := hide (HP.out.below hb2 HP.out.lt)
 have HR := hide (HR.out.below hb2 HR.out.lt)
 have HO := hide (HO.out.below hb2 HO.out.lt)
 have HG := hide (HG.out.below hb2 HG.out.lt)
 skip
 generalize W3.heap.size = gv at *
 have HVE := hide hw1
 clear hk2 ho2 hb2 hg e1 hw1
 have p0 : w4.cell? ⟨w.heap.size, 0, none⟩ = some (.slice ga P.gh.length gc) := by rw [HP.out.cell]; rfl
 have p1 : w4.cell? ⟨w.heap.size, 1, none⟩ = some (.slice va P.vs.length vc) := by rw [HP.out.cell]; rfl
 have p2 : w4.cell? ⟨w.heap.size, 2, none⟩ = some (.slice ta P.ts.length tc) := by rw [HP.out.cell]; rfl
 have p3 : w4.cell? ⟨w.heap.size, 3, none⟩ = some (.slice oa P.os.length oc) := by rw [HP.out.cell]; rfl
 have p4 : w4.cell? ⟨w.heap.size, 4, none⟩ = some (.int .i64 P.miss) := by rw [HP.out.cell]; rfl
 have p5 : w4.cell? ⟨w.heap.size, 5, none⟩ = some (.slice ca P.cd.length cc) := by rw [HP.out.cell]; rfl
 have o0 : w4.cell? ⟨w.heap.size + 1 + 1, 0, none⟩ = some (.slice (some ⟨gg, 0, none⟩) P.gh.length (P.gh.length + 3)) := by rw [HO.out.cell]; rfl
 have o1 : w4.cell? ⟨w.heap.size + 1 + 1, 1, none⟩ = some (.slice none 0 0) := by rw [HO.out.cell]; rfl
 have o2 : w4.cell? ⟨w.heap.size + 1 + 1, 2, none⟩ = some (.slice none 0 0) := by rw [HO.out.cell]; rfl
 have o3 : w4.cell? ⟨w.heap.size + 1 + 1, 3, none⟩ = some (.slice none 0 0) := by rw [HO.out.cell]; rfl
 have o4 : w4.cell? ⟨w.heap.size + 1 + 1, 4, none⟩ = some (.int .i64 P.miss) := by rw [HO.out.cell]; rfl
 have o5 : w4.cell? ⟨w.heap.size + 1 + 1, 5, none⟩ = some (.slice none 0 0) := by rw [HO.out.cell]; rfl
 have of0 := HO.out.frozen 0
 have of1 := HO.out.frozen 1
 have of2 := HO.out.frozen 2
 have of3 := HO.out.frozen 3
 have of4 := HO.out.frozen 4
 have of5 := HO.out.frozen 5
 have hvlt : P.vs.length < P.vs.length + 3 := by omega
 obtain ⟨x0, g0⟩ : ∃ x, w4.cell? ⟨gv, P.vs.length * 3, none⟩ = some x := ⟨_, by rw [HV.out.cell]; exact Array.getElem?_eq_getElem (by first | (simp [varsV_len]; done) | (simp [varsV_len]; omega))⟩
 obtain ⟨x1, g1⟩ : ∃ x, w4.cell? ⟨gv, P.vs.length * 3 + 1, none⟩ = some x := ⟨_, by rw [HV.out.cell]; exact Array.getElem?_eq_getElem (by first | (simp [varsV_len]; done) | (simp [varsV_len]; omega))⟩
 obtain ⟨x2, g2⟩ : ∃ x, w4.cell? ⟨gv, P.vs.length * 3 + 2, none⟩ = some x := ⟨_, by rw [HV.out.cell]; exact Array.getElem?_eq_getElem (by first | (simp [varsV_len]; done) | (simp [varsV_len]; omega))⟩
 have gf0 := HV.out.frozen (P.vs.length * 3)
 have gf1 := HV.out.frozen (P.vs.length * 3 + 1)
 have gf2 := HV.out.frozen (P.vs.length * 3 + 2)
 have hvo : gv ≠ w.heap.size + 1 + 1 := HV.out.ne_ HO.out (by decide)
 go_upto_region 8 with fail
 clear hvlt g0 g1 g2 gf0 gf1 gf2
 clear p0 p1 p2 p3 p4 p5 o0 o1 o2 o3 o4 o5 of0 of1 of2 of3 of4 of5
 have kv : Blk (((w4.setCell ⟨gv, P.vs.length * 3, none⟩ (.int .i64 91)).setCell ⟨gv, P.vs.length * 3 + 1, none⟩ (.int .i64 0)).setCell ⟨gv, P.vs.length * 3 + 2, none⟩ (.int .i64 0)) gv 51 (varsV (P.vs ++ markV)).toArray := by
   have := ((HV.out.set_ (P.vs.length * 3) (.int .i64 91)).set_ (P.vs.length * 3 + 1) (.int .i64 0)).set_ (P.vs.length * 3 + 2) (.int .i64 0)
   rw [vars_set] at this
   exact this
 have hgv : ∀ k : Nat, (⟨gv, k, none⟩ : Addr).block = gv := fun _ => rfl
 have hB : Below w.heap.size w (((w4.setCell ⟨gv, P.vs.length * 3, none⟩ (.int .i64 91)).setCell ⟨gv, P.vs.length * 3 + 1, none⟩ (.int .i64 0)).setCell ⟨gv, P.vs.length * 3 + 2, none⟩ (.int .i64 0)) := ((HB.out.setCell (by show w.heap.size ≤ gv; have := HVE.out; omega) _).setCell (by show w.heap.size ≤ gv; have := HVE.out; omega) _).setCell (by show w.heap.size ≤ gv; have := HVE.out; omega) _
 have hP : Blk (((w4.setCell ⟨gv, P.vs.length * 3, none⟩ (.int .i64 91)).setCell ⟨gv, P.vs.length * 3 + 1, none⟩ (.int .i64 0)).setCell ⟨gv, P.vs.length * 3 + 2, none⟩ (.int .i64 0)) (w.heap.size) 34 #[.slice ga P.gh.length gc, .slice va P.vs.length vc, .slice ta P.ts.length tc, .slice oa P.os.length oc, .int .i64 P.miss, .slice ca P.cd.length cc] := ((HP.out.far (by show _ ≠ gv; exact HP.out.ne_ HV.out (by decide)) _).far (by show _ ≠ gv; exact HP.out.ne_ HV.out (by decide)) _).far (by show _ ≠ gv; exact HP.out.ne_ HV.out (by decide)) _
 have hR : Blk (((w4.setCell ⟨gv, P.vs.length * 3, none⟩ (.int .i64 91)).setCell ⟨gv, P.vs.length * 3 + 1, none⟩ (.int .i64 0)).setCell ⟨gv, P.vs.length * 3 + 2, none⟩ (.int .i64 0)) (w.heap.size + 1) 34 #[.slice none 0 0, .slice none 0 0, .slice none 0 0, .slice none 0 0, .int .i64 0, .slice none 0 0] := ((HR.out.far (by show _ ≠ gv; exact HR.out.ne_ HV.out (by decide)) _).far (by show _ ≠ gv; exact HR.out.ne_ HV.out (by decide)) _).far (by show _ ≠ gv; exact HR.out.ne_ HV.out (by decide)) _
 have hO : Blk (((w4.setCell ⟨gv, P.vs.length * 3, none⟩ (.int .i64 91)).setCell ⟨gv, P.vs.length * 3 + 1, none⟩ (.int .i64 0)).setCell ⟨gv, P.vs.length * 3 + 2, none⟩ (.int .i64 0)) (w.heap.size + 1 + 1) 34 #[.slice (some ⟨gg, 0, none⟩) P.gh.length (P.gh.length + 3), .slice none 0 0, .slice none 0 0, .slice none 0 0, .int .i64 P.miss, .slice none 0 0] := ((HO.out.far (by show _ ≠ gv; exact HO.out.ne_ HV.out (by decide)) _).far (by show _ ≠ gv; exact HO.out.ne_ HV.out (by decide)) _).far (by show _ ≠ gv; exact HO.out.ne_ HV.out (by decide)) _
 have hG : Blk (((w4.setCell ⟨gv, P.vs.length * 3, none⟩ (.int .i64 91)).setCell ⟨gv, P.vs.length * 3 + 1, none⟩ (.int .i64 0)).setCell ⟨gv, P.vs.length * 3 + 2, none⟩ (.int .i64 0)) gg 4 _ := ((HG.out.far (by show _ ≠ gv; exact HG.out.ne_ HV.out (by decide)) _).far (by show _ ≠ gv; exact HG.out.ne_ HV.out (by decide)) _).far (by show _ ≠ gv; exact HG.out.ne_ HV.out (by decide)) _
 clear HV hgv hvo
 have HB := hide hB
 have HP := hide hP
 have HR := hide hR
 have HO := hide hO
 have HG := hide hG
 have HV := hide kv
 clear hB hP hR hO hG kv
 generalize (((w4.setCell ⟨gv, P.vs.length * 3, none⟩ (.int .i64 91)).setCell ⟨gv, P.vs.length * 3 + 1, none⟩ (.int .i64 0)).setCell ⟨gv, P.vs.length * 3 + 2, none⟩ (.int .i64 0)) = w5 at *
 have p0 : w5.cell? ⟨w.heap.size, 0, none⟩ = some (.slice ga P.gh.length gc) := by rw [HP.out.cell]; rfl
 have p1 : w5.cell? ⟨w.heap.size, 1, none⟩ = some (.slice va P.vs.length vc) := by rw [HP.out.cell]; rfl
 have p2 : w5.cell? ⟨w.heap.size, 2, none⟩ = some (.slice ta P.ts.length tc) := by rw [HP.out.cell]; rfl
 have p3 : w5.cell? ⟨w.heap.size, 3, none⟩ = some (.slice oa P.os.length oc) := by rw [HP.out.cell]; rfl
 have p4 : w5.cell? ⟨w.heap.size, 4, none⟩ = some (.int .i64 P.miss) := by rw [HP.out.cell]; rfl
 have p5 : w5.cell? ⟨w.heap.size, 5, none⟩ = some (.slice ca P.cd.length cc) := by rw [HP.out.cell]; rfl
 have o0 : w5.cell? ⟨w.heap.size + 1 + 1, 0, none⟩ = some (.slice (some ⟨gg, 0, none⟩) P.gh.length (P.gh.length + 3)) := by rw [HO.out.cell]; rfl
 have o1 : w5.cell? ⟨w.heap.size + 1 + 1, 1, none⟩ = some (.slice none 0 0) := by rw [HO.out.cell]; rfl
 have o2 : w5.cell? ⟨w.heap.size + 1 + 1, 2, none⟩ = some (.slice none 0 0) := by rw [HO.out.cell]; rfl
 have o3 : w5.cell? ⟨w.heap.size + 1 + 1, 3, none⟩ = some (.slice none 0 0) := by rw [HO.out.cell]; rfl
 have o4 : w5.cell? ⟨w.heap.size + 1 + 1, 4, none⟩ = some (.int .i64 P.miss) := by rw [HO.out.cell]; rfl
 have o5 : w5.cell? ⟨w.heap.size + 1 + 1, 5, none⟩ = some (.slice none 0 0) := by rw [HO.out.cell]; rfl
 have of0 := HO.out.frozen 0
 have of1 := HO.out.frozen 1
 have of2 := HO.out.frozen 2
 have of3 := HO.out.frozen 3
 have of4 := HO.out.frozen 4
 have of5 := HO.out.frozen 5
 have hle := Nat.le_add_right P.vs.length 3
 go_upto_region 9 with fail
 clear hle
 clear p0 p1 p2 p3 p4 p5 o0 o1 o2 o3 o4 o5 of0 of1 of2 of3 of4 of5
 have hB : Below w.heap.size w (w5.setCell ⟨w.heap.size + 1 + 1, 1, none⟩ (.slice (some ⟨gv, 0, none⟩) P.vs.length (P.vs.length + 3))) := HB.out.setCell (by show w.heap.size ≤ w.heap.size + 1 + 1; omega) _
 have hP : Blk (w5.setCell ⟨w.heap.size + 1 + 1, 1, none⟩ (.slice (some ⟨gv, 0, none⟩) P.vs.length (P.vs.length + 3))) (w.heap.size) 34 #[.slice ga P.gh.length gc, .slice va P.vs.length vc, .slice ta P.ts.length tc, .slice oa P.os.length oc, .int .i64 P.miss, .slice ca P.cd.length cc] := HP.out.far (by show w.heap.size ≠ w.heap.size + 1 + 1; omega) _
 have hR : Blk (w5.setCell ⟨w.heap.size + 1 + 1, 1, none⟩ (.slice (some ⟨gv, 0, none⟩) P.vs.length (P.vs.length + 3))) (w.heap.size + 1) 34 #[.slice none 0 0, .slice none 0 0, .slice none 0 0, .slice none 0 0, .int .i64 0, .slice none 0 0] := HR.out.far (by show w.heap.size + 1 ≠ w.heap.size + 1 + 1; omega) _
 have hO : Blk (w5.setCell ⟨w.heap.size + 1 + 1, 1, none⟩ (.slice (some ⟨gv, 0, none⟩) P.vs.length (P.vs.length + 3))) (w.heap.size + 1 + 1) 34 #[.slice (some ⟨gg, 0, none⟩) P.gh.length (P.gh.length + 3), .slice (some ⟨gv, 0, none⟩) P.vs.length (P.vs.length + 3), .slice none 0 0, .slice none 0 0, .int .i64 P.miss, .slice none 0 0] := HO.out.set_ 1 _
 have hHG : Blk (w5.setCell ⟨w.heap.size + 1 + 1, 1, none⟩ (.slice (some ⟨gv, 0, none⟩) P.vs.length (P.vs.length + 3))) _ _ _ := HG.out.far (by show _ ≠ w.heap.size + 1 + 1; exact HG.out.ne_ HO.out (by decide)) _
 have hHV : Blk (w5.setCell ⟨w.heap.size + 1 + 1, 1, none⟩ (.slice (some ⟨gv, 0, none⟩) P.vs.length (P.vs.length + 3))) _ _ _ := HV.out.far (by show _ ≠ w.heap.size + 1 + 1; exact HV.out.ne_ HO.out (by decide)) _
 have HB := hide hB
 have HP := hide hP
 have HR := hide hR
 have HO := hide hO
 have HG := hide hHG
 have HV := hide hHV
 clear hB hP hR hO hHG hHV
 generalize (w5.setCell ⟨w.heap.size + 1 + 1, 1, none⟩ (.slice (some ⟨gv, 0, none⟩) P.vs.length (P.vs.length + 3))) = W5 at *
 have p0 : W5.cell? ⟨w.heap.size, 0, none⟩ = some (.slice ga P.gh.length gc) := by rw [HP.out.cell]; rfl
 have p1 : W5.cell? ⟨w.heap.size, 1, none⟩ = some (.slice va P.vs.length vc) := by rw [HP.out.cell]; rfl
 have p2 : W5.cell? ⟨w.heap.size, 2, none⟩ = some (.slice ta P.ts.length tc) := by rw [HP.out.cell]; rfl
 have p3 : W5.cell? ⟨w.heap.size, 3, none⟩ = some (.slice oa P.os.length oc) := by rw [HP.out.cell]; rfl
 have p4 : W5.cell? ⟨w.heap.size, 4, none⟩ = some (.int .i64 P.miss) := by rw [HP.out.cell]; rfl
 have p5 : W5.cell? ⟨w.heap.size, 5, none⟩ = some (.slice ca P.cd.length cc) := by rw [HP.out.cell]; rfl
 have o0 : W5.cell? ⟨w.heap.size + 1 + 1, 0, none⟩ = some (.slice (some ⟨gg, 0, none⟩) P.gh.length (P.gh.length + 3)) := by rw [HO.out.cell]; rfl
 have o1 : W5.cell? ⟨w.heap.size + 1 + 1, 1, none⟩ = some (.slice (some ⟨gv, 0, none⟩) P.vs.length (P.vs.length + 3)) := by rw [HO.out.cell]; rfl
 have o2 : W5.cell? ⟨w.heap.size + 1 + 1, 2, none⟩ = some (.slice none 0 0) := by rw [HO.out.cell]; rfl
 have o3 : W5.cell? ⟨w.heap.size + 1 + 1, 3, none⟩ = some (.slice none 0 0) := by rw [HO.out.cell]; rfl
 have o4 : W5.cell? ⟨w.heap.size + 1 + 1, 4, none⟩ = some (.int .i64 P.miss) := by rw [HO.out.cell]; rfl
 have o5 : W5.cell? ⟨w.heap.size + 1 + 1, 5, none⟩ = some (.slice none 0 0) := by rw [HO.out.cell]; rfl
 have of0 := HO.out.frozen 0
 have of1 := HO.out.frozen 1
 have of2 := HO.out.frozen 2
 have of3 := HO.out.frozen 3
 have of4 := HO.out.frozen 4
 have of5 := HO.out.frozen 5
 go_upto_region 10 with (go_at_call 47
                         refine (HTS.out _ HB.out).mono ?_
                         rintro en w6 ⟨gt, rfl, hge, hkx, hbx⟩
                         have HT := hide hkx
                         have HTE := hide (Nat.le_trans (show w.heap.size + 3 ≤ W5.heap.size by have := HO.out.lt; omega) hge)
                         have HTG := hide hge
                         have HB := hide (HB.out.trans (hbx.mono HB.out.size))
                         have HP := hide (HP.out.below hbx HP.out.lt)
                         have HR := hide (HR.out.below hbx HR.out.lt)
                         have HO := hide (HO.out.below hbx HO.out.lt)
                         have HG := hide (HG.out.below hbx HG.out.lt)
                         have HV := hide (HV.out.below hbx HV.out.lt)
                         have ob2 : w6.cell? ⟨w.heap.size + 1 + 1, 2, none⟩ = some (.slice none 0 0) := by rw [HO.out.cell]; rfl
                         have ofb := HO.out.frozen 2
                         clear hge hkx hbx)
 clear p0 p1 p2 p3 p4 p5 o0 o1 o2 o3 o4 o5 of0 of1 of2 of3 of4 of5
 clear ob2 ofb
 have hB : Below w.heap.size w (w6.setCell ⟨w.heap.size + 1 + 1, 2, none⟩ (.slice (some ⟨gt, 0, none⟩) P.ts.length (P.ts.length + 5))) := HB.out.setCell (by show w.heap.size ≤ w.heap.size + 1 + 1; omega) _
 have hP : Blk (w6.setCell ⟨w.heap.size + 1 + 1, 2, none⟩ (.slice (some ⟨gt, 0, none⟩) P.ts.length (P.ts.length + 5))) (w.heap.size) 34 #[.slice ga P.gh.length gc, .slice va P.vs.length vc, .slice ta P.ts.length tc, .slice oa P.os.length oc, .int .i64 P.miss, .slice ca P.cd.length cc] := HP.out.far (by show w.heap.size ≠ w.heap.size + 1 + 1; omega) _
 have hR : Blk (w6.setCell ⟨w.heap.size + 1 + 1, 2, none⟩ (.slice (some ⟨gt, 0, none⟩) P.ts.length (P.ts.length + 5))) (w.heap.size + 1) 34 #[.slice none 0 0, .slice none 0 0, .slice none 0 0, .slice none 0 0, .int .i64 0, .slice none 0 0] := HR.out.far (by show w.heap.size + 1 ≠ w.heap.size + 1 + 1; omega) _
 have hO : Blk (w6.setCell ⟨w.heap.size + 1 + 1, 2, none⟩ (.slice (some ⟨gt, 0, none⟩) P.ts.length (P.ts.length + 5))) (w.heap.size + 1 + 1) 34 #[.slice (some ⟨gg, 0, none⟩) P.gh.length (P.gh.length + 3), .slice (some ⟨gv, 0, none⟩) P.vs.length (P.vs.length + 3), .slice (some ⟨gt, 0, none⟩) P.ts.length (P.ts.length + 5), .slice none 0 0, .int .i64 P.miss, .slice none 0 0] := HO.out.set_ 2 _
 have hHG : Blk (w6.setCell ⟨w.heap.size + 1 + 1, 2, none⟩ (.slice (some ⟨gt, 0, none⟩) P.ts.length (P.ts.length + 5))) _ _ _ := HG.out.far (by show _ ≠ w.heap.size + 1 + 1; exact HG.out.ne_ HO.out (by decide)) _
 have hHV : Blk (w6.setCell ⟨w.heap.size + 1 + 1, 2, none⟩ (.slice (some ⟨gt, 0, none⟩) P.ts.length (P.ts.length + 5))) _ _ _ := HV.out.far (by show _ ≠ w.heap.size + 1 + 1; exact HV.out.ne_ HO.out (by decide)) _
 have hHT : Blk (w6.setCell ⟨w.heap.size + 1 + 1, 2, none⟩ (.slice (some ⟨gt, 0, none⟩) P.ts.length (P.ts.length + 5))) _ _ _ := HT.out.far (by show _ ≠ w.heap.size + 1 + 1; exact HT.out.ne_ HO.out (by decide)) _
 have HB := hide hB
 have HP := hide hP
 have HR := hide hR
 have HO := hide hO
 have HG := hide hHG
 have HV := hide hHV
 have HT := hide hHT
 clear hB hP hR hO hHG hHV hHT
 generalize (w6.setCell ⟨w.heap.size + 1 + 1, 2, none⟩ (.slice (some ⟨gt, 0, none⟩) P.ts.length (P.ts.length + 5))) = W6 at *
 have hW6 : gt < W6.heap.size := HT.out.lt
 have HT6 := hide hW6
 clear hW6
 have p0 : W6.cell? ⟨w.heap.size, 0, none⟩ = some (.slice ga P.gh.length gc) := by rw [HP.out.cell]; rfl
 have p1 : W6.cell? ⟨w.heap.size, 1, none⟩ = some (.slice va P.vs.length vc) := by rw [HP.out.cell]; rfl
 have p2 : W6.cell? ⟨w.heap.size, 2, none⟩ = some (.slice ta P.ts.length tc) := by rw [HP.out.cell]; rfl
 have p3 : W6.cell? ⟨w.heap.size, 3, none⟩ = some (.slice oa P.os.length oc) := by rw [HP.out.cell]; rfl
 have p4 : W6.cell? ⟨w.heap.size, 4, none⟩ = some (.int .i64 P.miss) := by rw [HP.out.cell]; rfl
 have p5 : W6.cell? ⟨w.heap.size, 5, none⟩ = some (.slice ca P.cd.length cc) := by rw [HP.out.cell]; rfl
 have o0 : W6.cell? ⟨w.heap.size + 1 + 1, 0, none⟩ = some (.slice (some ⟨gg, 0, none⟩) P.gh.length (P.gh.length + 3)) := by rw [HO.out.cell]; rfl
 have o1 : W6.cell? ⟨w.heap.size + 1 + 1, 1, none⟩ = some (.slice (some ⟨gv, 0, none⟩) P.vs.length (P.vs.length + 3)) := by rw [HO.out.cell]; rfl
 have o2 : W6.cell? ⟨w.heap.size + 1 + 1, 2, none⟩ = some (.slice (some ⟨gt, 0, none⟩) P.ts.length (P.ts.length + 5)) := by rw [HO.out.cell]; rfl
 have o3 : W6.cell? ⟨w.heap.size + 1 + 1, 3, none⟩ = some (.slice none 0 0) := by rw [HO.out.cell]; rfl
 have o4 : W6.cell? ⟨w.heap.size + 1 + 1, 4, none⟩ = some (.int .i64 P.miss) := by rw [HO.out.cell]; rfl
 have o5 : W6.cell? ⟨w.heap.size + 1 + 1, 5, none⟩ = some (.slice none 0 0) := by rw [HO.out.cell]; rfl
 have of0 := HO.out.frozen 0
 have of1 := HO.out.frozen 1
 have of2 := HO.out.frozen 2
 have of3 := HO.out.frozen 3
 have of4 := HO.out.frozen 4
 have of5 := HO.out.frozen 5
 go_upto_region 11 with (go_at_call 47
                         refine (HOS.out _ HB.out).mono ?_
                         rintro en w7 ⟨go, rfl, hge, hkx, hbx⟩
                         have HOO := hide hkx
                         have HOOE := hide (Nat.le_trans (show w.heap.size + 3 ≤ W6.heap.size by have := HO.out.lt; omega) hge)
                         have HOOG := hide hge
                         have HB := hide (HB.out.trans (hbx.mono HB.out.size))
                         have HP := hide (HP.out.below hbx HP.out.lt)
                         have HR := hide (HR.out.below hbx HR.out.lt)
                         have HO := hide (HO.out.below hbx HO.out.lt)
                         have HG := hide (HG.out.below hbx HG.out.lt)
                         have HV := hide (HV.out.below hbx HV.out.lt)
                         have HT := hide (HT.out.below hbx HT.out.lt)
                         have ob3 : w7.cell? ⟨w.heap.size + 1 + 1, 3, none⟩ = some (.slice none 0 0) := by rw [HO.out.cell]; rfl
                         have ofb := HO.out.frozen 3
                         clear hge hkx hbx)
 clear p0 p1 p2 p3 p4 p5 o0 o1 o2 o3 o4 o5 of0 of1 of2 of3 of4 of5
 clear ob3 ofb
 have hB : Below w.heap.size w (w7.setCell ⟨w.heap.size + 1 + 1, 3, none⟩ (.slice (some ⟨go, 0, none⟩) P.os.length (P.os.length + 5))) := HB.out.setCell (by show w.heap.size ≤ w.heap.size + 1 + 1; omega) _
 have hP : Blk (w7.setCell ⟨w.heap.size + 1 + 1, 3, none⟩ (.slice (some ⟨go, 0, none⟩) P.os.length (P.os.length + 5))) (w.heap.size) 34 #[.slice ga P.gh.length gc, .slice va P.vs.length vc, .slice ta P.ts.length tc, .slice oa P.os.length oc, .int .i64 P.miss, .slice ca P.cd.length cc] := HP.out.far (by show w.heap.size ≠ w.heap.size + 1 + 1; omega) _
 have hR : Blk (w7.setCell ⟨w.heap.size + 1 + 1, 3, none⟩ (.slice (some ⟨go, 0, none⟩) P.os.length (P.os.length + 5))) (w.heap.size + 1) 34 #[.slice none 0 0, .slice none 0 0, .slice none 0 0, .slice none 0 0, .int .i64 0, .slice none 0 0] := HR.out.far (by show w.heap.size + 1 ≠ w.heap.size + 1 + 1; omega) _
 have hO : Blk (w7.setCell ⟨w.heap.size + 1 + 1, 3, none⟩ (.slice (some ⟨go, 0, none⟩) P.os.length (P.os.length + 5))) (w.heap.size + 1 + 1) 34 #[.slice (some ⟨gg, 0, none⟩) P.gh.length (P.gh.length + 3), .slice (some ⟨gv, 0, none⟩) P.vs.length (P.vs.length + 3), .slice (some ⟨gt, 0, none⟩) P.ts.length (P.ts.length + 5), .slice (some ⟨go, 0, none⟩) P.os.length (P.os.length + 5), .int .i64 P.miss, .slice none 0 0] := HO.out.set_ 3 _
 have hHG : Blk (w7.setCell ⟨w.heap.size + 1 + 1, 3, none⟩ (.slice (some ⟨go, 0, none⟩) P.os.length (P.os.length + 5))) _ _ _ := HG.out.far (by show _ ≠ w.heap.size + 1 + 1; exact HG.out.ne_ HO.out (by decide)) _
 have hHV : Blk (w7.setCell ⟨w.heap.size + 1 + 1, 3, none⟩ (.slice (some ⟨go, 0, none⟩) P.os.length (P.os.length + 5))) _ _ _ := HV.out.far (by show _ ≠ w.heap.size + 1 + 1; exact HV.out.ne_ HO.out (by decide)) _
 have hHT : Blk (w7.setCell ⟨w.heap.size + 1 + 1, 3, none⟩ (.slice (some ⟨go, 0, none⟩) P.os.length (P.os.length + 5))) _ _ _ := HT.out.far (by show _ ≠ w.heap.size + 1 + 1; exact HT.out.ne_ HO.out (by decide)) _
 have hHOO : Blk (w7.setCell ⟨w.heap.size + 1 + 1, 3, none⟩ (.slice (some ⟨go, 0, none⟩) P.os.length (P.os.length + 5))) _ _ _ := HOO.out.far (by show _ ≠ w.heap.size + 1 + 1; exact HOO.out.ne_ HO.out (by decide)) _
 have HB := hide hB
 have HP := hide hP
 have HR := hide hR
 have HO := hide hO
 have HG := hide hHG
 have HV := hide hHV
 have HT := hide hHT
 have HOO := hide hHOO
 clear hB hP hR hO hHG hHV hHT hHOO
 generalize (w7.setCell ⟨w.heap.size + 1 + 1, 3, none⟩ (.slice (some ⟨go, 0, none⟩) P.os.length (P.os.length + 5))) = W7 at *
 have p0 : W7.cell? ⟨w.heap.size, 0, none⟩ = some (.slice ga P.gh.length gc) := by rw [HP.out.cell]; rfl
 have p1 : W7.cell? ⟨w.heap.size, 1, none⟩ = some (.slice va P.vs.length vc) := by rw [HP.out.cell]; rfl
 have p2 : W7.cell? ⟨w.heap.size, 2, none⟩ = some (.slice ta P.ts.length tc) := by rw [HP.out.cell]; rfl
 have p3 : W7.cell? ⟨w.heap.size, 3, none⟩ = some (.slice oa P.os.length oc) := by rw [HP.out.cell]; rfl
 have p4 : W7.cell? ⟨w.heap.size, 4, none⟩ = some (.int .i64 P.miss) := by rw [HP.out.cell]; rfl
 have p5 : W7.cell? ⟨w.heap.size, 5, none⟩ = some (.slice ca P.cd.length cc) := by rw [HP.out.cell]; rfl
 have o0 : W7.cell? ⟨w.heap.size + 1 + 1, 0, none⟩ = some (.slice (some ⟨gg, 0, none⟩) P.gh.length (P.gh.length + 3)) := by rw [HO.out.cell]; rfl
 have o1 : W7.cell? ⟨w.heap.size + 1 + 1, 1, none⟩ = some (.slice (some ⟨gv, 0, none⟩) P.vs.length (P.vs.length + 3)) := by rw [HO.out.cell]; rfl
 have o2 : W7.cell? ⟨w.heap.size + 1 + 1, 2, none⟩ = some (.slice (some ⟨gt, 0, none⟩) P.ts.length (P.ts.length + 5)) := by rw [HO.out.cell]; rfl
 have o3 : W7.cell? ⟨w.heap.size + 1 + 1, 3, none⟩ = some (.slice (some ⟨go, 0, none⟩) P.os.length (P.os.length + 5)) := by rw [HO.out.cell]; rfl
 have o4 : W7.cell? ⟨w.heap.size + 1 + 1, 4, none⟩ = some (.int .i64 P.miss) := by rw [HO.out.cell]; rfl
 have o5 : W7.cell? ⟨w.heap.size + 1 + 1, 5, none⟩ = some (.slice none 0 0) := by rw [HO.out.cell]; rfl
 have of0 := HO.out.frozen 0
 have of1 := HO.out.frozen 1
 have of2 := HO.out.frozen 2
 have of3 := HO.out.frozen 3
 have of4 := HO.out.frozen 4
 have of5 := HO.out.frozen 5
 have pa0 : ∀ o, (W7.alloc o).cell? ⟨w.heap.size, 0, none⟩ = some (.slice ga P.gh.length gc) := fun o => (World.cell?_alloc_lt W7 o _ (by exact HP.out.lt)).trans p0
 have pa1 : ∀ o, (W7.alloc o).cell? ⟨w.heap.size, 1, none⟩ = some (.slice va P.vs.length vc) := fun o => (World.cell?_alloc_lt W7 o _ (by exact HP.out.lt)).trans p1
 have pa2 : ∀ o, (W7.alloc o).cell? ⟨w.heap.size, 2, none⟩ = some (.slice ta P.ts.length tc) := fun o => (World.cell?_alloc_lt W7 o _ (by exact HP.out.lt)).trans p2
 have pa3 : ∀ o, (W7.alloc o).cell? ⟨w.heap.size, 3, none⟩ = some (.slice oa P.os.length oc) := fun o => (World.cell?_alloc_lt W7 o _ (by exact HP.out.lt)).trans p3
 have pa4 : ∀ o, (W7.alloc o).cell? ⟨w.heap.size, 4, none⟩ = some (.int .i64 P.miss) := fun o => (World.cell?_alloc_lt W7 o _ (by exact HP.out.lt)).trans p4
 have pa5 : ∀ o, (W7.alloc o).cell? ⟨w.heap.size, 5, none⟩ = some (.slice ca P.cd.length cc) := fun o => (World.cell?_alloc_lt W7 o _ (by exact HP.out.lt)).trans p5
 go_wp2_with (with_reducible refine wpList_copyN rfl (.tmp 60) (.tmp 62) 32 32 rfl 56 Try.underlying32 5 (by kernel_rfl) W7.heap.size (P.cd.length + 9) (P.cd.length + 9) ca P.cd.length cc rfl rfl (by omega) (List.replicate ((P.cd.length + 9) * 5) (.int .i64 0)) 56 (Blk.new W7 56 _) (codeV P.cd) (codeV_len _) ?_ ?_ ?_ ?_)
 · exact HSC.out.copy (HB.out.alloc HB.out.size _)
 · rw [codeV_len]; first | (simp; done) | (simp; omega)
 · exact code_one _
 intro w8 hk2 ho2
 have e1 : codeV P.cd ++ List.replicate ((P.cd.length + 9) * 5 - (codeV P.cd).length) (.int .i64 0) = codeV (P.cd ++ marksJ P.cd.length 0) := by
   rw [codeV_len, show (P.cd.length + 9) * 5 - P.cd.length * 5 = 45 by omega, codeV_append]; rfl
 have hw1 : w.heap.size + 3 ≤ W7.heap.size := by have := HO.out.lt; omega
 have hb2 : Below W7.heap.size W7 w8 := ((Below.refl W7.heap.size W7).alloc (Nat.le_refl _) _).trans (ho2.below (fun k e => Nat.le_of_eq e.symm) (by simp))
 have hg : Blk w8 W7.heap.size 56 (codeV (P.cd ++ marksJ P.cd.length 0)).toArray := by
   have := hk2
   rw [e1] at this
   exact this
 have HB := hide (HB.out.trans (hb2.mono HB.out.size))
 have HCD := hide hg
 clear p0 pa0 p1 pa1 p2 pa2 p3 pa3 p4 pa4 p5 pa5 o0 o1 o2 o3 o4 o5 of0 of1 of2 of3 of4 of5
 have HP := hide (HP.out.below hb2 HP.out.lt)
 have HR := hide (HR.out.below hb2 HR.out.lt)
 have HO := hide (HO.out.below hb2 HO.out.lt)
 have HG := hide (HG.out.below hb2 HG.out.lt)
 have HV := hide (HV.out.below hb2 HV.out.lt)
 have HT := hide (HT.out.below hb2 HT.out.lt)
 have HOO := hide (HOO.out.below hb2 HOO.out.lt)
 skip
 generalize W7.heap.size = gcd at *
 have HCDE := hide hw1
 clear hk2 ho2 hb2 hg e1 hw1
 have p0 : w8.cell? ⟨w.heap.size, 0, none⟩ = some (.slice ga P.gh.length gc) := by rw [HP.out.cell]; rfl
 have p1 : w8.cell? ⟨w.heap.size, 1, none⟩ = some (.slice va P.vs.length vc) := by rw [HP.out.cell]; rfl
 have p2 : w8.cell? ⟨w.heap.size, 2, none⟩ = some (.slice ta P.ts.length tc) := by rw [HP.out.cell]; rfl
 have p3 : w8.cell? ⟨w.heap.size, 3, none⟩ = some (.slice oa P.os.length oc) := by rw [HP.out.cell]; rfl
 have p4 : w8.cell? ⟨w.heap.size, 4, none⟩ = some (.int .i64 P.miss) := by rw [HP.out.cell]; rfl
 have p5 : w8.cell? ⟨w.heap.size, 5, none⟩ = some (.slice ca P.cd.length cc) := by rw [HP.out.cell]; rfl
 have o0 : w8.cell? ⟨w.heap.size + 1 + 1, 0, none⟩ = some (.slice (some ⟨gg, 0, none⟩) P.gh.length (P.gh.length + 3)) := by rw [HO.out.cell]; rfl
 have o1 : w8.cell? ⟨w.heap.size + 1 + 1, 1, none⟩ = some (.slice (some ⟨gv, 0, none⟩) P.vs.length (P.vs.length + 3)) := by rw [HO.out.cell]; rfl
 have o2 : w8.cell? ⟨w.heap.size + 1 + 1, 2, none⟩ = some (.slice (some ⟨gt, 0, none⟩) P.ts.length (P.ts.length + 5)) := by rw [HO.out.cell]; rfl
 have o3 : w8.cell? ⟨w.heap.size + 1 + 1, 3, none⟩ = some (.slice (some ⟨go, 0, none⟩) P.os.length (P.os.length + 5)) := by rw [HO.out.cell]; rfl
 have o4 : w8.cell? ⟨w.heap.size + 1 + 1, 4, none⟩ = some (.int .i64 P.miss) := by rw [HO.out.cell]; rfl
 have o5 : w8.cell? ⟨w.heap.size + 1 + 1, 5, none⟩ = some (.slice none 0 0) := by rw [HO.out.cell]; rfl
 have of0 := HO.out.frozen 0
 have of1 := HO.out.frozen 1
 have of2 := HO.out.frozen 2
 have of3 := HO.out.frozen 3
 have of4 := HO.out.frozen 4
 have of5 := HO.out.frozen 5
 go_wp2_with fail
 clear p0 p1 p2 p3 p4 p5 o0 o1 o2 o3 o4 o5 of0 of1 of2 of3 of4 of5
 have HCD8 := HCD
 go_loopw [7] (fun tx W => ∃ j : Nat, tx = .int .i64 ((P.cd.length : Int) + (j : Int)) ∧ j ≤ 9 ∧ Blk W gcd 56 (codeV (P.cd ++ marksJ P.cd.length j)).toArray ∧ Only (fun k => k = gcd) w8 W) (fun tx _ => P.cd.length + 9 - (intOf tx).toNat)
 case atStart => exact ⟨0, by simp, by omega, HCD.out, Only.refl _ _⟩
 case round =>
   obtain ⟨j, rfl, hj, hk, hon⟩ := hrel
   rename World => W
   have v1 := IntWalk.i64_in ((P.cd.length : Int) + (j : Int) + 1) (by omega)
   have HK := hide hk
   have HON := hide hon
   by_cases hlt : j < 9
   · have hlt2 : (P.cd.length : Int) + (j : Int) < (P.cd.length : Int) + 9 := by omega
     have hlt3 : P.cd.length + j < P.cd.length + 9 := by omega
     have hsz : (codeV (P.cd ++ marksJ P.cd.length j)).length = (P.cd.length + 9) * 5 := by rw [codeV_len]; simp [marksJ]
     obtain ⟨x0, g0⟩ : ∃ x, W.cell? ⟨gcd, (P.cd.length + j) * 5, none⟩ = some x := ⟨_, by rw [hk.cell]; exact Array.getElem?_eq_getElem (by simp only [List.size_toArray]; rw [hsz]; omega)⟩
     obtain ⟨x1, g1⟩ : ∃ x, W.cell? ⟨gcd, (P.cd.length + j) * 5 + 1, none⟩ = some x := ⟨_, by rw [hk.cell]; exact Array.getElem?_eq_getElem (by simp only [List.size_toArray]; rw [hsz]; omega)⟩
     obtain ⟨x2, g2⟩ : ∃ x, W.cell? ⟨gcd, (P.cd.length + j) * 5 + 2, none⟩ = some x := ⟨_, by rw [hk.cell]; exact Array.getElem?_eq_getElem (by simp only [List.size_toArray]; rw [hsz]; omega)⟩
     obtain ⟨x3, g3⟩ : ∃ x, W.cell? ⟨gcd, (P.cd.length + j) * 5 + 3, none⟩ = some x := ⟨_, by rw [hk.cell]; exact Array.getElem?_eq_getElem (by simp only [List.size_toArray]; rw [hsz]; omega)⟩
     obtain ⟨x4, g4⟩ : ∃ x, W.cell? ⟨gcd, (P.cd.length + j) * 5 + 4, none⟩ = some x := ⟨_, by rw [hk.cell]; exact Array.getElem?_eq_getElem (by simp only [List.size_toArray]; rw [hsz]; omega)⟩
     have gf0 := hk.frozen ((P.cd.length + j) * 5)
     have gf1 := hk.frozen ((P.cd.length + j) * 5 + 1)
     have gf2 := hk.frozen ((P.cd.length + j) * 5 + 2)
     have gf3 := hk.frozen ((P.cd.length + j) * 5 + 3)
     have gf4 := hk.frozen ((P.cd.length + j) * 5 + 4)
     clear hk hon hsz
     go_wp2_with fail
     go_roundw
     case rel =>
       refine ⟨j + 1, by go_num, by omega, ?_, ((((HON.out.setCell (.inl rfl) _).setCell (.inl rfl) _).setCell (.inl rfl) _).setCell (.inl rfl) _).setCell (.inl rfl) _⟩
       have := ((((HK.out.set_ ((P.cd.length + j) * 5) (.int .i64 (-9))).set_ ((P.cd.length + j) * 5 + 1) (.int .i64 ((P.cd.length : Int) + (j : Int)))).set_ ((P.cd.length + j) * 5 + 2) (.int .i64 0)).set_ ((P.cd.length + j) * 5 + 3) (.int .i64 0)).set_ ((P.cd.length + j) * 5 + 4) (.int .i64 0)
       rw [code_set (x := ⟨-9, (P.cd.length : Int) + (j : Int), 0, 0, 0⟩) (by simp [marksJ]; omega), marksJ_step P.cd j (by omega)] at this
       exact this
     case measure => simp [intOf]; omega
   · have hj9 : j = 9 := by omega
     have hno : ¬ (P.cd.length : Int) + (j : Int) < (P.cd.length : Int) + 9 := by omega
     rw [hj9, marksJ_all] at hk
     have HCD := hide hk
     have hb8 : Below w.heap.size w W := below_only HB.out hon (by have := HCDE.out; omega) HB.out.size
     have HB := hide hb8
     skip
     have hpg : w.heap.size ≠ gcd := by have := HCDE.out; omega
     have hrg : w.heap.size + 1 ≠ gcd := by have := HCDE.out; omega
     have hog : w.heap.size + 1 + 1 ≠ gcd := by have := HCDE.out; omega
     have HP := hide (HP.out.only hon hpg)
     have HR := hide (HR.out.only hon hrg)
     have HO := hide (HO.out.only hon hog)
     have HG := hide (HG.out.only hon (fun e => HG.out.ne_ HCD8.out (by decide) e))
     have HV := hide (HV.out.only hon (fun e => HV.out.ne_ HCD8.out (by decide) e))
     have HT := hide (HT.out.only hon (fun e => HT.out.ne_ HCD8.out (by decide) e))
     have HOO := hide (HOO.out.only hon (fun e => HOO.out.ne_ HCD8.out (by decide) e))
     clear hk hon hb8 hpg hrg hog hj9 hlt hj HK HON HCD8
     have p0 : W.cell? ⟨w.heap.size, 0, none⟩ = some (.slice ga P.gh.length gc) := by rw [HP.out.cell]; rfl
     have p1 : W.cell? ⟨w.heap.size, 1, none⟩ = some (.slice va P.vs.length vc) := by rw [HP.out.cell]; rfl
     have p2 : W.cell? ⟨w.heap.size, 2, none⟩ = some (.slice ta P.ts.length tc) := by rw [HP.out.cell]; rfl
     have p3 : W.cell? ⟨w.heap.size, 3, none⟩ = some (.slice oa P.os.length oc) := by rw [HP.out.cell]; rfl
     have p4 : W.cell? ⟨w.heap.size, 4, none⟩ = some (.int .i64 P.miss) := by rw [HP.out.cell]; rfl
     have p5 : W.cell? ⟨w.heap.size, 5, none⟩ = some (.slice ca P.cd.length cc) := by rw [HP.out.cell]; rfl
     have o0 : W.cell? ⟨w.heap.size + 1 + 1, 0, none⟩ = some (.slice (some ⟨gg, 0, none⟩) P.gh.length (P.gh.length + 3)) := by rw [HO.out.cell]; rfl
     have o1 : W.cell? ⟨w.heap.size + 1 + 1, 1, none⟩ = some (.slice (some ⟨gv, 0, none⟩) P.vs.length (P.vs.length + 3)) := by rw [HO.out.cell]; rfl
     have o2 : W.cell? ⟨w.heap.size + 1 + 1, 2, none⟩ = some (.slice (some ⟨gt, 0, none⟩) P.ts.length (P.ts.length + 5)) := by rw [HO.out.cell]; rfl
     have o3 : W.cell? ⟨w.heap.size + 1 + 1, 3, none⟩ = some (.slice (some ⟨go, 0, none⟩) P.os.length (P.os.length + 5)) := by rw [HO.out.cell]; rfl
     have o4 : W.cell? ⟨w.heap.size + 1 + 1, 4, none⟩ = some (.int .i64 P.miss) := by rw [HO.out.cell]; rfl
     have o5 : W.cell? ⟨w.heap.size + 1 + 1, 5, none⟩ = some (.slice none 0 0) := by rw [HO.out.cell]; rfl
     have of0 := HO.out.frozen 0
     have of1 := HO.out.frozen 1
     have of2 := HO.out.frozen 2
     have of3 := HO.out.frozen 3
     have of4 := HO.out.frozen 4
     have of5 := HO.out.frozen 5
     have hle := Nat.le_add_right P.cd.length 9
     go_upto_region 18 with fail
     clear hle
     clear p0 p1 p2 p3 p4 p5 o0 o1 o2 o3 o4 o5 of0 of1 of2 of3 of4 of5
     have hB : Below w.heap.size w (W.setCell ⟨w.heap.size + 1 + 1, 5, none⟩ (.slice (some ⟨gcd, 0, none⟩) P.cd.length (P.cd.length + 9))) := HB.out.setCell (by show w.heap.size ≤ w.heap.size + 1 + 1; omega) _
     have hP : Blk (W.setCell ⟨w.heap.size + 1 + 1, 5, none⟩ (.slice (some ⟨gcd, 0, none⟩) P.cd.length (P.cd.length + 9))) (w.heap.size) 34 #[.slice ga P.gh.length gc, .slice va P.vs.length vc, .slice ta P.ts.length tc, .slice oa P.os.length oc, .int .i64 P.miss, .slice ca P.cd.length cc] := HP.out.far (by show w.heap.size ≠ w.heap.size + 1 + 1; omega) _
     have hR : Blk (W.setCell ⟨w.heap.size + 1 + 1, 5, none⟩ (.slice (some ⟨gcd, 0, none⟩) P.cd.length (P.cd.length + 9))) (w.heap.size + 1) 34 #[.slice none 0 0, .slice none 0 0, .slice none 0 0, .slice none 0 0, .int .i64 0, .slice none 0 0] := HR.out.far (by show w.heap.size + 1 ≠ w.heap.size + 1 + 1; omega) _
     have hO : Blk (W.setCell ⟨w.heap.size + 1 + 1, 5, none⟩ (.slice (some ⟨gcd, 0, none⟩) P.cd.length (P.cd.length + 9))) (w.heap.size + 1 + 1) 34 #[.slice (some ⟨gg, 0, none⟩) P.gh.length (P.gh.length + 3), .slice (some ⟨gv, 0, none⟩) P.vs.length (P.vs.length + 3), .slice (some ⟨gt, 0, none⟩) P.ts.length (P.ts.length + 5), .slice (some ⟨go, 0, none⟩) P.os.length (P.os.length + 5), .int .i64 P.miss, .slice (some ⟨gcd, 0, none⟩) P.cd.length (P.cd.length + 9)] := HO.out.set_ 5 _
     have hHG : Blk (W.setCell ⟨w.heap.size + 1 + 1, 5, none⟩ (.slice (some ⟨gcd, 0, none⟩) P.cd.length (P.cd.length + 9))) _ _ _ := HG.out.far (by show _ ≠ w.heap.size + 1 + 1; exact HG.out.ne_ HO.out (by decide)) _
     have hHV : Blk (W.setCell ⟨w.heap.size + 1 + 1, 5, none⟩ (.slice (some ⟨gcd, 0, none⟩) P.cd.length (P.cd.length + 9))) _ _ _ := HV.out.far (by show _ ≠ w.heap.size + 1 + 1; exact HV.out.ne_ HO.out (by decide)) _
     have hHT : Blk (W.setCell ⟨w.heap.size + 1 + 1, 5, none⟩ (.slice (some ⟨gcd, 0, none⟩) P.cd.length (P.cd.length + 9))) _ _ _ := HT.out.far (by show _ ≠ w.heap.size + 1 + 1; exact HT.out.ne_ HO.out (by decide)) _
     have hHOO : Blk (W.setCell ⟨w.heap.size + 1 + 1, 5, none⟩ (.slice (some ⟨gcd, 0, none⟩) P.cd.length (P.cd.length + 9))) _ _ _ := HOO.out.far (by show _ ≠ w.heap.size + 1 + 1; exact HOO.out.ne_ HO.out (by decide)) _
     have hHCD : Blk (W.setCell ⟨w.heap.size + 1 + 1, 5, none⟩ (.slice (some ⟨gcd, 0, none⟩) P.cd.length (P.cd.length + 9))) _ _ _ := HCD.out.far (by show _ ≠ w.heap.size + 1 + 1; exact HCD.out.ne_ HO.out (by decide)) _
     have HB := hide hB
     have HP := hide hP
     have HR := hide hR
     have HO := hide hO
     have HG := hide hHG
     have HV := hide hHV
     have HT := hide hHT
     have HOO := hide hHOO
     have HCD := hide hHCD
     clear hB hP hR hO hHG hHV hHT hHOO hHCD
     generalize (W.setCell ⟨w.heap.size + 1 + 1, 5, none⟩ (.slice (some ⟨gcd, 0, none⟩) P.cd.length (P.cd.length + 9))) = W9 at *
     have hlent : Lent W9 w.heap.size gg gv gt go gcd P := ⟨HG.out, HV.out, HT.out, HOO.out, HCD.out, ⟨by have := HGE.out; omega, by have := HVE.out; omega, by have := HTE.out; omega, by have := HOOE.out; omega, by have := HCDE.out; omega⟩, by have := HT6.out; have := HOOG.out; omega⟩
     have HL := hide hlent
     clear hlent
     have p0 : W9.cell? ⟨w.heap.size, 0, none⟩ = some (.slice ga P.gh.length gc) := by rw [HP.out.cell]; rfl
     have p1 : W9.cell? ⟨w.heap.size, 1, none⟩ = some (.slice va P.vs.length vc) := by rw [HP.out.cell]; rfl
     have p2 : W9.cell? ⟨w.heap.size, 2, none⟩ = some (.slice ta P.ts.length tc) := by rw [HP.out.cell]; rfl
     have p3 : W9.cell? ⟨w.heap.size, 3, none⟩ = some (.slice oa P.os.length oc) := by rw [HP.out.cell]; rfl
     have p4 : W9.cell? ⟨w.heap.size, 4, none⟩ = some (.int .i64 P.miss) := by rw [HP.out.cell]; rfl
     have p5 : W9.cell? ⟨w.heap.size, 5, none⟩ = some (.slice ca P.cd.length cc) := by rw [HP.out.cell]; rfl
     have o0 : W9.cell? ⟨w.heap.size + 1 + 1, 0, none⟩ = some (.slice (some ⟨gg, 0, none⟩) P.gh.length (P.gh.length + 3)) := by rw [HO.out.cell]; rfl
     have o1 : W9.cell? ⟨w.heap.size + 1 + 1, 1, none⟩ = some (.slice (some ⟨gv, 0, none⟩) P.vs.length (P.vs.length + 3)) := by rw [HO.out.cell]; rfl
     have o2 : W9.cell? ⟨w.heap.size + 1 + 1, 2, none⟩ = some (.slice (some ⟨gt, 0, none⟩) P.ts.length (P.ts.length + 5)) := by rw [HO.out.cell]; rfl
     have o3 : W9.cell? ⟨w.heap.size + 1 + 1, 3, none⟩ = some (.slice (some ⟨go, 0, none⟩) P.os.length (P.os.length + 5)) := by rw [HO.out.cell]; rfl
     have o4 : W9.cell? ⟨w.heap.size + 1 + 1, 4, none⟩ = some (.int .i64 P.miss) := by rw [HO.out.cell]; rfl
     have o5 : W9.cell? ⟨w.heap.size + 1 + 1, 5, none⟩ = some (.slice (some ⟨gcd, 0, none⟩) P.cd.length (P.cd.length + 9)) := by rw [HO.out.cell]; rfl
     have of0 := HO.out.frozen 0
     have of1 := HO.out.frozen 1
     have of2 := HO.out.frozen 2
     have of3 := HO.out.frozen 3
     have of4 := HO.out.frozen 4
     have of5 := HO.out.frozen 5
     have r0 : W9.cell? ⟨w.heap.size + 1, 0, none⟩ = some (.slice none 0 0) := by rw [HR.out.cell]; rfl
     have r1 : W9.cell? ⟨w.heap.size + 1, 1, none⟩ = some (.slice none 0 0) := by rw [HR.out.cell]; rfl
     have r2 : W9.cell? ⟨w.heap.size + 1, 2, none⟩ = some (.slice none 0 0) := by rw [HR.out.cell]; rfl
     have r3 : W9.cell? ⟨w.heap.size + 1, 3, none⟩ = some (.slice none 0 0) := by rw [HR.out.cell]; rfl
     have r4 : W9.cell? ⟨w.heap.size + 1, 4, none⟩ = some (.int .i64 0) := by rw [HR.out.cell]; rfl
     have r5 : W9.cell? ⟨w.heap.size + 1, 5, none⟩ = some (.slice none 0 0) := by rw [HR.out.cell]; rfl
     have rf0 := HR.out.frozen 0
     have rf1 := HR.out.frozen 1
     have rf2 := HR.out.frozen 2
     have rf3 := HR.out.frozen 3
     have rf4 := HR.out.frozen 4
     have rf5 := HR.out.frozen 5
     go_wp2_with fail
     have hkW : Blk ((((((W9.setCell ⟨w.heap.size + 1, 0, none⟩ (.slice (some ⟨gg, 0, none⟩) P.gh.length (P.gh.length + 3))).setCell ⟨w.heap.size + 1, 1, none⟩ (.slice (some ⟨gv, 0, none⟩) P.vs.length (P.vs.length + 3))).setCell ⟨w.heap.size + 1, 2, none⟩ (.slice (some ⟨gt, 0, none⟩) P.ts.length (P.ts.length + 5))).setCell ⟨w.heap.size + 1, 3, none⟩ (.slice (some ⟨go, 0, none⟩) P.os.length (P.os.length + 5))).setCell ⟨w.heap.size + 1, 4, none⟩ (.int .i64 P.miss)).setCell ⟨w.heap.size + 1, 5, none⟩ (.slice (some ⟨gcd, 0, none⟩) P.cd.length (P.cd.length + 9))) (w.heap.size + 1) 34 #[.slice (some ⟨gg, 0, none⟩) P.gh.length (P.gh.length + 3), .slice (some ⟨gv, 0, none⟩) P.vs.length (P.vs.length + 3), .slice (some ⟨gt, 0, none⟩) P.ts.length (P.ts.length + 5), .slice (some ⟨go, 0, none⟩) P.os.length (P.os.length + 5), .int .i64 P.miss, .slice (some ⟨gcd, 0, none⟩) P.cd.length (P.cd.length + 9)] := (((((HR.out.set_ 0 _).set_ 1 _).set_ 2 _).set_ 3 _).set_ 4 _).set_ 5 _
     have hoW : Only (fun x => x = w.heap.size + 1) W9 ((((((W9.setCell ⟨w.heap.size + 1, 0, none⟩ (.slice (some ⟨gg, 0, none⟩) P.gh.length (P.gh.length + 3))).setCell ⟨w.heap.size + 1, 1, none⟩ (.slice (some ⟨gv, 0, none⟩) P.vs.length (P.vs.length + 3))).setCell ⟨w.heap.size + 1, 2, none⟩ (.slice (some ⟨gt, 0, none⟩) P.ts.length (P.ts.length + 5))).setCell ⟨w.heap.size + 1, 3, none⟩ (.slice (some ⟨go, 0, none⟩) P.os.length (P.os.length + 5))).setCell ⟨w.heap.size + 1, 4, none⟩ (.int .i64 P.miss)).setCell ⟨w.heap.size + 1, 5, none⟩ (.slice (some ⟨gcd, 0, none⟩) P.cd.length (P.cd.length + 9))) := ((((((Only.refl (fun x => x = w.heap.size + 1) W9).setCell (.inl rfl) _).setCell (.inl rfl) _).setCell (.inl rfl) _).setCell (.inl rfl) _).setCell (.inl rfl) _).setCell (.inl rfl) _
     have hbW : Below w.heap.size w ((((((W9.setCell ⟨w.heap.size + 1, 0, none⟩ (.slice (some ⟨gg, 0, none⟩) P.gh.length (P.gh.length + 3))).setCell ⟨w.heap.size + 1, 1, none⟩ (.slice (some ⟨gv, 0, none⟩) P.vs.length (P.vs.length + 3))).setCell ⟨w.heap.size + 1, 2, none⟩ (.slice (some ⟨gt, 0, none⟩) P.ts.length (P.ts.length + 5))).setCell ⟨w.heap.size + 1, 3, none⟩ (.slice (some ⟨go, 0, none⟩) P.os.length (P.os.length + 5))).setCell ⟨w.heap.size + 1, 4, none⟩ (.int .i64 P.miss)).setCell ⟨w.heap.size + 1, 5, none⟩ (.slice (some ⟨gcd, 0, none⟩) P.cd.length (P.cd.length + 9))) := below_only HB.out hoW (by omega) HB.out.size
     generalize ((((((W9.setCell ⟨w.heap.size + 1, 0, none⟩ (.slice (some ⟨gg, 0, none⟩) P.gh.length (P.gh.length + 3))).setCell ⟨w.heap.size + 1, 1, none⟩ (.slice (some ⟨gv, 0, none⟩) P.vs.length (P.vs.length + 3))).setCell ⟨w.heap.size + 1, 2, none⟩ (.slice (some ⟨gt, 0, none⟩) P.ts.length (P.ts.length + 5))).setCell ⟨w.heap.size + 1, 3, none⟩ (.slice (some ⟨go, 0, none⟩) P.os.length (P.os.length + 5))).setCell ⟨w.heap.size + 1, 4, none⟩ (.int .i64 P.miss)).setCell ⟨w.heap.size + 1, 5, none⟩ (.slice (some ⟨gcd, 0, none⟩) P.cd.length (P.cd.length + 9))) = WF at *
     have z0 : WF.cell? ⟨w.heap.size + 1, 0, none⟩ = some (.slice (some ⟨gg, 0, none⟩) P.gh.length (P.gh.length + 3)) := by rw [hkW.cell]; rfl
     have z1 : WF.cell? ⟨w.heap.size + 1, 1, none⟩ = some (.slice (some ⟨gv, 0, none⟩) P.vs.length (P.vs.length + 3)) := by rw [hkW.cell]; rfl
     have z2 : WF.cell? ⟨w.heap.size + 1, 2, none⟩ = some (.slice (some ⟨gt, 0, none⟩) P.ts.length (P.ts.length + 5)) := by rw [hkW.cell]; rfl
     have z3 : WF.cell? ⟨w.heap.size + 1, 3, none⟩ = some (.slice (some ⟨go, 0, none⟩) P.os.length (P.os.length + 5)) := by rw [hkW.cell]; rfl
     have z4 : WF.cell? ⟨w.heap.size + 1, 4, none⟩ = some (.int .i64 P.miss) := by rw [hkW.cell]; rfl
     have z5 : WF.cell? ⟨w.heap.size + 1, 5, none⟩ = some (.slice (some ⟨gcd, 0, none⟩) P.cd.length (P.cd.length + 9)) := by rw [hkW.cell]; rfl
     refine bodyPost_ret (v := .agg #[.slice (some ⟨gg, 0, none⟩) P.gh.length (P.gh.length + 3), .slice (some ⟨gv, 0, none⟩) P.vs.length (P.vs.length + 3), .slice (some ⟨gt, 0, none⟩) P.ts.length (P.ts.length + 5), .slice (some ⟨go, 0, none⟩) P.os.length (P.os.length + 5), .int .i64 P.miss, .slice (some ⟨gcd, 0, none⟩) P.cd.length (P.cd.length + 9)]) ?_ rfl ⟨gg, gv, gt, go, gcd, rfl, HL.out.far28 HR.out hoW, hbW⟩
     simp only [results, hres]
     go_simp
end Go.Proofs.Ytdpokdcendgfeaa
namespace Go.Proofs.Ytdpokdcendgfeaa
open Go.RowKit
theorem src_atL {w : World} {oa : Option Addr} {n : Nat} {cs : List Value} (h : Src w oa n cs) (h0 : 0 < n) : ∃ ad, oa = some ad ∧ ad.block < w.heap.size ∧ ∀ W, Below w.heap.size w W → ∀ j v, cs[j]? = some v → W.cell? (ad.add j) = some v := by
 obtain ⟨ad, e, hl, hx⟩ := h h0
 exact ⟨ad, e, hl, fun W hb j v hj => (hb.cell (by rw [add_block]; exact hl)).trans (hx j v hj)⟩
set_option maxRecDepth 100000 in
theorem sameInts_i (w : World) (oa ob : Option Addr) (n ca cb : Nat) (l : List Int) (ha : Src w oa n (ints l)) (hb : Src w ob n (ints l)) (hn : l.length = n) (hm : n ≤ maxLen) :
   Calls Try.prog 21 #[.slice oa n ca, .slice ob n cb] w fun en w' => en = .returned (.bool true) ∧ Below w.heap.size w w' := by
 have HA := hide ha
 have HB := hide hb
 unfold maxLen at hm
 clear ha hb
 go_enter Try.func21, Try.ntmps21
 go_wp2_with fail
 go_loopw [5] (fun tx W => ∃ i : Nat, tx = .int .i64 (i : Int) ∧ i ≤ n ∧ Below w.heap.size w W) (fun tx _ => n - (intOf tx).toNat)
 case atStart => exact ⟨0, rfl, Nat.zero_le _, Below.refl _ _⟩
 case round =>
   obtain ⟨i, rfl, hi, hW⟩ := hrel
   rename World => W
   have HW := hide hW
   clear hW
   by_cases hlt : i < n
   · obtain ⟨x, hx⟩ : ∃ x, l[i]? = some x := ⟨_, List.getElem?_eq_getElem (by omega)⟩
     obtain ⟨ad, rfl, hab, hcl⟩ := src_atL HA.out (by omega)
     obtain ⟨bd, rfl, hbb, hdl⟩ := src_atL HB.out (by omega)
     have c0 := hcl W HW.out i (.int .i64 x) (by simp [ints, hx])
     have d0 := hdl W HW.out i (.int .i64 x) (by simp [ints, hx])
     have u1 := IntWalk.i64_in ((i : Int) + 1) (by omega)
     have hI : (i : Int) < (n : Int) := by omega
     have HN := hide hn
     clear hcl hdl hab hbb hx hn
     go_wp2_with fail
     go_quiet (fail)
     all_goals
       go_wp2_with fail
       go_roundw
       case rel => exact ⟨i + 1, by go_num, by omega, below_drewN HW.out _⟩
       case measure =>
         simp only [intOf]
         omega
   · have hno : ¬ (i : Int) < (n : Int) := by omega
     have HN := hide hn
     clear hlt hi hn
     go_wp2_with fail
     go_ret
     exact ⟨rfl, HW.out⟩
end Go.Proofs.Ytdpokdcendgfeaa
namespace Go.Proofs.Ytdpokdcendgfeaa
open Go.RowKit
set_option maxRecDepth 100000 in
theorem sameProgram_i (w : World) (p q : PV) (P : Prg) (hp : AMem w p P) (hq : AMem w q P) :
   Calls Try.prog 18 #[p.val, q.val] w fun en w' => en = .returned (.bool true) ∧ Below w.heap.size w w' := by
 have HP := hide hp
 have HQ := hide hq
 have lens := hp.lens
 obtain ⟨e1, e2, e3, e4, e5, e6, _, _, _, _, _, _⟩ := hp
 obtain ⟨f1, f2, f3, f4, f5, f6, _, _, _, _, _, _⟩ := hq
 obtain ⟨xga, xva, xta, xoa, xca, xgl, xgc, xvl, xvc, xtl, xtc, xol, xoc, xcl, xcc, xmiss⟩ := p
 obtain ⟨yga, yva, yta, yoa, yca, ygl, ygc, yvl, yvc, ytl, ytc, yol, yoc, ycl, ycc, ymiss⟩ := q
 simp only at e1 e2 e3 e4 e5 e6 f1 f2 f3 f4 f5 f6
 subst e1 e2 e3 e4 e5 e6 f1 f2 f3 f4 f5 f6
 obtain ⟨l1, l2, l3, l4, l5⟩ := lens
 have HT := fun (W : World) (hb : Below w.heap.size w W) => hide (sameInts_i W xta yta P.ts.length xtc ytc P.ts (HP.out.t.below hb) (HQ.out.t.below hb) rfl l3)
 have HO := fun (W : World) (hb : Below w.heap.size w W) => hide (sameInts_i W xoa yoa P.os.length xoc yoc P.os (HP.out.o.below hb) (HQ.out.o.below hb) rfl l4)
 unfold maxLen at l1 l2 l3 l4 l5
 simp only [PV.val]
 have hB0 : Below w.heap.size w ((w.alloc (.cells #[.slice xga P.gh.length xgc, .slice xva P.vs.length xvc, .slice xta P.ts.length xtc, .slice xoa P.os.length xoc, .int .i64 P.miss, .slice xca P.cd.length xcc] 34)).alloc (.cells #[.slice yga P.gh.length ygc, .slice yva P.vs.length yvc, .slice yta P.ts.length ytc, .slice yoa P.os.length yoc, .int .i64 P.miss, .slice yca P.cd.length ycc] 34)) := ((Below.refl _ w).alloc (Nat.le_refl _) _).alloc (by simp) _
 have HKA := hide ((Blk.new w 34 #[.slice xga P.gh.length xgc, .slice xva P.vs.length xvc, .slice xta P.ts.length xtc, .slice xoa P.os.length xoc, .int .i64 P.miss, .slice xca P.cd.length xcc]).alloc (.cells #[.slice yga P.gh.length ygc, .slice yva P.vs.length yvc, .slice yta P.ts.length ytc, .slice yoa P.os.length yoc, .int .i64 P.miss, .slice yca P.cd.length ycc] 34))
 have HKB : Hid (Blk ((w.alloc (.cells #[.slice xga P.gh.length xgc, .slice xva P.vs.length xvc, .slice xta P.ts.length xtc, .slice xoa P.os.length xoc, .int .i64 P.miss, .slice xca P.cd.length xcc] 34)).alloc (.cells #[.slice yga P.gh.length ygc, .slice yva P.vs.length yvc, .slice yta P.ts.length ytc, .slice yoa P.os.length yoc, .int .i64 P.miss, .slice yca P.cd.length ycc] 34)) (w.heap.size + 1) 34 #[.slice yga P.gh.length ygc, .slice yva P.vs.length yvc, .slice yta P.ts.length ytc, .slice yoa P.os.length yoc, .int .i64 P.miss, .slice yca P.cd.length ycc]) := hide (by
   have := Blk.new (w.alloc (.cells #[.slice xga P.gh.length xgc, .slice xva P.vs.length xvc, .slice xta P.ts.length xtc, .slice xoa P.os.length xoc, .int .i64 P.miss, .slice xca P.cd.length xcc] 34)) 34 #[.slice yga P.gh.length ygc, .slice yva P.vs.length yvc, .slice yta P.ts.length ytc, .slice yoa P.os.length yoc, .int .i64 P.miss, .slice yca P.cd.length ycc]
   simpa using this)
 have HB0 := hide hB0
 clear hB0
 go_enter Try.func18, Try.ntmps18
 go_wp2_with fail
 go_at_call 21
 refine (HT _ HB0.out).out.mono ?_
 rintro en w3 ⟨rfl, hb3⟩
 have ka := HKA.out.below hb3 HKA.out.lt
 have kb := HKB.out.below hb3 HKB.out.lt
 have pa0 : w3.cell? ⟨w.heap.size, 0, none⟩ = some (.slice xga P.gh.length xgc) := by rw [(ka).cell]; rfl
 have pa1 : w3.cell? ⟨w.heap.size, 1, none⟩ = some (.slice xva P.vs.length xvc) := by rw [(ka).cell]; rfl
 have pa2 : w3.cell? ⟨w.heap.size, 2, none⟩ = some (.slice xta P.ts.length xtc) := by rw [(ka).cell]; rfl
 have pa3 : w3.cell? ⟨w.heap.size, 3, none⟩ = some (.slice xoa P.os.length xoc) := by rw [(ka).cell]; rfl
 have pa4 : w3.cell? ⟨w.heap.size, 4, none⟩ = some (.int .i64 P.miss) := by rw [(ka).cell]; rfl
 have pa5 : w3.cell? ⟨w.heap.size, 5, none⟩ = some (.slice xca P.cd.length xcc) := by rw [(ka).cell]; rfl
 have pb0 : w3.cell? ⟨w.heap.size + 1, 0, none⟩ = some (.slice yga P.gh.length ygc) := by rw [(kb).cell]; rfl
 have pb1 : w3.cell? ⟨w.heap.size + 1, 1, none⟩ = some (.slice yva P.vs.length yvc) := by rw [(kb).cell]; rfl
 have pb2 : w3.cell? ⟨w.heap.size + 1, 2, none⟩ = some (.slice yta P.ts.length ytc) := by rw [(kb).cell]; rfl
 have pb3 : w3.cell? ⟨w.heap.size + 1, 3, none⟩ = some (.slice yoa P.os.length yoc) := by rw [(kb).cell]; rfl
 have pb4 : w3.cell? ⟨w.heap.size + 1, 4, none⟩ = some (.int .i64 P.miss) := by rw [(kb).cell]; rfl
 have pb5 : w3.cell? ⟨w.heap.size + 1, 5, none⟩ = some (.slice yca P.cd.length ycc) := by rw [(kb).cell]; rfl
 have HKA3 := hide ka
 have HKB3 := hide kb
 have HB3 := hide (HB0.out.trans (hb3.mono HB0.out.size))
 clear ka kb hb3
 go_wp2_with fail
 go_at_call 21
 refine (HO _ HB3.out).out.mono ?_
 rintro en w4 ⟨rfl, hb4⟩
 have ka := HKA3.out.below hb4 HKA3.out.lt
 have kb := HKB3.out.below hb4 HKB3.out.lt
 have qa0 : w4.cell? ⟨w.heap.size, 0, none⟩ = some (.slice xga P.gh.length xgc) := by rw [(ka).cell]; rfl
 have qa1 : w4.cell? ⟨w.heap.size, 1, none⟩ = some (.slice xva P.vs.length xvc) := by rw [(ka).cell]; rfl
 have qa2 : w4.cell? ⟨w.heap.size, 2, none⟩ = some (.slice xta P.ts.length xtc) := by rw [(ka).cell]; rfl
 have qa3 : w4.cell? ⟨w.heap.size, 3, none⟩ = some (.slice xoa P.os.length xoc) := by rw [(ka).cell]; rfl
 have qa4 : w4.cell? ⟨w.heap.size, 4, none⟩ = some (.int .i64 P.miss) := by rw [(ka).cell]; rfl
 have qa5 : w4.cell? ⟨w.heap.size, 5, none⟩ = some (.slice xca P.cd.length xcc) := by rw [(ka).cell]; rfl
 have qb0 : w4.cell? ⟨w.heap.size + 1, 0, none⟩ = some (.slice yga P.gh.length ygc) := by rw [(kb).cell]; rfl
 have qb1 : w4.cell? ⟨w.heap.size + 1, 1, none⟩ = some (.slice yva P.vs.length yvc) := by rw [(kb).cell]; rfl
 have qb2 : w4.cell? ⟨w.heap.size + 1, 2, none⟩ = some (.slice yta P.ts.length ytc) := by rw [(kb).cell]; rfl
 have qb3 : w4.cell? ⟨w.heap.size + 1, 3, none⟩ = some (.slice yoa P.os.length yoc) := by rw [(kb).cell]; rfl
 have qb4 : w4.cell? ⟨w.heap.size + 1, 4, none⟩ = some (.int .i64 P.miss) := by rw [(kb).cell]; rfl
 have qb5 : w4.cell? ⟨w.heap.size + 1, 5, none⟩ = some (.slice yca P.cd.length ycc) := by rw [(kb).cell]; rfl
 have HKA4 := hide ka
 have HKB4 := hide kb
 have HB4 := hide (HB3.out.trans (hb4.mono HB3.out.size))
 clear ka kb hb4 pa0 pb0 pa1 pb1 pa2 pb2 pa3 pb3 pa4 pb4 pa5 pb5
 go_wp2_with fail
 go_loopw [5] (fun tx W => ∃ i : Nat, tx = .int .i64 (i : Int) ∧ i ≤ P.gh.length ∧ Below w4.heap.size w4 W) (fun tx _ => P.gh.length - (intOf tx).toNat)
 case atStart => exact ⟨0, rfl, Nat.zero_le _, (Below.refl _ _)⟩
 case round =>
   obtain ⟨i, rfl, hi, hW⟩ := hrel
   rename World => W
   have ka := HKA4.out.below hW HKA4.out.lt
   have kb := HKB4.out.below hW HKB4.out.lt
   have ra0 : W.cell? ⟨w.heap.size, 0, none⟩ = some (.slice xga P.gh.length xgc) := by rw [(ka).cell]; rfl
   have ra1 : W.cell? ⟨w.heap.size, 1, none⟩ = some (.slice xva P.vs.length xvc) := by rw [(ka).cell]; rfl
   have ra2 : W.cell? ⟨w.heap.size, 2, none⟩ = some (.slice xta P.ts.length xtc) := by rw [(ka).cell]; rfl
   have ra3 : W.cell? ⟨w.heap.size, 3, none⟩ = some (.slice xoa P.os.length xoc) := by rw [(ka).cell]; rfl
   have ra4 : W.cell? ⟨w.heap.size, 4, none⟩ = some (.int .i64 P.miss) := by rw [(ka).cell]; rfl
   have ra5 : W.cell? ⟨w.heap.size, 5, none⟩ = some (.slice xca P.cd.length xcc) := by rw [(ka).cell]; rfl
   have rb0 : W.cell? ⟨w.heap.size + 1, 0, none⟩ = some (.slice yga P.gh.length ygc) := by rw [(kb).cell]; rfl
   have rb1 : W.cell? ⟨w.heap.size + 1, 1, none⟩ = some (.slice yva P.vs.length yvc) := by rw [(kb).cell]; rfl
   have rb2 : W.cell? ⟨w.heap.size + 1, 2, none⟩ = some (.slice yta P.ts.length ytc) := by rw [(kb).cell]; rfl
   have rb3 : W.cell? ⟨w.heap.size + 1, 3, none⟩ = some (.slice yoa P.os.length yoc) := by rw [(kb).cell]; rfl
   have rb4 : W.cell? ⟨w.heap.size + 1, 4, none⟩ = some (.int .i64 P.miss) := by rw [(kb).cell]; rfl
   have rb5 : W.cell? ⟨w.heap.size + 1, 5, none⟩ = some (.slice yca P.cd.length ycc) := by rw [(kb).cell]; rfl
   have HW1 := hide hW
   clear hW ka kb
   by_cases hlt : i < P.gh.length
   · obtain ⟨x, hx⟩ : ∃ x, P.gh[i]? = some x := ⟨_, List.getElem?_eq_getElem hlt⟩
     obtain ⟨ad, had, hab, hcl⟩ := src_at HP.out.g (by show 0 < P.gh.length; omega)
     obtain ⟨bd, hbd, hbb, hdl⟩ := src_at HQ.out.g (by show 0 < P.gh.length; omega)
     simp only at had hbd
     subst had hbd
     have hWw := HB4.out.trans (HW1.out.mono HB4.out.size)
     have c0 := hcl W hWw i (.bool x) (by simp [boolsV, hx])
     have d0 := hdl W hWw i (.bool x) (by simp [boolsV, hx])
     have u1 := IntWalk.i64_in ((i : Int) + 1) (by omega)
     have hI : (i : Int) < (P.gh.length : Int) := by omega
     clear hcl hdl hab hbb hx hWw
     go_wp2_with fail
     go_quiet (fail)
     all_goals
       go_wp2_with fail
       go_roundw
       case rel => exact ⟨i + 1, by go_num, by omega, below_drewN HW1.out _⟩
       case measure =>
         simp only [intOf]
         omega
   · have hno : ¬ (i : Int) < (P.gh.length : Int) := by omega
     clear hlt hi
     go_wp2_with fail
     go_loopw [6] (fun tx W => ∃ i : Nat, tx = .int .i64 (i : Int) ∧ i ≤ P.vs.length ∧ Below w4.heap.size w4 W) (fun tx _ => P.vs.length - (intOf tx).toNat)
     case atStart => exact ⟨0, rfl, Nat.zero_le _, HW1.out⟩
     case round =>
       obtain ⟨i, rfl, hi, hW⟩ := hrel
       rename World => W
       have ka := HKA4.out.below hW HKA4.out.lt
       have kb := HKB4.out.below hW HKB4.out.lt
       have ra0 : W.cell? ⟨w.heap.size, 0, none⟩ = some (.slice xga P.gh.length xgc) := by rw [(ka).cell]; rfl
       have ra1 : W.cell? ⟨w.heap.size, 1, none⟩ = some (.slice xva P.vs.length xvc) := by rw [(ka).cell]; rfl
       have ra2 : W.cell? ⟨w.heap.size, 2, none⟩ = some (.slice xta P.ts.length xtc) := by rw [(ka).cell]; rfl
       have ra3 : W.cell? ⟨w.heap.size, 3, none⟩ = some (.slice xoa P.os.length xoc) := by rw [(ka).cell]; rfl
       have ra4 : W.cell? ⟨w.heap.size, 4, none⟩ = some (.int .i64 P.miss) := by rw [(ka).cell]; rfl
       have ra5 : W.cell? ⟨w.heap.size, 5, none⟩ = some (.slice xca P.cd.length xcc) := by rw [(ka).cell]; rfl
       have rb0 : W.cell? ⟨w.heap.size + 1, 0, none⟩ = some (.slice yga P.gh.length ygc) := by rw [(kb).cell]; rfl
       have rb1 : W.cell? ⟨w.heap.size + 1, 1, none⟩ = some (.slice yva P.vs.length yvc) := by rw [(kb).cell]; rfl
       have rb2 : W.cell? ⟨w.heap.size + 1, 2, none⟩ = some (.slice yta P.ts.length ytc) := by rw [(kb).cell]; rfl
       have rb3 : W.cell? ⟨w.heap.size + 1, 3, none⟩ = some (.slice yoa P.os.length yoc) := by rw [(kb).cell]; rfl
       have rb4 : W.cell? ⟨w.heap.size + 1, 4, none⟩ = some (.int .i64 P.miss) := by rw [(kb).cell]; rfl
       have rb5 : W.cell? ⟨w.heap.size + 1, 5, none⟩ = some (.slice yca P.cd.length ycc) := by rw [(kb).cell]; rfl
       have HW2 := hide hW
       clear hW ka kb
       by_cases hlt : i < P.vs.length
       · obtain ⟨x, hx⟩ : ∃ x, P.vs[i]? = some x := ⟨_, List.getElem?_eq_getElem hlt⟩
         obtain ⟨ad, had, hab, hcl⟩ := src_at HP.out.v (by show 0 < P.vs.length; omega)
         obtain ⟨bd, hbd, hbb, hdl⟩ := src_at HQ.out.v (by show 0 < P.vs.length; omega)
         simp only at had hbd
         subst had hbd
         have hWw := HB4.out.trans (HW2.out.mono HB4.out.size)
         obtain ⟨z0, z1, z2⟩ := varsV_get hx
         have c0 := hcl W hWw _ _ z0
         have c1 := hcl W hWw _ _ z1
         rw [add_fld ad (i * 3) 0] at c1
         have c2 := hcl W hWw _ _ z2
         rw [add_fld ad (i * 3) 1] at c2
         have d0 := hdl W hWw _ _ z0
         have d1 := hdl W hWw _ _ z1
         rw [add_fld bd (i * 3) 0] at d1
         have d2 := hdl W hWw _ _ z2
         rw [add_fld bd (i * 3) 1] at d2
         clear z0 z1 z2
         obtain ⟨x0, x1, x2⟩ := x
         simp only at c0 c1 c2 d0 d1 d2
         have u1 := IntWalk.i64_in ((i : Int) + 1) (by omega)
         have hI : (i : Int) < (P.vs.length : Int) := by omega
         clear hcl hdl hab hbb hx hWw
         go_wp2_with fail
         go_quiet (fail)
         all_goals
           go_wp2_with fail
           go_roundw
           case rel => exact ⟨i + 1, by go_num, by omega, below_drewN HW2.out _⟩
           case measure =>
             simp only [intOf]
             omega
       · have hno : ¬ (i : Int) < (P.vs.length : Int) := by omega
         clear hlt hi
         go_wp2_with fail
         go_loopw [7] (fun tx W => ∃ i : Nat, tx = .int .i64 (i : Int) ∧ i ≤ P.cd.length ∧ Below w4.heap.size w4 W) (fun tx _ => P.cd.length - (intOf tx).toNat)
         case atStart => exact ⟨0, rfl, Nat.zero_le _, HW2.out⟩
         case round =>
           obtain ⟨i, rfl, hi, hW⟩ := hrel
           rename World => W
           have ka := HKA4.out.below hW HKA4.out.lt
           have kb := HKB4.out.below hW HKB4.out.lt
           have ra0 : W.cell? ⟨w.heap.size, 0, none⟩ = some (.slice xga P.gh.length xgc) := by rw [(ka).cell]; rfl
           have ra1 : W.cell? ⟨w.heap.size, 1, none⟩ = some (.slice xva P.vs.length xvc) := by rw [(ka).cell]; rfl
           have ra2 : W.cell? ⟨w.heap.size, 2, none⟩ = some (.slice xta P.ts.length xtc) := by rw [(ka).cell]; rfl
           have ra3 : W.cell? ⟨w.heap.size, 3, none⟩ = some (.slice xoa P.os.length xoc) := by rw [(ka).cell]; rfl
           have ra4 : W.cell? ⟨w.heap.size, 4, none⟩ = some (.int .i64 P.miss) := by rw [(ka).cell]; rfl
           have ra5 : W.cell? ⟨w.heap.size, 5, none⟩ = some (.slice xca P.cd.length xcc) := by rw [(ka).cell]; rfl
           have rb0 : W.cell? ⟨w.heap.size + 1, 0, none⟩ = some (.slice yga P.gh.length ygc) := by rw [(kb).cell]; rfl
           have rb1 : W.cell? ⟨w.heap.size + 1, 1, none⟩ = some (.slice yva P.vs.length yvc) := by rw [(kb).cell]; rfl
           have rb2 : W.cell? ⟨w.heap.size + 1, 2, none⟩ = some (.slice yta P.ts.length ytc) := by rw [(kb).cell]; rfl
           have rb3 : W.cell? ⟨w.heap.size + 1, 3, none⟩ = some (.slice yoa P.os.length yoc) := by rw [(kb).cell]; rfl
           have rb4 : W.cell? ⟨w.heap.size + 1, 4, none⟩ = some (.int .i64 P.miss) := by rw [(kb).cell]; rfl
           have rb5 : W.cell? ⟨w.heap.size + 1, 5, none⟩ = some (.slice yca P.cd.length ycc) := by rw [(kb).cell]; rfl
           have HW3 := hide hW
           clear hW ka kb
           by_cases hlt : i < P.cd.length
           · obtain ⟨x, hx⟩ : ∃ x, P.cd[i]? = some x := ⟨_, List.getElem?_eq_getElem hlt⟩
             obtain ⟨ad, had, hab, hcl⟩ := src_at HP.out.c (by show 0 < P.cd.length; omega)
             obtain ⟨bd, hbd, hbb, hdl⟩ := src_at HQ.out.c (by show 0 < P.cd.length; omega)
             simp only at had hbd
             subst had hbd
             have hWw := HB4.out.trans (HW3.out.mono HB4.out.size)
             obtain ⟨z0, z1, z2, z3, z4⟩ := codeV_get hx
             have c0 := hcl W hWw _ _ z0
             have c1 := hcl W hWw _ _ z1
             rw [add_fld ad (i * 5) 0] at c1
             have c2 := hcl W hWw _ _ z2
             rw [add_fld ad (i * 5) 1] at c2
             have c3 := hcl W hWw _ _ z3
             rw [add_fld ad (i * 5) 2] at c3
             have c4 := hcl W hWw _ _ z4
             rw [add_fld ad (i * 5) 3] at c4
             have d0 := hdl W hWw _ _ z0
             have d1 := hdl W hWw _ _ z1
             rw [add_fld bd (i * 5) 0] at d1
             have d2 := hdl W hWw _ _ z2
             rw [add_fld bd (i * 5) 1] at d2
             have d3 := hdl W hWw _ _ z3
             rw [add_fld bd (i * 5) 2] at d3
             have d4 := hdl W hWw _ _ z4
             rw [add_fld bd (i * 5) 3] at d4
             clear z0 z1 z2 z3 z4
             obtain ⟨x0, x1, x2, x3, x4⟩ := x
             simp only at c0 c1 c2 c3 c4 d0 d1 d2 d3 d4
             have u1 := IntWalk.i64_in ((i : Int) + 1) (by omega)
             have hI : (i : Int) < (P.cd.length : Int) := by omega
             clear hcl hdl hab hbb hx hWw
             go_wp2_with fail
             go_quiet (fail)
             all_goals
               go_wp2_with fail
               go_roundw
               case rel => exact ⟨i + 1, by go_num, by omega, below_drewN HW3.out _⟩
               case measure =>
                 simp only [intOf]
                 omega
           · have hno : ¬ (i : Int) < (P.cd.length : Int) := by omega
             clear hlt hi
             go_wp2_with fail
             go_ret
             exact ⟨rfl, HB4.out.trans (HW3.out.mono HB4.out.size)⟩
end Go.Proofs.Ytdpokdcendgfeaa
