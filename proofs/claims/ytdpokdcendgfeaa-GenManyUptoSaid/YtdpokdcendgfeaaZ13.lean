/- Several texts in one: What gen makes of the document's second example: reckoned. Nothing here names the program. A copy of elements of any size into a row that is known whole, as a law for the walk. The walk of LendInts. A program that is lent, in memory. The walk of SpoilInts: only the row's own block turns. Conditions: those of each. -/
import Derived.Test.YtdpokdcendgfeaaZ2
import Derived.Laws.IdiomCopy
import Derived.Test.YtdpokdcendgfeaaZ3
import Derived.Test.YtdpokdcendgfeaaZ12
set_option linter.unusedSimpArgs false
set_option linter.unusedVariables false
set_option maxHeartbeats 40000000
namespace Go.Proofs.Ytdpokdcendgfeaa
def knownP : Pl := ⟨[], [], [], [], [⟨1, 0, 0, 0, 0, 1⟩, ⟨3, 3, 0, 0, 0, 2⟩, ⟨20, 1, 0, 0, 0, 0⟩, ⟨1, 0, 0, 0, 0, 0⟩]⟩
theorem k_e0 : endS knownP.ms 1 1 = some 4 := by
 unfold knownP
 repeat (first | rw [endS_stop (by decide)] | rw [endS_step (by decide) rfl])
theorem k_e2 : endS knownP.ms 2 1 = some 3 := by
 unfold knownP
 repeat (first | rw [endS_stop (by decide)] | rw [endS_step (by decide) rfl])
theorem k_e3 : endS knownP.ms 3 1 = some 4 := by
 unfold knownP
 repeat (first | rw [endS_stop (by decide)] | rw [endS_step (by decide) rfl])
theorem k0 : kidsC knownP.ms 0 ⟨1, 0, 0, 0, 0, 1⟩ = [1] := by simp [kidsC, kidsS, k_e0]
theorem k1 : kidsC knownP.ms 1 ⟨3, 3, 0, 0, 0, 2⟩ = [2, 3] := by simp [kidsC, kidsS, k_e2, k_e3]
theorem k3 : kidsC knownP.ms 3 ⟨1, 0, 0, 0, 0, 0⟩ = [] := by simp [kidsC, kidsS]
theorem known_act : actC knownP.ms 6 0 0 = [sayC 24 3 0 0 0 1, jmpC 25 1 5, sayC 2 1 0 0 0 2, jmpC 26 1 5, sayC 27 1 0 0 0 1] := by
 have a3 : ∀ c, actC knownP.ms 4 3 c = [] := fun c => by
   unfold actC
   rw [show knownP.ms[3]? = some ⟨1, 0, 0, 0, 0, 0⟩ from rfl]
   simp [plainV, k3, seqC]
 have a2 : ∀ c, actC knownP.ms 4 2 c = [sayC 2 1 0 0 0 2] := fun c => by
   unfold actC
   rw [show knownP.ms[2]? = some ⟨20, 1, 0, 0, 0, 0⟩ from rfl]
   simp [plainV]
 have a1 : ∀ c, actC knownP.ms 5 1 c = [sayC 24 3 0 0 0 1, jmpC 25 1 (c + 5), sayC 2 1 0 0 0 2, jmpC 26 1 (c + 5), sayC 27 ((c : Int) + 1) 0 0 0 1] := fun c => by
   unfold actC
   rw [show knownP.ms[1]? = some ⟨3, 3, 0, 0, 0, 2⟩ from rfl]
   simp [plainV, k1, loopC, a2, a3]
 unfold actC
 rw [show knownP.ms[0]? = some ⟨1, 0, 0, 0, 0, 1⟩ from rfl]
 simp [plainV, k0, seqC, a1]
theorem known_make : makeC knownP = (⟨[], [⟨24, 3, 0, 0, 0⟩, ⟨25, 5, 0, 0, 0⟩, ⟨2, 1, 0, 0, 0⟩, ⟨26, 5, 0, 0, 0⟩, ⟨27, 1, 0, 0, 0⟩, ⟨0, 0, 0, 0, 0⟩], [-1, -1, -1, -1, -1, -1], [1, 1, 2, 1, 1, 0]⟩, 0) := by
 have he : evC knownP.ms = [sayC 24 3 0 0 0 1, jmpC 25 1 5, sayC 2 1 0 0 0 2, jmpC 26 1 5, sayC 27 1 0 0 0 1, sayC 0 0 0 0 0 0] := by
   unfold evC
   rw [show knownP.ms.length + 2 = 6 from rfl, known_act]
   rfl
 unfold makeC
 simp only [show knownP.on = [] from rfl, Mk.adds, Mk.add, show knownP.ms.isEmpty = false from rfl, he]
 simp [relC, Cd.fin, sayC, jmpC, List.replicate]
theorem kr3 (f : Nat) : rowV knownP knownP.ms (f + 1) 3 1 = some (4, 0) := by
 unfold rowV
 rw [show knownP.ms[3]? = some ⟨1, 0, 0, 0, 0, 0⟩ from rfl]
 simp [mayV, numV, block_end]
theorem kr2 (f : Nat) : rowV knownP knownP.ms (f + 1) 2 3 = some (3, 1) := by
 unfold rowV
 rw [show knownP.ms[2]? = some ⟨20, 1, 0, 0, 0, 0⟩ from rfl]
 simp [mayV, typeV, numV, fromV, kidsV, kidsLoop]
 decide
theorem kr1 (f : Nat) : rowV knownP knownP.ms (f + 2) 1 0 = some (4, 1) := by
 unfold rowV
 rw [show knownP.ms[1]? = some ⟨3, 3, 0, 0, 0, 2⟩ from rfl]
 simp [mayV, numV, fromV, kidsV, kidsLoop, kr2, kr3]
 decide
theorem kr0 (f : Nat) : rowV knownP knownP.ms (f + 3) 0 1 = some (4, 0) := by
 unfold rowV
 rw [show knownP.ms[0]? = some ⟨1, 0, 0, 0, 0, 1⟩ from rfl]
 have hb : blockLoop knownP knownP.ms (rowV knownP knownP.ms (f + 2)) 1 1 = some 4 := by
   rw [block_row (x := ⟨3, 3, 0, 0, 0, 2⟩) (by decide) rfl (by decide) (by decide) (kr1 f)]
   exact block_end
 simp [mayV, numV, hb]
theorem known_check : checkV knownP = 0 := by
 have he : eventV knownP knownP.ms = true := by
   unfold eventV
   rw [show knownP.ms.length + 1 = 2 + 3 from rfl, kr0 2]
   rfl
 unfold checkV
 simp [show knownP.gh = [] from rfl, show knownP.vs = [] from rfl, show knownP.ts = [] from rfl, show knownP.on = [] from rfl, he, rowsV, show knownP.ms.length = 4 from rfl]
end Go.Proofs.Ytdpokdcendgfeaa
namespace Go.Proofs.Ytdpokdcendgfeaa
open Go.RowKit
theorem blk_setCells {g : Nat} {t : TypeId} : ∀ (vs : List Value) (o : Nat) (w : World) (cur : List Value), Blk w g t cur.toArray → o + vs.length ≤ cur.length → Blk (w.setCells g o vs) g t (cur.take o ++ (vs ++ cur.drop (o + vs.length))).toArray
 | [], o, w, cur, h, hl => by
   have e : cur.take o ++ ([] ++ cur.drop (o + ([] : List Value).length)) = cur := by simp
   rw [e]
   exact h
 | v :: r, o, w, cur, h, hl => by
   have h1 := h.set_ o v
   have e : cur.toArray.setIfInBounds o v = (cur.set o v).toArray := by simp
   rw [e] at h1
   have h2 := blk_setCells r (o + 1) _ _ h1 (by simp at hl ⊢; omega)
   have e2 : (cur.set o v).take (o + 1) ++ (r ++ (cur.set o v).drop (o + 1 + r.length)) = cur.take o ++ (v :: r ++ cur.drop (o + (v :: r).length)) := by
     have hl' : o < cur.length := by simp at hl; omega
     rw [List.take_add_one, List.take_set_of_le (Nat.le_refl o), List.getElem?_set_self hl', List.drop_set_of_lt (by omega)]
     simp only [Option.toList_some, List.append_assoc, List.nil_append, List.cons_append, List.length_cons]
     rw [show o + 1 + r.length = o + (r.length + 1) by omega]
   rw [e2] at h2
   exact h2
theorem only_setCells {g : Nat} : ∀ (vs : List Value) (o : Nat) (w : World), Only (fun k => k = g) w (w.setCells g o vs)
 | [], _, w => Only.refl _ w
 | v :: r, o, w => (((Only.refl (fun k => k = g) w).setCell (p := ⟨g, o, none⟩) (.inl rfl) v)).trans (only_setCells r (o + 1) _)
theorem wpList_copyN {P : Program} {w : World} {ops : Array Oper} {rest : List Oper} {o : Oper} {a : Act} {Q : Exit → Act → World → Prop} (hgd : o.guard = none) (d s : Operand) (dT sT : TypeId)
   (ho : o.op = .call { callee := .builtin .copy, args := #[d, s], argTypes := #[dT, sT] }) (elem : TypeId) (hu : P.underlying dT = some (.slice elem)) (sz : Nat) (hsz : (P.info? elem).map (·.size) = some sz)
   (g dLen dCap : Nat) (sp : Option Addr) (sLen sCap : Nat) (hd : a.eval d = .slice (some ⟨g, 0, none⟩) dLen dCap) (hs : a.eval s = .slice sp sLen sCap) (hle : sLen ≤ dLen)
   (cur : List Value) (t : TypeId) (hg : Blk w g t cur.toArray) (cs : List Value) (hn : cs.length = sLen * sz) (hsrc : 0 < sLen → ∃ ad, sp = some ad ∧ ∀ j v, cs[j]? = some v → w.cell? (ad.add j) = some v)
   (hfit : cs.length ≤ cur.length) (h1 : ∀ v ∈ cs, v.oneCell' = true)
   (h : ∀ w', Blk w' g t (cs ++ cur.drop cs.length).toArray → Only (fun k => k = g) w w' → wpList P ops Q rest (a.put o.dst (goInt sLen)) w') : wpList P ops Q (o :: rest) a w := by
 refine wpList_plain hgd fun K hK => ?_
 have hst := run_storeCells_cells (P := P) g 0 cs 0 w (fun j hj => by
     rw [hg.cell]; simp; omega) (fun j _ => hg.frozen _) h1
 have hb := blk_setCells cs 0 w cur hg (by omega)
 simp only [List.take_zero, List.nil_append, Nat.zero_add] at hb
 have hmin : Nat.min sLen dLen = sLen := Nat.min_eq_left hle
 have hrun : (Builtin.copy_ #[dT, sT] o.type #[.slice (some ⟨g, 0, none⟩) dLen dCap, .slice sp sLen sCap]).run P w = .ok (goInt sLen) (w.setCells g 0 cs) := by
   cases hq : P.info? elem with
   | none => simp [hq] at hsz
   | some i =>
     have hi : i.size = sz := by simpa [hq] using hsz
     by_cases h0 : sLen = 0
     · subst h0
       have hc : cs = [] := List.eq_nil_of_length_eq_zero (by simpa using hn)
       subst hc
       have hl : ∀ (x : Addr), (loadCells x 0).run P w = .ok #[] w := fun x => by simpa using run_loadCells_list (P := P) w x [] (by simp)
       cases sp <;> simp [Builtin.copy_, run_underlying hu, Builtin.lenOf, Builtin.firstCells, sizeOf, typeInfo, hq, storeCells, hl, World.setCells]
     · obtain ⟨ad, rfl, hx⟩ := hsrc (by omega)
       have hl := run_loadCells_list (P := P) w ad cs hx
       rw [hn] at hl
       simp [Builtin.copy_, run_underlying hu, Builtin.lenOf, Builtin.firstCells, sizeOf, typeInfo, hq, hi, hmin, hl, hst]
 unfold Oper.wp
 simp [Go.execOp, ho, Go.resolve, Go.invoke, Go.builtin, hd, hs, hrun, Result.andThen]
 exact hK _ _ (h _ hb (only_setCells cs 0 w))
end Go.Proofs.Ytdpokdcendgfeaa
namespace Go.Proofs.Ytdpokdcendgfeaa
open Go.RowKit
def fAt (f : List Int) (a : Int) : Int := (f[a.toNat]?).getD 0
theorem ints_at {f : List Int} {i : Nat} (h : i < f.length) : (ints f).toArray[i]? = some (.int .i64 (fAt f (i : Int))) := by
 simp [ints, fAt, List.getElem?_eq_getElem h]
/-- numbers that are lent: five marks lie behind them -/
def lendJ (l : List Int) (j : Nat) : List Int := l ++ (List.range 5).map fun k => if k < j then -77 - ((l.length : Int) + k) else 0
def lendL (l : List Int) : List Int := lendJ l 5
theorem lendJ_zero (l : List Int) : lendJ l 0 = l ++ List.replicate 5 0 := by simp [lendJ]; decide
theorem lendJ_len (l : List Int) (j : Nat) : (lendJ l j).length = l.length + 5 := by simp [lendJ]
theorem lendJ_step (l : List Int) (j : Nat) (hj : j < 5) : (lendJ l j).set (l.length + j) (-77 - ((l.length : Int) + j)) = lendJ l (j + 1) := by
 unfold lendJ
 rw [List.set_append, if_neg (by omega), Nat.add_sub_cancel_left]
 congr 1
 apply List.ext_getElem?
 intro k
 rw [List.getElem?_set]
 by_cases hk : k < 5
 · rw [List.getElem?_map, List.getElem?_map, List.getElem?_range hk]
   by_cases h1 : j = k
   · subst h1
     simp [hk]
   · rw [if_neg h1]
     simp only [Option.map_some]
     by_cases h2 : k < j
     · rw [if_pos h2, if_pos (by omega)]
     · rw [if_neg h2, if_neg (by omega)]
 · rw [List.getElem?_eq_none (by simp; omega), List.getElem?_eq_none (by simp; omega)]
   simp
   omega
theorem Src.copy {w w' : World} {oa : Option Addr} {n : Nat} {cs : List Value} (h : Src w oa n cs) (hb : Below w.heap.size w w') : 0 < n → ∃ ad, oa = some ad ∧ ∀ j v, cs[j]? = some v → w'.cell? (ad.add j) = some v := fun h0 => by
 obtain ⟨ad, e, hl, hx⟩ := h h0
 exact ⟨ad, e, fun j v hj => (hb.cell (by rw [add_block]; exact hl)).trans (hx j v hj)⟩
set_option maxRecDepth 100000 in
theorem lendInts_i (w : World) (oa : Option Addr) (ca : Nat) (l : List Int) (h : Src w oa l.length (ints l)) (hl : l.length ≤ 2000000) :
   Calls Try.prog 47 #[.slice oa l.length ca] w fun en w' => ∃ g, en = .returned (.slice (some ⟨g, 0, none⟩) l.length (l.length + 5)) ∧ w.heap.size ≤ g ∧ Blk w' g 3 (ints (lendL l)).toArray ∧ Below w.heap.size w w' := by
 have hmk : ∀ W : World, (Instr.makeSlice 24 (.int .i64 ((l.length : Int) + 5)) (.int .i64 ((l.length : Int) + 5))).run Try.prog W = .ok (.slice (some ⟨W.heap.size, 0, none⟩) (l.length + 5) (l.length + 5)) (W.alloc (.cells (ints (List.replicate (l.length + 5) 0)).toArray 3)) := fun W => by
   have := make_ints W (l.length + 5) (by omega)
   simpa using this
 have HSRC := hide h
 clear h
 have u1 := IntWalk.i64_in ((l.length : Int) + 5) (by omega)
 go_enter Try.func47, Try.ntmps47
 go_wp2_with (with_reducible refine wpList_copyN rfl (.tmp 9) (.tmp 10) 24 24 rfl 3 Try.underlying24 1 (by kernel_rfl) w.heap.size (l.length + 5) (l.length + 5) oa l.length ca rfl rfl (by omega) (ints (List.replicate (l.length + 5) 0)) 3 (Blk.new w 3 _) (ints l) (by simp [ints]) ?_ ?_ ?_ ?_)
 · intro h0
   obtain ⟨ad, e, hb, hx⟩ := HSRC.out h0
   exact ⟨ad, e, fun j v hj => (World.cell?_alloc_lt w _ _ (by rw [add_block]; exact hb)).trans (hx j v hj)⟩
 · simp [ints]
 · intro u hu
   simp only [ints, List.mem_map] at hu
   obtain ⟨x, _, rfl⟩ := hu
   rfl
 intro w2 hk2 ho2
 have HK2 := hide hk2
 have HO2 := hide ho2
 clear hk2 ho2
 have hk : Blk w2 w.heap.size 3 (ints (lendJ l 0)).toArray := by
   have e : ints l ++ (ints (List.replicate (l.length + 5) 0)).drop (ints l).length = ints (lendJ l 0) := by
     rw [lendJ_zero]; simp [ints]
   rw [← e]
   exact HK2.out
 have hb : Below w.heap.size w w2 := ((Only.refl (fun k => k = w.heap.size) w).alloc _ |>.trans HO2.out).below (fun k e => by omega) (Nat.le_refl _)
 have HK := hide hk
 have HB := hide hb
 clear hk hb HK2 HO2
 go_wp2_with fail
 go_loopw [4] (fun tx W => ∃ j : Nat, tx = .int .i64 ((l.length : Int) + (j : Int)) ∧ j ≤ 5 ∧ Blk W w.heap.size 3 (ints (lendJ l j)).toArray ∧ Below w.heap.size w W) (fun tx _ => l.length + 5 - (intOf tx).toNat)
 case atStart => exact ⟨0, by simp, by omega, HK.out, HB.out⟩
 case round =>
   obtain ⟨j, rfl, hj, hk, hb⟩ := hrel
   rename World => W
   have u2 := IntWalk.i64_in ((l.length : Int) + (j : Int) + 1) (by omega)
   have u3 := IntWalk.i64_in (-77 - ((l.length : Int) + (j : Int))) (by omega)
   have HK := hide hk
   have HB := hide hb
   by_cases hlt : j < 5
   · have hlt2 : (l.length : Int) + (j : Int) < (l.length : Int) + 5 := by omega
     have hlt3 : l.length + j < l.length + 5 := by omega
     have e0 : ((l.length : Int) + (j : Int)).toNat = l.length + j := by omega
     have c0 : W.cell? ⟨w.heap.size, l.length + j, none⟩ = some (.int .i64 (fAt (lendJ l j) ((l.length + j : Nat) : Int))) := by rw [hk.cell]; exact ints_at (by rw [lendJ_len]; omega)
     have f0 := hk.frozen (l.length + j)
     clear hk hb
     go_wp2_with fail
     go_roundw
     case rel =>
       refine ⟨j + 1, by go_num, by omega, ?_, HB.out.setCell (by exact Nat.le_refl _) _⟩
       have := HK.out.set_ (l.length + j) (.int .i64 (-77 - ((l.length : Int) + (j : Int))))
       rw [ints_set, lendJ_step l j (by omega)] at this
       exact this
     case measure => simp [intOf]; omega
   · have hj5 : j = 5 := by omega
     have hno : ¬ (l.length : Int) + (j : Int) < (l.length : Int) + 5 := by omega
     rw [hj5] at hk
     have HK := hide hk
     clear hk hb hj5 hlt hj
     go_wp2_with fail
     go_ret
     exact ⟨_, rfl, Nat.le_refl _, HK.out, HB.out⟩
end Go.Proofs.Ytdpokdcendgfeaa
namespace Go.Proofs.Ytdpokdcendgfeaa
open Go.RowKit
structure PV where
 (ga va ta oa ca : Option Addr)
 (gl gc vl vc tl tc ol oc cl cc : Nat)
 miss : Int
def PV.val (p : PV) : Value := .agg #[.slice p.ga p.gl p.gc, .slice p.va p.vl p.vc, .slice p.ta p.tl p.tc, .slice p.oa p.ol p.oc, .int .i64 p.miss, .slice p.ca p.cl p.cc]
abbrev Ins := In
/-- a program, as lists -/
structure Prg where
 gh : List Bool
 vs : List Vr
 ts : List Int
 os : List Int
 miss : Int
 cd : List Ins
theorem below_only {B rb : Nat} {w w5 w' : World} (h : Below B w w5) (ho : Only (fun k => k = rb) w5 w') (hr : B ≤ rb) (hs : B ≤ w5.heap.size) : Below B w w' :=
 ⟨ho.os.trans h.os, ho.tape.trans h.tape, ho.output.trans h.output, Nat.le_trans h.size ho.size, fun k hk => (ho.block k (by omega) (by omega)).trans (h.block k hk)⟩
/-- instructions as cells -/
def codeV (l : List Ins) : List Value := l.flatMap fun x => [.int .i64 x.o, .int .i64 x.a, .int .i64 x.b, .int .i64 x.c, .int .i64 x.d]
theorem codeV_append (l l' : List Ins) : codeV (l ++ l') = codeV l ++ codeV l' := by simp [codeV]
theorem codeV_get : ∀ {l : List Ins} {i : Nat} {x : Ins}, l[i]? = some x → (codeV l)[i * 5]? = some (.int .i64 x.o) ∧ (codeV l)[i * 5 + 1]? = some (.int .i64 x.a) ∧ (codeV l)[i * 5 + 2]? = some (.int .i64 x.b) ∧ (codeV l)[i * 5 + 3]? = some (.int .i64 x.c) ∧ (codeV l)[i * 5 + 4]? = some (.int .i64 x.d)
 | [], i, x, h => by simp at h
 | y :: l, 0, x, h => by
   simp at h
   subst h
   exact ⟨rfl, rfl, rfl, rfl, rfl⟩
 | y :: l, i + 1, x, h => by
   have ih := codeV_get (l := l) (i := i) (x := x) (by simpa using h)
   have e : codeV (y :: l) = [.int .i64 y.o, .int .i64 y.a, .int .i64 y.b, .int .i64 y.c, .int .i64 y.d] ++ codeV l := rfl
   have sh : ∀ j, ([.int .i64 y.o, .int .i64 y.a, .int .i64 y.b, .int .i64 y.c, .int .i64 y.d] ++ codeV l)[(i + 1) * 5 + j]? = (codeV l)[i * 5 + j]? := fun j => by
     have hl : ([.int .i64 y.o, .int .i64 y.a, .int .i64 y.b, .int .i64 y.c, .int .i64 y.d] : List Value).length = 5 := rfl
     rw [List.getElem?_append_right (by omega), hl, show (i + 1) * 5 + j - 5 = i * 5 + j by omega]
   rw [e]
   exact ⟨(sh 0).trans ih.1, (sh 1).trans ih.2.1, (sh 2).trans ih.2.2.1, (sh 3).trans ih.2.2.2.1, (sh 4).trans ih.2.2.2.2⟩
theorem codeV_len (l : List Ins) : (codeV l).length = l.length * 5 := by
 induction l with
 | nil => rfl
 | cons x l ih =>
   have e : codeV (x :: l) = [.int .i64 x.o, .int .i64 x.a, .int .i64 x.b, .int .i64 x.c, .int .i64 x.d] ++ codeV l := rfl
   rw [e, List.length_append, ih]
   simp
   omega
theorem info46 : (Try.prog.info? 56).map (fun i => (i.zero, i.size, i.bytes)) = some (some (.agg #[.int .i64 0, .int .i64 0, .int .i64 0, .int .i64 0, .int .i64 0]), 5, 40) := by kernel_rfl
def boolsV (l : List Bool) : List Value := l.map Value.bool
def varsV (l : List Vr) : List Value := l.flatMap fun x => [.int .i64 x.init, .int .i64 x.lo, .int .i64 x.hi]
def marksC (n : Nat) : List Ins := (List.range 9).map fun (k : Nat) => ⟨-9, (n : Int) + (k : Int), 0, 0, 0⟩
def markV : List Vr := [⟨91, 0, 0⟩, ⟨0, 0, 0⟩, ⟨0, 0, 0⟩]
theorem made_const {zs : Array Value} {v : Value} (h : ∀ x ∈ zs, x = v) (h0 : 0 < zs.size) (m : Nat) : madeCells zs m = (List.replicate m v).toArray := by
 apply Array.ext_getElem?
 intro i
 by_cases hi : i < m
 · have e1 : (List.replicate m v).toArray[i]? = some v := by simp [hi]
   rw [e1]
   unfold madeCells
   rw [Array.getElem?_eq_getElem (by simpa using hi)]
   have e2 : ((Array.range m).map (zs[· % zs.size]!))[i]'(by simpa using hi) = zs[i % zs.size]! := by simp
   rw [e2, getElem!_pos zs _ (Nat.mod_lt _ h0)]
   exact congrArg some (h _ (Array.getElem_mem _))
 · rw [Array.getElem?_eq_none (by simp [madeCells]; omega), Array.getElem?_eq_none (by simp; omega)]
/-- the program P is lent: each of its rows lies at the head of a block of its own, marks behind it -/
structure Lent (w : World) (B : Nat) (gg gv gt go gc : Nat) (P : Prg) : Prop where
 g : Blk w gg 4 (boolsV (P.gh ++ List.replicate 3 false)).toArray
 v : Blk w gv 51 (varsV (P.vs ++ markV)).toArray
 t : Blk w gt 3 (ints (lendL P.ts)).toArray
 o : Blk w go 3 (ints (lendL P.os)).toArray
 c : Blk w gc 56 (codeV (P.cd ++ marksC P.cd.length)).toArray
 base : B ≤ gg ∧ B ≤ gv ∧ B ≤ gt ∧ B ≤ go ∧ B ≤ gc
 apart : gt ≠ go
def lentPV (gg gv gt go gc : Nat) (P : Prg) : PV := ⟨some ⟨gg, 0, none⟩, some ⟨gv, 0, none⟩, some ⟨gt, 0, none⟩, some ⟨go, 0, none⟩, some ⟨gc, 0, none⟩, P.gh.length, P.gh.length + 3, P.vs.length, P.vs.length + 3, P.ts.length, P.ts.length + 5, P.os.length, P.os.length + 5, P.cd.length, P.cd.length + 9, P.miss⟩
theorem varsV_get : ∀ {l : List Vr} {i : Nat} {x : Vr}, l[i]? = some x → (varsV l)[i * 3]? = some (.int .i64 x.init) ∧ (varsV l)[i * 3 + 1]? = some (.int .i64 x.lo) ∧ (varsV l)[i * 3 + 2]? = some (.int .i64 x.hi)
 | [], i, x, h => by simp at h
 | y :: l, 0, x, h => by
   simp at h
   subst h
   exact ⟨rfl, rfl, rfl⟩
 | y :: l, i + 1, x, h => by
   have ih := varsV_get (l := l) (i := i) (x := x) (by simpa using h)
   have e : varsV (y :: l) = [.int .i64 y.init, .int .i64 y.lo, .int .i64 y.hi] ++ varsV l := rfl
   have sh : ∀ j, ([.int .i64 y.init, .int .i64 y.lo, .int .i64 y.hi] ++ varsV l)[(i + 1) * 3 + j]? = (varsV l)[i * 3 + j]? := fun j => by
     have hl : ([.int .i64 y.init, .int .i64 y.lo, .int .i64 y.hi] : List Value).length = 3 := rfl
     rw [List.getElem?_append_right (by omega), hl, show (i + 1) * 3 + j - 3 = i * 3 + j by omega]
   rw [e]
   exact ⟨(sh 0).trans ih.1, (sh 1).trans ih.2.1, (sh 2).trans ih.2.2⟩
theorem varsV_len (l : List Vr) : (varsV l).length = l.length * 3 := by
 induction l with
 | nil => rfl
 | cons x l ih =>
   have e : varsV (x :: l) = [.int .i64 x.init, .int .i64 x.lo, .int .i64 x.hi] ++ varsV l := rfl
   rw [e, List.length_append, ih]
   simp
   omega
theorem get_left {α : Type} {l l' : List α} {i : Nat} {x : α} (h : l[i]? = some x) : (l ++ l')[i]? = some x := by
 rw [List.getElem?_append_left (List.getElem?_eq_some_iff.1 h).1]; exact h
theorem Lent.below {w w' : World} {B gg gv gt go gc : Nat} {P : Prg} (h : Lent w B gg gv gt go gc P) (hb : Below w.heap.size w w') : Lent w' B gg gv gt go gc P :=
 ⟨h.g.below hb h.g.lt, h.v.below hb h.v.lt, h.t.below hb h.t.lt, h.o.below hb h.o.lt, h.c.below hb h.c.lt, h.base, h.apart⟩
theorem info4 : (Try.prog.info? 4).map (fun i => (i.zero, i.size, i.bytes)) = some (some (.bool false), 1, 1) := by kernel_rfl
theorem info49 : (Try.prog.info? 51).map (fun i => (i.zero, i.size, i.bytes)) = some (some (.agg #[.int .i64 0, .int .i64 0, .int .i64 0]), 3, 24) := by kernel_rfl
theorem make_bools (w : World) (n : Nat) (h : n ≤ 4194304) : (Instr.makeSlice 22 (.int .i64 (n : Int)) (.int .i64 (n : Int))).run Try.prog w = .ok (.slice (some ⟨w.heap.size, 0, none⟩) n n) (w.alloc (.cells (List.replicate n (.bool false)).toArray 4)) := by
 obtain ⟨i0, hi, hz0, hz1, hz2⟩ := info_parts3 info4
 have := run_make_rowN (P := Try.prog) 22 4 i0 (.bool false) Try.underlying22 hi hz0 .i64 .i64 n n (Nat.le_refl _) (by rw [hz2]; omega) (by omega) w
 rw [hz1, made_const (v := .bool false) (by simp [Value.cells]) (by simp [Value.cells])] at this
 simpa using this
theorem make_vars (w : World) (n : Nat) (h : n ≤ 4194304) : (Instr.makeSlice 23 (.int .i64 (n : Int)) (.int .i64 (n : Int))).run Try.prog w = .ok (.slice (some ⟨w.heap.size, 0, none⟩) n n) (w.alloc (.cells (List.replicate (n * 3) (.int .i64 0)).toArray 51)) := by
 obtain ⟨i0, hi, hz0, hz1, hz2⟩ := info_parts3 info49
 have := run_make_rowN (P := Try.prog) 23 51 i0 (.agg #[.int .i64 0, .int .i64 0, .int .i64 0]) Try.underlying23 hi hz0 .i64 .i64 n n (Nat.le_refl _) (by rw [hz2]; omega) (by omega) w
 rw [hz1, made_const (v := .int .i64 0) (by simp [Value.cells]) (by simp [Value.cells])] at this
 exact this
theorem make_code (w : World) (n : Nat) (h : n ≤ 4194304) : (Instr.makeSlice 32 (.int .i64 (n : Int)) (.int .i64 (n : Int))).run Try.prog w = .ok (.slice (some ⟨w.heap.size, 0, none⟩) n n) (w.alloc (.cells (List.replicate (n * 5) (.int .i64 0)).toArray 56)) := by
 obtain ⟨i0, hi, hz0, hz1, hz2⟩ := info_parts3 info46
 have := run_make_rowN (P := Try.prog) 32 56 i0 (.agg #[.int .i64 0, .int .i64 0, .int .i64 0, .int .i64 0, .int .i64 0]) Try.underlying32 hi hz0 .i64 .i64 n n (Nat.le_refl _) (by rw [hz2]; omega) (by omega) w
 rw [hz1, made_const (v := .int .i64 0) (by simp [Value.cells]) (by simp [Value.cells])] at this
 exact this
theorem src_at {w : World} {oa : Option Addr} {n : Nat} {cs : List Value} (h : Src w oa n cs) (h0 : 0 < n) : ∃ ad, oa = some ad ∧ ad.block < w.heap.size ∧ ∀ W, Below w.heap.size w W → ∀ j v, cs[j]? = some v → W.cell? (ad.add j) = some v := by
 obtain ⟨ad, e, hl, hx⟩ := h h0
 exact ⟨ad, e, hl, fun W hb j v hj => (hb.cell (by rw [add_block]; exact hl)).trans (hx j v hj)⟩
theorem codeV_eq (l : List Ins) : codeV l = ins l := by
 simp only [codeV, ins, List.flatMap]
 rfl
theorem varsV_eq (l : List Vr) : varsV l = vrs l := by
 simp only [varsV, vrs, List.flatMap]
 rfl
end Go.Proofs.Ytdpokdcendgfeaa
namespace Go.Proofs.Ytdpokdcendgfeaa
open Go.RowKit
end Go.Proofs.Ytdpokdcendgfeaa
