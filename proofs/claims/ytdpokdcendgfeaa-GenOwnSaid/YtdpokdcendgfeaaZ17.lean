/- Several texts in one: GenOwn: words. The walk of GenOwn. Conditions: those of each. -/
import Derived.Test.YtdpokdcendgfeaaZ15
import Derived.Test.YtdpokdcendgfeaaZ16
import Derived.Test.YtdpokdcendgfeaaZ13
import Derived.StillTailTactics
/- GenOwn: words. Conditions: as named. -/
namespace Go.Proofs.Ytdpokdcendgfeaa
open Go.RowKit
set_option linter.unusedVariables false
/-- the program that gen.Make tells of a plan -/
def progOf (P : Pl) : Prg := if checkV P = 0 then ⟨P.gh, P.vs, P.ts, (makeC P).1.on, (makeC P).2, (makeC P).1.cd⟩ else ⟨[], [], [], [], 0, []⟩
theorem MakeP.out {w w' : World} {P : Pl} {en : Ending} (h : MakeP w P en w') : Below w.heap.size w w' ∧ ∃ p : PV, en = .returned (.tuple #[p.val, .int .i64 (checkV P : Int)]) ∧ AMem w' p (progOf P) ∧ (checkV P = 0 → ProgIs w' w.heap.size p.val P.gh P.vs P.ts (makeC P).1.on (makeC P).2 (makeC P).1.cd ∧ (makeC P).1.cd.length ≤ 1048576) := by
  obtain ⟨hb, out, rfl, h1, h2⟩ := h
  refine ⟨hb, ?_⟩
  by_cases hc : checkV P = 0
  · obtain ⟨h3, h4⟩ := h2 hc
    obtain ⟨p, rfl, hm⟩ := h3.amem
    refine ⟨p, rfl, ?_, fun _ => ⟨h3, h4⟩⟩
    unfold progOf
    rw [if_pos hc]
    exact hm
  · rw [h1 hc]
    refine ⟨⟨none, none, none, none, none, 0, 0, 0, 0, 0, 0, 0, 0, 0, 0, 0⟩, rfl, ?_, fun h => absurd h hc⟩
    unfold progOf
    rw [if_neg hc]
    exact ⟨rfl, rfl, rfl, rfl, rfl, rfl, src_nil _ _, src_nil _ _, src_nil _ _, src_nil _ _, src_nil _ _, by simp [maxLen]⟩
theorem make_on_len (P : Pl) : (makeC P).1.on.length ≤ P.on.length := by
  unfold makeC
  rw [add_on]
  exact Nat.le_trans (adds_on_len _ _ _) (by simp)
/-- a program that is the call's own, row by row -/
structure Five (W : World) (B : Nat) (g v t o c : Value) (gh : List Bool) (vs : List Vr) (ts on : List Int) (cd : List In) : Prop where
  og : W.ownsRow B 4 1 g gh.length (bools gh)
  ov : W.ownsRow B 51 3 v vs.length (vrs vs)
  ot : W.ownsRow B 3 1 t ts.length (ints ts)
  oo : W.ownsRow B 3 1 o on.length (ints on)
  oc : W.ownsRow B 56 5 c cd.length (ins cd)
  d : ∀ k, t.ownBlock = some k → o.ownBlock ≠ some k
theorem ProgIs.five {W : World} {B : Nat} {out : Value} {gh : List Bool} {vs : List Vr} {ts on : List Int} {ms : Int} {cd : List In} (h : ProgIs W B out gh vs ts on ms cd) : ∃ ga gc va vc ta tc oa oc ca cc, out = .agg #[.slice ga gh.length gc, .slice va vs.length vc, .slice ta ts.length tc, .slice oa on.length oc, .int .i64 ms, .slice ca cd.length cc] ∧ Five W B (.slice ga gh.length gc) (.slice va vs.length vc) (.slice ta ts.length tc) (.slice oa on.length oc) (.slice ca cd.length cc) gh vs ts on cd := by
  obtain ⟨g, v, t, o, c, rfl, h1, h2, h3, h4, h5, h6⟩ := h
  obtain ⟨a1, b1, rfl⟩ := own_slice h1
  obtain ⟨a2, b2, rfl⟩ := own_slice h2
  obtain ⟨a3, b3, rfl⟩ := own_slice h3
  obtain ⟨a4, b4, rfl⟩ := own_slice h4
  obtain ⟨a5, b5, rfl⟩ := own_slice h5
  exact ⟨_, _, _, _, _, _, _, _, _, _, rfl, h1, h2, h3, h4, h5, h6⟩
theorem Five.only {W W' : World} {B : Nat} {S : Nat → Prop} {g v t o c : Value} {gh : List Bool} {vs : List Vr} {ts on : List Int} {cd : List In} (h : Five W B g v t o c gh vs ts on cd) (ho : Only S W W') (hS : ∀ k, S k → k < B ∨ W.heap.size ≤ k) : Five W' B g v t o c gh vs ts on cd := by
  have hk : ∀ {e : TypeId} {size n : Nat} {x : Value} {xs : List Value}, W.ownsRow B e size x n xs → W'.ownsRow B e size x n xs := fun h9 => own_only h9 ho (fun k hk hk2 => by have h8 := h9.lt k hk; rcases hS k hk2 with h7 | h7 <;> omega)
  exact ⟨hk h.og, hk h.ov, hk h.ot, hk h.oo, hk h.oc, h.d⟩
theorem Five.far {W0 W W' : World} {B : Nat} {S : Nat → Prop} {g v t o c : Value} {gh : List Bool} {vs : List Vr} {ts on : List Int} {cd : List In} (h0 : Five W0 B g v t o c gh vs ts on cd) (h : Five W B g v t o c gh vs ts on cd) (ho : Only S W W') (hS : ∀ k, S k → W0.heap.size ≤ k) : Five W' B g v t o c gh vs ts on cd :=
  ⟨own_only h.og ho (fun k hk hk2 => by have := (h0.og.lt k hk).2; have := hS k hk2; omega), own_only h.ov ho (fun k hk hk2 => by have := (h0.ov.lt k hk).2; have := hS k hk2; omega), own_only h.ot ho (fun k hk hk2 => by have := (h0.ot.lt k hk).2; have := hS k hk2; omega), own_only h.oo ho (fun k hk hk2 => by have := (h0.oo.lt k hk).2; have := hS k hk2; omega), own_only h.oc ho (fun k hk hk2 => by have := (h0.oc.lt k hk).2; have := hS k hk2; omega), h.d⟩
theorem below_own {W0 W W' : World} {B B' : Nat} {t : TypeId} {sz n : Nat} {u : Value} {xs : List Value} (h : Below B' W0 W) (ho : Only (fun k => u.ownBlock = some k) W W') (hr : W.ownsRow B t sz u n xs) (hB : B' ≤ B) (hW : B' ≤ W.heap.size) : Below B' W0 W' :=
  h.trans (ho.below (fun k hk => Nat.le_trans hB (hr.lt k hk).1) hW)
/-- cells that may be written -/
def Room (W : World) (oa : Option Addr) (n sz : Nat) (t : TypeId) : Prop := 0 < n → ∃ g cur, oa = some ⟨g, 0, none⟩ ∧ Blk W g t cur ∧ n * sz ≤ cur.size
theorem own_room {w : World} {B : Nat} {t : TypeId} {sz n c : Nat} {oa : Option Addr} {xs : List Value} (h : w.ownsRow B t sz (.slice oa n c) n xs) : Room w oa n sz t := fun h0 => by
  rcases h.2 with ⟨e, hn⟩ | ⟨g, cap, cur, e, hb, hg, h1, h2, h3, h4⟩
  · omega
  · injection e with e1 e2 e3
    refine ⟨g, cur, e1, hg, ?_⟩
    rw [h3]
    exact Nat.mul_le_mul_right _ h1
theorem Room.keep {W W' : World} {oa : Option Addr} {n sz : Nat} {t : TypeId} (h : Room W oa n sz t) (hk : ∀ {g : Nat} {cur : Array Value}, Blk W g t cur → Blk W' g t cur) : Room W' oa n sz t := fun h0 => by
  obtain ⟨g, cur, e, h1, h2⟩ := h h0
  exact ⟨g, cur, e, hk h1, h2⟩
/-- bools that may be written -/
def RoomB (W : World) (oa : Option Addr) (n : Nat) : Prop := 0 < n → ∃ g cur, oa = some ⟨g, 0, none⟩ ∧ Blk W g 4 cur ∧ ∀ i, i < n → ∃ b, cur[i]? = some (.bool b)
theorem own_roomB {w : World} {B : Nat} {n c : Nat} {oa : Option Addr} {l : List Bool} (h : w.ownsRow B 4 1 (.slice oa n c) n (bools l)) : RoomB w oa n := fun h0 => by
  rcases h.2 with ⟨e, hn⟩ | ⟨g, cap, cur, e, hb, hg, h1, h2, h3, h4⟩
  · omega
  · injection e with e1 e2 e3
    refine ⟨g, cur, e1, hg, fun i hi => ?_⟩
    have hl : (bools l).length = n * 1 := h.1
    have h5 : (cur.toList.take (n * 1))[i]? = (bools l)[i]? := by rw [h4]
    rw [List.getElem?_take, if_pos (by omega)] at h5
    obtain ⟨b, hb⟩ : ∃ b, l[i]? = some b := ⟨_, List.getElem?_eq_getElem (by simp [bools] at hl; omega)⟩
    refine ⟨b, ?_⟩
    have h6 : (bools l)[i]? = some (.bool b) := by simp [bools, hb]
    rw [h6] at h5
    simpa using h5
theorem roomB_set {cur : Array Value} {n : Nat} (h : ∀ i, i < n → ∃ b, cur[i]? = some (.bool b)) (k : Nat) (c : Bool) : ∀ i, i < n → ∃ b, (cur.setIfInBounds k (.bool c))[i]? = some (.bool b) := fun i hi => by
  obtain ⟨b, hb⟩ := h i hi
  rw [Array.getElem?_setIfInBounds]
  by_cases hk : k = i
  · subst hk
    rw [if_pos rfl]
    have := (Array.getElem?_eq_some_iff.1 hb).1
    rw [if_pos this]
    exact ⟨c, rfl⟩
  · rw [if_neg hk]
    exact ⟨b, hb⟩
theorem Room.cell {W : World} {g n sz : Nat} {t : TypeId} {cur : Array Value} (h : Blk W g t cur) (hs : n * sz ≤ cur.size) {i j : Nat} (hi : i < n) (hj : j < sz) : ∃ v, W.cell? ⟨g, i * sz + j, none⟩ = some v := by
  rw [h.cell]
  refine ⟨_, Array.getElem?_eq_getElem ?_⟩
  have : (i + 1) * sz ≤ n * sz := Nat.mul_le_mul_right _ hi
  rw [Nat.add_mul, Nat.one_mul] at this
  omega
/-- a lent plan whose last act is another -/
theorem lend_store {W : World} {B gg gv gt gl gm : Nat} {es : List Nat} {P : Pl} {l : List Ac} {x : Ac} {k : Nat} (h : LentP W B gg gv gt gl gm es ⟨P.gh, P.vs, P.ts, P.on, l⟩) (hk : k < l.length) :
    LentP ((((((W.setCell ⟨gm, k * 6, none⟩ (.int .i64 x.k)).setCell ⟨gm, k * 6 + 1, none⟩ (.int .i64 x.a)).setCell ⟨gm, k * 6 + 2, none⟩ (.int .i64 x.b)).setCell ⟨gm, k * 6 + 3, none⟩ (.int .i64 x.c)).setCell ⟨gm, k * 6 + 4, none⟩ (.int .i64 x.d)).setCell ⟨gm, k * 6 + 5, none⟩ (.int .i64 x.n)) B gg gv gt gl gm es ⟨P.gh, P.vs, P.ts, P.on, l.set k x⟩ := by
  have hon : Only (fun j => j = gm) W ((((((W.setCell ⟨gm, k * 6, none⟩ (.int .i64 x.k)).setCell ⟨gm, k * 6 + 1, none⟩ (.int .i64 x.a)).setCell ⟨gm, k * 6 + 2, none⟩ (.int .i64 x.b)).setCell ⟨gm, k * 6 + 3, none⟩ (.int .i64 x.c)).setCell ⟨gm, k * 6 + 4, none⟩ (.int .i64 x.d)).setCell ⟨gm, k * 6 + 5, none⟩ (.int .i64 x.n)) :=
    ((((((Only.refl (fun j => j = gm) W).setCell (p := ⟨gm, k * 6, none⟩) (.inl rfl) _).setCell (p := ⟨gm, k * 6 + 1, none⟩) (.inl rfl) _).setCell (p := ⟨gm, k * 6 + 2, none⟩) (.inl rfl) _).setCell (p := ⟨gm, k * 6 + 3, none⟩) (.inl rfl) _).setCell (p := ⟨gm, k * 6 + 4, none⟩) (.inl rfl) _).setCell (p := ⟨gm, k * 6 + 5, none⟩) (.inl rfl) _
  have hm := (((((h.m.set_ (k * 6) (.int .i64 x.k)).set_ (k * 6 + 1) (.int .i64 x.a)).set_ (k * 6 + 2) (.int .i64 x.b)).set_ (k * 6 + 3) (.int .i64 x.c)).set_ (k * 6 + 4) (.int .i64 x.d)).set_ (k * 6 + 5) (.int .i64 x.n)
  rw [acs_set (l := lendA l) (i := k) (x := x) (by unfold lendA; rw [List.length_append]; omega)] at hm
  have e : (lendA l).set k x = lendA (l.set k x) := by
    unfold lendA
    rw [List.set_append, if_pos hk, List.length_set]
  rw [e] at hm
  refine ⟨h.g.only hon (h.g.ne_ h.m (by decide)), h.v.only hon (h.v.ne_ h.m (by decide)), h.t.only hon (h.t.ne_ h.m (by decide)), h.l.only hon (h.l.ne_ h.m (by decide)), hm, ⟨h.e.n, fun i e' l' h1 h2 => ?_, h.e.inc⟩, h.base⟩
  obtain ⟨a1, a2⟩ := h.e.e i e' l' h1 h2
  exact ⟨a1.only hon (by omega), a2⟩
end Go.Proofs.Ytdpokdcendgfeaa

/- The walk of GenOwn. Conditions: the plan lies in memory; its lists are short. -/
namespace Go.Proofs.Ytdpokdcendgfeaa
open Go.RowKit
set_option linter.unusedVariables false
set_option linter.unusedSimpArgs false in
set_option maxRecDepth 100000 in
set_option maxHeartbeats 40000000 in
theorem genOwn_i (w : World) (q : PlV) (P : Pl) (rs : List (Option Addr × Nat)) (h : PlMem w q P rs) (hbig : ∀ l ∈ P.on ++ [P.ms], l.length ≤ 4398046511104) (hon : P.on.length ≤ 8796093022208) :
    Calls Try.prog 6 #[q.val] w fun en w' => en = .returned (.bool true) ∧ Below w.heap.size w w' := by
  have HM0 := hide h
  have HMK := hide (fun (W : World) (hb : Below w.heap.size w W) => make_i W q P rs (h.below hb) hbig)
  have HOR := hide (fun (W : World) (hb : Below w.heap.size w W) => origin_i W q P rs (h.below hb) hbig)
  have HLG := hide (fun (W : World) (hb : Below w.heap.size w W) => large_i W q P rs (h.below hb) hbig hon)
  have HLP := hide (fun (W : World) (hb : Below w.heap.size w W) => lendPlan_i W q P rs (h.below hb))
  obtain ⟨e1, e2, e3, e4, e5, _, _, _, _, _, _⟩ := h
  obtain ⟨ga, va, ta, oa, ma, gl, gc, vl, vc, tl, tc, ol, oc, ml, mc⟩ := q
  simp only at e1 e2 e3 e4 e5
  subst e1 e2 e3 e4 e5
  simp only [PlV.val] at HMK HOR HLG HLP ⊢
  have HW1 := hide (show Below w.heap.size w (w.alloc (.cells #[.slice ga P.gh.length gc, .slice va P.vs.length vc, .slice ta P.ts.length tc, .slice oa P.on.length oc, .slice ma P.ms.length mc] 28)) from (Below.refl _ w).alloc (Nat.le_refl _) _)
  have HP1 := hide (Blk.new w 28 #[.slice ga P.gh.length gc, .slice va P.vs.length vc, .slice ta P.ts.length tc, .slice oa P.on.length oc, .slice ma P.ms.length mc])
  clear hbig hon
  go_enter Try.func6, Try.ntmps6
  go_upto_region 1 with fail
  generalize w.alloc (.cells #[.slice ga P.gh.length gc, .slice va P.vs.length vc, .slice ta P.ts.length tc, .slice oa P.on.length oc, .slice ma P.ms.length mc] 28) = W1 at HW1 HP1
  have hc := known_i W1
  go_upto_region 3 with (
    go_at_call 12
    with_reducible refine hc.mono ?_
    rintro en W2 ⟨rfl, hb2⟩
    have HB2 := hide hb2
    clear hb2)
  have HW2 := hide (HW1.out.trans (HB2.out.mono HW1.out.size))
  have HP2 := hide (HP1.out.below HB2.out HP1.out.lt)
  clear hc HB2
  obtain ⟨p0, p1, p2, p3, p4, _⟩ := blk5 HP2.out
  have hc := HMK.out W2 HW2.out
  go_upto_region 4 with (
    go_at_call 15
    with_reducible refine hc.mono ?_
    intro en W3 hmk
    obtain ⟨hb3, pv, rfl, ham, hgood⟩ := hmk.out
    have HB3 := hide hb3
    have HAM := hide ham
    have HGOOD := hide hgood
    have HPV := hide (rfl : pv = pv)
    simp only [PV.val]
    clear hmk hb3 ham hgood)
  clear p0 p1 p2 p3 p4 hc
  have HB4 := hide ((Below.refl W3.heap.size W3).alloc (Nat.le_refl _) (.cells #[.slice pv.ga pv.gl pv.gc, .slice pv.va pv.vl pv.vc, .slice pv.ta pv.tl pv.tc, .slice pv.oa pv.ol pv.oc, .int .i64 pv.miss, .slice pv.ca pv.cl pv.cc] 34))
  have HX4 := hide (Blk.new W3 34 #[.slice pv.ga pv.gl pv.gc, .slice pv.va pv.vl pv.vc, .slice pv.ta pv.tl pv.tc, .slice pv.oa pv.ol pv.oc, .int .i64 pv.miss, .slice pv.ca pv.cl pv.cc])
  have hal4 := HAM.out.below HB4.out
  have HAM4 := hide hal4
  generalize W3.alloc (.cells #[.slice pv.ga pv.gl pv.gc, .slice pv.va pv.vl pv.vc, .slice pv.ta pv.tl pv.tc, .slice pv.oa pv.ol pv.oc, .int .i64 pv.miss, .slice pv.ca pv.cl pv.cc] 34) = W4 at HB4 HX4 HAM4
  clear hal4
  have HB24 := hide (HB3.out.trans (HB4.out.mono HB3.out.size))
  have HW4 := hide (HW2.out.trans (HB24.out.mono HW2.out.size))
  have HP4 := hide (HP2.out.below HB24.out HP2.out.lt)
  by_cases hc0 : checkV P = 0
  case neg =>
    have hcb : ((checkV P : Int) != 0) = true := by simpa using hc0
    have HC0 := hide hc0
    clear hc0
    go_wp2_with fail
    go_ret
    exact ⟨rfl, HW4.out⟩
  case pos =>
    rw [hc0]
    obtain ⟨k1, k2, k3, k4, k5, kR⟩ := check_zero hc0
    have HC0 := hide hc0
    have HKR := hide kR
    obtain ⟨hpi, hcl⟩ := HGOOD.out hc0
    have HPI4 := hide ((hpi.below HB4.out))
    have HCL := hide hcl
    have hsz : rowsV P.on + P.ms.length ≤ 131072 := by have h9 := k5; simp only [rowsV, List.map_append, List.sum_append, List.map_cons, List.map_nil, List.sum_cons, List.sum_nil] at h9 ⊢; omega
    have hlg : decide (524288 < sizeP P) = false := by unfold sizeP; rw [decide_eq_false_iff_not]; omega
    have HON := hide k4
    have HLENS := hide (show P.gh.length ≤ 16 ∧ P.vs.length ≤ 16 ∧ P.ts.length ≤ 4 ∧ P.on.length ≤ 16 ∧ rowsV P.on + P.ms.length ≤ 131072 from ⟨k1, k2, k3, by omega, hsz⟩)
    have HPO := hide (show progOf P = ⟨P.gh, P.vs, P.ts, (makeC P).1.on, (makeC P).2, (makeC P).1.cd⟩ from by unfold progOf; rw [if_pos hc0])
    have hc := HLG.out W4 HW4.out
    rw [hlg] at hc
    clear hc0 k1 k2 k3 k4 k5 kR hpi hcl hsz hlg HGOOD
    obtain ⟨p0, p1, p2, p3, p4, _⟩ := blk5 HP4.out
    obtain ⟨z0, z1, z2, z3, z4, z5, _⟩ := blk6 HX4.out
    go_upto_region 6 with (
      go_at_call 13
      with_reducible refine hc.mono ?_
      rintro en W5 ⟨rfl, hb5⟩
      have HB5 := hide hb5
      clear hb5)
    clear p0 p1 p2 p3 p4 z0 z1 z2 z3 z4 z5 hc
    have HX5 := hide (HX4.out.below HB5.out HX4.out.lt)
    have HP5 := hide (HP4.out.below HB5.out HP4.out.lt)
    have HAM5 := hide (HAM4.out.below HB5.out)
    have HPI5 := hide (HPI4.out.below HB5.out)
    have HW5 := hide (HW4.out.trans (HB5.out.mono HW4.out.size))
    obtain ⟨z0, z1, z2, z3, z4, z5, _⟩ := blk6 HX5.out
    have hc := lendProgram_i W5 pv (progOf P) HAM5.out (by rw [HPO.out]; have h1 := HLENS.out; have h2 := HCL.out; have h3 := make_on_len P; simp only; omega)
    simp only [PV.val, lentPV] at hc
    go_upto_region 7 with (
      go_at_call 23
      with_reducible refine hc.mono ?_
      rintro en W6 ⟨gg, gv, gt, go, gcd, rfl, hlt, hb6⟩
      have HLT := hide hlt
      have HB6 := hide hb6
      clear hlt hb6)
    clear z0 z1 z2 z3 z4 z5 hc
    have HB7 := hide ((Below.refl W6.heap.size W6).alloc (Nat.le_refl _) (.cells #[.slice (some ⟨gg, 0, none⟩) (progOf P).gh.length ((progOf P).gh.length + 3), .slice (some ⟨gv, 0, none⟩) (progOf P).vs.length ((progOf P).vs.length + 3), .slice (some ⟨gt, 0, none⟩) (progOf P).ts.length ((progOf P).ts.length + 5), .slice (some ⟨go, 0, none⟩) (progOf P).os.length ((progOf P).os.length + 5), .int .i64 (progOf P).miss, .slice (some ⟨gcd, 0, none⟩) (progOf P).cd.length ((progOf P).cd.length + 9)] 34))
    have HK7 := hide (Blk.new W6 34 #[.slice (some ⟨gg, 0, none⟩) (progOf P).gh.length ((progOf P).gh.length + 3), .slice (some ⟨gv, 0, none⟩) (progOf P).vs.length ((progOf P).vs.length + 3), .slice (some ⟨gt, 0, none⟩) (progOf P).ts.length ((progOf P).ts.length + 5), .slice (some ⟨go, 0, none⟩) (progOf P).os.length ((progOf P).os.length + 5), .int .i64 (progOf P).miss, .slice (some ⟨gcd, 0, none⟩) (progOf P).cd.length ((progOf P).cd.length + 9)])
    generalize W6.alloc (.cells #[.slice (some ⟨gg, 0, none⟩) (progOf P).gh.length ((progOf P).gh.length + 3), .slice (some ⟨gv, 0, none⟩) (progOf P).vs.length ((progOf P).vs.length + 3), .slice (some ⟨gt, 0, none⟩) (progOf P).ts.length ((progOf P).ts.length + 5), .slice (some ⟨go, 0, none⟩) (progOf P).os.length ((progOf P).os.length + 5), .int .i64 (progOf P).miss, .slice (some ⟨gcd, 0, none⟩) (progOf P).cd.length ((progOf P).cd.length + 9)] 34) = W7 at HB7 HK7
    have HB57 := hide (HB6.out.trans (HB7.out.mono HB6.out.size))
    have HX7 := hide (HX5.out.below HB57.out HX5.out.lt)
    have HP7 := hide (HP5.out.below HB57.out HP5.out.lt)
    have HAM7 := hide (HAM5.out.below HB57.out)
    have HLT7 := hide (HLT.out.below HB7.out)
    have HW7 := hide (HW5.out.trans (HB57.out.mono HW5.out.size))
    have HLA7 := hide (HLT7.out.amem (by rw [HPO.out]; have h1 := HLENS.out; have h2 := HCL.out; have h3 := make_on_len P; unfold maxLen; simp only; omega))
    obtain ⟨N, hN⟩ : ∃ N, (makeC P).1.cd.length = N := ⟨_, rfl⟩
    have HN := hide hN
    have hNb : N ≤ 1048576 := by rw [← hN]; exact HCL.out
    clear hN
    go_wp2_with fail
    go_loopw [6] (fun t6 Wi => ∃ i : Nat, t6 = .int .i64 (i : Int) ∧ i ≤ 2 ∧ Below W7.heap.size W7 Wi) (fun t6 _ => 2 - (intOf t6).toNat)
    case atStart => exact ⟨0, rfl, by omega, Below.refl _ _⟩
    case round =>
      obtain ⟨i, rfl, hi, hbi⟩ := hrel
      rename World => Wi
      have HBI := hide hbi
      have HWI := hide (HW7.out.trans (hbi.mono HW7.out.size))
      have hq2 := IntWalk.i64_in ((i : Int) + 1) (by omega)
      clear hbi
      by_cases hil : i < 2
      · have hiI : (i : Int) < 2 := by omega
        have hpi := HP7.out.below HBI.out HP7.out.lt
        obtain ⟨p0, p1, p2, p3, p4, _⟩ := blk5 hpi
        have hc := HMK.out Wi HWI.out
        clear hpi
        go_upto_region 11 with (
          go_at_call 15
          with_reducible refine hc.mono ?_
          intro en Wa hmk
          obtain ⟨hba, xv, rfl, xam, xg⟩ := hmk.out
          obtain ⟨xpi, _⟩ := xg HC0.out
          obtain ⟨xga, xgc, xva, xvc, xta, xtc, xoa, xoc, xca, xcc, hxv, hfive⟩ := xpi.five
          rw [hxv]
          have HBA := hide hba
          have HXAM := hide xam
          have HFIVE := hide hfive
          have HXV := hide hxv
          rw [HC0.out]
          clear hmk hba xam xg xpi hfive hxv)
        clear p0 p1 p2 p3 p4 hc
        have HBB := hide ((Below.refl Wa.heap.size Wa).alloc (Nat.le_refl _) (.cells #[.slice xga P.gh.length xgc, .slice xva P.vs.length xvc, .slice xta P.ts.length xtc, .slice xoa (makeC P).1.on.length xoc, .int .i64 (makeC P).2, .slice xca (makeC P).1.cd.length xcc] 34))
        have HXB := hide (Blk.new Wa 34 #[.slice xga P.gh.length xgc, .slice xva P.vs.length xvc, .slice xta P.ts.length xtc, .slice xoa (makeC P).1.on.length xoc, .int .i64 (makeC P).2, .slice xca (makeC P).1.cd.length xcc])
        generalize Wa.alloc (.cells #[.slice xga P.gh.length xgc, .slice xva P.vs.length xvc, .slice xta P.ts.length xtc, .slice xoa (makeC P).1.on.length xoc, .int .i64 (makeC P).2, .slice xca (makeC P).1.cd.length xcc] 34) = Wb at HBB HXB
        have HBIB := hide (HBA.out.trans (HBB.out.mono HBA.out.size))
        have HFB := hide (HFIVE.out.only (Only.of_new HBB.out) (fun k hk => .inr (by exact hk)))
        have HPB := hide ((HP7.out.below HBI.out HP7.out.lt).below HBIB.out (HP7.out.below HBI.out HP7.out.lt).lt)
        have HWB := hide (HWI.out.trans (HBIB.out.mono HWI.out.size))
        obtain ⟨p0, p1, p2, p3, p4, _⟩ := blk5 HPB.out
        have hc := HOR.out Wb HWB.out
        go_upto_region 12 with (
          go_at_call 19
          with_reducible refine hc.mono ?_
          rintro en Wc ⟨hbc, ev, rw_, rfl, _, hg⟩
          obtain ⟨hev, hrw, hel, hrl, hdd⟩ := hg HC0.out
          rw [hel] at hev
          rw [hrl] at hrw
          rw [HC0.out]
          obtain ⟨ea, ec, rfl⟩ := own_slice hev
          obtain ⟨ra, rc, rfl⟩ := own_slice hrw
          have HBC := hide hbc
          have HEV := hide hev
          have HRW := hide hrw
          have HEL := hide (And.intro hel hrl)
          have HDD := hide hdd
          clear hbc hev hrw hel hrl hdd hg)
        clear p0 p1 p2 p3 p4 hc
        have HXC := hide (HXB.out.below HBC.out HXB.out.lt)
        have HKC := hide (((HK7.out.below HBI.out HK7.out.lt).below HBIB.out (HK7.out.below HBI.out HK7.out.lt).lt).below HBC.out ((HK7.out.below HBI.out HK7.out.lt).below HBIB.out (HK7.out.below HBI.out HK7.out.lt).lt).lt)
        have HBIC := hide (HBIB.out.trans (HBC.out.mono HBIB.out.size))
        have HFC := hide (HFB.out.only (Only.of_new (S := fun _ => False) HBC.out) (fun k hk => False.elim hk))
        have hc := sameProgram_i Wc xv (lentPV gg gv gt go gcd (progOf P)) (progOf P) ((HXAM.out.below HBB.out).below HBC.out) ((HLA7.out.below HBI.out).below HBIC.out)
        rw [HXV.out] at hc
        simp only [PV.val, lentPV] at hc
        obtain ⟨z0, z1, z2, z3, z4, z5, _⟩ := blk6 HXC.out
        obtain ⟨y0, y1, y2, y3, y4, y5, _⟩ := blk6 HKC.out
        have HXL := hide (show Wa.heap.size < Wc.heap.size ∧ Wi.heap.size ≤ Wa.heap.size from ⟨HXC.out.lt, HBA.out.size⟩)
        have hxd : ∀ W, Below Wc.heap.size Wc W → Blk W Wa.heap.size 34 #[.slice xga P.gh.length xgc, .slice xva P.vs.length xvc, .slice xta P.ts.length xtc, .slice xoa (makeC P).1.on.length xoc, .int .i64 (makeC P).2, .slice xca (makeC P).1.cd.length xcc] := fun W hb => HXC.out.below hb HXC.out.lt
        have HXD := hide hxd
        clear hxd
        go_upto_region 14 with (
          go_at_call 18
          with_reducible refine hc.mono ?_
          rintro en Wd ⟨rfl, hbd⟩
          have HBD := hide hbd
          have hxw := HXD.out Wd hbd
          obtain ⟨c0, c1, c2, c3, c4, c5, _⟩ := blk6 hxw
          clear hbd hxw)
        clear z0 z1 z2 z3 z4 z5 y0 y1 y2 y3 y4 y5 c0 c1 c2 c3 c4 c5 hc
        have HED := hide (own_below HEV.out HBD.out (Nat.le_refl _))
        have HRD := hide (own_below HRW.out HBD.out (Nat.le_refl _))
        have HFD := hide (HFC.out.only (Only.of_new (S := fun _ => False) HBD.out) (fun k hk => False.elim hk))
        have HXd := hide (HXD.out Wd HBD.out)
        have HID := hide (HBI.out.trans ((HBIC.out.trans (HBD.out.mono HBIC.out.size)).mono HBI.out.size))
        have HSB := hide (show Wb.heap.size ≤ Wd.heap.size ∧ W7.heap.size ≤ Wb.heap.size ∧ W7.heap.size ≤ Wd.heap.size ∧ W7.heap.size ≤ Wi.heap.size from ⟨Nat.le_trans HBC.out.size HBD.out.size, Nat.le_trans HBI.out.size HBIB.out.size, HID.out.size, HBI.out.size⟩)
        have HXW := hide (show Wa.heap.size < Wb.heap.size from HXB.out.lt)
        clear HXC HKC HXD HFC HBIC HBC HBD HEV HRW
        have hc := spoil_i Wd Wb.heap.size (.slice ea (makeC P).1.cd.length ec) (makeC P).1.ev (by rw [HEL.out.1]; exact HED.out) HSB.out.1 (by rw [HEL.out.1]; have h9 := HCL.out; omega)
        go_upto_region 15 with (
          go_at_call 24
          with_reducible refine hc.mono ?_
          rintro en We ⟨rfl, ho⟩
          have HOE := hide ho
          clear ho)
        clear hc
        have HRE := hide (own_only HRD.out HOE.out (fun k hk hk2 => HDD.out k hk2 hk))
        have HFE := hide (HFB.out.far HFD.out HOE.out (fun k hk => (HED.out.lt k hk).1))
        have HXe := hide (HXd.out.only HOE.out (fun h9 => by have h8 := (HED.out.lt _ h9).1; have h7 := HXW.out; omega))
        have HIE := hide (below_own HID.out HOE.out HED.out HSB.out.2.1 HSB.out.2.2.1)
        have HSE := hide (show Wb.heap.size ≤ We.heap.size ∧ W7.heap.size ≤ We.heap.size from ⟨Nat.le_trans HSB.out.1 HOE.out.size, Nat.le_trans HSB.out.2.2.1 HOE.out.size⟩)
        have HOE9 := hide HOE.out.size
        clear HOE HED HRD HFD HXd HID
        have hc := spoil_i We Wb.heap.size (.slice ra (makeC P).1.cd.length rc) (makeC P).1.rw (by rw [HEL.out.2]; exact HRE.out) HSE.out.1 (by rw [HEL.out.2]; have h9 := HCL.out; omega)
        go_upto_region 16 with (
          go_at_call 24
          with_reducible refine hc.mono ?_
          rintro en Wf ⟨rfl, ho⟩
          have HOF := hide ho
          clear ho)
        clear hc
        have HFF := hide (HFB.out.far HFE.out HOF.out (fun k hk => (HRE.out.lt k hk).1))
        have HXf := hide (HXe.out.only HOF.out (fun h9 => by have h8 := (HRE.out.lt _ h9).1; have h7 := HXW.out; omega))
        have HIF := hide (below_own HIE.out HOF.out HRE.out HSB.out.2.1 HSE.out.2)
        have HSF := hide (show Wd.heap.size ≤ Wf.heap.size from Nat.le_trans HOE9.out HOF.out.size)
        have HSD := hide (show Wi.heap.size ≤ Wd.heap.size from Nat.le_trans HBIB.out.size HSB.out.1)
        clear HOF HRE HFE HXe HIE HSE HDD HEL HFB HXB HBB HOE9
        have OG := hide HFF.out.og
        have OV := hide HFF.out.ov
        have OT := hide HFF.out.ot
        have OO := hide HFF.out.oo
        have OC := hide HFF.out.oc
        have ODD := hide HFF.out.d
        clear HFF
        obtain ⟨z0, z1, z2, z3, z4, z5, _⟩ := blk6 HXf.out
        go_wp2_with fail
        clear z0 z1 z2 z3 z4 z5
        have HX := hide HXf.out
        have HI := hide HIF.out
        have HS := hide (show Wd.heap.size ≤ Wf.heap.size from HSF.out)
        have HSX := hide (show Wi.heap.size ≤ Wd.heap.size from HSD.out)
        clear HXf HIF HSF HSD
        go_loopw [12] (fun tz Wx => ∃ k : Nat, tz = .int .i64 (k : Int) ∧ k ≤ (makeC P).1.cd.length ∧ Room Wx xca (makeC P).1.cd.length 5 56 ∧ Only (fun k => (Value.slice xca (makeC P).1.cd.length xcc).ownBlock = some k) Wf Wx) (fun tz _ => (makeC P).1.cd.length - (intOf tz).toNat)
        case atStart => exact ⟨0, rfl, Nat.zero_le _, own_room OC.out, Only.refl _ _⟩
        case round =>
          obtain ⟨k, rfl, hk, hroom, hox⟩ := hrel
          rename World => Wx2
          have HROOM := hide hroom
          have HOX := hide hox
          have hv16 := HLENS.out.2.1
          have hg16 := HLENS.out.1
          have hq3 := IntWalk.i64_in ((k : Int) + 1) (by omega)
          have hxx := HX.out.only hox (own_blk_ne OC.out HX.out (by decide))
          have HXX := hide hxx
          obtain ⟨z0, z1, z2, z3, z4, z5, _⟩ := blk6 hxx
          clear hroom hox hxx
          by_cases hkl : k < (makeC P).1.cd.length
          · have hkI : (k : Int) < ((makeC P).1.cd.length : Int) := by omega
            obtain ⟨g9, cur, rfl, hgk, hgs⟩ := HROOM.out (by omega)
            obtain ⟨v0, c0⟩ := Room.cell hgk hgs (i := k) (j := 0) hkl (by decide)
            have f0 := hgk.frozen (k * 5 + 0)
            obtain ⟨v1, c1⟩ := Room.cell hgk hgs (i := k) (j := 1) hkl (by decide)
            have f1 := hgk.frozen (k * 5 + 1)
            obtain ⟨v2, c2⟩ := Room.cell hgk hgs (i := k) (j := 2) hkl (by decide)
            have f2 := hgk.frozen (k * 5 + 2)
            obtain ⟨v3, c3⟩ := Room.cell hgk hgs (i := k) (j := 3) hkl (by decide)
            have f3 := hgk.frozen (k * 5 + 3)
            obtain ⟨v4, c4⟩ := Room.cell hgk hgs (i := k) (j := 4) hkl (by decide)
            have f4 := hgk.frozen (k * 5 + 4)
            simp only [Nat.add_zero] at c0 f0
            have HGK := hide hgk
            have HGS := hide hgs
            have hx9 : g9 ≠ Wa.heap.size := fun e => own_blk_ne OC.out HX.out (by decide) (by rw [← e]; rfl)
            have hx8 := Ne.symm hx9
            clear hgk hgs
            go_wp2_with fail
            go_roundw
            case rel => exact ⟨k + 1, by go_num, by omega, fun _ => ⟨g9, _, rfl, (((((HGK.out.set_ (k * 5) (.int .i64 0)).set_ (k * 5 + 1) (.int .i64 0)).set_ (k * 5 + 2) (.int .i64 0)).set_ (k * 5 + 3) (.int .i64 0)).set_ (k * 5 + 4) (.int .i64 0)), by simpa using HGS.out⟩, (((((HOX.out.setCell (p := ⟨g9, k * 5, none⟩) (.inl rfl) (.int .i64 0)).setCell (p := ⟨g9, k * 5 + 1, none⟩) (.inl rfl) (.int .i64 0)).setCell (p := ⟨g9, k * 5 + 2, none⟩) (.inl rfl) (.int .i64 0)).setCell (p := ⟨g9, k * 5 + 3, none⟩) (.inl rfl) (.int .i64 0)).setCell (p := ⟨g9, k * 5 + 4, none⟩) (.inl rfl) (.int .i64 0))⟩
            case measure =>
              simp only [intOf]
              omega
          · have hkI : ¬ (k : Int) < ((makeC P).1.cd.length : Int) := by omega
            clear hkl hv16 hg16
            replace HI := hide (below_own HI.out HOX.out OC.out HSB.out.2.2.2 (Nat.le_trans HSB.out.2.2.1 HS.out))
            replace OO := hide (own_only OO.out HOX.out (fun k hk hk2 => own_own_ne OO.out OC.out (by decide) k hk hk2))
            replace OT := hide (own_only OT.out HOX.out (fun k hk hk2 => own_own_ne OT.out OC.out (by decide) k hk hk2))
            replace OV := hide (own_only OV.out HOX.out (fun k hk hk2 => own_own_ne OV.out OC.out (by decide) k hk hk2))
            replace OG := hide (own_only OG.out HOX.out (fun k hk hk2 => own_own_ne OG.out OC.out (by decide) k hk hk2))
            replace HX := hide HXX.out
            replace HS := hide (show Wd.heap.size ≤ Wx2.heap.size from Nat.le_trans HS.out HOX.out.size)
            clear HROOM HOX HXX OC
            have hc := spoil_i Wx2 Wi.heap.size (Value.slice xoa (makeC P).1.on.length xoc) (makeC P).1.on OO.out (Nat.le_trans HSX.out HS.out) (by have h9 := HLENS.out; have h8 := make_on_len P; omega)
            go_upto_region 21 with (
              go_at_call 24
              with_reducible refine hc.mono ?_
              rintro en W20 ⟨rfl, ho⟩
              have HOX := hide ho
              clear ho)
            clear hc z0 z1 z2 z3 z4 z5
            replace HI := hide (below_own HI.out HOX.out OO.out HSB.out.2.2.2 (Nat.le_trans HSB.out.2.2.1 HS.out))
            replace OT := hide (own_only OT.out HOX.out (fun k hk hk2 => ODD.out k hk hk2))
            replace OV := hide (own_only OV.out HOX.out (fun k hk hk2 => own_own_ne OV.out OO.out (by decide) k hk hk2))
            replace OG := hide (own_only OG.out HOX.out (fun k hk hk2 => own_own_ne OG.out OO.out (by decide) k hk hk2))
            replace HX := hide (HX.out.only HOX.out (own_blk_ne OO.out HX.out (by decide)))
            replace HS := hide (show Wd.heap.size ≤ W20.heap.size from Nat.le_trans HS.out HOX.out.size)
            clear HOX OO
            obtain ⟨z0, z1, z2, z3, z4, z5, _⟩ := blk6 HX.out
            have hc := spoil_i W20 Wi.heap.size (Value.slice xta P.ts.length xtc) P.ts OT.out (Nat.le_trans HSX.out HS.out) (by have h9 := HLENS.out; omega)
            go_upto_region 22 with (
              go_at_call 24
              with_reducible refine hc.mono ?_
              rintro en W21 ⟨rfl, ho⟩
              have HOX := hide ho
              clear ho)
            clear hc z0 z1 z2 z3 z4 z5
            replace HI := hide (below_own HI.out HOX.out OT.out HSB.out.2.2.2 (Nat.le_trans HSB.out.2.2.1 HS.out))
            replace OV := hide (own_only OV.out HOX.out (fun k hk hk2 => own_own_ne OV.out OT.out (by decide) k hk hk2))
            replace OG := hide (own_only OG.out HOX.out (fun k hk hk2 => own_own_ne OG.out OT.out (by decide) k hk hk2))
            replace HX := hide (HX.out.only HOX.out (own_blk_ne OT.out HX.out (by decide)))
            replace HS := hide (show Wd.heap.size ≤ W21.heap.size from Nat.le_trans HS.out HOX.out.size)
            clear HOX OT
            obtain ⟨z0, z1, z2, z3, z4, z5, _⟩ := blk6 HX.out
            go_wp2_with fail
            go_loopw [13] (fun tz Wx => ∃ k : Nat, tz = .int .i64 (k : Int) ∧ k ≤ P.vs.length ∧ Room Wx xva P.vs.length 3 51 ∧ Only (fun k => (Value.slice xva P.vs.length xvc).ownBlock = some k) W21 Wx) (fun tz _ => P.vs.length - (intOf tz).toNat)
            case atStart => exact ⟨0, rfl, Nat.zero_le _, own_room OV.out, Only.refl _ _⟩
            case round =>
              obtain ⟨k, rfl, hk, hroom, hox⟩ := hrel
              rename World => Wx3
              have HROOM := hide hroom
              have HOX := hide hox
              have hv16 := HLENS.out.2.1
              have hg16 := HLENS.out.1
              have hq3 := IntWalk.i64_in ((k : Int) + 1) (by omega)
              have hxx := HX.out.only hox (own_blk_ne OV.out HX.out (by decide))
              have HXX := hide hxx
              obtain ⟨z0, z1, z2, z3, z4, z5, _⟩ := blk6 hxx
              clear hroom hox hxx
              by_cases hkl : k < P.vs.length
              · have hkI : (k : Int) < (P.vs.length : Int) := by omega
                obtain ⟨g9, cur, rfl, hgk, hgs⟩ := HROOM.out (by omega)
                obtain ⟨v0, c0⟩ := Room.cell hgk hgs (i := k) (j := 0) hkl (by decide)
                have f0 := hgk.frozen (k * 3 + 0)
                obtain ⟨v1, c1⟩ := Room.cell hgk hgs (i := k) (j := 1) hkl (by decide)
                have f1 := hgk.frozen (k * 3 + 1)
                obtain ⟨v2, c2⟩ := Room.cell hgk hgs (i := k) (j := 2) hkl (by decide)
                have f2 := hgk.frozen (k * 3 + 2)
                simp only [Nat.add_zero] at c0 f0
                have HGK := hide hgk
                have HGS := hide hgs
                have hx9 : g9 ≠ Wa.heap.size := fun e => own_blk_ne OV.out HX.out (by decide) (by rw [← e]; rfl)
                have hx8 := Ne.symm hx9
                clear hgk hgs
                go_wp2_with fail
                go_roundw
                case rel => exact ⟨k + 1, by go_num, by omega, fun _ => ⟨g9, _, rfl, (((HGK.out.set_ (k * 3) (.int .i64 8)).set_ (k * 3 + 1) (.int .i64 0)).set_ (k * 3 + 2) (.int .i64 0)), by simpa using HGS.out⟩, (((HOX.out.setCell (p := ⟨g9, k * 3, none⟩) (.inl rfl) (.int .i64 8)).setCell (p := ⟨g9, k * 3 + 1, none⟩) (.inl rfl) (.int .i64 0)).setCell (p := ⟨g9, k * 3 + 2, none⟩) (.inl rfl) (.int .i64 0))⟩
                case measure =>
                  simp only [intOf]
                  omega
              · have hkI : ¬ (k : Int) < (P.vs.length : Int) := by omega
                clear hkl hv16 hg16
                replace HI := hide (below_own HI.out HOX.out OV.out HSB.out.2.2.2 (Nat.le_trans HSB.out.2.2.1 HS.out))
                replace OG := hide (own_only OG.out HOX.out (fun k hk hk2 => own_own_ne OG.out OV.out (by decide) k hk hk2))
                replace HX := hide HXX.out
                replace HS := hide (show Wd.heap.size ≤ Wx3.heap.size from Nat.le_trans HS.out HOX.out.size)
                clear HROOM HOX HXX OV
                clear z0 z1 z2 z3 z4 z5
                obtain ⟨z0, z1, z2, z3, z4, z5, _⟩ := blk6 HX.out
                go_wp2_with fail
                go_loopw [14] (fun tz Wx => ∃ k : Nat, tz = .int .i64 (k : Int) ∧ k ≤ P.gh.length ∧ RoomB Wx xga P.gh.length ∧ Only (fun k => (Value.slice xga P.gh.length xgc).ownBlock = some k) Wx3 Wx) (fun tz _ => P.gh.length - (intOf tz).toNat)
                case atStart => exact ⟨0, rfl, Nat.zero_le _, own_roomB OG.out, Only.refl _ _⟩
                case round =>
                  obtain ⟨k, rfl, hk, hroom, hox⟩ := hrel
                  rename World => Wx4
                  have HROOM := hide hroom
                  have HOX := hide hox
                  have hv16 := HLENS.out.2.1
                  have hg16 := HLENS.out.1
                  have hq3 := IntWalk.i64_in ((k : Int) + 1) (by omega)
                  have hxx := HX.out.only hox (own_blk_ne OG.out HX.out (by decide))
                  have HXX := hide hxx
                  obtain ⟨z0, z1, z2, z3, z4, z5, _⟩ := blk6 hxx
                  clear hroom hox hxx
                  by_cases hkl : k < P.gh.length
                  · have hkI : (k : Int) < (P.gh.length : Int) := by omega
                    obtain ⟨g9, cur, rfl, hgk, hgs⟩ := HROOM.out (by omega)
                    obtain ⟨b9, hb9⟩ := hgs k hkl
                    have c0 : Wx4.cell? ⟨g9, k, none⟩ = some (.bool b9) := by rw [hgk.cell]; exact hb9
                    have f0 := hgk.frozen k
                    clear hb9
                    have HGK := hide hgk
                    have HGS := hide hgs
                    have hx9 : g9 ≠ Wa.heap.size := fun e => own_blk_ne OG.out HX.out (by decide) (by rw [← e]; rfl)
                    have hx8 := Ne.symm hx9
                    clear hgk hgs
                    go_upto_region 29 with fail
                    go_still_tail 10, (by kernel_rfl)
                    change wpList _ _ _ _ _ Wx4.drew
                    go_wp2_with fail
                    go_roundw
                    case rel => exact ⟨k + 1, by go_num, by omega, fun _ => ⟨g9, _, rfl, (HGK.out.drew.set_ (k) (.bool (!b9))), roomB_set HGS.out k (!b9)⟩, (HOX.out.drew.setCell (p := ⟨g9, k, none⟩) (.inl rfl) (.bool (!b9)))⟩
                    case measure =>
                      simp only [intOf]
                      omega
                  · have hkI : ¬ (k : Int) < (P.gh.length : Int) := by omega
                    clear hkl hv16 hg16
                    replace HI := hide (below_own HI.out HOX.out OG.out HSB.out.2.2.2 (Nat.le_trans HSB.out.2.2.1 HS.out))
                    replace HX := hide HXX.out
                    replace HS := hide (show Wd.heap.size ≤ Wx4.heap.size from Nat.le_trans HS.out HOX.out.size)
                    clear HROOM HOX HXX OG
                    skip
                    go_wp2_with fail
                    go_roundw
                    case rel => exact ⟨i + 1, by go_num, by omega, HI.out⟩
                    case measure =>
                      simp only [intOf]
                      omega
      · have hiI : ¬ (i : Int) < 2 := by omega
        have hxw := HX7.out.below HBI.out HX7.out.lt
        have hkw := HK7.out.below HBI.out HK7.out.lt
        obtain ⟨z0, z1, z2, z3, z4, z5, _⟩ := blk6 hxw
        obtain ⟨y0, y1, y2, y3, y4, y5, _⟩ := blk6 hkw
        have hc := sameProgram_i Wi pv (lentPV gg gv gt go gcd (progOf P)) (progOf P) (HAM7.out.below HBI.out) (HLA7.out.below HBI.out)
        simp only [PV.val, lentPV] at hc
        clear hxw hkw hil hi
        go_upto_region 32 with (
          go_at_call 18
          with_reducible refine hc.mono ?_
          rintro en Wj ⟨rfl, hbj⟩
          have HBJ := hide hbj
          clear hbj)
        clear hc z0 z1 z2 z3 z4 z5 y0 y1 y2 y3 y4 y5
        have HWJ := hide (HWI.out.trans (HBJ.out.mono HWI.out.size))
        have hpj := (HP7.out.below HBI.out HP7.out.lt).below HBJ.out (HP7.out.below HBI.out HP7.out.lt).lt
        obtain ⟨p0, p1, p2, p3, p4, _⟩ := blk5 hpj
        clear hpj
        have HEV1 := hide (show ∀ l ∈ P.on ++ [P.ms], l.length ≤ 131072 from fun l hl => by have h9 := HLENS.out.2.2.2.2; rcases List.mem_append.1 hl with h8 | h8; obtain ⟨j, hj⟩ := List.getElem?_of_mem h8; have := rowsV_one hj; omega; simp at h8; rw [h8]; omega)
        have hc := HLP.out Wj HWJ.out (by have h9 := HLENS.out; omega) (fun l hl => Nat.le_trans (HEV1.out l hl) (by decide))
        simp only [lentPl, PlV.val] at hc
        go_upto_region 33 with (
          go_at_call 14
          with_reducible refine hc.mono ?_
          rintro en Wk ⟨mg, mv, mt, ml, mm, es, rfl, hlp, hbk⟩
          have HLQ := hide hlp
          have HBK := hide hbk
          clear hlp hbk)
        clear hc p0 p1 p2 p3 p4
        have HBL := hide ((Below.refl Wk.heap.size Wk).alloc (Nat.le_refl _) (.cells #[.slice (some ⟨mg, 0, none⟩) P.gh.length (P.gh.length + 3), .slice (some ⟨mv, 0, none⟩) P.vs.length (P.vs.length + 3), .slice (some ⟨mt, 0, none⟩) P.ts.length (P.ts.length + 5), .slice (some ⟨ml, 0, none⟩) P.on.length (P.on.length + 2), .slice (some ⟨mm, 0, none⟩) P.ms.length (P.ms.length + 9)] 28))
        have HM := hide (Blk.new Wk 28 #[.slice (some ⟨mg, 0, none⟩) P.gh.length (P.gh.length + 3), .slice (some ⟨mv, 0, none⟩) P.vs.length (P.vs.length + 3), .slice (some ⟨mt, 0, none⟩) P.ts.length (P.ts.length + 5), .slice (some ⟨ml, 0, none⟩) P.on.length (P.on.length + 2), .slice (some ⟨mm, 0, none⟩) P.ms.length (P.ms.length + 9)])
        generalize Wk.alloc (.cells #[.slice (some ⟨mg, 0, none⟩) P.gh.length (P.gh.length + 3), .slice (some ⟨mv, 0, none⟩) P.vs.length (P.vs.length + 3), .slice (some ⟨mt, 0, none⟩) P.ts.length (P.ts.length + 5), .slice (some ⟨ml, 0, none⟩) P.on.length (P.on.length + 2), .slice (some ⟨mm, 0, none⟩) P.ms.length (P.ms.length + 9)] 28) = Wl at HBL HM
        have HLQ2 := hide (HLQ.out.below HBL.out)
        have HWL := hide ((HWJ.out.trans (HBK.out.mono HWJ.out.size)).trans (HBL.out.mono (Nat.le_trans HWJ.out.size HBK.out.size)))
        have HWS := hide (show w.heap.size ≤ Wj.heap.size from HWJ.out.size)
        have HMB := hide (show Wj.heap.size ≤ Wk.heap.size from HBK.out.size)
        obtain ⟨p0, p1, p2, p3, p4, _⟩ := blk5 HM.out
        by_cases hm0 : P.ms.length = 0
        · have hmI : ((P.ms.length : Int) == 0) = true := by rw [hm0]; rfl
          have hm9 := hm0
          clear hm0
          go_wp2_with fail
          go_ret
          exact ⟨rfl, HWL.out⟩
        · have hmI : ((P.ms.length : Int) == 0) = false := beq_eq_false_iff_ne.2 (by omega)
          have hmp : 1 ≤ P.ms.length := by omega
          have hm16 := HEV1.out P.ms (by simp)
          clear hm0
          go_wp2_with fail
          clear p0 p1 p2 p3 p4
          go_loopw [16] (fun t16 Wx => ∃ (k : Nat) (l : List Ac), t16 = .int .i64 (k : Int) ∧ k ≤ 3 ∧ l.length = P.ms.length ∧ LentP Wx Wj.heap.size mg mv mt ml mm es ⟨P.gh, P.vs, P.ts, P.on, l⟩ ∧ Blk Wx Wk.heap.size 28 #[.slice (some ⟨mg, 0, none⟩) P.gh.length (P.gh.length + 3), .slice (some ⟨mv, 0, none⟩) P.vs.length (P.vs.length + 3), .slice (some ⟨mt, 0, none⟩) P.ts.length (P.ts.length + 5), .slice (some ⟨ml, 0, none⟩) P.on.length (P.on.length + 2), .slice (some ⟨mm, 0, none⟩) P.ms.length (P.ms.length + 9)] ∧ Below w.heap.size w Wx) (fun t16 _ => 3 - (intOf t16).toNat)
          case atStart => exact ⟨0, P.ms, rfl, by omega, rfl, HLQ2.out, HM.out, HWL.out⟩
          case round =>
            obtain ⟨k, l, rfl, hk, hll, hlq, hmm, hwx⟩ := hrel
            rename World => Wx
            have HLL := hide hll
            have HLX := hide hlq
            have HMX := hide hmm
            have HWX := hide hwx
            have hq3 := IntWalk.i64_in ((k : Int) + 1) (by omega)
            have hq4 := IntWalk.i64_in ((P.ms.length : Int) - 1) (by omega)
            have HPX := hide (fun (W : World) (hb : Below Wx.heap.size Wx W) => (hlq.below hb).mem (by have h9 := HLENS.out; unfold maxLen; simp only; omega) (fun l9 hl9 => by rcases List.mem_append.1 hl9 with h8 | h8; exact Nat.le_trans (HEV1.out l9 (List.mem_append_left _ h8)) (by decide); simp at h8; rw [h8, hll]; omega))
            have HBG := hide (show ∀ l9 ∈ P.on ++ [l], l9.length ≤ 131072 from fun l9 hl9 => by rcases List.mem_append.1 hl9 with h8 | h8; exact HEV1.out l9 (List.mem_append_left _ h8); simp at h8; rw [h8, hll]; exact hm16)
            clear hll hlq hmm hwx
            obtain ⟨p0, p1, p2, p3, p4, _⟩ := blk5 HMX.out
            by_cases hkl : k < 3
            · have hkI : (k : Int) < 3 := by omega
              have HMK2 := hide (fun (W : World) (hb : Below Wx.heap.size Wx W) => make_i W _ ⟨P.gh, P.vs, P.ts, P.on, l⟩ _ (HPX.out W hb) (fun l9 hl9 => Nat.le_trans (HBG.out l9 hl9) (by decide)))
              simp only [lentPl, PlV.val, HLL.out] at HMK2
              have HLP2 := hide (fun (W : World) (hb : Below Wx.heap.size Wx W) => lendPlan_i W _ ⟨P.gh, P.vs, P.ts, P.on, l⟩ _ (HPX.out W hb) (by have h9 := HLENS.out; simp only; omega) (fun l9 hl9 => Nat.le_trans (HBG.out l9 hl9) (by decide)))
              simp only [lentPl, PlV.val, HLL.out] at HLP2
              have hc := HMK2.out Wx (Below.refl _ _)
              go_upto_region 39 with (
                go_at_call 15
                with_reducible refine hc.mono ?_
                intro en Wa hmk
                obtain ⟨hba, xv, rfl, xam, _⟩ := hmk.out
                have HBA := hide hba
                have HXAM := hide xam
                simp only [PV.val]
                clear hmk hba xam)
              clear p0 p1 p2 p3 p4 hc
              have HBB := hide (HBA.out.trans (((Below.refl Wa.heap.size Wa).alloc (Nat.le_refl _) (.cells #[.slice xv.ga xv.gl xv.gc, .slice xv.va xv.vl xv.vc, .slice xv.ta xv.tl xv.tc, .slice xv.oa xv.ol xv.oc, .int .i64 xv.miss, .slice xv.ca xv.cl xv.cc] 34)).mono HBA.out.size))
              have HXB := hide (Blk.new Wa 34 #[.slice xv.ga xv.gl xv.gc, .slice xv.va xv.vl xv.vc, .slice xv.ta xv.tl xv.tc, .slice xv.oa xv.ol xv.oc, .int .i64 xv.miss, .slice xv.ca xv.cl xv.cc])
              have HXAM2 := hide (HXAM.out.below ((Below.refl Wa.heap.size Wa).alloc (Nat.le_refl _) (.cells #[.slice xv.ga xv.gl xv.gc, .slice xv.va xv.vl xv.vc, .slice xv.ta xv.tl xv.tc, .slice xv.oa xv.ol xv.oc, .int .i64 xv.miss, .slice xv.ca xv.cl xv.cc] 34)))
              generalize Wa.alloc (.cells #[.slice xv.ga xv.gl xv.gc, .slice xv.va xv.vl xv.vc, .slice xv.ta xv.tl xv.tc, .slice xv.oa xv.ol xv.oc, .int .i64 xv.miss, .slice xv.ca xv.cl xv.cc] 34) = Wb at HBB HXB HXAM2
              have hmb := HMX.out.below HBB.out HMX.out.lt
              obtain ⟨p0, p1, p2, p3, p4, _⟩ := blk5 hmb
              clear hmb
              have hc := HLP2.out Wb HBB.out
              go_upto_region 40 with (
                first
                | (go_at_call 14
                   with_reducible refine hc.mono ?_
                   rintro en Wc ⟨ng, nv, nt, nl, nm, es2, rfl, hlp2, hbc⟩
                   have hc2 := make_i Wc _ ⟨P.gh, P.vs, P.ts, P.on, l⟩ _ (hlp2.mem (by have h9 := HLENS.out; unfold maxLen; simp only; omega) (fun l9 hl9 => Nat.le_trans (HBG.out l9 hl9) (by decide))) (fun l9 hl9 => Nat.le_trans (HBG.out l9 hl9) (by decide))
                   simp only [lentPl, PlV.val, HLL.out] at hc2
                   have HBC := hide hbc
                   clear hlp2 hbc)
                | (go_at_call 15
                   with_reducible refine hc2.mono ?_
                   intro en Wd hmk
                   obtain ⟨hbd, yv, rfl, yam, _⟩ := hmk.out
                   have HBD := hide hbd
                   have HYAM := hide yam
                   simp only [PV.val]
                   clear hmk hbd yam))
              clear p0 p1 p2 p3 p4 hc hc2
              have HBBD := hide (HBC.out.trans (HBD.out.mono HBC.out.size))
              have HBE := hide ((Below.refl Wd.heap.size Wd).alloc (Nat.le_refl _) (.cells #[.slice yv.ga yv.gl yv.gc, .slice yv.va yv.vl yv.vc, .slice yv.ta yv.tl yv.tc, .slice yv.oa yv.ol yv.oc, .int .i64 yv.miss, .slice yv.ca yv.cl yv.cc] 34))
              have HYB := hide (Blk.new Wd 34 #[.slice yv.ga yv.gl yv.gc, .slice yv.va yv.vl yv.vc, .slice yv.ta yv.tl yv.tc, .slice yv.oa yv.ol yv.oc, .int .i64 yv.miss, .slice yv.ca yv.cl yv.cc])
              generalize Wd.alloc (.cells #[.slice yv.ga yv.gl yv.gc, .slice yv.va yv.vl yv.vc, .slice yv.ta yv.tl yv.tc, .slice yv.oa yv.ol yv.oc, .int .i64 yv.miss, .slice yv.ca yv.cl yv.cc] 34) = We at HBE HYB
              have HBDE := hide (HBBD.out.trans (HBE.out.mono HBBD.out.size))
              have HBXE := hide (HBB.out.trans (HBDE.out.mono HBB.out.size))
              have HYAM2 := hide (HYAM.out.below HBE.out)
              have HXAM3 := hide (HXAM2.out.below HBDE.out)
              have hxe := HXB.out.below HBDE.out HXB.out.lt
              obtain ⟨z0, z1, z2, z3, z4, z5, _⟩ := blk6 hxe
              obtain ⟨y0, y1, y2, y3, y4, y5, _⟩ := blk6 HYB.out
              clear hxe
              obtain ⟨e9, he9⟩ : ∃ e9, (checkV ⟨P.gh, P.vs, P.ts, P.on, l⟩ : Int) = e9 := ⟨_, rfl⟩
              rw [he9]
              clear he9
              have hc := sameProgram_i We xv yv (progOf ⟨P.gh, P.vs, P.ts, P.on, l⟩) HXAM3.out HYAM2.out
              simp only [PV.val] at hc
              go_upto_region 42 with (
                go_at_call 18
                with_reducible refine hc.mono ?_
                rintro en Wf ⟨rfl, hbf⟩
                have HBF := hide hbf
                clear hbf)
              clear z0 z1 z2 z3 z4 z5 y0 y1 y2 y3 y4 y5 hc
              have HBXF := hide (HBXE.out.trans (HBF.out.mono HBXE.out.size))
              have hmf := HMX.out.below HBXF.out HMX.out.lt
              obtain ⟨p0, p1, p2, p3, p4, _⟩ := blk5 hmf
              clear hmf
              have hc := HMK2.out Wf HBXF.out
              go_upto_region 43 with (
                go_at_call 15
                with_reducible refine hc.mono ?_
                intro en Wg hmk
                obtain ⟨hbg, zv, rfl, _, _⟩ := hmk.out
                have HBGG := hide hbg
                clear hmk hbg)
              clear p0 p1 p2 p3 p4 hc
              have HBXG := hide (HBXF.out.trans (HBGG.out.mono HBXF.out.size))
              have HLG2 := hide (HLX.out.below HBXG.out)
              have HMG := hide (HMX.out.below HBXG.out HMX.out.lt)
              obtain ⟨p0, p1, p2, p3, p4, _⟩ := blk5 HMG.out
              have hsz9 : (P.ms.length + 9) * 6 ≤ (acs (lendA l)).toArray.size := by simp only [List.size_toArray]; rw [acs_len]; unfold lendA; rw [List.length_append, HLL.out]; simp [markA]
              have hgm := HLG2.out.m
              obtain ⟨v0, c0⟩ := Room.cell hgm hsz9 (i := P.ms.length - 1) (j := 0) (by omega) (by decide)
              obtain ⟨v1, c1⟩ := Room.cell hgm hsz9 (i := P.ms.length - 1) (j := 1) (by omega) (by decide)
              obtain ⟨v2, c2⟩ := Room.cell hgm hsz9 (i := P.ms.length - 1) (j := 2) (by omega) (by decide)
              obtain ⟨v3, c3⟩ := Room.cell hgm hsz9 (i := P.ms.length - 1) (j := 3) (by omega) (by decide)
              obtain ⟨v4, c4⟩ := Room.cell hgm hsz9 (i := P.ms.length - 1) (j := 4) (by omega) (by decide)
              obtain ⟨v5, c5⟩ := Room.cell hgm hsz9 (i := P.ms.length - 1) (j := 5) (by omega) (by decide)
              have f0 := hgm.frozen ((P.ms.length - 1) * 6 + 0)
              have f1 := hgm.frozen ((P.ms.length - 1) * 6 + 1)
              have f2 := hgm.frozen ((P.ms.length - 1) * 6 + 2)
              have f3 := hgm.frozen ((P.ms.length - 1) * 6 + 3)
              have f4 := hgm.frozen ((P.ms.length - 1) * 6 + 4)
              have f5 := hgm.frozen ((P.ms.length - 1) * 6 + 5)
              simp only [Nat.add_zero] at c0 f0
              have ht9 : ((P.ms.length : Int) - 1).toNat = P.ms.length - 1 := by omega
              have hi9 : (P.ms.length : Int) - 1 < (P.ms.length : Int) := by omega
              have hi8 : (0 : Int) ≤ (P.ms.length : Int) - 1 := by omega
              have hi7 : P.ms.length - 1 < P.ms.length := by omega
              have HST := hide (lend_store (x := ⟨19, (k : Int), 0, 0, 0, 0⟩) HLG2.out (k := P.ms.length - 1) (by rw [HLL.out]; omega))
              have HMM9 := hide (show Wk.heap.size ≠ mm from HMG.out.ne_ hgm (by decide))
              have HBS := hide HLG2.out.base
              have HWG := hide (HWX.out.trans (HBXG.out.mono HWX.out.size))
              clear hgm hsz9 hmp
              go_wp2_with fail
              go_roundw
              case rel => exact ⟨k + 1, _, by go_num, by omega, by rw [List.length_set]; exact HLL.out, HST.out, (((((HMG.out.far HMM9.out _).far HMM9.out _).far HMM9.out _).far HMM9.out _).far HMM9.out _).far HMM9.out _, (((((HWG.out.setCell (p := ⟨mm, (P.ms.length - 1) * 6, none⟩) (Nat.le_trans HWS.out HBS.out.2.2.2.2) _).setCell (p := ⟨mm, (P.ms.length - 1) * 6 + 1, none⟩) (Nat.le_trans HWS.out HBS.out.2.2.2.2) _).setCell (p := ⟨mm, (P.ms.length - 1) * 6 + 2, none⟩) (Nat.le_trans HWS.out HBS.out.2.2.2.2) _).setCell (p := ⟨mm, (P.ms.length - 1) * 6 + 3, none⟩) (Nat.le_trans HWS.out HBS.out.2.2.2.2) _).setCell (p := ⟨mm, (P.ms.length - 1) * 6 + 4, none⟩) (Nat.le_trans HWS.out HBS.out.2.2.2.2) _).setCell (p := ⟨mm, (P.ms.length - 1) * 6 + 5, none⟩) (Nat.le_trans HWS.out HBS.out.2.2.2.2) _⟩
              case measure =>
                simp only [intOf]
                omega
            · have hkI : ¬ (k : Int) < 3 := by omega
              go_wp2_with fail
              go_ret
              exact ⟨rfl, HWX.out⟩
end Go.Proofs.Ytdpokdcendgfeaa
