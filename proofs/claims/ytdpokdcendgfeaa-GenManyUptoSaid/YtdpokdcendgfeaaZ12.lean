/- Several texts in one: gen.made: words. The walk of gen.made. The walks of gen.Make and gen.Origin. Conditions: those of each. -/
import Derived.Test.YtdpokdcendgfeaaZ6
import Derived.Test.YtdpokdcendgfeaaZ10
import Derived.Test.YtdpokdcendgfeaaZ11
set_option linter.unusedSimpArgs false
set_option linter.unusedVariables false
set_option maxHeartbeats 40000000
namespace Go.Proofs.Ytdpokdcendgfeaa
open Go.RowKit
/-- a value stored where it lies already -/
theorem set_same {w : World} {g i : Nat} {t : TypeId} {cs : Array Value} {u : Value} (h : Blk w g t cs) (hu : cs[i]? = some u) : w.setCell ⟨g, i, none⟩ u = w := by
 have e : cs.setIfInBounds i u = cs := by
   apply Array.ext_getElem?
   intro j
   rw [Array.getElem?_setIfInBounds]
   by_cases hj : i = j
   · subst hj
     rw [if_pos rfl, hu]
     split
     · rfl
     · rename_i hn
       rw [Array.getElem?_eq_none (by omega)] at hu
       cases hu
   · rw [if_neg hj]
 have h2 := h.set_ i u
 rw [e] at h2
 unfold Blk at h h2
 have hh : (w.setCell ⟨g, i, none⟩ u).heap = w.heap := by
   apply Array.ext_getElem?
   intro k
   by_cases hk : k = g
   · subst hk; rw [h2, h]
   · exact Below.heap_setCell w ⟨g, i, none⟩ u k (by simpa using hk)
 cases w
 simp only [World.setCell] at hh ⊢
 simp only [hh]
theorem own_src' {w : World} {B : Nat} {t : TypeId} {sz n : Nat} {u : Value} {xs : List Value} (h : w.ownsRow B t sz u n xs) : ∃ oa c, u = .slice oa n c ∧ Src w oa n xs := by
 obtain ⟨oa, c, rfl⟩ := own_slice h
 refine ⟨oa, c, rfl, fun h0 => ?_⟩
 rcases h.2 with ⟨e, hn⟩ | ⟨g, cap, cur, e, hb, hg, h1, h2, h3, h4⟩
 · omega
 · injection e with e1 e2 e3
   refine ⟨_, e1, (Array.getElem?_eq_some_iff.1 hg).1, fun j v hj => ?_⟩
   have hadd : (⟨g, 0, none⟩ : Addr).add j = ⟨g, j, none⟩ := by unfold Addr.add; split <;> simp_all
   rw [hadd, Blk.cell (cs := cur) hg]
   have hl : xs.length = n * sz := h.1
   have hj2 := (List.getElem?_eq_some_iff.1 hj).1
   have h5 : (cur.toList.take (n * sz))[j]? = xs[j]? := by rw [h4]
   rw [List.getElem?_take, if_pos (by omega), hj] at h5
   simpa using h5
theorem add_on (m : Mk) (n : Int) (l : List Ac) : (m.add n l).1.on = m.on := by
 unfold Mk.add
 split <;> rfl
/-- one event more -/
def Mk.more (m : Mk) (n : Int) (l : List Ac) : Mk := { (m.add n l).1 with on := (m.add n l).1.on ++ [(m.add n l).2] }
theorem adds_eq : ∀ (ls : List (List Ac)) (m : Mk) (i : Nat) (l : List Ac), Mk.adds m i (ls ++ [l]) = (Mk.adds m i ls).more ((i + ls.length : Nat) : Int) l
 | [], m, i, l => by
   simp only [List.nil_append, Mk.adds, Mk.more, add_on, List.length_nil, Nat.add_zero]
 | x :: ls, m, i, l => by
   simp only [List.cons_append, Mk.adds, List.length_cons]
   rw [adds_eq ls _ (i + 1) l]
   have e : i + 1 + ls.length = i + (ls.length + 1) := by omega
   rw [e]
theorem adds_take {ls : List (List Ac)} {i : Nat} {l : List Ac} (h : ls[i]? = some l) (m : Mk) : Mk.adds m 0 (ls.take (i + 1)) = (Mk.adds m 0 (ls.take i)).more (i : Int) l := by
 have hlt := (List.getElem?_eq_some_iff.1 h).1
 have e : ls.take (i + 1) = ls.take i ++ [l] := by rw [List.take_add_one, h]; rfl
 rw [e, adds_eq]
 simp [Nat.min_eq_left (Nat.le_of_lt hlt)]
theorem adds_on_len : ∀ (ls : List (List Ac)) (m : Mk) (i : Nat), (Mk.adds m i ls).on.length ≤ m.on.length + ls.length
 | [], m, i => by simp [Mk.adds]
 | l :: ls, m, i => by
   simp only [Mk.adds]
   refine Nat.le_trans (adds_on_len ls _ _) ?_
   simp
   omega
theorem more_len {P : Pl} {m : Mk} {n : Int} {l : List Ac} (h : Right P l) : (m.add n l).1.cd.length ≤ m.cd.length + 4 * l.length + 1 := by
 by_cases h0 : l = []
 · subst h0
   rw [add_nil]
   simp only [List.length_nil]
   omega
 · rw [add_some h0]
   have := ev_le (h h0)
   simp only [List.length_append, finL, List.length_map]
   omega
theorem adds_len {P : Pl} {ls : List (List Ac)} (hR : ∀ l ∈ ls, Right P l) : ∀ (i : Nat), i ≤ ls.length → (Mk.adds ⟨[], [], [], []⟩ 0 (ls.take i)).cd.length ≤ 4 * rowsV (ls.take i) + i
 | 0, _ => by simp [Mk.adds]
 | i + 1, hi => by
   obtain ⟨l, hl⟩ : ∃ l, ls[i]? = some l := ⟨_, List.getElem?_eq_getElem (by omega)⟩
   have ih := adds_len hR i (by omega)
   rw [adds_take hl, rowsV_succ hl]
   have := more_len (m := Mk.adds ⟨[], [], [], []⟩ 0 (ls.take i)) (n := (i : Int)) (hR l (List.mem_of_getElem? hl))
   simp only [Mk.more]
   omega
theorem check_zero {P : Pl} (h : checkV P = 0) : P.gh.length ≤ 16 ∧ P.vs.length ≤ 16 ∧ P.ts.length ≤ 4 ∧ P.on.length = P.gh.length ∧ rowsV (P.on ++ [P.ms]) ≤ 131072 ∧ ∀ l ∈ P.on ++ [P.ms], Right P l := by
 unfold checkV at h
 split at h
 · rename_i hc
   simp only [Bool.and_eq_true, decide_eq_true_eq, List.all_eq_true] at hc
   obtain ⟨⟨⟨⟨⟨⟨⟨h1, h2⟩, h3⟩, h4⟩, h5⟩, h6⟩, h7⟩, h8⟩ := hc
   exact ⟨h1, h2, h3, h4, h7, fun l hl => right_of P l (h8 l hl)⟩
 · cases h
section
variable {W W' : World} {B ob eb rb : Nat} {g vv t : Value} {ms : Int} {v : Ov} {on : List Int} {cd : List In} {ev rw : List Int}
theorem Om.miss (h : Om W B ob eb rb g vv t ms v on cd ev rw) (x : Int) : Om (W.setCell ⟨ob, 4, none⟩ (.int .i64 x)) B ob eb rb g vv t x v on cd ev rw ∧ Oto W (W.setCell ⟨ob, 4, none⟩ (.int .i64 x)) ob eb rb v v := by
 have h1 := own_blk_ne h.oo h.kk (by decide)
 have h2 := own_blk_ne h.oc h.kk (by decide)
 have h3 := own_blk_ne h.oe h.kk (by decide)
 have h4 := own_blk_ne h.or h.kk (by decide)
 refine ⟨⟨h.kk.set_ 4 _, h.ke.far (Ne.symm (Blk.ne_ h.kk h.ke (by decide))) _, h.kr.far (Ne.symm (Blk.ne_ h.kk h.kr (by decide))) _, own_far h.oo h1 _, own_far h.oc h2 _, own_far h.oe h3 _, own_far h.or h4 _, h.n1, h.n2, h.b, h.d⟩, ⟨(Only.refl _ W).setCell (.inl (.inl rfl)) _, fun k hk => .inl hk⟩⟩
end
/-- what rule.Twin has told -/
structure Tw0 (W W' : World) (P : Pl) (g v t o m : Value) (us : List Value) : Prop where
 g : W'.ownsRow W.heap.size 4 1 g P.gh.length (bools P.gh)
 v : W'.ownsRow W.heap.size 51 3 v P.vs.length (vrs P.vs)
 t : W'.ownsRow W.heap.size 3 1 t P.ts.length (ints P.ts)
 o : W'.ownsRow W.heap.size 26 1 o P.on.length us
 e : ∀ (i : Nat) (l : List Ac), P.on[i]? = some l → ∃ u, us[i]? = some u ∧ W'.ownsRow W.heap.size 49 6 u l.length (acs l)
 m : W'.ownsRow W.heap.size 49 6 m P.ms.length (acs P.ms)
 b : Below W.heap.size W W'
theorem Tw0.below {W W' W'' : World} {P : Pl} {g v t o m : Value} {us : List Value} (h : Tw0 W W' P g v t o m us) (hb : Below W'.heap.size W' W'') : Tw0 W W'' P g v t o m us :=
 ⟨own_below h.g hb (Nat.le_refl _), own_below h.v hb (Nat.le_refl _), own_below h.t hb (Nat.le_refl _), own_below h.o hb (Nat.le_refl _), fun i l hl => by obtain ⟨u, h1, h2⟩ := h.e i l hl; exact ⟨u, h1, own_below h2 hb (Nat.le_refl _)⟩, own_below h.m hb (Nat.le_refl _), h.b.trans (hb.mono h.b.size)⟩
/-- a plan's rows, a call's own -/
structure TwR (B : Nat) (W : World) (P : Pl) (g v t o m : Value) (us : List Value) : Prop where
 g : W.ownsRow B 4 1 g P.gh.length (bools P.gh)
 v : W.ownsRow B 51 3 v P.vs.length (vrs P.vs)
 t : W.ownsRow B 3 1 t P.ts.length (ints P.ts)
 o : W.ownsRow B 26 1 o P.on.length us
 e : ∀ (i : Nat) (l : List Ac), P.on[i]? = some l → ∃ u, us[i]? = some u ∧ W.ownsRow B 49 6 u l.length (acs l)
 m : W.ownsRow B 49 6 m P.ms.length (acs P.ms)
theorem Tw0.rows {W W' : World} {P : Pl} {g v t o m : Value} {us : List Value} (h : Tw0 W W' P g v t o m us) : TwR W.heap.size W' P g v t o m us := ⟨h.g, h.v, h.t, h.o, h.e, h.m⟩
theorem TwR.only {B : Nat} {W W' : World} {P : Pl} {g v t o m : Value} {us : List Value} {S : Nat → Prop} (h : TwR B W P g v t o m us) (ho : Only S W W') (hS : ∀ k, S k → k < B) : TwR B W' P g v t o m us := by
 have hk : ∀ {e : TypeId} {size n : Nat} {x : Value} {xs : List Value}, W.ownsRow B e size x n xs → W'.ownsRow B e size x n xs := fun h9 => own_only h9 ho (fun k hk hk2 => by have := (h9.lt k hk).1; have := hS k hk2; omega)
 refine ⟨hk h.g, hk h.v, hk h.t, hk h.o, fun i l hl => ?_, hk h.m⟩
 obtain ⟨u, h1, h2⟩ := h.e i l hl
 exact ⟨u, h1, hk h2⟩
/-- nothing is made yet -/
def nilO : Ov := ⟨.slice none 0 0, .slice none 0 0, .slice none 0 0, .slice none 0 0⟩
theorem nilO_in {ob eb rb k : Nat} (h : nilO.in_ ob eb rb k) : k = ob ∨ k = eb ∨ k = rb := by
 rcases h with h | h | h | h | h | h | h
 · exact .inl h
 · exact .inr (.inl h)
 · exact .inr (.inr h)
 all_goals simp [nilO, Value.ownBlock] at h
theorem om_new {W : World} {B ob eb rb : Nat} {g vv t : Value} (h : Blk W ob 34 #[g, vv, t, .slice none 0 0, .int .i64 0, .slice none 0 0]) (he : Blk W eb 24 #[.slice none 0 0]) (hr : Blk W rb 24 #[.slice none 0 0]) (hb : B ≤ ob ∧ B ≤ eb ∧ B ≤ rb) (hd : eb ≠ rb) : OmM W B ob eb rb g vv t nilO ⟨[], [], [], []⟩ :=
 ⟨⟨h, he, hr, World.ownsRow_nil _ _ _ _, World.ownsRow_nil _ _ _ _, World.ownsRow_nil _ _ _ _, World.ownsRow_nil _ _ _ _, fun k hk => by simp [nilO, Value.ownBlock] at hk, fun k hk => by simp [nilO, Value.ownBlock] at hk, hb, hd⟩, rfl, rfl⟩
/-- a program in memory, as a value: its rows are the call's own, and apart from one another -/
structure ProgIs (W : World) (B : Nat) (out : Value) (gh : List Bool) (vs : List Vr) (ts : List Int) (on : List Int) (miss : Int) (cd : List In) : Prop where
 is : ∃ g v t o c, out = .agg #[g, v, t, o, .int .i64 miss, c] ∧ W.ownsRow B 4 1 g gh.length (bools gh) ∧ W.ownsRow B 51 3 v vs.length (vrs vs) ∧ W.ownsRow B 3 1 t ts.length (ints ts) ∧ W.ownsRow B 3 1 o on.length (ints on) ∧ W.ownsRow B 56 5 c cd.length (ins cd) ∧ ∀ k, t.ownBlock = some k → o.ownBlock ≠ some k
/-- what gen.made tells -/
def Made (w : World) (P : Pl) (en : Ending) (w' : World) : Prop :=
 Below w.heap.size w w' ∧ ∃ out ev rw : Value, en = .returned (.tuple #[out, ev, rw, .int .i64 (checkV P : Int)]) ∧
   (checkV P ≠ 0 → out = .agg #[.slice none 0 0, .slice none 0 0, .slice none 0 0, .slice none 0 0, .int .i64 0, .slice none 0 0] ∧ ev = .slice none 0 0 ∧ rw = .slice none 0 0) ∧
   (checkV P = 0 → ProgIs w' w.heap.size out P.gh P.vs P.ts (makeC P).1.on (makeC P).2 (makeC P).1.cd ∧ w'.ownsRow w.heap.size 3 1 ev (makeC P).1.ev.length (ints (makeC P).1.ev) ∧ w'.ownsRow w.heap.size 3 1 rw (makeC P).1.rw.length (ints (makeC P).1.rw) ∧
     (makeC P).1.ev.length = (makeC P).1.cd.length ∧ (makeC P).1.rw.length = (makeC P).1.cd.length ∧ (makeC P).1.cd.length ≤ 1048576 ∧
     (∀ k, ev.ownBlock = some k → rw.ownBlock ≠ some k) ∧ ∀ g v t o m c, out = .agg #[g, v, t, o, m, c] → ∀ k, (t.ownBlock = some k ∨ o.ownBlock = some k) → ev.ownBlock ≠ some k ∧ rw.ownBlock ≠ some k)
theorem made_fin {w W5 W9 : World} {P : Pl} {m0 : Mk} {b2 ob eb rb : Nat} {g vv t o m : Value} {us : List Value} {v8 : Ov} {r : Int} (hmk : makeC P = m0.add (-1) P.ms) (hlen : (m0.add (-1) P.ms).1.cd.length ≤ 1048576) (hom : Om W9 w.heap.size ob eb rb g vv t r v8 (m0.add (-1) P.ms).1.on (m0.add (-1) P.ms).1.cd (m0.add (-1) P.ms).1.ev (m0.add (-1) P.ms).1.rw)
   (he : (m0.add (-1) P.ms).1.ev.length = (m0.add (-1) P.ms).1.cd.length) (hr : (m0.add (-1) P.ms).1.rw.length = (m0.add (-1) P.ms).1.cd.length) (hto : Oto W5 W9 ob eb rb nilO v8) (hb : Below w.heap.size w W5) (htw : TwR b2 W5 P g vv t o m us) (hlt : ob < b2 ∧ eb < b2 ∧ rb < b2) (hb2 : w.heap.size ≤ b2) (hr2 : (m0.add (-1) P.ms).2 = r) (hc : checkV P = 0) :
   Made w P (.returned (.tuple #[.agg #[g, vv, t, v8.o, .int .i64 r, v8.c], v8.e, v8.r, .int .i64 0])) W9.drew := by
 have hS : ∀ k, nilO.in_ ob eb rb k → k < b2 ∧ w.heap.size ≤ k := fun k hk => by
   rcases nilO_in hk with h9 | h9 | h9 <;> subst h9
   · exact ⟨hlt.1, hom.b.1⟩
   · exact ⟨hlt.2.1, hom.b.2.1⟩
   · exact ⟨hlt.2.2, hom.b.2.2⟩
 have htr := htw.only hto.o (fun k hk => (hS k hk).1)
 have hnew : ∀ k, t.ownBlock = some k → ¬ v8.in_ ob eb rb k := fun k hk hk2 => by
   have h1 := (htw.t.lt k hk)
   rcases hto.n k hk2 with h9 | h9
   · have := (hS k h9).1; omega
   · omega
 refine ⟨(hb.trans (hto.o.below (fun k hk => (hS k hk).2) hb.size)).drew, _, _, _, by rw [hc]; rfl, fun h9 => absurd hc h9, fun _ => ?_⟩
 rw [hmk, hr2]
 refine ⟨⟨g, vv, t, v8.o, v8.c, rfl, own_down htr.g hb2, own_down htr.v hb2, own_down htr.t hb2, hom.oo, hom.oc, fun k hk hk2 => hnew k hk (.inr (.inr (.inr (.inl hk2))))⟩, hom.oe, hom.or, he, hr, hlen, hom.n2, ?_⟩
 intro g' v' t' o' m' c' e k hk
 injection e with e
 injection e with e
 simp only [List.cons.injEq] at e
 obtain ⟨rfl, rfl, rfl, rfl, _, rfl, _⟩ := e
 rcases hk with hk | hk
 · exact ⟨fun h9 => hnew k hk (.inr (.inr (.inr (.inr (.inr (.inl h9)))))), fun h9 => hnew k hk (.inr (.inr (.inr (.inr (.inr (.inr h9))))))⟩
 · exact hom.n1 k hk
end Go.Proofs.Ytdpokdcendgfeaa
namespace Go.Proofs.Ytdpokdcendgfeaa
open Go.RowKit
attribute [local go_sem] par parUpon
section
variable {W : World} {g : Nat} {t : TypeId} {a b c d e f : Value}
theorem blk6 (h : Blk W g t #[a, b, c, d, e, f]) : W.cell? ⟨g, 0, none⟩ = some a ∧ W.cell? ⟨g, 1, none⟩ = some b ∧ W.cell? ⟨g, 2, none⟩ = some c ∧ W.cell? ⟨g, 3, none⟩ = some d ∧ W.cell? ⟨g, 4, none⟩ = some e ∧ W.cell? ⟨g, 5, none⟩ = some f ∧
   W.frozen? ⟨g, 0, none⟩ = false ∧ W.frozen? ⟨g, 1, none⟩ = false ∧ W.frozen? ⟨g, 2, none⟩ = false ∧ W.frozen? ⟨g, 3, none⟩ = false ∧ W.frozen? ⟨g, 4, none⟩ = false ∧ W.frozen? ⟨g, 5, none⟩ = false :=
 ⟨by rw [h.cell]; rfl, by rw [h.cell]; rfl, by rw [h.cell]; rfl, by rw [h.cell]; rfl, by rw [h.cell]; rfl, by rw [h.cell]; rfl, h.frozen 0, h.frozen 1, h.frozen 2, h.frozen 3, h.frozen 4, h.frozen 5⟩
theorem blk1 (h : Blk W g t #[a]) : W.cell? ⟨g, 0, none⟩ = some a ∧ W.frozen? ⟨g, 0, none⟩ = false := ⟨by rw [h.cell]; rfl, h.frozen 0⟩
end
set_option maxRecDepth 100000 in
theorem made_i (w : World) (q : PlV) (P : Pl) (rs : List (Option Addr × Nat)) (h : PlMem w q P rs) (hbig : ∀ l ∈ P.on ++ [P.ms], l.length ≤ 4398046511104) :
   Calls Try.prog 43 #[q.val] w fun en w' => Made w P en w' := by
 have HRES := hide (show Try.f43.results = #[.cell 2 34, .cell 3 24, .cell 4 24, .tmp 5] by kernel_rfl)
 have HM0 := hide h
 have HCK := hide (fun (W : World) (hb : Below w.heap.size w W) => check_i W q P rs (h.below hb) hbig)
 have HTW := hide (fun (W : World) (hb : Below w.heap.size w W) => twin_i P W q rs (h.below hb))
 obtain ⟨e1, e2, e3, e4, e5, _, _, _, _, _, _⟩ := h
 obtain ⟨ga, va, ta, oa, ma, gl, gc, vl, vc, tl, tc, ol, oc, ml, mc⟩ := q
 simp only at e1 e2 e3 e4 e5
 subst e1 e2 e3 e4 e5
 simp only [PlV.val] at HCK HTW ⊢
 have hw1 : Below w.heap.size w ((((w.alloc (.cells #[.slice ga P.gh.length gc, .slice va P.vs.length vc, .slice ta P.ts.length tc, .slice oa P.on.length oc, .slice ma P.ms.length mc] 28)).alloc (.cells #[.slice none 0 0, .slice none 0 0, .slice none 0 0, .slice none 0 0, .int .i64 0, .slice none 0 0] 34)).alloc (.cells #[.slice none 0 0] 24)).alloc (.cells #[.slice none 0 0] 24)) := ((((Below.refl _ w).alloc (Nat.le_refl _) _).alloc (by simp) _).alloc (by simp; omega) _).alloc (by simp; omega) _
 have hp1 : Blk ((((w.alloc (.cells #[.slice ga P.gh.length gc, .slice va P.vs.length vc, .slice ta P.ts.length tc, .slice oa P.on.length oc, .slice ma P.ms.length mc] 28)).alloc (.cells #[.slice none 0 0, .slice none 0 0, .slice none 0 0, .slice none 0 0, .int .i64 0, .slice none 0 0] 34)).alloc (.cells #[.slice none 0 0] 24)).alloc (.cells #[.slice none 0 0] 24)) w.heap.size 28 #[.slice ga P.gh.length gc, .slice va P.vs.length vc, .slice ta P.ts.length tc, .slice oa P.on.length oc, .slice ma P.ms.length mc] := ((Blk.new w _ _).alloc _).alloc _ |>.alloc _
 have ho1 : Blk ((((w.alloc (.cells #[.slice ga P.gh.length gc, .slice va P.vs.length vc, .slice ta P.ts.length tc, .slice oa P.on.length oc, .slice ma P.ms.length mc] 28)).alloc (.cells #[.slice none 0 0, .slice none 0 0, .slice none 0 0, .slice none 0 0, .int .i64 0, .slice none 0 0] 34)).alloc (.cells #[.slice none 0 0] 24)).alloc (.cells #[.slice none 0 0] 24)) (w.heap.size + 1) 34 #[.slice none 0 0, .slice none 0 0, .slice none 0 0, .slice none 0 0, .int .i64 0, .slice none 0 0] := by
   have h9 := ((Blk.new (w.alloc (.cells #[.slice ga P.gh.length gc, .slice va P.vs.length vc, .slice ta P.ts.length tc, .slice oa P.on.length oc, .slice ma P.ms.length mc] 28)) 34 #[.slice none 0 0, .slice none 0 0, .slice none 0 0, .slice none 0 0, .int .i64 0, .slice none 0 0]).alloc (.cells #[.slice none 0 0] 24)).alloc (.cells #[.slice none 0 0] 24)
   simpa using h9
 have he1 : Blk ((((w.alloc (.cells #[.slice ga P.gh.length gc, .slice va P.vs.length vc, .slice ta P.ts.length tc, .slice oa P.on.length oc, .slice ma P.ms.length mc] 28)).alloc (.cells #[.slice none 0 0, .slice none 0 0, .slice none 0 0, .slice none 0 0, .int .i64 0, .slice none 0 0] 34)).alloc (.cells #[.slice none 0 0] 24)).alloc (.cells #[.slice none 0 0] 24)) (w.heap.size + 2) 24 #[.slice none 0 0] := by
   have h9 := (Blk.new ((w.alloc (.cells #[.slice ga P.gh.length gc, .slice va P.vs.length vc, .slice ta P.ts.length tc, .slice oa P.on.length oc, .slice ma P.ms.length mc] 28)).alloc (.cells #[.slice none 0 0, .slice none 0 0, .slice none 0 0, .slice none 0 0, .int .i64 0, .slice none 0 0] 34)) 24 #[.slice none 0 0]).alloc (.cells #[.slice none 0 0] 24)
   simpa using h9
 have hr1 : Blk ((((w.alloc (.cells #[.slice ga P.gh.length gc, .slice va P.vs.length vc, .slice ta P.ts.length tc, .slice oa P.on.length oc, .slice ma P.ms.length mc] 28)).alloc (.cells #[.slice none 0 0, .slice none 0 0, .slice none 0 0, .slice none 0 0, .int .i64 0, .slice none 0 0] 34)).alloc (.cells #[.slice none 0 0] 24)).alloc (.cells #[.slice none 0 0] 24)) (w.heap.size + 3) 24 #[.slice none 0 0] := by
   have h9 := Blk.new (((w.alloc (.cells #[.slice ga P.gh.length gc, .slice va P.vs.length vc, .slice ta P.ts.length tc, .slice oa P.on.length oc, .slice ma P.ms.length mc] 28)).alloc (.cells #[.slice none 0 0, .slice none 0 0, .slice none 0 0, .slice none 0 0, .int .i64 0, .slice none 0 0] 34)).alloc (.cells #[.slice none 0 0] 24)) 24 #[.slice none 0 0]
   simpa using h9
 have HW1 := hide hw1
 have HP1 := hide hp1
 have HO1 := hide ho1
 have HE1 := hide he1
 have HR1 := hide hr1
 clear hw1 hp1 ho1 he1 hr1
 go_enter Try.func43, Try.ntmps43
 go_upto_region 1 with fail
 generalize ((((w.alloc (.cells #[.slice ga P.gh.length gc, .slice va P.vs.length vc, .slice ta P.ts.length tc, .slice oa P.on.length oc, .slice ma P.ms.length mc] 28)).alloc (.cells #[.slice none 0 0, .slice none 0 0, .slice none 0 0, .slice none 0 0, .int .i64 0, .slice none 0 0] 34)).alloc (.cells #[.slice none 0 0] 24)).alloc (.cells #[.slice none 0 0] 24)) = W1 at HW1 HP1 HO1 HE1 HR1
 have hlt := HR1.out.lt
 obtain ⟨rb, hrb⟩ : ∃ rb, w.heap.size + 1 + 1 + 1 = rb := ⟨_, rfl⟩
 obtain ⟨eb, heb⟩ : ∃ eb, w.heap.size + 1 + 1 = eb := ⟨_, rfl⟩
 obtain ⟨ob, hob⟩ : ∃ ob, w.heap.size + 1 = ob := ⟨_, rfl⟩
 rw [hrb, heb, hob]
 replace HO1 : Hid (Blk W1 ob _ _) := hob ▸ HO1
 replace HE1 : Hid (Blk W1 eb _ _) := heb ▸ HE1
 replace HR1 : Hid (Blk W1 rb _ _) := hrb ▸ HR1
 have hbo : w.heap.size ≤ ob ∧ w.heap.size ≤ eb ∧ w.heap.size ≤ rb := ⟨by omega, by omega, by omega⟩
 have hn1 : ob ≠ eb := by omega
 have hn2 : ob ≠ rb := by omega
 have hn3 : eb ≠ rb := by omega
 have hn4 := Ne.symm hn1
 have hn5 := Ne.symm hn2
 have hn6 := Ne.symm hn3
 have HBO := hide hbo
 clear hrb heb hob hbo hlt
 obtain ⟨p0, p1, p2, p3, p4, _⟩ := blk5 HP1.out
 go_upto_region 2 with (go_at_call 37
                        refine (HCK.out W1 HW1.out).mono ?_
                        rintro en W2 ⟨rfl, hb2⟩
                        have HB2 := hide hb2
                        clear hb2)
 have HP2 := hide (HP1.out.below HB2.out HP1.out.lt)
 have HO2 := hide (HO1.out.below HB2.out HO1.out.lt)
 have HE2 := hide (HE1.out.below HB2.out HE1.out.lt)
 have HR2 := hide (HR1.out.below HB2.out HR1.out.lt)
 have HW2 := hide (HW1.out.trans (HB2.out.mono HW1.out.size))
 have HB2T := hide (show w.heap.size ≤ W2.heap.size from HW2.out.size)
 clear p0 p1 p2 p3 p4
 by_cases hc : checkV P = 0
 case neg =>
   have hcb : ((checkV P : Int) != 0) = true := by simpa using hc
   obtain ⟨z0, z1, z2, z3, z4, z5, y0, y1, y2, y3, y4, y5⟩ := blk6 HO2.out
   obtain ⟨x0, u0⟩ := blk1 HE2.out
   obtain ⟨x1, u1⟩ := blk1 HR2.out
   have HC := hide hc
   obtain ⟨e9, he9⟩ : ∃ e9, (checkV P : Int) = e9 := ⟨_, rfl⟩
   have HE9 := hide he9
   rw [he9] at hcb ⊢
   clear hc he9
   go_wp2_with fail
   refine bodyPost_ret (v := .tuple #[.agg #[.slice none 0 0, .slice none 0 0, .slice none 0 0, .slice none 0 0, .int .i64 0, .slice none 0 0], .slice none 0 0, .slice none 0 0, .int .i64 e9]) ?_ rfl ?_
   · simp only [results, HRES.out]
     go_simp
   have hbb := ((((((((HW2.out.setCell (p := ⟨ob, 0, none⟩) HBO.out.1 (.slice none 0 0)).setCell (p := ⟨ob, 1, none⟩) HBO.out.1 (.slice none 0 0)).setCell (p := ⟨ob, 2, none⟩) HBO.out.1 (.slice none 0 0)).setCell (p := ⟨ob, 3, none⟩) HBO.out.1 (.slice none 0 0)).setCell (p := ⟨ob, 4, none⟩) HBO.out.1 (.int .i64 0)).setCell (p := ⟨ob, 5, none⟩) HBO.out.1 (.slice none 0 0)).setCell (p := ⟨eb, 0, none⟩) HBO.out.2.1 (.slice none 0 0)).setCell (p := ⟨rb, 0, none⟩) HBO.out.2.2 (.slice none 0 0))
   refine ⟨by first | exact hbb | exact hbb.drew | trace_state, _, _, _, by rw [HE9.out], fun _ => ⟨rfl, rfl, rfl⟩, fun h9 => absurd h9 HC.out⟩
 case pos =>
   obtain ⟨k1, k2, k3, k4, k5, kR⟩ := check_zero hc
   have HC := hide hc
   clear hc
   rw [HC.out]
   have k4a : P.on.length ≤ 16 := by omega
   have HKR := hide kR
   have HK4 := hide k4
   clear k4
   have HLEN : Hid (∀ l ∈ P.on ++ [P.ms], l.length ≤ 131072) := hide (fun l hl => by obtain ⟨i, hi⟩ := List.getElem?_of_mem hl; exact Nat.le_trans (rowsV_one hi) k5)
   clear kR
   obtain ⟨p0, p1, p2, p3, p4, _⟩ := blk5 HP2.out
   go_upto_region 4 with fail
   have HT := HTW.out W2 HW2.out k1 k2 k3 k4a HLEN.out
   clear HTW HCK
   go_upto_region 5 with (go_at_call 60
                          with_reducible refine HT.mono ?_
                          rintro en W3 ⟨g, v, t, o, m, us, rfl, og, ov, ot, oo, oe, om, hb3⟩
                          have HTWO := hide (show Tw0 W2 W3 P g v t o m us from ⟨og, ov, ot, oo, oe, om, hb3⟩)
                          obtain ⟨ag, cg, rfl⟩ := own_slice og
                          obtain ⟨av, cv, rfl⟩ := own_slice ov
                          obtain ⟨at_, ct, rfl⟩ := own_slice ot
                          obtain ⟨ao, co, rfl⟩ := own_slice oo
                          obtain ⟨am, cm, rfl⟩ := own_slice om
                          clear og ov ot oo oe om hb3)
   have HO3 := hide (HO2.out.below HTWO.out.b HO2.out.lt)
   have HE3 := hide (HE2.out.below HTWO.out.b HE2.out.lt)
   have HR3 := hide (HR2.out.below HTWO.out.b HR2.out.lt)
   have HTW4 := hide (HTWO.out.below ((Below.refl _ W3).alloc (Nat.le_refl _) (.cells #[.slice ag P.gh.length cg, .slice av P.vs.length cv, .slice at_ P.ts.length ct, .slice ao P.on.length co, .slice am P.ms.length cm] 28)))
   have HO4 := hide (HO3.out.alloc (.cells #[.slice ag P.gh.length cg, .slice av P.vs.length cv, .slice at_ P.ts.length ct, .slice ao P.on.length co, .slice am P.ms.length cm] 28))
   have HE4 := hide (HE3.out.alloc (.cells #[.slice ag P.gh.length cg, .slice av P.vs.length cv, .slice at_ P.ts.length ct, .slice ao P.on.length co, .slice am P.ms.length cm] 28))
   have HR4 := hide (HR3.out.alloc (.cells #[.slice ag P.gh.length cg, .slice av P.vs.length cv, .slice at_ P.ts.length ct, .slice ao P.on.length co, .slice am P.ms.length cm] 28))
   have HQ4 := hide (Blk.new W3 28 #[.slice ag P.gh.length cg, .slice av P.vs.length cv, .slice at_ P.ts.length ct, .slice ao P.on.length co, .slice am P.ms.length cm])
   generalize W3.alloc (.cells #[.slice ag P.gh.length cg, .slice av P.vs.length cv, .slice at_ P.ts.length ct, .slice ao P.on.length co, .slice am P.ms.length cm] 28) = W4 at HTW4 HO4 HE4 HR4 HQ4
   generalize W3.heap.size = qb at HQ4
   have HOLT := hide (show ob < W2.heap.size ∧ eb < W2.heap.size ∧ rb < W2.heap.size from ⟨HO2.out.lt, HE2.out.lt, HR2.out.lt⟩)
   obtain ⟨q0, q1, q2, q3, q4, _⟩ := blk5 HQ4.out
   obtain ⟨z0, z1, z2, z3, z4, z5, y0, y1, y2, y3, y4, y5⟩ := blk6 HO4.out
   have hqo := Blk.ne_ HQ4.out HO4.out (by decide)
   have hqo2 := Ne.symm hqo
   have hqe := Blk.ne_ HQ4.out HE4.out (by decide)
   have hqr := Blk.ne_ HQ4.out HR4.out (by decide)
   go_upto_region 6 with fail
   have HY5 := hide (show Only (fun k => k = ob) W4 ((((((W4.setCell ⟨ob, 0, none⟩ (.slice ag P.gh.length cg)).setCell ⟨ob, 1, none⟩ (.slice av P.vs.length cv)).setCell ⟨ob, 2, none⟩ (.slice at_ P.ts.length ct)).setCell ⟨ob, 3, none⟩ (.slice none 0 0)).setCell ⟨ob, 4, none⟩ (.int .i64 0)).setCell ⟨ob, 5, none⟩ (.slice none 0 0)) from ((((((Only.refl (fun k => k = ob) W4).setCell (p := ⟨ob, 0, none⟩) (.inl rfl) _).setCell (p := ⟨ob, 1, none⟩) (.inl rfl) _).setCell (p := ⟨ob, 2, none⟩) (.inl rfl) _).setCell (p := ⟨ob, 3, none⟩) (.inl rfl) _).setCell (p := ⟨ob, 4, none⟩) (.inl rfl) _).setCell (p := ⟨ob, 5, none⟩) (.inl rfl) _)
   have HO5 := hide (show Blk ((((((W4.setCell ⟨ob, 0, none⟩ (.slice ag P.gh.length cg)).setCell ⟨ob, 1, none⟩ (.slice av P.vs.length cv)).setCell ⟨ob, 2, none⟩ (.slice at_ P.ts.length ct)).setCell ⟨ob, 3, none⟩ (.slice none 0 0)).setCell ⟨ob, 4, none⟩ (.int .i64 0)).setCell ⟨ob, 5, none⟩ (.slice none 0 0)) ob 34 #[.slice ag P.gh.length cg, .slice av P.vs.length cv, .slice at_ P.ts.length ct, .slice none 0 0, .int .i64 0, .slice none 0 0] from (((((HO4.out.set_ 0 _).set_ 1 _).set_ 2 _).set_ 3 _).set_ 4 _).set_ 5 _)
   generalize ((((((W4.setCell ⟨ob, 0, none⟩ (.slice ag P.gh.length cg)).setCell ⟨ob, 1, none⟩ (.slice av P.vs.length cv)).setCell ⟨ob, 2, none⟩ (.slice at_ P.ts.length ct)).setCell ⟨ob, 3, none⟩ (.slice none 0 0)).setCell ⟨ob, 4, none⟩ (.int .i64 0)).setCell ⟨ob, 5, none⟩ (.slice none 0 0)) = W5 at HY5 HO5
   have HE5 := hide (HE4.out.only HY5.out hn4)
   have HR5 := hide (HR4.out.only HY5.out hn5)
   have HQ5 := hide (HQ4.out.only HY5.out hqo)
   have HM5 := hide (om_new HO5.out HE5.out HR5.out HBO.out hn3)
   have HOL := hide (fun (i : Nat) (m0 : Mk) (hm : Mk.adds ⟨[], [], [], []⟩ 0 (P.on.take i) = m0) (hi : i ≤ 1048576) => show m0.on.length ≤ 1048576 from by rw [← hm]; exact Nat.le_trans (adds_on_len _ _ _) (by simp; omega))
   have HTR5 := hide (HTW4.out.rows.only HY5.out (fun k hk => by rw [hk]; exact HOLT.out.1))
   have HB5 := hide (show Below w.heap.size w W5 from (HW2.out.trans (HTW4.out.b.mono HW2.out.size)).trans (HY5.out.below (fun k hk => by rw [hk]; exact HBO.out.1) (Nat.le_trans HW2.out.size HTW4.out.b.size)))
   have HQL := hide (show qb < W5.heap.size ∧ qb ≠ ob ∧ qb ≠ eb ∧ qb ≠ rb from ⟨HQ5.out.lt, hqo, hqe, hqr⟩)
   have b3 : W5.cell? ⟨qb, 3, none⟩ = some (.slice ao P.on.length co) := HQ5.out.cell 3
   obtain ⟨N, hN⟩ : ∃ N, P.on.length = N := ⟨_, rfl⟩
   rw [hN] at b3
   have k4n : N ≤ 16 := by omega
   have HN := hide hN
   clear hN k4a
   clear q0 q1 q2 q3 q4 z0 z1 z2 z3 z4 z5 y0 y1 y2 y3 y4 y5 hqo hqo2 hqe hqr
   go_wp2_with fail
   go_loopw [30] (fun t30 Wi => ∃ (i : Nat) (v : Ov), t30 = .int .i64 (i : Int) ∧ i ≤ N ∧ OmM Wi w.heap.size ob eb rb (.slice ag P.gh.length cg) (.slice av P.vs.length cv) (.slice at_ P.ts.length ct) v (Mk.adds ⟨[], [], [], []⟩ 0 (P.on.take i)) ∧ Oto W5 Wi ob eb rb nilO v) (fun t30 _ => N - (intOf t30).toNat)
   case atStart => exact ⟨0, nilO, rfl, Nat.zero_le _, HM5.out, Oto.refl _ _ _ _ _⟩
   case round =>
     obtain ⟨i, v, rfl, hi, hom, hto⟩ := hrel
     rename World => Wi
     have HOM := hide hom
     have HTO := hide hto
     have hq2 := IntWalk.i64_in ((i : Int) + 1) (by omega)
     have HTI := hide (HTR5.out.only hto.o (fun k hk => by rcases nilO_in hk with h9 | h9 | h9 <;> rw [h9]; exact HOLT.out.1; exact HOLT.out.2.1; exact HOLT.out.2.2))
     clear hom hto b3
     by_cases hil : i < N
     · have hiI : (i : Int) < (N : Int) := by omega
       obtain ⟨l, hl⟩ : ∃ l, P.on[i]? = some l := ⟨_, List.getElem?_eq_getElem (by rw [HN.out]; exact hil)⟩
       obtain ⟨u, hu, howu⟩ := HTI.out.e i l hl
       obtain ⟨ua, uc, rfl, hsu⟩ := own_src' howu
       obtain ⟨go, cp9, ego, _, _⟩ := own_form HTI.out.o (by rw [HN.out]; omega)
       injection ego with ego1 _ ego2
       have hco := HTI.out.o
       rw [ego1] at hco
       have hcell := own_get hco i _ hu
       subst ego1
       clear hco ego2
       have HSU := hide hsu
       have hll := HLEN.out l (List.mem_append_left _ (List.mem_of_getElem? hl))
       have HRL := hide (HKR.out l (List.mem_append_left _ (List.mem_of_getElem? hl)))
       have HL := hide hl
       have hln := adds_len (P := P) (ls := P.on) (fun l hl => HKR.out l (List.mem_append_left _ hl)) i (by rw [HN.out]; exact hi)
       have hln2 : rowsV (P.on.take i) + l.length ≤ 131072 := by
         have h1 := rowsV_le P.on (i + 1)
         rw [rowsV_succ hl] at h1
         have h2 := rowsV_le (P.on ++ [P.ms]) P.on.length
         rw [List.take_left'  rfl] at h2
         omega
       obtain ⟨m0, hm0⟩ : ∃ m0, Mk.adds ⟨[], [], [], []⟩ 0 (P.on.take i) = m0 := ⟨_, rfl⟩
       have HNX := hide (adds_take hl ⟨[], [], [], []⟩)
       rw [hm0] at HOM HNX hln
       have HRE := hide hm0
       have HON := hide (add_on m0 (i : Int) l)
       have honl : m0.on.length ≤ 1048576 := by have h8 := congrArg List.length (add_on m0 (i : Int) l); exact HOL.out i m0 hm0 (by omega)
       have hcdl : m0.cd.length + 4 * l.length + 1 ≤ 1048576 := by omega
       have b3c : Wi.cell? ⟨ob, 3, none⟩ = some v.o := by rw [HOM.out.o.kk.cell]; rfl
       clear hl hu howu hsu hm0 hln hln2
       go_upto_region 10 with fail
       obtain ⟨i4, hi4, hy0, hy1, hy2⟩ := info_parts3 infI
       refine wp_region_par (J10 Wi w.heap.size ob eb rb (.slice ag P.gh.length cg) (.slice av P.vs.length cv) (.slice at_ P.ts.length ct) v m0 (m0.add (i : Int) l).1 (i : Int) (m0.add (i : Int) l).2 (.func (.func 69) #[] #[.pointer (some ⟨ob, 0, none⟩), .pointer (some ⟨eb, 0, none⟩), .pointer (some ⟨rb, 0, none⟩)]) (.slice ua l.length uc)) [[], [0], [], [], [], [2, 3, 4], [2, 3, 4, 5], [0, 1, 2, 3, 4, 5, 6], [0, 1, 2, 3, 4, 5, 6, 7], [0, 1, 2, 3, 4, 5, 6, 7, 8]] (by kernel_rfl) (by kernel_rfl) (fun vs => J10.start _ _ _ _ _ _ _ _ _ _ _ _ _ _ _ vs) (fun vs => ?_)
       refine wpPar_step0 rfl (fun S w' hS hA hD hJ R hR => ?_) (fun K hK => ?_)
       · go_simp
         exact hR _ _ (hJ.known (by decide) rfl)
       go_simp
       refine hK _ ?_
       clear hK K
       refine wpPar_step0 rfl (fun S w' hS hA hD hJ R hR => ?_) (fun K hK => ?_)
       · have k0 : vs 0 = _ := hJ.k 0 _ rfl (hA 0 (by decide))
         have hc : w'.cell? ⟨ob, 3, none⟩ = some v.o := hJ.load (hD 7 (by decide) (by decide)) b3c
         simp only [k0]
         go_simp
         exact hR _ _ (hJ.known (by decide) rfl)
       go_simp
       refine hK _ ?_
       clear hK K
       refine wpPar_step0 rfl (fun S w' hS hA hD hJ R hR => ?_) (fun K hK => ?_)
       · have h5 : S 5 = false := hD 5 (by decide) (by decide)
         go_simp
         exact hR _ _ (hJ.known (by decide) rfl)
       go_simp
       refine hK _ ?_
       clear hK K
       refine wpPar_step0 rfl (fun S w' hS hA hD hJ R hR => ?_) (fun K hK => ?_)
       · have h5 : S 5 = false := hD 5 (by decide) (by decide)
         go_simp
         exact hR _ _ (hJ.known (by decide) rfl)
       go_simp
       refine hK _ ?_
       clear hK K
       refine wpPar_step0 rfl (fun S w' hS hA hD hJ R hR => ?_) (fun K hK => ?_)
       · have h5 : S 5 = false := hD 5 (by decide) (by decide)
         go_simp
         exact hR _ _ (hJ.known (by decide) rfl)
       go_simp
       refine hK _ ?_
       clear hK K
       refine wpPar_step0 rfl (fun S w' hS hA hD hJ R hR => ?_) (fun K hK => ?_)
       · have h5 : S 5 = false := hS
         have k2 : vs 2 = _ := hJ.k 2 _ rfl (hA 2 (by decide))
         have k3 : vs 3 = _ := hJ.k 3 _ rfl (hA 3 (by decide))
         have k4 : vs 4 = _ := hJ.k 4 _ rfl (hA 4 (by decide))
         have h6 : S 6 = false := hD 6 (by decide) (by decide)
         have h7 : S 7 = false := hD 7 (by decide) (by decide)
         have hw9 := hJ.b h5
         have hc := mk_i (P := P) (cap := uc) (HOM.out.mono HOM.out.o.drew) (i : Int) (HSU.out.below (Below.refl _ Wi).drew) HRL.out hll hcdl
         have hto0 : Oto Wi w' ob eb rb v v := by rw [hw9]; exact Oto.grow (Below.refl _ Wi).drew
         rw [← hw9] at hc
         have hfin := hc.mono (fun en w'' hh => show ∃ u, en = .returned u ∧ R u w'' from (by obtain ⟨e1, v', e2, e3, e4⟩ := hh; exact ⟨_, e1, hR _ _ (hJ.c5 h6 h7 e2 e3 ((hto0.trans e4)))⟩))
         simp only [k2, k3, k4]
         clear hw9 hc hJ hR
         go_simp
       go_simp
       refine hK _ ?_
       clear hK K
       refine wpPar_step0 rfl (fun S w' hS hA hD hJ R hR => ?_) (fun K hK => ?_)
       · have h5 : S 5 = true := hA 5 (by decide)
         have k2 : vs 2 = _ := hJ.k 2 _ rfl (hA 2 (by decide))
         have k3 : vs 3 = _ := hJ.k 3 _ rfl (hA 3 (by decide))
         have k4 : vs 4 = _ := hJ.k 4 _ rfl (hA 4 (by decide))
         have h7 : S 7 = false := hD 7 (by decide) (by decide)
         have e5 := (hJ.s5 h5).1
         have hfin := hR _ _ (hJ.c6 h5 h7)
         simp only [e5]
         go_simp
         exact hfin
       go_simp
       refine hK _ ?_
       clear hK K
       refine wpPar_step0 rfl (fun S w' hS hA hD hJ R hR => ?_) (fun K hK => ?_)
       · have h5 : S 5 = true := hA 5 (by decide)
         have k0 : vs 0 = _ := hJ.k 0 _ rfl (hA 0 (by decide))
         have k1 : vs 1 = _ := hJ.k 1 _ rfl (hA 1 (by decide))
         have k2 : vs 2 = _ := hJ.k 2 _ rfl (hA 2 (by decide))
         have k3 : vs 3 = _ := hJ.k 3 _ rfl (hA 3 (by decide))
         have k4 : vs 4 = _ := hJ.k 4 _ rfl (hA 4 (by decide))
         have h9 : S 9 = false := hD 9 (by decide) (by decide)
         obtain ⟨_, wc, v', _, _, _, h4, _⟩ := hJ.s5 h5
         obtain ⟨gx, kx, hx1, hx2⟩ := (h4 hS).2 (hA 6 (by decide))
         obtain ⟨ow, hbw⟩ := hJ.own h5 hS
         obtain ⟨u9, w9, hrun, r1, r2, r3⟩ := run_append_own_at (P := Try.prog) w' w.heap.size 24 24 3 i4 _ 1 8 Try.underlying24 hi4 hy0 hy1 hy2 rfl (by decide) v.o (m0.add (i : Int) l).1.on.length (ints (m0.add (i : Int) l).1.on) ow ⟨gx, 0, none⟩ 1 1 [.int .i64 (m0.add (i : Int) l).2] rfl (one_cell hx1) (by simp [Value.oneCell']) (by rw [HON.out]; unfold maxLen; omega) (by rw [HON.out]; omega) hbw
         have hfin := hR _ _ (hJ.c7 h5 hS h9 r1 r2 r3.2)
         refine par_append (.tmp 36) (.tmp 41) 24 (by rfl) v.o (.slice (some ⟨gx, 0, none⟩) 1 1) ?_ ?_ hrun ?_
         · exact k1
         · exact kx
         · exact hfin
       go_simp
       refine hK _ ?_
       clear hK K
       refine wpPar_step0 rfl (fun S w' hS hA hD hJ R hR => ?_) (fun K hK => ?_)
       · have h5 : S 5 = true := hA 5 (by decide)
         have k0 : vs 0 = _ := hJ.k 0 _ rfl (hA 0 (by decide))
         have k1 : vs 1 = _ := hJ.k 1 _ rfl (hA 1 (by decide))
         have k2 : vs 2 = _ := hJ.k 2 _ rfl (hA 2 (by decide))
         have k3 : vs 3 = _ := hJ.k 3 _ rfl (hA 3 (by decide))
         have k4 : vs 4 = _ := hJ.k 4 _ rfl (hA 4 (by decide))
         simp only [k0, k1, k2, k3, k4]
         go_simp
         exact hR _ _ (hJ.known (by decide) rfl)
       go_simp
       refine hK _ ?_
       clear hK K
       refine wpPar_step0 rfl (fun S w' hS hA hD hJ R hR => ?_) (fun K hK => ?_)
       · have h5 : S 5 = true := hA 5 (by decide)
         have k0 : vs 0 = _ := hJ.k 0 _ rfl (hA 0 (by decide))
         have k1 : vs 1 = _ := hJ.k 1 _ rfl (hA 1 (by decide))
         have k2 : vs 2 = _ := hJ.k 2 _ rfl (hA 2 (by decide))
         have k3 : vs 3 = _ := hJ.k 3 _ rfl (hA 3 (by decide))
         have k4 : vs 4 = _ := hJ.k 4 _ rfl (hA 4 (by decide))
         have k8 : vs 8 = _ := hJ.k 8 _ rfl (hA 8 (by decide))
         have h7 : S 7 = true := hA 7 (by decide)
         obtain ⟨⟨kc, hcz⟩, hfz, ox, cx, ex⟩ := hJ.mid h5 h7 hS
         have hfin := hR _ _ (hJ.c9 (c := undef) h5 h7 hS)
         generalize (m0.add (i : Int) l).1.on.length + 1 = m9 at ex
         obtain ⟨oy, hy⟩ : ∃ oy, oy = vs 7 := ⟨_, rfl⟩
         have ey := hy.trans ex
         rw [← hy] at hfin ⊢
         clear hy ex hJ hR
         subst ey
         simp only [k8]
         go_simp
         exact hfin
       go_simp
       refine hK _ ?_
       clear hK K
       refine wpPar_nil (fun w7 hJ => ?_)
       obtain ⟨v7, h71, h72⟩ := hJ.fin
       have HOM7 := hide (show OmM w7 w.heap.size ob eb rb (.slice ag P.gh.length cg) (.slice av P.vs.length cv) (.slice at_ P.ts.length ct) v7 (Mk.adds ⟨[], [], [], []⟩ 0 (P.on.take (i + 1))) from by rw [HNX.out]; exact h71)
       have HTO7 := hide (HTO.out.trans h72)
       clear hJ h71 h72
       go_wp2_with fail
       go_roundw
       case rel => exact ⟨i + 1, v7, by go_num, by omega, HOM7.out, HTO7.out⟩
       case measure =>
         simp only [intOf]
         omega
     · have hie : i = N := by omega
       subst hie
       have hiI : ¬ (i : Int) < (i : Int) := by omega
       obtain ⟨m0, hm0⟩ : ∃ m0, Mk.adds ⟨[], [], [], []⟩ 0 P.on = m0 := ⟨_, rfl⟩
       have hln := adds_len (P := P) (ls := P.on) (fun l hl => HKR.out l (List.mem_append_left _ hl)) P.on.length (Nat.le_refl _)
       rw [List.take_length, hm0] at hln
       have hmk : makeC P = m0.add (-1) P.ms := by unfold makeC; rw [hm0]
       have hom2 := HOM.out
       rw [← HN.out, List.take_length, hm0] at hom2
       replace HOM := hide hom2
       clear hom2
       have hln2 : rowsV P.on + P.ms.length ≤ 131072 := by have h9 := k5; simp only [rowsV, List.map_append, List.sum_append, List.map_cons, List.map_nil, List.sum_cons, List.sum_nil] at h9 ⊢; omega
       have hcd0 : m0.cd.length + 4 * P.ms.length + 1 ≤ 1048576 := by have h9 := HN.out; omega
       have hcd1 := more_len (m := m0) (n := -1) (HKR.out P.ms (by simp))
       have HLEN2 := hide (show (m0.add (-1) P.ms).1.cd.length ≤ 1048576 from by omega)
       have HMK := hide hmk
       have hms := HLEN.out P.ms (by simp)
       have hq9 := HQ5.out.only HTO.out.o (fun h9 => by rcases nilO_in h9 with h8 | h8 | h8; exact HQL.out.2.1 h8; exact HQL.out.2.2.1 h8; exact HQL.out.2.2.2 h8)
       have c4 : Wi.cell? ⟨qb, 4, none⟩ = some (.slice am P.ms.length cm) := hq9.cell 4
       obtain ⟨ux, cx, ex, hsm⟩ := own_src' HTI.out.m
       injection ex with ex1 _ ex2
       subst ex1 ex2
       have hc := mk_i (P := P) (cap := cm) HOM.out (-1) hsm (HKR.out P.ms (by simp)) hms hcd0
       clear hln hmk hln2 hcd0 hcd1 hq9 hsm hm0
       go_upto_region 13 with (
         go_at_call 69
         with_reducible refine hc.mono ?_
         rintro en w8 ⟨rfl, v8, h81, h82, h83⟩
         have HOM8 := hide h82
         have HTO8 := hide (HTO.out.trans h83)
         have d4 : w8.cell? ⟨ob, 4, none⟩ = some (.int .i64 0) := by rw [h82.o.kk.cell]; rfl
         have f4 := h82.o.kk.frozen 4
         clear h81 h82 h83)
       obtain ⟨hmi1, hmi2⟩ := HOM8.out.o.miss (m0.add (-1) P.ms).2
       have HOM9 := hide hmi1
       have HTO9 := hide (HTO8.out.trans hmi2)
       clear hmi1 hmi2 hc
       generalize w8.setCell ⟨ob, 4, none⟩ (.int .i64 (m0.add (-1) P.ms).2) = W9 at HOM9 HTO9
       obtain ⟨oo9, co9, eo9⟩ := own_slice HOM9.out.oo
       obtain ⟨oc9, cc9, ec9⟩ := own_slice HOM9.out.oc
       obtain ⟨oe9, ce9, ee9⟩ := own_slice HOM9.out.oe
       obtain ⟨or9, cr9, er9⟩ := own_slice HOM9.out.or
       obtain ⟨vo, vc_, ve, vr⟩ := v8
       simp only at eo9 ec9 ee9 er9
       have HFIN := hide (made_fin HMK.out HLEN2.out HOM9.out HOM8.out.e HOM8.out.r HTO9.out HB5.out HTR5.out HOLT.out HB2T.out rfl HC.out)
       obtain ⟨nb1, hnb1⟩ : ∃ n, (m0.add (-1) P.ms).1.on.length = n := ⟨_, rfl⟩
       obtain ⟨nb2, hnb2⟩ : ∃ n, (m0.add (-1) P.ms).1.cd.length = n := ⟨_, rfl⟩
       obtain ⟨nb3, hnb3⟩ : ∃ n, (m0.add (-1) P.ms).1.ev.length = n := ⟨_, rfl⟩
       obtain ⟨nb4, hnb4⟩ : ∃ n, (m0.add (-1) P.ms).1.rw.length = n := ⟨_, rfl⟩
       obtain ⟨mi9, hmi9⟩ : ∃ n, (m0.add (-1) P.ms).2 = n := ⟨_, rfl⟩
       rw [hnb1] at eo9
       rw [hnb2] at ec9
       rw [hnb3] at ee9
       rw [hnb4] at er9
       have HK9 := hide HOM9.out.kk
       have HKE9 := hide HOM9.out.ke
       have HKR9 := hide HOM9.out.kr
       rw [hmi9] at HK9 HFIN
       subst eo9 ec9 ee9 er9
       simp only at HK9 HKE9 HKR9
       obtain ⟨z0, z1, z2, z3, z4, z5, y0, y1, y2, y3, y4, y5⟩ := blk6 HK9.out
       obtain ⟨x0, u0⟩ := blk1 HKE9.out
       obtain ⟨x1, u1⟩ := blk1 HKR9.out
       clear hnb1 hnb2 hnb3 hnb4 hmi9
       refine wp_region_par (fun S vs W => ((S 0 = true → vs 0 = .agg #[.slice ag P.gh.length cg, .slice av P.vs.length cv, .slice at_ P.ts.length ct, .slice oo9 nb1 co9, .int .i64 mi9, .slice oc9 nb2 cc9]) ∧ (S 1 = true → vs 1 = .slice oe9 nb3 ce9) ∧ (S 2 = true → vs 2 = .slice or9 nb4 cr9) ∧ (S 6 = true → vs 6 = .int .i64 0)) ∧ W = W9.drew) [[], [], [], [0], [0, 1, 3], [0, 1, 2, 3, 4], [0, 1, 2, 3, 4, 5]] (by kernel_rfl) (by kernel_rfl) (fun vs => ⟨⟨fun h9 => by simp at h9, fun h9 => by simp at h9, fun h9 => by simp at h9, fun h9 => by simp at h9⟩, rfl⟩) (fun vs => ?_)
       refine wpPar_step0 rfl (fun S w' hS hA hD hJ R hR => ?_) (fun K hK => ?_)
       · obtain ⟨⟨j0, j1, j2, j6⟩, rfl⟩ := hJ
         have hfin := hR (.agg #[.slice ag P.gh.length cg, .slice av P.vs.length cv, .slice at_ P.ts.length ct, .slice oo9 nb1 co9, .int .i64 mi9, .slice oc9 nb2 cc9]) _ ⟨⟨fun h9 => by rw [upn_eq], fun h9 => by rw [upn_ne (by decide)] at h9 ⊢; exact j1 h9, fun h9 => by rw [upn_ne (by decide)] at h9 ⊢; exact j2 h9, fun h9 => by rw [upn_ne (by decide)] at h9 ⊢; exact j6 h9⟩, rfl⟩
         clear hR j0 j1 j2 j6
         go_simp
         exact hfin
       go_simp
       refine hK _ ?_
       clear hK K
       refine wpPar_step0 rfl (fun S w' hS hA hD hJ R hR => ?_) (fun K hK => ?_)
       · obtain ⟨⟨j0, j1, j2, j6⟩, rfl⟩ := hJ
         have hfin := hR (.slice oe9 nb3 ce9) _ ⟨⟨fun h9 => by rw [upn_ne (by decide)] at h9 ⊢; exact j0 h9, fun h9 => by rw [upn_eq], fun h9 => by rw [upn_ne (by decide)] at h9 ⊢; exact j2 h9, fun h9 => by rw [upn_ne (by decide)] at h9 ⊢; exact j6 h9⟩, rfl⟩
         clear hR j0 j1 j2 j6
         go_simp
         exact hfin
       go_simp
       refine hK _ ?_
       clear hK K
       refine wpPar_step0 rfl (fun S w' hS hA hD hJ R hR => ?_) (fun K hK => ?_)
       · obtain ⟨⟨j0, j1, j2, j6⟩, rfl⟩ := hJ
         have hfin := hR (.slice or9 nb4 cr9) _ ⟨⟨fun h9 => by rw [upn_ne (by decide)] at h9 ⊢; exact j0 h9, fun h9 => by rw [upn_ne (by decide)] at h9 ⊢; exact j1 h9, fun h9 => by rw [upn_eq], fun h9 => by rw [upn_ne (by decide)] at h9 ⊢; exact j6 h9⟩, rfl⟩
         clear hR j0 j1 j2 j6
         go_simp
         exact hfin
       go_simp
       refine hK _ ?_
       clear hK K
       refine wpPar_step0 rfl (fun S w' hS hA hD hJ R hR => ?_) (fun K hK => ?_)
       · obtain ⟨⟨j0, j1, j2, j6⟩, rfl⟩ := hJ
         have k0 := j0 (hA 0 (by decide))
         have hfin := hR undef _ ⟨⟨fun h9 => by rw [upn_ne (by decide)] at h9 ⊢; exact j0 h9, fun h9 => by rw [upn_ne (by decide)] at h9 ⊢; exact j1 h9, fun h9 => by rw [upn_ne (by decide)] at h9 ⊢; exact j2 h9, fun h9 => by rw [upn_ne (by decide)] at h9 ⊢; exact j6 h9⟩, rfl⟩
         have s0 := set_same (i := 0) HK9.out.drew (u := .slice ag P.gh.length cg) rfl
         have s1 := set_same (i := 1) HK9.out.drew (u := .slice av P.vs.length cv) rfl
         have s2 := set_same (i := 2) HK9.out.drew (u := .slice at_ P.ts.length ct) rfl
         have s3 := set_same (i := 3) HK9.out.drew (u := .slice oo9 nb1 co9) rfl
         have s4 := set_same (i := 4) HK9.out.drew (u := .int .i64 mi9) rfl
         have s5 := set_same (i := 5) HK9.out.drew (u := .slice oc9 nb2 cc9) rfl
         simp only [k0]
         clear hR j0 j1 j2 j6
         go_simp
         exact hfin
       go_simp
       refine hK _ ?_
       clear hK K
       refine wpPar_step0 rfl (fun S w' hS hA hD hJ R hR => ?_) (fun K hK => ?_)
       · obtain ⟨⟨j0, j1, j2, j6⟩, rfl⟩ := hJ
         have k1 := j1 (hA 1 (by decide))
         have hfin := hR undef _ ⟨⟨fun h9 => by rw [upn_ne (by decide)] at h9 ⊢; exact j0 h9, fun h9 => by rw [upn_ne (by decide)] at h9 ⊢; exact j1 h9, fun h9 => by rw [upn_ne (by decide)] at h9 ⊢; exact j2 h9, fun h9 => by rw [upn_ne (by decide)] at h9 ⊢; exact j6 h9⟩, rfl⟩
         have s0 := set_same (i := 0) HKE9.out.drew (u := .slice oe9 nb3 ce9) rfl
         simp only [k1]
         clear hR j0 j1 j2 j6
         go_simp
         exact hfin
       go_simp
       refine hK _ ?_
       clear hK K
       refine wpPar_step0 rfl (fun S w' hS hA hD hJ R hR => ?_) (fun K hK => ?_)
       · obtain ⟨⟨j0, j1, j2, j6⟩, rfl⟩ := hJ
         have k2 := j2 (hA 2 (by decide))
         have hfin := hR undef _ ⟨⟨fun h9 => by rw [upn_ne (by decide)] at h9 ⊢; exact j0 h9, fun h9 => by rw [upn_ne (by decide)] at h9 ⊢; exact j1 h9, fun h9 => by rw [upn_ne (by decide)] at h9 ⊢; exact j2 h9, fun h9 => by rw [upn_ne (by decide)] at h9 ⊢; exact j6 h9⟩, rfl⟩
         have s0 := set_same (i := 0) HKR9.out.drew (u := .slice or9 nb4 cr9) rfl
         simp only [k2]
         clear hR j0 j1 j2 j6
         go_simp
         exact hfin
       go_simp
       refine hK _ ?_
       clear hK K
       refine wpPar_step0 rfl (fun S w' hS hA hD hJ R hR => ?_) (fun K hK => ?_)
       · obtain ⟨⟨j0, j1, j2, j6⟩, rfl⟩ := hJ
         have hfin := hR (.int .i64 0) _ ⟨⟨fun h9 => by rw [upn_ne (by decide)] at h9 ⊢; exact j0 h9, fun h9 => by rw [upn_ne (by decide)] at h9 ⊢; exact j1 h9, fun h9 => by rw [upn_ne (by decide)] at h9 ⊢; exact j2 h9, fun h9 => by rw [upn_eq]⟩, rfl⟩
         clear hR j0 j1 j2 j6
         go_simp
         exact hfin
       go_simp
       refine hK _ ?_
       clear hK K
       refine wpPar_nil (fun w7 hJ => ?_)
       obtain ⟨⟨j0, j1, j2, j6⟩, rfl⟩ := hJ
       have k6 := j6 rfl
       simp only [k6]
       clear j0 j1 j2 j6 k6
       go_wp2_with fail
       refine bodyPost_ret (v := .tuple #[.agg #[.slice ag P.gh.length cg, .slice av P.vs.length cv, .slice at_ P.ts.length ct, .slice oo9 nb1 co9, .int .i64 mi9, .slice oc9 nb2 cc9], .slice oe9 nb3 ce9, .slice or9 nb4 cr9, .int .i64 0]) ?_ rfl ?_
       · simp only [results, HRES.out]
         go_simp
       exact HFIN.out
end Go.Proofs.Ytdpokdcendgfeaa
namespace Go.Proofs.Ytdpokdcendgfeaa
open Go.RowKit
/-- what gen.Make tells -/
def MakeP (w : World) (P : Pl) (en : Ending) (w' : World) : Prop :=
 Below w.heap.size w w' ∧ ∃ out : Value, en = .returned (.tuple #[out, .int .i64 (checkV P : Int)]) ∧
   (checkV P ≠ 0 → out = .agg #[.slice none 0 0, .slice none 0 0, .slice none 0 0, .slice none 0 0, .int .i64 0, .slice none 0 0]) ∧
   (checkV P = 0 → ProgIs w' w.heap.size out P.gh P.vs P.ts (makeC P).1.on (makeC P).2 (makeC P).1.cd ∧ (makeC P).1.cd.length ≤ 1048576)
/-- what gen.Origin tells -/
def OrigP (w : World) (P : Pl) (en : Ending) (w' : World) : Prop :=
 Below w.heap.size w w' ∧ ∃ ev rw : Value, en = .returned (.tuple #[ev, rw, .int .i64 (checkV P : Int)]) ∧
   (checkV P ≠ 0 → ev = .slice none 0 0 ∧ rw = .slice none 0 0) ∧
   (checkV P = 0 → w'.ownsRow w.heap.size 3 1 ev (makeC P).1.ev.length (ints (makeC P).1.ev) ∧ w'.ownsRow w.heap.size 3 1 rw (makeC P).1.rw.length (ints (makeC P).1.rw) ∧ (makeC P).1.ev.length = (makeC P).1.cd.length ∧ (makeC P).1.rw.length = (makeC P).1.cd.length ∧ ∀ k, ev.ownBlock = some k → rw.ownBlock ≠ some k)
/-- a program as a value of six cells that are one cell each -/
def Six1 (v : Value) : Prop := ∃ a b c d e f : Value, v = .agg #[a, b, c, d, e, f] ∧ (∃ o n k, a = .slice o n k) ∧ (∃ o n k, b = .slice o n k) ∧ (∃ o n k, c = .slice o n k) ∧ (∃ o n k, d = .slice o n k) ∧ (∃ n, e = .int .i64 n) ∧ (∃ o n k, f = .slice o n k)
theorem ProgIs.six {W : World} {B : Nat} {out : Value} {gh : List Bool} {vs : List Vr} {ts on : List Int} {ms : Int} {cd : List In} (h : ProgIs W B out gh vs ts on ms cd) : Six1 out := by
 obtain ⟨g, v, t, o, c, rfl, h1, h2, h3, h4, h5, _⟩ := h
 obtain ⟨a1, b1, rfl⟩ := own_slice h1
 obtain ⟨a2, b2, rfl⟩ := own_slice h2
 obtain ⟨a3, b3, rfl⟩ := own_slice h3
 obtain ⟨a4, b4, rfl⟩ := own_slice h4
 obtain ⟨a5, b5, rfl⟩ := own_slice h5
 exact ⟨_, _, _, _, _, _, rfl, ⟨_, _, _, rfl⟩, ⟨_, _, _, rfl⟩, ⟨_, _, _, rfl⟩, ⟨_, _, _, rfl⟩, ⟨_, rfl⟩, ⟨_, _, _, rfl⟩⟩
theorem ProgIs.below {W W' : World} {B : Nat} {out : Value} {gh : List Bool} {vs : List Vr} {ts on : List Int} {ms : Int} {cd : List In} (h : ProgIs W B out gh vs ts on ms cd) (hb : Below W.heap.size W W') : ProgIs W' B out gh vs ts on ms cd := by
 obtain ⟨g, v, t, o, c, e, h1, h2, h3, h4, h5, h6⟩ := h
 exact ⟨g, v, t, o, c, e, own_below h1 hb (Nat.le_refl _), own_below h2 hb (Nat.le_refl _), own_below h3 hb (Nat.le_refl _), own_below h4 hb (Nat.le_refl _), own_below h5 hb (Nat.le_refl _), h6⟩
theorem ProgIs.only {W W' : World} {B : Nat} {S : Nat → Prop} {out : Value} {gh : List Bool} {vs : List Vr} {ts on : List Int} {ms : Int} {cd : List In} (h : ProgIs W B out gh vs ts on ms cd) (ho : Only S W W') (hS : ∀ k, S k → k < B ∨ W.heap.size ≤ k) : ProgIs W' B out gh vs ts on ms cd := by
 obtain ⟨g, v, t, o, c, e, h1, h2, h3, h4, h5, h6⟩ := h
 have hk : ∀ {e : TypeId} {size n : Nat} {x : Value} {xs : List Value}, W.ownsRow B e size x n xs → W'.ownsRow B e size x n xs := fun h9 => own_only h9 ho (fun k hk hk2 => by have h8 := h9.lt k hk; rcases hS k hk2 with h7 | h7 <;> omega)
 exact ⟨g, v, t, o, c, e, hk h1, hk h2, hk h3, hk h4, hk h5, h6⟩
theorem ProgIs.down {W : World} {B B' : Nat} {out : Value} {gh : List Bool} {vs : List Vr} {ts on : List Int} {ms : Int} {cd : List In} (h : ProgIs W B out gh vs ts on ms cd) (hb : B' ≤ B) : ProgIs W B' out gh vs ts on ms cd := by
 obtain ⟨g, v, t, o, c, e, h1, h2, h3, h4, h5, h6⟩ := h
 exact ⟨g, v, t, o, c, e, own_down h1 hb, own_down h2 hb, own_down h3 hb, own_down h4 hb, own_down h5 hb, h6⟩
set_option maxRecDepth 100000 in
theorem make_i (w : World) (q : PlV) (P : Pl) (rs : List (Option Addr × Nat)) (h : PlMem w q P rs) (hbig : ∀ l ∈ P.on ++ [P.ms], l.length ≤ 4398046511104) :
   Calls Try.prog 15 #[q.val] w fun en w' => MakeP w P en w' := by
 have HRES := hide (show Try.f15.results = #[.cell 2 34, .tmp 3] by kernel_rfl)
 have HMK := hide (fun (W : World) (hb : Below w.heap.size w W) => made_i W q P rs (h.below hb) hbig)
 obtain ⟨e1, e2, e3, e4, e5, _, _, _, _, _, _⟩ := h
 obtain ⟨ga, va, ta, oa, ma, gl, gc, vl, vc, tl, tc, ol, oc, ml, mc⟩ := q
 simp only at e1 e2 e3 e4 e5
 subst e1 e2 e3 e4 e5
 simp only [PlV.val] at HMK ⊢
 have hw1 : Below w.heap.size w ((w.alloc (.cells #[.slice ga P.gh.length gc, .slice va P.vs.length vc, .slice ta P.ts.length tc, .slice oa P.on.length oc, .slice ma P.ms.length mc] 28)).alloc (.cells #[.slice none 0 0, .slice none 0 0, .slice none 0 0, .slice none 0 0, .int .i64 0, .slice none 0 0] 34)) := ((Below.refl _ w).alloc (Nat.le_refl _) _).alloc (by simp) _
 have hp1 := (Blk.new w 28 #[.slice ga P.gh.length gc, .slice va P.vs.length vc, .slice ta P.ts.length tc, .slice oa P.on.length oc, .slice ma P.ms.length mc]).alloc (.cells #[.slice none 0 0, .slice none 0 0, .slice none 0 0, .slice none 0 0, .int .i64 0, .slice none 0 0] 34)
 have ho1 := Blk.new (w.alloc (.cells #[.slice ga P.gh.length gc, .slice va P.vs.length vc, .slice ta P.ts.length tc, .slice oa P.on.length oc, .slice ma P.ms.length mc] 28)) 34 #[.slice none 0 0, .slice none 0 0, .slice none 0 0, .slice none 0 0, .int .i64 0, .slice none 0 0]
 have hs9 : (w.alloc (.cells #[.slice ga P.gh.length gc, .slice va P.vs.length vc, .slice ta P.ts.length tc, .slice oa P.on.length oc, .slice ma P.ms.length mc] 28)).heap.size = w.heap.size + 1 := by simp
 rw [hs9] at ho1
 have HW1 := hide hw1
 have HP1 := hide hp1
 have HO1 := hide ho1
 clear hw1 hp1 ho1 hs9
 go_enter Try.func15, Try.ntmps15
 go_upto_region 1 with fail
 generalize ((w.alloc (.cells #[.slice ga P.gh.length gc, .slice va P.vs.length vc, .slice ta P.ts.length tc, .slice oa P.on.length oc, .slice ma P.ms.length mc] 28)).alloc (.cells #[.slice none 0 0, .slice none 0 0, .slice none 0 0, .slice none 0 0, .int .i64 0, .slice none 0 0] 34)) = W1 at HW1 HP1 HO1
 obtain ⟨p0, p1, p2, p3, p4, _⟩ := blk5 HP1.out
 have hc := HMK.out W1 HW1.out
 go_upto_region 2 with (
   go_at_call 43
   with_reducible refine hc.mono ?_
   rintro en W2 ⟨hb2, out, ev, rw, rfl, hbad, hgood⟩
   have HBAD := hide hbad
   have HGOOD := hide hgood
   have HB2 := hide hb2
   have HO2 := hide (HO1.out.below hb2 HO1.out.lt)
   have h6 : Six1 out := by
     by_cases h0 : checkV P = 0
     · exact (hgood h0).1.six
     · rw [(hbad h0).1]
       exact ⟨_, _, _, _, _, _, rfl, ⟨_, _, _, rfl⟩, ⟨_, _, _, rfl⟩, ⟨_, _, _, rfl⟩, ⟨_, _, _, rfl⟩, ⟨_, rfl⟩, ⟨_, _, _, rfl⟩⟩
   obtain ⟨_, _, _, _, _, _, rfl, ⟨o1, n1, k1, rfl⟩, ⟨o2, n2, k2, rfl⟩, ⟨o3, n3, k3, rfl⟩, ⟨o4, n4, k4, rfl⟩, ⟨mi, rfl⟩, ⟨o6, n6, k6, rfl⟩⟩ := h6
   clear hbad hgood hb2)
 clear p0 p1 p2 p3 p4 hc HMK
 have HB3 := hide ((Below.refl W2.heap.size W2).alloc (Nat.le_refl _) (.cells #[.slice o1 n1 k1, .slice o2 n2 k2, .slice o3 n3 k3, .slice o4 n4 k4, .int .i64 mi, .slice o6 n6 k6] 34))
 have HN3 := hide (Blk.new W2 34 #[.slice o1 n1 k1, .slice o2 n2 k2, .slice o3 n3 k3, .slice o4 n4 k4, .int .i64 mi, .slice o6 n6 k6])
 have HO3 := hide (HO2.out.alloc (.cells #[.slice o1 n1 k1, .slice o2 n2 k2, .slice o3 n3 k3, .slice o4 n4 k4, .int .i64 mi, .slice o6 n6 k6] 34))
 have hne : W2.heap.size ≠ w.heap.size + 1 := by have h8 := HO2.out.lt; omega
 have hne2 := Ne.symm hne
 generalize W2.alloc (.cells #[.slice o1 n1 k1, .slice o2 n2 k2, .slice o3 n3 k3, .slice o4 n4 k4, .int .i64 mi, .slice o6 n6 k6] 34) = W3 at HB3 HN3 HO3
 have hlo : w.heap.size + 1 < W1.heap.size := HO1.out.lt
 obtain ⟨x0, x1, x2, x3, x4, x5, _⟩ := blk6 HN3.out
 obtain ⟨z0, z1, z2, z3, z4, z5, y0, y1, y2, y3, y4, y5⟩ := blk6 HO3.out
 obtain ⟨e9, he9⟩ : ∃ e9, (checkV P : Int) = e9 := ⟨_, rfl⟩
 have HE9 := hide he9
 have HLO := hide hlo
 rw [he9]
 clear hlo he9
 go_wp2_with fail
 refine bodyPost_ret (v := .tuple #[.agg #[.slice o1 n1 k1, .slice o2 n2 k2, .slice o3 n3 k3, .slice o4 n4 k4, .int .i64 mi, .slice o6 n6 k6], .int .i64 e9]) ?_ rfl ?_
 · simp only [results, HRES.out]
   go_simp
 have hl9 : w.heap.size ≤ w.heap.size + 1 := by omega
 have hob : Only (fun k => k = w.heap.size + 1) W3 ((((((W3.setCell ⟨w.heap.size + 1, 0, none⟩ (.slice o1 n1 k1)).setCell ⟨w.heap.size + 1, 1, none⟩ (.slice o2 n2 k2)).setCell ⟨w.heap.size + 1, 2, none⟩ (.slice o3 n3 k3)).setCell ⟨w.heap.size + 1, 3, none⟩ (.slice o4 n4 k4)).setCell ⟨w.heap.size + 1, 4, none⟩ (.int .i64 mi)).setCell ⟨w.heap.size + 1, 5, none⟩ (.slice o6 n6 k6)) :=
   ((((((Only.refl (fun k => k = w.heap.size + 1) W3).setCell (p := ⟨w.heap.size + 1, 0, none⟩) (.inl rfl) _).setCell (p := ⟨w.heap.size + 1, 1, none⟩) (.inl rfl) _).setCell (p := ⟨w.heap.size + 1, 2, none⟩) (.inl rfl) _).setCell (p := ⟨w.heap.size + 1, 3, none⟩) (.inl rfl) _).setCell (p := ⟨w.heap.size + 1, 4, none⟩) (.inl rfl) _).setCell (p := ⟨w.heap.size + 1, 5, none⟩) (.inl rfl) _
 have hb23 := (HW1.out.trans (HB2.out.mono HW1.out.size)).trans (HB3.out.mono (Nat.le_trans HW1.out.size HB2.out.size))
 have hb34 := hob.below (B := w.heap.size) (fun k hk => by omega) hb23.size
 rw [← HE9.out]
 refine ⟨hb23.trans hb34, _, rfl, fun h9 => (HBAD.out h9).1, fun h9 => ?_⟩
 obtain ⟨g1, _, _, _, _, g6, _, _⟩ := HGOOD.out h9
 exact ⟨(((g1.below HB3.out).only hob (fun k hk => .inl (by have h8 := HLO.out; omega))).down HW1.out.size), g6⟩
set_option maxRecDepth 100000 in
theorem origin_i (w : World) (q : PlV) (P : Pl) (rs : List (Option Addr × Nat)) (h : PlMem w q P rs) (hbig : ∀ l ∈ P.on ++ [P.ms], l.length ≤ 4398046511104) :
   Calls Try.prog 19 #[q.val] w fun en w' => OrigP w P en w' := by
 have HMK := hide (fun (W : World) (hb : Below w.heap.size w W) => made_i W q P rs (h.below hb) hbig)
 obtain ⟨e1, e2, e3, e4, e5, _, _, _, _, _, _⟩ := h
 obtain ⟨ga, va, ta, oa, ma, gl, gc, vl, vc, tl, tc, ol, oc, ml, mc⟩ := q
 simp only at e1 e2 e3 e4 e5
 subst e1 e2 e3 e4 e5
 simp only [PlV.val] at HMK ⊢
 have HW1 := hide (show Below w.heap.size w (w.alloc (.cells #[.slice ga P.gh.length gc, .slice va P.vs.length vc, .slice ta P.ts.length tc, .slice oa P.on.length oc, .slice ma P.ms.length mc] 28)) from (Below.refl _ w).alloc (Nat.le_refl _) _)
 have HP1 := hide (Blk.new w 28 #[.slice ga P.gh.length gc, .slice va P.vs.length vc, .slice ta P.ts.length tc, .slice oa P.on.length oc, .slice ma P.ms.length mc])
 go_enter Try.func19, Try.ntmps19
 go_upto_region 1 with fail
 generalize (w.alloc (.cells #[.slice ga P.gh.length gc, .slice va P.vs.length vc, .slice ta P.ts.length tc, .slice oa P.on.length oc, .slice ma P.ms.length mc] 28)) = W1 at HW1 HP1
 obtain ⟨p0, p1, p2, p3, p4, _⟩ := blk5 HP1.out
 have hc := HMK.out W1 HW1.out
 go_upto_region 2 with (
   go_at_call 43
   with_reducible refine hc.mono ?_
   rintro en W2 ⟨hb2, out, ev, rw, rfl, hbad, hgood⟩
   have HBAD := hide hbad
   have HGOOD := hide hgood
   have HB2 := hide hb2
   clear hbad hgood hb2)
 clear p0 p1 p2 p3 p4 hc HMK
 obtain ⟨e9, he9⟩ : ∃ e9, (checkV P : Int) = e9 := ⟨_, rfl⟩
 have HE9 := hide he9
 rw [he9]
 clear he9
 go_wp2_with fail
 go_ret3
 rw [← HE9.out]
 have hl := HW1.out.size
 refine ⟨HW1.out.trans (HB2.out.mono hl), _, _, rfl, fun h9 => (HBAD.out h9).2, fun h9 => ?_⟩
 obtain ⟨_, g2, g3, g4, g5, _, g7, _⟩ := HGOOD.out h9
 exact ⟨own_down g2 hl, own_down g3 hl, g4, g5, g7⟩
end Go.Proofs.Ytdpokdcendgfeaa
