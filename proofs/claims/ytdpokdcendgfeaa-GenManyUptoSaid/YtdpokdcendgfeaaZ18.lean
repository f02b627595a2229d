/- Several texts in one: How a law's arguments read behind the call. A plan that was handed in, as lists. How long a plan's lists are that was handed in. Conditions: those of each. -/
import Derived.Test.YtdpokdcendgfeaaZ1
import Derived.Test.YtdpokdcendgfeaaRows
import Derived.WalkKit
import Derived.ProofKit
import Derived.OpenShut
import Derived.JoinedCond
import Derived.Deep.Slices
import Derived.Deep.Fields
import Derived.ChangeSame
import Derived.Carry
import Derived.Test.YtdpokdcendgfeaaZ10
import Derived.SizedLaws
set_option linter.unusedSimpArgs false
set_option linter.unusedVariables false
set_option maxHeartbeats 40000000
namespace Go.Proofs.Ytdpokdcendgfeaa.opened
open Go.ChangeShapes Go.WideShapes Go.ChangeAt Go.RowKit Go.Deep
section
variable {H : Type} {enc : TypeId × Value → H} {P : Program} {w : World} {base : Nat} {spare : Nat → Bool} {held : Bool}
theorem open_slice_fields {t e : TypeId} {fs : Array Field} {fuel : Nat} {cs : List Value} {x : DataW H × List MemPlace} (ht : P.underlying t = some (.slice e)) (he : P.underlying e = some (.struct fs))
   (hone : oneCellFields P fs = true) (hC : P.cellsOf e = fs.size) (h : DataW.trod enc P w base spare held fuel t cs = some x) :
   (cs = [.slice none 0 0] ∧ x = (.nil, [])) ∨
   ∃ (a : Addr) (len cap m : Nat) (D : Nat → DataW H) (Pl : Nat → List MemPlace), cs = [.slice (some a) len cap] ∧ base ≤ a.block ∧ len ≤ cap ∧ cap ≤ maxLen ∧ m = (if spare a.block then cap else len) ∧
     x = (.slice ((List.range len).map D) ((List.range (m - len)).map fun j => D (len + j)), MemPlace.row a (m * fs.size) ++ (List.range m).flatMap Pl) ∧
     ∀ i, i < m → ∃ (ys : List (DataW H × List MemPlace)) (n : Nat), D i = .agg (ys.map (·.1)) ∧ Pl i = ys.flatMap (·.2) ∧ ys.length = fs.size ∧
       ∀ (j : Nat) (f : Field), fs[j]? = some f → ∃ (v : Value) (y : DataW H × List MemPlace), w.cell? (a.add (i * fs.size + j)) = some v ∧ ys[j]? = some y ∧ DataW.trod enc P w base spare held n f.type [v] = some y := by
 rcases open_slice ht h with h0 | ⟨a, len, cap, m, n, D, Pl, hcs, hb, hl, hm, hmm, hx, hi⟩
 · exact .inl h0
 · refine .inr ⟨a, len, cap, m, D, Pl, hcs, hb, hl, hm, hmm, by rw [hC] at hx; exact hx, fun i him => ?_⟩
   obtain ⟨cs', hc, ht'⟩ := hi i him
   rw [hC] at hc
   obtain ⟨ys, n', hn', hy, hlen, hyl, hf⟩ := DataW.trod_struct he ht'
   obtain ⟨_, hcl, hat⟩ := World.cells?_some hc
   simp only [Prod.mk.injEq] at hy
   refine ⟨ys, n', hy.1, hy.2, hyl, fun j f hj => ?_⟩
   obtain ⟨ho, hk⟩ := hone_of hone j f hj
   have hjl : j < fs.size := (Array.getElem?_eq_some_iff.1 hj).1
   have hcell := hat j hjl
   have hv : cs'[j]? = some (cs'[j]'(by omega)) := List.getElem?_eq_getElem (by omega)
   have h1 := hf j f hj
   rw [ho, hk] at h1
   have hone' : (cs'.drop j).take 1 = [cs'[j]'(by omega)] := by
     rw [List.drop_eq_getElem_cons (by omega)]
     rfl
   rw [hone'] at h1
   have hys : ys[j]? = some (ys[j]'(by omega)) := List.getElem?_eq_getElem (by omega)
   refine ⟨_, _, ?_, hys, h1.trans hys⟩
   rw [← Go.Deep.add_add, hcell, hv]
end
section
variable {H : Type} {enc : TypeId × Value → H} {P : Program}
theorem post_of_below {f : Func} {s : ChangeSpec} {apart fresh handsOn again : Bool} {W W' : World} {args : Array Value} {v : Value} {ds gs : List (DataW H)} {before pa pv : List MemPlace}
   (hW : DataW.Whole enc P f.params.toList s.vars apart W args.toList ds gs before)
   (hres : ∀ (b : Nat) (sp : Nat → Bool) (hd : Bool), DataW.TrodAll enc P W' b sp hd f.resultTypes.toList (v.resultList f.resultTypes.size) (s.fn H (ds ++ gs)).results [])
   (hargs : ∀ sp : Nat → Bool, (∀ p ∈ before, sp p.block = true) → DataW.TrodAll enc P W' 0 sp true f.params.toList args.toList (s.fn H (ds ++ gs)).args pa)
   (hvars : ∀ sp : Nat → Bool, (∀ p ∈ before, sp p.block = true) → DataW.TrodVars enc P W' sp s.vars (s.fn H (ds ++ gs)).vars pv)
   (hps : before = pa ++ pv) (hb : Below W.heap.size W W')
   (hok : ∀ (j : Nat) (t : TypeId) (r : Value), f.resultTypes[j]? = some t → (v.resultList f.resultTypes.size)[j]? = some r → Value.okWide P W' .any 0 t r) :
   s.post enc P f apart fresh handsOn again W args v W' := by
 have hlt : ∀ p ∈ before, p.block < W.heap.size := fun p hp => hW.lt p hp
 have hold : ∀ p ∈ before, (fun b => decide (b < W.heap.size)) p.block = true := fun p hp => by simpa using hlt p hp
 refine ⟨ds, gs, before, [], pa, pv, hW, hres _ _ _, hargs _ hold, hvars _ hold, World.keptBut_mono (fun p hp => ⟨hp, ?_⟩) (hb.frame (· ∈ before)), fun _ => ?_⟩
 · rw [hps, List.mem_append] at hp
   exact Or.inr hp
 · obtain ⟨_, _, _, _, _, hz, hn⟩ := hW
   refine ⟨hok, _, _, ([] ++ pa) ++ pv, ⟨[] ++ pa, pv, trodAll_append (hargs _ (fun _ _ => rfl)) (hres _ _ _), hvars _ (fun _ _ => rfl), rfl, ?_, ?_⟩, ?_⟩
   · intro b off hp
     have hin : MemPlace.cell b off ∈ before := by rw [hps]; simpa using hp
     rw [hb.frozen (hlt _ hin)]
     exact hz b off hin
   · intro ha
     have := hn ha
     rw [hps] at this
     simpa using this
   · intro p hp _
     rw [hps]
     simpa using hp
end
theorem lt_of_cell {w : World} {a : Addr} {v : Value} (h : w.cell? a = some v) : a.block < w.heap.size := by
 rcases Nat.lt_or_ge a.block w.heap.size with h1 | h1
 · exact h1
 · simp [World.cell?, Array.getElem?_eq_none h1] at h
theorem laid : laidOutB Try.prog = true := by kernel_rfl
/-- what a call was handed reads behind it as it did -/
theorem stays_all {H : Type} {enc : TypeId × Value → H} {W W' : World} {sp : Nat → Bool} (hb : Below W.heap.size W W') :
   ∀ {ts : List TypeId} {vs : List Value} {ds : List (DataW H)} {ps : List MemPlace}, (∀ t ∈ ts, Try.prog.readableRec t = true ∧ t < Try.prog.types.size) →
     DataW.TrodAll enc Try.prog W 0 (fun _ => true) true ts vs ds ps → (∀ x ∈ ps, x.block < W.heap.size) → (∀ p ∈ ps, sp p.block = true) → DataW.TrodAll enc Try.prog W' 0 sp true ts vs ds ps
 | [], [], [], _, _, h, _, _ => h
 | [], _ :: _, _, _, _, h, _, _ => h.elim
 | [], [], _ :: _, _, _, h, _, _ => h.elim
 | t :: ts, vs, ds, ps, hr, h, hlt, hs => by
   obtain ⟨v, vs', d, ds', p, q, rfl, rfl, rfl, h0, h1⟩ := trodAll_cons h
   have hr0 := hr t (List.mem_cons_self ..)
   exact trodAll_cons_mk (WideElems.Trod_stays laid hr0.1 hr0.2 h0 (fun x hx => hb.same (hlt x (List.mem_append_left _ hx))) (fun x hx => hs x (List.mem_append_left _ hx)))
     (stays_all hb (fun t ht => hr t (List.mem_cons_of_mem _ ht)) h1 (fun x hx => hlt x (List.mem_append_right _ hx)) (fun x hx => hs x (List.mem_append_right _ hx)))
end Go.Proofs.Ytdpokdcendgfeaa.opened
namespace Go.Proofs.Ytdpokdcendgfeaa.opened
open Go.ChangeShapes Go.WideShapes Go.ChangeAt Go.RowKit Go.Deep
/-- the datum of a slice of n elements -/
def SlLen {H : Type} (d : DataW H) (n : Nat) : Prop := (d = .nil ∧ n = 0) ∨ ∃ es sp, d = .slice es sp ∧ es.length = n
section
variable {H : Type} {enc : TypeId × Value → H} {w : World} {base : Nat} {held : Bool}
theorem src_slice1 {α : Type} [Inhabited α] {t e : TypeId} {fuel : Nat} {c : Value} {x : DataW H × List MemPlace} (ht : Try.prog.underlying t = some (.slice e)) (hc : Try.prog.cellsOf e = 1)
   (h : DataW.trod enc Try.prog w base (fun _ => true) held fuel t [c] = some x) (f : α → Value) (kind : ∀ (V : Value) (n : Nat) (y : DataW H × List MemPlace), DataW.trod enc Try.prog w base (fun _ => true) held n e [V] = some y → ∃ u, V = f u) :
   ∃ oa cap, ∃ l : List α, c = .slice oa l.length cap ∧ Src w oa l.length (l.map f) ∧ l.length ≤ cap ∧ cap ≤ maxLen ∧ SlLen x.1 l.length := by
 rcases open_slice1 ht hc h with ⟨h0, h1⟩ | ⟨a, len, cap, m, n, V, D, Pl, h0, hb, hl, hm, hmm, h1, hx⟩
 · injection h0 with h0
   exact ⟨none, 0, [], h0, fun h => absurd h (by simp), Nat.le_refl _, Nat.zero_le _, .inl ⟨by rw [h1], rfl⟩⟩
 · injection h0 with h0
   simp only [if_true] at hmm
   obtain ⟨U, hU⟩ := choose_lt (α := α) (p := fun i u => V i = f u) (n := len) (fun i hi => kind _ _ _ (hx i (by omega)).2)
   refine ⟨some a, cap, (List.range len).map U, by rw [h0]; simp, fun hp => ?_, by simpa using hl, hm, .inr ⟨_, _, by rw [h1], by simp⟩⟩
   have hp : 0 < len := by simpa using hp
   refine ⟨a, rfl, ?_, fun j v hj => ?_⟩
   · have := lt_of_cell (hx 0 (by omega)).1
     rwa [add_block] at this
   · have hjl : j < len := by have := (List.getElem?_eq_some_iff.1 hj).1; simpa using this
     rw [(hx j (by omega)).1, hU j hjl]
     simpa [hjl] using hj
theorem src_bools {fuel : Nat} {c : Value} {x : DataW H × List MemPlace} (h : DataW.trod enc Try.prog w base (fun _ => true) held fuel 22 [c] = some x) :
   ∃ oa cap, ∃ l : List Bool, c = .slice oa l.length cap ∧ Src w oa l.length (bools l) ∧ l.length ≤ cap ∧ cap ≤ maxLen ∧ SlLen x.1 l.length :=
 src_slice1 Try.underlying22 (by kernel_rfl) h Value.bool fun V n y hy => by
   obtain ⟨b, hb, _⟩ := DataW.trod_bool Try.underlying4 hy
   exact ⟨b, by simpa using hb⟩
theorem src_ints {fuel : Nat} {c : Value} {x : DataW H × List MemPlace} (h : DataW.trod enc Try.prog w base (fun _ => true) held fuel 24 [c] = some x) :
   ∃ oa cap, ∃ l : List Int, c = .slice oa l.length cap ∧ Src w oa l.length (ints l) ∧ l.length ≤ cap ∧ cap ≤ maxLen ∧ SlLen x.1 l.length :=
 src_slice1 Try.underlying24 (by kernel_rfl) h (fun x => .int .i64 x) fun V n y hy => by
   obtain ⟨b, hb, _⟩ := DataW.trod_int Try.underlying3 hy
   exact ⟨b, by simpa using hb⟩
theorem src_vars {fuel : Nat} {c : Value} {x : DataW H × List MemPlace} (h : DataW.trod enc Try.prog w base (fun _ => true) held fuel 23 [c] = some x) :
   ∃ oa cap, ∃ l : List Vr, c = .slice oa l.length cap ∧ Src w oa l.length (vrs l) ∧ l.length ≤ cap ∧ cap ≤ maxLen ∧ SlLen x.1 l.length := by
 rcases open_slice_fields Try.underlying23 Try.underlying51 (by kernel_rfl) (by kernel_rfl) h with ⟨h0, h1⟩ | ⟨a, len, cap, m, D, Pl, h0, hb, hl, hm, hmm, h1, hx⟩
 · injection h0 with h0
   exact ⟨none, 0, [], h0, fun h => absurd h (by simp), Nat.le_refl _, Nat.zero_le _, .inl ⟨by rw [h1], rfl⟩⟩
 · injection h0 with h0
   simp only [if_true] at hmm
   have : Inhabited Vr := ⟨⟨0, 0, 0⟩⟩
   obtain ⟨U, hU⟩ := choose_lt (α := Vr) (p := fun i u => w.cell? (a.add (i * 3)) = some (.int .i64 u.init) ∧ w.cell? (a.add (i * 3 + 1)) = some (.int .i64 u.lo) ∧ w.cell? (a.add (i * 3 + 2)) = some (.int .i64 u.hi)) (n := len) (fun i hi => by
     obtain ⟨ys, k, _, _, _, hf⟩ := hx i (by omega)
     obtain ⟨v0, y0, c0, _, t0⟩ := hf 0 _ rfl
     obtain ⟨v1, y1, c1, _, t1⟩ := hf 1 _ rfl
     obtain ⟨v2, y2, c2, _, t2⟩ := hf 2 _ rfl
     obtain ⟨n0, e0, _⟩ := DataW.trod_int Try.underlying3 t0
     obtain ⟨n1, e1, _⟩ := DataW.trod_int Try.underlying3 t1
     obtain ⟨n2, e2, _⟩ := DataW.trod_int Try.underlying3 t2
     injection e0 with e0
     injection e1 with e1
     injection e2 with e2
     subst e0 e1 e2
     exact ⟨⟨n0, n1, n2⟩, c0, c1, c2⟩)
   refine ⟨some a, cap, (List.range len).map U, by rw [h0]; simp, fun hp => ?_, by simpa using hl, hm, .inr ⟨_, _, by rw [h1], by simp⟩⟩
   have hp : 0 < len := by simpa using hp
   refine ⟨a, rfl, ?_, fun j v hj => ?_⟩
   · have := lt_of_cell (hU 0 hp).1
     rwa [add_block] at this
   · have hjl : j < len * 3 := by
       have := (List.getElem?_eq_some_iff.1 hj).1
       have hlen : ∀ l : List Vr, (vrs l).length = l.length * 3 := fun l => by
         induction l with
         | nil => rfl
         | cons x l ih => simp only [vrs, List.map_cons, List.flatten_cons, List.length_append, List.length_cons] at ih ⊢; rw [ih]; simp [Vr.cells]; omega
       rw [hlen] at this
       simpa using this
     have hy : ((List.range len).map U)[j / 3]? = some (U (j / 3)) := by rw [List.getElem?_map, List.getElem?_range (by omega)]; rfl
     have hz := fun k hk => vrs_at _ _ k _ hy hk
     obtain ⟨d0, d1, d2⟩ := hU (j / 3) (by omega)
     obtain h3 | h3 | h3 : j = j / 3 * 3 ∨ j = j / 3 * 3 + 1 ∨ j = j / 3 * 3 + 2 := by omega
     · rw [h3] at hj ⊢; have := hz 0 (by omega); rw [Nat.add_zero] at this; rw [this] at hj; rw [d0]; exact hj
     · rw [h3] at hj ⊢; rw [hz 1 (by omega)] at hj; rw [d1]; exact hj
     · rw [h3] at hj ⊢; rw [hz 2 (by omega)] at hj; rw [d2]; exact hj
theorem src_acts {fuel : Nat} {c : Value} {x : DataW H × List MemPlace} (h : DataW.trod enc Try.prog w base (fun _ => true) held fuel 26 [c] = some x) :
   ∃ oa cap, ∃ l : List Ac, c = .slice oa l.length cap ∧ Src w oa l.length (acs l) ∧ l.length ≤ cap ∧ cap ≤ maxLen ∧ SlLen x.1 l.length := by
 rcases open_slice_fields Try.underlying26 Try.underlying49 (by kernel_rfl) (by kernel_rfl) h with ⟨h0, h1⟩ | ⟨a, len, cap, m, D, Pl, h0, hb, hl, hm, hmm, h1, hx⟩
 · injection h0 with h0
   exact ⟨none, 0, [], h0, fun h => absurd h (by simp), Nat.le_refl _, Nat.zero_le _, .inl ⟨by rw [h1], rfl⟩⟩
 · injection h0 with h0
   simp only [if_true] at hmm
   have : Inhabited Ac := ⟨⟨0, 0, 0, 0, 0, 0⟩⟩
   obtain ⟨U, hU⟩ := choose_lt (α := Ac) (p := fun i u => w.cell? (a.add (i * 6)) = some (.int .i64 u.k) ∧ w.cell? (a.add (i * 6 + 1)) = some (.int .i64 u.a) ∧ w.cell? (a.add (i * 6 + 2)) = some (.int .i64 u.b) ∧ w.cell? (a.add (i * 6 + 3)) = some (.int .i64 u.c) ∧ w.cell? (a.add (i * 6 + 4)) = some (.int .i64 u.d) ∧ w.cell? (a.add (i * 6 + 5)) = some (.int .i64 u.n)) (n := len) (fun i hi => by
     obtain ⟨ys, k, _, _, _, hf⟩ := hx i (by omega)
     obtain ⟨v0, y0, c0, _, t0⟩ := hf 0 _ rfl
     obtain ⟨v1, y1, c1, _, t1⟩ := hf 1 _ rfl
     obtain ⟨v2, y2, c2, _, t2⟩ := hf 2 _ rfl
     obtain ⟨v3, y3, c3, _, t3⟩ := hf 3 _ rfl
     obtain ⟨v4, y4, c4, _, t4⟩ := hf 4 _ rfl
     obtain ⟨v5, y5, c5, _, t5⟩ := hf 5 _ rfl
     obtain ⟨n0, e0, _⟩ := DataW.trod_int Try.underlying3 t0
     obtain ⟨n1, e1, _⟩ := DataW.trod_int Try.underlying3 t1
     obtain ⟨n2, e2, _⟩ := DataW.trod_int Try.underlying3 t2
     obtain ⟨n3, e3, _⟩ := DataW.trod_int Try.underlying3 t3
     obtain ⟨n4, e4, _⟩ := DataW.trod_int Try.underlying3 t4
     obtain ⟨n5, e5, _⟩ := DataW.trod_int Try.underlying3 t5
     injection e0 with e0
     injection e1 with e1
     injection e2 with e2
     injection e3 with e3
     injection e4 with e4
     injection e5 with e5
     subst e0 e1 e2 e3 e4 e5
     exact ⟨⟨n0, n1, n2, n3, n4, n5⟩, c0, c1, c2, c3, c4, c5⟩)
   refine ⟨some a, cap, (List.range len).map U, by rw [h0]; simp, fun hp => ?_, by simpa using hl, hm, .inr ⟨_, _, by rw [h1], by simp⟩⟩
   have hp : 0 < len := by simpa using hp
   refine ⟨a, rfl, ?_, fun j v hj => ?_⟩
   · have := lt_of_cell (hU 0 hp).1
     rwa [add_block] at this
   · have hjl : j < len * 6 := by
       have := (List.getElem?_eq_some_iff.1 hj).1
       have hlen : ∀ l : List Ac, (acs l).length = l.length * 6 := fun l => by
         induction l with
         | nil => rfl
         | cons x l ih => simp only [acs, List.map_cons, List.flatten_cons, List.length_append, List.length_cons] at ih ⊢; rw [ih]; simp [Ac.cells]; omega
       rw [hlen] at this
       simpa using this
     have hy : ((List.range len).map U)[j / 6]? = some (U (j / 6)) := by rw [List.getElem?_map, List.getElem?_range (by omega)]; rfl
     have hz := fun k hk => acs_at _ _ k _ hy hk
     obtain ⟨d0, d1, d2, d3, d4, d5⟩ := hU (j / 6) (by omega)
     obtain h3 | h3 | h3 | h3 | h3 | h3 : j = j / 6 * 6 ∨ j = j / 6 * 6 + 1 ∨ j = j / 6 * 6 + 2 ∨ j = j / 6 * 6 + 3 ∨ j = j / 6 * 6 + 4 ∨ j = j / 6 * 6 + 5 := by omega
     · rw [h3] at hj ⊢; have := hz 0 (by omega); rw [Nat.add_zero] at this; rw [this] at hj; rw [d0]; exact hj
     · rw [h3] at hj ⊢; rw [hz 1 (by omega)] at hj; rw [d1]; exact hj
     · rw [h3] at hj ⊢; rw [hz 2 (by omega)] at hj; rw [d2]; exact hj
     · rw [h3] at hj ⊢; rw [hz 3 (by omega)] at hj; rw [d3]; exact hj
     · rw [h3] at hj ⊢; rw [hz 4 (by omega)] at hj; rw [d4]; exact hj
     · rw [h3] at hj ⊢; rw [hz 5 (by omega)] at hj; rw [d5]; exact hj
/-- events, and their data -/
def EvLen {H : Type} (d : DataW H) (ls : List (List Ac)) : Prop := (d = .nil ∧ ls = []) ∨ ∃ es sp, d = .slice es sp ∧ es.length = ls.length ∧ ∀ (i : Nat) (l : List Ac), ls[i]? = some l → ∃ e, es[i]? = some e ∧ SlLen e l.length
theorem slv_range (n : Nat) (f : Nat → Option Addr × Nat × List Ac) : slv ((List.range n).map fun i => ((f i).1, (f i).2.1)) ((List.range n).map fun i => (f i).2.2) = (List.range n).map fun i => .slice (f i).1 (f i).2.2.length (f i).2.1 := by
 have : ∀ l : List Nat, slv (l.map fun i => ((f i).1, (f i).2.1)) (l.map fun i => (f i).2.2) = l.map fun i => .slice (f i).1 (f i).2.2.length (f i).2.1 := fun l => by
   induction l with
   | nil => rfl
   | cons x l ih => simp only [List.map_cons, slv, ih]
 exact this _
theorem src_events {fuel : Nat} {c : Value} {x : DataW H × List MemPlace} (h : DataW.trod enc Try.prog w base (fun _ => true) held fuel 25 [c] = some x) :
   ∃ oa cap, ∃ (rs : List (Option Addr × Nat)) (ls : List (List Ac)), c = .slice oa ls.length cap ∧ Src w oa ls.length (slv rs ls) ∧ EvMem w rs ls ∧ ls.length ≤ cap ∧ cap ≤ maxLen ∧ EvLen x.1 ls := by
 rcases open_slice1 Try.underlying25 (by kernel_rfl) h with ⟨h0, h1⟩ | ⟨a, len, cap, m, n, V, D, Pl, h0, hb, hl, hm, hmm, h1, hx⟩
 · injection h0 with h0
   exact ⟨none, 0, [], [], h0, fun h => absurd h (by simp), ⟨rfl, fun i oa c l h => by simp at h⟩, Nat.le_refl _, Nat.zero_le _, .inl ⟨by rw [h1], rfl⟩⟩
 · injection h0 with h0
   simp only [if_true] at hmm
   have : Inhabited (Option Addr × Nat × List Ac) := ⟨(none, 0, [])⟩
   obtain ⟨U, hU⟩ := choose_lt (α := Option Addr × Nat × List Ac) (p := fun i u => V i = .slice u.1 u.2.2.length u.2.1 ∧ Src w u.1 u.2.2.length (acs u.2.2) ∧ u.2.2.length ≤ u.2.1 ∧ u.2.1 ≤ maxLen ∧ SlLen (D i) u.2.2.length) (n := len) (fun i hi => by
     obtain ⟨oa, cp, l, e1, e2, e3, e4, e5⟩ := src_acts (hx i (by omega)).2
     exact ⟨(oa, cp, l), e1, e2, e3, e4, e5⟩)
   have hg1 : ∀ i, i < len → ((List.range len).map fun i => ((U i).1, (U i).2.1))[i]? = some ((U i).1, (U i).2.1) := fun i hi => by rw [List.getElem?_map, List.getElem?_range hi]; rfl
   have hg2 : ∀ i, i < len → ((List.range len).map fun i => (U i).2.2)[i]? = some (U i).2.2 := fun i hi => by rw [List.getElem?_map, List.getElem?_range hi]; rfl
   refine ⟨some a, cap, (List.range len).map fun i => ((U i).1, (U i).2.1), (List.range len).map fun i => (U i).2.2, by rw [h0]; simp, fun hp => ?_, ⟨by simp, fun i oa c l e1 e2 => ?_⟩, by simpa using hl, hm, .inr ⟨_, _, by rw [h1], by simp, fun i l hl => ?_⟩⟩
   · have hp : 0 < len := by simpa using hp
     refine ⟨a, rfl, ?_, fun j v hj => ?_⟩
     · have := lt_of_cell (hx 0 (by omega)).1
       rwa [add_block] at this
     · rw [slv_range] at hj
       have hjl : j < len := by have := (List.getElem?_eq_some_iff.1 hj).1; simpa using this
       rw [(hx j (by omega)).1, (hU j hjl).1]
       simpa [hjl] using hj
   · have hi : i < len := by have := (List.getElem?_eq_some_iff.1 e1).1; simpa using this
     rw [hg1 i hi] at e1
     rw [hg2 i hi] at e2
     injection e1 with e1
     injection e2 with e2
     injection e1 with e3 e4
     subst e2 e3 e4
     exact ⟨(hU i hi).2.1, (hU i hi).2.2.1, (hU i hi).2.2.2.1⟩
   · have hi : i < len := by have := (List.getElem?_eq_some_iff.1 hl).1; simpa using this
     rw [hg2 i hi] at hl
     injection hl with hl
     subst hl
     refine ⟨D i, by rw [List.getElem?_map, List.getElem?_range hi]; rfl, (hU i hi).2.2.2.2⟩
end
/-- a plan's datum -/
def PlanD {H : Type} (d : DataW H) (P : Pl) : Prop := ∃ dg dv dt dn dm, d = .agg [dg, dv, dt, dn, dm] ∧ SlLen dg P.gh.length ∧ SlLen dv P.vs.length ∧ SlLen dt P.ts.length ∧ EvLen dn P.on ∧ SlLen dm P.ms.length
set_option maxRecDepth 100000 in
theorem open_plan {H : Type} {enc : TypeId × Value → H} {W : World} {r : Reach} {b0 : Nat} {v : Value} {d : DataW H} {p : List MemPlace} (hv : Value.okWide Try.prog W r b0 28 v)
   (h : DataW.Trod enc Try.prog W 0 (fun _ => true) true 28 v d p) : ∃ q P rs, v = PlV.val q ∧ PlMem W q P rs ∧ PlanD d P := by
 obtain ⟨fuel, hf⟩ := h
 obtain ⟨cs, rfl, hsz⟩ := okWide_struct Try.underlying28 hv
 obtain ⟨ys, n, _, hd, hl, hyl, hfs⟩ := DataW.trod_struct Try.underlying28 hf
 have h28 : Try.prog.cellsOf 28 = 5 := by kernel_rfl
 obtain ⟨c0, c1, c2, c3, c4, rfl⟩ : ∃ c0 c1 c2 c3 c4, cs = #[c0, c1, c2, c3, c4] := by
   rcases cs with ⟨l⟩
   have hl6 : l.length = 5 := by rw [← h28, ← hsz]; rfl
   match l, hl6 with
   | [c0, c1, c2, c3, c4], _ => exact ⟨c0, c1, c2, c3, c4, rfl⟩
 have hyl5 : ys.length = 5 := hyl
 obtain ⟨y0, y1, y2, y3, y4, rfl⟩ : ∃ y0 y1 y2 y3 y4, ys = [y0, y1, y2, y3, y4] := by
   match ys, hyl5 with
   | [c0, c1, c2, c3, c4], _ => exact ⟨c0, c1, c2, c3, c4, rfl⟩
 have f0 : DataW.trod enc Try.prog W 0 (fun _ => true) true n 22 [c0] = some y0 := (hfs 0 _ rfl).trans rfl
 have f1 : DataW.trod enc Try.prog W 0 (fun _ => true) true n 23 [c1] = some y1 := (hfs 1 _ rfl).trans rfl
 have f2 : DataW.trod enc Try.prog W 0 (fun _ => true) true n 24 [c2] = some y2 := (hfs 2 _ rfl).trans rfl
 have f3 : DataW.trod enc Try.prog W 0 (fun _ => true) true n 25 [c3] = some y3 := (hfs 3 _ rfl).trans rfl
 have f4 : DataW.trod enc Try.prog W 0 (fun _ => true) true n 26 [c4] = some y4 := (hfs 4 _ rfl).trans rfl
 obtain ⟨ga, gc, gl, rfl, sg, g1, g2, g3⟩ := src_bools f0
 obtain ⟨va, vc, vl, rfl, sv, v1, v2, v3⟩ := src_vars f1
 obtain ⟨ta, tc, tl, rfl, st, t1, t2, t3⟩ := src_ints f2
 obtain ⟨oa, oc, rs, ol, rfl, so, se, o1, o2, o3⟩ := src_events f3
 obtain ⟨ma, mc, ml, rfl, sm, m1, m2, m3⟩ := src_acts f4
 injection hd with hd hp
 refine ⟨⟨ga, va, ta, oa, ma, gl.length, gc, vl.length, vc, tl.length, tc, ol.length, oc, ml.length, mc⟩, ⟨gl, vl, tl, ol, ml⟩, rs, rfl, ⟨rfl, rfl, rfl, rfl, rfl, sg, sv, st, so, ⟨by simp [se.1], fun i oa' c l e1 e2 => ?_⟩, Nat.le_trans g1 g2, Nat.le_trans v1 v2, Nat.le_trans t1 t2, Nat.le_trans o1 o2⟩, ⟨_, _, _, _, _, hd, g3, v3, t3, o3, m3⟩⟩
 by_cases hi : i < ol.length
 · rw [List.getElem?_append_left (by rw [se.1]; exact hi)] at e1
   rw [List.getElem?_append_left hi] at e2
   exact se.2 i oa' c l e1 e2
 · have hi2 : i < ol.length + 1 := by have h9 := (List.getElem?_eq_some_iff.1 e2).1; simpa using h9
   have hi3 : i = ol.length := Nat.le_antisymm (Nat.lt_succ_iff.1 hi2) (Nat.le_of_not_lt hi)
   subst hi3
   rw [List.getElem?_append_right (by rw [se.1]; exact Nat.le_refl _)] at e1
   rw [List.getElem?_append_right (Nat.le_refl _)] at e2
   simp [se.1] at e1 e2
   obtain ⟨rfl, rfl⟩ := e1
   subst e2
   exact ⟨sm, m1, m2⟩
end Go.Proofs.Ytdpokdcendgfeaa.opened
namespace Go.Proofs.Ytdpokdcendgfeaa.opened
open Go.ChangeShapes Go.WideShapes Go.ChangeAt Go.RowKit Go.Deep
section
variable {H : Type}
theorem bulk_len : ∀ (l : List (DataW H)), l.length ≤ Rows.uptoBulkAll l
 | [] => Nat.zero_le _
 | d :: r => by
   have h1 : 1 ≤ Rows.uptoBulk d := by
     cases d <;> try (unfold Rows.uptoBulk; omega)
     all_goals (rename_i x; cases x <;> (unfold Rows.uptoBulk; omega))
   have h2 := bulk_len r
   unfold Rows.uptoBulkAll
   simp only [List.length_cons]
   omega
theorem bulk_mem : ∀ {l : List (DataW H)} {d : DataW H}, d ∈ l → Rows.uptoBulk d ≤ Rows.uptoBulkAll l
 | x :: l, d, h => by
   unfold Rows.uptoBulkAll
   rcases List.mem_cons.1 h with rfl | h
   · omega
   · have := bulk_mem h
     omega
theorem bulk_slice {d : DataW H} {n : Nat} (h : SlLen d n) : n ≤ Rows.uptoBulk d := by
 rcases h with ⟨_, rfl⟩ | ⟨es, sp, rfl, rfl⟩
 · exact Nat.zero_le _
 · unfold Rows.uptoBulk
   have := bulk_len es
   omega
theorem plan_bulk {d : DataW H} {P : Pl} (h : PlanD d P) : P.gh.length ≤ Rows.uptoBulk d ∧ P.vs.length ≤ Rows.uptoBulk d ∧ P.ts.length ≤ Rows.uptoBulk d ∧ P.on.length ≤ Rows.uptoBulk d ∧ ∀ l ∈ P.on ++ [P.ms], l.length ≤ Rows.uptoBulk d := by
 obtain ⟨dg, dv, dt, dn, dm, rfl, hg, hv, ht, hn, hm⟩ := h
 have hb : ∀ x ∈ [dg, dv, dt, dn, dm], Rows.uptoBulk x ≤ Rows.uptoBulk (DataW.agg [dg, dv, dt, dn, dm] : DataW H) := fun x hx => by
   have h1 := bulk_mem hx
   have e : Rows.uptoBulk (DataW.agg [dg, dv, dt, dn, dm] : DataW H) = Rows.uptoBulkAll [dg, dv, dt, dn, dm] + 1 := by rw [Rows.uptoBulk]
   omega
 have hbn := hb dn (by simp)
 have hbm := hb dm (by simp)
 refine ⟨Nat.le_trans (bulk_slice hg) (hb dg (by simp)), Nat.le_trans (bulk_slice hv) (hb dv (by simp)), Nat.le_trans (bulk_slice ht) (hb dt (by simp)), ?_, fun l hl => ?_⟩
 · rcases hn with ⟨_, hnil⟩ | ⟨es, sp, rfl, hlen, _⟩
   · rw [hnil]; simp
   · have := bulk_slice (d := DataW.slice es sp) (.inr ⟨es, sp, rfl, rfl⟩)
     omega
 · rcases List.mem_append.1 hl with h5 | h5
   · rcases hn with ⟨_, hnil⟩ | ⟨es, sp, rfl, hlen, hes⟩
     · rw [hnil] at h5; simp at h5
     · obtain ⟨i, hi⟩ := List.getElem?_of_mem h5
       obtain ⟨e, he, hse⟩ := hes i l hi
       have h6 := bulk_slice hse
       have h7 := bulk_mem (List.mem_of_getElem? he)
       have e8 : Rows.uptoBulk (DataW.slice es sp : DataW H) = Rows.uptoBulkAll es + Rows.uptoBulkAll sp + 1 := by rw [Rows.uptoBulk]
       omega
   · simp at h5
     rw [h5]
     exact Nat.le_trans (bulk_slice hm) hbm
end
end Go.Proofs.Ytdpokdcendgfeaa.opened
