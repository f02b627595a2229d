/- Several texts in one: The walks of the smallest functions of rule: from, typeOf, may, kidsOf. Rows of a plan in memory; the walk of slices.Index at rows. The walks of the smallest functions of fold: fixed, num, truth, clamp, asNum, asBool. The walk of fold.end. The walks of slices.Clone at the types of a plan. The walk of fold.kids. Bounds on what rule's row tells. Nothing here names the program. The rows of a right event as a tree: spans of rows, their kids. Nothing here names the program. The walks of gen.plain, gen.behind. What gen makes of a plan, as functions on lists. Nothing here names the program. Conditions: those of each. -/
import Derived.Test.YtdpokdcendgfeaaProg
import Derived.WalkKit
import Derived.RegionTactic
import Derived.ChangeAlike
import Derived.BigQuiet
import Derived.Outline
import Derived.Test.YtdpokdcendgfeaaZ1
import Derived.Laws.StructEq
import Derived.Laws.Cover3
import Derived.Maps.AppendAt
set_option linter.unusedSimpArgs false
set_option linter.unusedVariables false
set_option maxHeartbeats 40000000
namespace Go.Proofs.Ytdpokdcendgfeaa
open Go.RowKit
def Ac.cells (x : Ac) : List Value := [.int .i64 x.k, .int .i64 x.a, .int .i64 x.b, .int .i64 x.c, .int .i64 x.d, .int .i64 x.n]
def Ac.val (x : Ac) : Value := .agg #[.int .i64 x.k, .int .i64 x.a, .int .i64 x.b, .int .i64 x.c, .int .i64 x.d, .int .i64 x.n]
def ints (l : List Int) : List Value := l.map (.int .i64)
/-- a source of cells -/
def Src (w : World) (oa : Option Addr) (n : Nat) (cs : List Value) : Prop := 0 < n → ∃ ad, oa = some ad ∧ ad.block < w.heap.size ∧ ∀ j v, cs[j]? = some v → w.cell? (ad.add j) = some v
theorem add_block (a : Addr) (j : Nat) : (a.add j).block = a.block := by unfold Addr.add; split <;> rfl
theorem Src.below {w w' : World} {oa : Option Addr} {n : Nat} {cs : List Value} (h : Src w oa n cs) (hb : Below w.heap.size w w') : Src w' oa n cs := fun h0 => by
 obtain ⟨ad, e, hl, hx⟩ := h h0
 exact ⟨ad, e, Nat.lt_of_lt_of_le hl hb.size, fun j v hj => (hb.cell (by rw [add_block]; exact hl)).trans (hx j v hj)⟩
theorem src_blk {w : World} {g : Nat} {t : TypeId} {cs : List Value} (n : Nat) (h : Blk w g t cs.toArray) : Src w (some ⟨g, 0, none⟩) n cs := fun _ => by
 refine ⟨_, rfl, h.lt, fun j v hj => ?_⟩
 have hadd : (⟨g, 0, none⟩ : Addr).add j = ⟨g, j, none⟩ := by unfold Addr.add; split <;> simp_all
 rw [hadd, h.cell]
 simpa using hj
theorem src_nil (w : World) (cs : List Value) : Src w none 0 cs := fun h => absurd h (by decide)
set_option maxRecDepth 100000 in
theorem from_i (w : World) (n lo hi : Int) : Calls Try.prog 63 #[.int .i64 n, .int .i64 lo, .int .i64 hi] w fun en w' => en = .returned (.bool (fromV n lo hi)) ∧ w = w' := by
 unfold fromV
 go_enter Try.func63, Try.ntmps63
 go_wp2
 all_goals
   go_ret
   first | exact ⟨rfl, rfl⟩ | (refine ⟨?_, rfl⟩; congr 2; simp; omega)
set_option maxRecDepth 100000 in
theorem typeOf_i (w : World) (k : Int) : Calls Try.prog 105 #[.int .i64 k] w fun en w' => en = .returned (.int .i64 (typeV k)) ∧ w = w' := by
 unfold typeV
 go_enter Try.func105, Try.ntmps105
 go_wp2
 all_goals
   go_ret
   refine ⟨?_, rfl⟩
   simp only [beq_iff_eq, beq_eq_false_iff_ne, ne_eq] at *
   simp [*]
   first | done | omega | (rw [Bool.eq_iff_iff]; simp only [Bool.or_eq_true, beq_iff_eq, decide_eq_true_eq]; done) | (rw [Bool.eq_iff_iff]; simp only [Bool.or_eq_true, beq_iff_eq, decide_eq_true_eq]; omega)
set_option maxRecDepth 100000 in
theorem may_i (w : World) (what k : Int) : Calls Try.prog 101 #[.int .i64 what, .int .i64 k] w fun en w' => en = .returned (.bool (mayV what k)) ∧ w = w' := by
 have HT := fun (W : World) => hide (typeOf_i W k)
 unfold mayV
 go_enter Try.func101, Try.ntmps101
 go_wp2_with (go_at_call 105
              refine (HT _).out.mono ?_
              rintro en w1 ⟨rfl, rfl⟩)
 all_goals
   go_ret
   refine ⟨?_, rfl⟩
   simp only [beq_iff_eq, beq_eq_false_iff_ne, ne_eq] at *
   simp [*]
   first | done | omega | (rw [Bool.eq_iff_iff]; simp only [Bool.or_eq_true, beq_iff_eq, decide_eq_true_eq]; done) | (rw [Bool.eq_iff_iff]; simp only [Bool.or_eq_true, beq_iff_eq, decide_eq_true_eq]; omega)
end Go.Proofs.Ytdpokdcendgfeaa
namespace Go.Proofs.Ytdpokdcendgfeaa
open Go.RowKit
/-! rows compared -/
theorem f49 : (Try.prog.fieldsOf 49).toList.map (fun f => (f.name == "_", f.type, f.offset)) = [(false, 3, 0), (false, 3, 1), (false, 3, 2), (false, 3, 3), (false, 3, 4), (false, 3, 5)] := by kernel_rfl
theorem u49 : Try.prog.underlying 49 = some (.struct (Try.prog.fieldsOf 49)) := by kernel_rfl
theorem s49 : Try.prog.stoodInHeld 49 = false := by kernel_rfl
theorem run_part_int {P : Program} {t : TypeId} {k : IntKind} (hu : P.underlying t = some (.int k)) (xs : Array Value) (o : Nat) (n : Int) (hx : xs[o]? = some (.int .i64 n)) (w : World) : (part t xs o).run P w = .ok (.int .i64 n) w := by
 simp [part, isAgg, run_underlying hu, hx]
theorem eqFields_int {P : Program} {w : World} {d : Nat} {t : TypeId} {k : IntKind} (hu : P.underlying t = some (.int k)) (xs ys : Array Value) : ∀ (fs : List Field) (X Y : List (Int × Nat)),
   fs.map (fun f => (f.name == "_", f.type, f.offset)) = X.map (fun x => (false, t, x.2)) → X.map Prod.snd = Y.map Prod.snd → (∀ x ∈ X, xs[x.2]? = some (.int .i64 x.1)) → (∀ y ∈ Y, ys[y.2]? = some (.int .i64 y.1)) → (Op.eqFields (d + 1) xs ys fs).run P w = .ok (decide (X = Y)) w
 | [], X, Y, h1, h2, _, _ => by
   cases X with
   | nil => cases Y with
     | nil => simp [Op.eqFields]
     | cons => simp at h2
   | cons => simp at h1
 | f :: fs, [], Y, h1, h2, _, _ => by simp at h1
 | f :: fs, x :: X, [], h1, h2, _, _ => by simp at h2
 | f :: fs, x :: X, y :: Y, h1, h2, hx, hy => by
   simp only [List.map_cons, List.cons.injEq, Prod.mk.injEq] at h1 h2
   obtain ⟨⟨e1, e2, e3⟩, h1⟩ := h1
   obtain ⟨e4, h2⟩ := h2
   have ih := eqFields_int (w := w) (d := d) hu xs ys fs X Y h1 h2 (fun z hz => hx z (by simp [hz])) (fun z hz => hy z (by simp [hz]))
   have a1 := run_part_int hu xs x.2 x.1 (hx x (by simp)) w
   have a2 := run_part_int hu ys y.2 y.1 (hy y (by simp)) w
   have e1' : f.name ≠ "_" := by simpa using e1
   unfold Op.eqFields
   rw [if_pos e1', e2, e3]
   rw [← e4] at a2
   simp only [Sem.run_bind, a1, a2, Result.andThen_ok, run_equalIn_int w d t .i64 k x.1 y.1 hu]
   by_cases he : x.1 = y.1
   · have hxy : x = y := Prod.ext he e4
     subst hxy
     simp [ih]
   · have hxy : ¬ x = y := fun e => he (by rw [e])
     simp [he, hxy]
theorem eqA (w : World) (x0 x1 x2 x3 x4 x5 y0 y1 y2 y3 y4 y5 : Int) : (binOp .eql 49 (.agg #[.int .i64 x0, .int .i64 x1, .int .i64 x2, .int .i64 x3, .int .i64 x4, .int .i64 x5]) (.agg #[.int .i64 y0, .int .i64 y1, .int .i64 y2, .int .i64 y3, .int .i64 y4, .int .i64 y5])).run Try.prog w =
   .ok (.bool (decide ((⟨x0, x1, x2, x3, x4, x5⟩ : Ac) = ⟨y0, y1, y2, y3, y4, y5⟩))) w := by
 have h1 := run_equalIn_agg (P := Try.prog) w 9999 49 #[.int .i64 x0, .int .i64 x1, .int .i64 x2, .int .i64 x3, .int .i64 x4, .int .i64 x5] #[.int .i64 y0, .int .i64 y1, .int .i64 y2, .int .i64 y3, .int .i64 y4, .int .i64 y5] u49 s49
 have h2 := eqFields_int (P := Try.prog) (w := w) (d := 9998) (t := 3) (k := .i64) Try.underlying3 #[.int .i64 x0, .int .i64 x1, .int .i64 x2, .int .i64 x3, .int .i64 x4, .int .i64 x5] #[.int .i64 y0, .int .i64 y1, .int .i64 y2, .int .i64 y3, .int .i64 y4, .int .i64 y5] (Try.prog.fieldsOf 49).toList [(x0, 0), (x1, 1), (x2, 2), (x3, 3), (x4, 4), (x5, 5)] [(y0, 0), (y1, 1), (y2, 2), (y3, 3), (y4, 4), (y5, 5)] f49 rfl (by simp) (by simp)
 rw [run_eql_struct, h1, h2]
 simp
theorem g49 : Try.prog.eqGuardType Try.prog.depth 49 = false := by kernel_rfl
def acs (l : List Ac) : List Value := (l.map Ac.cells).flatten
theorem acs_at : ∀ (l : List Ac) (i j : Nat) (x : Ac), l[i]? = some x → j < 6 → (acs l)[i * 6 + j]? = x.cells[j]?
 | [], i, j, x, h, _ => by simp at h
 | y :: l, 0, j, x, h, hj => by
   simp at h
   subst h
   simp only [acs, List.map_cons, List.flatten_cons, Nat.zero_mul, Nat.zero_add]
   rw [List.getElem?_append_left (by simp [Ac.cells]; omega)]
 | y :: l, i + 1, j, x, h, hj => by
   have ih := acs_at l i j x (by simpa using h) hj
   simp only [acs, List.map_cons, List.flatten_cons] at ih ⊢
   rw [List.getElem?_append_right (by simp [Ac.cells]; omega)]
   rw [← ih]
   congr 1
   simp [Ac.cells]
   omega
theorem add_fld (a : Addr) (m k : Nat) : a.add (m + (k + 1)) = ⟨(a.add m).block, (a.add m).off + (k + 1), none⟩ := by
 obtain ⟨b, o, e⟩ := a
 cases m <;> simp [Addr.add] <;> omega
theorem add_add (a : Addr) (m k : Nat) : (a.add m).add k = a.add (m + k) := by
 obtain ⟨b, o, e⟩ := a
 cases m <;> cases k <;> simp [Addr.add] <;> omega
/-- a row's six cells -/
def RowAt (w : World) (p : Addr) (x : Ac) : Prop := w.cell? p = some (.int .i64 x.k) ∧ w.cell? ⟨p.block, p.off + 1, none⟩ = some (.int .i64 x.a) ∧ w.cell? ⟨p.block, p.off + 2, none⟩ = some (.int .i64 x.b) ∧ w.cell? ⟨p.block, p.off + 3, none⟩ = some (.int .i64 x.c) ∧ w.cell? ⟨p.block, p.off + 4, none⟩ = some (.int .i64 x.d) ∧ w.cell? ⟨p.block, p.off + 5, none⟩ = some (.int .i64 x.n)
theorem RowAt.below {w w' : World} {p : Addr} {x : Ac} (h : RowAt w p x) (hp : p.block < w.heap.size) (hb : Below w.heap.size w w') : RowAt w' p x := by
 obtain ⟨h0, h1, h2, h3, h4, h5⟩ := h
 exact ⟨(hb.cell hp).trans h0, (hb.cell (by exact hp)).trans h1, (hb.cell (by exact hp)).trans h2, (hb.cell (by exact hp)).trans h3, (hb.cell (by exact hp)).trans h4, (hb.cell (by exact hp)).trans h5⟩
theorem acs_row {w : World} {oa : Option Addr} {l : List Ac} (h : Src w oa l.length (acs l)) {i : Nat} {x : Ac} (hi : l[i]? = some x) : ∃ ad, oa = some ad ∧ ad.block < w.heap.size ∧ RowAt w (ad.add (i * 6)) x := by
 have hl := (List.getElem?_eq_some_iff.1 hi).1
 obtain ⟨ad, e, hb, hx⟩ := h (by omega)
 have hz : ∀ j v, j < 6 → x.cells[j]? = some v → w.cell? (ad.add (i * 6 + j)) = some v := fun j v hj hv => hx _ _ ((acs_at l i j x hi hj).trans hv)
 have z0 := hz 0 _ (by omega) rfl
 have z1 := hz 1 _ (by omega) rfl
 have z2 := hz 2 _ (by omega) rfl
 have z3 := hz 3 _ (by omega) rfl
 have z4 := hz 4 _ (by omega) rfl
 have z5 := hz 5 _ (by omega) rfl
 rw [add_fld ad (i * 6) 0] at z1
 rw [add_fld ad (i * 6) 1] at z2
 rw [add_fld ad (i * 6) 2] at z3
 rw [add_fld ad (i * 6) 3] at z4
 rw [add_fld ad (i * 6) 4] at z5
 exact ⟨ad, e, hb, z0, z1, z2, z3, z4, z5⟩
theorem acs_drop : ∀ (l : List Ac) (i : Nat), (acs l).drop (i * 6) = acs (l.drop i)
 | l, 0 => by simp
 | [], i + 1 => by simp [acs]
 | y :: l, i + 1 => by
   have ih := acs_drop l i
   have e : acs (y :: l) = y.cells ++ acs l := by simp [acs]
   rw [e, List.drop_append, List.drop_of_length_le (by simp [Ac.cells]; omega), List.nil_append, List.drop_succ_cons, ← ih]
   congr 1
   simp [Ac.cells]
   omega
theorem acs_take : ∀ (l : List Ac) (i : Nat), acs (l.take i) = (acs l).take (i * 6)
 | l, 0 => by simp [acs]
 | [], i + 1 => by simp [acs]
 | y :: l, i + 1 => by
   have ih := acs_take l i
   have e : acs (y :: l) = y.cells ++ acs l := by simp [acs]
   have e2 : acs ((y :: l).take (i + 1)) = y.cells ++ acs (l.take i) := by simp [acs]
   rw [e2, e, List.take_append, List.take_of_length_le (show y.cells.length ≤ (i + 1) * 6 by show 6 ≤ (i + 1) * 6; omega), ih]
   congr 2
   show i * 6 = (i + 1) * 6 - 6
   omega
/-- a part of the rows -/
theorem src_part {w : World} {ad : Addr} {l : List Ac} (h : Src w (some ad) l.length (acs l)) (i m : Nat) (hm : i + m ≤ l.length) : Src w (some (ad.add (i * 6))) m (acs ((l.drop i).take m)) := fun h0 => by
 obtain ⟨ad', e, hb, hx⟩ := h (by omega)
 injection e with e
 subst e
 refine ⟨_, rfl, by rw [add_block]; exact hb, fun j v hj => ?_⟩
 rw [add_add]
 refine hx _ _ ?_
 rw [acs_take, ← acs_drop, List.getElem?_take] at hj
 split at hj
 · rwa [List.getElem?_drop] at hj
 · cases hj
set_option maxRecDepth 100000 in
theorem indexA_i (w : World) (ad : Addr) (l : List Ac) (cp k : Nat) (x : Ac) (h : Src w (some ad) l.length (acs l)) (hk : l[k]? = some x) (hb : ∀ j y, j < k → l[j]? = some y → y ≠ x) (hl : l.length ≤ 4194304) :
   Calls Try.prog 173 #[.slice (some ad) l.length cp, x.val] w fun en w' => en = .returned (.int .i64 (k : Int)) ∧ Below w.heap.size w w' := by
 have HB := hide hb
 have HR := fun (i : Nat) (y : Ac) (hy : l[i]? = some y) => hide (acs_row h hy)
 have HK := hide hk
 have HKL := hide (List.getElem?_eq_some_iff.1 hk).1
 clear hb hk h
 obtain ⟨x0, x1, x2, x3, x4, x5⟩ := x
 simp only [Ac.val]
 have HBW := hide ((Below.refl w.heap.size w).alloc (Nat.le_refl _) (.cells #[.int .i64 x0, .int .i64 x1, .int .i64 x2, .int .i64 x3, .int .i64 x4, .int .i64 x5] 49))
 have HX := hide (Blk.new w 49 #[.int .i64 x0, .int .i64 x1, .int .i64 x2, .int .i64 x3, .int .i64 x4, .int .i64 x5])
 go_enter Try.func173, Try.ntmps173
 go_wp2_with fail
 go_loopw [8] (fun tx W => ∃ i : Nat, tx = .int .i64 (i : Int) ∧ i ≤ k ∧ Below w.heap.size w W ∧ Blk W w.heap.size 49 #[.int .i64 x0, .int .i64 x1, .int .i64 x2, .int .i64 x3, .int .i64 x4, .int .i64 x5]) (fun tx _ => l.length - (intOf tx).toNat)
 case atStart => exact ⟨0, rfl, Nat.zero_le _, HBW.out, HX.out⟩
 case round =>
   obtain ⟨i, rfl, hi, hbw, hbx⟩ := hrel
   rename World => W
   have HBW := hide hbw
   have HX := hide hbx
   have hil : i < l.length := by have := HKL.out; omega
   have hiI : (i : Int) < (l.length : Int) := by omega
   obtain ⟨y, hy⟩ : ∃ y, l[i]? = some y := ⟨_, List.getElem?_eq_getElem hil⟩
   obtain ⟨ad', e, hlt, hrow⟩ := (HR i y hy).out
   cases e
   obtain ⟨r0, r1, r2, r3, r4, r5⟩ := hrow.below (by rw [add_block]; exact hlt) (hbw.mono (Nat.le_refl _))
   have c0 : W.cell? ⟨w.heap.size, 0, none⟩ = some (.int .i64 x0) := by rw [hbx.cell]; rfl
   have c1 : W.cell? ⟨w.heap.size, 1, none⟩ = some (.int .i64 x1) := by rw [hbx.cell]; rfl
   have c2 : W.cell? ⟨w.heap.size, 2, none⟩ = some (.int .i64 x2) := by rw [hbx.cell]; rfl
   have c3 : W.cell? ⟨w.heap.size, 3, none⟩ = some (.int .i64 x3) := by rw [hbx.cell]; rfl
   have c4 : W.cell? ⟨w.heap.size, 4, none⟩ = some (.int .i64 x4) := by rw [hbx.cell]; rfl
   have c5 : W.cell? ⟨w.heap.size, 5, none⟩ = some (.int .i64 x5) := by rw [hbx.cell]; rfl
   have HY := hide hy
   clear hbw hbx hlt hrow hy
   obtain ⟨y0, y1, y2, y3, y4, y5⟩ := y
   simp only at r0 r1 r2 r3 r4 r5
   have u1 := IntWalk.i64_in ((i : Int) + 1) (by omega)
   have he := fun (W : World) => eqA W x0 x1 x2 x3 x4 x5 y0 y1 y2 y3 y4 y5
   have hg := g49
   by_cases hik : i = k
   · subst hik
     have hxy : (⟨y0, y1, y2, y3, y4, y5⟩ : Ac) = ⟨x0, x1, x2, x3, x4, x5⟩ := by
       have := HY.out
       rw [HK.out] at this
       injection this with this
       exact this.symm
     have hd : decide ((⟨x0, x1, x2, x3, x4, x5⟩ : Ac) = ⟨y0, y1, y2, y3, y4, y5⟩) = true := by simp [hxy]
     rw [hd] at he
     clear hxy hd
     go_wp2_with fail
     go_quiet (fail)
     go_wp2_with fail
     go_ret
     exact ⟨rfl, below_drewN HBW.out _⟩
   · have hxy : ¬ (⟨x0, x1, x2, x3, x4, x5⟩ : Ac) = ⟨y0, y1, y2, y3, y4, y5⟩ := fun e => HB.out i _ (by omega) HY.out e.symm
     have hd : decide ((⟨x0, x1, x2, x3, x4, x5⟩ : Ac) = ⟨y0, y1, y2, y3, y4, y5⟩) = false := by simpa using hxy
     rw [hd] at he
     clear hxy hd
     go_wp2_with fail
     go_quiet (fail)
     go_wp2_with fail
     go_roundw
     case rel => exact ⟨i + 1, by go_num, by omega, below_drewN HBW.out _, HX.out⟩
     case measure =>
       simp only [intOf]
       omega
end Go.Proofs.Ytdpokdcendgfeaa
namespace Go.Proofs.Ytdpokdcendgfeaa
open Go.RowKit
end Go.Proofs.Ytdpokdcendgfeaa
namespace Go.Proofs.Ytdpokdcendgfeaa
open Go.RowKit
/-- the row behind a row and all of its own: left rows are still wanted -/
def endS (l : List Ac) (i : Nat) (left : Int) : Option Nat :=
 if left ≤ 0 then some i else
 match hx : l[i]? with
 | none => none
 | some x => endS l (i + 1) (left + (x.n - 1))
termination_by l.length - i
decreasing_by
 have := (List.getElem?_eq_some_iff.1 hx).1
 omega
theorem endS_stop {l : List Ac} {i : Nat} {left : Int} (h : left ≤ 0) : endS l i left = some i := by
 unfold endS
 rw [if_pos h]
theorem endS_step {l : List Ac} {i : Nat} {left : Int} {x : Ac} (h : ¬ left ≤ 0) (hx : l[i]? = some x) : endS l i left = endS l (i + 1) (left + (x.n - 1)) := by
 conv => lhs; unfold endS
 rw [if_neg h]
 split
 · next h2 => rw [h2] at hx; cases hx
 · next y h2 =>
   rw [h2] at hx
   injection hx with hx
   subst hx
   rfl
theorem endS_none {l : List Ac} {i : Nat} {left : Int} (h : ¬ left ≤ 0) (hx : l[i]? = none) : endS l i left = none := by
 unfold endS
 rw [if_neg h]
 split
 · rfl
 · next y h2 => rw [h2] at hx; cases hx
/-- the kids' counts are small -/
def Small (l : List Ac) : Prop := l.length ≤ 262144 ∧ ∀ x ∈ l, 0 ≤ x.n ∧ x.n ≤ 262144
end Go.Proofs.Ytdpokdcendgfeaa
namespace Go.Proofs.Ytdpokdcendgfeaa
open Go.RowKit
theorem info_parts3 {t : TypeId} {z : Value} {s b : Nat} (h : (Try.prog.info? t).map (fun i => (i.zero, i.size, i.bytes)) = some (some z, s, b)) : ∃ i, Try.prog.info? t = some i ∧ i.zero = some z ∧ i.size = s ∧ i.bytes = b := by
 cases hi : Try.prog.info? t with
 | none => rw [hi] at h; cases h
 | some i =>
   rw [hi] at h
   simp only [Option.map_some, Option.some.injEq, Prod.mk.injEq] at h
   exact ⟨i, rfl, h.1, h.2.1, h.2.2⟩
theorem infB : (Try.prog.info? 4).map (fun i => (i.zero, i.size, i.bytes)) = some (some (.bool false), 1, 1) := by kernel_rfl
theorem nilB (W : World) (a : Option Addr) (n c : Nat) : (binOp .eql 22 (.slice a n c) (.slice none 0 0)).run Try.prog W = .ok (.bool a.isNone) W := by
 simp only [binOp]
 simp [run_equal_slice_nil W 22 4 a n c Try.underlying22]
set_option maxRecDepth 100000 in
theorem cloneB_i (w : World) (oa : Option Addr) (n ca : Nat) (cs : List Value) (h : Src w oa n cs) (hlen : cs.length = n * 1) (hone : ∀ u ∈ cs, u.oneCell' = true) (hl : n ≤ 4194304) :
   Calls Try.prog 96 #[.slice oa n ca] w fun en w' => ∃ v', en = .returned v' ∧ w'.ownsRow w.heap.size 4 1 v' n cs ∧ Below w.heap.size w w' := by
 obtain ⟨i0, hi, hz0, hz1, hz2⟩ := info_parts3 infB
 cases oa with
 | none =>
   have h0 : n = 0 := by
     rcases Nat.eq_zero_or_pos n with h0 | h0
     · exact h0
     · obtain ⟨ad, e, _⟩ := h h0; cases e
   subst h0
   have h4 : cs = [] := List.eq_nil_of_length_eq_zero (by omega)
   subst h4
   have hn := fun W => nilB W none 0 ca
   simp only [Option.isNone_none] at hn
   clear h
   go_enter Try.func96, Try.ntmps96
   go_wp2
   go_ret
   exact ⟨_, rfl, World.ownsRow_nil _ _ _ _, Below.refl _ _⟩
 | some a =>
   have hn := fun W => nilB W (some a) n ca
   simp only [Option.isNone_some] at hn
   have hown : (w.alloc (.cells #[] 4)).ownsRow w.heap.size 4 1 (.slice (some ⟨w.heap.size, 0, none⟩) 0 0) 0 [] := World.ownsRow_made w #[] 0 (Nat.le_refl _) (by decide) rfl
   have hcs : ∀ (j : Nat) (u : Value), cs[j]? = some u → (w.alloc (.cells #[] 4)).cell? (a.add j) = some u := by
     intro j u hj
     have hj2 := (List.getElem?_eq_some_iff.1 hj).1
     obtain ⟨ad, e, hb, hx⟩ := h (by omega)
     cases e
     exact (((Below.refl _ w).alloc (Nat.le_refl _) (.cells #[] 4)).cell (by rw [add_block]; exact hb)).trans (hx j u hj)
   have HO := hide hown
   have HC := hide hcs
   have HONE := hide hone
   clear h hown hcs hone
   go_enter Try.func96, Try.ntmps96
   go_wp2_with (at_builtin
                refine wpList_append_own _ rfl (.tmp 5) (.tmp 6) 22 rfl w.heap.size 4 i0 (.bool false) 1 1 Try.underlying22 hi hz0 hz1 hz2 rfl (by decide) _ _ _ rfl HO.out a n ca cs rfl hlen HC.out HONE.out (by unfold maxLen; omega) (by omega) (by simp) ?_
                intro v' w2 hown' hgrow hnn
                have HO2 := hide hown'
                have HG := hide hgrow
                clear hown' hgrow hnn)
   go_ret
   refine ⟨_, rfl, by simpa using HO2.out, ?_⟩
   have h1 : Below w.heap.size w (w.alloc (.cells #[] 4)) := (Below.refl _ w).alloc (Nat.le_refl _) _
   have h2 : Below w.heap.size (w.alloc (.cells #[] 4)) w2 := ⟨HG.out.os, HG.out.tape, HG.out.output, HG.out.size, fun k hk => HG.out.block k (by simp; omega) (fun e => by have h : k = w.heap.size := Option.some.inj (show some k = some w.heap.size from e); omega)⟩
   exact h1.trans h2
theorem infV : (Try.prog.info? 51).map (fun i => (i.zero, i.size, i.bytes)) = some (some (.agg #[.int .i64 0, .int .i64 0, .int .i64 0]), 3, 24) := by kernel_rfl
theorem nilV (W : World) (a : Option Addr) (n c : Nat) : (binOp .eql 23 (.slice a n c) (.slice none 0 0)).run Try.prog W = .ok (.bool a.isNone) W := by
 simp only [binOp]
 simp [run_equal_slice_nil W 23 51 a n c Try.underlying23]
set_option maxRecDepth 100000 in
theorem cloneV_i (w : World) (oa : Option Addr) (n ca : Nat) (cs : List Value) (h : Src w oa n cs) (hlen : cs.length = n * 3) (hone : ∀ u ∈ cs, u.oneCell' = true) (hl : n ≤ 4194304) :
   Calls Try.prog 97 #[.slice oa n ca] w fun en w' => ∃ v', en = .returned v' ∧ w'.ownsRow w.heap.size 51 3 v' n cs ∧ Below w.heap.size w w' := by
 obtain ⟨i0, hi, hz0, hz1, hz2⟩ := info_parts3 infV
 cases oa with
 | none =>
   have h0 : n = 0 := by
     rcases Nat.eq_zero_or_pos n with h0 | h0
     · exact h0
     · obtain ⟨ad, e, _⟩ := h h0; cases e
   subst h0
   have h4 : cs = [] := List.eq_nil_of_length_eq_zero (by omega)
   subst h4
   have hn := fun W => nilV W none 0 ca
   simp only [Option.isNone_none] at hn
   clear h
   go_enter Try.func97, Try.ntmps97
   go_wp2
   go_ret
   exact ⟨_, rfl, World.ownsRow_nil _ _ _ _, Below.refl _ _⟩
 | some a =>
   have hn := fun W => nilV W (some a) n ca
   simp only [Option.isNone_some] at hn
   have hown : (w.alloc (.cells #[] 51)).ownsRow w.heap.size 51 3 (.slice (some ⟨w.heap.size, 0, none⟩) 0 0) 0 [] := World.ownsRow_made w #[] 0 (Nat.le_refl _) (by decide) rfl
   have hcs : ∀ (j : Nat) (u : Value), cs[j]? = some u → (w.alloc (.cells #[] 51)).cell? (a.add j) = some u := by
     intro j u hj
     have hj2 := (List.getElem?_eq_some_iff.1 hj).1
     obtain ⟨ad, e, hb, hx⟩ := h (by omega)
     cases e
     exact (((Below.refl _ w).alloc (Nat.le_refl _) (.cells #[] 51)).cell (by rw [add_block]; exact hb)).trans (hx j u hj)
   have HO := hide hown
   have HC := hide hcs
   have HONE := hide hone
   clear h hown hcs hone
   go_enter Try.func97, Try.ntmps97
   go_wp2_with (at_builtin
                refine wpList_append_own _ rfl (.tmp 5) (.tmp 6) 23 rfl w.heap.size 51 i0 (.agg #[.int .i64 0, .int .i64 0, .int .i64 0]) 3 24 Try.underlying23 hi hz0 hz1 hz2 rfl (by decide) _ _ _ rfl HO.out a n ca cs rfl hlen HC.out HONE.out (by unfold maxLen; omega) (by omega) (by simp) ?_
                intro v' w2 hown' hgrow hnn
                have HO2 := hide hown'
                have HG := hide hgrow
                clear hown' hgrow hnn)
   go_ret
   refine ⟨_, rfl, by simpa using HO2.out, ?_⟩
   have h1 : Below w.heap.size w (w.alloc (.cells #[] 51)) := (Below.refl _ w).alloc (Nat.le_refl _) _
   have h2 : Below w.heap.size (w.alloc (.cells #[] 51)) w2 := ⟨HG.out.os, HG.out.tape, HG.out.output, HG.out.size, fun k hk => HG.out.block k (by simp; omega) (fun e => by have h : k = w.heap.size := Option.some.inj (show some k = some w.heap.size from e); omega)⟩
   exact h1.trans h2
theorem infI : (Try.prog.info? 3).map (fun i => (i.zero, i.size, i.bytes)) = some (some (.int .i64 0), 1, 8) := by kernel_rfl
theorem nilI (W : World) (a : Option Addr) (n c : Nat) : (binOp .eql 24 (.slice a n c) (.slice none 0 0)).run Try.prog W = .ok (.bool a.isNone) W := by
 simp only [binOp]
 simp [run_equal_slice_nil W 24 3 a n c Try.underlying24]
set_option maxRecDepth 100000 in
theorem cloneI_i (w : World) (oa : Option Addr) (n ca : Nat) (cs : List Value) (h : Src w oa n cs) (hlen : cs.length = n * 1) (hone : ∀ u ∈ cs, u.oneCell' = true) (hl : n ≤ 4194304) :
   Calls Try.prog 98 #[.slice oa n ca] w fun en w' => ∃ v', en = .returned v' ∧ w'.ownsRow w.heap.size 3 1 v' n cs ∧ Below w.heap.size w w' := by
 obtain ⟨i0, hi, hz0, hz1, hz2⟩ := info_parts3 infI
 cases oa with
 | none =>
   have h0 : n = 0 := by
     rcases Nat.eq_zero_or_pos n with h0 | h0
     · exact h0
     · obtain ⟨ad, e, _⟩ := h h0; cases e
   subst h0
   have h4 : cs = [] := List.eq_nil_of_length_eq_zero (by omega)
   subst h4
   have hn := fun W => nilI W none 0 ca
   simp only [Option.isNone_none] at hn
   clear h
   go_enter Try.func98, Try.ntmps98
   go_wp2
   go_ret
   exact ⟨_, rfl, World.ownsRow_nil _ _ _ _, Below.refl _ _⟩
 | some a =>
   have hn := fun W => nilI W (some a) n ca
   simp only [Option.isNone_some] at hn
   have hown : (w.alloc (.cells #[] 3)).ownsRow w.heap.size 3 1 (.slice (some ⟨w.heap.size, 0, none⟩) 0 0) 0 [] := World.ownsRow_made w #[] 0 (Nat.le_refl _) (by decide) rfl
   have hcs : ∀ (j : Nat) (u : Value), cs[j]? = some u → (w.alloc (.cells #[] 3)).cell? (a.add j) = some u := by
     intro j u hj
     have hj2 := (List.getElem?_eq_some_iff.1 hj).1
     obtain ⟨ad, e, hb, hx⟩ := h (by omega)
     cases e
     exact (((Below.refl _ w).alloc (Nat.le_refl _) (.cells #[] 3)).cell (by rw [add_block]; exact hb)).trans (hx j u hj)
   have HO := hide hown
   have HC := hide hcs
   have HONE := hide hone
   clear h hown hcs hone
   go_enter Try.func98, Try.ntmps98
   go_wp2_with (at_builtin
                refine wpList_append_own _ rfl (.tmp 5) (.tmp 6) 24 rfl w.heap.size 3 i0 (.int .i64 0) 1 8 Try.underlying24 hi hz0 hz1 hz2 rfl (by decide) _ _ _ rfl HO.out a n ca cs rfl hlen HC.out HONE.out (by unfold maxLen; omega) (by omega) (by simp) ?_
                intro v' w2 hown' hgrow hnn
                have HO2 := hide hown'
                have HG := hide hgrow
                clear hown' hgrow hnn)
   go_ret
   refine ⟨_, rfl, by simpa using HO2.out, ?_⟩
   have h1 : Below w.heap.size w (w.alloc (.cells #[] 3)) := (Below.refl _ w).alloc (Nat.le_refl _) _
   have h2 : Below w.heap.size (w.alloc (.cells #[] 3)) w2 := ⟨HG.out.os, HG.out.tape, HG.out.output, HG.out.size, fun k hk => HG.out.block k (by simp; omega) (fun e => by have h : k = w.heap.size := Option.some.inj (show some k = some w.heap.size from e); omega)⟩
   exact h1.trans h2
theorem infA : (Try.prog.info? 49).map (fun i => (i.zero, i.size, i.bytes)) = some (some (.agg #[.int .i64 0, .int .i64 0, .int .i64 0, .int .i64 0, .int .i64 0, .int .i64 0]), 6, 48) := by kernel_rfl
theorem nilA (W : World) (a : Option Addr) (n c : Nat) : (binOp .eql 26 (.slice a n c) (.slice none 0 0)).run Try.prog W = .ok (.bool a.isNone) W := by
 simp only [binOp]
 simp [run_equal_slice_nil W 26 49 a n c Try.underlying26]
set_option maxRecDepth 100000 in
theorem cloneA_i (w : World) (oa : Option Addr) (n ca : Nat) (cs : List Value) (h : Src w oa n cs) (hlen : cs.length = n * 6) (hone : ∀ u ∈ cs, u.oneCell' = true) (hl : n ≤ 4194304) :
   Calls Try.prog 99 #[.slice oa n ca] w fun en w' => ∃ v', en = .returned v' ∧ w'.ownsRow w.heap.size 49 6 v' n cs ∧ Below w.heap.size w w' := by
 obtain ⟨i0, hi, hz0, hz1, hz2⟩ := info_parts3 infA
 cases oa with
 | none =>
   have h0 : n = 0 := by
     rcases Nat.eq_zero_or_pos n with h0 | h0
     · exact h0
     · obtain ⟨ad, e, _⟩ := h h0; cases e
   subst h0
   have h4 : cs = [] := List.eq_nil_of_length_eq_zero (by omega)
   subst h4
   have hn := fun W => nilA W none 0 ca
   simp only [Option.isNone_none] at hn
   clear h
   go_enter Try.func99, Try.ntmps99
   go_wp2
   go_ret
   exact ⟨_, rfl, World.ownsRow_nil _ _ _ _, Below.refl _ _⟩
 | some a =>
   have hn := fun W => nilA W (some a) n ca
   simp only [Option.isNone_some] at hn
   have hown : (w.alloc (.cells #[] 49)).ownsRow w.heap.size 49 6 (.slice (some ⟨w.heap.size, 0, none⟩) 0 0) 0 [] := World.ownsRow_made w #[] 0 (Nat.le_refl _) (by decide) rfl
   have hcs : ∀ (j : Nat) (u : Value), cs[j]? = some u → (w.alloc (.cells #[] 49)).cell? (a.add j) = some u := by
     intro j u hj
     have hj2 := (List.getElem?_eq_some_iff.1 hj).1
     obtain ⟨ad, e, hb, hx⟩ := h (by omega)
     cases e
     exact (((Below.refl _ w).alloc (Nat.le_refl _) (.cells #[] 49)).cell (by rw [add_block]; exact hb)).trans (hx j u hj)
   have HO := hide hown
   have HC := hide hcs
   have HONE := hide hone
   clear h hown hcs hone
   go_enter Try.func99, Try.ntmps99
   go_wp2_with (at_builtin
                refine wpList_append_own _ rfl (.tmp 5) (.tmp 6) 26 rfl w.heap.size 49 i0 (.agg #[.int .i64 0, .int .i64 0, .int .i64 0, .int .i64 0, .int .i64 0, .int .i64 0]) 6 48 Try.underlying26 hi hz0 hz1 hz2 rfl (by decide) _ _ _ rfl HO.out a n ca cs rfl hlen HC.out HONE.out (by unfold maxLen; omega) (by omega) (by simp) ?_
                intro v' w2 hown' hgrow hnn
                have HO2 := hide hown'
                have HG := hide hgrow
                clear hown' hgrow hnn)
   go_ret
   refine ⟨_, rfl, by simpa using HO2.out, ?_⟩
   have h1 : Below w.heap.size w (w.alloc (.cells #[] 49)) := (Below.refl _ w).alloc (Nat.le_refl _) _
   have h2 : Below w.heap.size (w.alloc (.cells #[] 49)) w2 := ⟨HG.out.os, HG.out.tape, HG.out.output, HG.out.size, fun k hk => HG.out.block k (by simp; omega) (fun e => by have h : k = w.heap.size := Option.some.inj (show some k = some w.heap.size from e); omega)⟩
   exact h1.trans h2
theorem infS : (Try.prog.info? 26).map (fun i => (i.zero, i.size, i.bytes)) = some (some (.slice none 0 0), 1, 24) := by kernel_rfl
theorem nilS (W : World) (a : Option Addr) (n c : Nat) : (binOp .eql 25 (.slice a n c) (.slice none 0 0)).run Try.prog W = .ok (.bool a.isNone) W := by
 simp only [binOp]
 simp [run_equal_slice_nil W 25 26 a n c Try.underlying25]
set_option maxRecDepth 100000 in
theorem cloneS_i (w : World) (oa : Option Addr) (n ca : Nat) (cs : List Value) (h : Src w oa n cs) (hlen : cs.length = n * 1) (hone : ∀ u ∈ cs, u.oneCell' = true) (hl : n ≤ 4194304) :
   Calls Try.prog 64 #[.slice oa n ca] w fun en w' => ∃ v', en = .returned v' ∧ w'.ownsRow w.heap.size 26 1 v' n cs ∧ Below w.heap.size w w' := by
 obtain ⟨i0, hi, hz0, hz1, hz2⟩ := info_parts3 infS
 cases oa with
 | none =>
   have h0 : n = 0 := by
     rcases Nat.eq_zero_or_pos n with h0 | h0
     · exact h0
     · obtain ⟨ad, e, _⟩ := h h0; cases e
   subst h0
   have h4 : cs = [] := List.eq_nil_of_length_eq_zero (by omega)
   subst h4
   have hn := fun W => nilS W none 0 ca
   simp only [Option.isNone_none] at hn
   clear h
   go_enter Try.func64, Try.ntmps64
   go_wp2
   go_ret
   exact ⟨_, rfl, World.ownsRow_nil _ _ _ _, Below.refl _ _⟩
 | some a =>
   have hn := fun W => nilS W (some a) n ca
   simp only [Option.isNone_some] at hn
   have hown : (w.alloc (.cells #[] 26)).ownsRow w.heap.size 26 1 (.slice (some ⟨w.heap.size, 0, none⟩) 0 0) 0 [] := World.ownsRow_made w #[] 0 (Nat.le_refl _) (by decide) rfl
   have hcs : ∀ (j : Nat) (u : Value), cs[j]? = some u → (w.alloc (.cells #[] 26)).cell? (a.add j) = some u := by
     intro j u hj
     have hj2 := (List.getElem?_eq_some_iff.1 hj).1
     obtain ⟨ad, e, hb, hx⟩ := h (by omega)
     cases e
     exact (((Below.refl _ w).alloc (Nat.le_refl _) (.cells #[] 26)).cell (by rw [add_block]; exact hb)).trans (hx j u hj)
   have HO := hide hown
   have HC := hide hcs
   have HONE := hide hone
   clear h hown hcs hone
   go_enter Try.func64, Try.ntmps64
   go_wp2_with (at_builtin
                refine wpList_append_own _ rfl (.tmp 5) (.tmp 6) 25 rfl w.heap.size 26 i0 (.slice none 0 0) 1 24 Try.underlying25 hi hz0 hz1 hz2 rfl (by decide) _ _ _ rfl HO.out a n ca cs rfl hlen HC.out HONE.out (by unfold maxLen; omega) (by omega) (by simp) ?_
                intro v' w2 hown' hgrow hnn
                have HO2 := hide hown'
                have HG := hide hgrow
                clear hown' hgrow hnn)
   go_ret
   refine ⟨_, rfl, by simpa using HO2.out, ?_⟩
   have h1 : Below w.heap.size w (w.alloc (.cells #[] 26)) := (Below.refl _ w).alloc (Nat.le_refl _) _
   have h2 : Below w.heap.size (w.alloc (.cells #[] 26)) w2 := ⟨HG.out.os, HG.out.tape, HG.out.output, HG.out.size, fun k hk => HG.out.block k (by simp; omega) (fun e => by have h : k = w.heap.size := Option.some.inj (show some k = some w.heap.size from e); omega)⟩
   exact h1.trans h2
end Go.Proofs.Ytdpokdcendgfeaa
namespace Go.Proofs.Ytdpokdcendgfeaa
open Go.RowKit
theorem endS_le (l : List Ac) : ∀ (m i : Nat) (left : Int) (e : Nat), l.length - i = m → endS l i left = some e → i ≤ l.length → i ≤ e ∧ e ≤ l.length ∧ (0 < left → i < e)
 | 0, i, left, e, hm, h, hi => by
   by_cases hp : left ≤ 0
   · rw [endS_stop hp] at h
     injection h with h
     omega
   · rw [endS_none hp (List.getElem?_eq_none (by omega))] at h
     cases h
 | m + 1, i, left, e, hm, h, hi => by
   by_cases hp : left ≤ 0
   · rw [endS_stop hp] at h
     injection h with h
     omega
   · rw [endS_step hp (List.getElem?_eq_getElem (by omega))] at h
     have := endS_le l m (i + 1) _ e (by omega) h (by omega)
     omega
/-- the kids' spans -/
def kidsS (l : List Ac) : Nat → Nat → Option (List (Nat × Nat))
 | 0, _ => some []
 | m + 1, k => match endS l k 1 with
   | none => none
   | some e => (kidsS l m e).map ((k, e) :: ·)
end Go.Proofs.Ytdpokdcendgfeaa
namespace Go.Proofs.Ytdpokdcendgfeaa
theorem handV_le {P : Pl} {l : List Ac} {i : Nat} (h : handV P l i ≠ 0) : (handV P l i = 2 ∨ handV P l i = 3) ∧ i + handV P l i ≤ l.length := by
 unfold handV at h ⊢
 cases h0 : l[i]? with
 | none => simp [h0] at h
 | some x =>
   cases h1 : l[i + 1]? with
   | none => simp [h0, h1] at h
   | some y =>
     have hy := (List.getElem?_eq_some_iff.1 h1).1
     simp only [h0, h1] at h ⊢
     split at h
     · next hg =>
       rw [if_pos hg]
       split at h
       · next h2 => rw [if_pos h2]; exact ⟨.inl rfl, by omega⟩
       · next h2 =>
         rw [if_neg h2]
         split at h
         · exact absurd rfl h
         · next h3 =>
           rw [if_neg h3]
           cases h4 : l[i + 2]? with
           | none => simp [h4] at h
           | some z =>
             have hz := (List.getElem?_eq_some_iff.1 h4).1
             simp only [h4] at h ⊢
             split at h
             · next h5 => rw [if_pos h5]; exact ⟨.inr rfl, by omega⟩
             · exact absurd rfl h
     · exact absurd rfl h
/-- what a row tells lies in its bounds -/
def RowLe (l : List Ac) (row : Nat → Int → Option (Nat × Int)) : Prop := ∀ i what e n, row i what = some (e, n) → i < e ∧ e ≤ l.length ∧ 0 ≤ n ∧ n ≤ 256
theorem blockLoop_le {P : Pl} {l : List Ac} {row : Nat → Int → Option (Nat × Int)} (hr : RowLe l row) : ∀ (m i e : Nat), blockLoop P l row m i = some e → i ≤ e ∧ (i ≤ l.length → e ≤ l.length) := by
 intro m
 induction m using Nat.strongRecOn with
 | ind m ih =>
   intro i e h
   unfold blockLoop at h
   by_cases hm : m = 0
   · simp only [hm, dite_true, Option.some.injEq] at h
     subst h
     exact ⟨Nat.le_refl _, fun h => h⟩
   · simp only [hm, dite_false] at h
     cases hx : l[i]? with
     | none => simp [hx] at h
     | some x =>
       simp only [hx] at h
       split at h
       · split at h
         · cases h
         · next hh =>
           have := ih _ (by omega) _ _ h
           have := handV_le (P := P) (l := l) (i := i) (by omega)
           omega
       · split at h
         · cases h
         · cases hw : row i 0 with
           | none => simp [hw] at h
           | some en =>
             obtain ⟨e1, n⟩ := en
             simp only [hw] at h
             have := ih _ (by omega) _ _ h
             have := hr _ _ _ _ hw
             omega
theorem kidsLoop_le {l : List Ac} {row : Nat → Int → Option (Nat × Int)} (hr : RowLe l row) (k : Int) : ∀ (ws : List Int) (j i : Nat) (kind wants : Int) (e : Nat) (n : Int), kidsLoop l row k ws j i kind wants = some (e, n) → 0 ≤ wants → i ≤ e ∧ (i ≤ l.length → e ≤ l.length) ∧ 0 ≤ n
 | [], j, i, kind, wants, e, n, h, h0 => by
   simp only [kidsLoop, Option.some.injEq, Prod.mk.injEq] at h
   obtain ⟨rfl, rfl⟩ := h
   exact ⟨Nat.le_refl _, fun h => h, h0⟩
 | w :: ws, j, i, kind, wants, e, n, h, h0 => by
   simp only [kidsLoop] at h
   split at h
   · cases h
   · next e1 n1 hw =>
     have h1 := hr _ _ _ _ hw
     have := kidsLoop_le hr k ws _ _ _ _ e n h (by omega)
     omega
theorem rowV_le (P : Pl) (l : List Ac) : ∀ f, RowLe l (rowV P l f)
 | 0 => fun i what e n h => by simp [rowV] at h
 | f + 1 => fun i what e n h => by
   have ih := rowV_le P l f
   unfold rowV at h
   cases hx : l[i]? with
   | none => simp [hx] at h
   | some x =>
     have hi := (List.getElem?_eq_some_iff.1 hx).1
     simp only [hx] at h
     split at h
     · split at h
       · split at h
         · cases h
         · cases hb : blockLoop P l (rowV P l f) x.n.toNat (i + 1) with
           | none => simp [hb] at h
           | some e1 =>
             simp only [hb, Option.map_some, Option.some.injEq, Prod.mk.injEq] at h
             obtain ⟨rfl, rfl⟩ := h
             have := blockLoop_le ih _ _ _ hb
             omega
       · split at h
         · cases h
         · split at h
           · cases h
           · next e1 n1 hk =>
             have := kidsLoop_le ih _ _ _ _ _ _ _ _ hk (Int.le_refl _)
             split at h
             · simp only [Option.some.injEq, Prod.mk.injEq] at h
               obtain ⟨rfl, rfl⟩ := h
               omega
             · cases h
     · cases h
/-! a block's kids, one behind the other -/
section
variable {P : Pl} {l : List Ac} {row : Nat → Int → Option (Nat × Int)} {m i : Nat} {x : Ac}
theorem block_end : blockLoop P l row 0 i = some i := by unfold blockLoop; simp
theorem block_out (hm : 0 < m) (hx : l[i]? = none) : blockLoop P l row m i = none := by
 unfold blockLoop
 simp [show m ≠ 0 by omega, hx]
theorem block_hand (hm : 0 < m) (hx : l[i]? = some x) (h9 : x.k = 9) (hh : handV P l i ≠ 0) (hl : handV P l i ≤ m) : blockLoop P l row m i = blockLoop P l row (m - handV P l i) (i + handV P l i) := by
 conv => lhs; unfold blockLoop
 simp only [show m ≠ 0 by omega, dite_false, hx, h9, if_true]
 rw [dif_neg (by omega)]
theorem block_nohand (hm : 0 < m) (hx : l[i]? = some x) (h9 : x.k = 9) (hh : handV P l i = 0 ∨ m < handV P l i) : blockLoop P l row m i = none := by
 unfold blockLoop
 simp only [show m ≠ 0 by omega, dite_false, hx, h9, if_true]
 rw [dif_pos hh]
theorem block_bad (hm : 0 < m) (hx : l[i]? = some x) (hk : x.k = 10 ∨ x.k = 11 ∨ x.k = 12) : blockLoop P l row m i = none := by
 unfold blockLoop
 have h9 : x.k ≠ 9 := by omega
 simp only [show m ≠ 0 by omega, dite_false, hx, h9, if_false, hk, if_true]
theorem block_row (hm : 0 < m) (hx : l[i]? = some x) (h9 : x.k ≠ 9) (hk : ¬ (x.k = 10 ∨ x.k = 11 ∨ x.k = 12)) {e : Nat} {n : Int} (hr : row i 0 = some (e, n)) : blockLoop P l row m i = blockLoop P l row (m - 1) e := by
 conv => lhs; unfold blockLoop
 simp only [show m ≠ 0 by omega, dite_false, hx, h9, if_false, hk, hr]
theorem block_norow (hm : 0 < m) (hx : l[i]? = some x) (h9 : x.k ≠ 9) (hk : ¬ (x.k = 10 ∨ x.k = 11 ∨ x.k = 12)) (hr : row i 0 = none) : blockLoop P l row m i = none := by
 unfold blockLoop
 simp only [show m ≠ 0 by omega, dite_false, hx, h9, if_false, hk, hr]
end
end Go.Proofs.Ytdpokdcendgfeaa
namespace Go.Proofs.Ytdpokdcendgfeaa
/-- spans, one behind the other, each as wanted -/
def Kids (R : Int → Nat → Nat → Prop) : List Int → Nat → List (Nat × Nat) → Nat → Prop
 | [], i, [], e => i = e
 | w :: ws, i, r :: sp, e => r.1 = i ∧ R w r.1 r.2 ∧ Kids R ws r.2 sp e
 | _, _, _, _ => False
def wantsV (x : Ac) (k0 : Int) : List Int := if x.k = 1 then List.replicate x.n.toNat 0 else if x.k = 34 then [4, typeV k0] else kidsV x.k x.n
/-- a row and all of its own, from i to e -/
def Wf (P : Pl) (l : List Ac) : Nat → Int → Nat → Nat → Prop
 | 0, _, _, _ => False
 | f + 1, what, i, e => ∃ x sp, l[i]? = some x ∧ mayV what x.k = true ∧ numV P x = true ∧ 0 ≤ x.n ∧ (x.k ≠ 1 → x.n = ((kidsV x.k x.n).length : Int)) ∧
     Kids (Wf P l f) (wantsV x ((l[i + 1]?.map Ac.k).getD 0)) (i + 1) sp e ∧ (x.k = 1 → ∀ r ∈ sp, ∀ y, l[r.1]? = some y → y.k = 9 → handV P l r.1 ≠ 0)
section
variable {P : Pl} {l : List Ac}
theorem handV_rows {i : Nat} {x : Ac} (hx : l[i]? = some x) (h : handV P l i ≠ 0) : x.n = 0 ∧ numV P x = true ∧ ∀ j, 0 < j → j < handV P l i → ∃ y, l[i + j]? = some y ∧ y.n = 0 ∧ numV P y = true ∧ (y.k = 10 ∨ y.k = 11 ∨ y.k = 12) := by
 unfold handV at h ⊢
 simp only [hx] at h ⊢
 cases h1 : l[i + 1]? with
 | none => simp [h1] at h
 | some y =>
   simp only [h1] at h ⊢
   split at h
   · next hg =>
     rw [if_pos hg]
     simp only [Bool.and_eq_true, decide_eq_true_eq] at hg
     obtain ⟨⟨g1, g2⟩, g3, g4⟩ := hg
     refine ⟨g1, g2, ?_⟩
     split at h
     · next h2 =>
       rw [if_pos h2]
       simp only [Bool.or_eq_true, Bool.and_eq_true, decide_eq_true_eq] at h2
       intro j j0 j1
       obtain rfl : j = 1 := by omega
       exact ⟨y, h1, g3, g4, by rcases h2 with h2 | h2 <;> omega⟩
     · next h2 =>
       rw [if_neg h2]
       split at h
       · exact absurd rfl h
       · next h3 =>
         rw [if_neg h3]
         cases h4 : l[i + 2]? with
         | none => simp [h4] at h
         | some z =>
           simp only [h4] at h ⊢
           split at h
           · next h5 =>
             rw [if_pos h5]
             simp only [Bool.or_eq_true, Bool.and_eq_true, decide_eq_true_eq] at h5
             obtain ⟨⟨z1, z2⟩, z3⟩ := h5
             intro j j0 j1
             obtain rfl | rfl : j = 1 ∨ j = 2 := by omega
             · exact ⟨y, h1, g3, g4, by omega⟩
             · exact ⟨z, h4, z1, z2, by rcases z3 with z3 | z3 <;> omega⟩
           · exact absurd rfl h
   · exact absurd rfl h
theorem wf_leaf {f : Nat} {i : Nat} {x : Ac} (hx : l[i]? = some x) (hn : x.n = 0) (hv : numV P x = true) (hk : 9 ≤ x.k ∧ x.k ≤ 12) : Wf P l (f + 1) 0 i (i + 1) := by
 refine ⟨x, [], hx, ?_, hv, by omega, fun _ => ?_, ?_, fun _ r hr => by cases hr⟩
 · simp [mayV]
   omega
 · have : kidsV x.k x.n = [] := by
     unfold kidsV
     repeat rw [if_neg (by omega)]
   rw [this, hn]
   rfl
 · have : wantsV x ((l[i + 1]?.map Ac.k).getD 0) = [] := by
     unfold wantsV
     rw [if_neg (by omega), if_neg (by omega)]
     unfold kidsV
     repeat rw [if_neg (by omega)]
   rw [this]
   rfl
theorem block_kids {f : Nat} (hrow : ∀ what i e n, rowV P l f i what = some (e, n) → Wf P l (f + 1) what i e) : ∀ (m i e : Nat), blockLoop P l (rowV P l f) m i = some e →
   ∃ sp, Kids (Wf P l (f + 1)) (List.replicate m 0) i sp e ∧ ∀ r ∈ sp, ∀ y, l[r.1]? = some y → y.k = 9 → handV P l r.1 ≠ 0 := by
 intro m
 induction m using Nat.strongRecOn with
 | ind m ih =>
   intro i e h
   unfold blockLoop at h
   by_cases hm : m = 0
   · simp only [hm, dite_true, Option.some.injEq] at h
     subst h hm
     exact ⟨[], rfl, fun r hr => by cases hr⟩
   · simp only [hm, dite_false] at h
     cases hx : l[i]? with
     | none => simp [hx] at h
     | some x =>
       simp only [hx] at h
       split at h
       · next hk =>
         split at h
         · cases h
         · next hh =>
           obtain ⟨h1, h2⟩ := handV_le (P := P) (l := l) (i := i) (by omega)
           obtain ⟨sp, hk2, hh2⟩ := ih _ (by omega) _ _ h
           obtain ⟨a1, a2, a3⟩ := handV_rows (P := P) hx (by omega)
           have w0 : Wf P l (f + 1) 0 i (i + 1) := wf_leaf hx a1 a2 (by omega)
           have hw : ∀ j, 0 < j → j < handV P l i → Wf P l (f + 1) 0 (i + j) (i + j + 1) ∧ ∀ y, l[i + j]? = some y → y.k = 9 → handV P l (i + j) ≠ 0 := fun j j0 j1 => by
             obtain ⟨y, b1, b2, b3, b4⟩ := a3 j j0 j1
             exact ⟨wf_leaf b1 b2 b3 (by omega), fun y' hy' h9 => by rw [b1] at hy'; injection hy' with hy'; subst hy'; omega⟩
           rcases h1 with h1 | h1
           · rw [h1] at hk2 hw hh
             obtain ⟨p, hp⟩ : ∃ p, m = p + 1 + 1 := ⟨m - 2, by omega⟩
             subst hp
             have e1 := hw 1 (by omega) (by omega)
             refine ⟨(i, i + 1) :: (i + 1, i + 2) :: sp, ⟨rfl, w0, rfl, e1.1, by simpa using hk2⟩, ?_⟩
             intro r hr y hy h9
             simp only [List.mem_cons] at hr
             rcases hr with rfl | rfl | hr
             · show handV P l i ≠ 0
               omega
             · exact e1.2 y hy h9
             · exact hh2 r hr y hy h9
           · rw [h1] at hk2 hw hh
             obtain ⟨p, hp⟩ : ∃ p, m = p + 1 + 1 + 1 := ⟨m - 3, by omega⟩
             subst hp
             have e1 := hw 1 (by omega) (by omega)
             have e2 := hw 2 (by omega) (by omega)
             refine ⟨(i, i + 1) :: (i + 1, i + 2) :: (i + 2, i + 3) :: sp, ⟨rfl, w0, rfl, e1.1, rfl, e2.1, by simpa using hk2⟩, ?_⟩
             intro r hr y hy h9
             simp only [List.mem_cons] at hr
             rcases hr with rfl | rfl | rfl | hr
             · show handV P l i ≠ 0
               omega
             · exact e1.2 y hy h9
             · exact e2.2 y hy h9
             · exact hh2 r hr y hy h9
       · next hk =>
         split at h
         · cases h
         · cases hw : rowV P l f i 0 with
           | none => simp [hw] at h
           | some en =>
             obtain ⟨e2, n2⟩ := en
             simp only [hw] at h
             obtain ⟨sp, hk2, hh2⟩ := ih _ (by omega) _ _ h
             obtain ⟨p, hp⟩ : ∃ p, m = p + 1 := ⟨m - 1, by omega⟩
             subst hp
             refine ⟨(i, e2) :: sp, ⟨rfl, hrow _ _ _ _ hw, by simpa using hk2⟩, ?_⟩
             intro r hr y hy h9
             simp only [List.mem_cons] at hr
             rcases hr with rfl | hr
             · rw [hx] at hy
               injection hy with hy
               subst hy
               exact absurd h9 hk
             · exact hh2 r hr y hy h9
/-- the kids of other rows -/
theorem loop_kids {f : Nat} (hrow : ∀ what i e n, rowV P l f i what = some (e, n) → Wf P l (f + 1) what i e) (k : Int) : ∀ (ws : List Int) (j i e : Nat) (kind wants n : Int), (∀ w ∈ ws, w ≠ 4) → kidsLoop l (rowV P l f) k ws j i kind wants = some (e, n) →
   ∃ sp, Kids (Wf P l (f + 1)) ws i sp e
 | [], j, i, e, kind, wants, n, _, h => by
   simp only [kidsLoop, Option.some.injEq, Prod.mk.injEq] at h
   exact ⟨[], h.1⟩
 | w :: ws, j, i, e, kind, wants, n, h4, h => by
   simp only [kidsLoop] at h
   have hw : w ≠ 4 := h4 w (by simp)
   rw [if_neg (fun hh => hw hh.1)] at h
   cases hr : rowV P l f i w with
   | none => simp [hr] at h
   | some en =>
     obtain ⟨e2, n2⟩ := en
     simp only [hr] at h
     obtain ⟨sp, hk⟩ := loop_kids hrow k ws _ _ _ _ _ _ (fun w' hw' => h4 w' (by simp [hw'])) h
     exact ⟨(i, e2) :: sp, rfl, hrow _ _ _ _ hr, hk⟩
theorem loop_kids2 {f : Nat} (hrow : ∀ what i e n, rowV P l f i what = some (e, n) → Wf P l (f + 1) what i e) {k : Int} {i e : Nat} {n : Int} (h : kidsLoop l (rowV P l f) k [4, 4] 0 i 0 0 = some (e, n)) :
   ∃ sp, Kids (Wf P l (f + 1)) [4, typeV ((l[i]?.map Ac.k).getD 0)] i sp e := by
 simp only [kidsLoop] at h
 rw [if_neg (by simp)] at h
 cases hr : rowV P l f i 4 with
 | none => simp [hr] at h
 | some en =>
   obtain ⟨e2, n2⟩ := en
   simp only [hr] at h
   rw [if_pos (by simp)] at h
   cases hr2 : rowV P l f e2 (typeV ((l[i]?.map Ac.k).getD 0)) with
   | none => simp [hr2] at h
   | some en2 =>
     obtain ⟨e3, n3⟩ := en2
     simp only [hr2, Option.some.injEq, Prod.mk.injEq] at h
     exact ⟨[(i, e2), (e2, e3)], rfl, hrow _ _ _ _ hr, rfl, hrow _ _ _ _ hr2, h.1⟩
theorem kidsV_four {k n : Int} (h : k ≠ 34) : ∀ w ∈ kidsV k n, w ≠ 4 := by
 intro w hw
 unfold kidsV at hw
 (repeat' split at hw) <;> simp at hw <;> omega
theorem wf_of_row : ∀ (f : Nat) (what : Int) (i e : Nat) (n : Int), rowV P l f i what = some (e, n) → Wf P l (f + 1) what i e
 | 0, what, i, e, n, h => by simp [rowV] at h
 | f + 1, what, i, e, n, h => by
   have hrow := wf_of_row f
   unfold rowV at h
   cases hx : l[i]? with
   | none => simp [hx] at h
   | some x =>
     simp only [hx] at h
     split at h
     · next hg =>
       simp only [Bool.and_eq_true] at hg
       split at h
       · next hk =>
         split at h
         · cases h
         · next hn =>
           cases hb : blockLoop P l (rowV P l f) x.n.toNat (i + 1) with
           | none => simp [hb] at h
           | some e2 =>
             simp only [hb, Option.map_some, Option.some.injEq, Prod.mk.injEq] at h
             obtain ⟨rfl, _⟩ := h
             obtain ⟨sp, h1, h2⟩ := block_kids hrow _ _ _ hb
             exact ⟨x, sp, hx, hg.1, hg.2, by omega, fun h9 => absurd hk h9, by unfold wantsV; rw [if_pos hk]; exact h1, fun _ => h2⟩
       · next hk =>
         split at h
         · cases h
         · next hn =>
           have hn2 : x.n = ((kidsV x.k x.n).length : Int) := by simpa using hn
           cases hb : kidsLoop l (rowV P l f) x.k (kidsV x.k x.n) 0 (i + 1) 0 0 with
           | none => simp [hb] at h
           | some en =>
             obtain ⟨e2, n2⟩ := en
             simp only [hb] at h
             split at h
             · simp only [Option.some.injEq, Prod.mk.injEq] at h
               obtain ⟨rfl, _⟩ := h
               by_cases h34 : x.k = 34
               · have hkv : kidsV x.k x.n = [4, 4] := by rw [h34]; rfl
                 rw [hkv] at hb
                 obtain ⟨sp, h1⟩ := loop_kids2 hrow hb
                 exact ⟨x, sp, hx, hg.1, hg.2, by omega, fun _ => hn2, by unfold wantsV; rw [if_neg hk, if_pos h34]; exact h1, fun h9 => absurd h9 hk⟩
               · obtain ⟨sp, h1⟩ := loop_kids hrow x.k _ _ _ _ _ _ _ (kidsV_four h34) hb
                 exact ⟨x, sp, hx, hg.1, hg.2, by omega, fun _ => hn2, by unfold wantsV; rw [if_neg hk, if_neg h34]; exact h1, fun h9 => absurd h9 hk⟩
             · cases h
     · cases h
/-! spans -/
theorem kids_le {R : Int → Nat → Nat → Prop} (hR : ∀ w i e, R w i e → i < e ∧ e ≤ l.length) : ∀ (ws : List Int) (i : Nat) (sp : List (Nat × Nat)) (e : Nat), Kids R ws i sp e → i ≤ l.length → i ≤ e ∧ e ≤ l.length
 | [], i, [], e, h, hi => by
   simp only [Kids] at h
   omega
 | w :: ws, i, r :: sp, e, h, hi => by
   obtain ⟨h1, h2, h3⟩ := h
   have := hR _ _ _ h2
   have := kids_le hR ws _ sp e h3 this.2
   omega
 | [], i, r :: sp, e, h, _ => by simp [Kids] at h
 | w :: ws, i, [], e, h, _ => by simp [Kids] at h
theorem wf_le : ∀ (f : Nat) (what : Int) (i e : Nat), Wf P l f what i e → i < e ∧ e ≤ l.length
 | 0, what, i, e, h => h.elim
 | f + 1, what, i, e, ⟨x, sp, hx, _, _, _, _, hk, _⟩ => by
   have := (List.getElem?_eq_some_iff.1 hx).1
   have := kids_le (wf_le f) _ _ _ _ hk (by omega)
   omega
theorem kids_length {R : Int → Nat → Nat → Prop} : ∀ (ws : List Int) (i : Nat) (sp : List (Nat × Nat)) (e : Nat), Kids R ws i sp e → sp.length = ws.length
 | [], i, [], e, h => rfl
 | w :: ws, i, r :: sp, e, h => by simp [kids_length ws _ sp e h.2.2]
 | [], i, r :: sp, e, h => by simp [Kids] at h
 | w :: ws, i, [], e, h => by simp [Kids] at h
theorem wants_length {x : Ac} {k0 : Int} (h0 : 0 ≤ x.n) (h1 : x.k ≠ 1 → x.n = ((kidsV x.k x.n).length : Int)) : ((wantsV x k0).length : Int) = x.n := by
 unfold wantsV
 split
 · simp; omega
 · next h2 =>
   split
   · next h3 =>
     rw [h1 h2, h3]
     rfl
   · exact (h1 h2).symm
theorem kids_end {R : Int → Nat → Nat → Prop} (hR : ∀ w i e, R w i e → ∀ b : Nat, endS l i (1 + (b : Int)) = endS l e b) : ∀ (ws : List Int) (i : Nat) (sp : List (Nat × Nat)) (e : Nat), Kids R ws i sp e → ∀ b : Nat, endS l i ((ws.length : Int) + (b : Int)) = endS l e b
 | [], i, [], e, h, b => by
   simp only [Kids] at h
   subst h
   simp
 | w :: ws, i, r :: sp, e, h, b => by
   obtain ⟨rfl, h2, h3⟩ := h
   have h4 := hR _ _ _ h2 (ws.length + b)
   have h5 := kids_end hR ws _ sp e h3 b
   rw [← h5, List.length_cons]
   rw [show (((ws.length + 1 : Nat) : Int) + (b : Int)) = 1 + ((ws.length + b : Nat) : Int) by omega, h4]
   congr 1
 | [], i, r :: sp, e, h, _ => by simp [Kids] at h
 | w :: ws, i, [], e, h, _ => by simp [Kids] at h
theorem wf_end : ∀ (f : Nat) (what : Int) (i e : Nat), Wf P l f what i e → ∀ b : Nat, endS l i (1 + (b : Int)) = endS l e b
 | 0, what, i, e, h, b => h.elim
 | f + 1, what, i, e, ⟨x, sp, hx, _, _, h0, hn, hk, _⟩, b => by
   rw [endS_step (by omega) hx]
   have h1 := kids_end (wf_end f) _ _ _ _ hk b
   rw [wants_length h0 hn] at h1
   rw [← h1]
   congr 1
   omega
theorem wf_end1 {f : Nat} {what : Int} {i e : Nat} (h : Wf P l f what i e) : endS l i 1 = some e := by
 have h1 := wf_end f what i e h 0
 rw [endS_stop (i := e) (left := ((0 : Nat) : Int)) (by simp)] at h1
 exact h1
theorem kids_kidsS {R : Int → Nat → Nat → Prop} (hR : ∀ w i e, R w i e → endS l i 1 = some e) : ∀ (ws : List Int) (i : Nat) (sp : List (Nat × Nat)) (e : Nat), Kids R ws i sp e → kidsS l ws.length i = some sp
 | [], i, [], e, h => rfl
 | w :: ws, i, r :: sp, e, h => by
   obtain ⟨rfl, h2, h3⟩ := h
   simp only [List.length_cons, kidsS, hR _ _ _ h2, kids_kidsS hR ws _ sp e h3, Option.map_some]
 | [], i, r :: sp, e, h => by simp [Kids] at h
 | w :: ws, i, [], e, h => by simp [Kids] at h
theorem kids_in {R : Int → Nat → Nat → Prop} (hR : ∀ w i e, R w i e → i < e) : ∀ (ws : List Int) (i : Nat) (sp : List (Nat × Nat)) (e : Nat), Kids R ws i sp e → ∀ j, i ≤ j → j < e → ∃ w r, r ∈ sp ∧ R w r.1 r.2 ∧ r.1 ≤ j ∧ j < r.2 ∧ r.2 ≤ e
 | [], i, [], e, h, j, h1, h2 => by
   simp only [Kids] at h
   omega
 | w :: ws, i, r :: sp, e, h, j, h1, h2 => by
   obtain ⟨rfl, h3, h4⟩ := h
   rcases Nat.lt_or_ge j r.2 with h5 | h5
   · refine ⟨w, r, by simp, h3, h1, h5, ?_⟩
     clear h5
     have : ∀ (ws : List Int) (i : Nat) (sp : List (Nat × Nat)) (e : Nat), Kids R ws i sp e → i ≤ e := by
       intro ws
       induction ws with
       | nil =>
         intro i sp e h
         cases sp with
         | nil => simp only [Kids] at h; omega
         | cons => simp [Kids] at h
       | cons w ws ih =>
         intro i sp e h
         cases sp with
         | nil => simp [Kids] at h
         | cons r sp =>
           obtain ⟨rfl, a1, a2⟩ := h
           have := hR _ _ _ a1
           have := ih _ _ _ a2
           omega
     exact this _ _ _ _ h4
   · obtain ⟨w', r', a1, a2, a3, a4, a5⟩ := kids_in hR ws _ sp e h4 j h5 h2
     exact ⟨w', r', by simp [a1], a2, a3, a4, a5⟩
 | [], i, r :: sp, e, h, j, _, _ => by simp [Kids] at h
 | w :: ws, i, [], e, h, j, _, _ => by simp [Kids] at h
/-- every row of a tree is a tree -/
theorem wf_in : ∀ (f : Nat) (what : Int) (i e : Nat), Wf P l f what i e → ∀ j, i ≤ j → j < e → ∃ f' what' e', Wf P l f' what' j e' ∧ e' ≤ e
 | 0, what, i, e, h, j, _, _ => h.elim
 | f + 1, what, i, e, h, j, h1, h2 => by
   rcases Nat.eq_or_lt_of_le h1 with rfl | h3
   · exact ⟨f + 1, what, e, h, Nat.le_refl _⟩
   · obtain ⟨x, sp, hx, _, _, h0, hn, hk, _⟩ := h
     obtain ⟨w, r, a1, a2, a3, a4, a5⟩ := kids_in (fun w i e h => (wf_le f w i e h).1) _ _ _ _ hk j h3 h2
     obtain ⟨f', what', e', b1, b2⟩ := wf_in f w r.1 r.2 a2 j a3 a4
     exact ⟨f', what', e', b1, by omega⟩
/-- a right event's rows are a tree -/
theorem wf_event (h : eventV P l = true) (h0 : l ≠ []) : Wf P l (l.length + 2) 1 0 l.length := by
 unfold eventV at h
 have h1 : l.isEmpty = false := by simpa using h0
 rw [h1, Bool.false_or] at h
 cases hr : rowV P l (l.length + 1) 0 1 with
 | none => simp [hr] at h
 | some en =>
   obtain ⟨e, n⟩ := en
   simp only [hr, decide_eq_true_eq] at h
   have h2 := wf_of_row _ _ _ _ _ hr
   have h3 := wf_le _ _ _ _ h2
   obtain rfl : e = l.length := by omega
   exact h2
end
end Go.Proofs.Ytdpokdcendgfeaa
namespace Go.Proofs.Ytdpokdcendgfeaa
open Go.RowKit
/-- the instruction of an act that has the act's numbers -/
def plainV (k : Int) : Int × Bool := if 6 ≤ k ∧ k ≤ 16 then (k + 25, true) else if 19 ≤ k ∧ k ≤ 22 then (k - 18, true) else if k = 23 then (7, true) else if k = 24 then (8, true) else (0, false)
/-- the instruction that comes behind the kids -/
def behindV (k : Int) : Int := if 26 ≤ k ∧ k ≤ 36 then k - 15 else 28
set_option maxRecDepth 100000 in
theorem plain_i (w : World) (k : Int) : Calls Try.prog 150 #[.int .i64 k] w fun en w' => en = .returned (.tuple #[.int .i64 (plainV k).1, .bool (plainV k).2]) ∧ w' = w := by
 go_enter Try.func150, Try.ntmps150
 go_wp2
 all_goals
   go_ret2
   refine ⟨?_, rfl⟩
   simp only [beq_iff_eq, beq_eq_false_iff_ne, ne_eq] at *
   first
   | (subst_vars; rfl)
   | (have e : plainV k = (0, false) := by unfold plainV; rw [if_neg (by omega), if_neg (by omega), if_neg (by omega), if_neg (by omega)]
      rw [e]
      rfl)
set_option maxRecDepth 100000 in
theorem behind_i (w : World) (k : Int) : Calls Try.prog 155 #[.int .i64 k] w fun en w' => en = .returned (.int .i64 (behindV k)) ∧ w' = w := by
 go_enter Try.func155, Try.ntmps155
 go_wp2
 all_goals
   go_ret
   refine ⟨?_, rfl⟩
   simp only [beq_iff_eq, beq_eq_false_iff_ne, ne_eq] at *
   first
   | (subst_vars; rfl)
   | (have e : behindV k = 28 := by unfold behindV; rw [if_neg (by omega)]
      rw [e]
      rfl)
end Go.Proofs.Ytdpokdcendgfeaa
namespace Go.Proofs.Ytdpokdcendgfeaa
/-- an instruction -/
structure In where
 (o a b c d : Int)
deriving DecidableEq
/-- an instruction under way: its row, and where it goes on, if that is told later -/
structure Cd where
 i : In
 row : Nat
 to : Option Nat
def sayC (o a b c d : Int) (row : Nat) : Cd := ⟨⟨o, a, b, c, d⟩, row, none⟩
def jmpC (o : Int) (row to : Nat) : Cd := ⟨⟨o, 0, 0, 0, 0⟩, row, some to⟩
def itemC (row : Nat) (y : Ac) (tag x e : Int) : Cd := if y.k = 17 then sayC x tag 0 0 0 row else sayC e y.a y.b tag 0 row
def seqC (g : Nat → Nat → List Cd) : List Nat → Nat → List Cd
 | [], _ => []
 | k :: ks, c => g k c ++ seqC g ks (c + (g k c).length)
/-- an RIf's code -/
def ifC (g : Nat → Nat → List Cd) (i : Nat) (k : List Nat) (c : Nat) : List Cd :=
 match k with
 | [a, b] =>
   let m := g a c
   let n := g b (c + m.length + 1)
   m ++ jmpC 23 i (c + m.length + 1 + n.length) :: n
 | [a, b, d] =>
   let m := g a c
   let n := g b (c + m.length + 1)
   let o := g d (c + m.length + 1 + n.length + 1)
   m ++ jmpC 23 i (c + m.length + 1 + n.length + 1) :: (n ++ jmpC 22 i (c + m.length + 1 + n.length + 1 + o.length) :: o)
 | _ => []
/-- an RLoop's -/
def loopC (g : Nat → Nat → List Cd) (i : Nat) (x : Ac) (k : List Nat) (c : Nat) : List Cd :=
 match k with
 | [a, b] =>
   let m := g a (c + 2)
   let n := g b (c + 2 + m.length + 1)
   let e := c + 2 + m.length + 1 + n.length + 1
   sayC 24 x.a 0 0 0 i :: jmpC 25 i e :: (m ++ jmpC 26 i e :: (n ++ [sayC 27 ((c : Int) + 1) 0 0 0 i]))
 | _ => []
/-- an RAnd's -/
def andC (g : Nat → Nat → List Cd) (i : Nat) (k : List Nat) (c : Nat) : List Cd :=
 match k with
 | [a, b] =>
   let m := g a c
   let n := g b (c + m.length + 1)
   let f := c + m.length + 1 + n.length + 1
   m ++ jmpC 23 i f :: (n ++ [jmpC 22 i (f + 1), sayC 2 0 0 0 0 i])
 | _ => []
/-- an ROr's -/
def orC (g : Nat → Nat → List Cd) (i : Nat) (k : List Nat) (c : Nat) : List Cd :=
 match k with
 | [a, b] =>
   let m := g a c
   let f := c + m.length + 1 + 1 + 1
   let n := g b f
   m ++ jmpC 23 i f :: sayC 2 1 0 0 0 i :: jmpC 22 i (f + n.length) :: n
 | _ => []
def kidsC (l : List Ac) (i : Nat) (x : Ac) : List Nat := ((kidsS l x.n.toNat (i + 1)).getD []).map Prod.fst
/-- a row's code, from the place c on -/
def actC (l : List Ac) : Nat → Nat → Nat → List Cd
 | 0, _, _ => []
 | f + 1, i, c =>
   match l[i]? with
   | none => []
   | some x =>
     if (plainV x.k).2 = true then [sayC (plainV x.k).1 x.a x.b x.c x.d i] else
     let k := kidsC l i x
     let g := actC l f
     if x.k = 1 then seqC g k c
     else if x.k = 2 then ifC g i k c
     else if x.k = 3 then loopC g i x k c
     else if x.k = 5 then (let m := g (k[1]?.getD 0) c; m ++ [itemC i ((l[k[0]?.getD 0]?).getD ⟨0, 0, 0, 0, 0, 0⟩) x.a 29 30])
     else if x.k = 25 then [itemC i ((l[k[0]?.getD 0]?).getD ⟨0, 0, 0, 0, 0, 0⟩) x.a 9 10]
     else if x.k = 37 then andC g i k c
     else if x.k = 38 then orC g i k c
     else (let m := seqC g k c; m ++ [sayC (behindV x.k) x.a 0 0 0 i])
def Cd.fin (x : Cd) : In := match x.to with | none => x.i | some t => { x.i with a := (t : Int) }
/-- an event's code -/
def evC (l : List Ac) : List Cd := actC l (l.length + 2) 0 0 ++ [sayC 0 0 0 0 0 0]
/-- an instruction in its place -/
def relC (at_ : Nat) (x : In) : In := if x.o = 22 ∨ x.o = 23 ∨ x.o = 25 ∨ x.o = 26 ∨ x.o = 27 then { x with a := x.a + (at_ : Int) } else x
/-- a program under way: where the events begin; the code, and what it stands for -/
structure Mk where
 on : List Int
 cd : List In
 ev : List Int
 rw : List Int
def Mk.add (m : Mk) (n : Int) (l : List Ac) : Mk × Int :=
 if l.isEmpty then (m, -1) else ({ m with cd := m.cd ++ (evC l).map (fun x => relC m.cd.length x.fin), ev := m.ev ++ List.replicate (evC l).length n, rw := m.rw ++ (evC l).map (fun x => (x.row : Int)) }, (m.cd.length : Int))
def Mk.adds (m : Mk) : Nat → List (List Ac) → Mk
 | _, [] => m
 | i, l :: ls => Mk.adds { (m.add i l).1 with on := m.on ++ [(m.add i l).2] } (i + 1) ls
/-- a plan's program: with the miss' place -/
def makeC (P : Pl) : Mk × Int := (Mk.adds ⟨[], [], [], []⟩ 0 P.on).add (-1) P.ms
end Go.Proofs.Ytdpokdcendgfeaa
