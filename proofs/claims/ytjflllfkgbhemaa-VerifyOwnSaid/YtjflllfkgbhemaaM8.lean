/- Several texts in one: What the reference's looks tell, as functions; the reference in memory. The walks of the reference's Takes, Gives, hand, queues, turn. The walk of the reference's operands. The walk of the reference's jumps. The walks of the reference's get and goes. The plain law of operands: the verifier's and the reference's agree. The plain law of looks: the verifier's and the reference's agree, place by place. The plain law of one look: the verifier's and the reference's tell the same. The walks of SameInts, SameProgram, where what is compared is the same. The walk of KeptInts, where what was lent is as it was. The walk of KeptProgram, where what was lent is as it was. Conditions: those of each. -/
import Derived.Test.YtjflllfkgbhemaaM7
import Derived.PlainAid
/- What the reference's looks tell, as functions; the reference in memory. Conditions: none. -/
namespace Go.Proofs.Ytjflllfkgbhemaa
open Go.RowKit Go.PlainAid
/-- a standing of the reference -/
structure Rs where
  (ty : ByteArray) (lp hd : Int) (got : Bool)
def Rs.cells (s : Rs) : List Value := [.string s.ty, .int .i64 s.lp, .int .i64 s.hd, .bool s.got]
def Rs.val (s : Rs) : Value := .agg #[.string s.ty, .int .i64 s.lp, .int .i64 s.hd, .bool s.got]
def rs0 : Rs := ⟨⟨#[]⟩, 0, 0, false⟩
def rsV (l : List Rs) : List Value := l.flatMap Rs.cells
theorem rsV_get : ∀ {l : List Rs} {i : Nat} {x : Rs}, l[i]? = some x → (rsV l)[i * 4]? = some (.string x.ty) ∧ (rsV l)[i * 4 + 1]? = some (.int .i64 x.lp) ∧ (rsV l)[i * 4 + 2]? = some (.int .i64 x.hd) ∧ (rsV l)[i * 4 + 3]? = some (.bool x.got)
  | [], i, x, h => by simp at h
  | y :: l, 0, x, h => by
    simp at h
    subst h
    exact ⟨rfl, rfl, rfl, rfl⟩
  | y :: l, i + 1, x, h => by
    have ih := rsV_get (l := l) (i := i) (x := x) (by simpa using h)
    have e : rsV (y :: l) = y.cells ++ rsV l := rfl
    have sh : ∀ j, (y.cells ++ rsV l)[(i + 1) * 4 + j]? = (rsV l)[i * 4 + j]? := fun j => by
      have hl : y.cells.length = 4 := rfl
      rw [List.getElem?_append_right (by omega), hl, show (i + 1) * 4 + j - 4 = i * 4 + j by omega]
    rw [e]
    exact ⟨(sh 0).trans ih.1, (sh 1).trans ih.2.1, (sh 2).trans ih.2.2.1, (sh 3).trans ih.2.2.2⟩
theorem rsV_len (l : List Rs) : (rsV l).length = l.length * 4 := by
  induction l with
  | nil => rfl
  | cons x l ih =>
    have e : rsV (x :: l) = x.cells ++ rsV l := rfl
    have hl : x.cells.length = 4 := rfl
    rw [e, List.length_append, ih, hl]
    simp
    omega
theorem rsV_append (l l' : List Rs) : rsV (l ++ l') = rsV l ++ rsV l' := by simp [rsV]
theorem rsV_set {l : List Rs} {i : Nat} {x : Rs} (hi : i < l.length) : ((((rsV l).toArray.setIfInBounds (i * 4) (.string x.ty)).setIfInBounds (i * 4 + 1) (.int .i64 x.lp)).setIfInBounds (i * 4 + 2) (.int .i64 x.hd)).setIfInBounds (i * 4 + 3) (.bool x.got) = (rsV (l.set i x)).toArray := by
  obtain ⟨l1, y, l2, rfl, rfl⟩ : ∃ l1 y l2, l = l1 ++ y :: l2 ∧ i = l1.length := ⟨l.take i, l[i], l.drop (i + 1), by simp, by simp; omega⟩
  have e1 : rsV (l1 ++ y :: l2) = rsV l1 ++ (y.cells ++ rsV l2) := by rw [rsV_append]; rfl
  have e2 : rsV ((l1 ++ y :: l2).set l1.length x) = rsV l1 ++ (x.cells ++ rsV l2) := by
    rw [List.set_append, if_neg (by omega), Nat.sub_self, List.set_cons_zero, rsV_append]; rfl
  rw [e1, e2, ← rsV_len l1]
  simp [Rs.cells]
/-- the reference's looker in memory; its own rows are new memory -/
def lkCells (p : PV) (ab ub sb n : Nat) : Array Value := #[.slice p.ga p.gl p.gc, .slice p.va p.vl p.vc, .slice p.ta p.tl p.tc, .slice p.oa p.ol p.oc, .int .i64 p.miss, .slice p.ca p.cl p.cc, .slice (some ⟨ab, 0, none⟩) n n, .slice (some ⟨ub, 0, none⟩) n n, .slice (some ⟨sb, 0, none⟩) n n]
structure LMem (w0 w : World) (lb ab ub sb : Nat) (p : PV) (P : Prg) (ats : List Rs) (ups : List Int) (sts : List Bool) : Prop where
  m : AMem w0 p P
  b : Below w0.heap.size w0 w
  ge : w0.heap.size ≤ lb ∧ w0.heap.size ≤ ab ∧ w0.heap.size ≤ ub ∧ w0.heap.size ≤ sb
  l : Blk w lb 77 (lkCells p ab ub sb P.cd.length)
  a : Blk w ab 79 (rsV ats).toArray
  u : Blk w ub 3 (ints ups).toArray
  s : Blk w sb 4 (boolsV sts).toArray
  la : ats.length = P.cd.length
  lu : ups.length = P.cd.length
  ls : sts.length = P.cd.length
section
variable {w0 w w' : World} {lb ab ub sb : Nat} {p : PV} {P : Prg} {ats : List Rs} {ups : List Int} {sts : List Bool}
theorem LMem.below (h : LMem w0 w lb ab ub sb p P ats ups sts) (hb : Below w.heap.size w w') : LMem w0 w' lb ab ub sb p P ats ups sts :=
  ⟨h.m, h.b.trans (hb.mono h.b.size), h.ge, h.l.below hb h.l.lt, h.a.below hb h.a.lt, h.u.below hb h.u.lt, h.s.below hb h.s.lt, h.la, h.lu, h.ls⟩
theorem LMem.alloc (h : LMem w0 w lb ab ub sb p P ats ups sts) (o : Obj) : LMem w0 (w.alloc o) lb ab ub sb p P ats ups sts := h.below ((Below.refl _ w).alloc (Nat.le_refl _) o)
theorem LMem.drew (h : LMem w0 w lb ab ub sb p P ats ups sts) : LMem w0 w.drew lb ab ub sb p P ats ups sts := h.below (Below.refl _ w).drew
theorem LMem.drewN (h : LMem w0 w lb ab ub sb p P ats ups sts) (n : Nat) : LMem w0 (w.drewN n) lb ab ub sb p P ats ups sts := h.below (below_drewN (Below.refl _ w) n)
/-- the code, read -/
theorem LMem.code (h : LMem w0 w lb ab ub sb p P ats ups sts) {a : Int} (ha : pIn P a) : ∃ (n : Nat) (ad : Addr), a = n ∧ n < P.cd.length ∧ p.ca = some ad ∧ ∀ W, Below w.heap.size w W → W.cell? (ad.add (n * 5)) = some (.int .i64 (insAt P a).op) ∧
    W.cell? ⟨(ad.add (n * 5)).block, (ad.add (n * 5)).off + 1, none⟩ = some (.int .i64 (insAt P a).a) ∧ W.cell? ⟨(ad.add (n * 5)).block, (ad.add (n * 5)).off + 2, none⟩ = some (.int .i64 (insAt P a).b) ∧ W.cell? ⟨(ad.add (n * 5)).block, (ad.add (n * 5)).off + 3, none⟩ = some (.int .i64 (insAt P a).c) ∧ W.cell? ⟨(ad.add (n * 5)).block, (ad.add (n * 5)).off + 4, none⟩ = some (.int .i64 (insAt P a).d) := by
  obtain ⟨h0, h1⟩ := ha
  obtain ⟨n, rfl⟩ := Int.eq_ofNat_of_zero_le h0
  simp only [Int.toNat_natCast] at h1
  obtain ⟨y, hy⟩ : ∃ y, P.cd[n]? = some y := ⟨_, List.getElem?_eq_getElem h1⟩
  obtain ⟨ad, had, hab, hcl⟩ := src_at h.m.c (by omega)
  have e : insAt P ((n : Nat) : Int) = y := by simp [insAt, hy]
  rw [e]
  refine ⟨n, ad, rfl, h1, had, fun W hb => ?_⟩
  have hbb : Below w0.heap.size w0 W := h.b.trans (hb.mono h.b.size)
  obtain ⟨y0, y1, y2, y3, y4⟩ := codeV_get hy
  have c0 := hcl W hbb _ _ y0
  have c1 := hcl W hbb _ _ y1
  have c2 := hcl W hbb _ _ y2
  have c3 := hcl W hbb _ _ y3
  have c4 := hcl W hbb _ _ y4
  rw [add_fld ad (n * 5) 0] at c1
  rw [add_fld ad (n * 5) 1] at c2
  rw [add_fld ad (n * 5) 2] at c3
  rw [add_fld ad (n * 5) 3] at c4
  exact ⟨c0, c1, c2, c3, c4⟩
theorem LMem.gh (h : LMem w0 w lb ab ub sb p P ats ups sts) {a : Int} (ha : qIn P a) : ∃ (n : Nat) (ad : Addr), a = n ∧ n < P.gh.length ∧ p.ga = some ad ∧ ∀ W, Below w.heap.size w W → W.cell? (ad.add n) = some (.bool (ghost P a)) := by
  obtain ⟨h0, h1⟩ := ha
  obtain ⟨n, rfl⟩ := Int.eq_ofNat_of_zero_le h0
  simp only [Int.toNat_natCast] at h1
  obtain ⟨y, hy⟩ : ∃ y, P.gh[n]? = some y := ⟨_, List.getElem?_eq_getElem h1⟩
  obtain ⟨ad, had, hab, hcl⟩ := src_at h.m.g (by omega)
  have e : ghost P ((n : Nat) : Int) = y := by simp [ghost, hy]
  rw [e]
  exact ⟨n, ad, rfl, h1, had, fun W hb => hcl W (h.b.trans (hb.mono h.b.size)) n (.bool y) (by simp [boolsV, hy])⟩
end
def takesR (op : Int) : ByteArray :=
  if isNN op || isLL op then ⟨#[110, 110]⟩ else if op == 13 || isSt op then ⟨#[110]⟩ else if op == 14 || isBq op then ⟨#[98]⟩ else if op == 19 then ⟨#[63, 63]⟩ else ⟨#[]⟩
def givesR (op : Int) : ByteArray :=
  if isN0 op || isNN op || op == 13 then ⟨#[110]⟩ else if isB0 op || isLL op || op == 14 || op == 19 then ⟨#[98]⟩ else ⟨#[]⟩
def handR (P : Prg) (op a hand : Int) : Bool × Int :=
  if op = 36 then (hand == 2, 3) else if op = 37 then (hand == 1 || hand == 3, 0) else if op = 35 then (if ghost P a then (hand == 1 || hand == 3, 0) else (hand == 2, 0))
  else if op = 34 then (hand == 0, if ghost P a then 1 else 2) else if (decide (1 ≤ op) && decide (op ≤ 21)) || op == 28 || op == 29 || op == 30 then (true, hand) else (hand == 0, 0)
def leftR (op : Int) (ty : ByteArray) : ByteArray := ty.extract 0 (ty.size - (takesR op).size) ++ givesR op
def topR (op : Int) (ty : ByteArray) : ByteArray := ty.extract (ty.size - (takesR op).size) ty.size
def operandsR (op : Int) (ty : ByteArray) : ByteArray × Int :=
  if ty.size < (takesR op).size ∨ (op = 0 ∧ 0 < ty.size - (takesR op).size) then (⟨#[]⟩, 93)
  else if 256 < (leftR op ty).size then (⟨#[]⟩, 93)
  else if op = 19 then (if bt (topR op ty) 0 = bt (topR op ty) 1 then (leftR op ty, 0) else (⟨#[]⟩, 94))
  else if topR op ty = takesR op then (leftR op ty, 0) else (⟨#[]⟩, 94)
def atRs (ats : List Rs) (a : Int) : Rs := (ats[a.toNat]?).getD rs0
def turnR (P : Prg) (a : Int) : Bool := decide (0 ≤ a) && decide (a < P.cd.length) && (insAt P a).op == 25
def jbadR (P : Prg) (at_ : Nat) (x : Ins) : Bool := decide (x.a ≤ at_) || turnR P x.a
def jumpsR (P : Prg) (at_ : Nat) (x : Ins) (ty : ByteArray) (lp : Int) (ats : List Rs) (sts : List Bool) : Bool :=
  if x.op = 22 ∨ x.op = 23 then !jbadR P at_ x
  else if x.op = 24 then turnR P (at_ + 1)
  else if x.op = 25 then !jbadR P at_ x && (decide (0 < at_) && (insAt P ((at_ : Int) - 1)).op == 24 && !((sts[at_]?).getD false))
  else if x.op = 26 then !jbadR P at_ x && (decide (0 ≤ lp) && x.a == (insAt P lp).a)
  else if x.op = 27 then decide (0 ≤ lp) && x.a == lp && decide (ty = (atRs ats lp).ty)
  else if x.op = 0 then decide (lp < 0) else true
def goesR (at_ : Nat) (x : Ins) (s : Rs) (ups : List Int) : List (Int × Rs) :=
  if x.op = 0 then [] else if x.op = 27 then [] else if x.op = 22 then [(x.a, s)] else if x.op = 23 then [((at_ : Int) + 1, s), (x.a, s)]
  else if x.op = 25 then [((at_ : Int) + 1, { s with lp := at_ }), (x.a, s)] else if x.op = 26 then [((at_ : Int) + 1, s), (x.a, { s with lp := fAt ups s.lp })] else [((at_ : Int) + 1, s)]
def upsR (at_ : Nat) (x : Ins) (s : Rs) (ups : List Int) : List Int := if x.op = 25 then ups.set at_ s.lp else ups
def eqR (a b : Rs) : Bool := decide (a.ty = b.ty) && decide (a.lp = b.lp) && decide (a.hd = b.hd) && (a.got == b.got)
def putsR : List (Int × Rs) → List Rs → Int × List Rs
  | [], ats => (0, ats)
  | u :: l, ats => if (atRs ats u.1).got then (if eqR (atRs ats u.1) u.2 then putsR l ats else (94, ats)) else putsR l (ats.set u.1.toNat u.2)
/-- what place tells, and the rows behind it -/
def placeR (P : Prg) (at_ : Nat) (x : Ins) (ats : List Rs) (ups : List Int) (sts : List Bool) : Int × List Rs × List Int :=
  let s := atRs ats at_
  if s.got = false then (99, ats, ups)
  else if (handR P x.op x.a s.hd).1 = false then (96, ats, ups)
  else if (operandsR x.op s.ty).2 ≠ 0 then ((operandsR x.op s.ty).2, ats, ups)
  else if kindsV P x.op x.a x.c = false then (92, ats, ups)
  else if jumpsR P at_ x (operandsR x.op s.ty).1 s.lp ats sts = false then (95, ats, ups)
  else
    let b : Rs := ⟨(operandsR x.op s.ty).1, s.lp, (handR P x.op x.a s.hd).2, true⟩
    let u := upsR at_ x b ups
    let l := goesR at_ x b ups
    if l.any (fun v => v.1 == P.cd.length) then (98, ats, u)
    else if l.any (fun v => (atRs ats v.1).got && !eqR (atRs ats v.1) v.2) then (94, ats, u)
    else ((putsR l ats).1, (putsR l ats).2, u)
theorem bytes_ne {a b : ByteArray} (h : ¬ a = b) : (a.toList == b.toList) = false := by
  rw [beq_eq_false_iff_ne]
  intro e
  rw [ByteArray.toList_eq, ByteArray.toList_eq] at e
  exact h (ByteArray.ext (Array.toList_inj.1 e))
set_option maxRecDepth 100000 in
theorem rs_eql (w : World) (t1 t2 : ByteArray) (l1 l2 h1 h2 : Int) (g1 g2 : Bool) : (binOp .eql 79 (.agg #[.string t1, .int .i64 l1, .int .i64 h1, .bool g1]) (.agg #[.string t2, .int .i64 l2, .int .i64 h2, .bool g2])).run Try.prog w = .ok (.bool (decide (t1 = t2) && decide (l1 = l2) && decide (h1 = h2) && (g1 == g2))) w := by
  by_cases e1 : t1 = t2
  · subst e1
    by_cases e2 : l1 = l2
    · subst e2
      by_cases e3 : h1 = h2
      · subst e3
        cases g1 <;> cases g2
        all_goals
          go_simp
      · have d3 : (h1 == h2) = false := by simpa using e3
        cases g1 <;> cases g2
        all_goals
          go_simp
    · have d2 : (l1 == l2) = false := by simpa using e2
      go_simp
  · have d1 := bytes_ne e1
    go_simp
set_option maxRecDepth 100000 in
theorem rs_neq (w : World) (t1 t2 : ByteArray) (l1 l2 h1 h2 : Int) (g1 g2 : Bool) : (binOp .neq 79 (.agg #[.string t1, .int .i64 l1, .int .i64 h1, .bool g1]) (.agg #[.string t2, .int .i64 l2, .int .i64 h2, .bool g2])).run Try.prog w = .ok (.bool (!(decide (t1 = t2) && decide (l1 = l2) && decide (h1 = h2) && (g1 == g2)))) w := by
  by_cases e1 : t1 = t2
  · subst e1
    by_cases e2 : l1 = l2
    · subst e2
      by_cases e3 : h1 = h2
      · subst e3
        cases g1 <;> cases g2
        all_goals
          go_simp
      · have d3 : (h1 == h2) = false := by simpa using e3
        cases g1 <;> cases g2
        all_goals
          go_simp
    · have d2 : (l1 == l2) = false := by simpa using e2
      go_simp
  · have d1 := bytes_ne e1
    go_simp
end Go.Proofs.Ytjflllfkgbhemaa

/- The walks of the reference's Takes, Gives, hand, queues, turn. Conditions: the instruction's operands were checked. -/
namespace Go.Proofs.Ytjflllfkgbhemaa
open Go.RowKit Go.PlainAid
set_option linter.unusedSimpArgs false in
set_option maxRecDepth 100000 in
set_option maxHeartbeats 4000000 in
theorem takes_r (w : World) (op : Int) : Calls Try.prog 77 #[.int .i64 op] w fun en w' => en = .returned (.string (takesR op)) ∧ w' = w := by
  go_enter Try.func77, Try.ntmps77
  go_wp2
  all_goals
    go_ret
    refine ⟨?_, rfl⟩
    simp [takesR, isNN, isLL, isBq, isSt, *]
set_option linter.unusedSimpArgs false in
set_option maxRecDepth 100000 in
set_option maxHeartbeats 4000000 in
theorem gives_r (w : World) (op : Int) : Calls Try.prog 78 #[.int .i64 op] w fun en w' => en = .returned (.string (givesR op)) ∧ w' = w := by
  go_enter Try.func78, Try.ntmps78
  go_wp2
  all_goals
    go_ret
    refine ⟨?_, rfl⟩
    simp [givesR, isN0, isB0, isNN, isLL, *]
section
variable {w0 w : World} {lb ab ub sb : Nat} {p : PV} {P : Prg} {ats : List Rs} {ups : List Int} {sts : List Bool}
theorem LMem.cellL (h : LMem w0 w lb ab ub sb p P ats ups sts) : w.cell? ⟨lb, 0, none⟩ = some (.slice p.ga P.gh.length p.gc) ∧ w.cell? ⟨lb, 5, none⟩ = some (.slice p.ca P.cd.length p.cc) ∧ w.cell? ⟨lb, 6, none⟩ = some (.slice (some ⟨ab, 0, none⟩) P.cd.length P.cd.length) ∧ w.cell? ⟨lb, 7, none⟩ = some (.slice (some ⟨ub, 0, none⟩) P.cd.length P.cd.length) ∧ w.cell? ⟨lb, 8, none⟩ = some (.slice (some ⟨sb, 0, none⟩) P.cd.length P.cd.length) := by
  refine ⟨?_, ?_, ?_, ?_, ?_⟩
  · rw [h.l.cell, ← h.m.gl]; rfl
  · rw [h.l.cell, ← h.m.cl]; rfl
  · rw [h.l.cell]; rfl
  · rw [h.l.cell]; rfl
  · rw [h.l.cell]; rfl
set_option linter.unusedSimpArgs false in
set_option linter.unusedVariables false in
set_option maxRecDepth 100000 in
set_option maxHeartbeats 4000000 in
theorem turn_r (h : LMem w0 w lb ab ub sb p P ats ups sts) (hn : P.cd.length ≤ 262144) (a : Int) :
    Calls Try.prog 79 #[.pointer (some ⟨lb, 0, none⟩), .int .i64 a] w fun en w' => en = .returned (.bool (turnR P a)) ∧ ∃ n, w' = w.drewN n := by
  have g5 := h.cellL.2.1
  by_cases hp : pIn P a
  · obtain ⟨n, ad, rfl, hlt, had, hcl⟩ := h.code hp
    have c0 := (hcl w (Below.refl _ _)).1
    have c0d := (hcl w.drew (Below.refl _ _).drew).1
    rw [had] at g5
    have g5d : w.drew.cell? ⟨lb, 5, none⟩ = some (.slice (some ad) P.cd.length p.cc) := g5
    generalize hop : (insAt P ((n : Nat) : Int)).op = op at *
    have hv : turnR P (n : Int) = (op == 25) := by simp [turnR, hop, hlt]
    rw [hv]
    have hltI : (n : Int) < (P.cd.length : Int) := by omega
    clear h hp hcl had hv hop
    go_enter Try.func79, Try.ntmps79
    go_wp2
    all_goals try (go_quiet (fail); go_wp2)
    all_goals
      go_ret
      refine ⟨?_, by first | exact ⟨0, rfl⟩ | exact ⟨1, rfl⟩ | exact ⟨_, rfl⟩⟩
      try rfl
  · have hv : turnR P a = false := by
      unfold turnR pIn at *
      by_cases h0 : 0 ≤ a
      · simp [h0]; omega
      · simp [h0]
    rw [hv]
    by_cases h0 : 0 ≤ a
    · have h1 : ¬ a < (P.cd.length : Int) := by unfold pIn at hp; omega
      clear h hp hv
      go_enter Try.func79, Try.ntmps79
      go_wp2
      all_goals try (go_quiet (fail); go_wp2)
      all_goals
        go_ret
        refine ⟨?_, by first | exact ⟨0, rfl⟩ | exact ⟨1, rfl⟩ | exact ⟨_, rfl⟩⟩
        try rfl
    · clear h hp hv
      go_enter Try.func79, Try.ntmps79
      go_wp2
      all_goals try (go_quiet (fail); go_wp2)
      all_goals
        go_ret
        refine ⟨?_, by first | exact ⟨0, rfl⟩ | exact ⟨1, rfl⟩ | exact ⟨_, rfl⟩⟩
        try rfl
set_option linter.unusedSimpArgs false in
set_option linter.unusedVariables false in
set_option maxRecDepth 100000 in
set_option maxHeartbeats 4000000 in
theorem hand_r (h : LMem w0 w lb ab ub sb p P ats ups sts) (x : Ins) (hand : Int) (hq34 : x.op = 34 → qIn P x.a) (hq35 : x.op = 35 → qIn P x.a) :
    Calls Try.prog 59 #[.pointer (some ⟨lb, 0, none⟩), .agg #[.int .i64 x.op, .int .i64 x.a, .int .i64 x.b, .int .i64 x.c, .int .i64 x.d], .int .i64 hand] w fun en w' => en = .returned (.tuple #[.bool (handR P x.op x.a hand).1, .int .i64 (handR P x.op x.a hand).2]) ∧ Below w.heap.size w w' := by
  obtain ⟨op, a, b, c, d⟩ := x
  simp only at hq34 hq35 ⊢
  have g0 := h.cellL.1
  by_cases o3 : op = 34 ∨ op = 35
  · have hq : qIn P a := by rcases o3 with e | e; exact hq34 e; exact hq35 e
    obtain ⟨n, ad, rfl, hlt, had, hcl⟩ := h.gh hq
    have hal : Below w.heap.size w (w.alloc (.cells #[.int .i64 op, .int .i64 ((n : Nat) : Int), .int .i64 b, .int .i64 c, .int .i64 d] 46)) := (Below.refl _ w).alloc (Nat.le_refl _) _
    have c0 := hcl w (Below.refl _ _)
    have c1 := hcl _ hal
    rw [had] at g0
    have g1 := (hal.cell (p := ⟨lb, 0, none⟩) h.l.lt).trans g0
    obtain ⟨y, hy⟩ : ∃ y, ghost P ((n : Nat) : Int) = y := ⟨_, rfl⟩
    have HV : Hid (handR P op (n : Int) hand = if op = 35 then (if y then (hand == 1 || hand == 3, 0) else (hand == 2, 0)) else (hand == 0, if y then 1 else 2)) := hide (by
      rcases o3 with rfl | rfl <;> simp [handR, hy])
    rw [hy] at c0 c1
    have HAL := hide hal
    clear hy h hq hcl had hq34 hq35 hal
    rcases o3 with rfl | rfl <;> cases y
    all_goals
      go_enter Try.func59, Try.ntmps59
      go_wp2
      all_goals try (go_quiet (fail); go_wp2)
      all_goals try (go_quiet (fail); go_wp2)
      all_goals
        go_ret2
        refine ⟨?_, by first | exact HAL.out | exact HAL.out.drew | exact below_drewN HAL.out _ | exact below_drewN (below_drewN HAL.out _) _⟩
        rw [HV.out]
        try simp only [beq_iff_eq, beq_eq_false_iff_ne, ne_eq] at *
        simp [*]
  · have e1 : op ≠ 34 := fun e => o3 (.inl e)
    have e2 : op ≠ 35 := fun e => o3 (.inr e)
    have d1 : (op == 34) = false := by simpa using e1
    have d2 : (op == 35) = false := by simpa using e2
    have HAL : Hid (Below w.heap.size w (w.alloc (.cells #[.int .i64 op, .int .i64 a, .int .i64 b, .int .i64 c, .int .i64 d] 46))) := hide ((Below.refl _ w).alloc (Nat.le_refl _) _)
    have HV : Hid (handR P op a hand = if op = 36 then (hand == 2, 3) else if op = 37 then (hand == 1 || hand == 3, 0) else if (decide (1 ≤ op) && decide (op ≤ 21)) || op == 28 || op == 29 || op == 30 then (true, hand) else (hand == 0, 0)) := hide (by simp [handR, e1, e2])
    clear h hq34 hq35 o3
    go_enter Try.func59, Try.ntmps59
    go_wp2
    all_goals try (go_quiet (fail); go_wp2)
    all_goals try (go_quiet (fail); go_wp2)
    all_goals
      go_ret2
      try simp only [beq_iff_eq, beq_eq_false_iff_ne, ne_eq] at *
      try subst_vars
      refine ⟨?_, by first | exact HAL.out | exact HAL.out.drew | exact below_drewN HAL.out _ | exact below_drewN (below_drewN HAL.out _) _⟩
      rw [HV.out]
      first
        | (simp [*]; done)
        | (have e30 : op = 30 := by omega
           subst e30
           simp
           done)
        | (have e : ¬ op ≤ 21 := by omega
           simp [*, e]
           done)
        | (have e : ¬ (1 ≤ op ∧ op ≤ 21) := by omega
           simp [*, e]
           done)
set_option linter.unusedSimpArgs false in
set_option linter.unusedVariables false in
set_option maxRecDepth 100000 in
set_option maxHeartbeats 4000000 in
theorem queues_r (h : LMem w0 w lb ab ub sb p P ats ups sts) (x : Ins) (hq : x.op = 32 ∨ x.op = 40 ∨ x.op = 41 ∨ x.op = 38 ∨ x.op = 39 → qIn P x.a) (hc : x.op = 38 ∨ x.op = 39 → qIn P x.c) :
    Calls Try.prog 61 #[.pointer (some ⟨lb, 0, none⟩), .agg #[.int .i64 x.op, .int .i64 x.a, .int .i64 x.b, .int .i64 x.c, .int .i64 x.d]] w fun en w' => en = .returned (.bool (kindsV P x.op x.a x.c)) ∧ Below w.heap.size w w' := by
  obtain ⟨op, a, b, c, d⟩ := x
  simp only at hq hc ⊢
  have g0 := h.cellL.1
  have hal : Below w.heap.size w (w.alloc (.cells #[.int .i64 op, .int .i64 a, .int .i64 b, .int .i64 c, .int .i64 d] 46)) := (Below.refl _ w).alloc (Nat.le_refl _) _
  have g1 := (hal.cell (p := ⟨lb, 0, none⟩) h.l.lt).trans g0
  by_cases o1 : op = 32 ∨ op = 40 ∨ op = 41
  · obtain ⟨n, ad, rfl, hlt, had, hcl⟩ := h.gh (hq (by omega))
    rw [had] at g0 g1
    have q0 := hcl w (Below.refl _ _)
    have q1 := hcl _ hal
    cases hG : ghost P ((n : Nat) : Int) <;> rw [hG] at q0 q1
    all_goals
      have hV : kindsV P op (n : Int) c = if op = 41 then ghost P (n : Int) else !ghost P (n : Int) := by
        rcases o1 with rfl | rfl | rfl <;> simp [kindsV]
      rw [hG] at hV
      have HV := hide hV
      clear hV hG hcl had
      rcases o1 with rfl | rfl | rfl
      all_goals
        have HAL := hide hal
        clear hal h hq hc
        go_enter Try.func61, Try.ntmps61
        go_wp2
        all_goals try (go_quiet (fail); go_wp2)
        all_goals
          go_ret
          refine ⟨?_, by first | exact HAL.out | exact HAL.out.drew | exact below_drewN HAL.out _⟩
          rw [HV.out]
          rfl
  · by_cases o2 : op = 38 ∨ op = 39
    · obtain ⟨n, ad, rfl, hlt, had, hcl⟩ := h.gh (hq (by omega))
      obtain ⟨m, ad', rfl, hlt', had', hcl'⟩ := h.gh (hc o2)
      rw [had] at g0 g1
      rw [had] at had'
      obtain rfl : ad = ad' := by injection had'
      have q0 := hcl w (Below.refl _ _)
      have q1 := hcl _ hal
      have r0 := hcl' w (Below.refl _ _)
      have r1 := hcl' _ hal
      have hV : kindsV P op (n : Int) (m : Int) = if op = 38 then ghost P (n : Int) == ghost P (m : Int) else !ghost P (n : Int) && ghost P (m : Int) := by
        rcases o2 with rfl | rfl <;> simp [kindsV]
      cases hG : ghost P ((n : Nat) : Int) <;> cases hM : ghost P ((m : Nat) : Int) <;> rw [hG] at q0 q1 hV <;> rw [hM] at r0 r1 hV
      all_goals
        have HV := hide hV
        clear hV hG hM hcl hcl' had
        rcases o2 with rfl | rfl
        all_goals
          have HAL := hide hal
          clear hal h hq hc o1
          go_enter Try.func61, Try.ntmps61
          go_wp2
          all_goals try (go_quiet (fail); go_wp2)
          all_goals
            go_ret
            refine ⟨?_, by first | exact HAL.out | exact HAL.out.drew | exact below_drewN HAL.out _⟩
            rw [HV.out]
            rfl
    · have hV : kindsV P op a c = true := by
        unfold kindsV
        have : op ≠ 32 ∧ op ≠ 40 ∧ op ≠ 41 ∧ op ≠ 38 ∧ op ≠ 39 := by omega
        simp [this]
      have HV := hide hV
      have h5 : op ≠ 32 ∧ op ≠ 40 ∧ op ≠ 41 ∧ op ≠ 38 ∧ op ≠ 39 := by omega
      obtain ⟨f1, f2, f3, f4, f5⟩ := h5
      have HAL := hide hal
      clear hV hq hc h o1 o2 hal
      go_enter Try.func61, Try.ntmps61
      go_wp2
      all_goals
        go_ret
        exact ⟨by rw [HV.out]; rfl, HAL.out⟩
end
end Go.Proofs.Ytjflllfkgbhemaa

/- The walk of the reference's operands. Conditions: the bounds that are named. -/
namespace Go.Proofs.Ytjflllfkgbhemaa
open Go.RowKit Go.PlainAid
theorem takesR_le (op : Int) : (takesR op).size ≤ 2 := by
  unfold takesR
  repeat' split
  all_goals decide
theorem givesR_le (op : Int) : (givesR op).size ≤ 1 := by
  unfold givesR
  repeat' split
  all_goals decide
theorem takesR_19 : (takesR 19).size = 2 := by decide
set_option linter.unusedSimpArgs false in
set_option linter.unusedVariables false in
set_option maxRecDepth 100000 in
set_option maxHeartbeats 4000000 in
theorem operands_r (w : World) (x : Ins) (ty : ByteArray) (hty : ty.size ≤ 4194304) :
    Calls Try.prog 60 #[.agg #[.int .i64 x.op, .int .i64 x.a, .int .i64 x.b, .int .i64 x.c, .int .i64 x.d], .string ty] w fun en w' => en = .returned (.tuple #[.string (operandsR x.op ty).1, .int .i64 (operandsR x.op ty).2]) ∧ Below w.heap.size w w' := by
  obtain ⟨op, a, b, c, d⟩ := x
  simp only
  have HTK := fun W => hide (takes_r W op)
  have HGV := fun W => hide (gives_r W op)
  have HAL : Hid (Below w.heap.size w (w.alloc (.cells #[.int .i64 op, .int .i64 a, .int .i64 b, .int .i64 c, .int .i64 d] 46))) := hide ((Below.refl _ w).alloc (Nat.le_refl _) _)
  obtain ⟨R, hR⟩ : ∃ R, operandsR op ty = R := ⟨_, rfl⟩
  rw [hR]
  unfold operandsR at hR
  have hl : leftR op ty = ty.extract 0 (ty.size - (takesR op).size) ++ givesR op := rfl
  have ht : topR op ty = ty.extract (ty.size - (takesR op).size) ty.size := rfl
  have h2 := takesR_le op
  have h1 := givesR_le op
  have h19 : op = 19 → (takesR op).size = 2 := fun e => by rw [e]; exact takesR_19
  have htz : (takesR op).size ≤ ty.size → (topR op ty).size = (takesR op).size := fun h => by rw [ht]; simp; omega
  generalize leftR op ty = L at *
  generalize topR op ty = U at *
  generalize takesR op = T at *
  generalize givesR op = G at *
  have HL := hide hl
  have HT := hide ht
  have H19 := hide h19
  have HTZ := hide htz
  have HR := hide hR
  clear hl ht h19 htz hR
  by_cases k1 : ty.size < T.size
  · have u1 := IntWalk.i64_in ((ty.size : Int) - (T.size : Int)) (by omega)
    have i1 : (ty.size : Int) - (T.size : Int) < 0 := by omega
    have HE : Hid (R = (⟨#[]⟩, 93)) := hide (by rw [← HR.out, if_pos (.inl k1)])
    clear k1
    go_enter Try.func60, Try.ntmps60
    go_wp2_with (go_at_call 77
                 refine (HTK _).out.mono ?_
                 rintro en w1 ⟨rfl, rfl⟩)
    all_goals
      go_ret2
      exact ⟨by rw [HE.out]; rfl, by first | exact HAL.out | exact below_drewN HAL.out _⟩
  · have hsub : (ty.size : Int) - (T.size : Int) = ((ty.size - T.size : Nat) : Int) := by omega
    have u1 := IntWalk.i64_in ((ty.size : Int) - (T.size : Int)) (by omega)
    rw [hsub] at u1
    have hkz := HTZ.out (by omega)
    obtain ⟨n, hn⟩ : ∃ n, ty.size - T.size = n := ⟨_, rfl⟩
    rw [hn] at u1 hsub
    have hnle : n ≤ ty.size := by omega
    by_cases k2 : op = 0 ∧ 0 < n
    · have HE : Hid (R = (⟨#[]⟩, 93)) := hide (by rw [← HR.out, hn, if_pos (.inr k2)])
      obtain ⟨rfl, k2⟩ := k2
      have k3 : (0 : Int) < (n : Int) := by omega
      clear k1 hn hkz
      go_enter Try.func60, Try.ntmps60
      go_wp2_with (go_at_call 77
                   refine (HTK _).out.mono ?_
                   rintro en w1 ⟨rfl, rfl⟩)
      all_goals first
        | (exfalso; omega)
        | (go_ret2
           exact ⟨by rw [HE.out]; rfl, by first | exact HAL.out | exact below_drewN HAL.out _⟩)
    · have hl := HL.out
      have ht := HT.out
      rw [hn] at hl ht
      have HU := hide ht
      have HLL := hide hl
      have HN := hide hn
      have hr := HR.out
      rw [hn, if_neg (fun h => h.elim k1 k2)] at hr
      have hgt : ¬ ((n : Int) < 0) := by omega
      have hg0 : op = 0 → ¬ (0 : Int) < (n : Int) := fun e h => k2 ⟨e, by omega⟩
      have HG0 := hide hg0
      clear hg0 hn hl ht HR HL HT k1 k2
      by_cases k3 : 256 < L.size
      · rw [if_pos k3] at hr
        have HE := hide hr
        have k4 : (256 : Int) < (L.size : Int) := by omega
        clear hr
        by_cases o0 : op = 0
        · subst o0
          have hg1 := HG0.out rfl
          go_enter Try.func60, Try.ntmps60
          go_wp2_with (go_at_call 77
                       refine (HTK _).out.mono ?_
                       rintro en w1 ⟨rfl, rfl⟩)
          all_goals try (exfalso; omega)
          go_quiet ((go_at_call 78; exact Calls.quiet_of_same ((HGV _).out)))
          rw [← HLL.out, ← HU.out]
          go_wp2
          all_goals first
            | (exfalso; omega)
            | (go_ret2
               exact ⟨by first | rw [HE.out] | (rw [← HE.out]; done) | (rw [← HE.out]; rfl), below_drewN HAL.out _⟩)
        · have o1 : (op == 0) = false := by simpa using o0
          go_enter Try.func60, Try.ntmps60
          go_wp2_with (go_at_call 77
                       refine (HTK _).out.mono ?_
                       rintro en w1 ⟨rfl, rfl⟩)
          all_goals try (exfalso; omega)
          go_quiet ((go_at_call 78; exact Calls.quiet_of_same ((HGV _).out)))
          rw [← HLL.out, ← HU.out]
          go_wp2
          all_goals first
            | (exfalso; omega)
            | (go_ret2
               exact ⟨by first | rw [HE.out] | (rw [← HE.out]; done) | (rw [← HE.out]; rfl), below_drewN HAL.out _⟩)
      · rw [if_neg k3] at hr
        have k4 : ¬ (256 : Int) < (L.size : Int) := by omega
        by_cases o19 : op = 19
        · subst o19
          rw [if_pos rfl] at hr
          have hT2 := H19.out rfl
          rw [hT2] at hkz
          clear hT2
          have hgb := get_bt U
          by_cases k5 : bt U 0 = bt U 1
          · rw [if_pos k5] at hr
            have HE := hide hr
            have k6 : (bt U 0 == bt U 1) = true := by simpa using k5
            have k7 : (bt U 0 != bt U 1) = false := by simpa using k5
            clear hr k5
            go_enter Try.func60, Try.ntmps60
            go_wp2_with (go_at_call 77
                         refine (HTK _).out.mono ?_
                         rintro en w1 ⟨rfl, rfl⟩)
            all_goals try (exfalso; omega)
            go_quiet ((go_at_call 78; exact Calls.quiet_of_same ((HGV _).out)))
            rw [← HLL.out, ← HU.out]
            go_wp2
            all_goals try (exfalso; omega)
            go_quiet (fail)
            all_goals go_wp2
            all_goals first
              | (exfalso; omega)
              | (go_ret2
                 exact ⟨by first | rw [HE.out] | (rw [← HE.out]; done) | (rw [← HE.out]; rfl), by first | exact below_drewN HAL.out _ | exact below_drewN (below_drewN HAL.out _) _⟩)
          · rw [if_neg k5] at hr
            have HE := hide hr
            have k6 : (bt U 0 == bt U 1) = false := by simpa using k5
            have k7 : (bt U 0 != bt U 1) = true := by simpa using k5
            clear hr k5
            go_enter Try.func60, Try.ntmps60
            go_wp2_with (go_at_call 77
                         refine (HTK _).out.mono ?_
                         rintro en w1 ⟨rfl, rfl⟩)
            all_goals try (exfalso; omega)
            go_quiet ((go_at_call 78; exact Calls.quiet_of_same ((HGV _).out)))
            rw [← HLL.out, ← HU.out]
            go_wp2
            all_goals try (exfalso; omega)
            go_quiet (fail)
            all_goals go_wp2
            all_goals first
              | (exfalso; omega)
              | (go_ret2
                 exact ⟨by first | rw [HE.out] | (rw [← HE.out]; done) | (rw [← HE.out]; rfl), by first | exact below_drewN HAL.out _ | exact below_drewN (below_drewN HAL.out _) _⟩)
        · rw [if_neg o19] at hr
          have o19b : (op == 19) = false := by simpa using o19
          by_cases k5 : U = T
          · rw [if_pos k5] at hr
            have HE := hide hr
            have HUT := hide k5
            clear hr k5 hkz
            by_cases o0 : op = 0
            · subst o0
              have hg1 := HG0.out rfl
              go_enter Try.func60, Try.ntmps60
              go_wp2_with (go_at_call 77
                           refine (HTK _).out.mono ?_
                           rintro en w1 ⟨rfl, rfl⟩)
              all_goals try (exfalso; omega)
              go_quiet ((go_at_call 78; exact Calls.quiet_of_same ((HGV _).out)))
              rw [← HLL.out, ← HU.out]
              rw [HUT.out]
              go_wp2
              all_goals first
                | (exfalso; omega)
                | (go_ret2
                   exact ⟨by first | rw [HE.out] | (rw [← HE.out]; done) | (rw [← HE.out]; rfl), by first | exact below_drewN HAL.out _ | exact below_drewN (below_drewN HAL.out _) _⟩)
            · have o1 : (op == 0) = false := by simpa using o0
              go_enter Try.func60, Try.ntmps60
              go_wp2_with (go_at_call 77
                           refine (HTK _).out.mono ?_
                           rintro en w1 ⟨rfl, rfl⟩)
              all_goals try (exfalso; omega)
              go_quiet ((go_at_call 78; exact Calls.quiet_of_same ((HGV _).out)))
              rw [← HLL.out, ← HU.out]
              rw [HUT.out]
              go_wp2
              all_goals first
                | (exfalso; omega)
                | (go_ret2
                   exact ⟨by first | rw [HE.out] | (rw [← HE.out]; done) | (rw [← HE.out]; rfl), by first | exact below_drewN HAL.out _ | exact below_drewN (below_drewN HAL.out _) _⟩)
          · rw [if_neg k5] at hr
            have HE := hide hr
            have k6 := bytes_ne k5
            clear hr k5 hkz
            by_cases o0 : op = 0
            · subst o0
              have hg1 := HG0.out rfl
              go_enter Try.func60, Try.ntmps60
              go_wp2_with (go_at_call 77
                           refine (HTK _).out.mono ?_
                           rintro en w1 ⟨rfl, rfl⟩)
              all_goals try (exfalso; omega)
              go_quiet ((go_at_call 78; exact Calls.quiet_of_same ((HGV _).out)))
              rw [← HLL.out, ← HU.out]
              go_wp2
              all_goals first
                | (exfalso; omega)
                | (go_ret2
                   exact ⟨by first | rw [HE.out] | (rw [← HE.out]; done) | (rw [← HE.out]; rfl), by first | exact below_drewN HAL.out _ | exact below_drewN (below_drewN HAL.out _) _⟩)
            · have o1 : (op == 0) = false := by simpa using o0
              go_enter Try.func60, Try.ntmps60
              go_wp2_with (go_at_call 77
                           refine (HTK _).out.mono ?_
                           rintro en w1 ⟨rfl, rfl⟩)
              all_goals try (exfalso; omega)
              go_quiet ((go_at_call 78; exact Calls.quiet_of_same ((HGV _).out)))
              rw [← HLL.out, ← HU.out]
              go_wp2
              all_goals first
                | (exfalso; omega)
                | (go_ret2
                   exact ⟨by first | rw [HE.out] | (rw [← HE.out]; done) | (rw [← HE.out]; rfl), by first | exact below_drewN HAL.out _ | exact below_drewN (below_drewN HAL.out _) _⟩)
end Go.Proofs.Ytjflllfkgbhemaa

/- The walk of the reference's jumps. Conditions: the bounds that are named. -/
namespace Go.Proofs.Ytjflllfkgbhemaa
open Go.RowKit Go.PlainAid
section
variable {w0 w : World} {lb ab ub sb : Nat} {p : PV} {P : Prg} {ats : List Rs} {ups : List Int} {sts : List Bool}
/-- a place's instruction at an address -/
def CodeC (W : World) (ad : Addr) (n : Nat) (x : Ins) : Prop := W.cell? (ad.add (n * 5)) = some (.int .i64 x.op) ∧
    W.cell? ⟨(ad.add (n * 5)).block, (ad.add (n * 5)).off + 1, none⟩ = some (.int .i64 x.a) ∧ W.cell? ⟨(ad.add (n * 5)).block, (ad.add (n * 5)).off + 2, none⟩ = some (.int .i64 x.b) ∧ W.cell? ⟨(ad.add (n * 5)).block, (ad.add (n * 5)).off + 3, none⟩ = some (.int .i64 x.c) ∧ W.cell? ⟨(ad.add (n * 5)).block, (ad.add (n * 5)).off + 4, none⟩ = some (.int .i64 x.d)
theorem LMem.ca (h : LMem w0 w lb ab ub sb p P ats ups sts) (h0 : 0 < P.cd.length) : ∃ ad : Addr, p.ca = some ad ∧ ∀ n : Nat, n < P.cd.length → ∀ W, Below w.heap.size w W → CodeC W ad n (insAt P (n : Int)) := by
  obtain ⟨n0, ad, _, _, had, _⟩ := h.code (a := 0) ⟨by omega, by simpa using h0⟩
  refine ⟨ad, had, fun n hn W hb => ?_⟩
  obtain ⟨n1, ad', e1, _, had', hcl⟩ := h.code (a := (n : Int)) ⟨by omega, by simpa using hn⟩
  rw [had] at had'
  obtain rfl : ad = ad' := by injection had'
  obtain rfl : n1 = n := by omega
  exact hcl W hb
theorem LMem.rsAt (h : LMem w0 w lb ab ub sb p P ats ups sts) {n : Nat} (hn : n < P.cd.length) : ∀ W, Below w.heap.size w W → W.cell? ⟨ab, n * 4, none⟩ = some (.string (atRs ats n).ty) ∧ W.cell? ⟨ab, n * 4 + 1, none⟩ = some (.int .i64 (atRs ats n).lp) ∧ W.cell? ⟨ab, n * 4 + 2, none⟩ = some (.int .i64 (atRs ats n).hd) ∧ W.cell? ⟨ab, n * 4 + 3, none⟩ = some (.bool (atRs ats n).got) := by
  intro W hb
  have ha := h.a.below hb h.a.lt
  obtain ⟨y, hy⟩ : ∃ y, ats[n]? = some y := ⟨_, List.getElem?_eq_getElem (by rw [h.la]; exact hn)⟩
  obtain ⟨y0, y1, y2, y3⟩ := rsV_get hy
  have e : atRs ats (n : Int) = y := by simp [atRs, hy]
  rw [e]
  refine ⟨?_, ?_, ?_, ?_⟩ <;> rw [ha.cell] <;> simpa
theorem LMem.stAt (h : LMem w0 w lb ab ub sb p P ats ups sts) {n : Nat} (hn : n < P.cd.length) : ∀ W, Below w.heap.size w W → W.cell? ⟨sb, n, none⟩ = some (.bool ((sts[n]?).getD false)) := by
  intro W hb
  have hs := h.s.below hb h.s.lt
  obtain ⟨y, hy⟩ : ∃ y, sts[n]? = some y := ⟨_, List.getElem?_eq_getElem (by rw [h.ls]; exact hn)⟩
  rw [hs.cell, hy]
  simp [boolsV, hy]
theorem LMem.upAt (h : LMem w0 w lb ab ub sb p P ats ups sts) {n : Nat} (hn : n < P.cd.length) : ∀ W, Below w.heap.size w W → W.cell? ⟨ub, n, none⟩ = some (.int .i64 (fAt ups (n : Int))) := by
  intro W hb
  have hs := h.u.below hb h.u.lt
  rw [hs.cell]
  exact ints_at (by rw [h.lu]; exact hn)
set_option linter.unusedVariables false in
set_option linter.unusedSimpArgs false in
set_option maxRecDepth 100000 in
set_option maxHeartbeats 4000000 in
theorem jumps_r_else (h : LMem w0 w lb ab ub sb p P ats ups sts) (hn : P.cd.length ≤ 262144) (at_ : Nat) (hat : at_ < P.cd.length) (ty : ByteArray) (lp hd : Int) (got : Bool) {op a b c d : Int} (hy : insAt P (at_ : Int) = ⟨op, a, b, c, d⟩) (h0 : op ≠ 0) (h1 : op ≠ 22) (h2 : op ≠ 23) (h3 : op ≠ 24) (h4 : op ≠ 25) (h5 : op ≠ 26) (h6 : op ≠ 27) :
    Calls Try.prog 62 #[.pointer (some ⟨lb, 0, none⟩), .int .i64 (at_ : Int), .agg #[.string ty, .int .i64 lp, .int .i64 hd, .bool got]] w fun en w' => en = .returned (.bool (true)) ∧ Below w.heap.size w w' := by
  obtain ⟨ad, had, hcd⟩ := h.ca (by omega)
  have hc := hcd at_ hat
  rw [hy] at hc
  have g5 := h.cellL.2.1
  have g6 := h.cellL.2.2.1
  have g8 := h.cellL.2.2.2.2
  rw [had] at g5
  have hal1 : Below w.heap.size w (w.alloc (.cells #[.string ty, .int .i64 lp, .int .i64 hd, .bool got] 79)) := (Below.refl _ w).alloc (Nat.le_refl _) _
  have hal2 : Below w.heap.size w ((w.alloc (.cells #[.string ty, .int .i64 lp, .int .i64 hd, .bool got] 79)).alloc (.cells #[.int .i64 op, .int .i64 a, .int .i64 b, .int .i64 c, .int .i64 d] 46)) := hal1.alloc (by simp) _
  obtain ⟨c0, c1, c2, c3, c4⟩ := hc _ hal1
  have k5 := (hal1.cell (p := ⟨lb, 5, none⟩) h.l.lt).trans g5
  have l5 := (hal2.cell (p := ⟨lb, 5, none⟩) h.l.lt).trans g5
  have l6 := (hal2.cell (p := ⟨lb, 6, none⟩) h.l.lt).trans g6
  have l8 := (hal2.cell (p := ⟨lb, 8, none⟩) h.l.lt).trans g8
  have HL := hide ((h.alloc (.cells #[.string ty, .int .i64 lp, .int .i64 hd, .bool got] 79)).alloc (.cells #[.int .i64 op, .int .i64 a, .int .i64 b, .int .i64 c, .int .i64 d] 46))
  have HB := hide hal2
  have hatI : (at_ : Int) < (P.cd.length : Int) := by omega
  clear h hcd hc hy had hal1 hal2 g5 g6 g8 HL
  go_enter Try.func62, Try.ntmps62
  go_wp2
  all_goals try (go_quiet (fail); go_wp2)
  all_goals
    go_ret
    exact ⟨rfl, by first | exact HB.out | exact below_drewN HB.out _ | exact below_drewN (below_drewN HB.out _) _⟩
set_option linter.unusedVariables false in
set_option linter.unusedSimpArgs false in
set_option maxRecDepth 100000 in
set_option maxHeartbeats 4000000 in
theorem jumps_r_0 (h : LMem w0 w lb ab ub sb p P ats ups sts) (hn : P.cd.length ≤ 262144) (at_ : Nat) (hat : at_ < P.cd.length) (ty : ByteArray) (lp hd : Int) (got : Bool) {a b c d : Int} (hy : insAt P (at_ : Int) = ⟨0, a, b, c, d⟩) :
    Calls Try.prog 62 #[.pointer (some ⟨lb, 0, none⟩), .int .i64 (at_ : Int), .agg #[.string ty, .int .i64 lp, .int .i64 hd, .bool got]] w fun en w' => en = .returned (.bool (decide (lp < 0))) ∧ Below w.heap.size w w' := by
  obtain ⟨ad, had, hcd⟩ := h.ca (by omega)
  have hc := hcd at_ hat
  rw [hy] at hc
  have g5 := h.cellL.2.1
  have g6 := h.cellL.2.2.1
  have g8 := h.cellL.2.2.2.2
  rw [had] at g5
  have hal1 : Below w.heap.size w (w.alloc (.cells #[.string ty, .int .i64 lp, .int .i64 hd, .bool got] 79)) := (Below.refl _ w).alloc (Nat.le_refl _) _
  have hal2 : Below w.heap.size w ((w.alloc (.cells #[.string ty, .int .i64 lp, .int .i64 hd, .bool got] 79)).alloc (.cells #[.int .i64 0, .int .i64 a, .int .i64 b, .int .i64 c, .int .i64 d] 46)) := hal1.alloc (by simp) _
  obtain ⟨c0, c1, c2, c3, c4⟩ := hc _ hal1
  have k5 := (hal1.cell (p := ⟨lb, 5, none⟩) h.l.lt).trans g5
  have l5 := (hal2.cell (p := ⟨lb, 5, none⟩) h.l.lt).trans g5
  have l6 := (hal2.cell (p := ⟨lb, 6, none⟩) h.l.lt).trans g6
  have l8 := (hal2.cell (p := ⟨lb, 8, none⟩) h.l.lt).trans g8
  have HL := hide ((h.alloc (.cells #[.string ty, .int .i64 lp, .int .i64 hd, .bool got] 79)).alloc (.cells #[.int .i64 0, .int .i64 a, .int .i64 b, .int .i64 c, .int .i64 d] 46))
  have HB := hide hal2
  have hatI : (at_ : Int) < (P.cd.length : Int) := by omega
  clear h hcd hc hy had hal1 hal2 g5 g6 g8 HL
  by_cases hl : lp < 0
  · skip
    have HR : Hid (decide (lp < 0) = true) := hide (by simpa using hl)
    go_enter Try.func62, Try.ntmps62
    go_wp2
    all_goals try (go_quiet (fail); go_wp2)
    all_goals
      go_ret
      exact ⟨by first | rfl | (rw [HR.out]; rfl) | (rw [HR.out]), by first | exact HB.out | exact below_drewN HB.out _ | exact below_drewN (below_drewN HB.out _) _⟩
  · skip
    have HR : Hid (decide (lp < 0) = false) := hide (by simpa using hl)
    go_enter Try.func62, Try.ntmps62
    go_wp2
    all_goals try (go_quiet (fail); go_wp2)
    all_goals
      go_ret
      exact ⟨by first | rfl | (rw [HR.out]; rfl) | (rw [HR.out]), by first | exact HB.out | exact below_drewN HB.out _ | exact below_drewN (below_drewN HB.out _) _⟩
set_option linter.unusedVariables false in
set_option linter.unusedSimpArgs false in
set_option maxRecDepth 100000 in
set_option maxHeartbeats 4000000 in
theorem jumps_r_bad22 (h : LMem w0 w lb ab ub sb p P ats ups sts) (hn : P.cd.length ≤ 262144) (at_ : Nat) (hat : at_ < P.cd.length) (ty : ByteArray) (lp hd : Int) (got : Bool) {a b c d : Int} (hy : insAt P (at_ : Int) = ⟨22, a, b, c, d⟩) (hp : pIn P a) (hj : jbadR P at_ ⟨22, a, b, c, d⟩ = true) :
    Calls Try.prog 62 #[.pointer (some ⟨lb, 0, none⟩), .int .i64 (at_ : Int), .agg #[.string ty, .int .i64 lp, .int .i64 hd, .bool got]] w fun en w' => en = .returned (.bool (false)) ∧ Below w.heap.size w w' := by
  obtain ⟨ad, had, hcd⟩ := h.ca (by omega)
  have hc := hcd at_ hat
  rw [hy] at hc
  have g5 := h.cellL.2.1
  have g6 := h.cellL.2.2.1
  have g8 := h.cellL.2.2.2.2
  rw [had] at g5
  have hal1 : Below w.heap.size w (w.alloc (.cells #[.string ty, .int .i64 lp, .int .i64 hd, .bool got] 79)) := (Below.refl _ w).alloc (Nat.le_refl _) _
  have hal2 : Below w.heap.size w ((w.alloc (.cells #[.string ty, .int .i64 lp, .int .i64 hd, .bool got] 79)).alloc (.cells #[.int .i64 22, .int .i64 a, .int .i64 b, .int .i64 c, .int .i64 d] 46)) := hal1.alloc (by simp) _
  obtain ⟨c0, c1, c2, c3, c4⟩ := hc _ hal1
  have k5 := (hal1.cell (p := ⟨lb, 5, none⟩) h.l.lt).trans g5
  have l5 := (hal2.cell (p := ⟨lb, 5, none⟩) h.l.lt).trans g5
  have l6 := (hal2.cell (p := ⟨lb, 6, none⟩) h.l.lt).trans g6
  have l8 := (hal2.cell (p := ⟨lb, 8, none⟩) h.l.lt).trans g8
  have HL := hide ((h.alloc (.cells #[.string ty, .int .i64 lp, .int .i64 hd, .bool got] 79)).alloc (.cells #[.int .i64 22, .int .i64 a, .int .i64 b, .int .i64 c, .int .i64 d] 46))
  have HB := hide hal2
  have hatI : (at_ : Int) < (P.cd.length : Int) := by omega
  obtain ⟨j0, j1⟩ := hp
  obtain ⟨na, rfl⟩ := Int.eq_ofNat_of_zero_le j0
  have HTN := hide (turn_r HL.out hn (na : Int))
  by_cases k1 : na ≤ at_
  · clear h hcd hc hy had hal1 hal2 g5 g6 g8 HL hj
    go_enter Try.func62, Try.ntmps62
    go_wp2
    all_goals try (go_quiet (fail); go_wp2)
    all_goals
      go_ret
      exact ⟨rfl, by first | exact HB.out | exact below_drewN HB.out _ | exact below_drewN (below_drewN HB.out _) _⟩
  · have ht : turnR P (na : Int) = true := by
      unfold jbadR at hj
      simp only [Bool.or_eq_true, decide_eq_true_eq] at hj
      rcases hj with h3 | h3
      · exact absurd h3 (by omega)
      · exact h3
    rw [ht] at HTN
    clear h hcd hc hy had hal1 hal2 g5 g6 g8 HL hj ht
    go_enter Try.func62, Try.ntmps62
    go_wp2_with (go_at_call 79
                 with_reducible refine (HTN.out).mono ?_
                 rintro en w1 ⟨rfl, nq, rfl⟩)
    all_goals try (go_quiet (fail); go_wp2)
    all_goals
      go_ret
      exact ⟨rfl, by first | exact HB.out | exact below_drewN HB.out _ | exact below_drewN (below_drewN HB.out _) _⟩
set_option linter.unusedVariables false in
set_option linter.unusedSimpArgs false in
set_option maxRecDepth 100000 in
set_option maxHeartbeats 4000000 in
theorem jumps_r_bad23 (h : LMem w0 w lb ab ub sb p P ats ups sts) (hn : P.cd.length ≤ 262144) (at_ : Nat) (hat : at_ < P.cd.length) (ty : ByteArray) (lp hd : Int) (got : Bool) {a b c d : Int} (hy : insAt P (at_ : Int) = ⟨23, a, b, c, d⟩) (hp : pIn P a) (hj : jbadR P at_ ⟨23, a, b, c, d⟩ = true) :
    Calls Try.prog 62 #[.pointer (some ⟨lb, 0, none⟩), .int .i64 (at_ : Int), .agg #[.string ty, .int .i64 lp, .int .i64 hd, .bool got]] w fun en w' => en = .returned (.bool (false)) ∧ Below w.heap.size w w' := by
  obtain ⟨ad, had, hcd⟩ := h.ca (by omega)
  have hc := hcd at_ hat
  rw [hy] at hc
  have g5 := h.cellL.2.1
  have g6 := h.cellL.2.2.1
  have g8 := h.cellL.2.2.2.2
  rw [had] at g5
  have hal1 : Below w.heap.size w (w.alloc (.cells #[.string ty, .int .i64 lp, .int .i64 hd, .bool got] 79)) := (Below.refl _ w).alloc (Nat.le_refl _) _
  have hal2 : Below w.heap.size w ((w.alloc (.cells #[.string ty, .int .i64 lp, .int .i64 hd, .bool got] 79)).alloc (.cells #[.int .i64 23, .int .i64 a, .int .i64 b, .int .i64 c, .int .i64 d] 46)) := hal1.alloc (by simp) _
  obtain ⟨c0, c1, c2, c3, c4⟩ := hc _ hal1
  have k5 := (hal1.cell (p := ⟨lb, 5, none⟩) h.l.lt).trans g5
  have l5 := (hal2.cell (p := ⟨lb, 5, none⟩) h.l.lt).trans g5
  have l6 := (hal2.cell (p := ⟨lb, 6, none⟩) h.l.lt).trans g6
  have l8 := (hal2.cell (p := ⟨lb, 8, none⟩) h.l.lt).trans g8
  have HL := hide ((h.alloc (.cells #[.string ty, .int .i64 lp, .int .i64 hd, .bool got] 79)).alloc (.cells #[.int .i64 23, .int .i64 a, .int .i64 b, .int .i64 c, .int .i64 d] 46))
  have HB := hide hal2
  have hatI : (at_ : Int) < (P.cd.length : Int) := by omega
  obtain ⟨j0, j1⟩ := hp
  obtain ⟨na, rfl⟩ := Int.eq_ofNat_of_zero_le j0
  have HTN := hide (turn_r HL.out hn (na : Int))
  by_cases k1 : na ≤ at_
  · clear h hcd hc hy had hal1 hal2 g5 g6 g8 HL hj
    go_enter Try.func62, Try.ntmps62
    go_wp2
    all_goals try (go_quiet (fail); go_wp2)
    all_goals
      go_ret
      exact ⟨rfl, by first | exact HB.out | exact below_drewN HB.out _ | exact below_drewN (below_drewN HB.out _) _⟩
  · have ht : turnR P (na : Int) = true := by
      unfold jbadR at hj
      simp only [Bool.or_eq_true, decide_eq_true_eq] at hj
      rcases hj with h3 | h3
      · exact absurd h3 (by omega)
      · exact h3
    rw [ht] at HTN
    clear h hcd hc hy had hal1 hal2 g5 g6 g8 HL hj ht
    go_enter Try.func62, Try.ntmps62
    go_wp2_with (go_at_call 79
                 with_reducible refine (HTN.out).mono ?_
                 rintro en w1 ⟨rfl, nq, rfl⟩)
    all_goals try (go_quiet (fail); go_wp2)
    all_goals
      go_ret
      exact ⟨rfl, by first | exact HB.out | exact below_drewN HB.out _ | exact below_drewN (below_drewN HB.out _) _⟩
set_option linter.unusedVariables false in
set_option linter.unusedSimpArgs false in
set_option maxRecDepth 100000 in
set_option maxHeartbeats 4000000 in
theorem jumps_r_bad25 (h : LMem w0 w lb ab ub sb p P ats ups sts) (hn : P.cd.length ≤ 262144) (at_ : Nat) (hat : at_ < P.cd.length) (ty : ByteArray) (lp hd : Int) (got : Bool) {a b c d : Int} (hy : insAt P (at_ : Int) = ⟨25, a, b, c, d⟩) (hp : pIn P a) (hj : jbadR P at_ ⟨25, a, b, c, d⟩ = true) :
    Calls Try.prog 62 #[.pointer (some ⟨lb, 0, none⟩), .int .i64 (at_ : Int), .agg #[.string ty, .int .i64 lp, .int .i64 hd, .bool got]] w fun en w' => en = .returned (.bool (false)) ∧ Below w.heap.size w w' := by
  obtain ⟨ad, had, hcd⟩ := h.ca (by omega)
  have hc := hcd at_ hat
  rw [hy] at hc
  have g5 := h.cellL.2.1
  have g6 := h.cellL.2.2.1
  have g8 := h.cellL.2.2.2.2
  rw [had] at g5
  have hal1 : Below w.heap.size w (w.alloc (.cells #[.string ty, .int .i64 lp, .int .i64 hd, .bool got] 79)) := (Below.refl _ w).alloc (Nat.le_refl _) _
  have hal2 : Below w.heap.size w ((w.alloc (.cells #[.string ty, .int .i64 lp, .int .i64 hd, .bool got] 79)).alloc (.cells #[.int .i64 25, .int .i64 a, .int .i64 b, .int .i64 c, .int .i64 d] 46)) := hal1.alloc (by simp) _
  obtain ⟨c0, c1, c2, c3, c4⟩ := hc _ hal1
  have k5 := (hal1.cell (p := ⟨lb, 5, none⟩) h.l.lt).trans g5
  have l5 := (hal2.cell (p := ⟨lb, 5, none⟩) h.l.lt).trans g5
  have l6 := (hal2.cell (p := ⟨lb, 6, none⟩) h.l.lt).trans g6
  have l8 := (hal2.cell (p := ⟨lb, 8, none⟩) h.l.lt).trans g8
  have HL := hide ((h.alloc (.cells #[.string ty, .int .i64 lp, .int .i64 hd, .bool got] 79)).alloc (.cells #[.int .i64 25, .int .i64 a, .int .i64 b, .int .i64 c, .int .i64 d] 46))
  have HB := hide hal2
  have hatI : (at_ : Int) < (P.cd.length : Int) := by omega
  obtain ⟨j0, j1⟩ := hp
  obtain ⟨na, rfl⟩ := Int.eq_ofNat_of_zero_le j0
  have HTN := hide (turn_r HL.out hn (na : Int))
  by_cases k1 : na ≤ at_
  · clear h hcd hc hy had hal1 hal2 g5 g6 g8 HL hj
    go_enter Try.func62, Try.ntmps62
    go_wp2
    all_goals try (go_quiet (fail); go_wp2)
    all_goals
      go_ret
      exact ⟨rfl, by first | exact HB.out | exact below_drewN HB.out _ | exact below_drewN (below_drewN HB.out _) _⟩
  · have ht : turnR P (na : Int) = true := by
      unfold jbadR at hj
      simp only [Bool.or_eq_true, decide_eq_true_eq] at hj
      rcases hj with h3 | h3
      · exact absurd h3 (by omega)
      · exact h3
    rw [ht] at HTN
    clear h hcd hc hy had hal1 hal2 g5 g6 g8 HL hj ht
    go_enter Try.func62, Try.ntmps62
    go_wp2_with (go_at_call 79
                 with_reducible refine (HTN.out).mono ?_
                 rintro en w1 ⟨rfl, nq, rfl⟩)
    all_goals try (go_quiet (fail); go_wp2)
    all_goals
      go_ret
      exact ⟨rfl, by first | exact HB.out | exact below_drewN HB.out _ | exact below_drewN (below_drewN HB.out _) _⟩
set_option linter.unusedVariables false in
set_option linter.unusedSimpArgs false in
set_option maxRecDepth 100000 in
set_option maxHeartbeats 4000000 in
theorem jumps_r_bad26 (h : LMem w0 w lb ab ub sb p P ats ups sts) (hn : P.cd.length ≤ 262144) (at_ : Nat) (hat : at_ < P.cd.length) (ty : ByteArray) (lp hd : Int) (got : Bool) {a b c d : Int} (hy : insAt P (at_ : Int) = ⟨26, a, b, c, d⟩) (hp : pIn P a) (hj : jbadR P at_ ⟨26, a, b, c, d⟩ = true) :
    Calls Try.prog 62 #[.pointer (some ⟨lb, 0, none⟩), .int .i64 (at_ : Int), .agg #[.string ty, .int .i64 lp, .int .i64 hd, .bool got]] w fun en w' => en = .returned (.bool (false)) ∧ Below w.heap.size w w' := by
  obtain ⟨ad, had, hcd⟩ := h.ca (by omega)
  have hc := hcd at_ hat
  rw [hy] at hc
  have g5 := h.cellL.2.1
  have g6 := h.cellL.2.2.1
  have g8 := h.cellL.2.2.2.2
  rw [had] at g5
  have hal1 : Below w.heap.size w (w.alloc (.cells #[.string ty, .int .i64 lp, .int .i64 hd, .bool got] 79)) := (Below.refl _ w).alloc (Nat.le_refl _) _
  have hal2 : Below w.heap.size w ((w.alloc (.cells #[.string ty, .int .i64 lp, .int .i64 hd, .bool got] 79)).alloc (.cells #[.int .i64 26, .int .i64 a, .int .i64 b, .int .i64 c, .int .i64 d] 46)) := hal1.alloc (by simp) _
  obtain ⟨c0, c1, c2, c3, c4⟩ := hc _ hal1
  have k5 := (hal1.cell (p := ⟨lb, 5, none⟩) h.l.lt).trans g5
  have l5 := (hal2.cell (p := ⟨lb, 5, none⟩) h.l.lt).trans g5
  have l6 := (hal2.cell (p := ⟨lb, 6, none⟩) h.l.lt).trans g6
  have l8 := (hal2.cell (p := ⟨lb, 8, none⟩) h.l.lt).trans g8
  have HL := hide ((h.alloc (.cells #[.string ty, .int .i64 lp, .int .i64 hd, .bool got] 79)).alloc (.cells #[.int .i64 26, .int .i64 a, .int .i64 b, .int .i64 c, .int .i64 d] 46))
  have HB := hide hal2
  have hatI : (at_ : Int) < (P.cd.length : Int) := by omega
  obtain ⟨j0, j1⟩ := hp
  obtain ⟨na, rfl⟩ := Int.eq_ofNat_of_zero_le j0
  have HTN := hide (turn_r HL.out hn (na : Int))
  by_cases k1 : na ≤ at_
  · clear h hcd hc hy had hal1 hal2 g5 g6 g8 HL hj
    go_enter Try.func62, Try.ntmps62
    go_wp2
    all_goals try (go_quiet (fail); go_wp2)
    all_goals
      go_ret
      exact ⟨rfl, by first | exact HB.out | exact below_drewN HB.out _ | exact below_drewN (below_drewN HB.out _) _⟩
  · have ht : turnR P (na : Int) = true := by
      unfold jbadR at hj
      simp only [Bool.or_eq_true, decide_eq_true_eq] at hj
      rcases hj with h3 | h3
      · exact absurd h3 (by omega)
      · exact h3
    rw [ht] at HTN
    clear h hcd hc hy had hal1 hal2 g5 g6 g8 HL hj ht
    go_enter Try.func62, Try.ntmps62
    go_wp2_with (go_at_call 79
                 with_reducible refine (HTN.out).mono ?_
                 rintro en w1 ⟨rfl, nq, rfl⟩)
    all_goals try (go_quiet (fail); go_wp2)
    all_goals
      go_ret
      exact ⟨rfl, by first | exact HB.out | exact below_drewN HB.out _ | exact below_drewN (below_drewN HB.out _) _⟩
set_option linter.unusedVariables false in
set_option linter.unusedSimpArgs false in
set_option maxRecDepth 100000 in
set_option maxHeartbeats 4000000 in
theorem jumps_r_22 (h : LMem w0 w lb ab ub sb p P ats ups sts) (hn : P.cd.length ≤ 262144) (at_ : Nat) (hat : at_ < P.cd.length) (ty : ByteArray) (lp hd : Int) (got : Bool) {a b c d : Int} (hy : insAt P (at_ : Int) = ⟨22, a, b, c, d⟩) (hp : pIn P a) (hj : jbadR P at_ ⟨22, a, b, c, d⟩ = false) :
    Calls Try.prog 62 #[.pointer (some ⟨lb, 0, none⟩), .int .i64 (at_ : Int), .agg #[.string ty, .int .i64 lp, .int .i64 hd, .bool got]] w fun en w' => en = .returned (.bool (true)) ∧ Below w.heap.size w w' := by
  obtain ⟨ad, had, hcd⟩ := h.ca (by omega)
  have hc := hcd at_ hat
  rw [hy] at hc
  have g5 := h.cellL.2.1
  have g6 := h.cellL.2.2.1
  have g8 := h.cellL.2.2.2.2
  rw [had] at g5
  have hal1 : Below w.heap.size w (w.alloc (.cells #[.string ty, .int .i64 lp, .int .i64 hd, .bool got] 79)) := (Below.refl _ w).alloc (Nat.le_refl _) _
  have hal2 : Below w.heap.size w ((w.alloc (.cells #[.string ty, .int .i64 lp, .int .i64 hd, .bool got] 79)).alloc (.cells #[.int .i64 22, .int .i64 a, .int .i64 b, .int .i64 c, .int .i64 d] 46)) := hal1.alloc (by simp) _
  obtain ⟨c0, c1, c2, c3, c4⟩ := hc _ hal1
  have k5 := (hal1.cell (p := ⟨lb, 5, none⟩) h.l.lt).trans g5
  have l5 := (hal2.cell (p := ⟨lb, 5, none⟩) h.l.lt).trans g5
  have l6 := (hal2.cell (p := ⟨lb, 6, none⟩) h.l.lt).trans g6
  have l8 := (hal2.cell (p := ⟨lb, 8, none⟩) h.l.lt).trans g8
  have HL := hide ((h.alloc (.cells #[.string ty, .int .i64 lp, .int .i64 hd, .bool got] 79)).alloc (.cells #[.int .i64 22, .int .i64 a, .int .i64 b, .int .i64 c, .int .i64 d] 46))
  have HB := hide hal2
  have hatI : (at_ : Int) < (P.cd.length : Int) := by omega
  obtain ⟨j0, j1⟩ := hp
  obtain ⟨na, rfl⟩ := Int.eq_ofNat_of_zero_le j0
  have HTN := hide (turn_r HL.out hn (na : Int))
  unfold jbadR at hj
  simp only [Bool.or_eq_false_iff, decide_eq_false_iff_not] at hj
  obtain ⟨k1, k2⟩ := hj
  rw [k2] at HTN
  clear k2
  clear h hcd hc hy had hal1 hal2 g5 g6 g8 HL
  go_enter Try.func62, Try.ntmps62
  go_wp2_with (go_at_call 79
               with_reducible refine (HTN.out).mono ?_
               rintro en w1 ⟨rfl, nq, rfl⟩)
  all_goals try (go_quiet (fail); go_wp2)
  all_goals
    go_ret
    exact ⟨rfl, by first | exact HB.out | exact below_drewN HB.out _ | exact below_drewN (below_drewN HB.out _) _⟩
set_option linter.unusedVariables false in
set_option linter.unusedSimpArgs false in
set_option maxRecDepth 100000 in
set_option maxHeartbeats 4000000 in
theorem jumps_r_23 (h : LMem w0 w lb ab ub sb p P ats ups sts) (hn : P.cd.length ≤ 262144) (at_ : Nat) (hat : at_ < P.cd.length) (ty : ByteArray) (lp hd : Int) (got : Bool) {a b c d : Int} (hy : insAt P (at_ : Int) = ⟨23, a, b, c, d⟩) (hp : pIn P a) (hj : jbadR P at_ ⟨23, a, b, c, d⟩ = false) :
    Calls Try.prog 62 #[.pointer (some ⟨lb, 0, none⟩), .int .i64 (at_ : Int), .agg #[.string ty, .int .i64 lp, .int .i64 hd, .bool got]] w fun en w' => en = .returned (.bool (true)) ∧ Below w.heap.size w w' := by
  obtain ⟨ad, had, hcd⟩ := h.ca (by omega)
  have hc := hcd at_ hat
  rw [hy] at hc
  have g5 := h.cellL.2.1
  have g6 := h.cellL.2.2.1
  have g8 := h.cellL.2.2.2.2
  rw [had] at g5
  have hal1 : Below w.heap.size w (w.alloc (.cells #[.string ty, .int .i64 lp, .int .i64 hd, .bool got] 79)) := (Below.refl _ w).alloc (Nat.le_refl _) _
  have hal2 : Below w.heap.size w ((w.alloc (.cells #[.string ty, .int .i64 lp, .int .i64 hd, .bool got] 79)).alloc (.cells #[.int .i64 23, .int .i64 a, .int .i64 b, .int .i64 c, .int .i64 d] 46)) := hal1.alloc (by simp) _
  obtain ⟨c0, c1, c2, c3, c4⟩ := hc _ hal1
  have k5 := (hal1.cell (p := ⟨lb, 5, none⟩) h.l.lt).trans g5
  have l5 := (hal2.cell (p := ⟨lb, 5, none⟩) h.l.lt).trans g5
  have l6 := (hal2.cell (p := ⟨lb, 6, none⟩) h.l.lt).trans g6
  have l8 := (hal2.cell (p := ⟨lb, 8, none⟩) h.l.lt).trans g8
  have HL := hide ((h.alloc (.cells #[.string ty, .int .i64 lp, .int .i64 hd, .bool got] 79)).alloc (.cells #[.int .i64 23, .int .i64 a, .int .i64 b, .int .i64 c, .int .i64 d] 46))
  have HB := hide hal2
  have hatI : (at_ : Int) < (P.cd.length : Int) := by omega
  obtain ⟨j0, j1⟩ := hp
  obtain ⟨na, rfl⟩ := Int.eq_ofNat_of_zero_le j0
  have HTN := hide (turn_r HL.out hn (na : Int))
  unfold jbadR at hj
  simp only [Bool.or_eq_false_iff, decide_eq_false_iff_not] at hj
  obtain ⟨k1, k2⟩ := hj
  rw [k2] at HTN
  clear k2
  clear h hcd hc hy had hal1 hal2 g5 g6 g8 HL
  go_enter Try.func62, Try.ntmps62
  go_wp2_with (go_at_call 79
               with_reducible refine (HTN.out).mono ?_
               rintro en w1 ⟨rfl, nq, rfl⟩)
  all_goals try (go_quiet (fail); go_wp2)
  all_goals
    go_ret
    exact ⟨rfl, by first | exact HB.out | exact below_drewN HB.out _ | exact below_drewN (below_drewN HB.out _) _⟩
set_option linter.unusedVariables false in
set_option linter.unusedSimpArgs false in
set_option maxRecDepth 100000 in
set_option maxHeartbeats 4000000 in
theorem jumps_r_24 (h : LMem w0 w lb ab ub sb p P ats ups sts) (hn : P.cd.length ≤ 262144) (at_ : Nat) (hat : at_ < P.cd.length) (ty : ByteArray) (lp hd : Int) (got : Bool) {a b c d : Int} (hy : insAt P (at_ : Int) = ⟨24, a, b, c, d⟩) :
    Calls Try.prog 62 #[.pointer (some ⟨lb, 0, none⟩), .int .i64 (at_ : Int), .agg #[.string ty, .int .i64 lp, .int .i64 hd, .bool got]] w fun en w' => en = .returned (.bool (turnR P ((at_ : Int) + 1))) ∧ Below w.heap.size w w' := by
  obtain ⟨ad, had, hcd⟩ := h.ca (by omega)
  have hc := hcd at_ hat
  rw [hy] at hc
  have g5 := h.cellL.2.1
  have g6 := h.cellL.2.2.1
  have g8 := h.cellL.2.2.2.2
  rw [had] at g5
  have hal1 : Below w.heap.size w (w.alloc (.cells #[.string ty, .int .i64 lp, .int .i64 hd, .bool got] 79)) := (Below.refl _ w).alloc (Nat.le_refl _) _
  have hal2 : Below w.heap.size w ((w.alloc (.cells #[.string ty, .int .i64 lp, .int .i64 hd, .bool got] 79)).alloc (.cells #[.int .i64 24, .int .i64 a, .int .i64 b, .int .i64 c, .int .i64 d] 46)) := hal1.alloc (by simp) _
  obtain ⟨c0, c1, c2, c3, c4⟩ := hc _ hal1
  have k5 := (hal1.cell (p := ⟨lb, 5, none⟩) h.l.lt).trans g5
  have l5 := (hal2.cell (p := ⟨lb, 5, none⟩) h.l.lt).trans g5
  have l6 := (hal2.cell (p := ⟨lb, 6, none⟩) h.l.lt).trans g6
  have l8 := (hal2.cell (p := ⟨lb, 8, none⟩) h.l.lt).trans g8
  have HL := hide ((h.alloc (.cells #[.string ty, .int .i64 lp, .int .i64 hd, .bool got] 79)).alloc (.cells #[.int .i64 24, .int .i64 a, .int .i64 b, .int .i64 c, .int .i64 d] 46))
  have HB := hide hal2
  have hatI : (at_ : Int) < (P.cd.length : Int) := by omega
  have u1 := IntWalk.i64_in ((at_ : Int) + 1) (by omega)
  have HTN := hide (turn_r HL.out hn ((at_ : Int) + 1))
  generalize turnR P ((at_ : Int) + 1) = tb at *
  clear h hcd hc hy had hal1 hal2 g5 g6 g8 HL
  go_enter Try.func62, Try.ntmps62
  go_wp2_with (go_at_call 79
               with_reducible refine (HTN.out).mono ?_
               rintro en w1 ⟨rfl, nq, rfl⟩)
  all_goals try (go_quiet (fail); go_wp2)
  all_goals
    go_ret
    exact ⟨rfl, by first | exact HB.out | exact below_drewN HB.out _ | exact below_drewN (below_drewN HB.out _) _⟩
set_option linter.unusedVariables false in
set_option linter.unusedSimpArgs false in
set_option maxRecDepth 100000 in
set_option maxHeartbeats 4000000 in
theorem jumps_r_25 (h : LMem w0 w lb ab ub sb p P ats ups sts) (hn : P.cd.length ≤ 262144) (at_ : Nat) (hat : at_ < P.cd.length) (ty : ByteArray) (lp hd : Int) (got : Bool) {a b c d : Int} (hy : insAt P (at_ : Int) = ⟨25, a, b, c, d⟩) (hp : pIn P a) (hj : jbadR P at_ ⟨25, a, b, c, d⟩ = false) :
    Calls Try.prog 62 #[.pointer (some ⟨lb, 0, none⟩), .int .i64 (at_ : Int), .agg #[.string ty, .int .i64 lp, .int .i64 hd, .bool got]] w fun en w' => en = .returned (.bool (decide (0 < at_) && (insAt P ((at_ : Int) - 1)).op == 24 && !((sts[at_]?).getD false))) ∧ Below w.heap.size w w' := by
  obtain ⟨ad, had, hcd⟩ := h.ca (by omega)
  have hc := hcd at_ hat
  rw [hy] at hc
  have g5 := h.cellL.2.1
  have g6 := h.cellL.2.2.1
  have g8 := h.cellL.2.2.2.2
  rw [had] at g5
  have hal1 : Below w.heap.size w (w.alloc (.cells #[.string ty, .int .i64 lp, .int .i64 hd, .bool got] 79)) := (Below.refl _ w).alloc (Nat.le_refl _) _
  have hal2 : Below w.heap.size w ((w.alloc (.cells #[.string ty, .int .i64 lp, .int .i64 hd, .bool got] 79)).alloc (.cells #[.int .i64 25, .int .i64 a, .int .i64 b, .int .i64 c, .int .i64 d] 46)) := hal1.alloc (by simp) _
  obtain ⟨c0, c1, c2, c3, c4⟩ := hc _ hal1
  have k5 := (hal1.cell (p := ⟨lb, 5, none⟩) h.l.lt).trans g5
  have l5 := (hal2.cell (p := ⟨lb, 5, none⟩) h.l.lt).trans g5
  have l6 := (hal2.cell (p := ⟨lb, 6, none⟩) h.l.lt).trans g6
  have l8 := (hal2.cell (p := ⟨lb, 8, none⟩) h.l.lt).trans g8
  have HL := hide ((h.alloc (.cells #[.string ty, .int .i64 lp, .int .i64 hd, .bool got] 79)).alloc (.cells #[.int .i64 25, .int .i64 a, .int .i64 b, .int .i64 c, .int .i64 d] 46))
  have HB := hide hal2
  have hatI : (at_ : Int) < (P.cd.length : Int) := by omega
  obtain ⟨j0, j1⟩ := hp
  obtain ⟨na, rfl⟩ := Int.eq_ofNat_of_zero_le j0
  have HTN := hide (turn_r HL.out hn (na : Int))
  unfold jbadR at hj
  simp only [Bool.or_eq_false_iff, decide_eq_false_iff_not] at hj
  obtain ⟨k1, k2⟩ := hj
  rw [k2] at HTN
  clear k2
  have s0 := h.stAt hat _ hal2
  have s1 : ∀ n, (World.drewN _ n).cell? ⟨sb, at_, none⟩ = _ := fun n => h.stAt hat _ (below_drewN hal2 n)
  have m5 : ∀ n, (World.drewN _ n).cell? ⟨lb, 5, none⟩ = _ := fun n => ((below_drewN hal2 n).cell (p := ⟨lb, 5, none⟩) h.l.lt).trans g5
  have m8 : ∀ n, (World.drewN _ n).cell? ⟨lb, 8, none⟩ = _ := fun n => ((below_drewN hal2 n).cell (p := ⟨lb, 8, none⟩) h.l.lt).trans g8
  generalize (sts[at_]?).getD false = sv at *
  by_cases k0 : 0 < at_
  · obtain ⟨q, rfl⟩ : ∃ q, at_ = q + 1 := ⟨at_ - 1, by omega⟩
    have eq1 : ((q + 1 : Nat) : Int) - 1 = (q : Int) := by omega
    have u1 := IntWalk.i64_in (((q + 1 : Nat) : Int) - 1) (by omega)
    rw [eq1]
    have d0 := (hcd q (by omega) _ hal2).1
    have d1 : ∀ n, (World.drewN _ n).cell? (ad.add (q * 5)) = _ := fun n => (hcd q (by omega) _ (below_drewN hal2 n)).1
    generalize (insAt P (q : Int)).op = o1 at *
    rw [eq1] at u1
    have HR : Hid ((decide (0 < q + 1) && o1 == 24 && !sv) = (o1 == 24 && !sv)) := hide (by simp)
    clear h hcd hc hy had hal1 hal2 g5 g6 g8 HL eq1
    by_cases ho : o1 = 24
    · subst ho
      cases sv
      all_goals
      go_enter Try.func62, Try.ntmps62
      go_wp2_with (go_at_call 79
                   with_reducible refine (HTN.out).mono ?_
                   rintro en w1 ⟨rfl, nq, rfl⟩)
      all_goals try (go_quiet (fail); go_wp2)
      all_goals
        go_ret
        exact ⟨by first | rfl | (rw [HR.out]; rfl) | (rw [HR.out]), by first | exact HB.out | exact below_drewN HB.out _ | exact below_drewN (below_drewN HB.out _) _⟩
    · have ho2 : (o1 == 24) = false := by simpa using ho
      have HR : Hid ((decide (0 < q + 1) && o1 == 24 && !sv) = false) := hide (by simp [ho])
      go_enter Try.func62, Try.ntmps62
      go_wp2_with (go_at_call 79
                   with_reducible refine (HTN.out).mono ?_
                   rintro en w1 ⟨rfl, nq, rfl⟩)
      all_goals try (go_quiet (fail); go_wp2)
      all_goals
        go_ret
        exact ⟨by first | rfl | (rw [HR.out]; rfl) | (rw [HR.out]), by first | exact HB.out | exact below_drewN HB.out _ | exact below_drewN (below_drewN HB.out _) _⟩
  · have HR : Hid ((decide (0 < at_) && (insAt P ((at_ : Int) - 1)).op == 24 && !sv) = false) := hide (by simp [k0])
    have k0I : ¬ (0 : Int) < (at_ : Int) := by omega
    have k0D : decide ((0 : Int) < (at_ : Int)) = false := by simpa using k0I
    have k0E : decide (0 < at_) = false := by simpa using k0
    clear h hcd hc hy had hal1 hal2 g5 g6 g8 HL k0 k0I
    go_enter Try.func62, Try.ntmps62
    go_wp2_with (go_at_call 79
                 with_reducible refine (HTN.out).mono ?_
                 rintro en w1 ⟨rfl, nq, rfl⟩)
    all_goals try (go_quiet (fail); go_wp2)
    all_goals
      go_ret
      exact ⟨by first | rfl | (rw [HR.out]; rfl) | (rw [HR.out]), by first | exact HB.out | exact below_drewN HB.out _ | exact below_drewN (below_drewN HB.out _) _⟩
set_option linter.unusedVariables false in
set_option linter.unusedSimpArgs false in
set_option maxRecDepth 100000 in
set_option maxHeartbeats 4000000 in
theorem jumps_r_26 (h : LMem w0 w lb ab ub sb p P ats ups sts) (hn : P.cd.length ≤ 262144) (at_ : Nat) (hat : at_ < P.cd.length) (ty : ByteArray) (lp hd : Int) (got : Bool) {a b c d : Int} (hy : insAt P (at_ : Int) = ⟨26, a, b, c, d⟩) (hp : pIn P a) (hj : jbadR P at_ ⟨26, a, b, c, d⟩ = false) (hlp : lp = -1 ∨ pIn P lp) :
    Calls Try.prog 62 #[.pointer (some ⟨lb, 0, none⟩), .int .i64 (at_ : Int), .agg #[.string ty, .int .i64 lp, .int .i64 hd, .bool got]] w fun en w' => en = .returned (.bool (decide (0 ≤ lp) && a == (insAt P lp).a)) ∧ Below w.heap.size w w' := by
  obtain ⟨ad, had, hcd⟩ := h.ca (by omega)
  have hc := hcd at_ hat
  rw [hy] at hc
  have g5 := h.cellL.2.1
  have g6 := h.cellL.2.2.1
  have g8 := h.cellL.2.2.2.2
  rw [had] at g5
  have hal1 : Below w.heap.size w (w.alloc (.cells #[.string ty, .int .i64 lp, .int .i64 hd, .bool got] 79)) := (Below.refl _ w).alloc (Nat.le_refl _) _
  have hal2 : Below w.heap.size w ((w.alloc (.cells #[.string ty, .int .i64 lp, .int .i64 hd, .bool got] 79)).alloc (.cells #[.int .i64 26, .int .i64 a, .int .i64 b, .int .i64 c, .int .i64 d] 46)) := hal1.alloc (by simp) _
  obtain ⟨c0, c1, c2, c3, c4⟩ := hc _ hal1
  have k5 := (hal1.cell (p := ⟨lb, 5, none⟩) h.l.lt).trans g5
  have l5 := (hal2.cell (p := ⟨lb, 5, none⟩) h.l.lt).trans g5
  have l6 := (hal2.cell (p := ⟨lb, 6, none⟩) h.l.lt).trans g6
  have l8 := (hal2.cell (p := ⟨lb, 8, none⟩) h.l.lt).trans g8
  have HL := hide ((h.alloc (.cells #[.string ty, .int .i64 lp, .int .i64 hd, .bool got] 79)).alloc (.cells #[.int .i64 26, .int .i64 a, .int .i64 b, .int .i64 c, .int .i64 d] 46))
  have HB := hide hal2
  have hatI : (at_ : Int) < (P.cd.length : Int) := by omega
  obtain ⟨j0, j1⟩ := hp
  obtain ⟨na, rfl⟩ := Int.eq_ofNat_of_zero_le j0
  have HTN := hide (turn_r HL.out hn (na : Int))
  unfold jbadR at hj
  simp only [Bool.or_eq_false_iff, decide_eq_false_iff_not] at hj
  obtain ⟨k1, k2⟩ := hj
  rw [k2] at HTN
  clear k2
  rcases hlp with rfl | hlp
  · have HR : Hid ((decide ((0 : Int) ≤ -1) && (na : Int) == (insAt P (-1)).a) = false) := hide (by simp)
    clear h hcd hc hy had hal1 hal2 g5 g6 g8 HL
    go_enter Try.func62, Try.ntmps62
    go_wp2_with (go_at_call 79
                 with_reducible refine (HTN.out).mono ?_
                 rintro en w1 ⟨rfl, nq, rfl⟩)
    all_goals try (go_quiet (fail); go_wp2)
    all_goals
      go_ret
      exact ⟨by first | rfl | (rw [HR.out]; rfl) | (rw [HR.out]), by first | exact HB.out | exact below_drewN HB.out _ | exact below_drewN (below_drewN HB.out _) _⟩
  · obtain ⟨h0, h1⟩ := hlp
    obtain ⟨nl, rfl⟩ := Int.eq_ofNat_of_zero_le h0
    simp only [Int.toNat_natCast] at h1
    have d0 := (hcd nl h1 _ hal2).2.1
    have d1 : ∀ n, (World.drewN _ n).cell? ⟨(ad.add (nl * 5)).block, (ad.add (nl * 5)).off + 1, none⟩ = _ := fun n => (hcd nl h1 _ (below_drewN hal2 n)).2.1
    have m5 : ∀ n, (World.drewN _ n).cell? ⟨lb, 5, none⟩ = _ := fun n => ((below_drewN hal2 n).cell (p := ⟨lb, 5, none⟩) h.l.lt).trans g5
    generalize (insAt P (nl : Int)).a = a1 at *
    have hnl : (nl : Int) < (P.cd.length : Int) := by omega
    have HR : Hid ((decide ((0 : Int) ≤ (nl : Int)) && (na : Int) == a1) = ((na : Int) == a1)) := hide (by simp)
    clear h hcd hc hy had hal1 hal2 g5 g6 g8 HL
    go_enter Try.func62, Try.ntmps62
    go_wp2_with (go_at_call 79
                 with_reducible refine (HTN.out).mono ?_
                 rintro en w1 ⟨rfl, nq, rfl⟩)
    all_goals try (go_quiet (fail); go_wp2)
    all_goals
      go_ret
      exact ⟨by first | rfl | (rw [HR.out]; rfl) | (rw [HR.out]), by first | exact HB.out | exact below_drewN HB.out _ | exact below_drewN (below_drewN HB.out _) _⟩
set_option linter.unusedVariables false in
set_option linter.unusedSimpArgs false in
set_option maxRecDepth 100000 in
set_option maxHeartbeats 4000000 in
theorem jumps_r_27 (h : LMem w0 w lb ab ub sb p P ats ups sts) (hn : P.cd.length ≤ 262144) (at_ : Nat) (hat : at_ < P.cd.length) (ty : ByteArray) (lp hd : Int) (got : Bool) {a b c d : Int} (hy : insAt P (at_ : Int) = ⟨27, a, b, c, d⟩) (hlp : lp = -1 ∨ pIn P lp) :
    Calls Try.prog 62 #[.pointer (some ⟨lb, 0, none⟩), .int .i64 (at_ : Int), .agg #[.string ty, .int .i64 lp, .int .i64 hd, .bool got]] w fun en w' => en = .returned (.bool (decide (0 ≤ lp) && a == lp && decide (ty = (atRs ats lp).ty))) ∧ Below w.heap.size w w' := by
  obtain ⟨ad, had, hcd⟩ := h.ca (by omega)
  have hc := hcd at_ hat
  rw [hy] at hc
  have g5 := h.cellL.2.1
  have g6 := h.cellL.2.2.1
  have g8 := h.cellL.2.2.2.2
  rw [had] at g5
  have hal1 : Below w.heap.size w (w.alloc (.cells #[.string ty, .int .i64 lp, .int .i64 hd, .bool got] 79)) := (Below.refl _ w).alloc (Nat.le_refl _) _
  have hal2 : Below w.heap.size w ((w.alloc (.cells #[.string ty, .int .i64 lp, .int .i64 hd, .bool got] 79)).alloc (.cells #[.int .i64 27, .int .i64 a, .int .i64 b, .int .i64 c, .int .i64 d] 46)) := hal1.alloc (by simp) _
  obtain ⟨c0, c1, c2, c3, c4⟩ := hc _ hal1
  have k5 := (hal1.cell (p := ⟨lb, 5, none⟩) h.l.lt).trans g5
  have l5 := (hal2.cell (p := ⟨lb, 5, none⟩) h.l.lt).trans g5
  have l6 := (hal2.cell (p := ⟨lb, 6, none⟩) h.l.lt).trans g6
  have l8 := (hal2.cell (p := ⟨lb, 8, none⟩) h.l.lt).trans g8
  have HL := hide ((h.alloc (.cells #[.string ty, .int .i64 lp, .int .i64 hd, .bool got] 79)).alloc (.cells #[.int .i64 27, .int .i64 a, .int .i64 b, .int .i64 c, .int .i64 d] 46))
  have HB := hide hal2
  have hatI : (at_ : Int) < (P.cd.length : Int) := by omega
  rcases hlp with rfl | hlp
  · have HR : Hid ((decide ((0 : Int) ≤ -1) && a == -1 && decide (ty = (atRs ats (-1)).ty)) = false) := hide (by simp)
    clear h hcd hc hy had hal1 hal2 g5 g6 g8 HL
    go_enter Try.func62, Try.ntmps62
    go_wp2
    all_goals try (go_quiet (fail); go_wp2)
    all_goals
      go_ret
      exact ⟨by first | rfl | (rw [HR.out]; rfl) | (rw [HR.out]), by first | exact HB.out | exact below_drewN HB.out _ | exact below_drewN (below_drewN HB.out _) _⟩
  · obtain ⟨h0, h1⟩ := hlp
    obtain ⟨nl, rfl⟩ := Int.eq_ofNat_of_zero_le h0
    simp only [Int.toNat_natCast] at h1
    have d0 := (h.rsAt h1 _ hal2).1
    generalize (atRs ats (nl : Int)).ty = ty1 at *
    have hnl : (nl : Int) < (P.cd.length : Int) := by omega
    clear h hcd hc hy had hal1 hal2 g5 g6 g8 HL
    by_cases ha : a = (nl : Int)
    · subst ha
      by_cases ht : ty = ty1
      · subst ht
        have HR : Hid ((decide ((0 : Int) ≤ (nl : Int)) && (nl : Int) == (nl : Int) && decide (ty = ty)) = true) := hide (by simp)
        go_enter Try.func62, Try.ntmps62
        go_wp2
        all_goals try (go_quiet (fail); go_wp2)
        all_goals
          go_ret
          exact ⟨by first | rfl | (rw [HR.out]; rfl) | (rw [HR.out]), by first | exact HB.out | exact below_drewN HB.out _ | exact below_drewN (below_drewN HB.out _) _⟩
      · have HR : Hid ((decide ((0 : Int) ≤ (nl : Int)) && (nl : Int) == (nl : Int) && decide (ty = ty1)) = false) := hide (by simp [ht])
        have hb := bytes_ne ht
        go_enter Try.func62, Try.ntmps62
        go_wp2
        all_goals try (go_quiet (fail); go_wp2)
        all_goals
          go_ret
          exact ⟨by first | rfl | (rw [HR.out]; rfl) | (rw [HR.out]), by first | exact HB.out | exact below_drewN HB.out _ | exact below_drewN (below_drewN HB.out _) _⟩
    · have HR : Hid ((decide ((0 : Int) ≤ (nl : Int)) && a == (nl : Int) && decide (ty = ty1)) = false) := hide (by simp [ha])
      have hb : (a == (nl : Int)) = false := by simpa using ha
      go_enter Try.func62, Try.ntmps62
      go_wp2
      all_goals try (go_quiet (fail); go_wp2)
      all_goals
        go_ret
        exact ⟨by first | rfl | (rw [HR.out]; rfl) | (rw [HR.out]), by first | exact HB.out | exact below_drewN HB.out _ | exact below_drewN (below_drewN HB.out _) _⟩
theorem jumps_r (h : LMem w0 w lb ab ub sb p P ats ups sts) (hn : P.cd.length ≤ 262144) (at_ : Nat) (hat : at_ < P.cd.length) (ty : ByteArray) (lp hd : Int) (got : Bool) (hx : Chk P (insAt P (at_ : Int))) (hlp : lp = -1 ∨ pIn P lp) :
    Calls Try.prog 62 #[.pointer (some ⟨lb, 0, none⟩), .int .i64 (at_ : Int), .agg #[.string ty, .int .i64 lp, .int .i64 hd, .bool got]] w fun en w' => en = .returned (.bool (jumpsR P at_ (insAt P (at_ : Int)) ty lp ats sts)) ∧ Below w.heap.size w w' := by
  obtain ⟨⟨op, a, b, c, d⟩, hy⟩ : ∃ y, insAt P (at_ : Int) = y := ⟨_, rfl⟩
  rw [hy] at hx ⊢
  have hp := hx.pj
  simp only at hp
  unfold jumpsR
  simp only
  cases hj : jbadR P at_ ⟨op, a, b, c, d⟩
  all_goals
    by_cases o22 : op = 22
    · subst o22
      simp only [true_or, if_true, Bool.not_true, Bool.not_false]
      first | exact jumps_r_22 h hn at_ hat ty lp hd got hy (hp (by omega)) hj | exact jumps_r_bad22 h hn at_ hat ty lp hd got hy (hp (by omega)) hj
    by_cases o23 : op = 23
    · subst o23
      simp only [or_true, if_true, Bool.not_true, Bool.not_false]
      first | exact jumps_r_23 h hn at_ hat ty lp hd got hy (hp (by omega)) hj | exact jumps_r_bad23 h hn at_ hat ty lp hd got hy (hp (by omega)) hj
    rw [if_neg (by omega)]
    by_cases o24 : op = 24
    · subst o24
      rw [if_pos rfl]
      exact jumps_r_24 h hn at_ hat ty lp hd got hy
    rw [if_neg o24]
    by_cases o25 : op = 25
    · subst o25
      rw [if_pos rfl]
      simp only [Bool.not_true, Bool.not_false, Bool.true_and, Bool.false_and]
      first | exact jumps_r_25 h hn at_ hat ty lp hd got hy (hp (by omega)) hj | exact jumps_r_bad25 h hn at_ hat ty lp hd got hy (hp (by omega)) hj
    rw [if_neg o25]
    by_cases o26 : op = 26
    · subst o26
      rw [if_pos rfl]
      simp only [Bool.not_true, Bool.not_false, Bool.true_and, Bool.false_and]
      first | exact jumps_r_26 h hn at_ hat ty lp hd got hy (hp (by omega)) hj hlp | exact jumps_r_bad26 h hn at_ hat ty lp hd got hy (hp (by omega)) hj
    rw [if_neg o26]
    by_cases o27 : op = 27
    · subst o27
      rw [if_pos rfl]
      exact jumps_r_27 h hn at_ hat ty lp hd got hy hlp
    rw [if_neg o27]
    by_cases o0 : op = 0
    · subst o0
      rw [if_pos rfl]
      exact jumps_r_0 h hn at_ hat ty lp hd got hy
    rw [if_neg o0]
    exact jumps_r_else h hn at_ hat ty lp hd got hy o0 o22 o23 o24 o25 o26 o27
end
end Go.Proofs.Ytjflllfkgbhemaa

/- The walks of the reference's get and goes. Conditions: the bounds that are named. -/
namespace Go.Proofs.Ytjflllfkgbhemaa
open Go.RowKit Go.PlainAid
section
variable {w0 w : World} {lb ab ub sb : Nat} {p : PV} {P : Prg} {ats : List Rs} {ups : List Int} {sts : List Bool}
theorem LMem.put (h : LMem w0 w lb ab ub sb p P ats ups sts) {n : Nat} (hn : n < P.cd.length) (s : Rs) :
    LMem w0 ((((w.setCell ⟨ab, n * 4, none⟩ (.string s.ty)).setCell ⟨ab, n * 4 + 1, none⟩ (.int .i64 s.lp)).setCell ⟨ab, n * 4 + 2, none⟩ (.int .i64 s.hd)).setCell ⟨ab, n * 4 + 3, none⟩ (.bool s.got)) lb ab ub sb p P (ats.set n s) ups sts := by
  have n1 : lb ≠ ab := h.l.ne_ h.a (by decide)
  have n2 : ub ≠ ab := h.u.ne_ h.a (by decide)
  have n3 : sb ≠ ab := h.s.ne_ h.a (by decide)
  have hA := (((h.a.set_ (n * 4) (.string s.ty)).set_ (n * 4 + 1) (.int .i64 s.lp)).set_ (n * 4 + 2) (.int .i64 s.hd)).set_ (n * 4 + 3) (.bool s.got)
  rw [rsV_set (by rw [h.la]; exact hn)] at hA
  exact ⟨h.m, (((h.b.setCell h.ge.2.1 _).setCell h.ge.2.1 _).setCell h.ge.2.1 _).setCell h.ge.2.1 _, h.ge, (((h.l.far (p := ⟨ab, n * 4, none⟩) n1 _).far (p := ⟨ab, n * 4 + 1, none⟩) n1 _).far (p := ⟨ab, n * 4 + 2, none⟩) n1 _).far (p := ⟨ab, n * 4 + 3, none⟩) n1 _, hA,
    (((h.u.far (p := ⟨ab, n * 4, none⟩) n2 _).far (p := ⟨ab, n * 4 + 1, none⟩) n2 _).far (p := ⟨ab, n * 4 + 2, none⟩) n2 _).far (p := ⟨ab, n * 4 + 3, none⟩) n2 _, (((h.s.far (p := ⟨ab, n * 4, none⟩) n3 _).far (p := ⟨ab, n * 4 + 1, none⟩) n3 _).far (p := ⟨ab, n * 4 + 2, none⟩) n3 _).far (p := ⟨ab, n * 4 + 3, none⟩) n3 _, by rw [List.length_set]; exact h.la, h.lu, h.ls⟩
theorem LMem.up (h : LMem w0 w lb ab ub sb p P ats ups sts) (n : Nat) (x : Int) : LMem w0 (w.setCell ⟨ub, n, none⟩ (.int .i64 x)) lb ab ub sb p P ats (ups.set n x) sts := by
  have n1 : lb ≠ ub := h.l.ne_ h.u (by decide)
  have n2 : ab ≠ ub := h.a.ne_ h.u (by decide)
  have n3 : sb ≠ ub := h.s.ne_ h.u (by decide)
  have hU := h.u.set_ n (.int .i64 x)
  rw [ints_set] at hU
  exact ⟨h.m, h.b.setCell h.ge.2.2.1 _, h.ge, h.l.far (p := ⟨ub, n, none⟩) n1 _, h.a.far (p := ⟨ub, n, none⟩) n2 _, hU, h.s.far (p := ⟨ub, n, none⟩) n3 _, h.la, by rw [List.length_set]; exact h.lu, h.ls⟩
/-- where it goes on, in memory -/
def GoM (B : Nat) (w : World) (v1 v2 : Value) (l : List (Int × Rs)) : Prop := ∃ o1 o2, v1 = .slice o1 l.length l.length ∧ v2 = .slice o2 l.length l.length ∧ (l ≠ [] → ∃ g1 g2, o1 = some ⟨g1, 0, none⟩ ∧ o2 = some ⟨g2, 0, none⟩ ∧ B ≤ g1 ∧ B ≤ g2 ∧ Blk w g1 3 (ints (l.map (·.1))).toArray ∧ Blk w g2 79 (rsV (l.map (·.2))).toArray)
theorem gm0 (B : Nat) (W : World) : GoM B W (.slice none 0 0) (.slice none 0 0) [] := ⟨none, none, rfl, rfl, fun h => absurd rfl h⟩
theorem gm1 {B : Nat} (W : World) {n : Nat} (l : List (Int × Rs)) (hn : W.heap.size = n) (hB : B ≤ n) : GoM B ((W.alloc (.cells (ints (l.map (·.1))).toArray 3)).alloc (.cells (rsV (l.map (·.2))).toArray 79)) (.slice (some ⟨n, 0, none⟩) l.length l.length) (.slice (some ⟨n + 1, 0, none⟩) l.length l.length) l := by
  subst hn
  exact ⟨_, _, rfl, rfl, fun _ => ⟨_, _, rfl, rfl, hB, by omega, (Blk.new _ _ _).alloc _, by
    have := Blk.new (W.alloc (.cells (ints (l.map (·.1))).toArray 3)) 79 (rsV (l.map (·.2))).toArray
    simpa using this⟩⟩
theorem gm2 {B : Nat} (W : World) {n : Nat} (l : List (Int × Rs)) (hn : W.heap.size = n) (hB : B ≤ n) : GoM B ((W.alloc (.cells (rsV (l.map (·.2))).toArray 79)).alloc (.cells (ints (l.map (·.1))).toArray 3)) (.slice (some ⟨n + 1, 0, none⟩) l.length l.length) (.slice (some ⟨n, 0, none⟩) l.length l.length) l := by
  subst hn
  exact ⟨_, _, rfl, rfl, fun _ => ⟨_, _, rfl, rfl, by omega, hB, by
    have := Blk.new (W.alloc (.cells (rsV (l.map (·.2))).toArray 79)) 3 (ints (l.map (·.1))).toArray
    simpa using this, (Blk.new _ _ _).alloc _⟩⟩
theorem GoM.drew {B : Nat} {W : World} {v1 v2 : Value} {l : List (Int × Rs)} (h : GoM B W v1 v2 l) : GoM B W.drew v1 v2 l := h
theorem GoM.only {B : Nat} {S : Nat → Prop} {W W' : World} {v1 v2 : Value} {l : List (Int × Rs)} (h : GoM B W v1 v2 l) (ho : Only S W W') (hS : ∀ k, S k → k < B) : GoM B W' v1 v2 l := by
  obtain ⟨o1, o2, h1, h2, h3⟩ := h
  refine ⟨o1, o2, h1, h2, fun hl => ?_⟩
  obtain ⟨g1, g2, e1, e2, b1, b2, k1, k2⟩ := h3 hl
  exact ⟨g1, g2, e1, e2, b1, b2, k1.only ho (fun hs => by have := hS _ hs; omega), k2.only ho (fun hs => by have := hS _ hs; omega)⟩
theorem GoM.below {B : Nat} {W W' : World} {v1 v2 : Value} {l : List (Int × Rs)} (h : GoM B W v1 v2 l) (hb : Below W.heap.size W W') : GoM B W' v1 v2 l :=
  h.only (S := fun _ => False) (Only.of_new hb) (fun _ h => h.elim)
set_option linter.unusedVariables false in
set_option linter.unusedSimpArgs false in
set_option maxRecDepth 100000 in
set_option maxHeartbeats 4000000 in
theorem get_r (h : LMem w0 w lb ab ub sb p P ats ups sts) (n : Nat) (hn : n < P.cd.length) (s : Rs) :
    Calls Try.prog 64 #[.pointer (some ⟨lb, 0, none⟩), .int .i64 (n : Int), s.val] w fun en w' => en = .returned (.bool (if (atRs ats (n : Int)).got then eqR (atRs ats (n : Int)) s else true)) ∧ LMem w0 w' lb ab ub sb p P (if (atRs ats (n : Int)).got then ats else ats.set n s) ups sts ∧ Only (fun k => k = ab) w w' := by
  obtain ⟨ty, lp, hd, got⟩ := s
  simp only [Rs.val]
  have g6 := h.cellL.2.2.1
  have hal : Below w.heap.size w (w.alloc (.cells #[.string ty, .int .i64 lp, .int .i64 hd, .bool got] 79)) := (Below.refl _ w).alloc (Nat.le_refl _) _
  have k6 := (hal.cell (p := ⟨lb, 6, none⟩) h.l.lt).trans g6
  have k6d := (hal.drew.cell (p := ⟨lb, 6, none⟩) h.l.lt).trans g6
  obtain ⟨c0, c1, c2, c3⟩ := h.rsAt hn _ hal
  obtain ⟨d0, d1, d2, d3⟩ := h.rsAt hn _ hal.drew
  have f0 := (h.a.below hal h.a.lt).frozen (n * 4)
  have f1 := (h.a.below hal h.a.lt).frozen (n * 4 + 1)
  have f2 := (h.a.below hal h.a.lt).frozen (n * 4 + 2)
  have f3 := (h.a.below hal h.a.lt).frozen (n * 4 + 3)
  have f0d := (h.a.below hal.drew h.a.lt).frozen (n * 4)
  have f1d := (h.a.below hal.drew h.a.lt).frozen (n * 4 + 1)
  have f2d := (h.a.below hal.drew h.a.lt).frozen (n * 4 + 2)
  have f3d := (h.a.below hal.drew h.a.lt).frozen (n * 4 + 3)
  have HL := hide (h.alloc (.cells #[.string ty, .int .i64 lp, .int .i64 hd, .bool got] 79))
  have HLD := hide (HL.out.drew)
  have hnI : (n : Int) < (P.cd.length : Int) := by omega
  have heq := rs_eql
  cases hg : (atRs ats (n : Int)).got
  · rw [hg] at c3 d3
    have HE := hide hg
    clear h hal g6 hg heq
    go_enter Try.func64, Try.ntmps64
    go_wp2
    go_region
    all_goals
      go_wp2
      go_ret
      simp only [HE.out, Bool.false_eq_true, if_false]
      have ho := fun W (h : Only (fun k => k = ab) w W) => hide ((((h.setCell (p := ⟨ab, n * 4, none⟩) (.inl rfl) (.string ty)).setCell (p := ⟨ab, n * 4 + 1, none⟩) (.inl rfl) (.int .i64 lp)).setCell (p := ⟨ab, n * 4 + 2, none⟩) (.inl rfl) (.int .i64 hd)).setCell (p := ⟨ab, n * 4 + 3, none⟩) (.inl rfl) (.bool got))
      first
        | exact ⟨rfl, HLD.out.put hn ⟨ty, lp, hd, got⟩, (ho _ (((Only.refl _ w).alloc _).drew)).out⟩
        | exact ⟨rfl, (HL.out.put hn ⟨ty, lp, hd, got⟩).drew, (ho _ ((Only.refl _ w).alloc _)).out.drew⟩
  · rw [hg] at c3 d3
    have HE := hide hg
    have HQ := heq
    clear h hal g6 hg f0 f1 f2 f3 f0d f1d f2d f3d
    have hv : eqR (atRs ats (n : Int)) ⟨ty, lp, hd, got⟩ = (decide ((atRs ats (n : Int)).ty = ty) && decide ((atRs ats (n : Int)).lp = lp) && decide ((atRs ats (n : Int)).hd = hd) && (true == got)) := by unfold eqR; rw [HE.out]
    rw [show (true == got) = got from by cases got <;> rfl] at hv
    rw [hv]
    have HV := hide hv
    clear hv
    generalize (atRs ats (n : Int)).ty = ty1 at *
    generalize (atRs ats (n : Int)).lp = lp1 at *
    generalize (atRs ats (n : Int)).hd = hd1 at *
    go_enter Try.func64, Try.ntmps64
    go_wp2
    go_quiet (fail)
    all_goals
      go_wp2
      go_ret
      simp only [HE.out, if_true]
      exact ⟨rfl, HL.out.drewN _, ((Only.refl _ w).alloc _).drewN _⟩
set_option linter.unusedVariables false in
set_option linter.unusedSimpArgs false in
set_option maxRecDepth 100000 in
set_option maxHeartbeats 4000000 in
theorem goes_r_0 (h : LMem w0 w lb ab ub sb p P ats ups sts) (hn : P.cd.length ≤ 262144) (at_ : Nat) (hat : at_ < P.cd.length) (ty : ByteArray) (lp hd : Int) (got : Bool) {a b c d : Int} (hy : insAt P (at_ : Int) = ⟨0, a, b, c, d⟩) :
    Calls Try.prog 63 #[.pointer (some ⟨lb, 0, none⟩), .int .i64 (at_ : Int), .agg #[.string ty, .int .i64 lp, .int .i64 hd, .bool got]] w fun en w' => ∃ v1 v2, en = .returned (.tuple #[v1, v2]) ∧ GoM w.heap.size w' v1 v2 [] ∧ LMem w0 w' lb ab ub sb p P ats ups sts := by
  obtain ⟨ad, had, hcd⟩ := h.ca (by omega)
  have hc := hcd at_ hat
  rw [hy] at hc
  have g5 := h.cellL.2.1
  have g7 := h.cellL.2.2.2.1
  rw [had] at g5
  have hal1 : Below w.heap.size w (w.alloc (.cells #[.string ty, .int .i64 lp, .int .i64 hd, .bool got] 79)) := (Below.refl _ w).alloc (Nat.le_refl _) _
  have hal2 : Below w.heap.size w ((w.alloc (.cells #[.string ty, .int .i64 lp, .int .i64 hd, .bool got] 79)).alloc (.cells #[.int .i64 0, .int .i64 a, .int .i64 b, .int .i64 c, .int .i64 d] 46)) := hal1.alloc (by simp) _
  obtain ⟨c0, c1, c2, c3, c4⟩ := hc _ hal1
  have k5 := (hal1.cell (p := ⟨lb, 5, none⟩) h.l.lt).trans g5
  have l7 := (hal2.cell (p := ⟨lb, 7, none⟩) h.l.lt).trans g7
  have HL := hide ((h.alloc (.cells #[.string ty, .int .i64 lp, .int .i64 hd, .bool got] 79)).alloc (.cells #[.int .i64 0, .int .i64 a, .int .i64 b, .int .i64 c, .int .i64 d] 46))
  have u1 := IntWalk.i64_in ((at_ : Int) + 1) (by omega)
  have hatI : (at_ : Int) < (P.cd.length : Int) := by omega
  clear h hcd hc hy had hal1 hal2 g5 g7
  go_enter Try.func63, Try.ntmps63
  go_wp2
  all_goals
    go_ret2
    exact ⟨_, _, rfl, gm0 _ _, HL.out⟩
set_option linter.unusedVariables false in
set_option linter.unusedSimpArgs false in
set_option maxRecDepth 100000 in
set_option maxHeartbeats 4000000 in
theorem goes_r_27 (h : LMem w0 w lb ab ub sb p P ats ups sts) (hn : P.cd.length ≤ 262144) (at_ : Nat) (hat : at_ < P.cd.length) (ty : ByteArray) (lp hd : Int) (got : Bool) {a b c d : Int} (hy : insAt P (at_ : Int) = ⟨27, a, b, c, d⟩) :
    Calls Try.prog 63 #[.pointer (some ⟨lb, 0, none⟩), .int .i64 (at_ : Int), .agg #[.string ty, .int .i64 lp, .int .i64 hd, .bool got]] w fun en w' => ∃ v1 v2, en = .returned (.tuple #[v1, v2]) ∧ GoM w.heap.size w' v1 v2 [] ∧ LMem w0 w' lb ab ub sb p P ats ups sts := by
  obtain ⟨ad, had, hcd⟩ := h.ca (by omega)
  have hc := hcd at_ hat
  rw [hy] at hc
  have g5 := h.cellL.2.1
  have g7 := h.cellL.2.2.2.1
  rw [had] at g5
  have hal1 : Below w.heap.size w (w.alloc (.cells #[.string ty, .int .i64 lp, .int .i64 hd, .bool got] 79)) := (Below.refl _ w).alloc (Nat.le_refl _) _
  have hal2 : Below w.heap.size w ((w.alloc (.cells #[.string ty, .int .i64 lp, .int .i64 hd, .bool got] 79)).alloc (.cells #[.int .i64 27, .int .i64 a, .int .i64 b, .int .i64 c, .int .i64 d] 46)) := hal1.alloc (by simp) _
  obtain ⟨c0, c1, c2, c3, c4⟩ := hc _ hal1
  have k5 := (hal1.cell (p := ⟨lb, 5, none⟩) h.l.lt).trans g5
  have l7 := (hal2.cell (p := ⟨lb, 7, none⟩) h.l.lt).trans g7
  have HL := hide ((h.alloc (.cells #[.string ty, .int .i64 lp, .int .i64 hd, .bool got] 79)).alloc (.cells #[.int .i64 27, .int .i64 a, .int .i64 b, .int .i64 c, .int .i64 d] 46))
  have u1 := IntWalk.i64_in ((at_ : Int) + 1) (by omega)
  have hatI : (at_ : Int) < (P.cd.length : Int) := by omega
  clear h hcd hc hy had hal1 hal2 g5 g7
  go_enter Try.func63, Try.ntmps63
  go_wp2
  all_goals
    go_ret2
    exact ⟨_, _, rfl, gm0 _ _, HL.out⟩
set_option linter.unusedVariables false in
set_option linter.unusedSimpArgs false in
set_option maxRecDepth 100000 in
set_option maxHeartbeats 4000000 in
theorem goes_r_22 (h : LMem w0 w lb ab ub sb p P ats ups sts) (hn : P.cd.length ≤ 262144) (at_ : Nat) (hat : at_ < P.cd.length) (ty : ByteArray) (lp hd : Int) (got : Bool) {a b c d : Int} (hy : insAt P (at_ : Int) = ⟨22, a, b, c, d⟩) :
    Calls Try.prog 63 #[.pointer (some ⟨lb, 0, none⟩), .int .i64 (at_ : Int), .agg #[.string ty, .int .i64 lp, .int .i64 hd, .bool got]] w fun en w' => ∃ v1 v2, en = .returned (.tuple #[v1, v2]) ∧ GoM w.heap.size w' v1 v2 [(a, (⟨ty, lp, hd, got⟩ : Rs))] ∧ LMem w0 w' lb ab ub sb p P ats ups sts := by
  obtain ⟨ad, had, hcd⟩ := h.ca (by omega)
  have hc := hcd at_ hat
  rw [hy] at hc
  have g5 := h.cellL.2.1
  have g7 := h.cellL.2.2.2.1
  rw [had] at g5
  have hal1 : Below w.heap.size w (w.alloc (.cells #[.string ty, .int .i64 lp, .int .i64 hd, .bool got] 79)) := (Below.refl _ w).alloc (Nat.le_refl _) _
  have hal2 : Below w.heap.size w ((w.alloc (.cells #[.string ty, .int .i64 lp, .int .i64 hd, .bool got] 79)).alloc (.cells #[.int .i64 22, .int .i64 a, .int .i64 b, .int .i64 c, .int .i64 d] 46)) := hal1.alloc (by simp) _
  obtain ⟨c0, c1, c2, c3, c4⟩ := hc _ hal1
  have k5 := (hal1.cell (p := ⟨lb, 5, none⟩) h.l.lt).trans g5
  have l7 := (hal2.cell (p := ⟨lb, 7, none⟩) h.l.lt).trans g7
  have HL := hide ((h.alloc (.cells #[.string ty, .int .i64 lp, .int .i64 hd, .bool got] 79)).alloc (.cells #[.int .i64 22, .int .i64 a, .int .i64 b, .int .i64 c, .int .i64 d] 46))
  have u1 := IntWalk.i64_in ((at_ : Int) + 1) (by omega)
  have hatI : (at_ : Int) < (P.cd.length : Int) := by omega
  clear h hcd hc hy had hal1 hal2 g5 g7
  go_enter Try.func63, Try.ntmps63
  go_wp2
  go_region
  all_goals go_wp2
  all_goals
    go_ret2
    first
      | exact ⟨_, _, rfl, (gm1 _ [(a, (⟨ty, lp, hd, got⟩ : Rs))] (by simp) (by omega)).drew, ((HL.out.alloc _).alloc _).drew⟩
      | exact ⟨_, _, rfl, (gm2 _ [(a, (⟨ty, lp, hd, got⟩ : Rs))] (by simp) (by omega)).drew, ((HL.out.alloc _).alloc _).drew⟩
      | exact ⟨_, _, rfl, gm1 _ [(a, (⟨ty, lp, hd, got⟩ : Rs))] (by simp) (by omega), (HL.out.drew.alloc _).alloc _⟩
      | exact ⟨_, _, rfl, gm2 _ [(a, (⟨ty, lp, hd, got⟩ : Rs))] (by simp) (by omega), (HL.out.drew.alloc _).alloc _⟩
set_option linter.unusedVariables false in
set_option linter.unusedSimpArgs false in
set_option maxRecDepth 100000 in
set_option maxHeartbeats 4000000 in
theorem goes_r_23 (h : LMem w0 w lb ab ub sb p P ats ups sts) (hn : P.cd.length ≤ 262144) (at_ : Nat) (hat : at_ < P.cd.length) (ty : ByteArray) (lp hd : Int) (got : Bool) {a b c d : Int} (hy : insAt P (at_ : Int) = ⟨23, a, b, c, d⟩) :
    Calls Try.prog 63 #[.pointer (some ⟨lb, 0, none⟩), .int .i64 (at_ : Int), .agg #[.string ty, .int .i64 lp, .int .i64 hd, .bool got]] w fun en w' => ∃ v1 v2, en = .returned (.tuple #[v1, v2]) ∧ GoM w.heap.size w' v1 v2 [((at_ : Int) + 1, (⟨ty, lp, hd, got⟩ : Rs)), (a, ⟨ty, lp, hd, got⟩)] ∧ LMem w0 w' lb ab ub sb p P ats ups sts := by
  obtain ⟨ad, had, hcd⟩ := h.ca (by omega)
  have hc := hcd at_ hat
  rw [hy] at hc
  have g5 := h.cellL.2.1
  have g7 := h.cellL.2.2.2.1
  rw [had] at g5
  have hal1 : Below w.heap.size w (w.alloc (.cells #[.string ty, .int .i64 lp, .int .i64 hd, .bool got] 79)) := (Below.refl _ w).alloc (Nat.le_refl _) _
  have hal2 : Below w.heap.size w ((w.alloc (.cells #[.string ty, .int .i64 lp, .int .i64 hd, .bool got] 79)).alloc (.cells #[.int .i64 23, .int .i64 a, .int .i64 b, .int .i64 c, .int .i64 d] 46)) := hal1.alloc (by simp) _
  obtain ⟨c0, c1, c2, c3, c4⟩ := hc _ hal1
  have k5 := (hal1.cell (p := ⟨lb, 5, none⟩) h.l.lt).trans g5
  have l7 := (hal2.cell (p := ⟨lb, 7, none⟩) h.l.lt).trans g7
  have HL := hide ((h.alloc (.cells #[.string ty, .int .i64 lp, .int .i64 hd, .bool got] 79)).alloc (.cells #[.int .i64 23, .int .i64 a, .int .i64 b, .int .i64 c, .int .i64 d] 46))
  have u1 := IntWalk.i64_in ((at_ : Int) + 1) (by omega)
  have hatI : (at_ : Int) < (P.cd.length : Int) := by omega
  clear h hcd hc hy had hal1 hal2 g5 g7
  go_enter Try.func63, Try.ntmps63
  go_wp2
  go_region
  all_goals go_wp2
  all_goals
    go_ret2
    first
      | exact ⟨_, _, rfl, (gm1 _ [((at_ : Int) + 1, (⟨ty, lp, hd, got⟩ : Rs)), (a, ⟨ty, lp, hd, got⟩)] (by simp) (by omega)).drew, ((HL.out.alloc _).alloc _).drew⟩
      | exact ⟨_, _, rfl, (gm2 _ [((at_ : Int) + 1, (⟨ty, lp, hd, got⟩ : Rs)), (a, ⟨ty, lp, hd, got⟩)] (by simp) (by omega)).drew, ((HL.out.alloc _).alloc _).drew⟩
      | exact ⟨_, _, rfl, gm1 _ [((at_ : Int) + 1, (⟨ty, lp, hd, got⟩ : Rs)), (a, ⟨ty, lp, hd, got⟩)] (by simp) (by omega), (HL.out.drew.alloc _).alloc _⟩
      | exact ⟨_, _, rfl, gm2 _ [((at_ : Int) + 1, (⟨ty, lp, hd, got⟩ : Rs)), (a, ⟨ty, lp, hd, got⟩)] (by simp) (by omega), (HL.out.drew.alloc _).alloc _⟩
set_option linter.unusedVariables false in
set_option linter.unusedSimpArgs false in
set_option maxRecDepth 100000 in
set_option maxHeartbeats 4000000 in
theorem goes_r_else (h : LMem w0 w lb ab ub sb p P ats ups sts) (hn : P.cd.length ≤ 262144) (at_ : Nat) (hat : at_ < P.cd.length) (ty : ByteArray) (lp hd : Int) (got : Bool) {op a b c d : Int} (hy : insAt P (at_ : Int) = ⟨op, a, b, c, d⟩) (h0 : op ≠ 0) (h1 : op ≠ 22) (h2 : op ≠ 23) (h4 : op ≠ 25) (h5 : op ≠ 26) (h6 : op ≠ 27) :
    Calls Try.prog 63 #[.pointer (some ⟨lb, 0, none⟩), .int .i64 (at_ : Int), .agg #[.string ty, .int .i64 lp, .int .i64 hd, .bool got]] w fun en w' => ∃ v1 v2, en = .returned (.tuple #[v1, v2]) ∧ GoM w.heap.size w' v1 v2 [((at_ : Int) + 1, (⟨ty, lp, hd, got⟩ : Rs))] ∧ LMem w0 w' lb ab ub sb p P ats ups sts := by
  obtain ⟨ad, had, hcd⟩ := h.ca (by omega)
  have hc := hcd at_ hat
  rw [hy] at hc
  have g5 := h.cellL.2.1
  have g7 := h.cellL.2.2.2.1
  rw [had] at g5
  have hal1 : Below w.heap.size w (w.alloc (.cells #[.string ty, .int .i64 lp, .int .i64 hd, .bool got] 79)) := (Below.refl _ w).alloc (Nat.le_refl _) _
  have hal2 : Below w.heap.size w ((w.alloc (.cells #[.string ty, .int .i64 lp, .int .i64 hd, .bool got] 79)).alloc (.cells #[.int .i64 op, .int .i64 a, .int .i64 b, .int .i64 c, .int .i64 d] 46)) := hal1.alloc (by simp) _
  obtain ⟨c0, c1, c2, c3, c4⟩ := hc _ hal1
  have k5 := (hal1.cell (p := ⟨lb, 5, none⟩) h.l.lt).trans g5
  have l7 := (hal2.cell (p := ⟨lb, 7, none⟩) h.l.lt).trans g7
  have HL := hide ((h.alloc (.cells #[.string ty, .int .i64 lp, .int .i64 hd, .bool got] 79)).alloc (.cells #[.int .i64 op, .int .i64 a, .int .i64 b, .int .i64 c, .int .i64 d] 46))
  have u1 := IntWalk.i64_in ((at_ : Int) + 1) (by omega)
  have hatI : (at_ : Int) < (P.cd.length : Int) := by omega
  clear h hcd hc hy had hal1 hal2 g5 g7
  go_enter Try.func63, Try.ntmps63
  go_wp2
  go_region
  all_goals go_wp2
  all_goals
    go_ret2
    first
      | exact ⟨_, _, rfl, (gm1 _ [((at_ : Int) + 1, (⟨ty, lp, hd, got⟩ : Rs))] (by simp) (by omega)).drew, ((HL.out.alloc _).alloc _).drew⟩
      | exact ⟨_, _, rfl, (gm2 _ [((at_ : Int) + 1, (⟨ty, lp, hd, got⟩ : Rs))] (by simp) (by omega)).drew, ((HL.out.alloc _).alloc _).drew⟩
      | exact ⟨_, _, rfl, gm1 _ [((at_ : Int) + 1, (⟨ty, lp, hd, got⟩ : Rs))] (by simp) (by omega), (HL.out.drew.alloc _).alloc _⟩
      | exact ⟨_, _, rfl, gm2 _ [((at_ : Int) + 1, (⟨ty, lp, hd, got⟩ : Rs))] (by simp) (by omega), (HL.out.drew.alloc _).alloc _⟩
set_option linter.unusedVariables false in
set_option linter.unusedSimpArgs false in
set_option maxRecDepth 100000 in
set_option maxHeartbeats 4000000 in
theorem goes_r_25 (h : LMem w0 w lb ab ub sb p P ats ups sts) (hn : P.cd.length ≤ 262144) (at_ : Nat) (hat : at_ < P.cd.length) (ty : ByteArray) (lp hd : Int) (got : Bool) {a b c d : Int} (hy : insAt P (at_ : Int) = ⟨25, a, b, c, d⟩) :
    Calls Try.prog 63 #[.pointer (some ⟨lb, 0, none⟩), .int .i64 (at_ : Int), .agg #[.string ty, .int .i64 lp, .int .i64 hd, .bool got]] w fun en w' => ∃ v1 v2, en = .returned (.tuple #[v1, v2]) ∧ GoM w.heap.size w' v1 v2 [((at_ : Int) + 1, (⟨ty, at_, hd, got⟩ : Rs)), (a, ⟨ty, lp, hd, got⟩)] ∧ LMem w0 w' lb ab ub sb p P ats (ups.set at_ lp) sts := by
  obtain ⟨ad, had, hcd⟩ := h.ca (by omega)
  have hc := hcd at_ hat
  rw [hy] at hc
  have g5 := h.cellL.2.1
  have g7 := h.cellL.2.2.2.1
  rw [had] at g5
  have hal1 : Below w.heap.size w (w.alloc (.cells #[.string ty, .int .i64 lp, .int .i64 hd, .bool got] 79)) := (Below.refl _ w).alloc (Nat.le_refl _) _
  have hal2 : Below w.heap.size w ((w.alloc (.cells #[.string ty, .int .i64 lp, .int .i64 hd, .bool got] 79)).alloc (.cells #[.int .i64 25, .int .i64 a, .int .i64 b, .int .i64 c, .int .i64 d] 46)) := hal1.alloc (by simp) _
  obtain ⟨c0, c1, c2, c3, c4⟩ := hc _ hal1
  have k5 := (hal1.cell (p := ⟨lb, 5, none⟩) h.l.lt).trans g5
  have l7 := (hal2.cell (p := ⟨lb, 7, none⟩) h.l.lt).trans g7
  have HL := hide ((h.alloc (.cells #[.string ty, .int .i64 lp, .int .i64 hd, .bool got] 79)).alloc (.cells #[.int .i64 25, .int .i64 a, .int .i64 b, .int .i64 c, .int .i64 d] 46))
  have u1 := IntWalk.i64_in ((at_ : Int) + 1) (by omega)
  have hatI : (at_ : Int) < (P.cd.length : Int) := by omega
  have hlb := h.l.lt
  have hub := h.u.lt
  have fu := (h.u.below hal2 h.u.lt).frozen at_
  have fud := (h.u.below hal2.drew h.u.lt).frozen at_
  have q0 := h.upAt hat _ hal2
  have q0d := h.upAt hat _ hal2.drew
  have l7d := (hal2.drew.cell (p := ⟨lb, 7, none⟩) h.l.lt).trans g7
  have HU := hide (h.up at_ lp)
  clear h hcd hc hy had hal1 hal2 g5 g7
  go_enter Try.func63, Try.ntmps63
  go_wp2
  go_region
  all_goals go_wp2
  all_goals go_region
  all_goals go_wp2
  all_goals
    go_ret2
    first
      | exact ⟨_, _, rfl, (gm1 _ [((at_ : Int) + 1, (⟨ty, at_, hd, got⟩ : Rs)), (a, ⟨ty, lp, hd, got⟩)] (by simp [World.setCell]) (by omega)), (((((HU.out.alloc _).alloc _).alloc _).alloc _).alloc _)⟩
      | exact ⟨_, _, rfl, (gm1 _ [((at_ : Int) + 1, (⟨ty, at_, hd, got⟩ : Rs)), (a, ⟨ty, lp, hd, got⟩)] (by simp [World.setCell]) (by omega)).drew, (((((HU.out.alloc _).alloc _).alloc _).alloc _).alloc _).drew⟩
      | exact ⟨_, _, rfl, (gm1 _ [((at_ : Int) + 1, (⟨ty, at_, hd, got⟩ : Rs)), (a, ⟨ty, lp, hd, got⟩)] (by simp [World.setCell]) (by omega)).drew.drew, (((((HU.out.alloc _).alloc _).alloc _).alloc _).alloc _).drew.drew⟩
      | exact ⟨_, _, rfl, (gm2 _ [((at_ : Int) + 1, (⟨ty, at_, hd, got⟩ : Rs)), (a, ⟨ty, lp, hd, got⟩)] (by simp [World.setCell]) (by omega)), (((((HU.out.alloc _).alloc _).alloc _).alloc _).alloc _)⟩
      | exact ⟨_, _, rfl, (gm2 _ [((at_ : Int) + 1, (⟨ty, at_, hd, got⟩ : Rs)), (a, ⟨ty, lp, hd, got⟩)] (by simp [World.setCell]) (by omega)).drew, (((((HU.out.alloc _).alloc _).alloc _).alloc _).alloc _).drew⟩
      | exact ⟨_, _, rfl, (gm2 _ [((at_ : Int) + 1, (⟨ty, at_, hd, got⟩ : Rs)), (a, ⟨ty, lp, hd, got⟩)] (by simp [World.setCell]) (by omega)).drew.drew, (((((HU.out.alloc _).alloc _).alloc _).alloc _).alloc _).drew.drew⟩
set_option linter.unusedVariables false in
set_option linter.unusedSimpArgs false in
set_option maxRecDepth 100000 in
set_option maxHeartbeats 4000000 in
theorem goes_r_26 (h : LMem w0 w lb ab ub sb p P ats ups sts) (hn : P.cd.length ≤ 262144) (at_ : Nat) (hat : at_ < P.cd.length) (ty : ByteArray) (lp hd : Int) (got : Bool) {a b c d v : Int} (hy : insAt P (at_ : Int) = ⟨26, a, b, c, d⟩) (hlp : pIn P lp) (hv : fAt ups lp = v) :
    Calls Try.prog 63 #[.pointer (some ⟨lb, 0, none⟩), .int .i64 (at_ : Int), .agg #[.string ty, .int .i64 lp, .int .i64 hd, .bool got]] w fun en w' => ∃ v1 v2, en = .returned (.tuple #[v1, v2]) ∧ GoM w.heap.size w' v1 v2 [((at_ : Int) + 1, (⟨ty, lp, hd, got⟩ : Rs)), (a, ⟨ty, v, hd, got⟩)] ∧ LMem w0 w' lb ab ub sb p P ats ups sts := by
  obtain ⟨ad, had, hcd⟩ := h.ca (by omega)
  have hc := hcd at_ hat
  rw [hy] at hc
  have g5 := h.cellL.2.1
  have g7 := h.cellL.2.2.2.1
  rw [had] at g5
  have hal1 : Below w.heap.size w (w.alloc (.cells #[.string ty, .int .i64 lp, .int .i64 hd, .bool got] 79)) := (Below.refl _ w).alloc (Nat.le_refl _) _
  have hal2 : Below w.heap.size w ((w.alloc (.cells #[.string ty, .int .i64 lp, .int .i64 hd, .bool got] 79)).alloc (.cells #[.int .i64 26, .int .i64 a, .int .i64 b, .int .i64 c, .int .i64 d] 46)) := hal1.alloc (by simp) _
  obtain ⟨c0, c1, c2, c3, c4⟩ := hc _ hal1
  have k5 := (hal1.cell (p := ⟨lb, 5, none⟩) h.l.lt).trans g5
  have l7 := (hal2.cell (p := ⟨lb, 7, none⟩) h.l.lt).trans g7
  have HL := hide ((h.alloc (.cells #[.string ty, .int .i64 lp, .int .i64 hd, .bool got] 79)).alloc (.cells #[.int .i64 26, .int .i64 a, .int .i64 b, .int .i64 c, .int .i64 d] 46))
  have u1 := IntWalk.i64_in ((at_ : Int) + 1) (by omega)
  have hatI : (at_ : Int) < (P.cd.length : Int) := by omega
  obtain ⟨j0, j1⟩ := hlp
  obtain ⟨nl, rfl⟩ := Int.eq_ofNat_of_zero_le j0
  simp only [Int.toNat_natCast] at j1
  have hnl : (nl : Int) < (P.cd.length : Int) := by omega
  have hal3 : Below w.heap.size w (((w.alloc (.cells #[.string ty, .int .i64 (nl : Int), .int .i64 hd, .bool got] 79)).alloc (.cells #[.int .i64 26, .int .i64 a, .int .i64 b, .int .i64 c, .int .i64 d] 46)).alloc (.cells #[.string ty, .int .i64 (nl : Int), .int .i64 hd, .bool got] 79)) := hal2.alloc (by simp; omega) _
  have q0 := h.upAt j1 _ hal3
  have q0d := h.upAt j1 _ hal3.drew
  rw [hv] at q0 q0d
  have l7x := (hal3.cell (p := ⟨lb, 7, none⟩) h.l.lt).trans g7
  have l7d := (hal3.drew.cell (p := ⟨lb, 7, none⟩) h.l.lt).trans g7
  have HU := hide h
  clear hal3 hv
  clear h hcd hc hy had hal1 hal2 g5 g7
  go_enter Try.func63, Try.ntmps63
  go_wp2
  go_region
  all_goals go_wp2
  all_goals go_region
  all_goals go_wp2
  all_goals
    go_ret2
    first
      | exact ⟨_, _, rfl, (gm1 _ [((at_ : Int) + 1, (⟨ty, (nl : Int), hd, got⟩ : Rs)), (a, ⟨ty, v, hd, got⟩)] (by simp [World.setCell]) (by omega)), (((((HU.out.alloc _).alloc _).alloc _).alloc _).alloc _)⟩
      | exact ⟨_, _, rfl, (gm1 _ [((at_ : Int) + 1, (⟨ty, (nl : Int), hd, got⟩ : Rs)), (a, ⟨ty, v, hd, got⟩)] (by simp [World.setCell]) (by omega)).drew, (((((HU.out.alloc _).alloc _).alloc _).alloc _).alloc _).drew⟩
      | exact ⟨_, _, rfl, (gm1 _ [((at_ : Int) + 1, (⟨ty, (nl : Int), hd, got⟩ : Rs)), (a, ⟨ty, v, hd, got⟩)] (by simp [World.setCell]) (by omega)).drew.drew, (((((HU.out.alloc _).alloc _).alloc _).alloc _).alloc _).drew.drew⟩
      | exact ⟨_, _, rfl, (gm2 _ [((at_ : Int) + 1, (⟨ty, (nl : Int), hd, got⟩ : Rs)), (a, ⟨ty, v, hd, got⟩)] (by simp [World.setCell]) (by omega)), (((((HU.out.alloc _).alloc _).alloc _).alloc _).alloc _)⟩
      | exact ⟨_, _, rfl, (gm2 _ [((at_ : Int) + 1, (⟨ty, (nl : Int), hd, got⟩ : Rs)), (a, ⟨ty, v, hd, got⟩)] (by simp [World.setCell]) (by omega)).drew, (((((HU.out.alloc _).alloc _).alloc _).alloc _).alloc _).drew⟩
      | exact ⟨_, _, rfl, (gm2 _ [((at_ : Int) + 1, (⟨ty, (nl : Int), hd, got⟩ : Rs)), (a, ⟨ty, v, hd, got⟩)] (by simp [World.setCell]) (by omega)).drew.drew, (((((HU.out.alloc _).alloc _).alloc _).alloc _).alloc _).drew.drew⟩
theorem goes_r (h : LMem w0 w lb ab ub sb p P ats ups sts) (hn : P.cd.length ≤ 262144) (at_ : Nat) (hat : at_ < P.cd.length) (s : Rs) (h26 : (insAt P (at_ : Int)).op = 26 → pIn P s.lp) :
    Calls Try.prog 63 #[.pointer (some ⟨lb, 0, none⟩), .int .i64 (at_ : Int), s.val] w fun en w' => ∃ v1 v2, en = .returned (.tuple #[v1, v2]) ∧ GoM w.heap.size w' v1 v2 (goesR at_ (insAt P (at_ : Int)) s ups) ∧ LMem w0 w' lb ab ub sb p P ats (upsR at_ (insAt P (at_ : Int)) s ups) sts := by
  obtain ⟨ty, lp, hd, got⟩ := s
  obtain ⟨⟨op, a, b, c, d⟩, hy⟩ : ∃ y, insAt P (at_ : Int) = y := ⟨_, rfl⟩
  rw [hy] at h26 ⊢
  simp only at h26
  unfold goesR upsR Rs.val
  simp only
  by_cases o0 : op = 0
  · subst o0
    rw [if_pos rfl, if_neg (by decide)]
    exact goes_r_0 h hn at_ hat ty lp hd got hy
  rw [if_neg o0]
  by_cases o27 : op = 27
  · subst o27
    rw [if_pos rfl, if_neg (by decide)]
    exact goes_r_27 h hn at_ hat ty lp hd got hy
  rw [if_neg o27]
  by_cases o22 : op = 22
  · subst o22
    rw [if_pos rfl, if_neg (by decide)]
    exact goes_r_22 h hn at_ hat ty lp hd got hy
  rw [if_neg o22]
  by_cases o23 : op = 23
  · subst o23
    rw [if_pos rfl, if_neg (by decide)]
    exact goes_r_23 h hn at_ hat ty lp hd got hy
  rw [if_neg o23]
  by_cases o25 : op = 25
  · subst o25
    rw [if_pos rfl, if_pos rfl]
    exact goes_r_25 h hn at_ hat ty lp hd got hy
  rw [if_neg o25, if_neg o25]
  by_cases o26 : op = 26
  · subst o26
    rw [if_pos rfl]
    exact goes_r_26 h hn at_ hat ty lp hd got hy (h26 rfl) rfl
  rw [if_neg o26]
  exact goes_r_else h hn at_ hat ty lp hd got hy o0 o22 o23 o25 o26 o27
end
end Go.Proofs.Ytjflllfkgbhemaa

/- The plain law of operands: the verifier's and the reference's agree. Conditions: none. -/
namespace Go.Proofs.Ytjflllfkgbhemaa
open Go.RowKit Go.PlainAid
def cv (c : UInt8) : UInt8 := if c = 1 then 110 else 98
def mk (l : List UInt8) : ByteArray := ⟨l.toArray⟩
theorem mk_of (s : ByteArray) : ∃ l, s = mk l := ⟨s.data.toList, by cases s; simp [mk]⟩
theorem mk_inj {a b : List UInt8} (h : mk a = mk b) : a = b := by
  unfold mk at h
  injection h with h
  simpa using congrArg Array.toList h
theorem mk_size (l : List UInt8) : (mk l).size = l.length := rfl
theorem mk_append (a b : List UInt8) : mk a ++ mk b = mk (a ++ b) := by
  apply ByteArray.ext
  simp [mk]
theorem mk_take (a b : List UInt8) : (mk (a ++ b)).extract 0 a.length = mk a := by
  apply ByteArray.ext
  simp [mk]
theorem mk_drop (a b : List UInt8) : (mk (a ++ b)).extract a.length (a ++ b).length = mk b := by
  apply ByteArray.ext
  simp [mk]
theorem mk_bt (l : List UInt8) (i : Nat) : bt (mk l) i = ((l[i]?).map (fun c => (c.toNat : Int))).getD 0 := by
  unfold bt
  by_cases h : i < l.length
  · rw [dif_pos (by rw [mk_size]; exact h), List.getElem?_eq_getElem h]
    rfl
  · rw [dif_neg (by rw [mk_size]; exact h), List.getElem?_eq_none (by omega)]
    rfl
def cvB (s : ByteArray) : ByteArray := mk (s.data.toList.map cv)
theorem cvB_mk (l : List UInt8) : cvB (mk l) = mk (l.map cv) := by simp [cvB, mk]
theorem cvB_size (s : ByteArray) : (cvB s).size = s.size := by
  obtain ⟨l, rfl⟩ := mk_of s
  rw [cvB_mk, mk_size, mk_size, List.length_map]
def Good (s : ByteArray) : Prop := ∀ c ∈ s.data.toList, c = 1 ∨ c = 2
theorem good_mk (l : List UInt8) : Good (mk l) ↔ ∀ c ∈ l, c = 1 ∨ c = 2 := by simp [Good, mk]
theorem cv_inj {a b : UInt8} (ha : a = 1 ∨ a = 2) (hb : b = 1 ∨ b = 2) (h : cv a = cv b) : a = b := by
  rcases ha with rfl | rfl <;> rcases hb with rfl | rfl <;> first | rfl | (exfalso; revert h; decide)
theorem map_cv_inj : ∀ {a b : List UInt8}, (∀ c ∈ a, c = 1 ∨ c = 2) → (∀ c ∈ b, c = 1 ∨ c = 2) → a.map cv = b.map cv → a = b
  | [], [], _, _, _ => rfl
  | [], _ :: _, _, _, h => by simp at h
  | _ :: _, [], _, _, h => by simp at h
  | x :: a, y :: b, ha, hb, h => by
    simp only [List.map_cons, List.cons.injEq] at h
    rw [cv_inj (ha x (by simp)) (hb y (by simp)) h.1, map_cv_inj (fun c hc => ha c (by simp [hc])) (fun c hc => hb c (by simp [hc])) h.2]
theorem cvB_inj {a b : ByteArray} (ha : Good a) (hb : Good b) (h : cvB a = cvB b) : a = b := by
  obtain ⟨l, rfl⟩ := mk_of a
  obtain ⟨m, rfl⟩ := mk_of b
  rw [cvB_mk, cvB_mk] at h
  rw [map_cv_inj ((good_mk l).1 ha) ((good_mk m).1 hb) (mk_inj h)]
theorem takes_cases : ∀ k : Fin 42, (takesL (k.val : Int) = [] ∧ takesR (k.val : Int) = mk []) ∨ (takesL (k.val : Int) = [1] ∧ takesR (k.val : Int) = mk [110]) ∨ (takesL (k.val : Int) = [2] ∧ takesR (k.val : Int) = mk [98]) ∨ (takesL (k.val : Int) = [1, 1] ∧ takesR (k.val : Int) = mk [110, 110] ∧ (k.val : Int) ≠ 19) ∨ (takesL (k.val : Int) = [3, 3] ∧ takesR (k.val : Int) = mk [63, 63] ∧ (k.val : Int) = 19) := by decide +kernel
theorem takes_19 : ∀ k : Fin 42, (k.val : Int) = 19 → takesL (k.val : Int) = [3, 3] := by decide +kernel
theorem gives_cases : ∀ k : Fin 42, (givesV (k.val : Int) = 0 ∧ givesR (k.val : Int) = mk []) ∨ (givesV (k.val : Int) = 1 ∧ givesR (k.val : Int) = mk [110]) ∨ (givesV (k.val : Int) = 2 ∧ givesR (k.val : Int) = mk [98]) := by decide +kernel
/-- what is left of the operands, pushed -/
theorem push_law (k : Fin 42) (a b : List UInt8) : cvB (pushV (k.val : Int) (mk (a ++ b)) a.length) = mk (a.map cv) ++ givesR (k.val : Int) ∧ ((∀ c ∈ a, c = 1 ∨ c = 2) → Good (pushV (k.val : Int) (mk (a ++ b)) a.length)) := by
  unfold pushV
  rw [mk_take]
  rcases gives_cases k with ⟨h1, h2⟩ | ⟨h1, h2⟩ | ⟨h1, h2⟩ <;> rw [h1, h2]
  · rw [if_pos rfl, cvB_mk, mk_append, List.append_nil]
    exact ⟨rfl, fun h => (good_mk a).2 h⟩
  · rw [if_neg (by decide), show (⟨#[(1 : Int).toNat.toUInt8]⟩ : ByteArray) = mk [1] from rfl, mk_append, cvB_mk, mk_append]
    refine ⟨by simp [show cv 1 = 110 from rfl], fun h => (good_mk _).2 fun c hc => ?_⟩
    simp at hc
    rcases hc with hc | rfl
    · exact h c hc
    · exact .inl rfl
  · rw [if_neg (by decide), show (⟨#[(2 : Int).toNat.toUInt8]⟩ : ByteArray) = mk [2] from rfl, mk_append, cvB_mk, mk_append]
    refine ⟨by simp [show cv 2 = 98 from rfl], fun h => (good_mk _).2 fun c hc => ?_⟩
    simp at hc
    rcases hc with hc | rfl
    · exact h c hc
    · exact .inr rfl
def opsLaw (op : Int) (s : St) : Prop := operandsR op (cvB s.ty) = (if (takenV op s).2 = 0 then (cvB (takenV op s).1.ty, 0) else (⟨#[]⟩, (takenV op s).2)) ∧ Good (takenV op s).1.ty
theorem taken_lt {op : Int} {s : St} (h : s.ty.size < (takesL op).length) : takenV op s = (s, 93) := by unfold takenV; rw [if_pos h]
theorem size_lists (k : Fin 42) : (takesR (k.val : Int)).size = (takesL (k.val : Int)).length := by
  rcases takes_cases k with ⟨h1, h2⟩ | ⟨h1, h2⟩ | ⟨h1, h2⟩ | ⟨h1, h2, _⟩ | ⟨h1, h2, _⟩ <;> rw [h1, h2] <;> rfl
theorem size_gives (k : Fin 42) : (givesR (k.val : Int)).size = if givesV (k.val : Int) = 0 then 0 else 1 := by
  rcases gives_cases k with ⟨h1, h2⟩ | ⟨h1, h2⟩ | ⟨h1, h2⟩ <;> rw [h1, h2] <;> rfl
theorem split_end (l : List UInt8) (m : Nat) (h : m ≤ l.length) : ∃ a b, l = a ++ b ∧ b.length = m ∧ a.length = l.length - m := ⟨l.take (l.length - m), l.drop (l.length - m), (List.take_append_drop _ _).symm, by simp; omega, by simp⟩
/-- do the operands fit? -/
def fitAll (op : Int) (b : List UInt8) : Bool := (List.range (takesL op).length).all fun i => ((takesL op)[i]? == some 3 || (takesL op)[i]? == some (bt (mk b) i)) && !(op == 19 && bt (mk b) 0 != bt (mk b) 1)
theorem bt_behind (a b : List UInt8) (i : Nat) : bt (mk (a ++ b)) (a.length + i) = bt (mk b) i := by
  rw [mk_bt, mk_bt, List.getElem?_append_right (by omega), Nat.add_sub_cancel_left]
theorem fits_all (op : Int) (a b : List UInt8) : (List.range (takesL op).length).all (fitsV op (mk (a ++ b)) a.length) = fitAll op b := by
  unfold fitAll
  congr 1
  funext i
  unfold fitsV
  rw [bt_behind, show bt (mk (a ++ b)) a.length = bt (mk b) 0 from bt_behind a b 0, bt_behind]
theorem two_bytes : ∀ x y : UInt8, (x = 1 ∨ x = 2) → (y = 1 ∨ y = 2) → (bt (mk [cv x, cv y]) 0 = bt (mk [cv x, cv y]) 1 ↔ bt (mk [x, y]) 0 = bt (mk [x, y]) 1) := by
  rintro x y (rfl | rfl) (rfl | rfl) <;> decide
theorem fit_top (k : Fin 42) (b : List UInt8) (hb : ∀ c ∈ b, c = 1 ∨ c = 2) (hl : b.length = (takesL (k.val : Int)).length) :
    (if (k.val : Int) = 19 then decide (bt (mk (b.map cv)) 0 = bt (mk (b.map cv)) 1) else decide (mk (b.map cv) = takesR (k.val : Int))) = fitAll (k.val : Int) b := by
  unfold fitAll
  rcases takes_cases k with ⟨h1, h2⟩ | ⟨h1, h2⟩ | ⟨h1, h2⟩ | ⟨h1, h2, h3⟩ | ⟨h1, h2, h3⟩
  · have h3 : (k.val : Int) ≠ 19 := fun e => by have := takes_19 k e; rw [h1] at this; cases this
    rw [h1] at hl
    obtain rfl : b = [] := List.length_eq_zero_iff.1 hl
    rw [if_neg h3, h1, h2]
    simp
  · have h3 : (k.val : Int) ≠ 19 := fun e => by have := takes_19 k e; rw [h1] at this; cases this
    have h3b : ((k.val : Int) == 19) = false := by simpa using h3
    rw [h1] at hl
    obtain ⟨x, rfl⟩ := List.length_eq_one_iff.1 hl
    rw [if_neg h3, h1, h2, h3b]
    rcases hb x (by simp) with rfl | rfl <;> decide
  · have h3 : (k.val : Int) ≠ 19 := fun e => by have := takes_19 k e; rw [h1] at this; cases this
    have h3b : ((k.val : Int) == 19) = false := by simpa using h3
    rw [h1] at hl
    obtain ⟨x, rfl⟩ := List.length_eq_one_iff.1 hl
    rw [if_neg h3, h1, h2, h3b]
    rcases hb x (by simp) with rfl | rfl <;> decide
  · have h3b : ((k.val : Int) == 19) = false := by simpa using h3
    rw [h1] at hl
    obtain ⟨x, y, rfl⟩ : ∃ x y, b = [x, y] := by
      match b, hl with
      | [x, y], _ => exact ⟨x, y, rfl⟩
    rw [if_neg h3, h1, h2, h3b]
    rcases hb x (by simp) with rfl | rfl <;> rcases hb y (by simp) with rfl | rfl <;> decide
  · rw [h1] at hl
    obtain ⟨x, y, rfl⟩ : ∃ x y, b = [x, y] := by
      match b, hl with
      | [x, y], _ => exact ⟨x, y, rfl⟩
    rw [if_pos h3, h1, h3]
    rcases hb x (by simp) with rfl | rfl <;> rcases hb y (by simp) with rfl | rfl <;> decide
theorem ops_law (k : Fin 42) (s : St) (hs : s.ty.size ≤ 256) (hg : Good s.ty) : opsLaw (k.val : Int) s := by
  unfold opsLaw
  obtain ⟨there, ty, ls, hand⟩ := s
  simp only at *
  obtain ⟨l, rfl⟩ := mk_of ty
  rw [mk_size] at hs
  rw [good_mk] at hg
  rw [cvB_mk]
  by_cases h1 : l.length < (takesL (k.val : Int)).length
  · rw [taken_lt (by rw [mk_size]; exact h1)]
    refine ⟨?_, (good_mk l).2 hg⟩
    unfold operandsR
    rw [if_pos (.inl (by rw [size_lists, mk_size, List.length_map]; exact h1))]
    rfl
  · obtain ⟨a, b, rfl, hb, ha⟩ := split_end l _ (Nat.le_of_not_lt h1)
    have hga : ∀ c ∈ a, c = 1 ∨ c = 2 := fun c hc => hg c (by simp [hc])
    have hgb : ∀ c ∈ b, c = 1 ∨ c = 2 := fun c hc => hg c (by simp [hc])
    have hn : (a ++ b).length - (takesL (k.val : Int)).length = a.length := ha.symm
    have hab : (a ++ b).length = a.length + b.length := by simp
    have hfa := fits_all (k.val : Int) a b
    have hft := fit_top k b hgb hb
    obtain ⟨p1, p2⟩ := push_law k a b
    have hleft : leftR (k.val : Int) (mk ((a ++ b).map cv)) = mk (a.map cv) ++ givesR (k.val : Int) := by
      unfold leftR
      rw [size_lists, mk_size, List.length_map, hn, List.map_append]
      have := mk_take (a.map cv) (b.map cv)
      rw [List.length_map] at this
      rw [this]
    have htop : topR (k.val : Int) (mk ((a ++ b).map cv)) = mk (b.map cv) := by
      unfold topR
      rw [size_lists, mk_size, List.length_map, hn, List.map_append]
      have := mk_drop (a.map cv) (b.map cv)
      rw [List.length_append, List.length_map, List.length_map, ← List.length_append] at this
      exact this
    have hlsz : (mk (a.map cv) ++ givesR (k.val : Int)).size = a.length + if givesV (k.val : Int) = 0 then 0 else 1 := by
      rw [ByteArray.size_append, size_gives, mk_size, List.length_map]
    have hT : takenV (k.val : Int) ⟨there, mk (a ++ b), ls, hand⟩ = if (k.val : Int) = 0 ∧ 0 < a.length ∨ givesV (k.val : Int) ≠ 0 ∧ 256 < a.length + 1 then (⟨there, mk (a ++ b), ls, hand⟩, 93) else if fitAll (k.val : Int) b = true then (⟨there, pushV (k.val : Int) (mk (a ++ b)) a.length, ls, hand⟩, 0) else (⟨there, mk (a ++ b), ls, hand⟩, 94) := by
      unfold takenV
      simp only [mk_size, hfa, hn]
      rw [if_neg h1]
    have hO : operandsR (k.val : Int) (mk ((a ++ b).map cv)) = if (k.val : Int) = 0 ∧ 0 < a.length then (⟨#[]⟩, 93) else if 256 < a.length + (if givesV (k.val : Int) = 0 then 0 else 1) then (⟨#[]⟩, 93) else if (k.val : Int) = 19 then (if bt (mk (b.map cv)) 0 = bt (mk (b.map cv)) 1 then (mk (a.map cv) ++ givesR (k.val : Int), 0) else (⟨#[]⟩, 94)) else if mk (b.map cv) = takesR (k.val : Int) then (mk (a.map cv) ++ givesR (k.val : Int), 0) else (⟨#[]⟩, 94) := by
      unfold operandsR
      rw [hleft, htop, hlsz, size_lists, mk_size, List.length_map, hn]
      simp only [h1, false_or]
    rw [hT, hO]
    by_cases h2 : (k.val : Int) = 0 ∧ 0 < a.length
    · rw [if_pos h2, if_pos (Or.inl h2)]
      exact ⟨rfl, (good_mk _).2 hg⟩
    · rw [if_neg h2]
      by_cases h3 : givesV (k.val : Int) ≠ 0 ∧ 256 < a.length + 1
      · rw [if_pos (show 256 < a.length + (if givesV (k.val : Int) = 0 then 0 else 1) by rw [if_neg h3.1]; exact h3.2), if_pos (Or.inr h3)]
        exact ⟨rfl, (good_mk _).2 hg⟩
      · rw [if_neg (show ¬ 256 < a.length + (if givesV (k.val : Int) = 0 then 0 else 1) by
          split
          · omega
          · next h => exact fun h' => h3 ⟨h, h'⟩), if_neg (show ¬ ((k.val : Int) = 0 ∧ 0 < a.length ∨ givesV (k.val : Int) ≠ 0 ∧ 256 < a.length + 1) from fun h => h.elim h2 h3)]
        rw [← hft]
        by_cases h19 : (k.val : Int) = 19
        · rw [if_pos h19, if_pos h19]
          by_cases hq : bt (mk (b.map cv)) 0 = bt (mk (b.map cv)) 1
          · simp only [hq, decide_true, if_true, p1]
            exact ⟨by trivial, p2 hga⟩
          · simp only [hq, decide_false, if_false, Bool.false_eq_true]
            exact ⟨rfl, (good_mk _).2 hg⟩
        · rw [if_neg h19, if_neg h19]
          by_cases hq : mk (b.map cv) = takesR (k.val : Int)
          · simp only [hq, decide_true, if_true, p1]
            exact ⟨by trivial, p2 hga⟩
          · simp only [hq, decide_false, if_false, Bool.false_eq_true]
            exact ⟨rfl, (good_mk _).2 hg⟩
end Go.Proofs.Ytjflllfkgbhemaa

/- The plain law of looks: the verifier's and the reference's agree, place by place. Conditions: none. -/
namespace Go.Proofs.Ytjflllfkgbhemaa
open Go.RowKit Go.PlainAid
/-- a standing, as the reference has it -/
def cvS (s : St) : Rs := ⟨cvB s.ty, innerV s.ls, s.hand, true⟩
/-- the open loops hang together: the innermost one's ITurn was come to with the others -/
def Chain (ats : List St) (ups : List Int) (i : Nat) (ls : List Int) : Prop := ls = [] ∨ ∃ (ls' : List Int) (t : Nat), ls = ls' ++ [(t : Int)] ∧ t < i ∧ (atSt ats (t : Int)).there = true ∧ (atSt ats (t : Int)).ls = ls' ∧ fAt ups (t : Int) = innerV ls'
theorem innerV_snoc (l : List Int) (t : Int) : innerV (l ++ [t]) = t := by simp [innerV]
theorem Chain.inner {ats : List St} {ups : List Int} {i : Nat} {ls : List Int} (h : Chain ats ups i ls) : innerV ls = -1 ∨ ∃ t : Nat, innerV ls = (t : Int) ∧ t < i := by
  rcases h with rfl | ⟨ls', t, rfl, ht, _⟩
  · left; rfl
  · right; exact ⟨t, innerV_snoc _ _, ht⟩
theorem Chain.same {ats : List St} {ups : List Int} {i : Nat} {l m : List Int} (h : Chain ats ups i l) (h' : Chain ats ups i m) (e : innerV l = innerV m) : l = m := by
  rcases h with rfl | ⟨l', t, rfl, _, _, hl, _⟩
  · rcases h' with rfl | ⟨m', u, rfl, _⟩
    · rfl
    · rw [innerV_snoc] at e
      exact absurd e (by show (-1 : Int) ≠ _; omega)
  · rcases h' with rfl | ⟨m', u, rfl, _, _, hm, _⟩
    · rw [innerV_snoc] at e
      exact absurd e (by show _ ≠ (-1 : Int); omega)
    · rw [innerV_snoc, innerV_snoc] at e
      rw [e] at hl
      rw [hl] at hm
      rw [hm, e]
theorem Chain.drop {ats : List St} {ups : List Int} {i : Nat} {l : List Int} (hat : ∀ t : Nat, (atSt ats (t : Int)).there = true → Chain ats ups i (atSt ats (t : Int)).ls) (h : Chain ats ups i l) : Chain ats ups i l.dropLast := by
  rcases h with rfl | ⟨l', t, rfl, _, h1, hl, _⟩
  · exact .inl rfl
  · rw [List.dropLast_concat, ← hl]
    exact hat t h1
theorem Chain.up {ats : List St} {ups : List Int} {i : Nat} {l : List Int} (h : Chain ats ups i l) (h0 : 0 ≤ innerV l) : fAt ups (innerV l) = innerV l.dropLast := by
  rcases h with rfl | ⟨l', t, rfl, _, _, _, hu⟩
  · exact absurd h0 (by decide)
  · rw [innerV_snoc, List.dropLast_concat, hu]
theorem eqR_iff {a b : St} (ha : Good a.ty) (hb : Good b.ty) {ats : List St} {ups : List Int} {i : Nat} (ca : Chain ats ups i a.ls) (cb : Chain ats ups i b.ls) : eqR (cvS a) (cvS b) = sameV a b := by
  unfold eqR sameV cvS
  simp only
  have e1 : decide (cvB a.ty = cvB b.ty) = decide (a.ty = b.ty) := by
    by_cases h : a.ty = b.ty
    · simp [h]
    · have : ¬ cvB a.ty = cvB b.ty := fun e => h (cvB_inj ha hb e)
      simp [h, this]
  have e2 : decide (innerV a.ls = innerV b.ls) = decide (a.ls = b.ls) := by
    by_cases h : a.ls = b.ls
    · simp [h]
    · have : ¬ innerV a.ls = innerV b.ls := fun e => h (ca.same cb e)
      simp [h, this]
  rw [e1, e2]
  simp
structure Rel (P : Prg) (i : Nat) (ats : List St) (rs : List Rs) (ups : List Int) : Prop where
  la : ats.length = P.cd.length
  lr : rs.length = P.cd.length
  lu : ups.length = P.cd.length
  off : ∀ k : Nat, (atSt ats (k : Int)).there = false → (atRs rs (k : Int)).got = false
  on : ∀ k : Nat, (atSt ats (k : Int)).there = true → atRs rs (k : Int) = cvS (atSt ats (k : Int)) ∧ Good (atSt ats (k : Int)).ty ∧ Chain ats ups i (atSt ats (k : Int)).ls
theorem there_lt {ats : List St} {k : Nat} (h : (atSt ats (k : Int)).there = true) : k < ats.length := by
  rcases Nat.lt_or_ge k ats.length with h1 | h1
  · exact h1
  · simp [atSt, List.getElem?_eq_none h1] at h
theorem atSt_set (ats : List St) {k j : Nat} (s : St) (hk : k < ats.length) : atSt (ats.set k s) (j : Int) = if j = k then s else atSt ats (j : Int) := by
  unfold atSt
  rw [Int.toNat_natCast, List.getElem?_set]
  by_cases h : k = j
  · subst h
    simp [hk]
  · rw [if_neg h, if_neg (fun e => h e.symm)]
theorem atRs_set (ats : List Rs) {k j : Nat} (s : Rs) (hk : k < ats.length) : atRs (ats.set k s) (j : Int) = if j = k then s else atRs ats (j : Int) := by
  unfold atRs
  rw [Int.toNat_natCast, List.getElem?_set]
  by_cases h : k = j
  · subst h
    simp [hk]
  · rw [if_neg h, if_neg (fun e => h e.symm)]
theorem sameV_eq {a b : St} (h : sameV a b = true) : a.ty = b.ty ∧ a.ls = b.ls ∧ a.hand = b.hand := by
  simpa [sameV, and_assoc] using h
theorem putSt_same {ats : List St} {k : Nat} {s : St} (ht : (atSt ats (k : Int)).there = true) (hs : sameV (atSt ats (k : Int)) s = true) : putSt ats ((k : Int), s) = ats := by
  have hk := there_lt ht
  obtain ⟨h1, h2, h3⟩ := sameV_eq hs
  have e : atSt ats (k : Int) = ats[k] := by simp [atSt, hk]
  unfold putSt
  simp only [Int.toNat_natCast]
  have : ({ s with there := true } : St) = ats[k] := by
    rw [← e]
    obtain ⟨a, b, c, d⟩ := s
    generalize atSt ats (k : Int) = x at *
    obtain ⟨a', b', c', d'⟩ := x
    simp only at *
    subst ht h1 h2 h3
    rfl
  rw [this, List.set_getElem_self]
/-- a place gets a standing -/
theorem Rel.put {P : Prg} {i : Nat} {ats : List St} {rs : List Rs} {ups : List Int} (h : Rel P i ats rs ups) {k : Nat} {s : St} (hk : k < P.cd.length) (hg : Good s.ty) (hc : Chain ats ups i s.ls)
    (hs : (atSt ats (k : Int)).there = true → sameV (atSt ats (k : Int)) s = true) :
    Rel P i (putSt ats ((k : Int), s)) (if (atRs rs (k : Int)).got then rs else rs.set k (cvS s)) ups ∧ (∀ ls, Chain ats ups i ls → Chain (putSt ats ((k : Int), s)) ups i ls) ∧ (atSt (putSt ats ((k : Int), s)) (k : Int)).there = true ∧ sameV (atSt (putSt ats ((k : Int), s)) (k : Int)) s = true ∧ (∀ j : Nat, j ≠ k → atSt (putSt ats ((k : Int), s)) (j : Int) = atSt ats (j : Int)) := by
  cases ht : (atSt ats (k : Int)).there
  · have hr := h.off k ht
    rw [hr]
    simp only [Bool.false_eq_true, if_false]
    have hset : ∀ j : Nat, atSt (putSt ats ((k : Int), s)) (j : Int) = if j = k then { s with there := true } else atSt ats (j : Int) := fun j => by
      unfold putSt
      exact atSt_set ats _ (by rw [h.la]; exact hk)
    have hch : ∀ ls, Chain ats ups i ls → Chain (putSt ats ((k : Int), s)) ups i ls := by
      rintro ls (rfl | ⟨ls', t, rfl, h1, h2, h3, h4⟩)
      · exact .inl rfl
      · have htk : t ≠ k := fun e => by rw [e, ht] at h2; cases h2
        exact .inr ⟨ls', t, rfl, h1, by rw [hset, if_neg htk]; exact h2, by rw [hset, if_neg htk]; exact h3, h4⟩
    refine ⟨⟨by unfold putSt; rw [List.length_set]; exact h.la, by rw [List.length_set]; exact h.lr, h.lu, fun j hj => ?_, fun j hj => ?_⟩, hch, ?_, ?_, ?_⟩
    · rw [hset] at hj
      rw [atRs_set rs _ (by rw [h.lr]; exact hk)]
      by_cases e : j = k
      · rw [if_pos e] at hj
        cases hj
      · rw [if_neg e] at hj ⊢
        exact h.off j hj
    · rw [hset] at hj ⊢
      rw [atRs_set rs _ (by rw [h.lr]; exact hk)]
      by_cases e : j = k
      · rw [if_pos e, if_pos e]
        exact ⟨rfl, hg, hch _ hc⟩
      · rw [if_neg e] at hj ⊢
        rw [if_neg e]
        obtain ⟨a, b, c⟩ := h.on j hj
        exact ⟨a, b, hch _ c⟩
    · rw [hset, if_pos rfl]
    · rw [hset, if_pos rfl]
      simp [sameV]
    · intro j hj
      rw [hset, if_neg hj]
  · have e := h.on k ht
    have hr : (atRs rs (k : Int)).got = true := by rw [e.1]; rfl
    rw [hr, putSt_same ht (hs ht)]
    exact ⟨h, fun _ h => h, ht, hs ht, fun _ _ => rfl⟩
theorem sameV_comm (a b : St) : sameV a b = sameV b a := by
  unfold sameV
  have e1 : decide (a.ty = b.ty) = decide (b.ty = a.ty) := decide_eq_decide.2 ⟨Eq.symm, Eq.symm⟩
  have e2 : decide (a.ls = b.ls) = decide (b.ls = a.ls) := decide_eq_decide.2 ⟨Eq.symm, Eq.symm⟩
  have e3 : decide (a.hand = b.hand) = decide (b.hand = a.hand) := decide_eq_decide.2 ⟨Eq.symm, Eq.symm⟩
  rw [e1, e2, e3]
theorem sameV_trans {a b c : St} (h : sameV a b = true) : sameV a c = sameV b c := by
  obtain ⟨h1, h2, h3⟩ := sameV_eq h
  unfold sameV
  rw [h1, h2, h3]
def cvW (l : List (Int × St)) : List (Int × Rs) := l.map fun u => (u.1, cvS u.2)
/-- a standing that may be given to a place -/
structure Fine (P : Prg) (ats : List St) (ups : List Int) (i : Nat) (u : Int × St) : Prop where
  p : pIn P u.1
  g : Good u.2.ty
  c : Chain ats ups i u.2.ls
theorem got_of {P : Prg} {i : Nat} {ats : List St} {rs : List Rs} {ups : List Int} (h : Rel P i ats rs ups) {u : Int × St} (hu : Fine P ats ups i u) : ((atRs rs u.1).got && !eqR (atRs rs u.1) (cvS u.2)) = ((atSt ats u.1).there && !sameV (atSt ats u.1) u.2) := by
  obtain ⟨a, s⟩ := u
  obtain ⟨⟨h0, h1⟩, hg, hc⟩ := hu
  simp only at *
  obtain ⟨k, rfl⟩ := Int.eq_ofNat_of_zero_le h0
  cases ht : (atSt ats (k : Int)).there
  · rw [h.off k ht]; rfl
  · obtain ⟨e1, e2, e3⟩ := h.on k ht
    rw [e1, eqR_iff e2 hg e3 hc]
    rfl
theorem Rel.put1 {P : Prg} {i : Nat} {ats : List St} {rs : List Rs} {ups : List Int} (h : Rel P i ats rs ups) {u : Int × St} (hu : Fine P ats ups i u) (l : List (Int × Rs)) (hs : ((atSt ats u.1).there && !sameV (atSt ats u.1) u.2) = false) :
    ∃ rs', putsR ((u.1, cvS u.2) :: l) rs = putsR l rs' ∧ Rel P i (putSt ats u) rs' ups ∧ (∀ ls, Chain ats ups i ls → Chain (putSt ats u) ups i ls) ∧ (atSt (putSt ats u) u.1).there = true ∧ sameV (atSt (putSt ats u) u.1) u.2 = true ∧ (∀ v : Int, pIn P v → v ≠ u.1 → atSt (putSt ats u) v = atSt ats v) := by
  have hgo := got_of h hu
  rw [hs] at hgo
  obtain ⟨a, s⟩ := u
  obtain ⟨⟨h0, h1⟩, hg, hc⟩ := hu
  simp only at *
  obtain ⟨k, rfl⟩ := Int.eq_ofNat_of_zero_le h0
  simp only [Int.toNat_natCast] at h1
  obtain ⟨q1, q2, q3, q4, q5⟩ := h.put h1 hg hc (fun ht => by rw [ht] at hs; simpa using hs)
  refine ⟨_, ?_, q1, q2, q3, q4, fun v hv hne => ?_⟩
  · rw [putsR]
    simp only [Int.toNat_natCast]
    cases hgt : (atRs rs (k : Int)).got
    · simp
    · rw [hgt] at hgo
      have : eqR (atRs rs (k : Int)) (cvS s) = true := by simpa using hgo
      simp [this]
  · obtain ⟨j, rfl⟩ := Int.eq_ofNat_of_zero_le hv.1
    exact q5 j (fun e => hne (by rw [e]))
/-- the standings go on: the same clash, the same places -/
theorem puts_law {P : Prg} {i : Nat} {ats : List St} {rs : List Rs} {ups : List Int} (h : Rel P i ats rs ups) (l : List (Int × St)) (h2 : l.length ≤ 2) (hl : ∀ u ∈ l, Fine P ats ups i u) :
    (clash l ats = true → (cvW l).any (fun v => (atRs rs v.1).got && !eqR (atRs rs v.1) v.2) = true ∨ (putsR (cvW l) rs).1 = 94) ∧
    (clash l ats = false → (cvW l).any (fun v => (atRs rs v.1).got && !eqR (atRs rs v.1) v.2) = false ∧ (putsR (cvW l) rs).1 = 0 ∧ Rel P i (l.foldl putSt ats) (putsR (cvW l) rs).2 ups) := by
  rcases l with _ | ⟨u, _ | ⟨v, _ | ⟨x, l⟩⟩⟩
  · exact ⟨fun e => by simp [clash] at e, fun _ => ⟨rfl, rfl, h⟩⟩
  · have hu := hl u (by simp)
    have e1 := got_of h hu
    unfold clash cvW
    simp only [List.map_cons, List.map_nil, List.any_cons, List.any_nil, Bool.or_false, e1, List.foldl_cons, List.foldl_nil]
    refine ⟨fun e => .inl e, fun e => ?_⟩
    obtain ⟨rs', e2, q1, _⟩ := h.put1 hu [] e
    rw [e2]
    exact ⟨e, rfl, q1⟩
  · have hu := hl u (by simp)
    have hv := hl v (by simp)
    have e1 := got_of h hu
    have e2 := got_of h hv
    unfold clash cvW
    simp only [List.map_cons, List.map_nil, List.any_cons, List.any_nil, Bool.or_false, e1, e2, List.foldl_cons, List.foldl_nil]
    generalize hA : ((atSt ats u.1).there && !sameV (atSt ats u.1) u.2) = A
    generalize hB : ((atSt ats v.1).there && !sameV (atSt ats v.1) v.2) = B
    cases A
    · obtain ⟨rs', e3, q1, q2, q3, q4, q5⟩ := h.put1 hu [(v.1, cvS v.2)] hA
      have hv' : Fine P (putSt ats u) ups i v := ⟨hv.p, hv.g, q2 _ hv.c⟩
      rw [e3]
      have e4 := got_of q1 hv'
      by_cases hp : u.1 = v.1
      · have hpb : (u.1 == v.1) = true := by simpa using hp
        rw [hpb]
        rw [hp] at q3 q4
        rw [q3, sameV_trans q4] at e4
        cases hsm : sameV u.2 v.2
        · refine ⟨fun _ => .inr ?_, fun e => by simp at e⟩
          rw [hsm] at e4
          simp only [Bool.not_false, Bool.and_true] at e4
          have e5 : (atRs rs' v.1).got = true ∧ eqR (atRs rs' v.1) (cvS v.2) = false := by simpa using e4
          rw [putsR]
          simp only [e5.1, e5.2, if_true, Bool.false_eq_true, if_false]
        · simp only [Bool.not_true, Bool.and_false, Bool.false_or]
          cases B
          · refine ⟨fun e => by simp at e, fun _ => ?_⟩
            obtain ⟨rs'', e6, r1, _⟩ := q1.put1 hv' [] (by rw [q3, sameV_trans q4, hsm]; rfl)
            rw [e6]
            exact ⟨rfl, rfl, r1⟩
          · exact ⟨fun _ => .inl rfl, fun e => by simp at e⟩
      · have hpb : (u.1 == v.1) = false := by simpa using hp
        rw [hpb]
        rw [q5 v.1 hv.p (fun e => hp e.symm), hB] at e4
        simp only [Bool.false_and, Bool.or_false, Bool.false_or]
        cases B
        · refine ⟨fun e => by simp at e, fun _ => ?_⟩
          obtain ⟨rs'', e6, r1, _⟩ := q1.put1 hv' [] (by rw [q5 v.1 hv.p (fun e => hp e.symm)]; exact hB)
          rw [e6]
          exact ⟨rfl, rfl, r1⟩
        · exact ⟨fun _ => .inl rfl, fun e => by simp at e⟩
    · exact ⟨fun _ => .inl rfl, fun e => by simp at e⟩
  · simp at h2
end Go.Proofs.Ytjflllfkgbhemaa

/- The plain law of one look: the verifier's and the reference's tell the same. Conditions: none. -/
namespace Go.Proofs.Ytjflllfkgbhemaa
open Go.RowKit Go.PlainAid
theorem hand_law (P : Prg) (op a hand : Int) : (handR P op a hand).1 = handsV P op a hand ∧ (handsV P op a hand = true → (handR P op a hand).2 = holdV P op a hand) := by
  unfold handR handsV holdV
  by_cases o36 : op = 36
  · simp [o36]
  by_cases o37 : op = 37
  · simp [o37]
  by_cases o35 : op = 35
  · subst o35
    cases ghost P a <;> simp
  by_cases o34 : op = 34
  · subst o34
    cases ghost P a <;> simp
  by_cases o28 : op = 28
  · simp [o28]
  by_cases o29 : op = 29
  · simp [o29]
  by_cases o30 : op = 30
  · simp [o30]
  by_cases hr : (decide (1 ≤ op) && decide (op ≤ 21)) = true
  · simp only [if_neg o36, if_neg o37, if_neg o35, if_neg o34, if_neg o28, if_neg o29, if_neg o30, hr, Bool.true_or, if_true]
    exact ⟨trivial, fun _ => trivial⟩
  · have hr' : (decide (1 ≤ op) && decide (op ≤ 21)) = false := by simpa using hr
    have e1 : (op == 28) = false := by simpa using o28
    have e2 : (op == 29) = false := by simpa using o29
    have e3 : (op == 30) = false := by simpa using o30
    simp only [if_neg o36, if_neg o37, if_neg o35, if_neg o34, if_neg o28, if_neg o29, if_neg o30, hr', e1, e2, e3, Bool.false_or, Bool.false_eq_true, if_false]
    exact ⟨trivial, fun h => by have : hand = 0 := by simpa using h
                                exact this.symm⟩
theorem Chain.mono {ats : List St} {ups ups' : List Int} {i j : Nat} {ls : List Int} (h : Chain ats ups i ls) (hij : i ≤ j) (hu : ∀ t : Nat, t < i → fAt ups' (t : Int) = fAt ups (t : Int)) : Chain ats ups' j ls := by
  rcases h with rfl | ⟨l', t, rfl, h1, h2, h3, h4⟩
  · exact .inl rfl
  · exact .inr ⟨l', t, rfl, by omega, h2, h3, by rw [hu t h1]; exact h4⟩
theorem fAt_set (l : List Int) (i t : Nat) (v : Int) (h : t ≠ i) : fAt (l.set i v) (t : Int) = fAt l (t : Int) := by
  unfold fAt
  rw [Int.toNat_natCast, List.getElem?_set_ne (fun e => h e.symm)]
theorem fAt_set_same (l : List Int) (i : Nat) (v : Int) (h : i < l.length) : fAt (l.set i v) (i : Int) = v := by
  unfold fAt
  rw [Int.toNat_natCast, List.getElem?_set_self h]
  rfl
theorem upsR_at (i : Nat) (x : Ins) (b : Rs) (ups : List Int) {t : Nat} (h : t < i) : fAt (upsR i x b ups) (t : Int) = fAt ups (t : Int) := by
  unfold upsR
  split
  · exact fAt_set _ _ _ _ (by omega)
  · rfl
theorem upsR_len (i : Nat) (x : Ins) (b : Rs) (ups : List Int) : (upsR i x b ups).length = ups.length := by
  unfold upsR
  split
  · rw [List.length_set]
  · rfl
theorem Rel.next {P : Prg} {i : Nat} {ats : List St} {rs : List Rs} {ups : List Int} (h : Rel P i ats rs ups) (x : Ins) (b : Rs) : Rel P (i + 1) ats rs (upsR i x b ups) :=
  ⟨h.la, h.lr, by rw [upsR_len]; exact h.lu, h.off, fun k hk => by
    obtain ⟨e1, e2, e3⟩ := h.on k hk
    exact ⟨e1, e2, e3.mono (by omega) fun t ht => upsR_at i x b ups ht⟩⟩
theorem ways_law (P : Prg) (i : Nat) (x : Ins) (s : St) (ups : List Int) {ats : List St} (hc : Chain ats ups i s.ls) (h26 : x.op = 26 → 0 ≤ innerV s.ls) : goesR i x (cvS (stBeh P x s)) ups = cvW (waysV i x (stBeh P x s)) := by
  have hls : (stBeh P x s).ls = s.ls := (takenV_hand x.op s).2.1
  unfold goesR waysV cvW
  by_cases o0 : x.op = 0
  · simp [o0]
  by_cases o27 : x.op = 27
  · simp [o27]
  by_cases o22 : x.op = 22
  · simp [o22]
  by_cases o23 : x.op = 23
  · simp [o23]
  by_cases o25 : x.op = 25
  · simp only [o25]
    simp only [show ¬ (25 : Int) = 0 by decide, show ¬ (25 : Int) = 27 by decide, show ¬ (25 : Int) = 22 by decide, show ¬ (25 : Int) = 23 by decide, if_false, if_true, List.map_cons, List.map_nil]
    have : cvS { stBeh P x s with ls := (stBeh P x s).ls ++ [(i : Int)] } = { cvS (stBeh P x s) with lp := (i : Int) } := by
      unfold cvS
      simp only [innerV_snoc]
    rw [this]
  by_cases o26 : x.op = 26
  · simp only [o26]
    simp only [show ¬ (26 : Int) = 0 by decide, show ¬ (26 : Int) = 27 by decide, show ¬ (26 : Int) = 22 by decide, show ¬ (26 : Int) = 23 by decide, show ¬ (26 : Int) = 25 by decide, if_false, if_true, List.map_cons, List.map_nil]
    have : cvS { stBeh P x s with ls := (stBeh P x s).ls.dropLast } = { cvS (stBeh P x s) with lp := fAt ups (cvS (stBeh P x s)).lp } := by
      unfold cvS
      simp only [hls]
      rw [hc.up (h26 o26)]
    rw [this]
  simp only [if_neg o0, if_neg o27, if_neg o22, if_neg o23, if_neg o25, if_neg o26, List.map_cons, List.map_nil]
theorem turnR_in {P : Prg} {a : Int} (h : pIn P a) : turnR P a = ((insAt P a).op == 25) := by
  unfold turnR
  have h0 := h.1
  have h1 := h.2
  rw [decide_eq_true h0, decide_eq_true (show a < (P.cd.length : Int) by omega)]
  rfl
theorem jbad_law {P : Prg} {i : Nat} {x : Ins} (h : pIn P x.a) : jbadR P i x = jbad P i x := by
  unfold jbadR jbad
  rw [turnR_in h]
def StsOk (P : Prg) (sts : List Bool) : Prop := ∀ k : Nat, k < P.cd.length → (sts[k]?).getD false = (decide (P.miss = (k : Int)) || decide ((k : Int) ∈ P.os))
theorem inner_nil {ats : List St} {ups : List Int} {i : Nat} {ls : List Int} (h : Chain ats ups i ls) : decide (innerV ls < 0) = (ls.length == 0) := by
  rcases h with rfl | ⟨l', t, rfl, _⟩
  · rfl
  · rw [innerV_snoc]
    have : ¬ ((t : Int) < 0) := by omega
    simp [this]
theorem jumps_law {P : Prg} {i : Nat} {x : Ins} {s : St} {ats : List St} {rs : List Rs} {ups : List Int} {sts : List Bool} (hi : i < P.cd.length) (hx : Chk P x) (h : Rel P i ats rs ups) (hsts : StsOk P sts) (hg : Good (takenV x.op s).1.ty) (hc : Chain ats ups i s.ls) :
    jumpsR P i x (cvB (takenV x.op s).1.ty) (innerV s.ls) rs sts = jumpsV P i x (takenV x.op s).1 ats := by
  have hls : (takenV x.op s).1.ls = s.ls := (takenV_hand x.op s).2.1
  unfold jumpsR jumpsV
  rw [hls]
  by_cases oj : x.op = 22 ∨ x.op = 23
  · rw [if_pos oj, if_pos oj, jbad_law (hx.pj (by omega))]
  rw [if_neg oj, if_neg oj]
  by_cases o24 : x.op = 24
  · rw [if_pos o24, if_pos o24]
    unfold turnR
    have h0 : (0 : Int) ≤ (i : Int) + 1 := by omega
    rw [decide_eq_true h0]
    have : decide ((i : Int) + 1 < (P.cd.length : Int)) = decide (i + 1 < P.cd.length) := decide_eq_decide.2 ⟨fun h => by omega, fun h => by omega⟩
    rw [this]
    rfl
  rw [if_neg o24, if_neg o24]
  by_cases o25 : x.op = 25
  · rw [if_pos o25, if_pos o25, jbad_law (hx.pj (by omega)), hsts i hi]
    have : (P.miss != (i : Int)) = !decide (P.miss = (i : Int)) := by
      by_cases e : P.miss = (i : Int) <;> simp [e]
    rw [this]
    simp only [Bool.not_or, Bool.and_assoc]
  rw [if_neg o25, if_neg o25]
  by_cases o26 : x.op = 26
  · rw [if_pos o26, if_pos o26, jbad_law (hx.pj (by omega))]
  rw [if_neg o26, if_neg o26]
  by_cases o27 : x.op = 27
  · rw [if_pos o27, if_pos o27]
    rcases hc with hn | ⟨l', t, hl, h1, h2, h3, h4⟩
    · rw [hn]
      rfl
    · obtain ⟨e1, e2, e3⟩ := h.on t h2
      rw [hl, innerV_snoc, e1, List.dropLast_concat]
      congr 1
      unfold sameV cvS
      simp only [h3, decide_true, Bool.and_true]
      apply decide_eq_decide.2
      exact ⟨fun e => (cvB_inj hg e2 e).symm, fun e => by rw [e]⟩
  rw [if_neg o27, if_neg o27]
  by_cases o0 : x.op = 0
  · rw [if_pos o0, if_pos o0]
    exact inner_nil hc
  rw [if_neg o0, if_neg o0]
theorem ways_le {P : Prg} {i : Nat} {x : Ins} {s : St} (hi : i < P.cd.length) (hx : Chk P x) : ∀ u ∈ waysV i x s, u.1 ≤ (P.cd.length : Int) := by
  intro u hu
  unfold waysV at hu
  by_cases o0 : x.op = 0
  · simp [o0] at hu
  by_cases o27 : x.op = 27
  · simp [o27] at hu
  by_cases oj : x.op = 22 ∨ x.op = 23 ∨ x.op = 25 ∨ x.op = 26
  · have hp := hx.pj oj
    have h0 := hp.1
    have h1 := hp.2
    rcases oj with oj | oj | oj | oj <;> simp [oj] at hu
    · subst hu; simp only; omega
    all_goals
      rcases hu with rfl | rfl <;> simp only <;> omega
  · have h1 : x.op ≠ 22 ∧ x.op ≠ 23 ∧ x.op ≠ 25 ∧ x.op ≠ 26 := by omega
    simp [o0, o27, h1] at hu
    subst hu
    simp only
    omega
theorem any_end {P : Prg} {l : List (Int × St)} (h : ∀ u ∈ l, u.1 ≤ (P.cd.length : Int)) : (cvW l).any (fun v => v.1 == (P.cd.length : Int)) = l.any (fun u => decide ((P.cd.length : Int) ≤ u.1)) := by
  unfold cvW
  rw [List.any_map]
  induction l with
  | nil => rfl
  | cons u l ih =>
    rw [List.any_cons, List.any_cons, ih (fun v hv => h v (by simp [hv]))]
    congr 1
    have hu := h u (by simp)
    simp only [Function.comp]
    by_cases e : u.1 = (P.cd.length : Int)
    · simp [e]
    · have : ¬ (P.cd.length : Int) ≤ u.1 := by omega
      simp [e, this]
theorem ways_fine {P : Prg} {i : Nat} {x : Ins} {s : St} {ats : List St} {ups : List Int} (hx : Chk P x) (hs : atSt ats (i : Int) = s) (ht : s.there = true) (hlu : i < ups.length) (hg : Good (takenV x.op s).1.ty) (hc : Chain ats ups i s.ls)
    (hat : ∀ t : Nat, (atSt ats (t : Int)).there = true → Chain ats ups i (atSt ats (t : Int)).ls)
    (h5 : ∀ u ∈ waysV i x (stBeh P x s), u.1 < P.cd.length) : ∀ u ∈ waysV i x (stBeh P x s), Fine P ats (upsR i x (cvS (stBeh P x s)) ups) (i + 1) u := by
  have hpos := waysV_pos P i x (stBeh P x s) hx h5
  have hls : (stBeh P x s).ls = s.ls := (takenV_hand x.op s).2.1
  have hm : ∀ ls, Chain ats ups i ls → Chain ats (upsR i x (cvS (stBeh P x s)) ups) (i + 1) ls := fun ls h => h.mono (by omega) fun t ht => upsR_at _ _ _ _ ht
  intro u hu
  refine ⟨hpos u hu, ?_, ?_⟩
  · have : u.2.ty = (stBeh P x s).ty := by
      unfold waysV at hu
      repeat' split at hu
      all_goals simp at hu
      all_goals first
        | (rw [hu]; done)
        | (rcases hu with hu | hu <;> rw [hu])
    rw [this]
    exact hg
  · by_cases o25 : x.op = 25
    · unfold waysV at hu
      simp [o25] at hu
      rcases hu with rfl | rfl
      · simp only [hls]
        refine .inr ⟨s.ls, i, rfl, by omega, by rw [hs]; exact ht, by rw [hs], ?_⟩
        unfold upsR
        rw [if_pos o25, fAt_set_same _ _ _ hlu]
        unfold cvS
        rw [hls]
      · simp only [hls]
        exact hm _ hc
    · by_cases o26 : x.op = 26
      · unfold waysV at hu
        simp [o26] at hu
        rcases hu with rfl | rfl
        · simp only [hls]
          exact hm _ hc
        · simp only [hls]
          exact hm _ (hc.drop hat)
      · have : u.2 = stBeh P x s := by
          unfold waysV at hu
          repeat' split at hu
          all_goals simp at hu
          all_goals first
            | (rw [hu]; done)
            | (rcases hu with hu | hu <;> rw [hu]; done)
            | (exfalso; exact o25 ‹_›)
            | (exfalso; exact o26 ‹_›)
        rw [this, hls]
        exact hm _ hc
theorem look_law {P : Prg} {i : Nat} {x : Ins} {ats : List St} {rs : List Rs} {ups : List Int} {sts : List Bool} (hi : i < P.cd.length) (hins : insE P x = 0) (h : Rel P i ats rs ups) (hf : Fits P ats) (hsts : StsOk P sts) :
    (placeR P i x rs ups sts).1 = (lookV P i x (atSt ats (i : Int)) ats).1 ∧ ((lookV P i x (atSt ats (i : Int)) ats).1 = 0 → Rel P (i + 1) (lookV P i x (atSt ats (i : Int)) ats).2 (placeR P i x rs ups sts).2.1 (placeR P i x rs ups sts).2.2) := by
  have hx := chk_of P x hins
  obtain ⟨k, r, hk, hr, _⟩ := insE_op P x hins
  have hk42 : k < 42 := by
    have := (List.getElem?_eq_some_iff.1 hr).1
    rw [table_length] at this
    exact this
  obtain ⟨s, hs⟩ : ∃ s, atSt ats (i : Int) = s := ⟨_, rfl⟩
  rw [hs]
  unfold placeR lookV
  cases ht : s.there
  · have := h.off i (by rw [hs]; exact ht)
    simp only [this, if_true]
    exact ⟨trivial, fun e => by simp at e⟩
  · obtain ⟨e1, e2, e3⟩ := h.on i (by rw [hs]; exact ht)
    rw [hs] at e1 e2 e3
    have hat : ∀ t : Nat, (atSt ats (t : Int)).there = true → Chain ats ups i (atSt ats (t : Int)).ls := fun t ht => (h.on t ht).2.2
    have hsz : s.ty.size ≤ 256 := by
      have hlt : i < ats.length := by rw [h.la]; exact hi
      have : ats[i]? = some s := by
        rw [← hs]; simp [atSt, hlt]
      exact (hf i s this).ty
    obtain ⟨p1, p2⟩ := ops_law ⟨k, hk42⟩ s hsz e2
    simp only [← hk] at p1 p2
    obtain ⟨q1, q2⟩ := hand_law P x.op x.a s.hand
    simp only [e1]
    simp only [cvS, Bool.true_eq_false, if_false]
    simp only [q1]
    by_cases h1 : handsV P x.op x.a s.hand = false
    · rw [if_pos h1, if_pos h1]
      exact ⟨rfl, fun e => by simp at e⟩
    rw [if_neg h1, if_neg h1]
    have q3 := q2 (by simpa using h1)
    simp only [p1]
    by_cases h2 : (takenV x.op s).2 = 0
    case neg =>
      rw [if_neg h2]
      simp only [ne_eq, h2, not_false_eq_true, if_true]
      exact ⟨trivial, fun e => absurd e (by first | exact h2 | trivial)⟩
    rw [if_pos h2]
    simp only [ne_eq, h2, not_true_eq_false, if_false]
    by_cases h3 : kindsV P x.op x.a x.c = false
    · rw [if_pos h3, if_pos h3]
      exact ⟨rfl, fun e => by simp at e⟩
    rw [if_neg h3, if_neg h3]
    simp only [jumps_law hi hx h hsts p2 e3]
    by_cases h4 : jumpsV P i x (takenV x.op s).1 ats = false
    · rw [if_pos h4, if_pos h4]
      exact ⟨rfl, fun e => by simp at e⟩
    rw [if_neg h4, if_neg h4]
    have hb : (⟨cvB (takenV x.op s).1.ty, innerV s.ls, (handR P x.op x.a s.hand).2, true⟩ : Rs) = cvS (stBeh P x s) := by
      unfold cvS stBeh
      simp only [(takenV_hand x.op s).2.1, q3]
    simp only [hb]
    have h26 : x.op = 26 → 0 ≤ innerV s.ls := fun e => by
      have h4' : jumpsV P i x (takenV x.op s).1 ats = true := by simpa using h4
      unfold jumpsV at h4'
      rw [(takenV_hand x.op s).2.1, e] at h4'
      simp at h4'
      exact h4'.2.1
    simp only [ways_law P i x s ups e3 h26, any_end (ways_le hi hx)]
    by_cases h5 : (waysV i x (stBeh P x s)).any (fun u => decide ((P.cd.length : Int) ≤ u.1)) = true
    · rw [if_pos h5, if_pos h5]
      exact ⟨rfl, fun e => by simp at e⟩
    rw [if_neg h5, if_neg h5]
    have h5' : ∀ u ∈ waysV i x (stBeh P x s), u.1 < P.cd.length := by
      intro u hu
      have : ¬ (P.cd.length : Int) ≤ u.1 := fun hle => h5 (List.any_eq_true.2 ⟨u, hu, by simpa using hle⟩)
      omega
    have hfine := ways_fine hx hs ht (by rw [h.lu]; exact hi) p2 e3 hat h5'
    obtain ⟨r1, r2⟩ := puts_law (h.next x (cvS (stBeh P x s))) _ (waysV_len i x (stBeh P x s)) hfine
    cases hcl : clash (waysV i x (stBeh P x s)) ats
    · obtain ⟨a1, a2, a3⟩ := r2 hcl
      rw [a1]
      simp only [Bool.false_eq_true, if_false]
      exact ⟨a2, fun _ => a3⟩
    · rcases r1 hcl with a1 | a1
      · rw [a1]
        simp only [if_true]
        exact ⟨trivial, fun e => by simp at e⟩
      · simp only [if_true]
        split
        · exact ⟨rfl, fun e => by simp at e⟩
        · exact ⟨a1, fun e => by simp at e⟩
end Go.Proofs.Ytjflllfkgbhemaa

/- The walks of SameInts, SameProgram, where what is compared is the same. Conditions: the rows lie in memory. -/
namespace Go.Proofs.Ytjflllfkgbhemaa
open Go.RowKit
set_option linter.unusedVariables false in
set_option linter.unusedSimpArgs false in
set_option maxRecDepth 100000 in
set_option maxHeartbeats 40000000 in
theorem same19_i (w : World) (oa ob : Option Addr) (n ca cb : Nat) (l : List Int) (ha : Src w oa n (ints l)) (hb : Src w ob n (ints l)) (hn : l.length = n) (hm : n ≤ maxLen) :
    Calls Try.prog 19 #[.slice oa n ca, .slice ob n cb] w fun en w' => en = .returned (.bool true) ∧ Below w.heap.size w w' := by
  have HA := hide ha
  have HB := hide hb
  unfold maxLen at hm
  clear ha hb
  go_enter Try.func19, Try.ntmps19
  go_wp2_with fail
  go_loopw [5] (fun tx W => ∃ i : Nat, tx = .int .i64 (i : Int) ∧ i ≤ n ∧ Below w.heap.size w W) (fun tx _ => n - (intOf tx).toNat)
  case atStart => exact ⟨0, rfl, Nat.zero_le _, Below.refl _ _⟩
  case round =>
    obtain ⟨i, rfl, hi, hW⟩ := hrel
    rename World => W
    have HW := hide hW
    clear hW
    by_cases hlt : i < n
    · obtain ⟨x, hx⟩ : ∃ x, l[i]? = some x := ⟨_, List.getElem?_eq_getElem (by omega)⟩
      obtain ⟨ad, rfl, hab, hcl⟩ := src_at HA.out (by omega)
      obtain ⟨bd, rfl, hbb, hdl⟩ := src_at HB.out (by omega)
      have c0 := hcl W HW.out i (.int .i64 x) (by simp [ints, hx])
      have d0 := hdl W HW.out i (.int .i64 x) (by simp [ints, hx])
      have u1 := IntWalk.i64_in ((i : Int) + 1) (by omega)
      have hI : (i : Int) < (n : Int) := by omega
      have HN := hide hn
      clear hcl hdl hab hbb hx hn
      go_wp2_with fail
      go_quiet (fail)
      all_goals
        go_wp2_with fail
        go_roundw
        case rel => exact ⟨i + 1, by go_num, by omega, below_drewN HW.out _⟩
        case measure =>
          simp only [intOf]
          omega
    · have hno : ¬ (i : Int) < (n : Int) := by omega
      have HN := hide hn
      clear hlt hi hn
      go_wp2_with fail
      go_ret
      exact ⟨rfl, HW.out⟩
set_option linter.unusedVariables false in
set_option linter.unusedSimpArgs false in
set_option maxRecDepth 100000 in
set_option maxHeartbeats 40000000 in
theorem same38_i (w : World) (oa ob : Option Addr) (n ca cb : Nat) (l : List Int) (ha : Src w oa n (ints l)) (hb : Src w ob n (ints l)) (hn : l.length = n) (hm : n ≤ maxLen) :
    Calls Try.prog 38 #[.slice oa n ca, .slice ob n cb] w fun en w' => en = .returned (.bool true) ∧ Below w.heap.size w w' := by
  have HA := hide ha
  have HB := hide hb
  unfold maxLen at hm
  clear ha hb
  go_enter Try.func38, Try.ntmps38
  go_wp2_with fail
  go_loopw [5] (fun tx W => ∃ i : Nat, tx = .int .i64 (i : Int) ∧ i ≤ n ∧ Below w.heap.size w W) (fun tx _ => n - (intOf tx).toNat)
  case atStart => exact ⟨0, rfl, Nat.zero_le _, Below.refl _ _⟩
  case round =>
    obtain ⟨i, rfl, hi, hW⟩ := hrel
    rename World => W
    have HW := hide hW
    clear hW
    by_cases hlt : i < n
    · obtain ⟨x, hx⟩ : ∃ x, l[i]? = some x := ⟨_, List.getElem?_eq_getElem (by omega)⟩
      obtain ⟨ad, rfl, hab, hcl⟩ := src_at HA.out (by omega)
      obtain ⟨bd, rfl, hbb, hdl⟩ := src_at HB.out (by omega)
      have c0 := hcl W HW.out i (.int .i64 x) (by simp [ints, hx])
      have d0 := hdl W HW.out i (.int .i64 x) (by simp [ints, hx])
      have u1 := IntWalk.i64_in ((i : Int) + 1) (by omega)
      have hI : (i : Int) < (n : Int) := by omega
      have HN := hide hn
      clear hcl hdl hab hbb hx hn
      go_wp2_with fail
      go_quiet (fail)
      all_goals
        go_wp2_with fail
        go_roundw
        case rel => exact ⟨i + 1, by go_num, by omega, below_drewN HW.out _⟩
        case measure =>
          simp only [intOf]
          omega
    · have hno : ¬ (i : Int) < (n : Int) := by omega
      have HN := hide hn
      clear hlt hi hn
      go_wp2_with fail
      go_ret
      exact ⟨rfl, HW.out⟩
set_option linter.unusedVariables false in
set_option linter.unusedSimpArgs false in
set_option maxRecDepth 100000 in
set_option maxHeartbeats 40000000 in
theorem sameProgram_i (w : World) (p q : PV) (P : Prg) (hp : AMem w p P) (hq : AMem w q P) :
    Calls Try.prog 29 #[p.val, q.val] w fun en w' => en = .returned (.bool true) ∧ Below w.heap.size w w' := by
  have HP := hide hp
  have HQ := hide hq
  have lens := hp.lens
  obtain ⟨e1, e2, e3, e4, e5, e6, _, _, _, _, _, _⟩ := hp
  obtain ⟨f1, f2, f3, f4, f5, f6, _, _, _, _, _, _⟩ := hq
  obtain ⟨xga, xva, xta, xoa, xca, xgl, xgc, xvl, xvc, xtl, xtc, xol, xoc, xcl, xcc, xmiss⟩ := p
  obtain ⟨yga, yva, yta, yoa, yca, ygl, ygc, yvl, yvc, ytl, ytc, yol, yoc, ycl, ycc, ymiss⟩ := q
  simp only at e1 e2 e3 e4 e5 e6 f1 f2 f3 f4 f5 f6
  subst e1 e2 e3 e4 e5 e6 f1 f2 f3 f4 f5 f6
  obtain ⟨l1, l2, l3, l4, l5⟩ := lens
  have HT := fun (W : World) (hb : Below w.heap.size w W) => hide (same38_i W xta yta P.ts.length xtc ytc P.ts (HP.out.t.below hb) (HQ.out.t.below hb) rfl l3)
  have HO := fun (W : World) (hb : Below w.heap.size w W) => hide (same38_i W xoa yoa P.os.length xoc yoc P.os (HP.out.o.below hb) (HQ.out.o.below hb) rfl l4)
  unfold maxLen at l1 l2 l3 l4 l5
  simp only [PV.val]
  have hB0 : Below w.heap.size w ((w.alloc (.cells #[.slice xga P.gh.length xgc, .slice xva P.vs.length xvc, .slice xta P.ts.length xtc, .slice xoa P.os.length xoc, .int .i64 P.miss, .slice xca P.cd.length xcc] 28)).alloc (.cells #[.slice yga P.gh.length ygc, .slice yva P.vs.length yvc, .slice yta P.ts.length ytc, .slice yoa P.os.length yoc, .int .i64 P.miss, .slice yca P.cd.length ycc] 28)) := ((Below.refl _ w).alloc (Nat.le_refl _) _).alloc (by simp) _
  have HKA := hide ((Blk.new w 28 #[.slice xga P.gh.length xgc, .slice xva P.vs.length xvc, .slice xta P.ts.length xtc, .slice xoa P.os.length xoc, .int .i64 P.miss, .slice xca P.cd.length xcc]).alloc (.cells #[.slice yga P.gh.length ygc, .slice yva P.vs.length yvc, .slice yta P.ts.length ytc, .slice yoa P.os.length yoc, .int .i64 P.miss, .slice yca P.cd.length ycc] 28))
  have HKB : Hid (Blk ((w.alloc (.cells #[.slice xga P.gh.length xgc, .slice xva P.vs.length xvc, .slice xta P.ts.length xtc, .slice xoa P.os.length xoc, .int .i64 P.miss, .slice xca P.cd.length xcc] 28)).alloc (.cells #[.slice yga P.gh.length ygc, .slice yva P.vs.length yvc, .slice yta P.ts.length ytc, .slice yoa P.os.length yoc, .int .i64 P.miss, .slice yca P.cd.length ycc] 28)) (w.heap.size + 1) 28 #[.slice yga P.gh.length ygc, .slice yva P.vs.length yvc, .slice yta P.ts.length ytc, .slice yoa P.os.length yoc, .int .i64 P.miss, .slice yca P.cd.length ycc]) := hide (by
    have := Blk.new (w.alloc (.cells #[.slice xga P.gh.length xgc, .slice xva P.vs.length xvc, .slice xta P.ts.length xtc, .slice xoa P.os.length xoc, .int .i64 P.miss, .slice xca P.cd.length xcc] 28)) 28 #[.slice yga P.gh.length ygc, .slice yva P.vs.length yvc, .slice yta P.ts.length ytc, .slice yoa P.os.length yoc, .int .i64 P.miss, .slice yca P.cd.length ycc]
    simpa using this)
  have HB0 := hide hB0
  clear hB0
  go_enter Try.func29, Try.ntmps29
  go_wp2_with fail
  go_at_call 38
  refine (HT _ HB0.out).out.mono ?_
  rintro en w3 ⟨rfl, hb3⟩
  have ka := HKA.out.below hb3 HKA.out.lt
  have kb := HKB.out.below hb3 HKB.out.lt
  have pa0 : w3.cell? ⟨w.heap.size, 0, none⟩ = some (.slice xga P.gh.length xgc) := by rw [(ka).cell]; rfl
  have pa1 : w3.cell? ⟨w.heap.size, 1, none⟩ = some (.slice xva P.vs.length xvc) := by rw [(ka).cell]; rfl
  have pa2 : w3.cell? ⟨w.heap.size, 2, none⟩ = some (.slice xta P.ts.length xtc) := by rw [(ka).cell]; rfl
  have pa3 : w3.cell? ⟨w.heap.size, 3, none⟩ = some (.slice xoa P.os.length xoc) := by rw [(ka).cell]; rfl
  have pa4 : w3.cell? ⟨w.heap.size, 4, none⟩ = some (.int .i64 P.miss) := by rw [(ka).cell]; rfl
  have pa5 : w3.cell? ⟨w.heap.size, 5, none⟩ = some (.slice xca P.cd.length xcc) := by rw [(ka).cell]; rfl
  have pb0 : w3.cell? ⟨w.heap.size + 1, 0, none⟩ = some (.slice yga P.gh.length ygc) := by rw [(kb).cell]; rfl
  have pb1 : w3.cell? ⟨w.heap.size + 1, 1, none⟩ = some (.slice yva P.vs.length yvc) := by rw [(kb).cell]; rfl
  have pb2 : w3.cell? ⟨w.heap.size + 1, 2, none⟩ = some (.slice yta P.ts.length ytc) := by rw [(kb).cell]; rfl
  have pb3 : w3.cell? ⟨w.heap.size + 1, 3, none⟩ = some (.slice yoa P.os.length yoc) := by rw [(kb).cell]; rfl
  have pb4 : w3.cell? ⟨w.heap.size + 1, 4, none⟩ = some (.int .i64 P.miss) := by rw [(kb).cell]; rfl
  have pb5 : w3.cell? ⟨w.heap.size + 1, 5, none⟩ = some (.slice yca P.cd.length ycc) := by rw [(kb).cell]; rfl
  have HKA3 := hide ka
  have HKB3 := hide kb
  have HB3 := hide (HB0.out.trans (hb3.mono HB0.out.size))
  clear ka kb hb3
  go_wp2_with fail
  go_at_call 38
  refine (HO _ HB3.out).out.mono ?_
  rintro en w4 ⟨rfl, hb4⟩
  have ka := HKA3.out.below hb4 HKA3.out.lt
  have kb := HKB3.out.below hb4 HKB3.out.lt
  have qa0 : w4.cell? ⟨w.heap.size, 0, none⟩ = some (.slice xga P.gh.length xgc) := by rw [(ka).cell]; rfl
  have qa1 : w4.cell? ⟨w.heap.size, 1, none⟩ = some (.slice xva P.vs.length xvc) := by rw [(ka).cell]; rfl
  have qa2 : w4.cell? ⟨w.heap.size, 2, none⟩ = some (.slice xta P.ts.length xtc) := by rw [(ka).cell]; rfl
  have qa3 : w4.cell? ⟨w.heap.size, 3, none⟩ = some (.slice xoa P.os.length xoc) := by rw [(ka).cell]; rfl
  have qa4 : w4.cell? ⟨w.heap.size, 4, none⟩ = some (.int .i64 P.miss) := by rw [(ka).cell]; rfl
  have qa5 : w4.cell? ⟨w.heap.size, 5, none⟩ = some (.slice xca P.cd.length xcc) := by rw [(ka).cell]; rfl
  have qb0 : w4.cell? ⟨w.heap.size + 1, 0, none⟩ = some (.slice yga P.gh.length ygc) := by rw [(kb).cell]; rfl
  have qb1 : w4.cell? ⟨w.heap.size + 1, 1, none⟩ = some (.slice yva P.vs.length yvc) := by rw [(kb).cell]; rfl
  have qb2 : w4.cell? ⟨w.heap.size + 1, 2, none⟩ = some (.slice yta P.ts.length ytc) := by rw [(kb).cell]; rfl
  have qb3 : w4.cell? ⟨w.heap.size + 1, 3, none⟩ = some (.slice yoa P.os.length yoc) := by rw [(kb).cell]; rfl
  have qb4 : w4.cell? ⟨w.heap.size + 1, 4, none⟩ = some (.int .i64 P.miss) := by rw [(kb).cell]; rfl
  have qb5 : w4.cell? ⟨w.heap.size + 1, 5, none⟩ = some (.slice yca P.cd.length ycc) := by rw [(kb).cell]; rfl
  have HKA4 := hide ka
  have HKB4 := hide kb
  have HB4 := hide (HB3.out.trans (hb4.mono HB3.out.size))
  clear ka kb hb4 pa0 pb0 pa1 pb1 pa2 pb2 pa3 pb3 pa4 pb4 pa5 pb5
  go_wp2_with fail
  go_loopw [5] (fun tx W => ∃ i : Nat, tx = .int .i64 (i : Int) ∧ i ≤ P.gh.length ∧ Below w4.heap.size w4 W) (fun tx _ => P.gh.length - (intOf tx).toNat)
  case atStart => exact ⟨0, rfl, Nat.zero_le _, (Below.refl _ _)⟩
  case round =>
    obtain ⟨i, rfl, hi, hW⟩ := hrel
    rename World => W
    have ka := HKA4.out.below hW HKA4.out.lt
    have kb := HKB4.out.below hW HKB4.out.lt
    have ra0 : W.cell? ⟨w.heap.size, 0, none⟩ = some (.slice xga P.gh.length xgc) := by rw [(ka).cell]; rfl
    have ra1 : W.cell? ⟨w.heap.size, 1, none⟩ = some (.slice xva P.vs.length xvc) := by rw [(ka).cell]; rfl
    have ra2 : W.cell? ⟨w.heap.size, 2, none⟩ = some (.slice xta P.ts.length xtc) := by rw [(ka).cell]; rfl
    have ra3 : W.cell? ⟨w.heap.size, 3, none⟩ = some (.slice xoa P.os.length xoc) := by rw [(ka).cell]; rfl
    have ra4 : W.cell? ⟨w.heap.size, 4, none⟩ = some (.int .i64 P.miss) := by rw [(ka).cell]; rfl
    have ra5 : W.cell? ⟨w.heap.size, 5, none⟩ = some (.slice xca P.cd.length xcc) := by rw [(ka).cell]; rfl
    have rb0 : W.cell? ⟨w.heap.size + 1, 0, none⟩ = some (.slice yga P.gh.length ygc) := by rw [(kb).cell]; rfl
    have rb1 : W.cell? ⟨w.heap.size + 1, 1, none⟩ = some (.slice yva P.vs.length yvc) := by rw [(kb).cell]; rfl
    have rb2 : W.cell? ⟨w.heap.size + 1, 2, none⟩ = some (.slice yta P.ts.length ytc) := by rw [(kb).cell]; rfl
    have rb3 : W.cell? ⟨w.heap.size + 1, 3, none⟩ = some (.slice yoa P.os.length yoc) := by rw [(kb).cell]; rfl
    have rb4 : W.cell? ⟨w.heap.size + 1, 4, none⟩ = some (.int .i64 P.miss) := by rw [(kb).cell]; rfl
    have rb5 : W.cell? ⟨w.heap.size + 1, 5, none⟩ = some (.slice yca P.cd.length ycc) := by rw [(kb).cell]; rfl
    have HW1 := hide hW
    clear hW ka kb
    by_cases hlt : i < P.gh.length
    · obtain ⟨x, hx⟩ : ∃ x, P.gh[i]? = some x := ⟨_, List.getElem?_eq_getElem hlt⟩
      obtain ⟨ad, had, hab, hcl⟩ := src_at HP.out.g (by show 0 < P.gh.length; omega)
      obtain ⟨bd, hbd, hbb, hdl⟩ := src_at HQ.out.g (by show 0 < P.gh.length; omega)
      simp only at had hbd
      subst had hbd
      have hWw := HB4.out.trans (HW1.out.mono HB4.out.size)
      have c0 := hcl W hWw i (.bool x) (by simp [boolsV, hx])
      have d0 := hdl W hWw i (.bool x) (by simp [boolsV, hx])
      have u1 := IntWalk.i64_in ((i : Int) + 1) (by omega)
      have hI : (i : Int) < (P.gh.length : Int) := by omega
      clear hcl hdl hab hbb hx hWw
      go_wp2_with fail
      go_quiet (fail)
      all_goals
        go_wp2_with fail
        go_roundw
        case rel => exact ⟨i + 1, by go_num, by omega, below_drewN HW1.out _⟩
        case measure =>
          simp only [intOf]
          omega
    · have hno : ¬ (i : Int) < (P.gh.length : Int) := by omega
      clear hlt hi
      go_wp2_with fail
      go_loopw [6] (fun tx W => ∃ i : Nat, tx = .int .i64 (i : Int) ∧ i ≤ P.vs.length ∧ Below w4.heap.size w4 W) (fun tx _ => P.vs.length - (intOf tx).toNat)
      case atStart => exact ⟨0, rfl, Nat.zero_le _, HW1.out⟩
      case round =>
        obtain ⟨i, rfl, hi, hW⟩ := hrel
        rename World => W
        have ka := HKA4.out.below hW HKA4.out.lt
        have kb := HKB4.out.below hW HKB4.out.lt
        have ra0 : W.cell? ⟨w.heap.size, 0, none⟩ = some (.slice xga P.gh.length xgc) := by rw [(ka).cell]; rfl
        have ra1 : W.cell? ⟨w.heap.size, 1, none⟩ = some (.slice xva P.vs.length xvc) := by rw [(ka).cell]; rfl
        have ra2 : W.cell? ⟨w.heap.size, 2, none⟩ = some (.slice xta P.ts.length xtc) := by rw [(ka).cell]; rfl
        have ra3 : W.cell? ⟨w.heap.size, 3, none⟩ = some (.slice xoa P.os.length xoc) := by rw [(ka).cell]; rfl
        have ra4 : W.cell? ⟨w.heap.size, 4, none⟩ = some (.int .i64 P.miss) := by rw [(ka).cell]; rfl
        have ra5 : W.cell? ⟨w.heap.size, 5, none⟩ = some (.slice xca P.cd.length xcc) := by rw [(ka).cell]; rfl
        have rb0 : W.cell? ⟨w.heap.size + 1, 0, none⟩ = some (.slice yga P.gh.length ygc) := by rw [(kb).cell]; rfl
        have rb1 : W.cell? ⟨w.heap.size + 1, 1, none⟩ = some (.slice yva P.vs.length yvc) := by rw [(kb).cell]; rfl
        have rb2 : W.cell? ⟨w.heap.size + 1, 2, none⟩ = some (.slice yta P.ts.length ytc) := by rw [(kb).cell]; rfl
        have rb3 : W.cell? ⟨w.heap.size + 1, 3, none⟩ = some (.slice yoa P.os.length yoc) := by rw [(kb).cell]; rfl
        have rb4 : W.cell? ⟨w.heap.size + 1, 4, none⟩ = some (.int .i64 P.miss) := by rw [(kb).cell]; rfl
        have rb5 : W.cell? ⟨w.heap.size + 1, 5, none⟩ = some (.slice yca P.cd.length ycc) := by rw [(kb).cell]; rfl
        have HW2 := hide hW
        clear hW ka kb
        by_cases hlt : i < P.vs.length
        · obtain ⟨x, hx⟩ : ∃ x, P.vs[i]? = some x := ⟨_, List.getElem?_eq_getElem hlt⟩
          obtain ⟨ad, had, hab, hcl⟩ := src_at HP.out.v (by show 0 < P.vs.length; omega)
          obtain ⟨bd, hbd, hbb, hdl⟩ := src_at HQ.out.v (by show 0 < P.vs.length; omega)
          simp only at had hbd
          subst had hbd
          have hWw := HB4.out.trans (HW2.out.mono HB4.out.size)
          obtain ⟨z0, z1, z2⟩ := varsV_get hx
          have c0 := hcl W hWw _ _ z0
          have c1 := hcl W hWw _ _ z1
          rw [add_fld ad (i * 3) 0] at c1
          have c2 := hcl W hWw _ _ z2
          rw [add_fld ad (i * 3) 1] at c2
          have d0 := hdl W hWw _ _ z0
          have d1 := hdl W hWw _ _ z1
          rw [add_fld bd (i * 3) 0] at d1
          have d2 := hdl W hWw _ _ z2
          rw [add_fld bd (i * 3) 1] at d2
          clear z0 z1 z2
          obtain ⟨x0, x1, x2⟩ := x
          simp only at c0 c1 c2 d0 d1 d2
          have u1 := IntWalk.i64_in ((i : Int) + 1) (by omega)
          have hI : (i : Int) < (P.vs.length : Int) := by omega
          clear hcl hdl hab hbb hx hWw
          go_wp2_with fail
          go_quiet (fail)
          all_goals
            go_wp2_with fail
            go_roundw
            case rel => exact ⟨i + 1, by go_num, by omega, below_drewN HW2.out _⟩
            case measure =>
              simp only [intOf]
              omega
        · have hno : ¬ (i : Int) < (P.vs.length : Int) := by omega
          clear hlt hi
          go_wp2_with fail
          go_loopw [7] (fun tx W => ∃ i : Nat, tx = .int .i64 (i : Int) ∧ i ≤ P.cd.length ∧ Below w4.heap.size w4 W) (fun tx _ => P.cd.length - (intOf tx).toNat)
          case atStart => exact ⟨0, rfl, Nat.zero_le _, HW2.out⟩
          case round =>
            obtain ⟨i, rfl, hi, hW⟩ := hrel
            rename World => W
            have ka := HKA4.out.below hW HKA4.out.lt
            have kb := HKB4.out.below hW HKB4.out.lt
            have ra0 : W.cell? ⟨w.heap.size, 0, none⟩ = some (.slice xga P.gh.length xgc) := by rw [(ka).cell]; rfl
            have ra1 : W.cell? ⟨w.heap.size, 1, none⟩ = some (.slice xva P.vs.length xvc) := by rw [(ka).cell]; rfl
            have ra2 : W.cell? ⟨w.heap.size, 2, none⟩ = some (.slice xta P.ts.length xtc) := by rw [(ka).cell]; rfl
            have ra3 : W.cell? ⟨w.heap.size, 3, none⟩ = some (.slice xoa P.os.length xoc) := by rw [(ka).cell]; rfl
            have ra4 : W.cell? ⟨w.heap.size, 4, none⟩ = some (.int .i64 P.miss) := by rw [(ka).cell]; rfl
            have ra5 : W.cell? ⟨w.heap.size, 5, none⟩ = some (.slice xca P.cd.length xcc) := by rw [(ka).cell]; rfl
            have rb0 : W.cell? ⟨w.heap.size + 1, 0, none⟩ = some (.slice yga P.gh.length ygc) := by rw [(kb).cell]; rfl
            have rb1 : W.cell? ⟨w.heap.size + 1, 1, none⟩ = some (.slice yva P.vs.length yvc) := by rw [(kb).cell]; rfl
            have rb2 : W.cell? ⟨w.heap.size + 1, 2, none⟩ = some (.slice yta P.ts.length ytc) := by rw [(kb).cell]; rfl
            have rb3 : W.cell? ⟨w.heap.size + 1, 3, none⟩ = some (.slice yoa P.os.length yoc) := by rw [(kb).cell]; rfl
            have rb4 : W.cell? ⟨w.heap.size + 1, 4, none⟩ = some (.int .i64 P.miss) := by rw [(kb).cell]; rfl
            have rb5 : W.cell? ⟨w.heap.size + 1, 5, none⟩ = some (.slice yca P.cd.length ycc) := by rw [(kb).cell]; rfl
            have HW3 := hide hW
            clear hW ka kb
            by_cases hlt : i < P.cd.length
            · obtain ⟨x, hx⟩ : ∃ x, P.cd[i]? = some x := ⟨_, List.getElem?_eq_getElem hlt⟩
              obtain ⟨ad, had, hab, hcl⟩ := src_at HP.out.c (by show 0 < P.cd.length; omega)
              obtain ⟨bd, hbd, hbb, hdl⟩ := src_at HQ.out.c (by show 0 < P.cd.length; omega)
              simp only at had hbd
              subst had hbd
              have hWw := HB4.out.trans (HW3.out.mono HB4.out.size)
              obtain ⟨z0, z1, z2, z3, z4⟩ := codeV_get hx
              have c0 := hcl W hWw _ _ z0
              have c1 := hcl W hWw _ _ z1
              rw [add_fld ad (i * 5) 0] at c1
              have c2 := hcl W hWw _ _ z2
              rw [add_fld ad (i * 5) 1] at c2
              have c3 := hcl W hWw _ _ z3
              rw [add_fld ad (i * 5) 2] at c3
              have c4 := hcl W hWw _ _ z4
              rw [add_fld ad (i * 5) 3] at c4
              have d0 := hdl W hWw _ _ z0
              have d1 := hdl W hWw _ _ z1
              rw [add_fld bd (i * 5) 0] at d1
              have d2 := hdl W hWw _ _ z2
              rw [add_fld bd (i * 5) 1] at d2
              have d3 := hdl W hWw _ _ z3
              rw [add_fld bd (i * 5) 2] at d3
              have d4 := hdl W hWw _ _ z4
              rw [add_fld bd (i * 5) 3] at d4
              clear z0 z1 z2 z3 z4
              obtain ⟨x0, x1, x2, x3, x4⟩ := x
              simp only at c0 c1 c2 c3 c4 d0 d1 d2 d3 d4
              have u1 := IntWalk.i64_in ((i : Int) + 1) (by omega)
              have hI : (i : Int) < (P.cd.length : Int) := by omega
              clear hcl hdl hab hbb hx hWw
              go_wp2_with fail
              go_quiet (fail)
              all_goals
                go_wp2_with fail
                go_roundw
                case rel => exact ⟨i + 1, by go_num, by omega, below_drewN HW3.out _⟩
                case measure =>
                  simp only [intOf]
                  omega
            · have hno : ¬ (i : Int) < (P.cd.length : Int) := by omega
              clear hlt hi
              go_wp2_with fail
              go_ret
              exact ⟨rfl, HB4.out.trans (HW3.out.mono HB4.out.size)⟩
end Go.Proofs.Ytjflllfkgbhemaa

/- The walk of KeptInts, where what was lent is as it was. Conditions: the rows lie in memory. -/
namespace Go.Proofs.Ytjflllfkgbhemaa
open Go.RowKit
theorem lend_mark (l : List Int) {j : Nat} (hj : j < 5) : fAt (lendL l) ((l.length + j : Nat) : Int) = -77 - ((l.length : Int) + (j : Int)) := by
  unfold fAt lendL lendJ
  rw [Int.toNat_natCast, List.getElem?_append_right (by omega), Nat.add_sub_cancel_left]
  simp [hj]
theorem src_blk {w : World} {g : Nat} {t : TypeId} {cs : List Value} (h : Blk w g t cs.toArray) (n : Nat) {xs : List Value} (hx : ∀ (j : Nat) (v : Value), xs[j]? = some v → cs[j]? = some v) : Src w (some ⟨g, 0, none⟩) n xs := fun _ =>
  ⟨⟨g, 0, none⟩, rfl, h.lt, fun j v hj => by
    have hadd : (⟨g, 0, none⟩ : Addr).add j = ⟨g, j, none⟩ := by unfold Addr.add; split <;> simp_all
    rw [hadd, h.cell]
    simpa using hx j v hj⟩
set_option linter.unusedVariables false in
set_option linter.unusedSimpArgs false in
set_option maxRecDepth 100000 in
set_option maxHeartbeats 40000000 in
theorem keptInts_i (w : World) (g : Nat) (ob : Option Addr) (cb : Nat) (l : List Int) (hg : Blk w g 3 (ints (lendL l)).toArray) (hb : Src w ob l.length (ints l)) (hm : l.length ≤ 1000000) :
    Calls Try.prog 30 #[.slice (some ⟨g, 0, none⟩) l.length (l.length + 5), .slice ob l.length cb] w fun en w' => en = .returned (.bool true) ∧ Only (fun k => k = g) w w' := by
  have ha : Src w (some ⟨g, 0, none⟩) l.length (ints l) := src_blk hg _ fun j v hj => by
    simp only [ints, List.getElem?_map, Option.map_eq_some_iff] at hj ⊢
    obtain ⟨x, hx, rfl⟩ := hj
    exact ⟨x, get_left hx, rfl⟩
  have HS := hide (same38_i w _ ob l.length (l.length + 5) cb l ha hb rfl (by unfold maxLen; omega))
  have HG := hide hg
  clear ha hb hg
  have u1 := IntWalk.i64_in ((l.length : Int) + 5) (by omega)
  generalize hn : l.length = n at *
  have HN := hide hn
  clear hn
  go_enter Try.func30, Try.ntmps30
  go_wp2_with fail
  go_at_call 38
  refine HS.out.mono ?_
  rintro en w1 ⟨rfl, hb1⟩
  have HB1 := hide hb1
  have HG1 := hide (HG.out.below hb1 HG.out.lt)
  clear hb1
  go_wp2_with fail
  go_loopw [5, 7] (fun t5 tx W => ∃ j : Nat, t5 = .bool true ∧ tx = .int .i64 ((n : Int) + (j : Int)) ∧ j ≤ 5 ∧ Below w1.heap.size w1 W) (fun _ tx _ => n + 5 - (intOf tx).toNat)
  case atStart => exact ⟨0, rfl, by simp, by omega, Below.refl _ _⟩
  case round =>
    obtain ⟨j, rfl, rfl, hj, hW⟩ := hrel
    rename World => W
    have hk := HG1.out.below hW HG1.out.lt
    have HW := hide hW
    have HK := hide hk
    clear hW
    have u2 := IntWalk.i64_in ((n : Int) + (j : Int) + 1) (by omega)
    have u3 := IntWalk.i64_in (-77 - ((n : Int) + (j : Int))) (by omega)
    by_cases hlt : j < 5
    · have hlt2 : (n : Int) + (j : Int) < (n : Int) + 5 := by omega
      have hlt3 : n + j < n + 5 := by omega
      have e0 : ((n : Int) + (j : Int)).toNat = n + j := by omega
      have c0 : W.cell? ⟨g, n + j, none⟩ = some (.int .i64 (-77 - ((n : Int) + (j : Int)))) := by
        rw [hk.cell, ints_at (by rw [show (lendL l).length = l.length + 5 from lendJ_len l 5, HN.out]; omega), ← HN.out, lend_mark l hlt]
      clear hk
      go_wp2_with fail
      all_goals try go_quiet (fail)
      all_goals
        go_wp2_with fail
        go_roundw
        case rel => exact ⟨j + 1, rfl, by go_num, by omega, by first | exact HW.out | exact HW.out.drew | exact below_drewN HW.out _⟩
        case measure =>
          simp only [intOf]
          omega
    · have hj5 : j = 5 := by omega
      have hno : ¬ (n : Int) + (j : Int) < (n : Int) + 5 := by omega
      clear hk hj5 hlt hj
      go_wp2_with fail
      have HO : Hid (Only (fun k => k = g) w W) := hide ((Only.of_new HB1.out).trans ((Only.of_new HW.out).mono fun k hk => .inl hk))
      go_loopw [8] (fun tx W => ∃ i : Nat, tx = .int .i64 (i : Int) ∧ i ≤ n + 5 ∧ (∃ f : List Int, f.length = n + 5 ∧ Blk W g 3 (ints f).toArray) ∧ Only (fun k => k = g) w W) (fun tx _ => n + 5 - (intOf tx).toNat)
      case atStart => exact ⟨0, rfl, Nat.zero_le _, ⟨lendL l, by rw [show (lendL l).length = l.length + 5 from lendJ_len l 5, HN.out], HK.out⟩, HO.out⟩
      case round =>
        clear HO HK HW hno
        obtain ⟨i, rfl, hi, ⟨f, hfl, hk⟩, ho⟩ := hrel
        rename World => W
        have HK := hide hk
        have HO := hide ho
        have HFL := hide hfl
        have u4 := IntWalk.i64_in ((i : Int) + 1) (by omega)
        by_cases hlt : i < n + 5
        · have hI : (i : Int) < (n : Int) + 5 := by omega
          have c0 : W.cell? ⟨g, i, none⟩ = some (.int .i64 (fAt f (i : Int))) := by rw [hk.cell]; exact ints_at (by omega)
          have f0 := hk.frozen i
          clear hk ho hfl
          go_wp2_with fail
          go_roundw
          case rel =>
            refine ⟨i + 1, by go_num, by omega, ⟨f.set i 31, by rw [List.length_set]; exact HFL.out, ?_⟩, HO.out.setCell (.inl rfl) _⟩
            have := HK.out.set_ i (.int .i64 31)
            rw [ints_set] at this
            exact this
          case measure =>
            simp only [intOf]
            omega
        · have hno : ¬ (i : Int) < (n : Int) + 5 := by omega
          clear hk ho hfl hlt hi
          go_wp2_with fail
          go_ret
          exact ⟨rfl, HO.out⟩
end Go.Proofs.Ytjflllfkgbhemaa

/- The walk of KeptProgram, where what was lent is as it was. Conditions: the lengths' bounds. -/
namespace Go.Proofs.Ytjflllfkgbhemaa
open Go.RowKit
theorem Lent.amem {w : World} {B gg gv gt go gc : Nat} {P : Prg} (h : Lent w B gg gv gt go gc P) (hl : P.gh.length ≤ maxLen ∧ P.vs.length ≤ maxLen ∧ P.ts.length ≤ maxLen ∧ P.os.length ≤ maxLen ∧ P.cd.length ≤ maxLen) : AMem w (lentPV gg gv gt go gc P) P where
  gl := rfl
  vl := rfl
  tl := rfl
  ol := rfl
  cl := rfl
  miss := rfl
  g := src_blk h.g _ fun j v hj => by
    have e : boolsV (P.gh ++ List.replicate 3 false) = boolsV P.gh ++ boolsV (List.replicate 3 false) := by simp [boolsV]
    rw [e]; exact get_left hj
  v := src_blk h.v _ fun j v hj => by
    have e : varsV (P.vs ++ markV) = varsV P.vs ++ varsV markV := by simp [varsV]
    rw [e]; exact get_left hj
  t := src_blk h.t _ fun j v hj => by
    simp only [ints, List.getElem?_map, Option.map_eq_some_iff] at hj ⊢
    obtain ⟨x, hx, rfl⟩ := hj
    exact ⟨x, get_left hx, rfl⟩
  o := src_blk h.o _ fun j v hj => by
    simp only [ints, List.getElem?_map, Option.map_eq_some_iff] at hj ⊢
    obtain ⟨x, hx, rfl⟩ := hj
    exact ⟨x, get_left hx, rfl⟩
  c := src_blk h.c _ fun j v hj => by rw [codeV_append]; exact get_left hj
  lens := hl
theorem bools_mark (l : List Bool) (i : Nat) (h : i < l.length + 3) : ∃ b, (l ++ List.replicate 3 false)[i]? = some b ∧ (l.length ≤ i → b = false) := by
  rcases Nat.lt_or_ge i l.length with h1 | h1
  · exact ⟨l[i], by rw [List.getElem?_append_left h1, List.getElem?_eq_getElem h1], fun h2 => by omega⟩
  · refine ⟨false, ?_, fun _ => rfl⟩
    rw [List.getElem?_append_right h1, List.getElem?_replicate, if_pos (by omega)]
theorem marks_at (l : List Ins) (i : Nat) (h1 : l.length ≤ i) (h : i < l.length + 9) : (l ++ marksC l.length)[i]? = some ⟨-9, (i : Int), 0, 0, 0⟩ := by
  rw [List.getElem?_append_right h1]
  unfold marksC
  rw [List.getElem?_map, List.getElem?_range (by omega)]
  simp
  omega
set_option linter.unusedVariables false in
set_option linter.unusedSimpArgs false in
set_option maxRecDepth 100000 in
set_option maxHeartbeats 40000000 in
theorem keptProgram_i (w0 w : World) (B gg gv gt go gc : Nat) (q : PV) (P : Prg) (h : Lent w B gg gv gt go gc P) (hq : AMem w0 q P) (hb : Below w0.heap.size w0 w) (hB : w0.heap.size ≤ B) (hl : P.gh.length ≤ 100 ∧ P.vs.length ≤ 100 ∧ P.ts.length ≤ 100 ∧ P.os.length ≤ 100 ∧ P.cd.length ≤ 524288) :
    Calls Try.prog 15 #[(lentPV gg gv gt go gc P).val, q.val] w fun en w' => en = .returned (.bool true) ∧ Only (fun k => k = gg ∨ k = gv ∨ k = gt ∨ k = go ∨ k = gc) w w' := by
  have hla := h.amem (by unfold maxLen; omega)
  have HQ := hide hq
  have HSP := fun (W : World) (hb1 : Below w.heap.size w W) => hide (sameProgram_i W _ q P (hla.below hb1) ((hq.below hb).below hb1))
  have HLN := hide h
  have HBW := hide hb
  obtain ⟨g1, g2, g3, g4, g5⟩ := h.base
  have HBS : Hid (w0.heap.size ≤ gg ∧ w0.heap.size ≤ gv ∧ w0.heap.size ≤ gt ∧ w0.heap.size ≤ go ∧ w0.heap.size ≤ gc) := hide (by omega)
  have HAP := hide h.apart
  have HWG : Hid (gg < w.heap.size ∧ gv < w.heap.size ∧ gt < w.heap.size ∧ go < w.heap.size ∧ gc < w.heap.size) := hide ⟨h.g.lt, h.v.lt, h.t.lt, h.o.lt, h.c.lt⟩
  clear g1 g2 g3 g4 g5 hla
  obtain ⟨f1, f2, f3, f4, f5, f6, _, _, _, _, _, _⟩ := hq
  obtain ⟨yga, yva, yta, yoa, yca, ygl, ygc, yvl, yvc, ytl, ytc, yol, yoc, ycl, ycc, ymiss⟩ := q
  simp only at f1 f2 f3 f4 f5 f6
  subst f1 f2 f3 f4 f5 f6
  simp only [PV.val, lentPV] at *
  obtain ⟨l1, l2, l3, l4, l5⟩ := hl
  have hB0 : Below w.heap.size w ((w.alloc (.cells #[.slice (some ⟨gg, 0, none⟩) P.gh.length (P.gh.length + 3), .slice (some ⟨gv, 0, none⟩) P.vs.length (P.vs.length + 3), .slice (some ⟨gt, 0, none⟩) P.ts.length (P.ts.length + 5), .slice (some ⟨go, 0, none⟩) P.os.length (P.os.length + 5), .int .i64 P.miss, .slice (some ⟨gc, 0, none⟩) P.cd.length (P.cd.length + 9)] 28)).alloc (.cells #[.slice yga P.gh.length ygc, .slice yva P.vs.length yvc, .slice yta P.ts.length ytc, .slice yoa P.os.length yoc, .int .i64 P.miss, .slice yca P.cd.length ycc] 28)) := ((Below.refl _ w).alloc (Nat.le_refl _) _).alloc (by simp) _
  have HKA := hide ((Blk.new w 28 #[.slice (some ⟨gg, 0, none⟩) P.gh.length (P.gh.length + 3), .slice (some ⟨gv, 0, none⟩) P.vs.length (P.vs.length + 3), .slice (some ⟨gt, 0, none⟩) P.ts.length (P.ts.length + 5), .slice (some ⟨go, 0, none⟩) P.os.length (P.os.length + 5), .int .i64 P.miss, .slice (some ⟨gc, 0, none⟩) P.cd.length (P.cd.length + 9)]).alloc (.cells #[.slice yga P.gh.length ygc, .slice yva P.vs.length yvc, .slice yta P.ts.length ytc, .slice yoa P.os.length yoc, .int .i64 P.miss, .slice yca P.cd.length ycc] 28))
  have HKB : Hid (Blk ((w.alloc (.cells #[.slice (some ⟨gg, 0, none⟩) P.gh.length (P.gh.length + 3), .slice (some ⟨gv, 0, none⟩) P.vs.length (P.vs.length + 3), .slice (some ⟨gt, 0, none⟩) P.ts.length (P.ts.length + 5), .slice (some ⟨go, 0, none⟩) P.os.length (P.os.length + 5), .int .i64 P.miss, .slice (some ⟨gc, 0, none⟩) P.cd.length (P.cd.length + 9)] 28)).alloc (.cells #[.slice yga P.gh.length ygc, .slice yva P.vs.length yvc, .slice yta P.ts.length ytc, .slice yoa P.os.length yoc, .int .i64 P.miss, .slice yca P.cd.length ycc] 28)) (w.heap.size + 1) 28 #[.slice yga P.gh.length ygc, .slice yva P.vs.length yvc, .slice yta P.ts.length ytc, .slice yoa P.os.length yoc, .int .i64 P.miss, .slice yca P.cd.length ycc]) := hide (by
    have := Blk.new (w.alloc (.cells #[.slice (some ⟨gg, 0, none⟩) P.gh.length (P.gh.length + 3), .slice (some ⟨gv, 0, none⟩) P.vs.length (P.vs.length + 3), .slice (some ⟨gt, 0, none⟩) P.ts.length (P.ts.length + 5), .slice (some ⟨go, 0, none⟩) P.os.length (P.os.length + 5), .int .i64 P.miss, .slice (some ⟨gc, 0, none⟩) P.cd.length (P.cd.length + 9)] 28)) 28 #[.slice yga P.gh.length ygc, .slice yva P.vs.length yvc, .slice yta P.ts.length ytc, .slice yoa P.os.length yoc, .int .i64 P.miss, .slice yca P.cd.length ycc]
    simpa using this)
  have HB0 := hide hB0
  clear hB0 h hb hB
  have u1 := IntWalk.i64_in ((P.gh.length : Int) + 3) (by omega)
  have u2 := IntWalk.i64_in ((P.vs.length : Int) + 3) (by omega)
  have u3 := IntWalk.i64_in ((P.cd.length : Int) + 9) (by omega)
  have u4 := IntWalk.i64_in ((P.vs.length : Int) + 1) (by omega)
  go_enter Try.func15, Try.ntmps15
  go_wp2_with fail
  go_at_call 29
  refine (HSP _ HB0.out).out.mono ?_
  rintro en w3 ⟨rfl, hb3⟩
  have ka := HKA.out.below hb3 HKA.out.lt
  have kb := HKB.out.below hb3 HKB.out.lt
  have pa0 : w3.cell? ⟨w.heap.size, 0, none⟩ = some (.slice (some ⟨gg, 0, none⟩) P.gh.length (P.gh.length + 3)) := by rw [(ka).cell]; rfl
  have pa1 : w3.cell? ⟨w.heap.size, 1, none⟩ = some (.slice (some ⟨gv, 0, none⟩) P.vs.length (P.vs.length + 3)) := by rw [(ka).cell]; rfl
  have pa2 : w3.cell? ⟨w.heap.size, 2, none⟩ = some (.slice (some ⟨gt, 0, none⟩) P.ts.length (P.ts.length + 5)) := by rw [(ka).cell]; rfl
  have pa3 : w3.cell? ⟨w.heap.size, 3, none⟩ = some (.slice (some ⟨go, 0, none⟩) P.os.length (P.os.length + 5)) := by rw [(ka).cell]; rfl
  have pa4 : w3.cell? ⟨w.heap.size, 4, none⟩ = some (.int .i64 P.miss) := by rw [(ka).cell]; rfl
  have pa5 : w3.cell? ⟨w.heap.size, 5, none⟩ = some (.slice (some ⟨gc, 0, none⟩) P.cd.length (P.cd.length + 9)) := by rw [(ka).cell]; rfl
  have pb0 : w3.cell? ⟨w.heap.size + 1, 0, none⟩ = some (.slice yga P.gh.length ygc) := by rw [(kb).cell]; rfl
  have pb1 : w3.cell? ⟨w.heap.size + 1, 1, none⟩ = some (.slice yva P.vs.length yvc) := by rw [(kb).cell]; rfl
  have pb2 : w3.cell? ⟨w.heap.size + 1, 2, none⟩ = some (.slice yta P.ts.length ytc) := by rw [(kb).cell]; rfl
  have pb3 : w3.cell? ⟨w.heap.size + 1, 3, none⟩ = some (.slice yoa P.os.length yoc) := by rw [(kb).cell]; rfl
  have pb4 : w3.cell? ⟨w.heap.size + 1, 4, none⟩ = some (.int .i64 P.miss) := by rw [(kb).cell]; rfl
  have pb5 : w3.cell? ⟨w.heap.size + 1, 5, none⟩ = some (.slice yca P.cd.length ycc) := by rw [(kb).cell]; rfl
  have hb03 := HB0.out.trans (hb3.mono HB0.out.size)
  have HL3 := hide (HLN.out.below hb03)
  have HB3 := hide hb03
  have HKA3 := hide ka
  have HKB3 := hide kb
  have HAZ : Hid (w.heap.size + 2 ≤ w3.heap.size) := hide (by have := hb3.size; simp at this; omega)
  clear ka kb hb3 hb03
  go_wp2_with fail
  have hk1 := keptInts_i w3 gt yta ytc P.ts HL3.out.t (HQ.out.t.below (HBW.out.trans (HB3.out.mono HBW.out.size))) (by omega)
  have HK1 := hide hk1
  clear hk1
  go_at_call 30
  refine HK1.out.mono ?_
  rintro en w4 ⟨rfl, ho4⟩
  have HO4 : Hid (Only (fun k => k = gg ∨ k = gv ∨ k = gt ∨ k = go ∨ k = gc) w w4) := hide ((Only.of_new HB3.out).trans (ho4.mono fun k hk => .inl (.inr (.inr (.inl hk)))))
  have hne1 : gt ≠ w.heap.size := by have := HWG.out; omega
  have hne2 : gt ≠ w.heap.size + 1 := by have := HWG.out; omega
  have ka := HKA3.out.only ho4 (fun e => hne1 e.symm)
  have kb := HKB3.out.only ho4 (fun e => hne2 e.symm)
  have HG4 := hide (HL3.out.g.only ho4 (HL3.out.g.ne_ HL3.out.t (by decide)))
  have HV4 := hide (HL3.out.v.only ho4 (HL3.out.v.ne_ HL3.out.t (by decide)))
  have HOO4 := hide (HL3.out.o.only ho4 (fun e => HAP.out e.symm))
  have HC4 := hide (HL3.out.c.only ho4 (HL3.out.c.ne_ HL3.out.t (by decide)))
  have hbq4 : Below w0.heap.size w0 w4 := (HBW.out.trans (HB3.out.mono HBW.out.size)).trans (ho4.below (fun k hk => by rw [hk]; exact HBS.out.2.2.1) (by have := HBW.out.size; have := HB3.out.size; omega))
  have HBQ4 := hide hbq4
  clear pa0 pb0 pa1 pb1 pa2 pb2 pa3 pb3 pa4 pb4 pa5 pb5
  have qa0 : w4.cell? ⟨w.heap.size, 0, none⟩ = some (.slice (some ⟨gg, 0, none⟩) P.gh.length (P.gh.length + 3)) := by rw [(ka).cell]; rfl
  have qa1 : w4.cell? ⟨w.heap.size, 1, none⟩ = some (.slice (some ⟨gv, 0, none⟩) P.vs.length (P.vs.length + 3)) := by rw [(ka).cell]; rfl
  have qa2 : w4.cell? ⟨w.heap.size, 2, none⟩ = some (.slice (some ⟨gt, 0, none⟩) P.ts.length (P.ts.length + 5)) := by rw [(ka).cell]; rfl
  have qa3 : w4.cell? ⟨w.heap.size, 3, none⟩ = some (.slice (some ⟨go, 0, none⟩) P.os.length (P.os.length + 5)) := by rw [(ka).cell]; rfl
  have qa4 : w4.cell? ⟨w.heap.size, 4, none⟩ = some (.int .i64 P.miss) := by rw [(ka).cell]; rfl
  have qa5 : w4.cell? ⟨w.heap.size, 5, none⟩ = some (.slice (some ⟨gc, 0, none⟩) P.cd.length (P.cd.length + 9)) := by rw [(ka).cell]; rfl
  have qb0 : w4.cell? ⟨w.heap.size + 1, 0, none⟩ = some (.slice yga P.gh.length ygc) := by rw [(kb).cell]; rfl
  have qb1 : w4.cell? ⟨w.heap.size + 1, 1, none⟩ = some (.slice yva P.vs.length yvc) := by rw [(kb).cell]; rfl
  have qb2 : w4.cell? ⟨w.heap.size + 1, 2, none⟩ = some (.slice yta P.ts.length ytc) := by rw [(kb).cell]; rfl
  have qb3 : w4.cell? ⟨w.heap.size + 1, 3, none⟩ = some (.slice yoa P.os.length yoc) := by rw [(kb).cell]; rfl
  have qb4 : w4.cell? ⟨w.heap.size + 1, 4, none⟩ = some (.int .i64 P.miss) := by rw [(kb).cell]; rfl
  have qb5 : w4.cell? ⟨w.heap.size + 1, 5, none⟩ = some (.slice yca P.cd.length ycc) := by rw [(kb).cell]; rfl
  have HKA4 := hide ka
  have HKB4 := hide kb
  have HZ4 : Hid (w.heap.size + 2 ≤ w4.heap.size) := hide (by have := ho4.size; have := HAZ.out; omega)
  clear ka kb ho4 hbq4 hne1 hne2
  have hk2 := keptInts_i w4 go yoa yoc P.os HOO4.out (HQ.out.o.below HBQ4.out) (by omega)
  have HK2 := hide hk2
  clear hk2
  go_wp2_with fail
  go_at_call 30
  refine HK2.out.mono ?_
  rintro en w5 ⟨rfl, ho5⟩
  have HO5 : Hid (Only (fun k => k = gg ∨ k = gv ∨ k = gt ∨ k = go ∨ k = gc) w w5) := hide (HO4.out.trans (ho5.mono fun k hk => .inl (.inr (.inr (.inr (.inl hk))))))
  have hne1 : go ≠ w.heap.size := by have := HWG.out; omega
  have hne2 : go ≠ w.heap.size + 1 := by have := HWG.out; omega
  have ka := HKA4.out.only ho5 (fun e => hne1 e.symm)
  have kb := HKB4.out.only ho5 (fun e => hne2 e.symm)
  have HG5 := hide (HG4.out.only ho5 (HG4.out.ne_ HOO4.out (by decide)))
  have HV5 := hide (HV4.out.only ho5 (HV4.out.ne_ HOO4.out (by decide)))
  have HC5 := hide (HC4.out.only ho5 (HC4.out.ne_ HOO4.out (by decide)))
  clear qa0 qb0 qa1 qb1 qa2 qb2 qa3 qb3 qa4 qb4 qa5 qb5
  have ra0 : w5.cell? ⟨w.heap.size, 0, none⟩ = some (.slice (some ⟨gg, 0, none⟩) P.gh.length (P.gh.length + 3)) := by rw [(ka).cell]; rfl
  have ra1 : w5.cell? ⟨w.heap.size, 1, none⟩ = some (.slice (some ⟨gv, 0, none⟩) P.vs.length (P.vs.length + 3)) := by rw [(ka).cell]; rfl
  have ra2 : w5.cell? ⟨w.heap.size, 2, none⟩ = some (.slice (some ⟨gt, 0, none⟩) P.ts.length (P.ts.length + 5)) := by rw [(ka).cell]; rfl
  have ra3 : w5.cell? ⟨w.heap.size, 3, none⟩ = some (.slice (some ⟨go, 0, none⟩) P.os.length (P.os.length + 5)) := by rw [(ka).cell]; rfl
  have ra4 : w5.cell? ⟨w.heap.size, 4, none⟩ = some (.int .i64 P.miss) := by rw [(ka).cell]; rfl
  have ra5 : w5.cell? ⟨w.heap.size, 5, none⟩ = some (.slice (some ⟨gc, 0, none⟩) P.cd.length (P.cd.length + 9)) := by rw [(ka).cell]; rfl
  have rb0 : w5.cell? ⟨w.heap.size + 1, 0, none⟩ = some (.slice yga P.gh.length ygc) := by rw [(kb).cell]; rfl
  have rb1 : w5.cell? ⟨w.heap.size + 1, 1, none⟩ = some (.slice yva P.vs.length yvc) := by rw [(kb).cell]; rfl
  have rb2 : w5.cell? ⟨w.heap.size + 1, 2, none⟩ = some (.slice yta P.ts.length ytc) := by rw [(kb).cell]; rfl
  have rb3 : w5.cell? ⟨w.heap.size + 1, 3, none⟩ = some (.slice yoa P.os.length yoc) := by rw [(kb).cell]; rfl
  have rb4 : w5.cell? ⟨w.heap.size + 1, 4, none⟩ = some (.int .i64 P.miss) := by rw [(kb).cell]; rfl
  have rb5 : w5.cell? ⟨w.heap.size + 1, 5, none⟩ = some (.slice yca P.cd.length ycc) := by rw [(kb).cell]; rfl
  have HKA5 := hide ka
  have HKB5 := hide kb
  clear ka kb ho5 hne1 hne2
  go_wp2_with fail
  go_loopw [5, 7] (fun t5 tx W => ∃ (i : Nat) (cs : Array Value), t5 = .bool true ∧ tx = .int .i64 (i : Int) ∧ i ≤ P.gh.length + 3 ∧ Blk W gg 4 cs ∧ cs.size = P.gh.length + 3 ∧ (∀ j, i ≤ j → cs[j]? = (boolsV (P.gh ++ List.replicate 3 false)).toArray[j]?) ∧ Only (fun k => k = gg) w5 W) (fun _ tx _ => P.gh.length + 3 - (intOf tx).toNat)
  case atStart => exact ⟨0, _, rfl, rfl, Nat.zero_le _, HG5.out, by simp [boolsV], fun _ _ => rfl, Only.refl _ _⟩
  case round =>
    clear ra0 rb0 ra1 rb1 ra2 rb2 ra3 rb3 ra4 rb4 ra5 rb5
    obtain ⟨i, cs, rfl, rfl, hi, hk, hsz, hcs, ho⟩ := hrel
    rename World => W
    have hna : ¬ w.heap.size = gg := by have := HWG.out; omega
    have hnb : ¬ w.heap.size + 1 = gg := by have := HWG.out; omega
    have ka := HKA5.out.only ho hna
    have kb := HKB5.out.only ho hnb
    have sa0 : W.cell? ⟨w.heap.size, 0, none⟩ = some (.slice (some ⟨gg, 0, none⟩) P.gh.length (P.gh.length + 3)) := by rw [(ka).cell]; rfl
    have sa1 : W.cell? ⟨w.heap.size, 1, none⟩ = some (.slice (some ⟨gv, 0, none⟩) P.vs.length (P.vs.length + 3)) := by rw [(ka).cell]; rfl
    have sa2 : W.cell? ⟨w.heap.size, 2, none⟩ = some (.slice (some ⟨gt, 0, none⟩) P.ts.length (P.ts.length + 5)) := by rw [(ka).cell]; rfl
    have sa3 : W.cell? ⟨w.heap.size, 3, none⟩ = some (.slice (some ⟨go, 0, none⟩) P.os.length (P.os.length + 5)) := by rw [(ka).cell]; rfl
    have sa4 : W.cell? ⟨w.heap.size, 4, none⟩ = some (.int .i64 P.miss) := by rw [(ka).cell]; rfl
    have sa5 : W.cell? ⟨w.heap.size, 5, none⟩ = some (.slice (some ⟨gc, 0, none⟩) P.cd.length (P.cd.length + 9)) := by rw [(ka).cell]; rfl
    have sb0 : W.cell? ⟨w.heap.size + 1, 0, none⟩ = some (.slice yga P.gh.length ygc) := by rw [(kb).cell]; rfl
    have sb1 : W.cell? ⟨w.heap.size + 1, 1, none⟩ = some (.slice yva P.vs.length yvc) := by rw [(kb).cell]; rfl
    have sb2 : W.cell? ⟨w.heap.size + 1, 2, none⟩ = some (.slice yta P.ts.length ytc) := by rw [(kb).cell]; rfl
    have sb3 : W.cell? ⟨w.heap.size + 1, 3, none⟩ = some (.slice yoa P.os.length yoc) := by rw [(kb).cell]; rfl
    have sb4 : W.cell? ⟨w.heap.size + 1, 4, none⟩ = some (.int .i64 P.miss) := by rw [(kb).cell]; rfl
    have sb5 : W.cell? ⟨w.heap.size + 1, 5, none⟩ = some (.slice yca P.cd.length ycc) := by rw [(kb).cell]; rfl
    have HK := hide hk
    have HO := hide ho
    have HCS := hide hcs
    have HSZ := hide hsz
    have u5 := IntWalk.i64_in ((i : Int) + 1) (by omega)
    clear ka kb ho
    by_cases hlt : i < P.gh.length + 3
    · obtain ⟨b, hb1, hb2⟩ := bools_mark P.gh i hlt
      have hI : (i : Int) < (P.gh.length : Int) + 3 := by omega
      have c0 : W.cell? ⟨gg, i, none⟩ = some (.bool b) := by rw [hk.cell, hcs i (Nat.le_refl _)]; simp only [boolsV, List.getElem?_toArray, List.getElem?_map, hb1, Option.map_some]
      have f0 := hk.frozen i
      clear hk hsz hcs hb1
      by_cases hg : i < P.gh.length
      · have hgI : (i : Int) < (P.gh.length : Int) := by omega
        clear hb2
        go_wp2_with fail
        all_goals try go_quiet (fail)
        all_goals
          go_wp2_with fail
          go_roundw
          case rel =>
            refine ⟨i + 1, _, rfl, by go_num, by omega, HK.out.set_ i _, by rw [Array.size_setIfInBounds]; exact HSZ.out, fun j hj => ?_, HO.out.setCell (.inl rfl) _⟩
            rw [Array.getElem?_setIfInBounds_ne (by omega)]
            exact HCS.out j (by omega)
          case measure =>
            simp only [intOf]
            omega
      · have hgI : ¬ (i : Int) < (P.gh.length : Int) := by omega
        obtain rfl := hb2 (by omega)
        clear hb2
        go_wp2_with fail
        all_goals try go_quiet (fail)
        all_goals
          go_wp2_with fail
          go_roundw
          case rel =>
            refine ⟨i + 1, _, rfl, by go_num, by omega, HK.out.set_ i _, by rw [Array.size_setIfInBounds]; exact HSZ.out, fun j hj => ?_, HO.out.setCell (.inl rfl) _⟩
            rw [Array.getElem?_setIfInBounds_ne (by omega)]
            exact HCS.out j (by omega)
          case measure =>
            simp only [intOf]
            omega
    · have hno : ¬ (i : Int) < (P.gh.length : Int) + 3 := by omega
      have HV6 := hide (HV5.out.only HO.out (HV5.out.ne_ HG5.out (by decide)))
      have HC6 := hide (HC5.out.only HO.out (HC5.out.ne_ HG5.out (by decide)))
      have HKA6 := hide (HKA5.out.only HO.out hna)
      have HKB6 := hide (HKB5.out.only HO.out hnb)
      have HO6 : Hid (Only (fun k => k = gg ∨ k = gv ∨ k = gt ∨ k = go ∨ k = gc) w W) := hide (HO5.out.trans (HO.out.mono fun k hk => .inl (.inl hk)))
      have hv6 := HV6.out
      have m0 : W.cell? ⟨gv, P.vs.length * 3, none⟩ = some (.int .i64 91) := by
        rw [hv6.cell]
        have e : varsV (P.vs ++ markV) = varsV P.vs ++ varsV markV := by simp [varsV]
        have e2 : P.vs.length * 3 = (varsV P.vs).length + 0 := by have := varsV_len P.vs; omega
        rw [e2, e, List.getElem?_toArray, List.getElem?_append_right (by omega), Nat.add_sub_cancel_left]
        rfl
      have m1 : W.cell? ⟨gv, P.vs.length * 3 + 1, none⟩ = some (.int .i64 0) := by
        rw [hv6.cell]
        have e : varsV (P.vs ++ markV) = varsV P.vs ++ varsV markV := by simp [varsV]
        have e2 : P.vs.length * 3 + 1 = (varsV P.vs).length + 1 := by have := varsV_len P.vs; omega
        rw [e2, e, List.getElem?_toArray, List.getElem?_append_right (by omega), Nat.add_sub_cancel_left]
        rfl
      have m2 : W.cell? ⟨gv, P.vs.length * 3 + 2, none⟩ = some (.int .i64 0) := by
        rw [hv6.cell]
        have e : varsV (P.vs ++ markV) = varsV P.vs ++ varsV markV := by simp [varsV]
        have e2 : P.vs.length * 3 + 2 = (varsV P.vs).length + 2 := by have := varsV_len P.vs; omega
        rw [e2, e, List.getElem?_toArray, List.getElem?_append_right (by omega), Nat.add_sub_cancel_left]
        rfl
      have m3 : W.cell? ⟨gv, (P.vs.length + 1) * 3, none⟩ = some (.int .i64 0) := by
        rw [hv6.cell]
        have e : varsV (P.vs ++ markV) = varsV P.vs ++ varsV markV := by simp [varsV]
        have e2 : (P.vs.length + 1) * 3 = (varsV P.vs).length + 3 := by have := varsV_len P.vs; omega
        rw [e2, e, List.getElem?_toArray, List.getElem?_append_right (by omega), Nat.add_sub_cancel_left]
        rfl
      have m4 : W.cell? ⟨gv, (P.vs.length + 1) * 3 + 1, none⟩ = some (.int .i64 0) := by
        rw [hv6.cell]
        have e : varsV (P.vs ++ markV) = varsV P.vs ++ varsV markV := by simp [varsV]
        have e2 : (P.vs.length + 1) * 3 + 1 = (varsV P.vs).length + 4 := by have := varsV_len P.vs; omega
        rw [e2, e, List.getElem?_toArray, List.getElem?_append_right (by omega), Nat.add_sub_cancel_left]
        rfl
      have m5 : W.cell? ⟨gv, (P.vs.length + 1) * 3 + 2, none⟩ = some (.int .i64 0) := by
        rw [hv6.cell]
        have e : varsV (P.vs ++ markV) = varsV P.vs ++ varsV markV := by simp [varsV]
        have e2 : (P.vs.length + 1) * 3 + 2 = (varsV P.vs).length + 5 := by have := varsV_len P.vs; omega
        rw [e2, e, List.getElem?_toArray, List.getElem?_append_right (by omega), Nat.add_sub_cancel_left]
        rfl
      clear hv6 hk hsz hcs hlt hi
      go_wp2_with fail
      all_goals try go_quiet (fail)
      all_goals try go_wp2_with fail
      have hWz := HO6.out.size
      have HWZ := hide hWz
      clear hWz m0 m1 m2 m3 m4 m5
      go_loopw [9] (fun tx W => ∃ (i : Nat) (cs : Array Value), tx = .int .i64 (i : Int) ∧ i ≤ P.vs.length + 3 ∧ Blk W gv 49 cs ∧ cs.size = (P.vs.length + 3) * 3 ∧ Only (fun k => k = gg ∨ k = gv ∨ k = gt ∨ k = go ∨ k = gc) w W ∧ Blk W gc 46 (codeV (P.cd ++ marksC P.cd.length)).toArray ∧ Blk W w.heap.size 28 #[.slice (some ⟨gg, 0, none⟩) P.gh.length (P.gh.length + 3), .slice (some ⟨gv, 0, none⟩) P.vs.length (P.vs.length + 3), .slice (some ⟨gt, 0, none⟩) P.ts.length (P.ts.length + 5), .slice (some ⟨go, 0, none⟩) P.os.length (P.os.length + 5), .int .i64 P.miss, .slice (some ⟨gc, 0, none⟩) P.cd.length (P.cd.length + 9)] ∧ Blk W (w.heap.size + 1) 28 #[.slice yga P.gh.length ygc, .slice yva P.vs.length yvc, .slice yta P.ts.length ytc, .slice yoa P.os.length yoc, .int .i64 P.miss, .slice yca P.cd.length ycc]) (fun tx _ => P.vs.length + 3 - (intOf tx).toNat)
      case atStart => exact ⟨0, _, rfl, Nat.zero_le _, HV6.out, by rw [List.size_toArray, varsV_len]; simp [markV], HO6.out, HC6.out, HKA6.out, HKB6.out⟩
      case round =>
        clear sa0 sb0 sa1 sb1 sa2 sb2 sa3 sb3 sa4 sb4 sa5 sb5 hno
        obtain ⟨i, cs, rfl, hi, hk, hsz, ho, hc, ka, kb⟩ := hrel
        rename World => W
        have HK := hide hk
        have HO := hide ho
        have HC := hide hc
        have HSZ := hide hsz
        have HKA7 := hide ka
        have HKB7 := hide kb
        have u6 := IntWalk.i64_in ((i : Int) + 1) (by omega)
        by_cases hlt : i < P.vs.length + 3
        · have hI : (i : Int) < (P.vs.length : Int) + 3 := by omega
          obtain ⟨v0, hv0⟩ : ∃ v, cs[i * 3]? = some v := ⟨_, Array.getElem?_eq_getElem (by omega)⟩
          obtain ⟨v1, hv1⟩ : ∃ v, cs[i * 3 + 1]? = some v := ⟨_, Array.getElem?_eq_getElem (by omega)⟩
          obtain ⟨v2, hv2⟩ : ∃ v, cs[i * 3 + 2]? = some v := ⟨_, Array.getElem?_eq_getElem (by omega)⟩
          have c0 : W.cell? ⟨gv, i * 3, none⟩ = some v0 := by rw [hk.cell]; exact hv0
          have c1 : W.cell? ⟨gv, i * 3 + 1, none⟩ = some v1 := by rw [hk.cell]; exact hv1
          have c2 : W.cell? ⟨gv, i * 3 + 2, none⟩ = some v2 := by rw [hk.cell]; exact hv2
          have f0 := hk.frozen (i * 3)
          have f1 := hk.frozen (i * 3 + 1)
          have f2 := hk.frozen (i * 3 + 2)
          clear hk hsz ho hc ka kb hv0 hv1 hv2
          go_wp2_with fail
          go_roundw
          case rel =>
            have hx1 := HC.out.ne_ HK.out (by decide)
            have hx2 := HKA7.out.ne_ HK.out (by decide)
            have hx3 := HKB7.out.ne_ HK.out (by decide)
            exact ⟨i + 1, _, by go_num, by omega, ((HK.out.set_ _ _).set_ _ _).set_ _ _, by rw [Array.size_setIfInBounds, Array.size_setIfInBounds, Array.size_setIfInBounds]; exact HSZ.out, ((HO.out.setCell (.inl (.inr (.inl rfl))) _).setCell (.inl (.inr (.inl rfl))) _).setCell (.inl (.inr (.inl rfl))) _, ((HC.out.far (p := ⟨gv, i * 3, none⟩) hx1 _).far (p := ⟨gv, i * 3 + 1, none⟩) hx1 _).far (p := ⟨gv, i * 3 + 2, none⟩) hx1 _, ((HKA7.out.far (p := ⟨gv, i * 3, none⟩) hx2 _).far (p := ⟨gv, i * 3 + 1, none⟩) hx2 _).far (p := ⟨gv, i * 3 + 2, none⟩) hx2 _, ((HKB7.out.far (p := ⟨gv, i * 3, none⟩) hx3 _).far (p := ⟨gv, i * 3 + 1, none⟩) hx3 _).far (p := ⟨gv, i * 3 + 2, none⟩) hx3 _⟩
          case measure =>
            simp only [intOf]
            omega
        · have hno : ¬ (i : Int) < (P.vs.length : Int) + 3 := by omega
          have ta5 : W.cell? ⟨w.heap.size, 5, none⟩ = some (.slice (some ⟨gc, 0, none⟩) P.cd.length (P.cd.length + 9)) := by rw [ka.cell]; rfl
          have tb5 : W.cell? ⟨w.heap.size + 1, 5, none⟩ = some (.slice yca P.cd.length ycc) := by rw [kb.cell]; rfl
          clear hk hsz ho hc ka kb hlt hi
          go_wp2_with fail
          go_loopw [5, 11] (fun t5 tx W => ∃ (i : Nat) (cs : Array Value), t5 = .bool true ∧ tx = .int .i64 (i : Int) ∧ i ≤ P.cd.length + 9 ∧ Blk W gc 46 cs ∧ cs.size = (P.cd.length + 9) * 5 ∧ (∀ j, i * 5 ≤ j → cs[j]? = (codeV (P.cd ++ marksC P.cd.length)).toArray[j]?) ∧ Only (fun k => k = gg ∨ k = gv ∨ k = gt ∨ k = go ∨ k = gc) w W ∧ Blk W (w.heap.size + 1) 28 #[.slice yga P.gh.length ygc, .slice yva P.vs.length yvc, .slice yta P.ts.length ytc, .slice yoa P.os.length yoc, .int .i64 P.miss, .slice yca P.cd.length ycc]) (fun _ tx _ => P.cd.length + 9 - (intOf tx).toNat)
          case atStart => exact ⟨0, _, rfl, rfl, Nat.zero_le _, HC.out, by rw [List.size_toArray, codeV_len]; simp [marksC], fun _ _ => rfl, HO.out, HKB7.out⟩
          case round =>
            clear ta5 tb5 hno
            obtain ⟨i, cs, rfl, rfl, hi, hk, hsz, hcs, ho, kb⟩ := hrel
            rename World => W
            have HK := hide hk
            have HO := hide ho
            have HCS := hide hcs
            have HSZ := hide hsz
            have HKB8 := hide kb
            have tb5 : W.cell? ⟨w.heap.size + 1, 5, none⟩ = some (.slice yca P.cd.length ycc) := by rw [kb.cell]; rfl
            have u7 := IntWalk.i64_in ((i : Int) + 1) (by omega)
            by_cases hlt : i < P.cd.length + 9
            · have hI : (i : Int) < (P.cd.length : Int) + 9 := by omega
              have f0 := hk.frozen (i * 5)
              have f1 := hk.frozen (i * 5 + 1)
              have f2 := hk.frozen (i * 5 + 2)
              have f3 := hk.frozen (i * 5 + 3)
              have f4 := hk.frozen (i * 5 + 4)
              by_cases hg : i < P.cd.length
              · have hgI : (i : Int) < (P.cd.length : Int) := by omega
                obtain ⟨v0, hv0⟩ : ∃ v, cs[i * 5]? = some v := ⟨_, Array.getElem?_eq_getElem (by omega)⟩
                obtain ⟨v1, hv1⟩ : ∃ v, cs[i * 5 + 1]? = some v := ⟨_, Array.getElem?_eq_getElem (by omega)⟩
                obtain ⟨v2, hv2⟩ : ∃ v, cs[i * 5 + 2]? = some v := ⟨_, Array.getElem?_eq_getElem (by omega)⟩
                obtain ⟨v3, hv3⟩ : ∃ v, cs[i * 5 + 3]? = some v := ⟨_, Array.getElem?_eq_getElem (by omega)⟩
                obtain ⟨v4, hv4⟩ : ∃ v, cs[i * 5 + 4]? = some v := ⟨_, Array.getElem?_eq_getElem (by omega)⟩
                have c0 : W.cell? ⟨gc, i * 5, none⟩ = some v0 := by rw [hk.cell]; exact hv0
                have c1 : W.cell? ⟨gc, i * 5 + 1, none⟩ = some v1 := by rw [hk.cell]; exact hv1
                have c2 : W.cell? ⟨gc, i * 5 + 2, none⟩ = some v2 := by rw [hk.cell]; exact hv2
                have c3 : W.cell? ⟨gc, i * 5 + 3, none⟩ = some v3 := by rw [hk.cell]; exact hv3
                have c4 : W.cell? ⟨gc, i * 5 + 4, none⟩ = some v4 := by rw [hk.cell]; exact hv4
                clear hk hsz hcs ho kb hv0 hv1 hv2 hv3 hv4
                go_wp2_with fail
                all_goals try go_quiet (fail)
                all_goals
                  go_wp2_with fail
                  go_roundw
                  case rel =>
                    have hx3 := HKB8.out.ne_ HK.out (by decide)
                    refine ⟨i + 1, _, rfl, by go_num, by omega, ((((HK.out.set_ _ _).set_ _ _).set_ _ _).set_ _ _).set_ _ _, by rw [Array.size_setIfInBounds, Array.size_setIfInBounds, Array.size_setIfInBounds, Array.size_setIfInBounds, Array.size_setIfInBounds]; exact HSZ.out, fun j hj => ?_, ((((HO.out.setCell (.inl (.inr (.inr (.inr (.inr rfl))))) _).setCell (.inl (.inr (.inr (.inr (.inr rfl))))) _).setCell (.inl (.inr (.inr (.inr (.inr rfl))))) _).setCell (.inl (.inr (.inr (.inr (.inr rfl))))) _).setCell (.inl (.inr (.inr (.inr (.inr rfl))))) _, ((((HKB8.out.far (p := ⟨gc, i * 5, none⟩) hx3 _).far (p := ⟨gc, i * 5 + 1, none⟩) hx3 _).far (p := ⟨gc, i * 5 + 2, none⟩) hx3 _).far (p := ⟨gc, i * 5 + 3, none⟩) hx3 _).far (p := ⟨gc, i * 5 + 4, none⟩) hx3 _⟩
                    rw [Array.getElem?_setIfInBounds_ne (by omega), Array.getElem?_setIfInBounds_ne (by omega), Array.getElem?_setIfInBounds_ne (by omega), Array.getElem?_setIfInBounds_ne (by omega), Array.getElem?_setIfInBounds_ne (by omega)]
                    exact HCS.out j (by omega)
                  case measure =>
                    simp only [intOf]
                    omega
              · have hgI : ¬ (i : Int) < (P.cd.length : Int) := by omega
                obtain ⟨y0, y1, y2, y3, y4⟩ := codeV_get (marks_at P.cd i (by omega) hlt)
                simp only at y0 y1 y2 y3 y4
                have c0 : W.cell? ⟨gc, i * 5, none⟩ = some (.int .i64 (-9)) := by rw [hk.cell, hcs _ (by omega)]; simpa using y0
                have c1 : W.cell? ⟨gc, i * 5 + 1, none⟩ = some (.int .i64 (i : Int)) := by rw [hk.cell, hcs _ (by omega)]; simpa using y1
                have c2 : W.cell? ⟨gc, i * 5 + 2, none⟩ = some (.int .i64 0) := by rw [hk.cell, hcs _ (by omega)]; simpa using y2
                have c3 : W.cell? ⟨gc, i * 5 + 3, none⟩ = some (.int .i64 0) := by rw [hk.cell, hcs _ (by omega)]; simpa using y3
                have c4 : W.cell? ⟨gc, i * 5 + 4, none⟩ = some (.int .i64 0) := by rw [hk.cell, hcs _ (by omega)]; simpa using y4
                clear hk hsz hcs ho kb y0 y1 y2 y3 y4
                go_wp2_with fail
                all_goals try go_quiet (fail)
                all_goals
                  go_wp2_with fail
                  go_roundw
                  case rel =>
                    have hx3 := HKB8.out.ne_ HK.out (by decide)
                    refine ⟨i + 1, _, rfl, by go_num, by omega, ((((HK.out.set_ _ _).set_ _ _).set_ _ _).set_ _ _).set_ _ _, by rw [Array.size_setIfInBounds, Array.size_setIfInBounds, Array.size_setIfInBounds, Array.size_setIfInBounds, Array.size_setIfInBounds]; exact HSZ.out, fun j hj => ?_, ((((HO.out.setCell (.inl (.inr (.inr (.inr (.inr rfl))))) _).setCell (.inl (.inr (.inr (.inr (.inr rfl))))) _).setCell (.inl (.inr (.inr (.inr (.inr rfl))))) _).setCell (.inl (.inr (.inr (.inr (.inr rfl))))) _).setCell (.inl (.inr (.inr (.inr (.inr rfl))))) _, ((((HKB8.out.far (p := ⟨gc, i * 5, none⟩) hx3 _).far (p := ⟨gc, i * 5 + 1, none⟩) hx3 _).far (p := ⟨gc, i * 5 + 2, none⟩) hx3 _).far (p := ⟨gc, i * 5 + 3, none⟩) hx3 _).far (p := ⟨gc, i * 5 + 4, none⟩) hx3 _⟩
                    rw [Array.getElem?_setIfInBounds_ne (by omega), Array.getElem?_setIfInBounds_ne (by omega), Array.getElem?_setIfInBounds_ne (by omega), Array.getElem?_setIfInBounds_ne (by omega), Array.getElem?_setIfInBounds_ne (by omega)]
                    exact HCS.out j (by omega)
                  case measure =>
                    simp only [intOf]
                    omega
            · have hno : ¬ (i : Int) < (P.cd.length : Int) + 9 := by omega
              clear hk hsz hcs ho kb hlt hi
              go_wp2_with fail
              go_ret
              exact ⟨rfl, HO.out⟩
end Go.Proofs.Ytjflllfkgbhemaa
