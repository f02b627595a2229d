/- Several texts in one: The plain law of the reference's start. The walk of the reference's place. The walks of Sum and Times. The walk of the reference's Fuel. The walk of the reference's look. The walk of the reference's Run. The walks of SameCosts and VerifyRuns. How a law's arguments read behind the call. A program that was handed in, as lists. Conditions: those of each. -/
import Derived.Test.YtjflllfkgbhemaaM8
import Derived.Test.YtjflllfkgbhemaaV34
import Derived.Test.YtjflllfkgbhemaaVs
import Derived.Test.YtjflllfkgbhemaaS5
import Derived.Test.YtjflllfkgbhemaaV37
import Derived.Test.YtjflllfkgbhemaaV38
import Derived.Test.YtjflllfkgbhemaaBase
import Derived.Test.YtjflllfkgbhemaaRows
import Derived.WalkKit
import Derived.ProofKit
import Derived.OpenShut
import Derived.JoinedCond
import Derived.Deep.Slices
import Derived.Deep.Fields
import Derived.ChangeSame
import Derived.Carry
import Derived.Test.YtjflllfkgbhemaaM6
/- The plain law of the reference's start. Conditions: none. -/
namespace Go.Proofs.Ytjflllfkgbhemaa
open Go.RowKit Go.PlainAid
def rsB : Rs := ⟨⟨#[]⟩, -1, 0, true⟩
def markR (rs : List Rs) (a : Int) : List Rs := if 0 ≤ a then rs.set a.toNat rsB else rs
def markS (sts : List Bool) (a : Int) : List Bool := if 0 ≤ a then sts.set a.toNat true else sts
def rsK (P : Prg) (i : Nat) : List Rs := ((begins P).take i).foldl markR (List.replicate P.cd.length rs0)
def stsK (P : Prg) (i : Nat) : List Bool := ((begins P).take i).foldl markS (List.replicate P.cd.length false)
theorem rsK_next {P : Prg} {i : Nat} {b : Int} (h : (begins P)[i]? = some b) : rsK P (i + 1) = markR (rsK P i) b := by
  unfold rsK
  rw [List.take_add_one, h, List.foldl_append]
  rfl
theorem stsK_next {P : Prg} {i : Nat} {b : Int} (h : (begins P)[i]? = some b) : stsK P (i + 1) = markS (stsK P i) b := by
  unfold stsK
  rw [List.take_add_one, h, List.foldl_append]
  rfl
theorem begins_len (P : Prg) : (begins P).length = P.os.length + 1 := by simp [begins]
theorem begins_os {P : Prg} {i : Nat} (h : i < P.os.length) : (begins P)[i]? = P.os[i]? := by
  unfold begins
  rw [List.getElem?_append_left h]
theorem begins_miss (P : Prg) : (begins P)[P.os.length]? = some P.miss := by simp [begins]
theorem start_rel {P : Prg} : ∀ (l : List Int) (ats : List St) (rs : List Rs), (∀ b ∈ l, b < (P.cd.length : Int)) → Rel P 0 ats rs (List.replicate P.cd.length 0) → Rel P 0 (l.foldl mark ats) (l.foldl markR rs) (List.replicate P.cd.length 0)
  | [], _, _, _, h => h
  | b :: l, ats, rs, hb, h => by
    refine start_rel l (mark ats b) (markR rs b) (fun c hc => hb c (by simp [hc])) ?_
    unfold mark markR
    by_cases h0 : 0 ≤ b
    · rw [if_pos h0, if_pos h0]
      obtain ⟨k, rfl⟩ := Int.eq_ofNat_of_zero_le h0
      have hk : k < P.cd.length := by have := hb (k : Int) (by simp); omega
      have s1 : ∀ j : Nat, atSt (ats.set k ⟨true, ⟨#[]⟩, [], 0⟩) (j : Int) = _ := fun j => atSt_set ats _ (by rw [h.la]; exact hk)
      have s2 : ∀ j : Nat, atRs (rs.set k rsB) (j : Int) = _ := fun j => atRs_set rs _ (by rw [h.lr]; exact hk)
      have ch : ∀ ls, Chain ats (List.replicate P.cd.length 0) 0 ls → Chain (ats.set k ⟨true, ⟨#[]⟩, [], 0⟩) (List.replicate P.cd.length 0) 0 ls := by
        rintro ls (rfl | ⟨_, t, _, ht, _⟩)
        · exact .inl rfl
        · omega
      refine ⟨by rw [Int.toNat_natCast, List.length_set]; exact h.la, by rw [Int.toNat_natCast, List.length_set]; exact h.lr, h.lu, fun j hj => ?_, fun j hj => ?_⟩
      · rw [Int.toNat_natCast] at hj ⊢
        rw [s1] at hj
        rw [s2]
        by_cases e : j = k
        · rw [if_pos e] at hj; cases hj
        · rw [if_neg e] at hj ⊢
          exact h.off j hj
      · rw [Int.toNat_natCast] at hj ⊢
        rw [s1] at hj
        rw [s1, s2]
        by_cases e : j = k
        · rw [if_pos e, if_pos e]
          exact ⟨rfl, fun c hc => by simp at hc, .inl rfl⟩
        · rw [if_neg e] at hj ⊢
          rw [if_neg e]
          obtain ⟨e1, e2, e3⟩ := h.on j hj
          exact ⟨e1, e2, ch _ e3⟩
    · rw [if_neg h0, if_neg h0]
      exact h
theorem atSt_rep (n : Nat) (k : Nat) : (atSt (List.replicate n st0) (k : Int)).there = false := by
  unfold atSt
  rw [Int.toNat_natCast, List.getElem?_replicate]
  split <;> rfl
theorem atRs_rep (n : Nat) (k : Nat) : (atRs (List.replicate n rs0) (k : Int)).got = false := by
  unfold atRs
  rw [Int.toNat_natCast, List.getElem?_replicate]
  split <;> rfl
theorem rel0 {P : Prg} (h : checkV P = 0) : Rel P 0 (ats0 P) (rsK P (P.os.length + 1)) (List.replicate P.cd.length 0) := by
  unfold ats0 rsK
  rw [List.take_of_length_le (by rw [begins_len]; exact Nat.le_refl _)]
  exact start_rel _ _ _ (begins_in h) ⟨by simp, by simp, by simp, fun k _ => atRs_rep _ k, fun k hk => by rw [atSt_rep] at hk; cases hk⟩
theorem sts_fold {n : Nat} : ∀ (l : List Int) (sts : List Bool), sts.length = n → (∀ b ∈ l, b < (n : Int)) → (l.foldl markS sts).length = n ∧ ∀ k : Nat, k < n → ((l.foldl markS sts)[k]?).getD false = ((sts[k]?).getD false || decide ((k : Int) ∈ l))
  | [], sts, hl, _ => ⟨hl, fun k _ => by simp⟩
  | b :: l, sts, hl, hb => by
    have hlen : (markS sts b).length = n := by unfold markS; split <;> simp [hl]
    obtain ⟨h1, h2⟩ := sts_fold l (markS sts b) hlen (fun c hc => hb c (by simp [hc]))
    refine ⟨h1, fun k hk => ?_⟩
    rw [List.foldl_cons, h2 k hk]
    unfold markS
    by_cases h0 : 0 ≤ b
    · rw [if_pos h0]
      obtain ⟨m, rfl⟩ := Int.eq_ofNat_of_zero_le h0
      rw [Int.toNat_natCast, List.getElem?_set]
      by_cases e : m = k
      · subst e
        simp [hl, hk]
      · have : ¬ (k : Int) = (m : Int) := by omega
        rw [if_neg e]
        simp [this]
    · rw [if_neg h0]
      have : ¬ (k : Int) = b := by omega
      simp [this]
theorem stsK_len {P : Prg} (h : checkV P = 0) (i : Nat) : (stsK P i).length = P.cd.length := (sts_fold _ _ (by simp) (fun b hb => begins_in h b (List.mem_of_mem_take hb))).1
theorem rsK_len (P : Prg) (i : Nat) : (rsK P i).length = P.cd.length := by
  unfold rsK
  generalize (begins P).take i = l
  have : ∀ (l : List Int) (rs : List Rs), (l.foldl markR rs).length = rs.length := fun l => by
    induction l with
    | nil => intro rs; rfl
    | cons b l ih =>
      intro rs
      rw [List.foldl_cons, ih]
      unfold markR
      split <;> simp
  rw [this]
  simp
theorem sts0_ok {P : Prg} (h : checkV P = 0) : StsOk P (stsK P (P.os.length + 1)) := by
  intro k hk
  unfold stsK
  rw [List.take_of_length_le (by rw [begins_len]; exact Nat.le_refl _), (sts_fold _ _ (by simp) (begins_in h)).2 k hk]
  have : ((List.replicate P.cd.length false)[k]?).getD false = false := by
    rw [List.getElem?_replicate]
    split <;> rfl
  rw [this, Bool.false_or]
  unfold begins
  by_cases e1 : P.miss = (k : Int)
  · simp [e1]
  · have e2 : ¬ (k : Int) = P.miss := fun e => e1 e.symm
    simp [e1, e2]
/-- what look tells -/
def lookF (P : Prg) : Int × Int := if checkV P ≠ 0 then ((checkV P : Int), 0) else if (looksV P P.cd.length 0 (ats0 P)).1 ≠ 0 then ((looksV P P.cd.length 0 (ats0 P)).1, ((looksV P P.cd.length 0 (ats0 P)).2.1 : Int)) else (0, 0)
theorem Rel.fitR {P : Prg} {n : Nat} {ats : List St} {rs : List Rs} {ups : List Int} (h : Rel P n ats rs ups) (hf : Fits P ats) (hn : n < P.cd.length) : (atRs rs (n : Int)).got = true → ((atRs rs (n : Int)).lp = -1 ∨ pIn P (atRs rs (n : Int)).lp) ∧ (atRs rs (n : Int)).ty.size ≤ 4194304 := by
  intro hg
  cases ht : (atSt ats (n : Int)).there
  · rw [h.off n ht] at hg; cases hg
  · obtain ⟨e1, e2, e3⟩ := h.on n ht
    have hlt : n < ats.length := by rw [h.la]; exact hn
    have hs : ats[n]? = some (atSt ats (n : Int)) := by simp [atSt, hlt]
    have hfit := hf n _ hs
    rw [e1]
    refine ⟨?_, ?_⟩
    · rcases e3.inner with e | ⟨t, e, ht⟩
      · exact .inl e
      · refine .inr ?_
        show pIn P (innerV _)
        rw [e]
        exact ⟨by omega, by rw [Int.toNat_natCast]; omega⟩
    · show (cvB _).size ≤ _
      rw [cvB_size]
      have := hfit.ty
      omega
end Go.Proofs.Ytjflllfkgbhemaa

/- The walk of the reference's place. Conditions: the bounds that are named. -/
namespace Go.Proofs.Ytjflllfkgbhemaa
open Go.RowKit Go.PlainAid
theorem goesR_pos {P : Prg} {at_ : Nat} {x : Ins} {s : Rs} {ups : List Int} (hat : at_ < P.cd.length) (hx : Chk P x) : ∀ v ∈ goesR at_ x s ups, 0 ≤ v.1 ∧ v.1 ≤ (P.cd.length : Int) := by
  intro u hu
  unfold goesR at hu
  by_cases o0 : x.op = 0
  · simp [o0] at hu
  by_cases o27 : x.op = 27
  · simp [o27] at hu
  by_cases oj : x.op = 22 ∨ x.op = 23 ∨ x.op = 25 ∨ x.op = 26
  · have hp := hx.pj oj
    have h0 := hp.1
    have h1 := hp.2
    rcases oj with oj | oj | oj | oj <;> simp [oj] at hu
    · subst hu; simp only; omega
    all_goals
      rcases hu with rfl | rfl <;> simp only <;> omega
  · have h1 : x.op ≠ 22 ∧ x.op ≠ 23 ∧ x.op ≠ 25 ∧ x.op ≠ 26 := by omega
    simp [o0, o27, h1] at hu
    subst hu
    simp only
    omega
theorem goesR_len (at_ : Nat) (x : Ins) (s : Rs) (ups : List Int) : (goesR at_ x s ups).length ≤ 2 := by
  unfold goesR
  repeat' split
  all_goals simp
theorem puts_here {l : List (Int × Rs)} {i : Nat} {v : Int × Rs} (h : l[i]? = some v) (rs : List Rs) : putsR (l.drop i) rs = if (atRs rs v.1).got then (if eqR (atRs rs v.1) v.2 then putsR (l.drop (i + 1)) rs else (94, rs)) else putsR (l.drop (i + 1)) (rs.set v.1.toNat v.2) := by
  obtain ⟨hi, rfl⟩ := List.getElem?_eq_some_iff.1 h
  rw [List.drop_eq_getElem_cons hi, putsR]
theorem any_take {α : Type} {l : List α} {f : α → Bool} (h : ∀ v ∈ l, f v = false) : l.any f = false := by
  rw [List.any_eq_false]
  intro v hv
  rw [h v hv]
  decide
theorem any_here {α : Type} {l : List α} {f : α → Bool} {i : Nat} {v : α} (h : l[i]? = some v) (hf : f v = true) : l.any f = true := List.any_eq_true.2 ⟨v, List.mem_of_getElem? h, hf⟩
theorem take_next {α : Type} {l : List α} {i : Nat} {v : α} {p : α → Prop} (h : l[i]? = some v) (ht : ∀ u ∈ l.take i, p u) (hv : p v) : ∀ u ∈ l.take (i + 1), p u := by
  intro u hu
  rw [List.take_add_one, h] at hu
  simp only [Option.toList_some, List.mem_append, List.mem_singleton] at hu
  rcases hu with hu | rfl
  · exact ht u hu
  · exact hv
section
variable {w0 w : World} {lb ab ub sb : Nat} {p : PV} {P : Prg} {ats : List Rs} {ups : List Int} {sts : List Bool}
theorem GoM.at_ {B : Nat} {W : World} {o1 o2 : Option Addr} {l : List (Int × Rs)} (h : GoM B W (.slice o1 l.length l.length) (.slice o2 l.length l.length) l) {i : Nat} {v : Int × Rs} (hi : l[i]? = some v) :
    ∃ g1 g2, o1 = some ⟨g1, 0, none⟩ ∧ o2 = some ⟨g2, 0, none⟩ ∧ ∀ W', Below W.heap.size W W' → W'.cell? ⟨g1, i, none⟩ = some (.int .i64 v.1) ∧ W'.cell? ⟨g2, i * 4, none⟩ = some (.string v.2.ty) ∧ W'.cell? ⟨g2, i * 4 + 1, none⟩ = some (.int .i64 v.2.lp) ∧ W'.cell? ⟨g2, i * 4 + 2, none⟩ = some (.int .i64 v.2.hd) ∧ W'.cell? ⟨g2, i * 4 + 3, none⟩ = some (.bool v.2.got) := by
  obtain ⟨p1, p2, h1, h2, h3⟩ := h
  obtain ⟨g1, g2, e1, e2, _, _, k1, k2⟩ := h3 (fun e => by rw [e] at hi; simp at hi)
  have f1 : o1 = p1 := by injection h1
  have f2 : o2 = p2 := by injection h2
  refine ⟨g1, g2, f1.trans e1, f2.trans e2, fun W' hb => ?_⟩
  have q1 := k1.below hb k1.lt
  have q2 := k2.below hb k2.lt
  obtain ⟨y0, y1, y2, y3⟩ := rsV_get (l := l.map (·.2)) (i := i) (x := v.2) (by simp [hi])
  refine ⟨?_, ?_, ?_, ?_, ?_⟩
  · rw [q1.cell]; simp [ints, hi]
  all_goals
    rw [q2.cell]
    simpa
set_option linter.unusedVariables false in
set_option linter.unusedSimpArgs false in
set_option maxRecDepth 100000 in
set_option maxHeartbeats 40000000 in
theorem place_r (h : LMem w0 w lb ab ub sb p P ats ups sts) (hn : P.cd.length ≤ 262144) (at_ : Nat) (hat : at_ < P.cd.length) (x : Ins) (hxe : insAt P (at_ : Int) = x) (hx : Chk P x) (s : Rs) (hse : atRs ats (at_ : Int) = s) (hlp : s.lp = -1 ∨ pIn P s.lp) (hty : s.ty.size ≤ 4194304) :
    Calls Try.prog 37 #[.pointer (some ⟨lb, 0, none⟩), .int .i64 (at_ : Int)] w fun en w' => en = .returned (.int .i64 (placeR P at_ x ats ups sts).1) ∧ LMem w0 w' lb ab ub sb p P (placeR P at_ x ats ups sts).2.1 (placeR P at_ x ats ups sts).2.2 sts := by
  obtain ⟨ad, had, hcd⟩ := h.ca (by omega)
  have hc := hcd at_ hat
  rw [hxe] at hc
  obtain ⟨ty, lp, hd, got⟩ := s
  obtain ⟨op, a, b, c, d⟩ := x
  simp only at hlp hty
  have g5 := h.cellL.2.1
  have g6 := h.cellL.2.2.1
  rw [had] at g5
  obtain ⟨r0, r1, r2, r3⟩ := h.rsAt hat _ (Below.refl _ _)
  rw [hse] at r0 r1 r2 r3
  simp only at r0 r1 r2 r3
  have hal1 : Below w.heap.size w (w.alloc (.cells #[.string ty, .int .i64 lp, .int .i64 hd, .bool got] 79)) := (Below.refl _ w).alloc (Nat.le_refl _) _
  have hal2 : Below w.heap.size w ((w.alloc (.cells #[.string ty, .int .i64 lp, .int .i64 hd, .bool got] 79)).alloc (.cells #[.int .i64 op, .int .i64 a, .int .i64 b, .int .i64 c, .int .i64 d] 46)) := hal1.alloc (by simp) _
  have k5 := (hal1.cell (p := ⟨lb, 5, none⟩) h.l.lt).trans g5
  obtain ⟨c0, c1, c2, c3, c4⟩ := hc _ hal1
  simp only at c0 c1 c2 c3 c4
  have HL0 := hide ((h.alloc (.cells #[.string ty, .int .i64 lp, .int .i64 hd, .bool got] 79)).alloc (.cells #[.int .i64 op, .int .i64 a, .int .i64 b, .int .i64 c, .int .i64 d] 46))
  have HL00 := hide (h.alloc (.cells #[.string ty, .int .i64 lp, .int .i64 hd, .bool got] 79))
  have HKS0 := hide ((Blk.new w 79 #[.string ty, .int .i64 lp, .int .i64 hd, .bool got]).alloc (.cells #[.int .i64 op, .int .i64 a, .int .i64 b, .int .i64 c, .int .i64 d] 46))
  have HKX0 : Hid (Blk ((w.alloc (.cells #[.string ty, .int .i64 lp, .int .i64 hd, .bool got] 79)).alloc (.cells #[.int .i64 op, .int .i64 a, .int .i64 b, .int .i64 c, .int .i64 d] 46)) (w.heap.size + 1) 46 #[.int .i64 op, .int .i64 a, .int .i64 b, .int .i64 c, .int .i64 d]) := hide (by
    have := Blk.new (w.alloc (.cells #[.string ty, .int .i64 lp, .int .i64 hd, .bool got] 79)) 46 #[.int .i64 op, .int .i64 a, .int .i64 b, .int .i64 c, .int .i64 d]
    simpa using this)
  have hatI : (at_ : Int) < (P.cd.length : Int) := by omega
  obtain ⟨⟨ho, hv⟩, eh⟩ : ∃ r, handR P op a hd = r := ⟨_, rfl⟩
  obtain ⟨⟨tr, er⟩, eo⟩ : ∃ r, operandsR op ty = r := ⟨_, rfl⟩
  obtain ⟨kv, ek⟩ : ∃ r, kindsV P op a c = r := ⟨_, rfl⟩
  obtain ⟨jv, ej⟩ : ∃ r, jumpsR P at_ ⟨op, a, b, c, d⟩ tr lp ats sts = r := ⟨_, rfl⟩
  have C59 : ∀ W, LMem w0 W lb ab ub sb p P ats ups sts → Hid (Calls Try.prog 59 #[.pointer (some ⟨lb, 0, none⟩), .agg #[.int .i64 op, .int .i64 a, .int .i64 b, .int .i64 c, .int .i64 d], .int .i64 hd] W fun en w' => en = .returned (.tuple #[.bool ho, .int .i64 hv]) ∧ Below W.heap.size W w') := fun W h => hide (by
    have := hand_r h ⟨op, a, b, c, d⟩ hd hx.q34 hx.q35
    simp only [eh] at this
    exact this)
  have C60 : ∀ W, Hid (Calls Try.prog 60 #[.agg #[.int .i64 op, .int .i64 a, .int .i64 b, .int .i64 c, .int .i64 d], .string ty] W fun en w' => en = .returned (.tuple #[.string tr, .int .i64 er]) ∧ Below W.heap.size W w') := fun W => hide (by
    have := operands_r W ⟨op, a, b, c, d⟩ ty hty
    simp only [eo] at this
    exact this)
  have C61 : ∀ W, LMem w0 W lb ab ub sb p P ats ups sts → Hid (Calls Try.prog 61 #[.pointer (some ⟨lb, 0, none⟩), .agg #[.int .i64 op, .int .i64 a, .int .i64 b, .int .i64 c, .int .i64 d]] W fun en w' => en = .returned (.bool kv) ∧ Below W.heap.size W w') := fun W h => hide (by
    have := queues_r h ⟨op, a, b, c, d⟩ hx.qk hx.qc
    simp only [ek] at this
    exact this)
  have C62 : ∀ W, LMem w0 W lb ab ub sb p P ats ups sts → Hid (Calls Try.prog 62 #[.pointer (some ⟨lb, 0, none⟩), .int .i64 (at_ : Int), .agg #[.string tr, .int .i64 lp, .int .i64 0, .bool false]] W fun en w' => en = .returned (.bool jv) ∧ Below W.heap.size W w') := fun W h => hide (by
    have := jumps_r h hn at_ hat tr lp 0 false (by rw [hxe]; exact hx) hlp
    rw [hxe, ej] at this
    exact this)
  have hpos := goesR_pos (P := P) (s := ⟨tr, lp, hv, true⟩) (ups := ups) hat hx
  have hR : placeR P at_ ⟨op, a, b, c, d⟩ ats ups sts = if got = false then (99, ats, ups) else if ho = false then (96, ats, ups) else if er ≠ 0 then (er, ats, ups) else if kv = false then (92, ats, ups) else if jv = false then (95, ats, ups) else
      if (goesR at_ ⟨op, a, b, c, d⟩ ⟨tr, lp, hv, true⟩ ups).any (fun v => v.1 == P.cd.length) then (98, ats, upsR at_ ⟨op, a, b, c, d⟩ ⟨tr, lp, hv, true⟩ ups) else if (goesR at_ ⟨op, a, b, c, d⟩ ⟨tr, lp, hv, true⟩ ups).any (fun v => (atRs ats v.1).got && !eqR (atRs ats v.1) v.2) then (94, ats, upsR at_ ⟨op, a, b, c, d⟩ ⟨tr, lp, hv, true⟩ ups)
      else ((putsR (goesR at_ ⟨op, a, b, c, d⟩ ⟨tr, lp, hv, true⟩ ups) ats).1, (putsR (goesR at_ ⟨op, a, b, c, d⟩ ⟨tr, lp, hv, true⟩ ups) ats).2, upsR at_ ⟨op, a, b, c, d⟩ ⟨tr, lp, hv, true⟩ ups) := by
    unfold placeR
    simp only [hse, eh, eo, ek, ej]
  have hl2 := goesR_len at_ ⟨op, a, b, c, d⟩ ⟨tr, lp, hv, true⟩ ups
  have C63 : jv = true → ∀ W, LMem w0 W lb ab ub sb p P ats ups sts → Hid (Calls Try.prog 63 #[.pointer (some ⟨lb, 0, none⟩), .int .i64 (at_ : Int), .agg #[.string tr, .int .i64 lp, .int .i64 hv, .bool true]] W fun en w' => ∃ v1 v2, en = .returned (.tuple #[v1, v2]) ∧ GoM W.heap.size w' v1 v2 (goesR at_ ⟨op, a, b, c, d⟩ ⟨tr, lp, hv, true⟩ ups) ∧ LMem w0 w' lb ab ub sb p P ats (upsR at_ ⟨op, a, b, c, d⟩ ⟨tr, lp, hv, true⟩ ups) sts) := fun hj W h => hide (by
    have := goes_r h hn at_ hat ⟨tr, lp, hv, true⟩ (fun e => by
      rw [hxe] at e
      simp only at e
      subst e
      rw [← ej] at hj
      unfold jumpsR at hj
      simp only [show ¬ ((26 : Int) = 22 ∨ (26 : Int) = 23) by decide, show ¬ (26 : Int) = 24 by decide, show ¬ (26 : Int) = 25 by decide, if_false, if_true, Bool.and_eq_true, decide_eq_true_eq] at hj
      rcases hlp with e | e
      · exact absurd hj.2.1 (by rw [e]; decide)
      · exact e)
    rw [hxe] at this
    exact this)
  generalize goesR at_ ⟨op, a, b, c, d⟩ ⟨tr, lp, hv, true⟩ ups = l at *
  generalize upsR at_ ⟨op, a, b, c, d⟩ ⟨tr, lp, hv, true⟩ ups = u at *
  generalize placeR P at_ ⟨op, a, b, c, d⟩ ats ups sts = R at *
  have HAD := hide had
  have HPOS := hide hpos
  have HR0 := hide hR
  have hb0 : True := trivial
  clear h hcd hc hxe hx hse hlp hal1 hal2 g5 had eh eo ek ej hpos hR hb0
  cases got
  · have HR : Hid (R = (99, ats, ups)) := hide (by rw [HR0.out]; rfl)
    clear HR0 C59 C60 C61 C62 C63
    go_enter Try.func37, Try.ntmps37
    go_wp2_with fail
    all_goals
      go_ret
      exact ⟨by rw [HR.out]; rfl, by rw [HR.out]; exact HL00.out⟩
  cases ho
  · have HR : Hid (R = (96, ats, ups)) := hide (by rw [HR0.out]; rfl)
    clear HR0 C60 C61 C62 C63
    go_enter Try.func37, Try.ntmps37
    go_wp2_with (first
                 | (go_at_call 59
                    refine (C59 _ HL0.out).out.mono ?_
                    rintro en w1 ⟨rfl, hb1⟩
                    have kS1 := HKS0.out.below hb1 HKS0.out.lt
                    have kX1 := HKX0.out.below hb1 HKX0.out.lt
                    have HL1 := hide (HL0.out.below hb1)
                    have s10 : w1.cell? ⟨w.heap.size, 0, none⟩ = some (.string ty) := by rw [kS1.cell]; rfl
                    have s11 : w1.cell? ⟨w.heap.size, 1, none⟩ = some (.int .i64 lp) := by rw [kS1.cell]; rfl
                    have s12 : w1.cell? ⟨w.heap.size, 2, none⟩ = some (.int .i64 hd) := by rw [kS1.cell]; rfl
                    have x10 : w1.cell? ⟨w.heap.size + 1, 0, none⟩ = some (.int .i64 op) := by rw [kX1.cell]; rfl
                    have x11 : w1.cell? ⟨w.heap.size + 1, 1, none⟩ = some (.int .i64 a) := by rw [kX1.cell]; rfl
                    have x12 : w1.cell? ⟨w.heap.size + 1, 2, none⟩ = some (.int .i64 b) := by rw [kX1.cell]; rfl
                    have x13 : w1.cell? ⟨w.heap.size + 1, 3, none⟩ = some (.int .i64 c) := by rw [kX1.cell]; rfl
                    have x14 : w1.cell? ⟨w.heap.size + 1, 4, none⟩ = some (.int .i64 d) := by rw [kX1.cell]; rfl
                    have HKS1 := hide kS1
                    have HKX1 := hide kX1
                    clear hb1 kS1 kX1))
    all_goals
      go_ret
      exact ⟨by rw [HR.out]; rfl, by rw [HR.out]; exact HL1.out⟩
  by_cases he : er = 0
  case neg =>
    have HR : Hid (R = (er, ats, ups)) := hide (by rw [HR0.out]; simp [he])
    have he2 : (er == 0) = false := by simpa using he
    have he3 : (er != 0) = true := by simpa using he
    clear HR0 C61 C62 C63
    go_enter Try.func37, Try.ntmps37
    go_wp2_with (first
                 | (go_at_call 59
                    refine (C59 _ HL0.out).out.mono ?_
                    rintro en w1 ⟨rfl, hb1⟩
                    have kS1 := HKS0.out.below hb1 HKS0.out.lt
                    have kX1 := HKX0.out.below hb1 HKX0.out.lt
                    have HL1 := hide (HL0.out.below hb1)
                    have s10 : w1.cell? ⟨w.heap.size, 0, none⟩ = some (.string ty) := by rw [kS1.cell]; rfl
                    have s11 : w1.cell? ⟨w.heap.size, 1, none⟩ = some (.int .i64 lp) := by rw [kS1.cell]; rfl
                    have s12 : w1.cell? ⟨w.heap.size, 2, none⟩ = some (.int .i64 hd) := by rw [kS1.cell]; rfl
                    have x10 : w1.cell? ⟨w.heap.size + 1, 0, none⟩ = some (.int .i64 op) := by rw [kX1.cell]; rfl
                    have x11 : w1.cell? ⟨w.heap.size + 1, 1, none⟩ = some (.int .i64 a) := by rw [kX1.cell]; rfl
                    have x12 : w1.cell? ⟨w.heap.size + 1, 2, none⟩ = some (.int .i64 b) := by rw [kX1.cell]; rfl
                    have x13 : w1.cell? ⟨w.heap.size + 1, 3, none⟩ = some (.int .i64 c) := by rw [kX1.cell]; rfl
                    have x14 : w1.cell? ⟨w.heap.size + 1, 4, none⟩ = some (.int .i64 d) := by rw [kX1.cell]; rfl
                    have HKS1 := hide kS1
                    have HKX1 := hide kX1
                    clear hb1 kS1 kX1)
                 | (go_at_call 60
                    refine (C60 _).out.mono ?_
                    rintro en w2 ⟨rfl, hb2⟩
                    have kS2 := HKS1.out.below hb2 HKS1.out.lt
                    have kX2 := HKX1.out.below hb2 HKX1.out.lt
                    have HL2 := hide (HL1.out.below hb2)
                    have s20 : w2.cell? ⟨w.heap.size, 0, none⟩ = some (.string ty) := by rw [kS2.cell]; rfl
                    have s21 : w2.cell? ⟨w.heap.size, 1, none⟩ = some (.int .i64 lp) := by rw [kS2.cell]; rfl
                    have s22 : w2.cell? ⟨w.heap.size, 2, none⟩ = some (.int .i64 hd) := by rw [kS2.cell]; rfl
                    have x20 : w2.cell? ⟨w.heap.size + 1, 0, none⟩ = some (.int .i64 op) := by rw [kX2.cell]; rfl
                    have x21 : w2.cell? ⟨w.heap.size + 1, 1, none⟩ = some (.int .i64 a) := by rw [kX2.cell]; rfl
                    have x22 : w2.cell? ⟨w.heap.size + 1, 2, none⟩ = some (.int .i64 b) := by rw [kX2.cell]; rfl
                    have x23 : w2.cell? ⟨w.heap.size + 1, 3, none⟩ = some (.int .i64 c) := by rw [kX2.cell]; rfl
                    have x24 : w2.cell? ⟨w.heap.size + 1, 4, none⟩ = some (.int .i64 d) := by rw [kX2.cell]; rfl
                    have HKS2 := hide kS2
                    have HKX2 := hide kX2
                    clear hb2 kS2 kX2))
    all_goals
      go_ret
      exact ⟨by rw [HR.out]; rfl, by rw [HR.out]; exact HL2.out⟩
  subst he
  cases kv
  · have HR : Hid (R = (92, ats, ups)) := hide (by rw [HR0.out]; rfl)
    clear HR0 C62 C63
    go_enter Try.func37, Try.ntmps37
    go_wp2_with (first
                 | (go_at_call 59
                    refine (C59 _ HL0.out).out.mono ?_
                    rintro en w1 ⟨rfl, hb1⟩
                    have kS1 := HKS0.out.below hb1 HKS0.out.lt
                    have kX1 := HKX0.out.below hb1 HKX0.out.lt
                    have HL1 := hide (HL0.out.below hb1)
                    have s10 : w1.cell? ⟨w.heap.size, 0, none⟩ = some (.string ty) := by rw [kS1.cell]; rfl
                    have s11 : w1.cell? ⟨w.heap.size, 1, none⟩ = some (.int .i64 lp) := by rw [kS1.cell]; rfl
                    have s12 : w1.cell? ⟨w.heap.size, 2, none⟩ = some (.int .i64 hd) := by rw [kS1.cell]; rfl
                    have x10 : w1.cell? ⟨w.heap.size + 1, 0, none⟩ = some (.int .i64 op) := by rw [kX1.cell]; rfl
                    have x11 : w1.cell? ⟨w.heap.size + 1, 1, none⟩ = some (.int .i64 a) := by rw [kX1.cell]; rfl
                    have x12 : w1.cell? ⟨w.heap.size + 1, 2, none⟩ = some (.int .i64 b) := by rw [kX1.cell]; rfl
                    have x13 : w1.cell? ⟨w.heap.size + 1, 3, none⟩ = some (.int .i64 c) := by rw [kX1.cell]; rfl
                    have x14 : w1.cell? ⟨w.heap.size + 1, 4, none⟩ = some (.int .i64 d) := by rw [kX1.cell]; rfl
                    have HKS1 := hide kS1
                    have HKX1 := hide kX1
                    clear hb1 kS1 kX1)
                 | (go_at_call 60
                    refine (C60 _).out.mono ?_
                    rintro en w2 ⟨rfl, hb2⟩
                    have kS2 := HKS1.out.below hb2 HKS1.out.lt
                    have kX2 := HKX1.out.below hb2 HKX1.out.lt
                    have HL2 := hide (HL1.out.below hb2)
                    have s20 : w2.cell? ⟨w.heap.size, 0, none⟩ = some (.string ty) := by rw [kS2.cell]; rfl
                    have s21 : w2.cell? ⟨w.heap.size, 1, none⟩ = some (.int .i64 lp) := by rw [kS2.cell]; rfl
                    have s22 : w2.cell? ⟨w.heap.size, 2, none⟩ = some (.int .i64 hd) := by rw [kS2.cell]; rfl
                    have x20 : w2.cell? ⟨w.heap.size + 1, 0, none⟩ = some (.int .i64 op) := by rw [kX2.cell]; rfl
                    have x21 : w2.cell? ⟨w.heap.size + 1, 1, none⟩ = some (.int .i64 a) := by rw [kX2.cell]; rfl
                    have x22 : w2.cell? ⟨w.heap.size + 1, 2, none⟩ = some (.int .i64 b) := by rw [kX2.cell]; rfl
                    have x23 : w2.cell? ⟨w.heap.size + 1, 3, none⟩ = some (.int .i64 c) := by rw [kX2.cell]; rfl
                    have x24 : w2.cell? ⟨w.heap.size + 1, 4, none⟩ = some (.int .i64 d) := by rw [kX2.cell]; rfl
                    have HKS2 := hide kS2
                    have HKX2 := hide kX2
                    clear hb2 kS2 kX2)
                 | (go_at_call 61
                    refine (C61 _ HL2.out).out.mono ?_
                    rintro en w3 ⟨rfl, hb3⟩
                    have kS3 := HKS2.out.below hb3 HKS2.out.lt
                    have kX3 := HKX2.out.below hb3 HKX2.out.lt
                    have HL3 := hide (HL2.out.below hb3)
                    have s30 : w3.cell? ⟨w.heap.size, 0, none⟩ = some (.string ty) := by rw [kS3.cell]; rfl
                    have s31 : w3.cell? ⟨w.heap.size, 1, none⟩ = some (.int .i64 lp) := by rw [kS3.cell]; rfl
                    have s32 : w3.cell? ⟨w.heap.size, 2, none⟩ = some (.int .i64 hd) := by rw [kS3.cell]; rfl
                    have x30 : w3.cell? ⟨w.heap.size + 1, 0, none⟩ = some (.int .i64 op) := by rw [kX3.cell]; rfl
                    have x31 : w3.cell? ⟨w.heap.size + 1, 1, none⟩ = some (.int .i64 a) := by rw [kX3.cell]; rfl
                    have x32 : w3.cell? ⟨w.heap.size + 1, 2, none⟩ = some (.int .i64 b) := by rw [kX3.cell]; rfl
                    have x33 : w3.cell? ⟨w.heap.size + 1, 3, none⟩ = some (.int .i64 c) := by rw [kX3.cell]; rfl
                    have x34 : w3.cell? ⟨w.heap.size + 1, 4, none⟩ = some (.int .i64 d) := by rw [kX3.cell]; rfl
                    have HKS3 := hide kS3
                    have HKX3 := hide kX3
                    clear hb3 kS3 kX3))
    all_goals
      go_ret
      exact ⟨by rw [HR.out]; rfl, by rw [HR.out]; exact HL3.out⟩
  cases jv
  · have HR : Hid (R = (95, ats, ups)) := hide (by rw [HR0.out]; rfl)
    clear HR0 C63
    go_enter Try.func37, Try.ntmps37
    go_wp2_with (first
                 | (go_at_call 59
                    refine (C59 _ HL0.out).out.mono ?_
                    rintro en w1 ⟨rfl, hb1⟩
                    have kS1 := HKS0.out.below hb1 HKS0.out.lt
                    have kX1 := HKX0.out.below hb1 HKX0.out.lt
                    have HL1 := hide (HL0.out.below hb1)
                    have s10 : w1.cell? ⟨w.heap.size, 0, none⟩ = some (.string ty) := by rw [kS1.cell]; rfl
                    have s11 : w1.cell? ⟨w.heap.size, 1, none⟩ = some (.int .i64 lp) := by rw [kS1.cell]; rfl
                    have s12 : w1.cell? ⟨w.heap.size, 2, none⟩ = some (.int .i64 hd) := by rw [kS1.cell]; rfl
                    have x10 : w1.cell? ⟨w.heap.size + 1, 0, none⟩ = some (.int .i64 op) := by rw [kX1.cell]; rfl
                    have x11 : w1.cell? ⟨w.heap.size + 1, 1, none⟩ = some (.int .i64 a) := by rw [kX1.cell]; rfl
                    have x12 : w1.cell? ⟨w.heap.size + 1, 2, none⟩ = some (.int .i64 b) := by rw [kX1.cell]; rfl
                    have x13 : w1.cell? ⟨w.heap.size + 1, 3, none⟩ = some (.int .i64 c) := by rw [kX1.cell]; rfl
                    have x14 : w1.cell? ⟨w.heap.size + 1, 4, none⟩ = some (.int .i64 d) := by rw [kX1.cell]; rfl
                    have HKS1 := hide kS1
                    have HKX1 := hide kX1
                    clear hb1 kS1 kX1)
                 | (go_at_call 60
                    refine (C60 _).out.mono ?_
                    rintro en w2 ⟨rfl, hb2⟩
                    have kS2 := HKS1.out.below hb2 HKS1.out.lt
                    have kX2 := HKX1.out.below hb2 HKX1.out.lt
                    have HL2 := hide (HL1.out.below hb2)
                    have s20 : w2.cell? ⟨w.heap.size, 0, none⟩ = some (.string ty) := by rw [kS2.cell]; rfl
                    have s21 : w2.cell? ⟨w.heap.size, 1, none⟩ = some (.int .i64 lp) := by rw [kS2.cell]; rfl
                    have s22 : w2.cell? ⟨w.heap.size, 2, none⟩ = some (.int .i64 hd) := by rw [kS2.cell]; rfl
                    have x20 : w2.cell? ⟨w.heap.size + 1, 0, none⟩ = some (.int .i64 op) := by rw [kX2.cell]; rfl
                    have x21 : w2.cell? ⟨w.heap.size + 1, 1, none⟩ = some (.int .i64 a) := by rw [kX2.cell]; rfl
                    have x22 : w2.cell? ⟨w.heap.size + 1, 2, none⟩ = some (.int .i64 b) := by rw [kX2.cell]; rfl
                    have x23 : w2.cell? ⟨w.heap.size + 1, 3, none⟩ = some (.int .i64 c) := by rw [kX2.cell]; rfl
                    have x24 : w2.cell? ⟨w.heap.size + 1, 4, none⟩ = some (.int .i64 d) := by rw [kX2.cell]; rfl
                    have HKS2 := hide kS2
                    have HKX2 := hide kX2
                    clear hb2 kS2 kX2)
                 | (go_at_call 61
                    refine (C61 _ HL2.out).out.mono ?_
                    rintro en w3 ⟨rfl, hb3⟩
                    have kS3 := HKS2.out.below hb3 HKS2.out.lt
                    have kX3 := HKX2.out.below hb3 HKX2.out.lt
                    have HL3 := hide (HL2.out.below hb3)
                    have s30 : w3.cell? ⟨w.heap.size, 0, none⟩ = some (.string ty) := by rw [kS3.cell]; rfl
                    have s31 : w3.cell? ⟨w.heap.size, 1, none⟩ = some (.int .i64 lp) := by rw [kS3.cell]; rfl
                    have s32 : w3.cell? ⟨w.heap.size, 2, none⟩ = some (.int .i64 hd) := by rw [kS3.cell]; rfl
                    have x30 : w3.cell? ⟨w.heap.size + 1, 0, none⟩ = some (.int .i64 op) := by rw [kX3.cell]; rfl
                    have x31 : w3.cell? ⟨w.heap.size + 1, 1, none⟩ = some (.int .i64 a) := by rw [kX3.cell]; rfl
                    have x32 : w3.cell? ⟨w.heap.size + 1, 2, none⟩ = some (.int .i64 b) := by rw [kX3.cell]; rfl
                    have x33 : w3.cell? ⟨w.heap.size + 1, 3, none⟩ = some (.int .i64 c) := by rw [kX3.cell]; rfl
                    have x34 : w3.cell? ⟨w.heap.size + 1, 4, none⟩ = some (.int .i64 d) := by rw [kX3.cell]; rfl
                    have HKS3 := hide kS3
                    have HKX3 := hide kX3
                    clear hb3 kS3 kX3)
                 | (go_at_call 62
                    refine (C62 _ HL3.out).out.mono ?_
                    rintro en w4 ⟨rfl, hb4⟩
                    have kS4 := HKS3.out.below hb4 HKS3.out.lt
                    have kX4 := HKX3.out.below hb4 HKX3.out.lt
                    have HL4 := hide (HL3.out.below hb4)
                    have s40 : w4.cell? ⟨w.heap.size, 0, none⟩ = some (.string ty) := by rw [kS4.cell]; rfl
                    have s41 : w4.cell? ⟨w.heap.size, 1, none⟩ = some (.int .i64 lp) := by rw [kS4.cell]; rfl
                    have s42 : w4.cell? ⟨w.heap.size, 2, none⟩ = some (.int .i64 hd) := by rw [kS4.cell]; rfl
                    have x40 : w4.cell? ⟨w.heap.size + 1, 0, none⟩ = some (.int .i64 op) := by rw [kX4.cell]; rfl
                    have x41 : w4.cell? ⟨w.heap.size + 1, 1, none⟩ = some (.int .i64 a) := by rw [kX4.cell]; rfl
                    have x42 : w4.cell? ⟨w.heap.size + 1, 2, none⟩ = some (.int .i64 b) := by rw [kX4.cell]; rfl
                    have x43 : w4.cell? ⟨w.heap.size + 1, 3, none⟩ = some (.int .i64 c) := by rw [kX4.cell]; rfl
                    have x44 : w4.cell? ⟨w.heap.size + 1, 4, none⟩ = some (.int .i64 d) := by rw [kX4.cell]; rfl
                    have HKS4 := hide kS4
                    have HKX4 := hide kX4
                    clear hb4 kS4 kX4))
    all_goals
      go_ret
      exact ⟨by rw [HR.out]; rfl, by rw [HR.out]; exact HL4.out⟩
  replace C63 := C63 rfl
  have HR1 : Hid (R = if l.any (fun v => v.1 == P.cd.length) then (98, ats, u) else if l.any (fun v => (atRs ats v.1).got && !eqR (atRs ats v.1) v.2) then (94, ats, u) else ((putsR l ats).1, (putsR l ats).2, u)) := hide (by rw [HR0.out]; simp)
  clear HR0
  go_enter Try.func37, Try.ntmps37
  go_wp2_with (first
               | (go_at_call 59
                  refine (C59 _ HL0.out).out.mono ?_
                  rintro en w1 ⟨rfl, hb1⟩
                  have kS1 := HKS0.out.below hb1 HKS0.out.lt
                  have kX1 := HKX0.out.below hb1 HKX0.out.lt
                  have HL1 := hide (HL0.out.below hb1)
                  have s10 : w1.cell? ⟨w.heap.size, 0, none⟩ = some (.string ty) := by rw [kS1.cell]; rfl
                  have s11 : w1.cell? ⟨w.heap.size, 1, none⟩ = some (.int .i64 lp) := by rw [kS1.cell]; rfl
                  have s12 : w1.cell? ⟨w.heap.size, 2, none⟩ = some (.int .i64 hd) := by rw [kS1.cell]; rfl
                  have x10 : w1.cell? ⟨w.heap.size + 1, 0, none⟩ = some (.int .i64 op) := by rw [kX1.cell]; rfl
                  have x11 : w1.cell? ⟨w.heap.size + 1, 1, none⟩ = some (.int .i64 a) := by rw [kX1.cell]; rfl
                  have x12 : w1.cell? ⟨w.heap.size + 1, 2, none⟩ = some (.int .i64 b) := by rw [kX1.cell]; rfl
                  have x13 : w1.cell? ⟨w.heap.size + 1, 3, none⟩ = some (.int .i64 c) := by rw [kX1.cell]; rfl
                  have x14 : w1.cell? ⟨w.heap.size + 1, 4, none⟩ = some (.int .i64 d) := by rw [kX1.cell]; rfl
                  have HKS1 := hide kS1
                  have HKX1 := hide kX1
                  clear hb1 kS1 kX1)
               | (go_at_call 60
                  refine (C60 _).out.mono ?_
                  rintro en w2 ⟨rfl, hb2⟩
                  have kS2 := HKS1.out.below hb2 HKS1.out.lt
                  have kX2 := HKX1.out.below hb2 HKX1.out.lt
                  have HL2 := hide (HL1.out.below hb2)
                  have s20 : w2.cell? ⟨w.heap.size, 0, none⟩ = some (.string ty) := by rw [kS2.cell]; rfl
                  have s21 : w2.cell? ⟨w.heap.size, 1, none⟩ = some (.int .i64 lp) := by rw [kS2.cell]; rfl
                  have s22 : w2.cell? ⟨w.heap.size, 2, none⟩ = some (.int .i64 hd) := by rw [kS2.cell]; rfl
                  have x20 : w2.cell? ⟨w.heap.size + 1, 0, none⟩ = some (.int .i64 op) := by rw [kX2.cell]; rfl
                  have x21 : w2.cell? ⟨w.heap.size + 1, 1, none⟩ = some (.int .i64 a) := by rw [kX2.cell]; rfl
                  have x22 : w2.cell? ⟨w.heap.size + 1, 2, none⟩ = some (.int .i64 b) := by rw [kX2.cell]; rfl
                  have x23 : w2.cell? ⟨w.heap.size + 1, 3, none⟩ = some (.int .i64 c) := by rw [kX2.cell]; rfl
                  have x24 : w2.cell? ⟨w.heap.size + 1, 4, none⟩ = some (.int .i64 d) := by rw [kX2.cell]; rfl
                  have HKS2 := hide kS2
                  have HKX2 := hide kX2
                  clear hb2 kS2 kX2)
               | (go_at_call 61
                  refine (C61 _ HL2.out).out.mono ?_
                  rintro en w3 ⟨rfl, hb3⟩
                  have kS3 := HKS2.out.below hb3 HKS2.out.lt
                  have kX3 := HKX2.out.below hb3 HKX2.out.lt
                  have HL3 := hide (HL2.out.below hb3)
                  have s30 : w3.cell? ⟨w.heap.size, 0, none⟩ = some (.string ty) := by rw [kS3.cell]; rfl
                  have s31 : w3.cell? ⟨w.heap.size, 1, none⟩ = some (.int .i64 lp) := by rw [kS3.cell]; rfl
                  have s32 : w3.cell? ⟨w.heap.size, 2, none⟩ = some (.int .i64 hd) := by rw [kS3.cell]; rfl
                  have x30 : w3.cell? ⟨w.heap.size + 1, 0, none⟩ = some (.int .i64 op) := by rw [kX3.cell]; rfl
                  have x31 : w3.cell? ⟨w.heap.size + 1, 1, none⟩ = some (.int .i64 a) := by rw [kX3.cell]; rfl
                  have x32 : w3.cell? ⟨w.heap.size + 1, 2, none⟩ = some (.int .i64 b) := by rw [kX3.cell]; rfl
                  have x33 : w3.cell? ⟨w.heap.size + 1, 3, none⟩ = some (.int .i64 c) := by rw [kX3.cell]; rfl
                  have x34 : w3.cell? ⟨w.heap.size + 1, 4, none⟩ = some (.int .i64 d) := by rw [kX3.cell]; rfl
                  have HKS3 := hide kS3
                  have HKX3 := hide kX3
                  clear hb3 kS3 kX3)
               | (go_at_call 62
                  refine (C62 _ HL3.out).out.mono ?_
                  rintro en w4 ⟨rfl, hb4⟩
                  have kS4 := HKS3.out.below hb4 HKS3.out.lt
                  have kX4 := HKX3.out.below hb4 HKX3.out.lt
                  have HL4 := hide (HL3.out.below hb4)
                  have s40 : w4.cell? ⟨w.heap.size, 0, none⟩ = some (.string ty) := by rw [kS4.cell]; rfl
                  have s41 : w4.cell? ⟨w.heap.size, 1, none⟩ = some (.int .i64 lp) := by rw [kS4.cell]; rfl
                  have s42 : w4.cell? ⟨w.heap.size, 2, none⟩ = some (.int .i64 hd) := by rw [kS4.cell]; rfl
                  have x40 : w4.cell? ⟨w.heap.size + 1, 0, none⟩ = some (.int .i64 op) := by rw [kX4.cell]; rfl
                  have x41 : w4.cell? ⟨w.heap.size + 1, 1, none⟩ = some (.int .i64 a) := by rw [kX4.cell]; rfl
                  have x42 : w4.cell? ⟨w.heap.size + 1, 2, none⟩ = some (.int .i64 b) := by rw [kX4.cell]; rfl
                  have x43 : w4.cell? ⟨w.heap.size + 1, 3, none⟩ = some (.int .i64 c) := by rw [kX4.cell]; rfl
                  have x44 : w4.cell? ⟨w.heap.size + 1, 4, none⟩ = some (.int .i64 d) := by rw [kX4.cell]; rfl
                  have HKS4 := hide kS4
                  have HKX4 := hide kX4
                  clear hb4 kS4 kX4)
               | (go_at_call 63
                  refine (C63 _ HL4.out).out.mono ?_
                  rintro en w5 ⟨v1, v2, rfl, hg5, hl5⟩
                  have HG5 := hide hg5
                  have HL5 := hide hl5
                  clear hg5 hl5))
  obtain ⟨o1, o2, rfl, rfl, hgm⟩ := HG5.out
  have HG : Hid (GoM w4.heap.size w5 (.slice o1 l.length l.length) (.slice o2 l.length l.length) l) := hide ⟨o1, o2, rfl, rfl, hgm⟩
  clear hgm
  generalize hm : l.length = m at *
  have HM := hide hm
  have hlt4 := HL4.out.a.lt
  have HAB := hide hlt4
  clear hm hlt4
  clear s10 s11 s12 s20 s21 s22 s30 s31 s32 s40 s41 s42 x10 x11 x12 x13 x14 x20 x21 x22 x23 x24 x30 x31 x32 x33 x34 x40 x41 x42 x43 x44 HL0 HL1 HL2 HL3 HL00 HKS0 HKX0 HKS1 HKX1 HKS2 HKX2 HKS3 HKX3 HKS4 HKX4 C59 C60 C61 C62 C63 r0 r1 r2 r3 k5 c0 c1 c2 c3 c4 g6
  go_loopw [13] (fun tx W => ∃ i : Nat, tx = .int .i64 (i : Int) ∧ i ≤ m ∧ (∀ v ∈ l.take i, (v.1 == (P.cd.length : Int)) = false) ∧ Below w5.heap.size w5 W) (fun tx _ => m - (intOf tx).toNat)
  case atStart => exact ⟨0, rfl, Nat.zero_le _, by simp, Below.refl _ _⟩
  case round =>
    obtain ⟨i, rfl, hi, hall, hB⟩ := hrel
    rename World => W
    have HA := hide hall
    have HB := hide hB
    clear hall hB
    by_cases hlt : i < m
    · obtain ⟨v, hv1⟩ : ∃ v, l[i]? = some v := ⟨_, List.getElem?_eq_getElem (by rw [HM.out]; exact hlt)⟩
      have hG := HG.out
      rw [← HM.out] at hG
      obtain ⟨g1, g2, rfl, rfl, hcl⟩ := hG.at_ hv1
      have n1 := (hcl W HB.out).1
      have l5 := (HL5.out.below HB.out).cellL.2.1
      rw [HAD.out] at l5
      have u1 := IntWalk.i64_in ((i : Int) + 1) (by omega)
      obtain ⟨vp, vs⟩ := v
      simp only at n1
      have HV := hide hv1
      have hltI : (i : Int) < (m : Int) := by omega
      clear hcl hv1 hG hltI
      cases he : (vp == (P.cd.length : Int))
      · go_wp2_with fail
        all_goals try go_quiet (fail)
        all_goals
          go_wp2_with fail
          go_roundw
          case rel => exact ⟨i + 1, by go_num, by omega, take_next HV.out HA.out he, by first | exact HB.out | exact HB.out.drew | exact below_drewN HB.out _⟩
          case measure => simp [intOf]; omega
      · have HR : Hid (R = (98, ats, u)) := hide (by rw [HR1.out, if_pos (any_here HV.out he)])
        go_wp2_with fail
        all_goals try go_quiet (fail)
        all_goals
          go_wp2_with fail
          go_ret
          exact ⟨by rw [HR.out]; rfl, by rw [HR.out]; first | exact HL5.out.below HB.out | exact (HL5.out.below HB.out).drew | exact (HL5.out.below HB.out).drewN _⟩
    · have hal := HA.out
      rw [List.take_of_length_le (by rw [HM.out]; omega)] at hal
      have HR2 : Hid (R = if l.any (fun v => (atRs ats v.1).got && !eqR (atRs ats v.1) v.2) then (94, ats, u) else ((putsR l ats).1, (putsR l ats).2, u)) := hide (by rw [HR1.out, if_neg (by rw [any_take hal]; decide)])
      have HAL := hide hal
      have hno : ¬ (i : Int) < (m : Int) := by omega
      clear hal hlt hi HA HR1
      go_wp2_with fail
      go_loopw [14] (fun tx W => ∃ i : Nat, tx = .int .i64 (i : Int) ∧ i ≤ m ∧ (∀ v ∈ l.take i, ((atRs ats v.1).got && !eqR (atRs ats v.1) v.2) = false) ∧ Below w5.heap.size w5 W) (fun tx _ => m - (intOf tx).toNat)
      case atStart => exact ⟨0, rfl, Nat.zero_le _, by simp, HB.out⟩
      case round =>
        clear HB hno
        obtain ⟨i, rfl, hi, hall, hB⟩ := hrel
        rename World => W
        have HA := hide hall
        have HB := hide hB
        clear hall hB
        by_cases hlt : i < m
        · obtain ⟨v, hv1⟩ : ∃ v, l[i]? = some v := ⟨_, List.getElem?_eq_getElem (by rw [HM.out]; exact hlt)⟩
          have hvp := HPOS.out v (List.mem_of_getElem? hv1)
          have hvn := HAL.out v (List.mem_of_getElem? hv1)
          have hG := HG.out
          rw [← HM.out] at hG
          obtain ⟨g1, g2, rfl, rfl, hcl⟩ := hG.at_ hv1
          obtain ⟨n1, m0, m1, m2, m3⟩ := hcl W HB.out
          have l5 := (HL5.out.below HB.out).cellL.2.1
          rw [HAD.out] at l5
          have l6 := (HL5.out.below HB.out).cellL.2.2.1
          have u1 := IntWalk.i64_in ((i : Int) + 1) (by omega)
          obtain ⟨vp, ⟨vt, vl, vh, vg⟩⟩ := v
          simp only at n1 m0 m1 m2 m3 hvp hvn
          obtain ⟨k, rfl⟩ := Int.eq_ofNat_of_zero_le hvp.1
          have hk : k < P.cd.length := by
            have h2 := hvp.2
            have h3 : ¬ ((k : Int) = (P.cd.length : Int)) := by simpa using hvn
            omega
          have hkI : (k : Int) < (P.cd.length : Int) := by omega
          obtain ⟨q0, q1, q2, q3⟩ := (HL5.out.below HB.out).rsAt hk _ (Below.refl _ _)
          obtain ⟨⟨t1, l1, h1, gt⟩, hz⟩ : ∃ z, atRs ats (k : Int) = z := ⟨_, rfl⟩
          rw [hz] at q0 q1 q2 q3
          simp only at q0 q1 q2 q3
          obtain ⟨e, he⟩ : ∃ e, eqR ⟨t1, l1, h1, gt⟩ ⟨vt, vl, vh, vg⟩ = e := ⟨_, rfl⟩
          have HE := hide he
          have HV := hide hv1
          have HZ := hide hz
          have HK := hide hk
          clear hcl hv1 hG hvp hvn hz he hk
          have hq : ∀ W, (binOp .neq 79 (.agg #[.string t1, .int .i64 l1, .int .i64 h1, .bool gt]) (.agg #[.string vt, .int .i64 vl, .int .i64 vh, .bool vg])).run Try.prog W = .ok (.bool (!e)) W := fun W => (rs_neq W t1 vt l1 vl h1 vh gt vg).trans (by rw [← HE.out]; rfl)
          cases gt
          · have hb : ((atRs ats (k : Int)).got && !eqR (atRs ats (k : Int)) ⟨vt, vl, vh, vg⟩) = false := by rw [HZ.out]; rfl
            have HBB := hide hb
            clear hb hq m0 m1 m2 m3 q0 q1 q2
            go_wp2_with fail
            all_goals try go_quiet (fail)
            all_goals
              go_wp2_with fail
              go_roundw
              case rel => exact ⟨i + 1, by go_num, by omega, take_next HV.out HA.out HBB.out, by first | exact HB.out | exact HB.out.drew | exact below_drewN HB.out _⟩
              case measure => simp [intOf]; omega
          · cases e
            · have hb : ((atRs ats (k : Int)).got && !eqR (atRs ats (k : Int)) ⟨vt, vl, vh, vg⟩) = true := by rw [HZ.out, HE.out]; rfl
              have HR : Hid (R = (94, ats, u)) := hide (by rw [HR2.out, if_pos (any_here HV.out hb)])
              clear hb
              simp only [Bool.not_false] at hq
              go_wp2_with fail
              all_goals try go_quiet (fail)
              all_goals
                go_wp2_with fail
                go_ret
                exact ⟨by rw [HR.out]; rfl, by rw [HR.out]; first | exact HL5.out.below HB.out | exact (HL5.out.below HB.out).drew | exact (HL5.out.below HB.out).drewN _⟩
            · have hb : ((atRs ats (k : Int)).got && !eqR (atRs ats (k : Int)) ⟨vt, vl, vh, vg⟩) = false := by rw [HZ.out, HE.out]; rfl
              have HBB := hide hb
              clear hb
              simp only [Bool.not_true] at hq
              go_wp2_with fail
              all_goals try go_quiet (fail)
              all_goals
                go_wp2_with fail
                go_roundw
                case rel => exact ⟨i + 1, by go_num, by omega, take_next HV.out HA.out HBB.out, by first | exact HB.out | exact HB.out.drew | exact below_drewN HB.out _⟩
                case measure => simp [intOf]; omega
        · have hal := HA.out
          rw [List.take_of_length_le (by rw [HM.out]; omega)] at hal
          have HR3 : Hid (R = ((putsR l ats).1, (putsR l ats).2, u)) := hide (by rw [HR2.out, if_neg (by rw [any_take hal]; decide)])
          have hno : ¬ (i : Int) < (m : Int) := by omega
          have HLW := hide (HL5.out.below HB.out)
          have HGW := hide (HG.out.below HB.out)
          clear hal hlt hi HA HR2 HB HL5 HG HG5
          go_wp2_with fail
          clear hno
          go_loopw [15] (fun tx W => ∃ (i : Nat) (rs : List Rs), tx = .int .i64 (i : Int) ∧ i ≤ m ∧ putsR l ats = putsR (l.drop i) rs ∧ LMem w0 W lb ab ub sb p P rs u sts ∧ GoM w4.heap.size W (.slice o1 m m) (.slice o2 m m) l) (fun tx _ => m - (intOf tx).toNat)
          case atStart => exact ⟨0, ats, rfl, Nat.zero_le _, rfl, HLW.out, HGW.out⟩
          case round =>
            clear HLW HGW
            obtain ⟨i, rs, rfl, hi, hall, hL, hGm⟩ := hrel
            rename World => W
            have HA := hide hall
            have HLW := hide hL
            have HGW := hide hGm
            clear hall hL hGm
            by_cases hlt : i < m
            · obtain ⟨v, hv1⟩ : ∃ v, l[i]? = some v := ⟨_, List.getElem?_eq_getElem (by rw [HM.out]; exact hlt)⟩
              have hvp := HPOS.out v (List.mem_of_getElem? hv1)
              have hvn := HAL.out v (List.mem_of_getElem? hv1)
              have hG := HGW.out
              rw [← HM.out] at hG
              obtain ⟨g1, g2, rfl, rfl, hcl⟩ := hG.at_ hv1
              obtain ⟨n1, m0, m1, m2, m3⟩ := hcl W (Below.refl _ _)
              have l5 := (HLW.out).cellL.2.1
              rw [HAD.out] at l5
              have l6 := (HLW.out).cellL.2.2.1
              have u1 := IntWalk.i64_in ((i : Int) + 1) (by omega)
              obtain ⟨vp, ⟨vt, vl, vh, vg⟩⟩ := v
              simp only at n1 m0 m1 m2 m3 hvp hvn
              obtain ⟨k, rfl⟩ := Int.eq_ofNat_of_zero_le hvp.1
              have hk : k < P.cd.length := by
                have h2 := hvp.2
                have h3 : ¬ ((k : Int) = (P.cd.length : Int)) := by simpa using hvn
                omega
              have hkI : (k : Int) < (P.cd.length : Int) := by omega
              obtain ⟨q0, q1, q2, q3⟩ := (HLW.out).rsAt hk _ (Below.refl _ _)
              obtain ⟨⟨t1, l1, h1, gt⟩, hz⟩ : ∃ z, atRs rs (k : Int) = z := ⟨_, rfl⟩
              rw [hz] at q0 q1 q2 q3
              simp only at q0 q1 q2 q3
              obtain ⟨e, he⟩ : ∃ e, eqR ⟨t1, l1, h1, gt⟩ ⟨vt, vl, vh, vg⟩ = e := ⟨_, rfl⟩
              have HE := hide he
              have HV := hide hv1
              have HZ := hide hz
              have HK := hide hk
              clear hcl hv1 hG hvp hvn hz he hk
              have hg := fun (W : World) (h : LMem w0 W lb ab ub sb p P rs u sts) => get_r h k HK.out ⟨vt, vl, vh, vg⟩
              simp only [HZ.out, HE.out, Rs.val] at hg
              have hph := puts_here HV.out rs
              simp only [HZ.out, HE.out, Int.toNat_natCast] at hph
              have HPH := hide hph
              have HGT := fun W h => hide (hg W h)
              clear hph hg q0 q1 q2 q3 l6
              cases gt <;> cases e
              · skip
                go_wp2_with fail
                go_region_with (first
                  | (go_at_call 64
                     refine (HGT _ HLW.out).out.mono ?_
                     rintro en w6 ⟨rfl, hl6, ho6⟩
                     have HL6 := hide hl6
                     have HO6 := hide ho6
                     clear hl6 ho6)
                  | (go_at_call 64
                     refine (HGT _ HLW.out.drew).out.mono ?_
                     rintro en w6 ⟨rfl, hl6, ho6⟩
                     have HL6 := hide hl6
                     have HO6 := hide ho6
                     clear hl6 ho6))
                all_goals
                  go_wp2_with fail
                  go_roundw
                  case rel => exact ⟨i + 1, rs.set k ⟨vt, vl, vh, vg⟩, by go_num, by omega, by rw [HA.out, HPH.out]; rfl, HL6.out, by first | exact HGW.out.only HO6.out (fun k e => by rw [e]; exact HAB.out) | exact (GoM.drew HGW.out).only HO6.out (fun k e => by rw [e]; exact HAB.out)⟩
                  case measure => simp [intOf]; omega
              · skip
                go_wp2_with fail
                go_region_with (first
                  | (go_at_call 64
                     refine (HGT _ HLW.out).out.mono ?_
                     rintro en w6 ⟨rfl, hl6, ho6⟩
                     have HL6 := hide hl6
                     have HO6 := hide ho6
                     clear hl6 ho6)
                  | (go_at_call 64
                     refine (HGT _ HLW.out.drew).out.mono ?_
                     rintro en w6 ⟨rfl, hl6, ho6⟩
                     have HL6 := hide hl6
                     have HO6 := hide ho6
                     clear hl6 ho6))
                all_goals
                  go_wp2_with fail
                  go_roundw
                  case rel => exact ⟨i + 1, rs.set k ⟨vt, vl, vh, vg⟩, by go_num, by omega, by rw [HA.out, HPH.out]; rfl, HL6.out, by first | exact HGW.out.only HO6.out (fun k e => by rw [e]; exact HAB.out) | exact (GoM.drew HGW.out).only HO6.out (fun k e => by rw [e]; exact HAB.out)⟩
                  case measure => simp [intOf]; omega
              · have HR : Hid (R = (94, rs, u)) := hide (by rw [HR3.out, HA.out, HPH.out]; rfl)
                go_wp2_with fail
                go_region_with (first
                  | (go_at_call 64
                     refine (HGT _ HLW.out).out.mono ?_
                     rintro en w6 ⟨rfl, hl6, ho6⟩
                     have HL6 := hide hl6
                     have HO6 := hide ho6
                     clear hl6 ho6)
                  | (go_at_call 64
                     refine (HGT _ HLW.out.drew).out.mono ?_
                     rintro en w6 ⟨rfl, hl6, ho6⟩
                     have HL6 := hide hl6
                     have HO6 := hide ho6
                     clear hl6 ho6))
                all_goals
                  go_wp2_with fail
                  go_ret
                  exact ⟨by rw [HR.out]; rfl, by rw [HR.out]; exact HL6.out⟩
              · skip
                go_wp2_with fail
                go_region_with (first
                  | (go_at_call 64
                     refine (HGT _ HLW.out).out.mono ?_
                     rintro en w6 ⟨rfl, hl6, ho6⟩
                     have HL6 := hide hl6
                     have HO6 := hide ho6
                     clear hl6 ho6)
                  | (go_at_call 64
                     refine (HGT _ HLW.out.drew).out.mono ?_
                     rintro en w6 ⟨rfl, hl6, ho6⟩
                     have HL6 := hide hl6
                     have HO6 := hide ho6
                     clear hl6 ho6))
                all_goals
                  go_wp2_with fail
                  go_roundw
                  case rel => exact ⟨i + 1, rs, by go_num, by omega, by rw [HA.out, HPH.out]; rfl, HL6.out, by first | exact HGW.out.only HO6.out (fun k e => by rw [e]; exact HAB.out) | exact (GoM.drew HGW.out).only HO6.out (fun k e => by rw [e]; exact HAB.out)⟩
                  case measure => simp [intOf]; omega
            · have HR : Hid (R = (0, rs, u)) := hide (by rw [HR3.out, HA.out, List.drop_eq_nil_of_le (by rw [HM.out]; omega)]; rfl)
              have hno : ¬ (i : Int) < (m : Int) := by omega
              clear hlt hi
              go_wp2_with fail
              go_ret
              exact ⟨by rw [HR.out]; rfl, by rw [HR.out]; exact HLW.out⟩
end
end Go.Proofs.Ytjflllfkgbhemaa

/- The walks of Sum and Times. Conditions: the numbers' bounds. -/
namespace Go.Proofs.Ytjflllfkgbhemaa
open Go.RowKit
set_option maxRecDepth 100000 in
theorem sum_i (w : World) (a b : Int) (ha : 0 ≤ a) (ha2 : a ≤ 4611686018427387904) (hb : 0 ≤ b) (hb2 : b ≤ 4611686018427387904) : Calls Try.prog 22 #[.int .i64 a, .int .i64 b] w fun en w' => en = .returned (.int .i64 (plusV a b)) ∧ w' = w := by
  unfold plusV
  have u1 := IntWalk.i64_in (4611686018427387904 - b) (by omega)
  go_enter Try.func22, Try.ntmps22
  by_cases hc : 4611686018427387904 - b < a
  · rw [if_pos hc]
    go_wp2_with fail
    go_ret
    exact ⟨rfl, rfl⟩
  · rw [if_neg hc]
    have u2 := IntWalk.i64_in (a + b) (by omega)
    go_wp2_with fail
    go_ret
    exact ⟨rfl, rfl⟩
theorem times_quo (a b : Nat) (ha : 0 < a) : (((4611686018427387904 : Nat) / a : Nat) : Int) < (b : Int) ↔ ¬ a * b ≤ 4611686018427387904 := by
  rw [Int.ofNat_lt, Nat.not_le, Nat.div_lt_iff_lt_mul ha, Nat.mul_comm]
set_option maxRecDepth 100000 in
theorem times_j (w : World) (a b : Int) (ha : 0 ≤ a) (ha2 : a ≤ 4611686018427387904) (hb : 0 ≤ b) (hb2 : b ≤ 4611686018427387904) : Calls Try.prog 23 #[.int .i64 a, .int .i64 b] w fun en w' => en = .returned (.int .i64 (timesI a b)) ∧ w' = w := by
  obtain ⟨x, rfl⟩ := Int.eq_ofNat_of_zero_le ha
  obtain ⟨y, rfl⟩ := Int.eq_ofNat_of_zero_le hb
  unfold timesI timesV
  simp only [Int.toNat_natCast]
  by_cases h0 : x = 0
  · subst h0
    rw [if_pos (by simp)]
    go_enter Try.func23, Try.ntmps23
    go_wp2_with fail
    go_ret
    exact ⟨by simp, rfl⟩
  · have hq := times_quo x y (by omega)
    have hx0 : (0 : Int) < (x : Int) := by omega
    have hx1 : (x : Int) ≠ 0 := by omega
    have hd : (4611686018427387904 : Int).tdiv (x : Int) = ((4611686018427387904 / x : Nat) : Int) := rfl
    have hdl : 4611686018427387904 / x ≤ 4611686018427387904 := Nat.div_le_self _ _
    generalize 4611686018427387904 / x = q at *
    have u1 := IntWalk.i64_in (q : Int) (by omega)
    by_cases hc : x * y ≤ 4611686018427387904
    · rw [if_pos hc]
      have hn : ¬ (q : Int) < (y : Int) := fun h => (hq.1 h) hc
      have u2 := IntWalk.i64_in ((x : Int) * (y : Int)) (by have : ((x * y : Nat) : Int) ≤ 4611686018427387904 := by omega
                                                            rw [Int.natCast_mul] at this
                                                            have h2 : (0 : Int) ≤ (x : Int) * (y : Int) := Int.mul_nonneg ha hb
                                                            omega)
      clear hq hc
      go_enter Try.func23, Try.ntmps23
      go_wp2_with fail
      go_ret
      exact ⟨by simp, rfl⟩
    · rw [if_neg hc]
      have hn : (q : Int) < (y : Int) := hq.2 hc
      clear hq hc
      go_enter Try.func23, Try.ntmps23
      go_wp2_with fail
      go_ret
      exact ⟨rfl, rfl⟩
end Go.Proofs.Ytjflllfkgbhemaa

/- The walk of the reference's Fuel. Conditions: the program's flows lie within the code. -/
namespace Go.Proofs.Ytjflllfkgbhemaa
open Go.RowKit Go.PlainAid
theorem AMem.ca {w : World} {p : PV} {P : Prg} (h : AMem w p P) (h0 : 0 < P.cd.length) : ∃ ad : Addr, p.ca = some ad ∧ ∀ n : Nat, n < P.cd.length → ∀ W, Below w.heap.size w W → CodeC W ad n (insAt P (n : Int)) := by
  obtain ⟨ad, had, hab, hcl⟩ := src_at h.c h0
  refine ⟨ad, had, fun n hn W hb => ?_⟩
  obtain ⟨y, hy⟩ : ∃ y, P.cd[n]? = some y := ⟨_, List.getElem?_eq_getElem hn⟩
  have e : insAt P (n : Int) = y := by simp [insAt, hy]
  obtain ⟨y0, y1, y2, y3, y4⟩ := codeV_get hy
  have c0 := hcl W hb _ _ y0
  have c1 := hcl W hb _ _ y1
  have c2 := hcl W hb _ _ y2
  have c3 := hcl W hb _ _ y3
  have c4 := hcl W hb _ _ y4
  rw [add_fld ad (n * 5) 0] at c1
  rw [add_fld ad (n * 5) 1] at c2
  rw [add_fld ad (n * 5) 2] at c3
  rw [add_fld ad (n * 5) 3] at c4
  rw [e]
  exact ⟨c0, c1, c2, c3, c4⟩
theorem Blk.num {W : World} {G : Nat} {f : List Int} (h : Blk W G 3 (ints f).toArray) {n : Nat} (hn : n < f.length) : ∀ W', Below W.heap.size W W' → W'.cell? ⟨G, n, none⟩ = some (.int .i64 (fAt f (n : Int))) := fun W' hb => by
  rw [(h.below hb h.lt).cell]
  exact ints_at hn
theorem plus_assoc (a b : Int) (ha : 0 ≤ a ∧ a ≤ 4611686018427387904) (hb : 0 ≤ b ∧ b ≤ 4611686018427387904) : plusV (plusV 1 a) b = plusV 1 (plusV a b) := by
  unfold plusV
  repeat' split
  all_goals omega
set_option linter.unusedVariables false in
set_option linter.unusedSimpArgs false in
set_option maxRecDepth 100000 in
set_option maxHeartbeats 40000000 in
theorem fuel_r (w : World) (p : PV) (P : Prg) (h : AMem w p P) (hf : Flows P) (hl : P.cd.length ≤ 262144) :
    Calls Try.prog 28 #[.slice p.ca P.cd.length p.cc] w fun en w' => ∃ g, en = .returned (.slice (some ⟨g, 0, none⟩) P.cd.length P.cd.length) ∧ Blk w' g 3 (ints (fuelK P P.cd.length)).toArray ∧ w.heap.size ≤ g ∧ Below w.heap.size w w' := by
  have hmk := fun W : World => make_ints W P.cd.length (by omega)
  have HM := hide h
  have HF := hide hf
  clear h hf
  have u1 := IntWalk.i64_in ((P.cd.length : Int) - 1) (by omega)
  go_enter Try.func28, Try.ntmps28
  go_wp2_with fail
  have HB0 := hide ((Below.refl w.heap.size w).alloc (Nat.le_refl _) (.cells (ints (List.replicate P.cd.length 0)).toArray 3))
  have HK0 := hide (Blk.new w 3 (ints (List.replicate P.cd.length 0)).toArray)
  clear hmk u1
  generalize hG : w.heap.size = G at *
  have HG := hide hG
  clear hG
  go_loopw [4] (fun tx W => ∃ q : Nat, tx = .int .i64 ((q : Int) - 1) ∧ q ≤ P.cd.length ∧ Blk W G 3 (ints (fuelK P (P.cd.length - q))).toArray ∧ Below G w W) (fun tx _ => (intOf tx + 1).toNat)
  case atStart => exact ⟨P.cd.length, rfl, Nat.le_refl _, by rw [Nat.sub_self]; exact HK0.out, HB0.out⟩
  case round =>
    clear HB0 HK0
    obtain ⟨q, rfl, hq, hk, hB⟩ := hrel
    rename World => W
    have HB := hide hB
    rcases q with _ | q
    · have hno : ¬ (0 : Int) ≤ ((0 : Nat) : Int) - 1 := by omega
      have HK := hide hk
      clear hk hB hq
      go_wp2_with fail
      go_ret
      exact ⟨G, rfl, HK.out, by rw [HG.out]; exact Nat.le_refl _, by rw [HG.out]; exact HB.out⟩
    · have eq1 : ((q + 1 : Nat) : Int) - 1 = (q : Int) := by omega
      rw [eq1]
      have hq2 : q < P.cd.length := by omega
      have hq0 : (0 : Int) ≤ (q : Int) := by omega
      have hqI : (q : Int) < (P.cd.length : Int) := by omega
      obtain ⟨ad, had, hcd⟩ := HM.out.ca (by omega)
      have hbw : Below w.heap.size w W := by rw [HG.out]; exact HB.out
      obtain ⟨f, hfe⟩ : ∃ f, fuelK P (P.cd.length - (q + 1)) = f := ⟨_, rfl⟩
      have hfl : f.length = P.cd.length := by rw [← hfe]; exact fuelK_len P _
      have hfi : F62 f := by rw [← hfe]; exact fuelK_in P _
      have hnx : fuelK P (P.cd.length - q) = f.set q (fuelStep P q (insAt P (q : Int)) f) := by
        rw [show P.cd.length - q = (P.cd.length - (q + 1)) + 1 by omega, fuelK, hfe, show P.cd.length - 1 - (P.cd.length - (q + 1)) = q by omega]
      rw [hfe] at hk
      have HNX := hide hnx
      have HFE := hide hfe
      clear hnx hfe
      obtain ⟨x, hx⟩ : ∃ x, insAt P (q : Int) = x := ⟨_, rfl⟩
      have hfx : Flow P q x := by
        have := HF.out q _ (List.getElem?_eq_getElem hq2)
        have e : insAt P (q : Int) = P.cd[q] := by simp [insAt, hq2]
        rw [← hx, e]
        exact this
      have u1 := IntWalk.i64_in ((q : Int) + 1) (by omega)
      have u2 := IntWalk.i64_in ((q : Int) + 2) (by omega)
      have u3 := IntWalk.i64_in ((q : Int) - 1) (by omega)
      have HX := hide hx
      have hc := hcd q hq2 W hbw
      rw [hx] at hc
      obtain ⟨op, a, b, c, d⟩ := x
      obtain ⟨c0, c1, c2, c3, c4⟩ := hc
      have hal : Below W.heap.size W (W.alloc (.cells #[.int .i64 op, .int .i64 a, .int .i64 b, .int .i64 c, .int .i64 d] 46)) := (Below.refl _ W).alloc (Nat.le_refl _) _
      have hbw2 : Below w.heap.size w (W.alloc (.cells #[.int .i64 op, .int .i64 a, .int .i64 b, .int .i64 c, .int .i64 d] 46)) := hbw.trans (hal.mono hbw.size)
      have hwz : G ≤ W.heap.size := by rw [← HG.out]; exact hbw.size
      have hGW : G < W.heap.size := hk.lt
      have HKA := hide (hk.alloc (.cells #[.int .i64 op, .int .i64 a, .int .i64 b, .int .i64 c, .int .i64 d] 46))
      have HBA := hide (HB.out.alloc hwz (.cells #[.int .i64 op, .int .i64 a, .int .i64 b, .int .i64 c, .int .i64 d] 46))
      have fz := HKA.out.frozen q
      have fzd := HKA.out.drew.frozen q
      have z0 := hk.num (n := q) (by omega) _ hal
      have z0d := hk.num (n := q) (by omega) _ hal.drew
      have hS : ∀ v, 0 ≤ v → v ≤ 4611686018427387904 → ∀ W, Hid (Calls Try.prog 22 #[.int .i64 1, .int .i64 v] W fun en w' => en = .returned (.int .i64 (plusV 1 v)) ∧ w' = W) := fun v h1 h2 W => hide (sum_i W 1 v (by omega) (by omega) h1 h2)
      have HKW := hide hk
      have fin : ∀ v, fuelStep P q ⟨op, a, b, c, d⟩ f = plusV 1 v → Hid (Blk (W.setCell ⟨G, q, none⟩ (.int .i64 (plusV 1 v))) G 3 (ints (fuelK P (P.cd.length - q))).toArray ∧ Below G w (W.setCell ⟨G, q, none⟩ (.int .i64 (plusV 1 v))) ∧ G ≤ (W.setCell ⟨G, q, none⟩ (.int .i64 (plusV 1 v))).heap.size ∧ q ≤ P.cd.length ∧ ∀ W' : World, Blk W' G 3 (ints f).toArray → Blk (W'.setCell ⟨G, q, none⟩ (.int .i64 (plusV 1 v))) G 3 (ints (fuelK P (P.cd.length - q))).toArray) := fun v hv => hide ⟨by
        rw [HNX.out, HX.out, hv, ← ints_set]
        exact HKW.out.set_ q _, HB.out.setCell (Nat.le_refl _) _, by simp [World.setCell]; omega, by omega, fun W' hk' => by
        rw [HNX.out, HX.out, hv, ← ints_set]
        exact hk'.set_ q _⟩
      simp only at c0 c1 c2 c3 c4
      have HFX := hide hfx
      have HGW := hide hGW
      have hi2 := fAt_in hfi
      clear hfx hB hbw hx eq1 hq
      rw [had] at *
      by_cases o0 : op = 0 ∨ op = 27
      · have HFIN := fin 0 (by unfold fuelStep; rw [if_pos o0]; rfl)
        have HS := hS 0 (by omega) (by omega)
        clear hk hal hbw2 hcd hfl hfi hi2 hS fin had
        rcases o0 with rfl | rfl
        all_goals
          go_wp2_with (go_at_call 22
                       with_reducible refine (HS _).out.mono ?_
                       rintro en w1 ⟨rfl, rfl⟩)
          all_goals
            go_roundw
            case rel =>
              obtain ⟨z1, z2, z3, z4, z5⟩ := HFIN.out
              first
              | exact ⟨q, rfl, z4, z1.alloc _, z2.alloc z3 _⟩
              | exact ⟨q, rfl, z4, (z1.alloc _).drew, (z2.alloc z3 _).drew⟩
              | exact ⟨q, rfl, z4, (z1.alloc _).drewN _, below_drewN (z2.alloc z3 _) _⟩
              | exact ⟨q, rfl, z4, z5 _ (HKA.out.drewN _), (below_drewN HBA.out _).setCell (Nat.le_refl _) _⟩
            case measure =>
              simp only [intOf]
              omega
      have o0a : ¬ op = 0 := fun e => o0 (.inl e)
      have o27 : ¬ op = 27 := fun e => o0 (.inr e)
      have d0 : (op == 0) = false := by simpa using o0a
      have d27 : (op == 27) = false := by simpa using o27
      by_cases o22 : op = 22
      · subst o22
        obtain ⟨j0, j1⟩ := HFX.out.j rfl
        obtain ⟨na, rfl⟩ := Int.eq_ofNat_of_zero_le j0
        simp only [Int.toNat_natCast] at j1
        have HFIN := fin (fAt f (na : Int)) (by unfold fuelStep; rw [if_neg (by simp), if_pos rfl])
        have HS := hS _ (hi2 (na : Int)).1 (hi2 (na : Int)).2
        have jI : (na : Int) < (P.cd.length : Int) := by omega
        have y1 := hk.num (n := na) (by omega) _ hal
        have y1d := hk.num (n := na) (by omega) _ hal.drew
        generalize fAt f (na : Int) = va at *
        clear hk hal hbw2 hcd hfl hfi hi2 hS fin had d0 d27
        go_wp2_with (go_at_call 22
                     with_reducible refine (HS _).out.mono ?_
                     rintro en w1 ⟨rfl, rfl⟩)
        all_goals
          go_roundw
          case rel =>
            obtain ⟨z1, z2, z3, z4, z5⟩ := HFIN.out
            first
            | exact ⟨q, rfl, z4, z1.alloc _, z2.alloc z3 _⟩
            | exact ⟨q, rfl, z4, (z1.alloc _).drew, (z2.alloc z3 _).drew⟩
            | exact ⟨q, rfl, z4, (z1.alloc _).drewN _, below_drewN (z2.alloc z3 _) _⟩
            | exact ⟨q, rfl, z4, z5 _ (HKA.out.drewN _), (below_drewN HBA.out _).setCell (Nat.le_refl _) _⟩
          case measure =>
            simp only [intOf]
            omega
      have d22 : (op == 22) = false := by simpa using o22
      by_cases o23 : op = 23
      · subst o23
        obtain ⟨⟨j0, j1⟩, j2⟩ := HFX.out.e rfl
        obtain ⟨na, rfl⟩ := Int.eq_ofNat_of_zero_le j0
        simp only [Int.toNat_natCast] at j1
        have jI : (na : Int) < (P.cd.length : Int) := by omega
        have j2I : (q : Int) + 1 < (P.cd.length : Int) := by omega
        have hst : fuelStep P q ⟨23, (na : Int), b, c, d⟩ f = plusV 1 (if fAt f ((q + 1 : Nat) : Int) < fAt f (na : Int) then fAt f (na : Int) else fAt f ((q + 1 : Nat) : Int)) := by unfold fuelStep; rw [if_neg (by simp), if_neg (by simp), if_pos rfl]
        have b1 := hi2 (na : Int)
        have b2 := hi2 ((q + 1 : Nat) : Int)
        have y1 := hk.num (n := na) (by omega) _ hal
        have y1d := hk.num (n := na) (by omega) _ hal.drew
        have y2 := hk.num (n := q + 1) (by omega) _ hal
        have y2d := hk.num (n := q + 1) (by omega) _ hal.drew
        generalize fAt f (na : Int) = va at *
        generalize fAt f ((q + 1 : Nat) : Int) = vq at *
        by_cases hv : vq < va
        · skip
          rw [if_pos hv] at hst
          have HFIN := fin va hst
          have HS := hS va (by omega) (by omega)
          clear hk hal hbw2 hcd hfl hfi hi2 hS fin had d0 d27 d22 hst b1 b2
          go_wp2_with (go_at_call 22
                       with_reducible refine (HS _).out.mono ?_
                       rintro en w1 ⟨rfl, rfl⟩)
          all_goals
            go_roundw
            case rel =>
              obtain ⟨z1, z2, z3, z4, z5⟩ := HFIN.out
              first
              | exact ⟨q, rfl, z4, z1.alloc _, z2.alloc z3 _⟩
              | exact ⟨q, rfl, z4, (z1.alloc _).drew, (z2.alloc z3 _).drew⟩
              | exact ⟨q, rfl, z4, (z1.alloc _).drewN _, below_drewN (z2.alloc z3 _) _⟩
              | exact ⟨q, rfl, z4, z5 _ (HKA.out.drewN _), (below_drewN HBA.out _).setCell (Nat.le_refl _) _⟩
            case measure =>
              simp only [intOf]
              omega
        · skip
          rw [if_neg hv] at hst
          have HFIN := fin vq hst
          have HS := hS vq (by omega) (by omega)
          clear hk hal hbw2 hcd hfl hfi hi2 hS fin had d0 d27 d22 hst b1 b2
          go_wp2_with (go_at_call 22
                       with_reducible refine (HS _).out.mono ?_
                       rintro en w1 ⟨rfl, rfl⟩)
          all_goals
            go_roundw
            case rel =>
              obtain ⟨z1, z2, z3, z4, z5⟩ := HFIN.out
              first
              | exact ⟨q, rfl, z4, z1.alloc _, z2.alloc z3 _⟩
              | exact ⟨q, rfl, z4, (z1.alloc _).drew, (z2.alloc z3 _).drew⟩
              | exact ⟨q, rfl, z4, (z1.alloc _).drewN _, below_drewN (z2.alloc z3 _) _⟩
              | exact ⟨q, rfl, z4, z5 _ (HKA.out.drewN _), (below_drewN HBA.out _).setCell (Nat.le_refl _) _⟩
            case measure =>
              simp only [intOf]
              omega
      have d23 : (op == 23) = false := by simpa using o23
      by_cases o24 : op = 24
      · subst o24
        obtain ⟨j0, j1, j2, j3, j4⟩ := HFX.out.l rfl
        have j0I : (q : Int) + 2 < (P.cd.length : Int) := by omega
        have j0J : (q : Int) + 1 < (P.cd.length : Int) := by omega
        have x1 := (hcd (q + 1) (by omega) _ hbw2).2.1
        have x1d := (hcd (q + 1) (by omega) _ hbw2.drew).2.1
        obtain ⟨ta, hta⟩ : ∃ t, (insAt P ((q + 1 : Nat) : Int)).a = t := ⟨_, rfl⟩
        rw [hta] at x1 x1d j3 j4
        obtain ⟨nt, rfl⟩ := Int.eq_ofNat_of_zero_le j3
        simp only [Int.toNat_natCast] at j4
        have jI : (nt : Int) < (P.cd.length : Int) := by omega
        have hst : fuelStep P q ⟨24, a, b, c, d⟩ f = plusV 1 (plusV (timesI a (plusV 1 (fAt f ((q + 2 : Nat) : Int)))) (plusV 1 (fAt f (nt : Int)))) := by
          unfold fuelStep
          rw [if_neg (by simp), if_neg (by simp), if_neg (by simp), if_pos rfl, hta]
          exact plus_assoc _ _ (timesI_in _ _) (plusV_in (by omega) (hi2 _).1 (hi2 _).2)
        have b1 := hi2 (nt : Int)
        have b2 := hi2 ((q + 2 : Nat) : Int)
        have y1 := hk.num (n := nt) (by omega) _ hal
        have y1d := hk.num (n := nt) (by omega) _ hal.drew
        have y2 := hk.num (n := q + 2) (by omega) _ hal
        have y2d := hk.num (n := q + 2) (by omega) _ hal.drew
        generalize fAt f (nt : Int) = vt at *
        generalize fAt f ((q + 2 : Nat) : Int) = vq at *
        have b3 := plusV_in (a := 1) (by omega) b2.1 b2.2
        have b4 := plusV_in (a := 1) (by omega) b1.1 b1.2
        have b5 := timesI_in a (plusV 1 vq)
        have b6 := plusV_in b5.1 b4.1 b4.2
        have HFIN := fin _ hst
        have HS := hS _ b6.1 b6.2
        clear hst hta
        clear hk hal hbw2 hcd hfl hfi hi2 hS fin had
        obtain ⟨b1a, b1b⟩ := b1
        obtain ⟨b2a, b2b⟩ := b2
        obtain ⟨b3a, b3b⟩ := b3
        obtain ⟨b4a, b4b⟩ := b4
        obtain ⟨b5a, b5b⟩ := b5
        go_wp2_with fail
        go_quiet ((first | (go_at_call 22; exact Calls.quiet_of_same (sum_i _ _ _ (by omega) (by omega) (by omega) (by omega))) | (go_at_call 23; exact Calls.quiet_of_same (times_j _ _ _ (by omega) (by omega) (by omega) (by omega)))))
        clear b1a b1b b2a b2b b3a b3b b4a b4b b5a b5b b6
        generalize plusV (timesI a (plusV 1 vq)) (plusV 1 vt) = r3 at *
        go_wp2_with (go_at_call 22
                     with_reducible refine (HS _).out.mono ?_
                     rintro en w1 ⟨rfl, rfl⟩)
        all_goals
          go_roundw
          case rel =>
            obtain ⟨z1, z2, z3, z4, z5⟩ := HFIN.out
            first
            | exact ⟨q, rfl, z4, z1.alloc _, z2.alloc z3 _⟩
            | exact ⟨q, rfl, z4, (z1.alloc _).drew, (z2.alloc z3 _).drew⟩
            | exact ⟨q, rfl, z4, (z1.alloc _).drewN _, below_drewN (z2.alloc z3 _) _⟩
            | exact ⟨q, rfl, z4, z5 _ (HKA.out.drewN _), (below_drewN HBA.out _).setCell (Nat.le_refl _) _⟩
          case measure =>
            simp only [intOf]
            omega
      have d24 : (op == 24) = false := by simpa using o24
      have j2 := HFX.out.o o0a o27 o22
      have j2I : (q : Int) + 1 < (P.cd.length : Int) := by omega
      have HFIN := fin (fAt f ((q + 1 : Nat) : Int)) (by unfold fuelStep; rw [if_neg o0, if_neg o22, if_neg o23, if_neg o24])
      have HS := hS _ (hi2 ((q + 1 : Nat) : Int)).1 (hi2 ((q + 1 : Nat) : Int)).2
      have y2 := hk.num (n := q + 1) (by omega) _ hal
      have y2d := hk.num (n := q + 1) (by omega) _ hal.drew
      generalize fAt f ((q + 1 : Nat) : Int) = vq at *
      clear hk hal hbw2 hcd hfl hfi hi2 hS fin had o0 o0a o27 o22 o23 o24
      go_wp2_with (go_at_call 22
                   with_reducible refine (HS _).out.mono ?_
                   rintro en w1 ⟨rfl, rfl⟩)
      all_goals
        go_roundw
        case rel =>
          obtain ⟨z1, z2, z3, z4, z5⟩ := HFIN.out
          first
          | exact ⟨q, rfl, z4, z1.alloc _, z2.alloc z3 _⟩
          | exact ⟨q, rfl, z4, (z1.alloc _).drew, (z2.alloc z3 _).drew⟩
          | exact ⟨q, rfl, z4, (z1.alloc _).drewN _, below_drewN (z2.alloc z3 _) _⟩
          | exact ⟨q, rfl, z4, z5 _ (HKA.out.drewN _), (below_drewN HBA.out _).setCell (Nat.le_refl _) _⟩
        case measure =>
          simp only [intOf]
          omega
end Go.Proofs.Ytjflllfkgbhemaa

/- The walk of the reference's look. Conditions: the program lies in memory. -/
namespace Go.Proofs.Ytjflllfkgbhemaa
open Go.RowKit Go.PlainAid
section
variable {w0 w : World} {lb ab ub sb : Nat} {p : PV} {P : Prg} {ats : List Rs} {ups : List Int} {sts : List Bool}
set_option maxRecDepth 100000 in
set_option maxHeartbeats 4000000 in
theorem place_q (h : LMem w0 w lb ab ub sb p P ats ups sts) (hn : P.cd.length ≤ 262144) (at_ : Nat) (hat : at_ < P.cd.length) (x : Ins) (hxe : insAt P (at_ : Int) = x) (hx : Chk P x) (hs : (atRs ats (at_ : Int)).got = true → ((atRs ats (at_ : Int)).lp = -1 ∨ pIn P (atRs ats (at_ : Int)).lp) ∧ (atRs ats (at_ : Int)).ty.size ≤ 4194304) :
    Calls Try.prog 37 #[.pointer (some ⟨lb, 0, none⟩), .int .i64 (at_ : Int)] w fun en w' => en = .returned (.int .i64 (placeR P at_ x ats ups sts).1) ∧ LMem w0 w' lb ab ub sb p P (placeR P at_ x ats ups sts).2.1 (placeR P at_ x ats ups sts).2.2 sts := by
  cases hg : (atRs ats (at_ : Int)).got
  · have hR : placeR P at_ x ats ups sts = (99, ats, ups) := by
      unfold placeR
      simp only [hg, if_true]
    rw [hR]
    have g6 := h.cellL.2.2.1
    obtain ⟨r0, r1, r2, r3⟩ := h.rsAt hat _ (Below.refl _ _)
    rw [hg] at r3
    have hatI : (at_ : Int) < (P.cd.length : Int) := by omega
    generalize (atRs ats (at_ : Int)).ty = ty at *
    generalize (atRs ats (at_ : Int)).lp = lp at *
    generalize (atRs ats (at_ : Int)).hd = hd at *
    have HL00 := hide (h.alloc (.cells #[.string ty, .int .i64 lp, .int .i64 hd, .bool false] 79))
    clear h hxe hx hs hR hg
    go_enter Try.func37, Try.ntmps37
    go_wp2_with fail
    go_ret
    exact ⟨rfl, HL00.out⟩
  · exact place_r h hn at_ hat x hxe hx _ rfl (hs hg).1 (hs hg).2
theorem LMem.st (h : LMem w0 w lb ab ub sb p P ats ups sts) (n : Nat) (x : Bool) : LMem w0 (w.setCell ⟨sb, n, none⟩ (.bool x)) lb ab ub sb p P ats ups (sts.set n x) := by
  have n1 : lb ≠ sb := h.l.ne_ h.s (by decide)
  have n2 : ab ≠ sb := h.a.ne_ h.s (by decide)
  have n3 : ub ≠ sb := h.u.ne_ h.s (by decide)
  have hS := h.s.set_ n (.bool x)
  have e : (boolsV sts).toArray.setIfInBounds n (.bool x) = (boolsV (sts.set n x)).toArray := by simp [boolsV, List.map_set]
  rw [e] at hS
  exact ⟨h.m, h.b.setCell h.ge.2.2.2 _, h.ge, h.l.far (p := ⟨sb, n, none⟩) n1 _, h.a.far (p := ⟨sb, n, none⟩) n2 _, h.u.far (p := ⟨sb, n, none⟩) n3 _, hS, h.la, h.lu, by rw [List.length_set]; exact h.ls⟩
theorem LMem.late (h : LMem w0 w lb ab ub sb p P ats ups sts) (q : Addr) (v : Value) (hq : q.block < w0.heap.size) (hm : AMem (w0.setCell q v) p P) : LMem (w0.setCell q v) (w.setCell q v) lb ab ub sb p P ats ups sts := by
  have hz : (w0.setCell q v).heap.size = w0.heap.size := by simp [World.setCell]
  obtain ⟨g1, g2, g3, g4⟩ := h.ge
  refine ⟨hm, ⟨h.b.os, h.b.tape, h.b.output, by have := h.b.size; simpa [World.setCell] using this, fun k hk => ?_⟩, by rw [hz]; exact h.ge, h.l.far (by omega) _, h.a.far (by omega) _, h.u.far (by omega) _, h.s.far (by omega) _, h.la, h.lu, h.ls⟩
  rw [hz] at hk
  have := h.b.block k hk
  simp only [World.setCell, Array.getElem?_modify]
  split
  · rw [this]
  · exact this
end
section
variable {w : World} {o o1 o2 o3 : Obj}
theorem blk4_1 (t : TypeId) (cs : Array Value) : Blk ((((w.alloc (.cells cs t)).alloc o1).alloc o2).alloc o3).drew w.heap.size t cs := (((Blk.new w t cs).alloc _).alloc _).alloc _
theorem blk4_2 (t : TypeId) (cs : Array Value) : Blk ((((w.alloc o1).alloc (.cells cs t)).alloc o2).alloc o3).drew (w.heap.size + 1) t cs := by
  have := ((Blk.new (w.alloc o1) t cs).alloc o2).alloc o3
  exact Blk.drew (by simpa using this)
theorem blk4_3 (t : TypeId) (cs : Array Value) : Blk ((((w.alloc o1).alloc o2).alloc (.cells cs t)).alloc o3).drew (w.heap.size + 1 + 1) t cs := by
  have := (Blk.new ((w.alloc o1).alloc o2) t cs).alloc o3
  exact Blk.drew (by simpa using this)
theorem blk4_4 (t : TypeId) (cs : Array Value) : Blk ((((w.alloc o1).alloc o2).alloc o3).alloc (.cells cs t)).drew (w.heap.size + 1 + 1 + 1) t cs := by
  have := Blk.new (((w.alloc o1).alloc o2).alloc o3) t cs
  exact Blk.drew (by simpa using this)
theorem below4 : Below w.heap.size w ((((w.alloc o).alloc o1).alloc o2).alloc o3).drew := (((((Below.refl _ w).alloc (Nat.le_refl _) _).alloc (by simp) _).alloc (by simp; omega) _).alloc (by simp; omega) _).drew
end
theorem lm_start {w2 wx : World} {p : PV} {P : Prg} {l ab ub sb : Nat} (hm : AMem w2 p P) (hb : Below w2.heap.size w2 wx) (h1 : Blk wx l 77 (lkCells p ab ub sb P.cd.length)) (h2 : Blk wx ab 79 (rsV (List.replicate P.cd.length rs0)).toArray) (h3 : Blk wx ub 3 (ints (List.replicate P.cd.length 0)).toArray) (h4 : Blk wx sb 4 (boolsV (List.replicate P.cd.length false)).toArray)
    (g1 : w2.heap.size ≤ l) (g2 : w2.heap.size ≤ ab) (g3 : w2.heap.size ≤ ub) (g4 : w2.heap.size ≤ sb) : ∃ lb ab ub sb : Nat, Value.pointer (some ⟨l, 0, none⟩) = .pointer (some ⟨lb, 0, none⟩) ∧ LMem w2 wx lb ab ub sb p P (List.replicate P.cd.length rs0) (List.replicate P.cd.length 0) (List.replicate P.cd.length false) :=
  ⟨l, ab, ub, sb, rfl, hm, hb, ⟨g1, g2, g3, g4⟩, h1, h2, h3, h4, by simp, by simp, by simp⟩
theorem made_rs (n : Nat) : madeCells #[.string ⟨#[]⟩, .int .i64 0, .int .i64 0, .bool false] (n * 4) = (rsV (List.replicate n rs0)).toArray := by
  apply Array.ext_getElem?
  intro i
  by_cases hi : i < n * 4
  · obtain ⟨q, j, rfl, hj⟩ : ∃ q j, i = q * 4 + j ∧ j < 4 := ⟨i / 4, i % 4, by omega, by omega⟩
    obtain ⟨y0, y1, y2, y3⟩ : (rsV (List.replicate n rs0))[q * 4]? = some (.string ⟨#[]⟩) ∧ (rsV (List.replicate n rs0))[q * 4 + 1]? = some (.int .i64 0) ∧ (rsV (List.replicate n rs0))[q * 4 + 2]? = some (.int .i64 0) ∧ (rsV (List.replicate n rs0))[q * 4 + 3]? = some (.bool false) := rsV_get (l := List.replicate n rs0) (i := q) (x := rs0) (by rw [List.getElem?_replicate, if_pos (by omega)])
    have e : (madeCells #[.string ⟨#[]⟩, .int .i64 0, .int .i64 0, .bool false] (n * 4))[q * 4 + j]? = (#[.string ⟨#[]⟩, .int .i64 0, .int .i64 0, .bool false] : Array Value)[j]? := by
      unfold madeCells
      rw [Array.getElem?_eq_getElem (by simpa using hi)]
      have e2 : (q * 4 + j) % 4 = j := by omega
      obtain rfl | rfl | rfl | rfl : j = 0 ∨ j = 1 ∨ j = 2 ∨ j = 3 := by omega
      all_goals simp [e2] <;> simp_all
    rw [e]
    obtain rfl | rfl | rfl | rfl : j = 0 ∨ j = 1 ∨ j = 2 ∨ j = 3 := by omega
    · simpa using y0.symm
    · simpa using y1.symm
    · simpa using y2.symm
    · simpa using y3.symm
  · have hl := rsV_len (List.replicate n rs0)
    rw [List.length_replicate] at hl
    rw [Array.getElem?_eq_none (by simp [madeCells]; omega), Array.getElem?_eq_none (by simp [hl]; omega)]
theorem info79 : (Try.prog.info? 79).map (fun i => (i.zero, i.size, i.bytes)) = some (some (.agg #[.string ⟨#[]⟩, .int .i64 0, .int .i64 0, .bool false]), 4, 40) := by kernel_rfl
theorem make_rs (w : World) (n : Nat) (h : n ≤ 262144) : (Instr.makeSlice 75 (.int .i64 (n : Int)) (.int .i64 (n : Int))).run Try.prog w = .ok (.slice (some ⟨w.heap.size, 0, none⟩) n n) (w.alloc (.cells (rsV (List.replicate n rs0)).toArray 79)) := by
  obtain ⟨i0, hi, hz0, hz1, hz2⟩ := info_parts info79
  have := run_make_rowN (P := Try.prog) 75 79 i0 (.agg #[.string ⟨#[]⟩, .int .i64 0, .int .i64 0, .bool false]) Try.underlying75 hi hz0 .i64 .i64 n n (Nat.le_refl _) (by rw [hz2]; omega) (by omega) w
  rw [hz1, show (Value.agg #[.string ⟨#[]⟩, .int .i64 0, .int .i64 0, .bool false]).cells = #[.string ⟨#[]⟩, .int .i64 0, .int .i64 0, .bool false] from rfl, made_rs] at this
  exact this
theorem make_bools2 (w : World) (n : Nat) (h : n ≤ 4194304) : (Instr.makeSlice 23 (.int .i64 (n : Int)) (.int .i64 (n : Int))).run Try.prog w = .ok (.slice (some ⟨w.heap.size, 0, none⟩) n n) (w.alloc (.cells (boolsV (List.replicate n false)).toArray 4)) := by
  have := make_bools w n h
  rw [this, show boolsV (List.replicate n false) = List.replicate n (.bool false) by simp [boolsV]]
def LookP (w : World) (p : PV) (P : Prg) : Ending → World → Prop := fun en w' => ∃ pa, en = .returned (.tuple #[.pointer pa, .agg #[.int .i64 (lookF P).1, .int .i64 (lookF P).2]]) ∧ Below w.heap.size w w' ∧ ((lookF P).1 = 0 → ∃ wb lb ab ub sb rs ups sts, pa = some ⟨lb, 0, none⟩ ∧ Below w.heap.size w wb ∧ LMem wb w' lb ab ub sb p P rs ups sts ∧ Rel P P.cd.length (looksV P P.cd.length 0 (ats0 P)).2.2 rs ups)
set_option linter.unusedVariables false in
set_option linter.unusedSimpArgs false in
set_option maxRecDepth 100000 in
set_option maxHeartbeats 40000000 in
theorem look_r (w : World) (p : PV) (P : Prg) (h : AMem w p P) :
    Calls Try.prog 27 #[p.val] w (LookP w p P) := by
  have hres : Try.f27.results = #[.tmp 2, .cell 3 35] := by kernel_rfl
  have HRES := hide hres
  clear hres
  have HCK := fun (W : World) (hb : Below w.heap.size w W) => hide (check_r W p P (h.below hb))
  have HM := hide h
  obtain ⟨e1, e2, e3, e4, e5, e6, _, _, _, _, _, lens⟩ := h
  obtain ⟨ga, va, ta, oa, ca, gl, gc, vl, vc, tl, tc, ol, oc, cl, cc, miss⟩ := p
  simp only at e1 e2 e3 e4 e5 e6
  subst e1 e2 e3 e4 e5 e6
  simp only [PV.val] at *
  have hW1 : Below w.heap.size w ((w.alloc (.cells #[.slice ga P.gh.length gc, .slice va P.vs.length vc, .slice ta P.ts.length tc, .slice oa P.os.length oc, .int .i64 P.miss, .slice ca P.cd.length cc] 28)).alloc (.cells #[.int .i64 0, .int .i64 0] 35)) := ((Below.refl _ w).alloc (Nat.le_refl _) _).alloc (by simp) _
  have HP1 := hide ((Blk.new w 28 #[.slice ga P.gh.length gc, .slice va P.vs.length vc, .slice ta P.ts.length tc, .slice oa P.os.length oc, .int .i64 P.miss, .slice ca P.cd.length cc]).alloc (.cells #[.int .i64 0, .int .i64 0] 35))
  have HF1 : Hid (Blk ((w.alloc (.cells #[.slice ga P.gh.length gc, .slice va P.vs.length vc, .slice ta P.ts.length tc, .slice oa P.os.length oc, .int .i64 P.miss, .slice ca P.cd.length cc] 28)).alloc (.cells #[.int .i64 0, .int .i64 0] 35)) (w.heap.size + 1) 35 #[.int .i64 0, .int .i64 0]) := hide (by
    have := Blk.new (w.alloc (.cells #[.slice ga P.gh.length gc, .slice va P.vs.length vc, .slice ta P.ts.length tc, .slice oa P.os.length oc, .int .i64 P.miss, .slice ca P.cd.length cc] 28)) 35 #[.int .i64 0, .int .i64 0]
    simpa using this)
  have HB1 := hide hW1
  clear hW1 lens
  obtain ⟨cv, hcv⟩ : ∃ c, checkV P = c := ⟨_, rfl⟩
  simp only [hcv] at HCK
  by_cases hz : cv = 0
  case neg =>
    have HLF : Hid (lookF P = ((cv : Int), 0)) := hide (by unfold lookF; rw [if_pos (by rw [hcv]; exact hz), hcv])
    have hb1 : ((cv : Int) != 0) = true := by simpa using hz
    have hb2 : ((cv : Int) == 0) = false := by simpa using hz
    have HNZ := hide hz
    clear hz hcv
    go_enter Try.func27, Try.ntmps27
    go_wp2_with (go_at_call 36
                 refine (HCK _ HB1.out).out.mono ?_
                 rintro en w2 ⟨rfl, hb2⟩
                 have HP := hide (HP1.out.below hb2 HP1.out.lt)
                 have HF := hide (HF1.out.below hb2 HF1.out.lt)
                 have HB := hide (HB1.out.trans (hb2.mono HB1.out.size))
                 have p0 : w2.cell? ⟨w.heap.size, 0, none⟩ = some (.slice ga P.gh.length gc) := by rw [HP.out.cell]; rfl
                 have p1 : w2.cell? ⟨w.heap.size, 1, none⟩ = some (.slice va P.vs.length vc) := by rw [HP.out.cell]; rfl
                 have p2 : w2.cell? ⟨w.heap.size, 2, none⟩ = some (.slice ta P.ts.length tc) := by rw [HP.out.cell]; rfl
                 have p3 : w2.cell? ⟨w.heap.size, 3, none⟩ = some (.slice oa P.os.length oc) := by rw [HP.out.cell]; rfl
                 have p4 : w2.cell? ⟨w.heap.size, 4, none⟩ = some (.int .i64 P.miss) := by rw [HP.out.cell]; rfl
                 have p5 : w2.cell? ⟨w.heap.size, 5, none⟩ = some (.slice ca P.cd.length cc) := by rw [HP.out.cell]; rfl
                 have f0 : w2.cell? ⟨w.heap.size + 1, 0, none⟩ = some (.int .i64 0) := by rw [HF.out.cell]; rfl
                 have f1 : w2.cell? ⟨w.heap.size + 1, 1, none⟩ = some (.int .i64 0) := by rw [HF.out.cell]; rfl
                 have ff0 := HF.out.frozen 0
                 have ff1 := HF.out.frozen 1
                 clear hb2)
    refine bodyPost_ret (v := .tuple #[.pointer none, .agg #[.int .i64 (cv : Int), .int .i64 0]]) ?_ rfl ?_
    · simp only [results, HRES.out]
      go_simp
    · unfold LookP
      refine ⟨none, by rw [HLF.out], ((HB.out.setCell (by show w.heap.size ≤ w.heap.size + 1; omega) _).setCell (by show w.heap.size ≤ w.heap.size + 1; omega) _), fun h0 => ?_⟩
      rw [HLF.out] at h0
      exact absurd (show cv = 0 by simpa using h0) HNZ.out
  subst hz
  obtain ⟨hln, hcl, hins⟩ := check_len hcv
  have HCV := hide hcv
  have HINS := hide hins
  clear hcv hins
  have hmk1 := fun W : World => make_rs W P.cd.length hcl
  have hmk2 := fun W : World => make_ints W P.cd.length (by omega)
  have hmk3 := fun W : World => make_bools2 W P.cd.length (by omega)
  go_enter Try.func27, Try.ntmps27
  go_wp2_with (go_at_call 36
               refine (HCK _ HB1.out).out.mono ?_
               rintro en w2 ⟨rfl, hb2⟩
               have HP := hide (HP1.out.below hb2 HP1.out.lt)
               have HF := hide (HF1.out.below hb2 HF1.out.lt)
               have HB := hide (HB1.out.trans (hb2.mono HB1.out.size))
               have p0 : w2.cell? ⟨w.heap.size, 0, none⟩ = some (.slice ga P.gh.length gc) := by rw [HP.out.cell]; rfl
               have p1 : w2.cell? ⟨w.heap.size, 1, none⟩ = some (.slice va P.vs.length vc) := by rw [HP.out.cell]; rfl
               have p2 : w2.cell? ⟨w.heap.size, 2, none⟩ = some (.slice ta P.ts.length tc) := by rw [HP.out.cell]; rfl
               have p3 : w2.cell? ⟨w.heap.size, 3, none⟩ = some (.slice oa P.os.length oc) := by rw [HP.out.cell]; rfl
               have p4 : w2.cell? ⟨w.heap.size, 4, none⟩ = some (.int .i64 P.miss) := by rw [HP.out.cell]; rfl
               have p5 : w2.cell? ⟨w.heap.size, 5, none⟩ = some (.slice ca P.cd.length cc) := by rw [HP.out.cell]; rfl
               have f0 : w2.cell? ⟨w.heap.size + 1, 0, none⟩ = some (.int .i64 0) := by rw [HF.out.cell]; rfl
               have f1 : w2.cell? ⟨w.heap.size + 1, 1, none⟩ = some (.int .i64 0) := by rw [HF.out.cell]; rfl
               have ff0 := HF.out.frozen 0
               have ff1 := HF.out.frozen 1
               have pa0 : ∀ o, (w2.alloc o).cell? _ = _ := fun o => (World.cell?_alloc_lt w2 o _ (by exact HP.out.lt)).trans p0
               have pa1 : ∀ o, (w2.alloc o).cell? _ = _ := fun o => (World.cell?_alloc_lt w2 o _ (by exact HP.out.lt)).trans p1
               have pa2 : ∀ o, (w2.alloc o).cell? _ = _ := fun o => (World.cell?_alloc_lt w2 o _ (by exact HP.out.lt)).trans p2
               have pa3 : ∀ o, (w2.alloc o).cell? _ = _ := fun o => (World.cell?_alloc_lt w2 o _ (by exact HP.out.lt)).trans p3
               have pa4 : ∀ o, (w2.alloc o).cell? _ = _ := fun o => (World.cell?_alloc_lt w2 o _ (by exact HP.out.lt)).trans p4
               have pa5 : ∀ o, (w2.alloc o).cell? _ = _ := fun o => (World.cell?_alloc_lt w2 o _ (by exact HP.out.lt)).trans p5
               have pb0 : ∀ o o1, ((w2.alloc o).alloc o1).cell? _ = _ := fun o o1 => (((Below.refl _ w2).alloc (Nat.le_refl _) o).alloc (by simp) o1).cell (p := ⟨w.heap.size, 0, none⟩) HP.out.lt |>.trans p0
               have pb1 : ∀ o o1, ((w2.alloc o).alloc o1).cell? _ = _ := fun o o1 => (((Below.refl _ w2).alloc (Nat.le_refl _) o).alloc (by simp) o1).cell (p := ⟨w.heap.size, 1, none⟩) HP.out.lt |>.trans p1
               have pb2 : ∀ o o1, ((w2.alloc o).alloc o1).cell? _ = _ := fun o o1 => (((Below.refl _ w2).alloc (Nat.le_refl _) o).alloc (by simp) o1).cell (p := ⟨w.heap.size, 2, none⟩) HP.out.lt |>.trans p2
               have pb3 : ∀ o o1, ((w2.alloc o).alloc o1).cell? _ = _ := fun o o1 => (((Below.refl _ w2).alloc (Nat.le_refl _) o).alloc (by simp) o1).cell (p := ⟨w.heap.size, 3, none⟩) HP.out.lt |>.trans p3
               have pb4 : ∀ o o1, ((w2.alloc o).alloc o1).cell? _ = _ := fun o o1 => (((Below.refl _ w2).alloc (Nat.le_refl _) o).alloc (by simp) o1).cell (p := ⟨w.heap.size, 4, none⟩) HP.out.lt |>.trans p4
               have pb5 : ∀ o o1, ((w2.alloc o).alloc o1).cell? _ = _ := fun o o1 => (((Below.refl _ w2).alloc (Nat.le_refl _) o).alloc (by simp) o1).cell (p := ⟨w.heap.size, 5, none⟩) HP.out.lt |>.trans p5
               have pc0 : ∀ o o1 o2, (((w2.alloc o).alloc o1).alloc o2).cell? _ = _ := fun o o1 o2 => ((((Below.refl _ w2).alloc (Nat.le_refl _) o).alloc (by simp) o1).alloc (by simp; omega) o2).cell (p := ⟨w.heap.size, 0, none⟩) HP.out.lt |>.trans p0
               have pc1 : ∀ o o1 o2, (((w2.alloc o).alloc o1).alloc o2).cell? _ = _ := fun o o1 o2 => ((((Below.refl _ w2).alloc (Nat.le_refl _) o).alloc (by simp) o1).alloc (by simp; omega) o2).cell (p := ⟨w.heap.size, 1, none⟩) HP.out.lt |>.trans p1
               have pc2 : ∀ o o1 o2, (((w2.alloc o).alloc o1).alloc o2).cell? _ = _ := fun o o1 o2 => ((((Below.refl _ w2).alloc (Nat.le_refl _) o).alloc (by simp) o1).alloc (by simp; omega) o2).cell (p := ⟨w.heap.size, 2, none⟩) HP.out.lt |>.trans p2
               have pc3 : ∀ o o1 o2, (((w2.alloc o).alloc o1).alloc o2).cell? _ = _ := fun o o1 o2 => ((((Below.refl _ w2).alloc (Nat.le_refl _) o).alloc (by simp) o1).alloc (by simp; omega) o2).cell (p := ⟨w.heap.size, 3, none⟩) HP.out.lt |>.trans p3
               have pc4 : ∀ o o1 o2, (((w2.alloc o).alloc o1).alloc o2).cell? _ = _ := fun o o1 o2 => ((((Below.refl _ w2).alloc (Nat.le_refl _) o).alloc (by simp) o1).alloc (by simp; omega) o2).cell (p := ⟨w.heap.size, 4, none⟩) HP.out.lt |>.trans p4
               have pc5 : ∀ o o1 o2, (((w2.alloc o).alloc o1).alloc o2).cell? _ = _ := fun o o1 o2 => ((((Below.refl _ w2).alloc (Nat.le_refl _) o).alloc (by simp) o1).alloc (by simp; omega) o2).cell (p := ⟨w.heap.size, 5, none⟩) HP.out.lt |>.trans p5
               clear hb2)
  have HM2 := hide (HM.out.below HB.out)
  go_cut [6] from 20 to 28 (fun s6 wx => ∃ lb ab ub sb : Nat, s6 = .pointer (some ⟨lb, 0, none⟩) ∧ LMem w2 wx lb ab ub sb ⟨ga, va, ta, oa, ca, P.gh.length, gc, P.vs.length, vc, P.ts.length, tc, P.os.length, oc, P.cd.length, cc, P.miss⟩ P (List.replicate P.cd.length rs0) (List.replicate P.cd.length 0) (List.replicate P.cd.length false))
  case first =>
    go_region
    all_goals
      go_wp2_with fail
      go_meet
      case rel =>
        first
          | exact lm_start HM2.out below4 (blk4_4 _ _) (blk4_1 _ _) (blk4_2 _ _) (blk4_3 _ _) (by omega) (by omega) (by omega) (by omega)
          | exact lm_start HM2.out below4 (blk4_4 _ _) (blk4_1 _ _) (blk4_3 _ _) (blk4_2 _ _) (by omega) (by omega) (by omega) (by omega)
          | exact lm_start HM2.out below4 (blk4_4 _ _) (blk4_2 _ _) (blk4_1 _ _) (blk4_3 _ _) (by omega) (by omega) (by omega) (by omega)
          | exact lm_start HM2.out below4 (blk4_4 _ _) (blk4_2 _ _) (blk4_3 _ _) (blk4_1 _ _) (by omega) (by omega) (by omega) (by omega)
          | exact lm_start HM2.out below4 (blk4_4 _ _) (blk4_3 _ _) (blk4_1 _ _) (blk4_2 _ _) (by omega) (by omega) (by omega) (by omega)
          | exact lm_start HM2.out below4 (blk4_4 _ _) (blk4_3 _ _) (blk4_2 _ _) (blk4_1 _ _) (by omega) (by omega) (by omega) (by omega)
  case rest =>
    obtain ⟨lb, ab, ub, sb, rfl, hL⟩ := hcut
    have HL := hide hL
    clear hL hmk1 hmk2 hmk3 pa0 pb0 pc0 pa1 pb1 pc1 pa2 pb2 pc2 pa3 pb3 pc3 pa4 pb4 pc4 pa5 pb5 pc5 p0 p1 p2 p3 p4 p5
    have q3 : wc.cell? ⟨w.heap.size, 3, none⟩ = some (.slice oa P.os.length oc) := by rw [(HP.out.below HL.out.b HP.out.lt).cell]; rfl
    go_wp2_with fail
    go_loopw [7] (fun tx W => ∃ i : Nat, tx = .int .i64 (i : Int) ∧ i ≤ P.os.length + 1 ∧ LMem w2 W lb ab ub sb ⟨ga, va, ta, oa, ca, P.gh.length, gc, P.vs.length, vc, P.ts.length, tc, P.os.length, oc, P.cd.length, cc, P.miss⟩ P (rsK P i) (List.replicate P.cd.length 0) (stsK P i)) (fun tx _ => P.os.length + 1 - (intOf tx).toNat)
    case atStart => exact ⟨0, rfl, Nat.zero_le _, HL.out⟩
    case round =>
      clear HL q3 f0 f1 ff0 ff1
      obtain ⟨i, rfl, hi, hL⟩ := hrel
      rename World => W
      have HL := hide hL
      have u1 := IntWalk.i64_in ((i : Int) + 1) (by omega)
      have q3 : W.cell? ⟨w.heap.size, 3, none⟩ = some (.slice oa P.os.length oc) := by rw [(HP.out.below hL.b HP.out.lt).cell]; rfl
      have q4 : W.cell? ⟨w.heap.size, 4, none⟩ = some (.int .i64 P.miss) := by rw [(HP.out.below hL.b HP.out.lt).cell]; rfl
      have l6 := hL.cellL.2.2.1
      have l8 := hL.cellL.2.2.2.2
      clear hL
      by_cases hlt : i < P.os.length + 1
      · obtain ⟨b, hb⟩ : ∃ b, (begins P)[i]? = some b := ⟨_, List.getElem?_eq_getElem (by rw [begins_len]; exact hlt)⟩
        have hbl := begins_in HCV.out b (List.mem_of_getElem? hb)
        have hrn := rsK_next hb
        have hsn := stsK_next hb
        have HRN := hide hrn
        have HSN := hide hsn
        clear hrn hsn
        have hle : (i : Int) ≤ (P.os.length : Int) := by omega
        by_cases ho : i < P.os.length
        · have hoI : (i : Int) < (P.os.length : Int) := by omega
          rw [begins_os ho] at hb
          obtain ⟨ad, had, hab, hcl2⟩ := src_at HM.out.o (by show 0 < P.os.length; omega)
          simp only at had
          subst had
          have c0 := hcl2 W (HB.out.trans (HL.out.b.mono HB.out.size)) i (.int .i64 b) (by simp [ints, hb])
          clear hcl2 hab
          by_cases hb0 : 0 ≤ b
          · obtain ⟨k, rfl⟩ := Int.eq_ofNat_of_zero_le hb0
            have hk : k < P.cd.length := by omega
            have hkI : (k : Int) < (P.cd.length : Int) := by omega
            have hr2 : rsK P (i + 1) = (rsK P i).set k rsB := by rw [HRN.out]; unfold markR; rw [if_pos hb0]; rfl
            have hs2 : stsK P (i + 1) = (stsK P i).set k true := by rw [HSN.out]; unfold markS; rw [if_pos hb0]; rfl
            have HR2 := hide hr2
            have HS2 := hide hs2
            obtain ⟨r0, r1, r2, r3⟩ := HL.out.rsAt hk _ (Below.refl _ _)
            have fa0 := HL.out.a.frozen (k * 4)
            have fa1 := HL.out.a.frozen (k * 4 + 1)
            have fa2 := HL.out.a.frozen (k * 4 + 2)
            have fa3 := HL.out.a.frozen (k * 4 + 3)
            have HLP := hide (HL.out.put hk rsB)
            have y8 := HLP.out.cellL.2.2.2.2
            have ys := HLP.out.stAt hk _ (Below.refl _ _)
            have fs := HLP.out.s.frozen k
            have HLE := hide (HLP.out.st k true)
            unfold rsB at y8 ys fs
            simp only at y8 ys fs
            clear hr2 hs2 hb hbl hb0
            go_wp2_with fail
            all_goals
              go_roundw
              case rel => exact ⟨i + 1, by go_num, by omega, by rw [HR2.out, HS2.out]; exact HLE.out⟩
              case measure =>
                simp only [intOf]
                omega
          · have hr2 : rsK P (i + 1) = rsK P i := by rw [HRN.out]; unfold markR; rw [if_neg hb0]
            have hs2 : stsK P (i + 1) = stsK P i := by rw [HSN.out]; unfold markS; rw [if_neg hb0]
            have HR2 := hide hr2
            have HS2 := hide hs2
            clear hr2 hs2 hb hbl
            go_wp2_with fail
            all_goals
              go_roundw
              case rel => exact ⟨i + 1, by go_num, by omega, by rw [HR2.out, HS2.out]; exact HL.out⟩
              case measure =>
                simp only [intOf]
                omega
        · have hio : i = P.os.length := by omega
          rw [hio, begins_miss] at hb
          obtain rfl : P.miss = b := by injection hb
          have hoI : ¬ (i : Int) < (P.os.length : Int) := by omega
          clear hio
          by_cases hb0 : 0 ≤ P.miss
          · obtain ⟨k, hkm⟩ := Int.eq_ofNat_of_zero_le hb0
            have hk : k < P.cd.length := by omega
            have hkI : (k : Int) < (P.cd.length : Int) := by omega
            have hr2 : rsK P (i + 1) = (rsK P i).set k rsB := by rw [HRN.out]; unfold markR; rw [if_pos hb0, hkm]; rfl
            have hs2 : stsK P (i + 1) = (stsK P i).set k true := by rw [HSN.out]; unfold markS; rw [if_pos hb0, hkm]; rfl
            have HR2 := hide hr2
            have HS2 := hide hs2
            obtain ⟨r0, r1, r2, r3⟩ := HL.out.rsAt hk _ (Below.refl _ _)
            have fa0 := HL.out.a.frozen (k * 4)
            have fa1 := HL.out.a.frozen (k * 4 + 1)
            have fa2 := HL.out.a.frozen (k * 4 + 2)
            have fa3 := HL.out.a.frozen (k * 4 + 3)
            have HLP := hide (HL.out.put hk rsB)
            have y8 := HLP.out.cellL.2.2.2.2
            have ys := HLP.out.stAt hk _ (Below.refl _ _)
            have fs := HLP.out.s.frozen k
            have HLE := hide (HLP.out.st k true)
            unfold rsB at y8 ys fs
            simp only at y8 ys fs
            have HKM := hide hkm
            rw [hkm] at q4
            clear hr2 hs2 hb hbl hb0 hkm
            go_wp2_with fail
            all_goals
              go_roundw
              case rel => exact ⟨i + 1, by go_num, by omega, by rw [HR2.out, HS2.out]; exact HLE.out⟩
              case measure =>
                simp only [intOf]
                omega
          · have hr2 : rsK P (i + 1) = rsK P i := by rw [HRN.out]; unfold markR; rw [if_neg hb0]
            have hs2 : stsK P (i + 1) = stsK P i := by rw [HSN.out]; unfold markS; rw [if_neg hb0]
            have HR2 := hide hr2
            have HS2 := hide hs2
            clear hr2 hs2 hb hbl
            go_wp2_with fail
            all_goals
              go_roundw
              case rel => exact ⟨i + 1, by go_num, by omega, by rw [HR2.out, HS2.out]; exact HL.out⟩
              case measure =>
                simp only [intOf]
                omega
      · have hie : i = P.os.length + 1 := by omega
        have HIE := hide hie
        have hno : ¬ (i : Int) ≤ (P.os.length : Int) := by omega
        clear hlt hi u1 hie
        have hL0 := HL.out
        rw [HIE.out] at hL0
        have HL0 := hide hL0
        have HSO := hide (sts0_ok HCV.out)
        have HR0 := hide (rel0 HCV.out)
        clear HL hL0 q4 l6 l8
        go_wp2_with fail
        go_loopw [9] (fun tx W => ∃ (n : Nat) (ats : List St) (rs : List Rs) (ups : List Int), tx = .int .i64 (n : Int) ∧ n ≤ P.cd.length ∧ Rel P n ats rs ups ∧ Fits P ats ∧ looksV P P.cd.length 0 (ats0 P) = looksV P (P.cd.length - n) n ats ∧ LMem w2 W lb ab ub sb ⟨ga, va, ta, oa, ca, P.gh.length, gc, P.vs.length, vc, P.ts.length, tc, P.os.length, oc, P.cd.length, cc, P.miss⟩ P rs ups (stsK P (P.os.length + 1))) (fun tx _ => P.cd.length - (intOf tx).toNat)
        case atStart => exact ⟨0, _, _, _, rfl, Nat.zero_le _, HR0.out, ats0_fits P, rfl, HL0.out⟩
        case round =>
          clear HL0 HR0 hno q3
          obtain ⟨n, ats, rs, ups, rfl, hnl, hrel, hfit, hlk, hL⟩ := hrel
          rename World => W
          have HL := hide hL
          have HREL := hide hrel
          have HFIT := hide hfit
          have HLK := hide hlk
          clear hL hrel hfit hlk
          have u1 := IntWalk.i64_in ((n : Int) + 1) (by omega)
          by_cases hlt : n < P.cd.length
          · have hltI : (n : Int) < (P.cd.length : Int) := by omega
            obtain ⟨x, hxe⟩ : ∃ x, insAt P (n : Int) = x := ⟨_, rfl⟩
            have hix : insE P x = 0 := by
              have e : insAt P (n : Int) = P.cd[n] := by simp [insAt, hlt]
              rw [← hxe, e]
              exact HINS.out _ (List.getElem_mem _)
            obtain ⟨q1, q2⟩ := look_law hlt hix HREL.out HFIT.out HSO.out
            have hpl := place_q HL.out hcl n hlt x hxe (chk_of P x hix) (HREL.out.fitR HFIT.out hlt)
            rw [q1] at hpl
            have hat : ats[n]? = some (atSt ats (n : Int)) := by
              have : n < ats.length := by rw [HREL.out.la]; exact hlt
              simp [atSt, this]
            have hf2 := (look_fits (x := x) hlt hat HFIT.out).1
            by_cases he : (lookV P n x (atSt ats (n : Int)) ats).1 = 0
            · have q3 := q2 he
              rw [he] at hpl
              have hst := looks_step hlt (by rw [hxe]; exact he)
              rw [hxe] at hst
              have hlk2 := HLK.out.trans hst
              have HPL := hide hpl
              have HQ3 := hide q3
              have HF2 := hide hf2
              have HLK2 := hide hlk2
              generalize (lookV P n x (atSt ats (n : Int)) ats).2 = ats2 at *
              generalize (placeR P n x rs ups (stsK P (P.os.length + 1))).2.1 = rs2 at *
              generalize (placeR P n x rs ups (stsK P (P.os.length + 1))).2.2 = ups2 at *
              clear hix q1 q2 hpl hat hf2 he q3 hst hlk2 hxe
              go_wp2_with (go_at_call 37
                           refine HPL.out.mono ?_
                           rintro en w6 ⟨rfl, hl6⟩
                           have HL6 := hide hl6
                           clear hl6)
              all_goals
                go_roundw
                case rel => exact ⟨n + 1, ats2, rs2, ups2, by go_num, by omega, HQ3.out, HF2.out, HLK2.out, HL6.out⟩
                case measure =>
                  simp only [intOf]
                  omega
            · have hst := looks_stop hlt (by rw [hxe]; exact he)
              rw [hxe] at hst
              have hlk2 := HLK.out.trans hst
              have hlf : lookF P = ((lookV P n x (atSt ats (n : Int)) ats).1, (n : Int)) := by unfold lookF; rw [if_neg (by rw [HCV.out]; decide), hlk2, if_pos he]
              have hb1 : ((lookV P n x (atSt ats (n : Int)) ats).1 != 0) = true := by simpa using he
              generalize (lookV P n x (atSt ats (n : Int)) ats).1 = e at *
              have HPL := hide hpl
              have HLF := hide hlf
              have HE := hide he
              clear hix q1 q2 hpl hat hf2 he hst hlk2 hxe hlf HLK
              go_wp2_with (go_at_call 37
                           refine HPL.out.mono ?_
                           rintro en w6 ⟨rfl, hl6⟩
                           have kF := HF.out.below hl6.b HF.out.lt
                           have f0 : w6.cell? ⟨w.heap.size + 1, 0, none⟩ = some (.int .i64 0) := by rw [kF.cell]; rfl
                           have f1 : w6.cell? ⟨w.heap.size + 1, 1, none⟩ = some (.int .i64 0) := by rw [kF.cell]; rfl
                           have ff0 := kF.frozen 0
                           have ff1 := kF.frozen 1
                           have HB6 := hide (HB.out.trans (hl6.b.mono HB.out.size))
                           clear hl6 kF)
              refine bodyPost_ret (v := .tuple #[.pointer none, .agg #[.int .i64 e, .int .i64 (n : Int)]]) ?_ rfl ?_
              · simp only [results, HRES.out]
                go_simp
              · unfold LookP
                refine ⟨none, by rw [HLF.out], ((HB6.out.setCell (by show w.heap.size ≤ w.heap.size + 1; omega) _).setCell (by show w.heap.size ≤ w.heap.size + 1; omega) _), fun h0 => ?_⟩
                rw [HLF.out] at h0
                exact absurd h0 HE.out
          · have hne : n = P.cd.length := by omega
            have hlk2 := HLK.out
            have hrel2 := HREL.out
            rw [hne, Nat.sub_self] at hlk2
            rw [hne] at hrel2
            have hl3 : looksV P P.cd.length 0 (ats0 P) = (0, P.cd.length, ats) := hlk2
            have hlf : lookF P = (0, 0) := by unfold lookF; rw [if_neg (by rw [HCV.out]; decide), hl3, if_neg (by simp)]
            have HLF := hide hlf
            have HL3 := hide hl3
            have HREL2 := hide hrel2
            have kF := HF.out.below HL.out.b HF.out.lt
            have f0 : W.cell? ⟨w.heap.size + 1, 0, none⟩ = some (.int .i64 0) := by rw [kF.cell]; rfl
            have f1 : W.cell? ⟨w.heap.size + 1, 1, none⟩ = some (.int .i64 0) := by rw [kF.cell]; rfl
            have ff0 := kF.frozen 0
            have ff1 := kF.frozen 1
            have hno : ¬ (n : Int) < (P.cd.length : Int) := by omega
            clear hne hlk2 hrel2 hl3 hlf kF hlt hnl u1
            go_wp2_with fail
            refine bodyPost_ret (v := .tuple #[.pointer (some ⟨lb, 0, none⟩), .agg #[.int .i64 0, .int .i64 0]]) ?_ rfl ?_
            · simp only [results, HRES.out]
              go_simp
            · unfold LookP
              have hq1 : (w.heap.size + 1) < w2.heap.size := HF.out.lt
              have hs1 := HB.out.setCell (p := ⟨w.heap.size + 1, 0, none⟩) (by show w.heap.size ≤ w.heap.size + 1; omega) (.int .i64 0)
              have hs2 := hs1.setCell (p := ⟨w.heap.size + 1, 1, none⟩) (by show w.heap.size ≤ w.heap.size + 1; omega) (.int .i64 0)
              have hm1 := HL.out.late ⟨w.heap.size + 1, 0, none⟩ (.int .i64 0) hq1 (HM.out.below hs1)
              have hm2 := hm1.late ⟨w.heap.size + 1, 1, none⟩ (.int .i64 0) (by simpa [World.setCell] using hq1) (HM.out.below hs2)
              refine ⟨_, by rw [HLF.out], hs2.trans (hm2.b.mono hs2.size), fun h0 => ⟨_, lb, ab, ub, sb, rs, ups, _, rfl, hs2, hm2, ?_⟩⟩
              rw [HL3.out]
              exact HREL2.out
end Go.Proofs.Ytjflllfkgbhemaa

/- The walk of the reference's Run. Conditions: the program lies in memory. -/
namespace Go.Proofs.Ytjflllfkgbhemaa
open Go.RowKit Go.PlainAid
theorem run_of_bad {P : Prg} (h : (lookF P).1 ≠ 0) : (runV P).1 = (lookF P).1 ∧ (runV P).2.1 = (lookF P).2 := by
  unfold lookF at h ⊢
  unfold runV
  by_cases h0 : checkV P ≠ 0
  · simp only [if_pos h0]
    exact ⟨trivial, trivial⟩
  · simp only [if_neg h0] at h ⊢
    by_cases h1 : (looksV P P.cd.length 0 (ats0 P)).1 ≠ 0
    · simp only [if_pos h1]
      exact ⟨trivial, trivial⟩
    · rw [if_neg h1] at h
      exact absurd rfl h
theorem look_ok {P : Prg} (h : (lookF P).1 = 0) : checkV P = 0 ∧ (looksV P P.cd.length 0 (ats0 P)).1 = 0 ∧ (lookF P).2 = 0 := by
  unfold lookF at h ⊢
  by_cases h0 : checkV P ≠ 0
  · rw [if_pos h0] at h
    exact absurd (by simpa using h) h0
  · rw [if_neg h0] at h ⊢
    by_cases h1 : (looksV P P.cd.length 0 (ats0 P)).1 ≠ 0
    · rw [if_pos h1] at h
      exact absurd h h1
    · rw [if_neg h1]
      exact ⟨by simpa using h0, by simpa using h1, rfl⟩
theorem run_of_over {P : Prg} {b : Int} (h : (lookF P).1 = 0) (ho : overV (fuelK P P.cd.length) (begins P) = some b) : (runV P).1 = 97 ∧ (runV P).2.1 = b := by
  obtain ⟨h0, h1, _⟩ := look_ok h
  have := runV_over h0 (n := (looksV P P.cd.length 0 (ats0 P)).2.1) (ats := (looksV P P.cd.length 0 (ats0 P)).2.2) (by rw [← h1]) ho
  rw [this]
  exact ⟨rfl, rfl⟩
theorem run_of_ok {P : Prg} (h : (lookF P).1 = 0) (ho : overV (fuelK P P.cd.length) (begins P) = none) : (runV P).1 = 0 ∧ (runV P).2.1 = 0 := by
  obtain ⟨h0, h1, _⟩ := look_ok h
  have := runV_ok h0 (n := (looksV P P.cd.length 0 (ats0 P)).2.1) (ats := (looksV P P.cd.length 0 (ats0 P)).2.2) (by rw [← h1]) ho
  rw [this]
  exact ⟨rfl, rfl⟩
theorem own_slice {w : World} {base : Nat} {e : TypeId} {size n : Nat} {v : Value} {xs : List Value} (h : w.ownsRow base e size v n xs) : ∃ oa cap, v = .slice oa n cap := by
  rcases h.2 with ⟨rfl, rfl⟩ | ⟨g, cap, cur, rfl, _⟩
  · exact ⟨none, 0, rfl⟩
  · exact ⟨_, _, rfl⟩
/-- the costs that the reference tells -/
def CostsR (B : Nat) (w : World) (v : Value) (P : Prg) : Prop :=
  ((runV P).1 ≠ 0 → v = .agg #[.slice none 0 0, .int .i64 0]) ∧
  ((runV P).1 = 0 → ∃ v1, v = .agg #[v1, .int .i64 (fAt (costsV (fuelK P P.cd.length) [P.miss]) 0)] ∧ w.ownsRow B 3 1 v1 P.os.length (ints (costsV (fuelK P P.cd.length) P.os)))
def RunRP (w : World) (P : Prg) : Ending → World → Prop := fun en w' => ∃ v1 m, en = .returned (.tuple #[.agg #[v1, .int .i64 m], .agg #[.int .i64 (runV P).1, .int .i64 (runV P).2.1]]) ∧ CostsR w.heap.size w' (.agg #[v1, .int .i64 m]) P ∧ Below w.heap.size w w'
set_option linter.unusedVariables false in
set_option linter.unusedSimpArgs false in
set_option maxRecDepth 100000 in
set_option maxHeartbeats 40000000 in
theorem run_r (w : World) (p : PV) (P : Prg) (h : AMem w p P) : Calls Try.prog 14 #[p.val] w (RunRP w P) := by
  have hres : Try.f14.results = #[.cell 2 32, .cell 3 35] := by kernel_rfl
  have HRES := hide hres
  clear hres
  have HLK := fun (W : World) (hb : Below w.heap.size w W) => hide (look_r W p P (h.below hb))
  have HM := hide h
  obtain ⟨e1, e2, e3, e4, e5, e6, _, _, _, _, _, lens⟩ := h
  obtain ⟨ga, va, ta, oa, ca, gl, gc, vl, vc, tl, tc, ol, oc, cl, cc, miss⟩ := p
  simp only at e1 e2 e3 e4 e5 e6
  subst e1 e2 e3 e4 e5 e6
  simp only [PV.val] at *
  obtain ⟨i3, hi3, hz0, hz1, hz2⟩ := info_parts info3
  have hW1 : Below w.heap.size w (((w.alloc (.cells #[.slice ga P.gh.length gc, .slice va P.vs.length vc, .slice ta P.ts.length tc, .slice oa P.os.length oc, .int .i64 P.miss, .slice ca P.cd.length cc] 28)).alloc (.cells #[.slice none 0 0, .int .i64 0] 32)).alloc (.cells #[.int .i64 0, .int .i64 0] 35)) := (((Below.refl _ w).alloc (Nat.le_refl _) _).alloc (by simp) _).alloc (by simp; omega) _
  have HP1 := hide (((Blk.new w 28 #[.slice ga P.gh.length gc, .slice va P.vs.length vc, .slice ta P.ts.length tc, .slice oa P.os.length oc, .int .i64 P.miss, .slice ca P.cd.length cc]).alloc (.cells #[.slice none 0 0, .int .i64 0] 32)).alloc (.cells #[.int .i64 0, .int .i64 0] 35))
  have HC1 : Hid (Blk (((w.alloc (.cells #[.slice ga P.gh.length gc, .slice va P.vs.length vc, .slice ta P.ts.length tc, .slice oa P.os.length oc, .int .i64 P.miss, .slice ca P.cd.length cc] 28)).alloc (.cells #[.slice none 0 0, .int .i64 0] 32)).alloc (.cells #[.int .i64 0, .int .i64 0] 35)) (w.heap.size + 1) 32 #[.slice none 0 0, .int .i64 0]) := hide (by
    have := (Blk.new (w.alloc (.cells #[.slice ga P.gh.length gc, .slice va P.vs.length vc, .slice ta P.ts.length tc, .slice oa P.os.length oc, .int .i64 P.miss, .slice ca P.cd.length cc] 28)) 32 #[.slice none 0 0, .int .i64 0]).alloc (.cells #[.int .i64 0, .int .i64 0] 35)
    simpa using this)
  have HF1 : Hid (Blk (((w.alloc (.cells #[.slice ga P.gh.length gc, .slice va P.vs.length vc, .slice ta P.ts.length tc, .slice oa P.os.length oc, .int .i64 P.miss, .slice ca P.cd.length cc] 28)).alloc (.cells #[.slice none 0 0, .int .i64 0] 32)).alloc (.cells #[.int .i64 0, .int .i64 0] 35)) (w.heap.size + 1 + 1) 35 #[.int .i64 0, .int .i64 0]) := hide (by
    have := Blk.new ((w.alloc (.cells #[.slice ga P.gh.length gc, .slice va P.vs.length vc, .slice ta P.ts.length tc, .slice oa P.os.length oc, .int .i64 P.miss, .slice ca P.cd.length cc] 28)).alloc (.cells #[.slice none 0 0, .int .i64 0] 32)) 35 #[.int .i64 0, .int .i64 0]
    simpa using this)
  have HB1 := hide hW1
  clear hW1 lens
  obtain ⟨⟨e, at_⟩, he⟩ : ∃ r, lookF P = r := ⟨_, rfl⟩
  unfold LookP at HLK
  simp only [he] at HLK
  by_cases hz : e = 0
  case neg =>
    obtain ⟨r1, r2⟩ := run_of_bad (P := P) (by rw [he]; exact hz)
    rw [he] at r1 r2
    simp only at r1 r2
    have HR1 := hide r1
    have HR2 := hide r2
    have hb1 : (e != 0) = true := by simpa using hz
    have hb2 : (e == 0) = false := by simpa using hz
    have HNZ := hide hz
    clear hz he r1 r2
    go_enter Try.func14, Try.ntmps14
    go_wp2_with (go_at_call 27
                 refine (HLK _ HB1.out).out.mono ?_
                 rintro en w2 ⟨pa, rfl, hb2, hrest⟩
                 clear hrest
                 have HP := hide ((HP1.out.below hb2 HP1.out.lt).alloc (.cells #[.int .i64 e, .int .i64 at_] 35))
                 have HC := hide ((HC1.out.below hb2 HC1.out.lt).alloc (.cells #[.int .i64 e, .int .i64 at_] 35))
                 have HF := hide ((HF1.out.below hb2 HF1.out.lt).alloc (.cells #[.int .i64 e, .int .i64 at_] 35))
                 have HB := hide ((HB1.out.trans (hb2.mono HB1.out.size)).alloc (Nat.le_trans HB1.out.size hb2.size) (.cells #[.int .i64 e, .int .i64 at_] 35))
                 have HX := hide (Blk.new w2 35 #[.int .i64 e, .int .i64 at_])
                 have p5 : (w2.alloc (.cells #[.int .i64 e, .int .i64 at_] 35)).cell? ⟨w.heap.size, 5, none⟩ = some (.slice ca P.cd.length cc) := by rw [HP.out.cell]; rfl
                 have hsz : w.heap.size + 3 ≤ w2.heap.size := by have := hb2.size; simp at this; omega
                 have hn1 : ¬ w2.heap.size = w.heap.size + 1 := by omega
                 have hn2 : ¬ w.heap.size + 1 = w2.heap.size := by omega
                 have hn3 : ¬ w2.heap.size = w.heap.size + 1 + 1 := by omega
                 have hn4 : ¬ w.heap.size + 1 + 1 = w2.heap.size := by omega
                 clear hb2)
    have hcz := HC.out
    have hdz := HF.out
    have hxz := HX.out
    have hbz := HB.out
    generalize w2.alloc (.cells #[.int .i64 e, .int .i64 at_] 35) = W5 at *
    have c0 : W5.cell? ⟨w.heap.size + 1, 0, none⟩ = some (.slice none 0 0) := by rw [(hcz).cell]; rfl
    have c1 : W5.cell? ⟨w.heap.size + 1, 1, none⟩ = some (.int .i64 0) := by rw [(hcz).cell]; rfl
    have d0 : W5.cell? ⟨w.heap.size + 1 + 1, 0, none⟩ = some (.int .i64 0) := by rw [(hdz).cell]; rfl
    have d1 : W5.cell? ⟨w.heap.size + 1 + 1, 1, none⟩ = some (.int .i64 0) := by rw [(hdz).cell]; rfl
    have cf0 := (hcz).frozen 0
    have cf1 := (hcz).frozen 1
    have df0 := (hdz).frozen 0
    have df1 := (hdz).frozen 1
    have yc0 : W5.drew.cell? ⟨w.heap.size + 1, 0, none⟩ = some (.slice none 0 0) := by rw [(hcz.drew).cell]; rfl
    have yc1 : W5.drew.cell? ⟨w.heap.size + 1, 1, none⟩ = some (.int .i64 0) := by rw [(hcz.drew).cell]; rfl
    have yd0 : W5.drew.cell? ⟨w.heap.size + 1 + 1, 0, none⟩ = some (.int .i64 0) := by rw [(hdz.drew).cell]; rfl
    have yd1 : W5.drew.cell? ⟨w.heap.size + 1 + 1, 1, none⟩ = some (.int .i64 0) := by rw [(hdz.drew).cell]; rfl
    have ycf0 := (hcz.drew).frozen 0
    have ycf1 := (hcz.drew).frozen 1
    have ydf0 := (hdz.drew).frozen 0
    have ydf1 := (hdz.drew).frozen 1
    have x0 : W5.cell? ⟨w2.heap.size, 0, none⟩ = some (.int .i64 e) := by rw [hxz.cell]; rfl
    have x1 : W5.cell? ⟨w2.heap.size, 1, none⟩ = some (.int .i64 at_) := by rw [hxz.cell]; rfl
    have x0d : W5.drew.cell? ⟨w2.heap.size, 0, none⟩ = some (.int .i64 e) := x0
    have x1d : W5.drew.cell? ⟨w2.heap.size, 1, none⟩ = some (.int .i64 at_) := x1
    have hbf : Below w.heap.size w ((((W5.setCell ⟨w.heap.size + 1, 0, none⟩ (.slice none 0 0)).setCell ⟨w.heap.size + 1, 1, none⟩ (.int .i64 0)).setCell ⟨w.heap.size + 1 + 1, 0, none⟩ (.int .i64 e)).setCell ⟨w.heap.size + 1 + 1, 1, none⟩ (.int .i64 at_)) := (((hbz.setCell (by show w.heap.size ≤ w.heap.size + 1; omega) _).setCell (by show w.heap.size ≤ w.heap.size + 1; omega) _).setCell (by show w.heap.size ≤ w.heap.size + 1 + 1; omega) _).setCell (by show w.heap.size ≤ w.heap.size + 1 + 1; omega) _
    have hcf : Blk ((((W5.setCell ⟨w.heap.size + 1, 0, none⟩ (.slice none 0 0)).setCell ⟨w.heap.size + 1, 1, none⟩ (.int .i64 0)).setCell ⟨w.heap.size + 1 + 1, 0, none⟩ (.int .i64 e)).setCell ⟨w.heap.size + 1 + 1, 1, none⟩ (.int .i64 at_)) (w.heap.size + 1) 32 #[.slice none 0 0, .int .i64 0] := (((hcz.set_ 0 _).set_ 1 _).far (by simp) _).far (by simp) _
    have hdf : Blk ((((W5.setCell ⟨w.heap.size + 1, 0, none⟩ (.slice none 0 0)).setCell ⟨w.heap.size + 1, 1, none⟩ (.int .i64 0)).setCell ⟨w.heap.size + 1 + 1, 0, none⟩ (.int .i64 e)).setCell ⟨w.heap.size + 1 + 1, 1, none⟩ (.int .i64 at_)) (w.heap.size + 1 + 1) 35 #[.int .i64 e, .int .i64 at_] := (((hdz.far (by simp) _).far (by simp) _).set_ 0 _).set_ 1 _
    have HBF := hide hbf
    have HCF := hide hcf
    have HDF := hide hdf
    clear hcz hdz hxz hbz hbf hcf hdf HP HC HF HB HX
    go_region
    all_goals
      go_wp2_with fail
      generalize ((((W5.setCell ⟨w.heap.size + 1, 0, none⟩ (.slice none 0 0)).setCell ⟨w.heap.size + 1, 1, none⟩ (.int .i64 0)).setCell ⟨w.heap.size + 1 + 1, 0, none⟩ (.int .i64 e)).setCell ⟨w.heap.size + 1 + 1, 1, none⟩ (.int .i64 at_)) = Wy at *
      have z0 : Wy.cell? ⟨w.heap.size + 1, 0, none⟩ = some (.slice none 0 0) := by first | (rw [HCF.out.cell]; rfl) | (rw [HCF.out.drew.cell]; rfl)
      have z1 : Wy.cell? ⟨w.heap.size + 1, 1, none⟩ = some (.int .i64 0) := by first | (rw [HCF.out.cell]; rfl) | (rw [HCF.out.drew.cell]; rfl)
      have z2 : Wy.cell? ⟨w.heap.size + 1 + 1, 0, none⟩ = some (.int .i64 e) := by first | (rw [HDF.out.cell]; rfl) | (rw [HDF.out.drew.cell]; rfl)
      have z3 : Wy.cell? ⟨w.heap.size + 1 + 1, 1, none⟩ = some (.int .i64 at_) := by first | (rw [HDF.out.cell]; rfl) | (rw [HDF.out.drew.cell]; rfl)
      have z0n : Wy.drew.cell? ⟨w.heap.size + 1, 0, none⟩ = some (.slice none 0 0) := by first | (rw [HCF.out.cell]; rfl) | (rw [HCF.out.drew.cell]; rfl)
      have z1n : Wy.drew.cell? ⟨w.heap.size + 1, 1, none⟩ = some (.int .i64 0) := by first | (rw [HCF.out.cell]; rfl) | (rw [HCF.out.drew.cell]; rfl)
      have z2n : Wy.drew.cell? ⟨w.heap.size + 1 + 1, 0, none⟩ = some (.int .i64 e) := by first | (rw [HDF.out.cell]; rfl) | (rw [HDF.out.drew.cell]; rfl)
      have z3n : Wy.drew.cell? ⟨w.heap.size + 1 + 1, 1, none⟩ = some (.int .i64 at_) := by first | (rw [HDF.out.cell]; rfl) | (rw [HDF.out.drew.cell]; rfl)
      refine bodyPost_ret (v := .tuple #[.agg #[.slice none 0 0, .int .i64 0], .agg #[.int .i64 e, .int .i64 at_]]) ?_ rfl ?_
      · simp only [results, HRES.out]
        go_simp
      · unfold RunRP
        refine ⟨.slice none 0 0, 0, by rw [HR1.out, HR2.out], ⟨fun _ => rfl, fun h0 => absurd (HR1.out.symm.trans h0) HNZ.out⟩, by first | exact HBF.out | exact HBF.out.drew⟩
  subst hz
  have hlo : (lookF P).1 = 0 := by rw [he]
  obtain ⟨hcv, hlz, hl2⟩ := look_ok hlo
  rw [he] at hl2
  simp only at hl2
  subst hl2
  obtain ⟨hln, hcl, hins⟩ := check_len hcv
  have HLO := hide hlo
  have hfl := flows_of hins hlz
  have HFU := fun (W : World) (hb : Below w.heap.size w W) => hide (fuel_r W _ P (HM.out.below hb) hfl hcl)
  simp only at HFU
  have hbin := begins_in hcv
  have HBIN := hide hbin
  have hF62 := fuelK_in P P.cd.length
  have hFl := fuelK_len P P.cd.length
  obtain ⟨F, hFe⟩ : ∃ F, fuelK P P.cd.length = F := ⟨_, rfl⟩
  rw [hFe] at hF62 hFl
  simp only [hFe] at HFU
  have HFE := hide hFe
  have HF62 := hide hF62
  have HFL := hide hFl
  clear he hlo hcv hlz hins hfl hbin hF62 hFl hFe
  go_enter Try.func14, Try.ntmps14
  go_wp2_with fail
  go_at_call 27
  refine (HLK _ HB1.out).out.mono ?_
  rintro en w2 ⟨pa, rfl, hb2, hrest⟩
  clear hrest
  have HP := hide ((HP1.out.below hb2 HP1.out.lt).alloc (.cells #[.int .i64 0, .int .i64 0] 35))
  have HC := hide ((HC1.out.below hb2 HC1.out.lt).alloc (.cells #[.int .i64 0, .int .i64 0] 35))
  have HF := hide ((HF1.out.below hb2 HF1.out.lt).alloc (.cells #[.int .i64 0, .int .i64 0] 35))
  have HB := hide ((HB1.out.trans (hb2.mono HB1.out.size)).alloc (Nat.le_trans HB1.out.size hb2.size) (.cells #[.int .i64 0, .int .i64 0] 35))
  have HX := hide (Blk.new w2 35 #[.int .i64 0, .int .i64 0])
  have p5 : (w2.alloc (.cells #[.int .i64 0, .int .i64 0] 35)).cell? ⟨w.heap.size, 5, none⟩ = some (.slice ca P.cd.length cc) := by rw [HP.out.cell]; rfl
  have hsz : w.heap.size + 3 ≤ w2.heap.size := by have := hb2.size; simp at this; omega
  have hn1 : ¬ w2.heap.size = w.heap.size + 1 := by omega
  have hn2 : ¬ w.heap.size + 1 = w2.heap.size := by omega
  have hn3 : ¬ w2.heap.size = w.heap.size + 1 + 1 := by omega
  have hn4 : ¬ w.heap.size + 1 + 1 = w2.heap.size := by omega
  clear hb2
  go_wp2_with fail
  go_at_call 28
  refine (HFU _ HB.out).out.mono ?_
  rintro en w6 ⟨G, rfl, hg6, hG6, hb6⟩
  have HP6 := hide (HP.out.below hb6 HP.out.lt)
  have HC6 := hide (HC.out.below hb6 HC.out.lt)
  have HF6 := hide (HF.out.below hb6 HF.out.lt)
  have HB6 := hide (HB.out.trans (hb6.mono HB.out.size))
  have HG6 := hide hg6
  have HGL := hide hg6.lt
  have HZ6 : Hid (w.heap.size + 3 ≤ w6.heap.size) := hide (by have := hb6.size; simp at this; omega)
  have q3w : w6.cell? ⟨w.heap.size, 3, none⟩ = some (.slice oa P.os.length oc) := by rw [HP6.out.cell]; rfl
  clear hb6 hG6 hg6 p5
  go_wp2_with fail
  have HBW := hide ((Below.refl w6.heap.size w6).alloc (Nat.le_refl _) (.cells #[.slice none 0 0, .int .i64 0] 32))
  have HKW := hide (Blk.new w6 32 #[.slice none 0 0, .int .i64 0])
  have hown0 := World.ownsRow_nil (w6.alloc (.cells #[.slice none 0 0, .int .i64 0] 32)) (w6.heap.size + 1) 3 1
  have HOW := hide hown0
  have q30 : (w6.alloc (.cells #[.slice none 0 0, .int .i64 0] 32)).cell? ⟨w.heap.size, 3, none⟩ = some (.slice oa P.os.length oc) := by rw [(HP6.out.alloc _).cell]; rfl
  generalize (w6.alloc (.cells #[.slice none 0 0, .int .i64 0] 32)) = W7 at *
  clear hown0
  go_loopw [8] (fun tx W => ∃ (i : Nat) (v1 : Value), tx = .int .i64 (i : Int) ∧ i ≤ P.os.length + 1 ∧ overV F ((begins P).drop i) = overV F (begins P) ∧ Blk W w6.heap.size 32 #[v1, .int .i64 (if i = P.os.length + 1 then fAt (costsV F [P.miss]) 0 else 0)] ∧ W.ownsRow (w6.heap.size + 1) 3 1 v1 (min i P.os.length) (ints (costsV F (P.os.take i))) ∧ Below w6.heap.size w6 W) (fun tx _ => P.os.length + 1 - (intOf tx).toNat)
  case atStart => exact ⟨0, _, rfl, Nat.zero_le _, rfl, by rw [if_neg (by omega)]; exact HKW.out, by rw [Nat.zero_min]; exact HOW.out, HBW.out⟩
  case round =>
    clear HBW HKW HOW q30 q3w
    obtain ⟨i, v1, rfl, hi, hov, hk, hown, hB⟩ := hrel
    rename World => W
    have HOV := hide hov
    have HK := hide hk
    have HOWN := hide hown
    have HBW := hide hB
    have u1 := IntWalk.i64_in ((i : Int) + 1) (by omega)
    have hp := HP6.out.below hB HP6.out.lt
    have q3 : W.cell? ⟨w.heap.size, 3, none⟩ = some (.slice oa P.os.length oc) := by rw [hp.cell]; rfl
    have q4 : W.cell? ⟨w.heap.size, 4, none⟩ = some (.int .i64 P.miss) := by rw [hp.cell]; rfl
    have hg := HG6.out.below hB HGL.out
    have hcz := HC6.out.below hB HC6.out.lt
    have hdz := HF6.out.below hB HF6.out.lt
    have c0 : W.cell? ⟨w.heap.size + 1, 0, none⟩ = some (.slice none 0 0) := by rw [(hcz).cell]; rfl
    have c1 : W.cell? ⟨w.heap.size + 1, 1, none⟩ = some (.int .i64 0) := by rw [(hcz).cell]; rfl
    have d0 : W.cell? ⟨w.heap.size + 1 + 1, 0, none⟩ = some (.int .i64 0) := by rw [(hdz).cell]; rfl
    have d1 : W.cell? ⟨w.heap.size + 1 + 1, 1, none⟩ = some (.int .i64 0) := by rw [(hdz).cell]; rfl
    have cf0 := (hcz).frozen 0
    have cf1 := (hcz).frozen 1
    have df0 := (hdz).frozen 0
    have df1 := (hdz).frozen 1
    have b0 : W.cell? ⟨w6.heap.size, 0, none⟩ = some v1 := by rw [hk.cell]; rfl
    have bf0 := hk.frozen 0
    have bf1 := hk.frozen 1
    have HCZ := hide hcz
    have HDZ := hide hdz
    have HG := hide hg
    clear hov hk hown hB hp hg hcz hdz
    by_cases hlt : i < P.os.length + 1
    · obtain ⟨b, hb⟩ : ∃ b, (begins P)[i]? = some b := ⟨_, List.getElem?_eq_getElem (by rw [begins_len]; exact hlt)⟩
      have hbl := HBIN.out b (List.mem_of_getElem? hb)
      have hle : (i : Int) ≤ (P.os.length : Int) := by omega
      have hdr := over_drop (f := F) hb
      rw [HOV.out] at hdr
      have b1 : W.cell? ⟨w6.heap.size, 1, none⟩ = some (.int .i64 0) := by rw [HK.out.cell, if_neg (by omega)]; rfl
      have HKZ : Hid (Blk W w6.heap.size 32 #[v1, .int .i64 0]) := hide (by have := HK.out; rw [if_neg (by omega)] at this; exact this)
      obtain ⟨N, hN⟩ : ∃ N, (if b < 0 then 0 else fAt F b) = N := ⟨_, rfl⟩
      have hN2 : 0 ≤ N ∧ N ≤ 4611686018427387904 := by
        rw [← hN]
        split
        · omega
        · exact fAt_in HF62.out b
      have hct : i < P.os.length → ints (costsV F (P.os.take (i + 1))) = ints (costsV F (P.os.take i)) ++ [.int .i64 N] := fun ho => by
        rw [begins_os ho] at hb
        rw [← hN]
        exact costs_take hb
      have hmi : i = P.os.length → fAt (costsV F [P.miss]) 0 = N := fun ho => by
        rw [ho, begins_miss] at hb
        injection hb with hb
        rw [← hN, ← hb]
        rfl
      have HCT := hide hct
      have HMI := hide hmi
      clear hct hmi
      by_cases ho : i < P.os.length
      · have hoI : (i : Int) < (P.os.length : Int) := by omega
        have hbo := hb
        rw [begins_os ho] at hbo
        obtain ⟨ad, had, hab, hcl2⟩ := src_at HM.out.o (by show 0 < P.os.length; omega)
        simp only at had
        subst had
        have c0s := hcl2 W (HB6.out.trans (HBW.out.mono HB6.out.size)) i (.int .i64 b) (by simp [ints, hbo])
        clear hcl2 hab hbo
        by_cases hneg : b < 0
        · have hnn : ¬ (0 : Int) ≤ b := by omega
          rw [if_pos hneg] at hN
          subst hN
          have hov2 : overV F ((begins P).drop (i + 1)) = overV F (begins P) := by rw [hdr, if_neg (fun h => hnn h.1)]
          have HOV2 := hide hov2
          clear hov2 hdr hb hbl hneg hN2
          go_wp2_with (at_builtin
                       refine wpList_append_own _ rfl (.tmp 60) (.tmp 62) 25 rfl (w6.heap.size + 1) 3 i3 (.int .i64 0) 1 8 Try.underlying25 hi3 hz0 hz1 hz2 rfl (by decide) _ _ _ rfl (HOWN.out.alloc _) ⟨W.heap.size, 0, none⟩ 1 1 [.int .i64 0] rfl rfl (one_cell W _) (by simp [Value.oneCell']) (by unfold maxLen; omega) (by omega) (by have := HBW.out.size; have := HKZ.out.lt; simp; omega) ?_
                       intro v' w10 hown' hgrow _
                       obtain ⟨gq, cq, ev, hq1, hq2⟩ := own_form hown' (by omega)
                       subst ev
                       have hne := own_blk_ne (HOWN.out.alloc (.cells #[.int .i64 0] 3)) (HKZ.out.alloc _) (by decide)
                       have hk10 := (HKZ.out.alloc (.cells #[.int .i64 0] 3)).grown hgrow (fun e => hne e.symm)
                       have hb10 : Below w6.heap.size w6 w10 := (HBW.out.alloc HBW.out.size _).trans (below_grow hgrow (fun k hk => by have := (HOWN.out.lt k hk).1; omega) (by have := HBW.out.size; simp; omega))
                       have e0 : w10.cell? ⟨w6.heap.size, 0, none⟩ = some v1 := by rw [hk10.cell]; rfl
                       have ef0 := hk10.frozen 0
                       have HOWN2 := hide hown'
                       have HK10 := hide hk10
                       have HB10 := hide hb10
                       clear hown' hgrow hne hk10 hb10)
          all_goals
            go_roundw
            case rel =>
              have hne2 := own_blk_ne HOWN2.out HK10.out (by decide)
              refine ⟨i + 1, _, by go_num, by omega, HOV2.out, by rw [if_neg (by omega)]; exact HK10.out.set_ 0 _, ?_, HB10.out.setCell (Nat.le_refl _) _⟩
              rw [HCT.out (by omega), show min (i + 1) P.os.length = min i P.os.length + 1 by omega]
              exact own_far HOWN2.out (p := ⟨w6.heap.size, 0, none⟩) hne2 _
            case measure =>
              simp only [intOf]
              omega
        · obtain ⟨k, hkb⟩ := Int.eq_ofNat_of_zero_le (show 0 ≤ b by omega)
          subst hkb
          have hk2 : k < P.cd.length := by omega
          have hkI : (k : Int) < (P.cd.length : Int) := by omega
          have hk0 : (0 : Int) ≤ (k : Int) := by omega
          have g0 := HG.out.num (n := k) (by rw [HFL.out]; exact hk2) _ (Below.refl _ _)
          have hN3 := hN
          rw [if_neg (by omega)] at hN3
          rw [hN3] at g0
          clear hN3
          by_cases hbig : 1152921504606846976 < N
          · skip
            have hov2 : overV F (begins P) = some (k : Int) := by rw [hdr, if_pos ⟨by omega, by rw [if_neg (by omega)] at hN; rw [hN]; exact hbig⟩]
            obtain ⟨r1, r2⟩ := run_of_over HLO.out (by rw [HFE.out]; exact hov2)
            have HR1 := hide r1
            have HR2 := hide r2
            have HBF : Hid (Below w.heap.size w ((((W.setCell ⟨w.heap.size + 1, 0, none⟩ (.slice none 0 0)).setCell ⟨w.heap.size + 1, 1, none⟩ (.int .i64 0)).setCell ⟨w.heap.size + 1 + 1, 0, none⟩ (.int .i64 97)).setCell ⟨w.heap.size + 1 + 1, 1, none⟩ (.int .i64 (k : Int)))) := hide (((((HB6.out.trans (HBW.out.mono HB6.out.size)).setCell (by show w.heap.size ≤ w.heap.size + 1; omega) _).setCell (by show w.heap.size ≤ w.heap.size + 1; omega) _).setCell (by show w.heap.size ≤ w.heap.size + 1 + 1; omega) _).setCell (by show w.heap.size ≤ w.heap.size + 1 + 1; omega) _)
            have HCF : Hid (Blk ((((W.setCell ⟨w.heap.size + 1, 0, none⟩ (.slice none 0 0)).setCell ⟨w.heap.size + 1, 1, none⟩ (.int .i64 0)).setCell ⟨w.heap.size + 1 + 1, 0, none⟩ (.int .i64 97)).setCell ⟨w.heap.size + 1 + 1, 1, none⟩ (.int .i64 (k : Int))) (w.heap.size + 1) 32 #[.slice none 0 0, .int .i64 0]) := hide ((((HCZ.out.set_ 0 _).set_ 1 _).far (by simp) _).far (by simp) _)
            have HDF : Hid (Blk ((((W.setCell ⟨w.heap.size + 1, 0, none⟩ (.slice none 0 0)).setCell ⟨w.heap.size + 1, 1, none⟩ (.int .i64 0)).setCell ⟨w.heap.size + 1 + 1, 0, none⟩ (.int .i64 97)).setCell ⟨w.heap.size + 1 + 1, 1, none⟩ (.int .i64 (k : Int))) (w.heap.size + 1 + 1) 35 #[.int .i64 97, .int .i64 (k : Int)]) := hide ((((HDZ.out.far (by simp) _).far (by simp) _).set_ 0 _).set_ 1 _)
            clear r1 r2 hov2 hdr hb hN hbl
            go_wp2_with fail
            generalize ((((W.setCell ⟨w.heap.size + 1, 0, none⟩ (.slice none 0 0)).setCell ⟨w.heap.size + 1, 1, none⟩ (.int .i64 0)).setCell ⟨w.heap.size + 1 + 1, 0, none⟩ (.int .i64 97)).setCell ⟨w.heap.size + 1 + 1, 1, none⟩ (.int .i64 (k : Int))) = Wy at *
            have z0 : Wy.cell? ⟨w.heap.size + 1, 0, none⟩ = some (.slice none 0 0) := by first | (rw [HCF.out.cell]; rfl) | (rw [HCF.out.drew.cell]; rfl)
            have z1 : Wy.cell? ⟨w.heap.size + 1, 1, none⟩ = some (.int .i64 0) := by first | (rw [HCF.out.cell]; rfl) | (rw [HCF.out.drew.cell]; rfl)
            have z2 : Wy.cell? ⟨w.heap.size + 1 + 1, 0, none⟩ = some (.int .i64 97) := by first | (rw [HDF.out.cell]; rfl) | (rw [HDF.out.drew.cell]; rfl)
            have z3 : Wy.cell? ⟨w.heap.size + 1 + 1, 1, none⟩ = some (.int .i64 (k : Int)) := by first | (rw [HDF.out.cell]; rfl) | (rw [HDF.out.drew.cell]; rfl)
            have z0n : Wy.drew.cell? ⟨w.heap.size + 1, 0, none⟩ = some (.slice none 0 0) := by first | (rw [HCF.out.cell]; rfl) | (rw [HCF.out.drew.cell]; rfl)
            have z1n : Wy.drew.cell? ⟨w.heap.size + 1, 1, none⟩ = some (.int .i64 0) := by first | (rw [HCF.out.cell]; rfl) | (rw [HCF.out.drew.cell]; rfl)
            have z2n : Wy.drew.cell? ⟨w.heap.size + 1 + 1, 0, none⟩ = some (.int .i64 97) := by first | (rw [HDF.out.cell]; rfl) | (rw [HDF.out.drew.cell]; rfl)
            have z3n : Wy.drew.cell? ⟨w.heap.size + 1 + 1, 1, none⟩ = some (.int .i64 (k : Int)) := by first | (rw [HDF.out.cell]; rfl) | (rw [HDF.out.drew.cell]; rfl)
            refine bodyPost_ret (v := .tuple #[.agg #[.slice none 0 0, .int .i64 0], .agg #[.int .i64 97, .int .i64 (k : Int)]]) ?_ rfl ?_
            · simp only [results, HRES.out]
              go_simp
            · unfold RunRP
              refine ⟨.slice none 0 0, 0, by rw [HR1.out, HR2.out], ⟨fun _ => rfl, fun h0 => absurd (HR1.out.symm.trans h0) (by decide)⟩, by first | exact HBF.out | exact HBF.out.drew⟩
          · have hov2 : overV F ((begins P).drop (i + 1)) = overV F (begins P) := by rw [hdr, if_neg (fun h => hbig (by rw [if_neg (by omega)] at hN; rw [hN] at h; exact h.2))]
            have HOV2 := hide hov2
            clear hov2 hdr hb hbl hN
            go_wp2_with (at_builtin
                         refine wpList_append_own _ rfl (.tmp 60) (.tmp 62) 25 rfl (w6.heap.size + 1) 3 i3 (.int .i64 0) 1 8 Try.underlying25 hi3 hz0 hz1 hz2 rfl (by decide) _ _ _ rfl (HOWN.out.alloc _) ⟨W.heap.size, 0, none⟩ 1 1 [.int .i64 N] rfl rfl (one_cell W _) (by simp [Value.oneCell']) (by unfold maxLen; omega) (by omega) (by have := HBW.out.size; have := HKZ.out.lt; simp; omega) ?_
                         intro v' w10 hown' hgrow _
                         obtain ⟨gq, cq, ev, hq1, hq2⟩ := own_form hown' (by omega)
                         subst ev
                         have hne := own_blk_ne (HOWN.out.alloc (.cells #[.int .i64 N] 3)) (HKZ.out.alloc _) (by decide)
                         have hk10 := (HKZ.out.alloc (.cells #[.int .i64 N] 3)).grown hgrow (fun e => hne e.symm)
                         have hb10 : Below w6.heap.size w6 w10 := (HBW.out.alloc HBW.out.size _).trans (below_grow hgrow (fun k hk => by have := (HOWN.out.lt k hk).1; omega) (by have := HBW.out.size; simp; omega))
                         have e0 : w10.cell? ⟨w6.heap.size, 0, none⟩ = some v1 := by rw [hk10.cell]; rfl
                         have ef0 := hk10.frozen 0
                         have HOWN2 := hide hown'
                         have HK10 := hide hk10
                         have HB10 := hide hb10
                         clear hown' hgrow hne hk10 hb10)
            all_goals
              go_roundw
              case rel =>
                have hne2 := own_blk_ne HOWN2.out HK10.out (by decide)
                refine ⟨i + 1, _, by go_num, by omega, HOV2.out, by rw [if_neg (by omega)]; exact HK10.out.set_ 0 _, ?_, HB10.out.setCell (Nat.le_refl _) _⟩
                rw [HCT.out (by omega), show min (i + 1) P.os.length = min i P.os.length + 1 by omega]
                exact own_far HOWN2.out (p := ⟨w6.heap.size, 0, none⟩) hne2 _
              case measure =>
                simp only [intOf]
                omega
      · have hio : i = P.os.length := by omega
        have hb3 := hb
        rw [hio, begins_miss] at hb3
        obtain rfl : P.miss = b := by injection hb3
        have hoI : ¬ (i : Int) < (P.os.length : Int) := by omega
        clear hio hb3
        by_cases hneg : P.miss < 0
        · have hnn : ¬ (0 : Int) ≤ P.miss := by omega
          rw [if_pos hneg] at hN
          subst hN
          have hov2 : overV F ((begins P).drop (i + 1)) = overV F (begins P) := by rw [hdr, if_neg (fun h => hnn h.1)]
          have HOV2 := hide hov2
          clear hov2 hdr hb hbl hneg hN2
          go_wp2_with fail
          all_goals
            go_roundw
            case rel =>
              have hne2 := own_blk_ne HOWN.out HKZ.out (by decide)
              refine ⟨i + 1, v1, by go_num, by omega, HOV2.out, by rw [if_pos (by omega), HMI.out (by omega)]; exact HKZ.out.set_ 1 _, ?_, HBW.out.setCell (Nat.le_refl _) _⟩
              rw [show P.os.take (i + 1) = P.os.take i by rw [List.take_of_length_le (by omega), List.take_of_length_le (by omega)], show min (i + 1) P.os.length = min i P.os.length by omega]
              exact own_far HOWN.out (p := ⟨w6.heap.size, 1, none⟩) hne2 _
            case measure =>
              simp only [intOf]
              omega
        · obtain ⟨k, hkb⟩ := Int.eq_ofNat_of_zero_le (show 0 ≤ P.miss by omega)
          rw [hkb] at q4 hN hdr hneg hbl
          have hk2 : k < P.cd.length := by omega
          have hkI : (k : Int) < (P.cd.length : Int) := by omega
          have hk0 : (0 : Int) ≤ (k : Int) := by omega
          have g0 := HG.out.num (n := k) (by rw [HFL.out]; exact hk2) _ (Below.refl _ _)
          have hN3 := hN
          rw [if_neg (by omega)] at hN3
          rw [hN3] at g0
          clear hN3
          by_cases hbig : 1152921504606846976 < N
          · skip
            have hov2 : overV F (begins P) = some (k : Int) := by rw [hdr, if_pos ⟨by omega, by rw [if_neg (by omega)] at hN; rw [hN]; exact hbig⟩]
            obtain ⟨r1, r2⟩ := run_of_over HLO.out (by rw [HFE.out]; exact hov2)
            have HR1 := hide r1
            have HR2 := hide r2
            have HBF : Hid (Below w.heap.size w ((((W.setCell ⟨w.heap.size + 1, 0, none⟩ (.slice none 0 0)).setCell ⟨w.heap.size + 1, 1, none⟩ (.int .i64 0)).setCell ⟨w.heap.size + 1 + 1, 0, none⟩ (.int .i64 97)).setCell ⟨w.heap.size + 1 + 1, 1, none⟩ (.int .i64 (k : Int)))) := hide (((((HB6.out.trans (HBW.out.mono HB6.out.size)).setCell (by show w.heap.size ≤ w.heap.size + 1; omega) _).setCell (by show w.heap.size ≤ w.heap.size + 1; omega) _).setCell (by show w.heap.size ≤ w.heap.size + 1 + 1; omega) _).setCell (by show w.heap.size ≤ w.heap.size + 1 + 1; omega) _)
            have HCF : Hid (Blk ((((W.setCell ⟨w.heap.size + 1, 0, none⟩ (.slice none 0 0)).setCell ⟨w.heap.size + 1, 1, none⟩ (.int .i64 0)).setCell ⟨w.heap.size + 1 + 1, 0, none⟩ (.int .i64 97)).setCell ⟨w.heap.size + 1 + 1, 1, none⟩ (.int .i64 (k : Int))) (w.heap.size + 1) 32 #[.slice none 0 0, .int .i64 0]) := hide ((((HCZ.out.set_ 0 _).set_ 1 _).far (by simp) _).far (by simp) _)
            have HDF : Hid (Blk ((((W.setCell ⟨w.heap.size + 1, 0, none⟩ (.slice none 0 0)).setCell ⟨w.heap.size + 1, 1, none⟩ (.int .i64 0)).setCell ⟨w.heap.size + 1 + 1, 0, none⟩ (.int .i64 97)).setCell ⟨w.heap.size + 1 + 1, 1, none⟩ (.int .i64 (k : Int))) (w.heap.size + 1 + 1) 35 #[.int .i64 97, .int .i64 (k : Int)]) := hide ((((HDZ.out.far (by simp) _).far (by simp) _).set_ 0 _).set_ 1 _)
            clear r1 r2 hov2 hdr hb hN hbl
            go_wp2_with fail
            generalize ((((W.setCell ⟨w.heap.size + 1, 0, none⟩ (.slice none 0 0)).setCell ⟨w.heap.size + 1, 1, none⟩ (.int .i64 0)).setCell ⟨w.heap.size + 1 + 1, 0, none⟩ (.int .i64 97)).setCell ⟨w.heap.size + 1 + 1, 1, none⟩ (.int .i64 (k : Int))) = Wy at *
            have z0 : Wy.cell? ⟨w.heap.size + 1, 0, none⟩ = some (.slice none 0 0) := by first | (rw [HCF.out.cell]; rfl) | (rw [HCF.out.drew.cell]; rfl)
            have z1 : Wy.cell? ⟨w.heap.size + 1, 1, none⟩ = some (.int .i64 0) := by first | (rw [HCF.out.cell]; rfl) | (rw [HCF.out.drew.cell]; rfl)
            have z2 : Wy.cell? ⟨w.heap.size + 1 + 1, 0, none⟩ = some (.int .i64 97) := by first | (rw [HDF.out.cell]; rfl) | (rw [HDF.out.drew.cell]; rfl)
            have z3 : Wy.cell? ⟨w.heap.size + 1 + 1, 1, none⟩ = some (.int .i64 (k : Int)) := by first | (rw [HDF.out.cell]; rfl) | (rw [HDF.out.drew.cell]; rfl)
            have z0n : Wy.drew.cell? ⟨w.heap.size + 1, 0, none⟩ = some (.slice none 0 0) := by first | (rw [HCF.out.cell]; rfl) | (rw [HCF.out.drew.cell]; rfl)
            have z1n : Wy.drew.cell? ⟨w.heap.size + 1, 1, none⟩ = some (.int .i64 0) := by first | (rw [HCF.out.cell]; rfl) | (rw [HCF.out.drew.cell]; rfl)
            have z2n : Wy.drew.cell? ⟨w.heap.size + 1 + 1, 0, none⟩ = some (.int .i64 97) := by first | (rw [HDF.out.cell]; rfl) | (rw [HDF.out.drew.cell]; rfl)
            have z3n : Wy.drew.cell? ⟨w.heap.size + 1 + 1, 1, none⟩ = some (.int .i64 (k : Int)) := by first | (rw [HDF.out.cell]; rfl) | (rw [HDF.out.drew.cell]; rfl)
            refine bodyPost_ret (v := .tuple #[.agg #[.slice none 0 0, .int .i64 0], .agg #[.int .i64 97, .int .i64 (k : Int)]]) ?_ rfl ?_
            · simp only [results, HRES.out]
              go_simp
            · unfold RunRP
              refine ⟨.slice none 0 0, 0, by rw [HR1.out, HR2.out], ⟨fun _ => rfl, fun h0 => absurd (HR1.out.symm.trans h0) (by decide)⟩, by first | exact HBF.out | exact HBF.out.drew⟩
          · have hov2 : overV F ((begins P).drop (i + 1)) = overV F (begins P) := by rw [hdr, if_neg (fun h => hbig (by rw [if_neg (by omega)] at hN; rw [hN] at h; exact h.2))]
            have HOV2 := hide hov2
            clear hov2 hdr hb hbl hN
            go_wp2_with fail
            all_goals
              go_roundw
              case rel =>
                have hne2 := own_blk_ne HOWN.out HKZ.out (by decide)
                refine ⟨i + 1, v1, by go_num, by omega, HOV2.out, by rw [if_pos (by omega), HMI.out (by omega)]; exact HKZ.out.set_ 1 _, ?_, HBW.out.setCell (Nat.le_refl _) _⟩
                rw [show P.os.take (i + 1) = P.os.take i by rw [List.take_of_length_le (by omega), List.take_of_length_le (by omega)], show min (i + 1) P.os.length = min i P.os.length by omega]
                exact own_far HOWN.out (p := ⟨w6.heap.size, 1, none⟩) hne2 _
              case measure =>
                simp only [intOf]
                omega
    · have hie : i = P.os.length + 1 := by omega
      have hno : ¬ (i : Int) ≤ (P.os.length : Int) := by omega
      have hov := HOV.out
      rw [hie, List.drop_eq_nil_of_le (by rw [begins_len]; omega)] at hov
      obtain ⟨r1, r2⟩ := run_of_ok HLO.out (by rw [HFE.out]; exact hov.symm)
      have HR1 := hide r1
      have HR2 := hide r2
      have hk := HK.out
      rw [if_pos hie] at hk
      have hown := HOWN.out
      rw [hie, Nat.min_eq_right (by omega), List.take_of_length_le (by omega)] at hown
      obtain ⟨oa1, ca1, rfl⟩ := own_slice hown
      have b0x : W.cell? ⟨w6.heap.size, 0, none⟩ = some (.slice oa1 P.os.length ca1) := b0
      obtain ⟨M, hM⟩ : ∃ M, fAt (costsV F [P.miss]) 0 = M := ⟨_, rfl⟩
      rw [hM] at hk
      have b1 : W.cell? ⟨w6.heap.size, 1, none⟩ = some (.int .i64 M) := by rw [hk.cell]; rfl
      have HME := hide hM
      have HBF : Hid (Below w.heap.size w ((((W.setCell ⟨w.heap.size + 1, 0, none⟩ (.slice oa1 P.os.length ca1)).setCell ⟨w.heap.size + 1, 1, none⟩ (.int .i64 M)).setCell ⟨w.heap.size + 1 + 1, 0, none⟩ (.int .i64 0)).setCell ⟨w.heap.size + 1 + 1, 1, none⟩ (.int .i64 0))) := hide (((((HB6.out.trans (HBW.out.mono HB6.out.size)).setCell (by show w.heap.size ≤ w.heap.size + 1; omega) _).setCell (by show w.heap.size ≤ w.heap.size + 1; omega) _).setCell (by show w.heap.size ≤ w.heap.size + 1 + 1; omega) _).setCell (by show w.heap.size ≤ w.heap.size + 1 + 1; omega) _)
      have HCF : Hid (Blk ((((W.setCell ⟨w.heap.size + 1, 0, none⟩ (.slice oa1 P.os.length ca1)).setCell ⟨w.heap.size + 1, 1, none⟩ (.int .i64 M)).setCell ⟨w.heap.size + 1 + 1, 0, none⟩ (.int .i64 0)).setCell ⟨w.heap.size + 1 + 1, 1, none⟩ (.int .i64 0)) (w.heap.size + 1) 32 #[.slice oa1 P.os.length ca1, .int .i64 M]) := hide ((((HCZ.out.set_ 0 _).set_ 1 _).far (by simp) _).far (by simp) _)
      have HDF : Hid (Blk ((((W.setCell ⟨w.heap.size + 1, 0, none⟩ (.slice oa1 P.os.length ca1)).setCell ⟨w.heap.size + 1, 1, none⟩ (.int .i64 M)).setCell ⟨w.heap.size + 1 + 1, 0, none⟩ (.int .i64 0)).setCell ⟨w.heap.size + 1 + 1, 1, none⟩ (.int .i64 0)) (w.heap.size + 1 + 1) 35 #[.int .i64 0, .int .i64 0]) := hide ((((HDZ.out.far (by simp) _).far (by simp) _).set_ 0 _).set_ 1 _)
      have hnc := own_blk_ne hown HCZ.out (by decide)
      have hnd := own_blk_ne hown HDZ.out (by decide)
      have HOF : Hid (World.ownsRow ((((W.setCell ⟨w.heap.size + 1, 0, none⟩ (.slice oa1 P.os.length ca1)).setCell ⟨w.heap.size + 1, 1, none⟩ (.int .i64 M)).setCell ⟨w.heap.size + 1 + 1, 0, none⟩ (.int .i64 0)).setCell ⟨w.heap.size + 1 + 1, 1, none⟩ (.int .i64 0)) w.heap.size 3 1 (.slice oa1 P.os.length ca1) P.os.length (ints (costsV F P.os))) := hide (own_far (own_far (own_far (own_far (own_down hown (by have := HZ6.out; omega)) (p := ⟨w.heap.size + 1, 0, none⟩) hnc _) (p := ⟨w.heap.size + 1, 1, none⟩) hnc _) (p := ⟨w.heap.size + 1 + 1, 0, none⟩) hnd _) (p := ⟨w.heap.size + 1 + 1, 1, none⟩) hnd _)
      have hx1 : ¬ w6.heap.size = w.heap.size + 1 := by have := HZ6.out; omega
      have hx2 : ¬ w6.heap.size = w.heap.size + 1 + 1 := by have := HZ6.out; omega
      clear r1 r2 hov hk hown hM hie hnc hnd hlt hi
      go_wp2_with fail
      generalize ((((W.setCell ⟨w.heap.size + 1, 0, none⟩ (.slice oa1 P.os.length ca1)).setCell ⟨w.heap.size + 1, 1, none⟩ (.int .i64 M)).setCell ⟨w.heap.size + 1 + 1, 0, none⟩ (.int .i64 0)).setCell ⟨w.heap.size + 1 + 1, 1, none⟩ (.int .i64 0)) = Wy at *
      have z0 : Wy.cell? ⟨w.heap.size + 1, 0, none⟩ = some (.slice oa1 P.os.length ca1) := by first | (rw [HCF.out.cell]; rfl) | (rw [HCF.out.drew.cell]; rfl)
      have z1 : Wy.cell? ⟨w.heap.size + 1, 1, none⟩ = some (.int .i64 M) := by first | (rw [HCF.out.cell]; rfl) | (rw [HCF.out.drew.cell]; rfl)
      have z2 : Wy.cell? ⟨w.heap.size + 1 + 1, 0, none⟩ = some (.int .i64 0) := by first | (rw [HDF.out.cell]; rfl) | (rw [HDF.out.drew.cell]; rfl)
      have z3 : Wy.cell? ⟨w.heap.size + 1 + 1, 1, none⟩ = some (.int .i64 0) := by first | (rw [HDF.out.cell]; rfl) | (rw [HDF.out.drew.cell]; rfl)
      have z0n : Wy.drew.cell? ⟨w.heap.size + 1, 0, none⟩ = some (.slice oa1 P.os.length ca1) := by first | (rw [HCF.out.cell]; rfl) | (rw [HCF.out.drew.cell]; rfl)
      have z1n : Wy.drew.cell? ⟨w.heap.size + 1, 1, none⟩ = some (.int .i64 M) := by first | (rw [HCF.out.cell]; rfl) | (rw [HCF.out.drew.cell]; rfl)
      have z2n : Wy.drew.cell? ⟨w.heap.size + 1 + 1, 0, none⟩ = some (.int .i64 0) := by first | (rw [HDF.out.cell]; rfl) | (rw [HDF.out.drew.cell]; rfl)
      have z3n : Wy.drew.cell? ⟨w.heap.size + 1 + 1, 1, none⟩ = some (.int .i64 0) := by first | (rw [HDF.out.cell]; rfl) | (rw [HDF.out.drew.cell]; rfl)
      refine bodyPost_ret (v := .tuple #[.agg #[.slice oa1 P.os.length ca1, .int .i64 M], .agg #[.int .i64 0, .int .i64 0]]) ?_ rfl ?_
      · simp only [results, HRES.out]
        go_simp
      · unfold RunRP
        refine ⟨.slice oa1 P.os.length ca1, M, by rw [HR1.out, HR2.out], ⟨fun h0 => absurd HR1.out h0, fun _ => ⟨.slice oa1 P.os.length ca1, by rw [HFE.out, HME.out], by rw [HFE.out]; exact HOF.out⟩⟩, HBF.out⟩
end Go.Proofs.Ytjflllfkgbhemaa

/- The walks of SameCosts and VerifyRuns. Conditions: the program lies in memory. -/
namespace Go.Proofs.Ytjflllfkgbhemaa
open Go.RowKit
theorem Src.only {S : Nat → Prop} {w w' : World} {oa : Option Addr} {n : Nat} {cs : List Value} (h : Src w oa n cs) (ho : Only S w w') (hS : ∀ ad, oa = some ad → ¬ S ad.block) : Src w' oa n cs := fun h0 => by
  obtain ⟨ad, e, hl, hx⟩ := h h0
  exact ⟨ad, e, Nat.lt_of_lt_of_le hl ho.size, fun j v hj => (ho.cell (by rw [add_block]; exact hl) (by rw [add_block]; exact hS ad e)).trans (hx j v hj)⟩
theorem own_src {w : World} {B n : Nat} {v : Value} {xs : List Value} (h : w.ownsRow B 3 1 v n xs) : ∃ oa cap, v = .slice oa n cap ∧ Src w oa n xs ∧ ∀ ad, oa = some ad → B ≤ ad.block := by
  have hc : ∀ g, v.ownBlock = some g → ∀ j u, xs[j]? = some u → w.cell? ((⟨g, 0, none⟩ : Addr).add j) = some u := fun g hg => h.cells hg
  have hl : ∀ g, v.ownBlock = some g → _ := fun g hg => h.lt g hg
  rcases h.2 with ⟨rfl, rfl⟩ | ⟨g, cap, cur, rfl, hb, hh, _⟩
  · exact ⟨none, 0, rfl, fun h0 => by omega, fun ad e => by cases e⟩
  · refine ⟨_, _, rfl, fun _ => ⟨_, rfl, (hl g rfl).2, fun j u hj => hc g rfl j u hj⟩, fun ad e => ?_⟩
    injection e with e
    subst e
    exact hb
theorem costs_same {B1 B2 : Nat} {w : World} {P : Prg} {o1 : Option Addr} {n1 c1 : Nat} {m1 m2 : Int} {v2 : Value} (h1 : CostsAre B1 w (.agg #[.slice o1 n1 c1, .int .i64 m1]) P) (h2 : CostsR B2 w (.agg #[v2, .int .i64 m2]) P) (hl : P.os.length ≤ maxLen) :
    ∃ (l : List Int) (oa2 : Option Addr) (cb2 : Nat), v2 = .slice oa2 n1 cb2 ∧ m2 = m1 ∧ l.length = n1 ∧ n1 ≤ maxLen ∧ Src w o1 n1 (ints l) ∧ Src w oa2 n1 (ints l) ∧ (∀ ad, o1 = some ad → B1 ≤ ad.block) ∧ (∀ ad, oa2 = some ad → B2 ≤ ad.block) := by
  by_cases he : (runV P).1 = 0
  · obtain ⟨g, cs, e1, hg, hk, hx⟩ := h1.2 he
    obtain ⟨v1, e2, hown⟩ := h2.2 he
    injection e1 with e1
    injection e2 with e2
    simp only [Array.mk.injEq, List.cons.injEq, and_true, Value.slice.injEq, Value.int.injEq, true_and] at e1 e2
    obtain ⟨⟨rfl, rfl, rfl⟩, rfl⟩ := e1
    obtain ⟨rfl, rfl⟩ := e2
    obtain ⟨oa2, cb2, rfl, hs, hb⟩ := own_src hown
    refine ⟨_, oa2, cb2, rfl, rfl, by simp [costsV], hl, fun _ => ⟨_, rfl, hk.lt, fun j u hj => ?_⟩, hs, fun ad e => ?_, hb⟩
    · have hadd : (⟨g, 0, none⟩ : Addr).add j = ⟨g, j, none⟩ := by unfold Addr.add; split <;> simp_all
      rw [hadd, hk.cell]
      simp only [ints, List.getElem?_map, Option.map_eq_some_iff] at hj
      obtain ⟨x, hx1, rfl⟩ := hj
      exact hx j x hx1
    · injection e with e
      subst e
      exact hg
  · have e1 := h1.1 he
    have e2 := h2.1 he
    injection e1 with e1
    injection e2 with e2
    simp only [Array.mk.injEq, List.cons.injEq, and_true, Value.slice.injEq, Value.int.injEq, true_and] at e1 e2
    obtain ⟨⟨rfl, rfl, rfl⟩, rfl⟩ := e1
    obtain ⟨rfl, rfl⟩ := e2
    have hs : Src w none 0 (ints []) := fun h0 => absurd h0 (by decide)
    have hz : ∀ (B : Nat) (ad : Addr), (none : Option Addr) = some ad → B ≤ ad.block := fun B ad e => by cases e
    exact ⟨[], none, 0, rfl, rfl, rfl, Nat.zero_le _, hs, hs, hz _, hz _⟩
def farN (P : Prg) : Prop := P.gh.length ≤ 100 ∧ P.vs.length ≤ 100 ∧ P.ts.length ≤ 100 ∧ P.os.length ≤ 100 ∧ P.cd.length ≤ 524288
set_option linter.unusedVariables false in
set_option linter.unusedSimpArgs false in
set_option maxRecDepth 100000 in
set_option maxHeartbeats 40000000 in
theorem sameCosts_i (w : World) (oa ob : Option Addr) (n ca cb : Nat) (m : Int) (l : List Int) (ha : Src w oa n (ints l)) (hb : Src w ob n (ints l)) (hn : l.length = n) (hm : n ≤ maxLen) :
    Calls Try.prog 16 #[.agg #[.slice oa n ca, .int .i64 m], .agg #[.slice ob n cb, .int .i64 m]] w fun en w' => en = .returned (.bool true) ∧ Below w.heap.size w w' := by
  have hb0 : Below w.heap.size w ((w.alloc (.cells #[.slice oa n ca, .int .i64 m] 32)).alloc (.cells #[.slice ob n cb, .int .i64 m] 32)) := ((Below.refl _ w).alloc (Nat.le_refl _) _).alloc (by simp) _
  have HS := hide (same19_i _ oa ob n ca cb l (ha.below hb0) (hb.below hb0) hn hm)
  have HB := hide hb0
  clear ha hb hn hm hb0
  go_enter Try.func16, Try.ntmps16
  go_wp2_with fail
  go_at_call 19
  refine HS.out.mono ?_
  rintro en w1 ⟨rfl, hb1⟩
  have HB1 := hide hb1
  clear hb1
  go_wp2_with fail
  go_ret
  exact ⟨rfl, HB.out.trans (HB1.out.mono (by simp; omega))⟩
set_option linter.unusedVariables false in
set_option linter.unusedSimpArgs false in
set_option maxRecDepth 100000 in
set_option maxHeartbeats 40000000 in
theorem runs_i (w : World) (p : PV) (P : Prg) (h : AMem w p P) :
    Calls Try.prog 4 #[p.val] w fun en w' => en = .returned (.bool true) ∧ Below w.heap.size w w' := by
  have HM := hide h
  have HFAR := fun (W : World) (hb : Below w.heap.size w W) => hide (far_i W p P (h.below hb))
  have HLEND := fun (W : World) (hb : Below w.heap.size w W) => lendProgram_i W p P (h.below hb)
  have HREF := fun (W : World) (hb : Below w.heap.size w W) => hide (run_r W p P (h.below hb))
  have HHD := fun W => hide (head_i W)
  obtain ⟨e1, e2, e3, e4, e5, e6, _, _, _, _, _, _⟩ := h
  obtain ⟨ga, va, ta, oa, ca, gl, gc, vl, vc, tl, tc, ol, oc, cl, cc, miss⟩ := p
  simp only at e1 e2 e3 e4 e5 e6
  subst e1 e2 e3 e4 e5 e6
  simp only [PV.val] at *
  have HB1 := hide ((Below.refl w.heap.size w).alloc (Nat.le_refl _) (.cells #[.slice ga P.gh.length gc, .slice va P.vs.length vc, .slice ta P.ts.length tc, .slice oa P.os.length oc, .int .i64 P.miss, .slice ca P.cd.length cc] 28))
  have HP1 := hide (Blk.new w 28 #[.slice ga P.gh.length gc, .slice va P.vs.length vc, .slice ta P.ts.length tc, .slice oa P.os.length oc, .int .i64 P.miss, .slice ca P.cd.length cc])
  obtain ⟨fv, hfv⟩ : ∃ f, farV P = f := ⟨_, rfl⟩
  simp only [hfv] at HFAR
  have HFV := hide hfv
  clear hfv
  go_enter Try.func4, Try.ntmps4
  go_wp2_with fail
  go_at_call 11
  refine (HFAR _ HB1.out).out.mono ?_
  rintro en w2 ⟨rfl, hb2⟩
  have HB2 := hide (HB1.out.trans (hb2.mono HB1.out.size))
  have HP2 := hide (HP1.out.below hb2 HP1.out.lt)
  clear hb2
  have p0 : w2.cell? ⟨w.heap.size, 0, none⟩ = some (.slice ga P.gh.length gc) := by rw [(HP2.out).cell]; rfl
  have p1 : w2.cell? ⟨w.heap.size, 1, none⟩ = some (.slice va P.vs.length vc) := by rw [(HP2.out).cell]; rfl
  have p2 : w2.cell? ⟨w.heap.size, 2, none⟩ = some (.slice ta P.ts.length tc) := by rw [(HP2.out).cell]; rfl
  have p3 : w2.cell? ⟨w.heap.size, 3, none⟩ = some (.slice oa P.os.length oc) := by rw [(HP2.out).cell]; rfl
  have p4 : w2.cell? ⟨w.heap.size, 4, none⟩ = some (.int .i64 P.miss) := by rw [(HP2.out).cell]; rfl
  have p5 : w2.cell? ⟨w.heap.size, 5, none⟩ = some (.slice ca P.cd.length cc) := by rw [(HP2.out).cell]; rfl
  cases fv
  case true =>
    go_wp2_with fail
    go_at_call 10
    refine (HHD _).out.mono ?_
    rintro en w3 ⟨rfl, hb3⟩
    have HB3 := hide (HB2.out.trans (hb3.mono HB2.out.size))
    clear hb3
    go_wp2_with fail
    go_ret
    exact ⟨rfl, HB3.out⟩
  have hl : farN P := by
    have := HFV.out
    unfold farV at this
    unfold farN
    simp at this
    omega
  have HL := hide hl
  have HLD := hide (HLEND w2 HB2.out hl)
  clear hl HLEND
  go_wp2_with fail
  go_at_call 12
  refine HLD.out.mono ?_
  rintro en w3 ⟨gg, gv, gt, go, gd, rfl, hl3, hb3⟩
  simp only [PV.val, lentPV]
  have HL3 := hide hl3
  have HB3 := hide (HB2.out.trans (hb3.mono HB2.out.size))
  have HP3 := hide (HP2.out.below hb3 HP2.out.lt)
  have HZ3 : Hid (w2.heap.size ≤ w3.heap.size) := hide hb3.size
  clear hb3 hl3 p0 p1 p2 p3 p4 p5
  have HB4 := hide (HB3.out.alloc HB3.out.size (.cells #[.slice (some ⟨gg, 0, none⟩) P.gh.length (P.gh.length + 3), .slice (some ⟨gv, 0, none⟩) P.vs.length (P.vs.length + 3), .slice (some ⟨gt, 0, none⟩) P.ts.length (P.ts.length + 5), .slice (some ⟨go, 0, none⟩) P.os.length (P.os.length + 5), .int .i64 P.miss, .slice (some ⟨gd, 0, none⟩) P.cd.length (P.cd.length + 9)] 28))
  have HL4 := hide (HL3.out.below ((Below.refl _ w3).alloc (Nat.le_refl _) (.cells #[.slice (some ⟨gg, 0, none⟩) P.gh.length (P.gh.length + 3), .slice (some ⟨gv, 0, none⟩) P.vs.length (P.vs.length + 3), .slice (some ⟨gt, 0, none⟩) P.ts.length (P.ts.length + 5), .slice (some ⟨go, 0, none⟩) P.os.length (P.os.length + 5), .int .i64 P.miss, .slice (some ⟨gd, 0, none⟩) P.cd.length (P.cd.length + 9)] 28)))
  have HP4 := hide (HP3.out.alloc (.cells #[.slice (some ⟨gg, 0, none⟩) P.gh.length (P.gh.length + 3), .slice (some ⟨gv, 0, none⟩) P.vs.length (P.vs.length + 3), .slice (some ⟨gt, 0, none⟩) P.ts.length (P.ts.length + 5), .slice (some ⟨go, 0, none⟩) P.os.length (P.os.length + 5), .int .i64 P.miss, .slice (some ⟨gd, 0, none⟩) P.cd.length (P.cd.length + 9)] 28))
  have HM4 := hide (Blk.new w3 28 #[.slice (some ⟨gg, 0, none⟩) P.gh.length (P.gh.length + 3), .slice (some ⟨gv, 0, none⟩) P.vs.length (P.vs.length + 3), .slice (some ⟨gt, 0, none⟩) P.ts.length (P.ts.length + 5), .slice (some ⟨go, 0, none⟩) P.os.length (P.os.length + 5), .int .i64 P.miss, .slice (some ⟨gd, 0, none⟩) P.cd.length (P.cd.length + 9)])
  have hl4 := HL.out
  unfold farN at hl4
  have hlm : P.gh.length ≤ maxLen ∧ P.vs.length ≤ maxLen ∧ P.ts.length ≤ maxLen ∧ P.os.length ≤ maxLen ∧ P.cd.length ≤ maxLen := by unfold maxLen; omega
  have HRUN := hide (verifyRun_i _ _ P (HL4.out.mem hlm) (HL4.out.mv (by unfold maxLen; omega)))
  have HLM := hide hlm
  have HL4x := hide hl4
  clear hlm hl4
  simp only [PV.val, lentPV] at HRUN
  go_wp2_with fail
  skip
  go_at_call 13
  refine HRUN.out.mono ?_
  rintro en w5 ⟨o1, n1, c1, m1, rfl, hc5, hb5⟩
  have HC5 := hide hc5
  have HP5 := hide (HP4.out.below hb5 HP4.out.lt)
  have HM5 := hide (HM4.out.below hb5 HM4.out.lt)
  have HL5 := hide (HL4.out.below hb5)
  have HB5 := hide (HB4.out.trans (hb5.mono HB4.out.size))
  have HZ5 : Hid (w3.heap.size + 1 ≤ w5.heap.size) := hide (by have := hb5.size; simp at this; omega)
  clear hb5 hc5
  have hb6 : Below w5.heap.size w5 ((w5.alloc (.cells #[.slice o1 n1 c1, .int .i64 m1] 32)).alloc (.cells #[.int .i64 (runV P).1, .int .i64 (runV P).2.1] 35)) := ((Below.refl _ w5).alloc (Nat.le_refl _) _).alloc (by simp) _
  have HB6 := hide (HB5.out.trans (hb6.mono HB5.out.size))
  have HP6 := hide (HP5.out.below hb6 HP5.out.lt)
  have HM6 := hide (HM5.out.below hb6 HM5.out.lt)
  have HL6 := hide (HL5.out.below hb6)
  have HC6 := hide (HC5.out.below hb6)
  have HX6 := hide ((Blk.new w5 32 #[.slice o1 n1 c1, .int .i64 m1]).alloc (.cells #[.int .i64 (runV P).1, .int .i64 (runV P).2.1] 35))
  have HY6 : Hid (Blk ((w5.alloc (.cells #[.slice o1 n1 c1, .int .i64 m1] 32)).alloc (.cells #[.int .i64 (runV P).1, .int .i64 (runV P).2.1] 35)) (w5.heap.size + 1) 35 #[.int .i64 (runV P).1, .int .i64 (runV P).2.1]) := hide (by
    have := Blk.new (w5.alloc (.cells #[.slice o1 n1 c1, .int .i64 m1] 32)) 35 #[.int .i64 (runV P).1, .int .i64 (runV P).2.1]
    simpa using this)
  clear hb6
  have q0 : ((w5.alloc (.cells #[.slice o1 n1 c1, .int .i64 m1] 32)).alloc (.cells #[.int .i64 (runV P).1, .int .i64 (runV P).2.1] 35)).cell? ⟨w.heap.size, 0, none⟩ = some (.slice ga P.gh.length gc) := by rw [(HP6.out).cell]; rfl
  have q1 : ((w5.alloc (.cells #[.slice o1 n1 c1, .int .i64 m1] 32)).alloc (.cells #[.int .i64 (runV P).1, .int .i64 (runV P).2.1] 35)).cell? ⟨w.heap.size, 1, none⟩ = some (.slice va P.vs.length vc) := by rw [(HP6.out).cell]; rfl
  have q2 : ((w5.alloc (.cells #[.slice o1 n1 c1, .int .i64 m1] 32)).alloc (.cells #[.int .i64 (runV P).1, .int .i64 (runV P).2.1] 35)).cell? ⟨w.heap.size, 2, none⟩ = some (.slice ta P.ts.length tc) := by rw [(HP6.out).cell]; rfl
  have q3 : ((w5.alloc (.cells #[.slice o1 n1 c1, .int .i64 m1] 32)).alloc (.cells #[.int .i64 (runV P).1, .int .i64 (runV P).2.1] 35)).cell? ⟨w.heap.size, 3, none⟩ = some (.slice oa P.os.length oc) := by rw [(HP6.out).cell]; rfl
  have q4 : ((w5.alloc (.cells #[.slice o1 n1 c1, .int .i64 m1] 32)).alloc (.cells #[.int .i64 (runV P).1, .int .i64 (runV P).2.1] 35)).cell? ⟨w.heap.size, 4, none⟩ = some (.int .i64 P.miss) := by rw [(HP6.out).cell]; rfl
  have q5 : ((w5.alloc (.cells #[.slice o1 n1 c1, .int .i64 m1] 32)).alloc (.cells #[.int .i64 (runV P).1, .int .i64 (runV P).2.1] 35)).cell? ⟨w.heap.size, 5, none⟩ = some (.slice ca P.cd.length cc) := by rw [(HP6.out).cell]; rfl
  have qq0 : w5.cell? ⟨w.heap.size, 0, none⟩ = some (.slice ga P.gh.length gc) := by rw [(HP5.out).cell]; rfl
  have qq1 : w5.cell? ⟨w.heap.size, 1, none⟩ = some (.slice va P.vs.length vc) := by rw [(HP5.out).cell]; rfl
  have qq2 : w5.cell? ⟨w.heap.size, 2, none⟩ = some (.slice ta P.ts.length tc) := by rw [(HP5.out).cell]; rfl
  have qq3 : w5.cell? ⟨w.heap.size, 3, none⟩ = some (.slice oa P.os.length oc) := by rw [(HP5.out).cell]; rfl
  have qq4 : w5.cell? ⟨w.heap.size, 4, none⟩ = some (.int .i64 P.miss) := by rw [(HP5.out).cell]; rfl
  have qq5 : w5.cell? ⟨w.heap.size, 5, none⟩ = some (.slice ca P.cd.length cc) := by rw [(HP5.out).cell]; rfl
  go_wp2_with fail
  go_at_call 14
  refine (HREF _ HB6.out).out.mono ?_
  unfold RunRP
  rintro en w7 ⟨v2, m2, rfl, hc7, hb7⟩
  have HC7 := hide (HC6.out.below hb7)
  have HR7 := hide hc7
  have HP7 := hide (HP6.out.below hb7 HP6.out.lt)
  have HM7 := hide (HM6.out.below hb7 HM6.out.lt)
  have HL7 := hide (HL6.out.below hb7)
  have HX7 := hide (HX6.out.below hb7 HX6.out.lt)
  have HY7 := hide (HY6.out.below hb7 HY6.out.lt)
  have HB7 := hide (HB6.out.trans (hb7.mono HB6.out.size))
  have HZ7 : Hid (w5.heap.size + 2 ≤ w7.heap.size) := hide (by have := hb7.size; simp at this; omega)
  clear hb7 hc7 q0 qq0 q1 qq1 q2 qq2 q3 qq3 q4 qq4 q5 qq5
  obtain ⟨l, o2, c2, rfl, rfl, hln, hn1, hs1, hs2, hg1, hg2⟩ := costs_same HC7.out HR7.out HLM.out.2.2.2.1
  have HS1 := hide hs1
  have HS2 := hide hs2
  have HG1 := hide hg1
  have HG2 := hide hg2
  have HLN := hide hln
  have HN1 := hide hn1
  clear hs1 hs2 hg1 hg2 hln hn1 HC7 HR7 HC6 HC5
  have hb8 : Below w7.heap.size w7 ((w7.alloc (.cells #[.slice o2 n1 c2, .int .i64 m2] 32)).alloc (.cells #[.int .i64 (runV P).1, .int .i64 (runV P).2.1] 35)) := ((Below.refl _ w7).alloc (Nat.le_refl _) _).alloc (by simp) _
  have HB8 := hide (HB7.out.trans (hb8.mono HB7.out.size))
  have HP8 := hide (HP7.out.below hb8 HP7.out.lt)
  have HM8 := hide (HM7.out.below hb8 HM7.out.lt)
  have HL8 := hide (HL7.out.below hb8)
  have HX8 := hide (HX7.out.below hb8 HX7.out.lt)
  have HY8 := hide (HY7.out.below hb8 HY7.out.lt)
  have HS18 := hide (HS1.out.below hb8)
  have HS28 := hide (HS2.out.below hb8)
  have HV8 := hide ((Blk.new w7 32 #[.slice o2 n1 c2, .int .i64 m2]).alloc (.cells #[.int .i64 (runV P).1, .int .i64 (runV P).2.1] 35))
  have HW8 : Hid (Blk ((w7.alloc (.cells #[.slice o2 n1 c2, .int .i64 m2] 32)).alloc (.cells #[.int .i64 (runV P).1, .int .i64 (runV P).2.1] 35)) (w7.heap.size + 1) 35 #[.int .i64 (runV P).1, .int .i64 (runV P).2.1]) := hide (by
    have := Blk.new (w7.alloc (.cells #[.slice o2 n1 c2, .int .i64 m2] 32)) 35 #[.int .i64 (runV P).1, .int .i64 (runV P).2.1]
    simpa using this)
  clear hb8
  have q0 : ((w7.alloc (.cells #[.slice o2 n1 c2, .int .i64 m2] 32)).alloc (.cells #[.int .i64 (runV P).1, .int .i64 (runV P).2.1] 35)).cell? ⟨w.heap.size, 0, none⟩ = some (.slice ga P.gh.length gc) := by rw [(HP8.out).cell]; rfl
  have q1 : ((w7.alloc (.cells #[.slice o2 n1 c2, .int .i64 m2] 32)).alloc (.cells #[.int .i64 (runV P).1, .int .i64 (runV P).2.1] 35)).cell? ⟨w.heap.size, 1, none⟩ = some (.slice va P.vs.length vc) := by rw [(HP8.out).cell]; rfl
  have q2 : ((w7.alloc (.cells #[.slice o2 n1 c2, .int .i64 m2] 32)).alloc (.cells #[.int .i64 (runV P).1, .int .i64 (runV P).2.1] 35)).cell? ⟨w.heap.size, 2, none⟩ = some (.slice ta P.ts.length tc) := by rw [(HP8.out).cell]; rfl
  have q3 : ((w7.alloc (.cells #[.slice o2 n1 c2, .int .i64 m2] 32)).alloc (.cells #[.int .i64 (runV P).1, .int .i64 (runV P).2.1] 35)).cell? ⟨w.heap.size, 3, none⟩ = some (.slice oa P.os.length oc) := by rw [(HP8.out).cell]; rfl
  have q4 : ((w7.alloc (.cells #[.slice o2 n1 c2, .int .i64 m2] 32)).alloc (.cells #[.int .i64 (runV P).1, .int .i64 (runV P).2.1] 35)).cell? ⟨w.heap.size, 4, none⟩ = some (.int .i64 P.miss) := by rw [(HP8.out).cell]; rfl
  have q5 : ((w7.alloc (.cells #[.slice o2 n1 c2, .int .i64 m2] 32)).alloc (.cells #[.int .i64 (runV P).1, .int .i64 (runV P).2.1] 35)).cell? ⟨w.heap.size, 5, none⟩ = some (.slice ca P.cd.length cc) := by rw [(HP8.out).cell]; rfl
  have qq0 : w7.cell? ⟨w.heap.size, 0, none⟩ = some (.slice ga P.gh.length gc) := by rw [(HP7.out).cell]; rfl
  have qq1 : w7.cell? ⟨w.heap.size, 1, none⟩ = some (.slice va P.vs.length vc) := by rw [(HP7.out).cell]; rfl
  have qq2 : w7.cell? ⟨w.heap.size, 2, none⟩ = some (.slice ta P.ts.length tc) := by rw [(HP7.out).cell]; rfl
  have qq3 : w7.cell? ⟨w.heap.size, 3, none⟩ = some (.slice oa P.os.length oc) := by rw [(HP7.out).cell]; rfl
  have qq4 : w7.cell? ⟨w.heap.size, 4, none⟩ = some (.int .i64 P.miss) := by rw [(HP7.out).cell]; rfl
  have qq5 : w7.cell? ⟨w.heap.size, 5, none⟩ = some (.slice ca P.cd.length cc) := by rw [(HP7.out).cell]; rfl
  have s0 : ((w7.alloc (.cells #[.slice o2 n1 c2, .int .i64 m2] 32)).alloc (.cells #[.int .i64 (runV P).1, .int .i64 (runV P).2.1] 35)).cell? ⟨w3.heap.size, 0, none⟩ = some (.slice (some ⟨gg, 0, none⟩) P.gh.length (P.gh.length + 3)) := by rw [(HM8.out).cell]; rfl
  have s1 : ((w7.alloc (.cells #[.slice o2 n1 c2, .int .i64 m2] 32)).alloc (.cells #[.int .i64 (runV P).1, .int .i64 (runV P).2.1] 35)).cell? ⟨w3.heap.size, 1, none⟩ = some (.slice (some ⟨gv, 0, none⟩) P.vs.length (P.vs.length + 3)) := by rw [(HM8.out).cell]; rfl
  have s2 : ((w7.alloc (.cells #[.slice o2 n1 c2, .int .i64 m2] 32)).alloc (.cells #[.int .i64 (runV P).1, .int .i64 (runV P).2.1] 35)).cell? ⟨w3.heap.size, 2, none⟩ = some (.slice (some ⟨gt, 0, none⟩) P.ts.length (P.ts.length + 5)) := by rw [(HM8.out).cell]; rfl
  have s3 : ((w7.alloc (.cells #[.slice o2 n1 c2, .int .i64 m2] 32)).alloc (.cells #[.int .i64 (runV P).1, .int .i64 (runV P).2.1] 35)).cell? ⟨w3.heap.size, 3, none⟩ = some (.slice (some ⟨go, 0, none⟩) P.os.length (P.os.length + 5)) := by rw [(HM8.out).cell]; rfl
  have s4 : ((w7.alloc (.cells #[.slice o2 n1 c2, .int .i64 m2] 32)).alloc (.cells #[.int .i64 (runV P).1, .int .i64 (runV P).2.1] 35)).cell? ⟨w3.heap.size, 4, none⟩ = some (.int .i64 P.miss) := by rw [(HM8.out).cell]; rfl
  have s5 : ((w7.alloc (.cells #[.slice o2 n1 c2, .int .i64 m2] 32)).alloc (.cells #[.int .i64 (runV P).1, .int .i64 (runV P).2.1] 35)).cell? ⟨w3.heap.size, 5, none⟩ = some (.slice (some ⟨gd, 0, none⟩) P.cd.length (P.cd.length + 9)) := by rw [(HM8.out).cell]; rfl
  have ss0 : w7.cell? ⟨w3.heap.size, 0, none⟩ = some (.slice (some ⟨gg, 0, none⟩) P.gh.length (P.gh.length + 3)) := by rw [(HM7.out).cell]; rfl
  have ss1 : w7.cell? ⟨w3.heap.size, 1, none⟩ = some (.slice (some ⟨gv, 0, none⟩) P.vs.length (P.vs.length + 3)) := by rw [(HM7.out).cell]; rfl
  have ss2 : w7.cell? ⟨w3.heap.size, 2, none⟩ = some (.slice (some ⟨gt, 0, none⟩) P.ts.length (P.ts.length + 5)) := by rw [(HM7.out).cell]; rfl
  have ss3 : w7.cell? ⟨w3.heap.size, 3, none⟩ = some (.slice (some ⟨go, 0, none⟩) P.os.length (P.os.length + 5)) := by rw [(HM7.out).cell]; rfl
  have ss4 : w7.cell? ⟨w3.heap.size, 4, none⟩ = some (.int .i64 P.miss) := by rw [(HM7.out).cell]; rfl
  have ss5 : w7.cell? ⟨w3.heap.size, 5, none⟩ = some (.slice (some ⟨gd, 0, none⟩) P.cd.length (P.cd.length + 9)) := by rw [(HM7.out).cell]; rfl
  have hkp := keptProgram_i w _ w2.heap.size gg gv gt go gd _ P HL8.out HM.out HB8.out HB2.out.size HL.out
  have HKP := hide hkp
  clear hkp
  simp only [PV.val, lentPV] at HKP
  go_wp2_with fail
  go_at_call 15
  refine HKP.out.mono ?_
  rintro en w9 ⟨rfl, ho9⟩
  have hlt3 : gg < w3.heap.size ∧ gv < w3.heap.size ∧ gt < w3.heap.size ∧ go < w3.heap.size ∧ gd < w3.heap.size := ⟨HL3.out.g.lt, HL3.out.v.lt, HL3.out.t.lt, HL3.out.o.lt, HL3.out.c.lt⟩
  have hz5 := HZ5.out
  have hz7 := HZ7.out
  have hx := HX8.out.only ho9 (by omega)
  have hy := HY8.out.only ho9 (by omega)
  have hv := HV8.out.only ho9 (by omega)
  have hw := HW8.out.only ho9 (by omega)
  have hs1 := HS18.out.only ho9 (fun ad e => by have := HG1.out ad e; simp at this; omega)
  have hs2 := HS28.out.only ho9 (fun ad e => by have := HG2.out ad e; simp at this; omega)
  have hb9 : Below w.heap.size w w9 := HB8.out.trans (ho9.below (fun k hk => by have := HL3.out.base; have := HB2.out.size; omega) HB8.out.size)
  have HB9 := hide hb9
  have HSC := hide (sameCosts_i w9 o1 o2 n1 c1 c2 m2 l hs1 hs2 HLN.out HN1.out)
  have x0 : w9.cell? ⟨w5.heap.size, 0, none⟩ = some (.slice o1 n1 c1) := by rw [(hx).cell]; rfl
  have x1 : w9.cell? ⟨w5.heap.size, 1, none⟩ = some (.int .i64 m2) := by rw [(hx).cell]; rfl
  have y0 : w9.cell? ⟨w5.heap.size + 1, 0, none⟩ = some (.int .i64 (runV P).1) := by rw [(hy).cell]; rfl
  have y1 : w9.cell? ⟨w5.heap.size + 1, 1, none⟩ = some (.int .i64 (runV P).2.1) := by rw [(hy).cell]; rfl
  have v0 : w9.cell? ⟨w7.heap.size, 0, none⟩ = some (.slice o2 n1 c2) := by rw [(hv).cell]; rfl
  have v1 : w9.cell? ⟨w7.heap.size, 1, none⟩ = some (.int .i64 m2) := by rw [(hv).cell]; rfl
  have ww0 : w9.cell? ⟨w7.heap.size + 1, 0, none⟩ = some (.int .i64 (runV P).1) := by rw [(hw).cell]; rfl
  have ww1 : w9.cell? ⟨w7.heap.size + 1, 1, none⟩ = some (.int .i64 (runV P).2.1) := by rw [(hw).cell]; rfl
  clear hx hy hv hw hs1 hs2 hb9 ho9 hlt3 hz5 hz7 q0 qq0 s0 ss0 q1 qq1 s1 ss1 q2 qq2 s2 ss2 q3 qq3 s3 ss3 q4 qq4 s4 ss4 q5 qq5 s5 ss5
  generalize (runV P).1 = re at *
  generalize (runV P).2.1 = ra at *
  go_wp2_with fail
  go_at_call 16
  refine HSC.out.mono ?_
  rintro en w10 ⟨rfl, hb10⟩
  have HB10 := hide (HB9.out.trans (hb10.mono HB9.out.size))
  clear hb10 x0 x1 y0 y1 v0 v1 ww0 ww1
  go_wp2_with fail
  go_at_call 10
  refine (HHD _).out.mono ?_
  rintro en w11 ⟨rfl, hb11⟩
  have HB11 := hide (HB10.out.trans (hb11.mono HB10.out.size))
  clear hb11
  go_wp2_with fail
  go_ret
  exact ⟨rfl, HB11.out⟩
end Go.Proofs.Ytjflllfkgbhemaa

/- How a law's arguments read behind the call. Conditions: those of each lemma. -/
namespace Go.Proofs.Ytjflllfkgbhemaa.opened
open Go.ChangeShapes Go.WideShapes Go.ChangeAt Go.RowKit Go.Deep
set_option linter.unusedVariables false

section
variable {H : Type} {enc : TypeId × Value → H} {P : Program} {w : World} {base : Nat} {spare : Nat → Bool} {held : Bool}
theorem open_slice_fields {t e : TypeId} {fs : Array Field} {fuel : Nat} {cs : List Value} {x : DataW H × List MemPlace} (ht : P.underlying t = some (.slice e)) (he : P.underlying e = some (.struct fs))
    (hone : oneCellFields P fs = true) (hC : P.cellsOf e = fs.size) (h : DataW.trod enc P w base spare held fuel t cs = some x) :
    (cs = [.slice none 0 0] ∧ x = (.nil, [])) ∨
    ∃ (a : Addr) (len cap m : Nat) (D : Nat → DataW H) (Pl : Nat → List MemPlace), cs = [.slice (some a) len cap] ∧ base ≤ a.block ∧ len ≤ cap ∧ cap ≤ maxLen ∧ m = (if spare a.block then cap else len) ∧
      x = (.slice ((List.range len).map D) ((List.range (m - len)).map fun j => D (len + j)), MemPlace.row a (m * fs.size) ++ (List.range m).flatMap Pl) ∧
      ∀ i, i < m → ∃ (ys : List (DataW H × List MemPlace)) (n : Nat), D i = .agg (ys.map (·.1)) ∧ Pl i = ys.flatMap (·.2) ∧ ys.length = fs.size ∧
        ∀ (j : Nat) (f : Field), fs[j]? = some f → ∃ (v : Value) (y : DataW H × List MemPlace), w.cell? (a.add (i * fs.size + j)) = some v ∧ ys[j]? = some y ∧ DataW.trod enc P w base spare held n f.type [v] = some y := by
  rcases open_slice ht h with h0 | ⟨a, len, cap, m, n, D, Pl, hcs, hb, hl, hm, hmm, hx, hi⟩
  · exact .inl h0
  · refine .inr ⟨a, len, cap, m, D, Pl, hcs, hb, hl, hm, hmm, by rw [hC] at hx; exact hx, fun i him => ?_⟩
    obtain ⟨cs', hc, ht'⟩ := hi i him
    rw [hC] at hc
    obtain ⟨ys, n', hn', hy, hlen, hyl, hf⟩ := DataW.trod_struct he ht'
    obtain ⟨_, hcl, hat⟩ := World.cells?_some hc
    simp only [Prod.mk.injEq] at hy
    refine ⟨ys, n', hy.1, hy.2, hyl, fun j f hj => ?_⟩
    obtain ⟨ho, hk⟩ := hone_of hone j f hj
    have hjl : j < fs.size := (Array.getElem?_eq_some_iff.1 hj).1
    have hcell := hat j hjl
    have hv : cs'[j]? = some (cs'[j]'(by omega)) := List.getElem?_eq_getElem (by omega)
    have h1 := hf j f hj
    rw [ho, hk] at h1
    have hone' : (cs'.drop j).take 1 = [cs'[j]'(by omega)] := by
      rw [List.drop_eq_getElem_cons (by omega)]
      rfl
    rw [hone'] at h1
    have hys : ys[j]? = some (ys[j]'(by omega)) := List.getElem?_eq_getElem (by omega)
    refine ⟨_, _, ?_, hys, h1.trans hys⟩
    rw [← Go.Deep.add_add, hcell, hv]
end
section
variable {H : Type} {enc : TypeId × Value → H} {P : Program}
theorem post_of_below {f : Func} {s : ChangeSpec} {apart fresh handsOn again : Bool} {W W' : World} {args : Array Value} {v : Value} {ds gs : List (DataW H)} {before pa pv : List MemPlace}
    (hW : DataW.Whole enc P f.params.toList s.vars apart W args.toList ds gs before)
    (hres : ∀ (b : Nat) (sp : Nat → Bool) (hd : Bool), DataW.TrodAll enc P W' b sp hd f.resultTypes.toList (v.resultList f.resultTypes.size) (s.fn H (ds ++ gs)).results [])
    (hargs : ∀ sp : Nat → Bool, (∀ p ∈ before, sp p.block = true) → DataW.TrodAll enc P W' 0 sp true f.params.toList args.toList (s.fn H (ds ++ gs)).args pa)
    (hvars : ∀ sp : Nat → Bool, (∀ p ∈ before, sp p.block = true) → DataW.TrodVars enc P W' sp s.vars (s.fn H (ds ++ gs)).vars pv)
    (hps : before = pa ++ pv) (hb : Below W.heap.size W W')
    (hok : ∀ (j : Nat) (t : TypeId) (r : Value), f.resultTypes[j]? = some t → (v.resultList f.resultTypes.size)[j]? = some r → Value.okWide P W' .any 0 t r) :
    s.post enc P f apart fresh handsOn again W args v W' := by
  have hlt : ∀ p ∈ before, p.block < W.heap.size := fun p hp => hW.lt p hp
  have hold : ∀ p ∈ before, (fun b => decide (b < W.heap.size)) p.block = true := fun p hp => by simpa using hlt p hp
  refine ⟨ds, gs, before, [], pa, pv, hW, hres _ _ _, hargs _ hold, hvars _ hold, World.keptBut_mono (fun p hp => ⟨hp, ?_⟩) (hb.frame (· ∈ before)), fun _ => ?_⟩
  · rw [hps, List.mem_append] at hp
    exact Or.inr hp
  · obtain ⟨_, _, _, _, _, hz, hn⟩ := hW
    refine ⟨hok, _, _, ([] ++ pa) ++ pv, ⟨[] ++ pa, pv, trodAll_append (hargs _ (fun _ _ => rfl)) (hres _ _ _), hvars _ (fun _ _ => rfl), rfl, ?_, ?_⟩, ?_⟩
    · intro b off hp
      have hin : MemPlace.cell b off ∈ before := by rw [hps]; simpa using hp
      rw [hb.frozen (hlt _ hin)]
      exact hz b off hin
    · intro ha
      have := hn ha
      rw [hps] at this
      simpa using this
    · intro p hp _
      rw [hps]
      simpa using hp
end

theorem add_more (a : Addr) (m j : Nat) (h : j ≠ 0) : a.add (m + j) = ⟨(a.add m).block, (a.add m).off + j, none⟩ := by
  unfold Addr.add
  rw [if_neg (by omega)]
  split
  · next e => subst e; simp
  · simp; omega
theorem lt_of_cell {w : World} {a : Addr} {v : Value} (h : w.cell? a = some v) : a.block < w.heap.size := by
  rcases Nat.lt_or_ge a.block w.heap.size with h1 | h1
  · exact h1
  · simp [World.cell?, Array.getElem?_eq_none h1] at h

theorem laid : laidOutB Try.prog = true := by kernel_rfl

/-- what a call was handed reads behind it as it did -/
theorem stays_all {H : Type} {enc : TypeId × Value → H} {W W' : World} {sp : Nat → Bool} (hb : Below W.heap.size W W') :
    ∀ {ts : List TypeId} {vs : List Value} {ds : List (DataW H)} {ps : List MemPlace}, (∀ t ∈ ts, Try.prog.readableRec t = true ∧ t < Try.prog.types.size) →
      DataW.TrodAll enc Try.prog W 0 (fun _ => true) true ts vs ds ps → (∀ x ∈ ps, x.block < W.heap.size) → (∀ p ∈ ps, sp p.block = true) → DataW.TrodAll enc Try.prog W' 0 sp true ts vs ds ps
  | [], [], [], _, _, h, _, _ => h
  | [], _ :: _, _, _, _, h, _, _ => h.elim
  | [], [], _ :: _, _, _, h, _, _ => h.elim
  | t :: ts, vs, ds, ps, hr, h, hlt, hs => by
    obtain ⟨v, vs', d, ds', p, q, rfl, rfl, rfl, h0, h1⟩ := trodAll_cons h
    have hr0 := hr t (List.mem_cons_self ..)
    exact trodAll_cons_mk (WideElems.Trod_stays laid hr0.1 hr0.2 h0 (fun x hx => hb.same (hlt x (List.mem_append_left _ hx))) (fun x hx => hs x (List.mem_append_left _ hx)))
      (stays_all hb (fun t ht => hr t (List.mem_cons_of_mem _ ht)) h1 (fun x hx => hlt x (List.mem_append_right _ hx)) (fun x hx => hs x (List.mem_append_right _ hx)))

end Go.Proofs.Ytjflllfkgbhemaa.opened

/- A program that was handed in, as lists. Conditions: none. -/
namespace Go.Proofs.Ytjflllfkgbhemaa.opened
open Go.ChangeShapes Go.WideShapes Go.ChangeAt Go.RowKit Go.Deep
set_option linter.unusedVariables false
section
variable {H : Type} {enc : TypeId × Value → H} {w : World} {base : Nat} {held : Bool}
theorem src_slice1 {α : Type} [Inhabited α] {t e : TypeId} {fuel : Nat} {c : Value} {x : DataW H × List MemPlace} (ht : Try.prog.underlying t = some (.slice e)) (hc : Try.prog.cellsOf e = 1)
    (h : DataW.trod enc Try.prog w base (fun _ => true) held fuel t [c] = some x) (f : α → Value) (kind : ∀ (V : Value) (n : Nat) (y : DataW H × List MemPlace), DataW.trod enc Try.prog w base (fun _ => true) held n e [V] = some y → ∃ u, V = f u) :
    ∃ oa cap, ∃ l : List α, c = .slice oa l.length cap ∧ Src w oa l.length (l.map f) ∧ l.length ≤ cap ∧ cap ≤ maxLen := by
  rcases open_slice1 ht hc h with ⟨h0, _⟩ | ⟨a, len, cap, m, n, V, D, Pl, h0, hb, hl, hm, hmm, _, hx⟩
  · injection h0 with h0
    exact ⟨none, 0, [], h0, fun h => absurd h (by simp), Nat.le_refl _, Nat.zero_le _⟩
  · injection h0 with h0
    simp only [if_true] at hmm
    obtain ⟨U, hU⟩ := choose_lt (α := α) (p := fun i u => V i = f u) (n := len) (fun i hi => kind _ _ _ (hx i (by omega)).2)
    refine ⟨some a, cap, (List.range len).map U, by rw [h0]; simp, fun hp => ?_, by simpa using hl, hm⟩
    have hp : 0 < len := by simpa using hp
    refine ⟨a, rfl, ?_, fun j v hj => ?_⟩
    · have := lt_of_cell (hx 0 (by omega)).1
      rwa [add_block] at this
    · have hjl : j < len := by have := (List.getElem?_eq_some_iff.1 hj).1; simpa using this
      rw [(hx j (by omega)).1, hU j hjl]
      simpa [hjl] using hj
theorem src_bools {fuel : Nat} {c : Value} {x : DataW H × List MemPlace} (h : DataW.trod enc Try.prog w base (fun _ => true) held fuel 23 [c] = some x) :
    ∃ oa cap, ∃ l : List Bool, c = .slice oa l.length cap ∧ Src w oa l.length (boolsV l) ∧ l.length ≤ cap ∧ cap ≤ maxLen :=
  src_slice1 Try.underlying23 (by kernel_rfl) h Value.bool fun V n y hy => by
    obtain ⟨b, hb, _⟩ := DataW.trod_bool Try.underlying4 hy
    exact ⟨b, by simpa using hb⟩
theorem src_ints {fuel : Nat} {c : Value} {x : DataW H × List MemPlace} (h : DataW.trod enc Try.prog w base (fun _ => true) held fuel 25 [c] = some x) :
    ∃ oa cap, ∃ l : List Int, c = .slice oa l.length cap ∧ Src w oa l.length (ints l) ∧ l.length ≤ cap ∧ cap ≤ maxLen :=
  src_slice1 Try.underlying25 (by kernel_rfl) h (fun x => .int .i64 x) fun V n y hy => by
    obtain ⟨b, hb, _⟩ := DataW.trod_int Try.underlying3 hy
    exact ⟨b, by simpa using hb⟩
theorem src_vars {fuel : Nat} {c : Value} {x : DataW H × List MemPlace} (h : DataW.trod enc Try.prog w base (fun _ => true) held fuel 24 [c] = some x) :
    ∃ oa cap, ∃ l : List Vr, c = .slice oa l.length cap ∧ Src w oa l.length (varsV l) ∧ l.length ≤ cap ∧ cap ≤ maxLen := by
  rcases open_slice_fields Try.underlying24 Try.underlying49 (by kernel_rfl) (by kernel_rfl) h with ⟨h0, _⟩ | ⟨a, len, cap, m, D, Pl, h0, hb, hl, hm, hmm, _, hx⟩
  · injection h0 with h0
    exact ⟨none, 0, [], h0, fun h => absurd h (by simp), Nat.le_refl _, Nat.zero_le _⟩
  · injection h0 with h0
    simp only [if_true] at hmm
    have : Inhabited Vr := ⟨⟨0, 0, 0⟩⟩
    obtain ⟨U, hU⟩ := choose_lt (α := Vr) (p := fun i u => w.cell? (a.add (i * 3)) = some (.int .i64 u.init) ∧ w.cell? (a.add (i * 3 + 1)) = some (.int .i64 u.lo) ∧ w.cell? (a.add (i * 3 + 2)) = some (.int .i64 u.hi)) (n := len) (fun i hi => by
      obtain ⟨ys, k, _, _, _, hf⟩ := hx i (by omega)
      obtain ⟨v0, y0, c0, _, t0⟩ := hf 0 _ rfl
      obtain ⟨v1, y1, c1, _, t1⟩ := hf 1 _ rfl
      obtain ⟨v2, y2, c2, _, t2⟩ := hf 2 _ rfl
      obtain ⟨n0, e0, _⟩ := DataW.trod_int Try.underlying3 t0
      obtain ⟨n1, e1, _⟩ := DataW.trod_int Try.underlying3 t1
      obtain ⟨n2, e2, _⟩ := DataW.trod_int Try.underlying3 t2
      injection e0 with e0
      injection e1 with e1
      injection e2 with e2
      subst e0 e1 e2
      exact ⟨⟨n0, n1, n2⟩, c0, c1, c2⟩)
    refine ⟨some a, cap, (List.range len).map U, by rw [h0]; simp, fun hp => ?_, by simpa using hl, hm⟩
    have hp : 0 < len := by simpa using hp
    refine ⟨a, rfl, ?_, fun j v hj => ?_⟩
    · have := lt_of_cell (hU 0 hp).1
      rwa [add_block] at this
    · have hjl : j < len * 3 := by have := (List.getElem?_eq_some_iff.1 hj).1; rw [varsV_len] at this; simpa using this
      have hy : ((List.range len).map U)[j / 3]? = some (U (j / 3)) := by rw [List.getElem?_map, List.getElem?_range (by omega)]; rfl
      obtain ⟨c0, c1, c2⟩ := varsV_get hy
      obtain ⟨d0, d1, d2⟩ := hU (j / 3) (by omega)
      obtain h3 | h3 | h3 : j = j / 3 * 3 ∨ j = j / 3 * 3 + 1 ∨ j = j / 3 * 3 + 2 := by omega
      · rw [h3] at hj ⊢; rw [c0] at hj; rw [d0]; exact hj
      · rw [h3] at hj ⊢; rw [c1] at hj; rw [d1]; exact hj
      · rw [h3] at hj ⊢; rw [c2] at hj; rw [d2]; exact hj
theorem src_code {fuel : Nat} {c : Value} {x : DataW H × List MemPlace} (h : DataW.trod enc Try.prog w base (fun _ => true) held fuel 26 [c] = some x) :
    ∃ oa cap, ∃ l : List Ins, c = .slice oa l.length cap ∧ Src w oa l.length (codeV l) ∧ l.length ≤ cap ∧ cap ≤ maxLen := by
  rcases open_slice_fields Try.underlying26 Try.underlying46 (by kernel_rfl) (by kernel_rfl) h with ⟨h0, _⟩ | ⟨a, len, cap, m, D, Pl, h0, hb, hl, hm, hmm, _, hx⟩
  · injection h0 with h0
    exact ⟨none, 0, [], h0, fun h => absurd h (by simp), Nat.le_refl _, Nat.zero_le _⟩
  · injection h0 with h0
    simp only [if_true] at hmm
    have : Inhabited Ins := ⟨⟨0, 0, 0, 0, 0⟩⟩
    obtain ⟨U, hU⟩ := choose_lt (α := Ins) (p := fun i u => w.cell? (a.add (i * 5)) = some (.int .i64 u.op) ∧ w.cell? (a.add (i * 5 + 1)) = some (.int .i64 u.a) ∧ w.cell? (a.add (i * 5 + 2)) = some (.int .i64 u.b) ∧ w.cell? (a.add (i * 5 + 3)) = some (.int .i64 u.c) ∧ w.cell? (a.add (i * 5 + 4)) = some (.int .i64 u.d)) (n := len) (fun i hi => by
      obtain ⟨ys, k, _, _, _, hf⟩ := hx i (by omega)
      obtain ⟨v0, y0, c0, _, t0⟩ := hf 0 _ rfl
      obtain ⟨v1, y1, c1, _, t1⟩ := hf 1 _ rfl
      obtain ⟨v2, y2, c2, _, t2⟩ := hf 2 _ rfl
      obtain ⟨v3, y3, c3, _, t3⟩ := hf 3 _ rfl
      obtain ⟨v4, y4, c4, _, t4⟩ := hf 4 _ rfl
      obtain ⟨n0, e0, _⟩ := DataW.trod_int Try.underlying3 t0
      obtain ⟨n1, e1, _⟩ := DataW.trod_int Try.underlying3 t1
      obtain ⟨n2, e2, _⟩ := DataW.trod_int Try.underlying3 t2
      obtain ⟨n3, e3, _⟩ := DataW.trod_int Try.underlying3 t3
      obtain ⟨n4, e4, _⟩ := DataW.trod_int Try.underlying3 t4
      injection e0 with e0
      injection e1 with e1
      injection e2 with e2
      injection e3 with e3
      injection e4 with e4
      subst e0 e1 e2 e3 e4
      exact ⟨⟨n0, n1, n2, n3, n4⟩, c0, c1, c2, c3, c4⟩)
    refine ⟨some a, cap, (List.range len).map U, by rw [h0]; simp, fun hp => ?_, by simpa using hl, hm⟩
    have hp : 0 < len := by simpa using hp
    refine ⟨a, rfl, ?_, fun j v hj => ?_⟩
    · have := lt_of_cell (hU 0 hp).1
      rwa [add_block] at this
    · have hjl : j < len * 5 := by have := (List.getElem?_eq_some_iff.1 hj).1; rw [codeV_len] at this; simpa using this
      have hy : ((List.range len).map U)[j / 5]? = some (U (j / 5)) := by rw [List.getElem?_map, List.getElem?_range (by omega)]; rfl
      obtain ⟨c0, c1, c2, c3, c4⟩ := codeV_get hy
      obtain ⟨d0, d1, d2, d3, d4⟩ := hU (j / 5) (by omega)
      obtain h3 | h3 | h3 | h3 | h3 : j = j / 5 * 5 ∨ j = j / 5 * 5 + 1 ∨ j = j / 5 * 5 + 2 ∨ j = j / 5 * 5 + 3 ∨ j = j / 5 * 5 + 4 := by omega
      · rw [h3] at hj ⊢; rw [c0] at hj; rw [d0]; exact hj
      · rw [h3] at hj ⊢; rw [c1] at hj; rw [d1]; exact hj
      · rw [h3] at hj ⊢; rw [c2] at hj; rw [d2]; exact hj
      · rw [h3] at hj ⊢; rw [c3] at hj; rw [d3]; exact hj
      · rw [h3] at hj ⊢; rw [c4] at hj; rw [d4]; exact hj
end
set_option maxRecDepth 100000 in
theorem open_prog {H : Type} {enc : TypeId × Value → H} {W : World} {r : Reach} {b0 : Nat} {v : Value} {d : DataW H} {p : List MemPlace} (hv : Value.okWide Try.prog W r b0 28 v)
    (h : DataW.Trod enc Try.prog W 0 (fun _ => true) true 28 v d p) : ∃ q P, v = PV.val q ∧ AMem W q P := by
  obtain ⟨fuel, hf⟩ := h
  obtain ⟨cs, rfl, hsz⟩ := okWide_struct Try.underlying28 hv
  obtain ⟨ys, n, _, _, hl, hyl, hfs⟩ := DataW.trod_struct Try.underlying28 hf
  have h28 : Try.prog.cellsOf 28 = 6 := by kernel_rfl
  obtain ⟨c0, c1, c2, c3, c4, c5, rfl⟩ : ∃ c0 c1 c2 c3 c4 c5, cs = #[c0, c1, c2, c3, c4, c5] := by
    rcases cs with ⟨l⟩
    have hl6 : l.length = 6 := by rw [← h28, ← hsz]; rfl
    match l, hl6 with
    | [c0, c1, c2, c3, c4, c5], _ => exact ⟨c0, c1, c2, c3, c4, c5, rfl⟩
  have get : ∀ (i : Nat), i < 6 → ∃ y, ys[i]? = some y := fun i hi => ⟨_, List.getElem?_eq_getElem (by rw [hyl]; exact hi)⟩
  obtain ⟨y0, hy0⟩ := get 0 (by decide)
  obtain ⟨y1, hy1⟩ := get 1 (by decide)
  obtain ⟨y2, hy2⟩ := get 2 (by decide)
  obtain ⟨y3, hy3⟩ := get 3 (by decide)
  obtain ⟨y4, hy4⟩ := get 4 (by decide)
  obtain ⟨y5, hy5⟩ := get 5 (by decide)
  have f0 : DataW.trod enc Try.prog W 0 (fun _ => true) true n 23 [c0] = some y0 := (hfs 0 _ rfl).trans hy0
  have f1 : DataW.trod enc Try.prog W 0 (fun _ => true) true n 24 [c1] = some y1 := (hfs 1 _ rfl).trans hy1
  have f2 : DataW.trod enc Try.prog W 0 (fun _ => true) true n 25 [c2] = some y2 := (hfs 2 _ rfl).trans hy2
  have f3 : DataW.trod enc Try.prog W 0 (fun _ => true) true n 25 [c3] = some y3 := (hfs 3 _ rfl).trans hy3
  have f4 : DataW.trod enc Try.prog W 0 (fun _ => true) true n 3 [c4] = some y4 := (hfs 4 _ rfl).trans hy4
  have f5 : DataW.trod enc Try.prog W 0 (fun _ => true) true n 26 [c5] = some y5 := (hfs 5 _ rfl).trans hy5
  obtain ⟨ga, gc, gl, rfl, sg, g1, g2⟩ := src_bools f0
  obtain ⟨va, vc, vl, rfl, sv, v1, v2⟩ := src_vars f1
  obtain ⟨ta, tc, tl, rfl, st, t1, t2⟩ := src_ints f2
  obtain ⟨oa, oc, ol, rfl, so, o1, o2⟩ := src_ints f3
  obtain ⟨mi, em, _⟩ := DataW.trod_int Try.underlying3 f4
  injection em with em
  subst em
  obtain ⟨ca, cc, cl, rfl, sc, d1, d2⟩ := src_code f5
  exact ⟨⟨ga, va, ta, oa, ca, gl.length, gc, vl.length, vc, tl.length, tc, ol.length, oc, cl.length, cc, mi⟩, ⟨gl, vl, tl, ol, mi, cl⟩, rfl, ⟨rfl, rfl, rfl, rfl, rfl, rfl, sg, sv, st, so, sc, ⟨Nat.le_trans g1 g2, Nat.le_trans v1 v2, Nat.le_trans t1 t2, Nat.le_trans o1 o2, Nat.le_trans d1 d2⟩⟩⟩
set_option maxRecDepth 100000 in
theorem open_ints25 {H : Type} {enc : TypeId × Value → H} {W : World} {r : Reach} {b0 : Nat} {v : Value} {d : DataW H} {p : List MemPlace} (hv : Value.okWide Try.prog W r b0 25 v)
    (h : DataW.Trod enc Try.prog W 0 (fun _ => true) true 25 v d p) : ∃ oa cap, ∃ l : List Int, v = .slice oa l.length cap ∧ Src W oa l.length (ints l) ∧ l.length ≤ maxLen := by
  obtain ⟨fuel, hf⟩ := h
  obtain ⟨oa, len, cap, rfl⟩ := okWide_slice Try.underlying25 hv
  obtain ⟨oa', cap', l, e, hs, h1, h2⟩ := src_ints (c := .slice oa len cap) hf
  exact ⟨oa', cap', l, e, hs, Nat.le_trans h1 h2⟩
end Go.Proofs.Ytjflllfkgbhemaa.opened
