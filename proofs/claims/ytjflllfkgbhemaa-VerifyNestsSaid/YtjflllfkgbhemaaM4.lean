/- Several texts in one: The walks of Sum and Times. A plain law: what the verifier's looks tell of loops in one another. A plain law: the looks at loops in one another. A plain law: all looks at loops in one another are good. A plain law: the fuel of loops in one another. The walk of VerifyNests. Conditions: those of each. -/
import Derived.Test.YtjflllfkgbhemaaVs
import Derived.Test.YtjflllfkgbhemaaM1
import Derived.Test.YtjflllfkgbhemaaM2
import Derived.Test.YtjflllfkgbhemaaVw
import Derived.Deep.RegionLaw
/- The walks of Sum and Times. Conditions: the numbers' bounds. -/
namespace Go.Proofs.Ytjflllfkgbhemaa
open Go.RowKit
set_option maxRecDepth 100000 in
theorem sum_i (w : World) (a b : Int) (ha : 0 ≤ a) (ha2 : a ≤ 4611686018427387904) (hb : 0 ≤ b) (hb2 : b ≤ 4611686018427387904) : Calls Try.prog 22 #[.int .i64 a, .int .i64 b] w fun en w' => en = .returned (.int .i64 (plusV a b)) ∧ w' = w := by
  unfold plusV
  have u1 := IntWalk.i64_in (4611686018427387904 - b) (by omega)
  go_enter Try.func22, Try.ntmps22
  by_cases hc : 4611686018427387904 - b < a
  · rw [if_pos hc]
    go_wp2_with fail
    go_ret
    exact ⟨rfl, rfl⟩
  · rw [if_neg hc]
    have u2 := IntWalk.i64_in (a + b) (by omega)
    go_wp2_with fail
    go_ret
    exact ⟨rfl, rfl⟩
theorem times_quo (a b : Nat) (ha : 0 < a) : (((4611686018427387904 : Nat) / a : Nat) : Int) < (b : Int) ↔ ¬ a * b ≤ 4611686018427387904 := by
  rw [Int.ofNat_lt, Nat.not_le, Nat.div_lt_iff_lt_mul ha, Nat.mul_comm]
set_option maxRecDepth 100000 in
theorem times_j (w : World) (a b : Int) (ha : 0 ≤ a) (ha2 : a ≤ 4611686018427387904) (hb : 0 ≤ b) (hb2 : b ≤ 4611686018427387904) : Calls Try.prog 23 #[.int .i64 a, .int .i64 b] w fun en w' => en = .returned (.int .i64 (timesI a b)) ∧ w' = w := by
  obtain ⟨x, rfl⟩ := Int.eq_ofNat_of_zero_le ha
  obtain ⟨y, rfl⟩ := Int.eq_ofNat_of_zero_le hb
  unfold timesI timesV
  simp only [Int.toNat_natCast]
  by_cases h0 : x = 0
  · subst h0
    rw [if_pos (by simp)]
    go_enter Try.func23, Try.ntmps23
    go_wp2_with fail
    go_ret
    exact ⟨by simp, rfl⟩
  · have hq := times_quo x y (by omega)
    have hx0 : (0 : Int) < (x : Int) := by omega
    have hx1 : (x : Int) ≠ 0 := by omega
    have hd : (4611686018427387904 : Int).tdiv (x : Int) = ((4611686018427387904 / x : Nat) : Int) := rfl
    have hdl : 4611686018427387904 / x ≤ 4611686018427387904 := Nat.div_le_self _ _
    generalize 4611686018427387904 / x = q at *
    have u1 := IntWalk.i64_in (q : Int) (by omega)
    by_cases hc : x * y ≤ 4611686018427387904
    · rw [if_pos hc]
      have hn : ¬ (q : Int) < (y : Int) := fun h => (hq.1 h) hc
      have u2 := IntWalk.i64_in ((x : Int) * (y : Int)) (by have : ((x * y : Nat) : Int) ≤ 4611686018427387904 := by omega
                                                            rw [Int.natCast_mul] at this
                                                            have h2 : (0 : Int) ≤ (x : Int) * (y : Int) := Int.mul_nonneg ha hb
                                                            omega)
      clear hq hc
      go_enter Try.func23, Try.ntmps23
      go_wp2_with fail
      go_ret
      exact ⟨by simp, rfl⟩
    · rw [if_neg hc]
      have hn : (q : Int) < (y : Int) := hq.2 hc
      clear hq hc
      go_enter Try.func23, Try.ntmps23
      go_wp2_with fail
      go_ret
      exact ⟨rfl, rfl⟩
end Go.Proofs.Ytjflllfkgbhemaa

/- A plain law: what the verifier's looks tell of loops in one another. Conditions: the rounds' bounds. -/
namespace Go.Proofs.Ytjflllfkgbhemaa
open Go.RowKit Go.PlainAid
def rAt (r : List Int) (i : Nat) : Int := (r[i]?).getD 0
/-- the instruction at place k: n loops in one another around s of one kind -/
def nestI (r : List Int) (s k : Nat) : Ins :=
  if k < 2 * r.length then (if k % 2 = 0 then ⟨24, rAt r (k / 2), 0, 0, 0⟩ else ⟨25, ((3 * r.length + s - k / 2 : Nat) : Int), 0, 0, 0⟩)
  else if k < 2 * r.length + s then ⟨33, 0, 0, 0, 0⟩
  else if k < 3 * r.length + s then ⟨27, ((2 * (3 * r.length + s - 1 - k) + 1 : Nat) : Int), 0, 0, 0⟩
  else if k = 3 * r.length + s then ⟨31, 0, 0, 0, 0⟩ else ⟨0, 0, 0, 0, 0⟩
def nestP (r : List Int) (s : Nat) : Prg := ⟨[false], [], [], [-1], 0, (List.range (3 * r.length + s + 2)).map (nestI r s)⟩
theorem nest_len (r : List Int) (s : Nat) : (nestP r s).cd.length = 3 * r.length + s + 2 := by simp [nestP]
theorem nest_get {r : List Int} {s k : Nat} (h : k < 3 * r.length + s + 2) : (nestP r s).cd[k]? = some (nestI r s k) := by
  simp only [nestP]
  rw [List.getElem?_map, List.getElem?_range h]
  rfl
theorem nest_at {r : List Int} {s k : Nat} (h : k < 3 * r.length + s + 2) : insAt (nestP r s) (k : Int) = nestI r s k := ins_of (nest_get h)
theorem nest_loop {r : List Int} {s i : Nat} (h : i < r.length) : nestI r s (2 * i) = ⟨24, rAt r i, 0, 0, 0⟩ := by
  unfold nestI
  rw [if_pos (by omega), if_pos (by omega), show 2 * i / 2 = i by omega]
theorem nest_turn {r : List Int} {s i : Nat} (h : i < r.length) : nestI r s (2 * i + 1) = ⟨25, ((3 * r.length + s - i : Nat) : Int), 0, 0, 0⟩ := by
  unfold nestI
  rw [if_pos (by omega), if_neg (by omega), show (2 * i + 1) / 2 = i by omega]
theorem nest_row {r : List Int} {s k : Nat} (h : 2 * r.length ≤ k) (h2 : k < 2 * r.length + s) : nestI r s k = ⟨33, 0, 0, 0, 0⟩ := by
  unfold nestI
  rw [if_neg (by omega), if_pos h2]
theorem nest_again {r : List Int} {s k : Nat} (h : 2 * r.length + s ≤ k) (h2 : k < 3 * r.length + s) : nestI r s k = ⟨27, ((2 * (3 * r.length + s - 1 - k) + 1 : Nat) : Int), 0, 0, 0⟩ := by
  unfold nestI
  rw [if_neg (by omega), if_neg (by omega), if_pos h2]
theorem nest_ins {r : List Int} {s : Nat} : nestI r s (3 * r.length + s) = ⟨31, 0, 0, 0, 0⟩ := by
  unfold nestI
  rw [if_neg (by omega), if_neg (by omega), if_neg (by omega), if_pos rfl]
theorem nest_end {r : List Int} {s : Nat} : nestI r s (3 * r.length + s + 1) = ⟨0, 0, 0, 0, 0⟩ := by
  unfold nestI
  rw [if_neg (by omega), if_neg (by omega), if_neg (by omega), if_neg (by omega)]
theorem nest_cases (n s k : Nat) (h : k < 3 * n + s + 2) : (∃ i < n, k = 2 * i) ∨ (∃ i < n, k = 2 * i + 1) ∨ (2 * n ≤ k ∧ k < 2 * n + s) ∨ (2 * n + s ≤ k ∧ k < 3 * n + s) ∨ k = 3 * n + s ∨ k = 3 * n + s + 1 := by
  by_cases h1 : k < 2 * n
  · by_cases h2 : k % 2 = 0
    · exact .inl ⟨k / 2, by omega, by omega⟩
    · exact .inr (.inl ⟨k / 2, by omega, by omega⟩)
  · omega
theorem nest_check {r : List Int} {s : Nat} (hr : ∀ i < r.length, 0 ≤ rAt r i ∧ rAt r i ≤ 4194304) (hn : r.length ≤ 40) (hs : s ≤ 40) : checkV (nestP r s) = 0 := by
  have hl := nest_len r s
  have ht : tablesV (nestP r s) = true := by
    simp [tablesV, hl]
    simp [nestP, fromV]
    omega
  unfold checkV
  rw [if_pos ht]
  refine insEs_all fun x hx => ?_
  obtain ⟨k, hk, rfl⟩ : ∃ k < 3 * r.length + s + 2, nestI r s k = x := by simpa [nestP] using hx
  rcases nest_cases r.length s k hk with ⟨i, hi, rfl⟩ | ⟨i, hi, rfl⟩ | ⟨h1, h2⟩ | ⟨h1, h2⟩ | rfl | rfl
  · rw [nest_loop hi]
    have := hr i hi
    refine insE_ok (r := (⟨#[108, 111, 111, 112]⟩, ⟨#[114]⟩)) (by simp) rfl fun k hk => ?_
    match k, hk with
    | 0, _ => simp [opOk, opB, Ins.arg, boundsV, fromV]; omega
    | 1, _ => simp [opOk, opB, Ins.arg, fromV]
    | 2, _ => simp [opOk, opB, Ins.arg, fromV]
    | 3, _ => simp [opOk, opB, Ins.arg, fromV]
  · rw [nest_turn hi]
    refine insE_ok (r := (⟨#[116, 117, 114, 110]⟩, ⟨#[112]⟩)) (by simp) rfl fun k hk => ?_
    match k, hk with
    | 0, _ => simp [opOk, opB, Ins.arg, boundsV, fromV, hl]; omega
    | 1, _ => simp [opOk, opB, Ins.arg, fromV]
    | 2, _ => simp [opOk, opB, Ins.arg, fromV]
    | 3, _ => simp [opOk, opB, Ins.arg, fromV]
  · rw [nest_row h1 h2]
    refine insE_ok (r := (⟨#[102, 111, 114, 103, 101, 116]⟩, ⟨#[]⟩)) (by simp) rfl fun k hk => ?_
    match k, hk with
    | 0, _ => simp [opOk, opB, Ins.arg, fromV]
    | 1, _ => simp [opOk, opB, Ins.arg, fromV]
    | 2, _ => simp [opOk, opB, Ins.arg, fromV]
    | 3, _ => simp [opOk, opB, Ins.arg, fromV]
  · rw [nest_again h1 h2]
    refine insE_ok (r := (⟨#[97, 103, 97, 105, 110]⟩, ⟨#[112]⟩)) (by simp) rfl fun k hk => ?_
    match k, hk with
    | 0, _ => simp [opOk, opB, Ins.arg, boundsV, fromV, hl]; omega
    | 1, _ => simp [opOk, opB, Ins.arg, fromV]
    | 2, _ => simp [opOk, opB, Ins.arg, fromV]
    | 3, _ => simp [opOk, opB, Ins.arg, fromV]
  · rw [nest_ins]
    refine insE_ok (r := (⟨#[105, 110, 115, 101, 114, 116]⟩, ⟨#[113, 101]⟩)) (by simp) rfl fun k hk => ?_
    match k, hk with
    | 0, _ => simp [opOk, opB, Ins.arg, boundsV, fromV, nestP]
    | 1, _ => simp [opOk, opB, Ins.arg, boundsV, fromV]
    | 2, _ => simp [opOk, opB, Ins.arg, fromV]
    | 3, _ => simp [opOk, opB, Ins.arg, fromV]
  · rw [nest_end]
    refine insE_ok (r := (⟨#[101, 110, 100]⟩, ⟨#[]⟩)) (by simp) rfl fun k hk => ?_
    match k, hk with
    | 0, _ => simp [opOk, opB, Ins.arg, fromV]
    | 1, _ => simp [opOk, opB, Ins.arg, fromV]
    | 2, _ => simp [opOk, opB, Ins.arg, fromV]
    | 3, _ => simp [opOk, opB, Ins.arg, fromV]
end Go.Proofs.Ytjflllfkgbhemaa

/- A plain law: the looks at loops in one another. Conditions: the rounds' bounds. -/
namespace Go.Proofs.Ytjflllfkgbhemaa
open Go.RowKit Go.PlainAid
/-- the turns of the first i loops -/
def nestL (i : Nat) : List Int := (List.range i).map fun j => ((2 * j + 1 : Nat) : Int)
def nestS (i : Nat) : St := ⟨true, ⟨#[]⟩, nestL i, 0⟩
def lvl (n s k : Nat) : Nat := if k < 2 * n then k / 2 else if k ≤ 2 * n + s then n else 3 * n + s - k
def thr (n s k j : Nat) : Prop := j ≤ k ∨ (3 * n + s < j + min n (k / 2) ∧ j ≤ 3 * n + s)
instance (n s k j : Nat) : Decidable (thr n s k j) := by unfold thr; infer_instance
def atsN (n s k : Nat) : List St := (List.range (3 * n + s + 2)).map fun j => if thr n s k j then nestS (lvl n s j) else st0
theorem nestL_succ (i : Nat) : nestL (i + 1) = nestL i ++ [((2 * i + 1 : Nat) : Int)] := by simp [nestL, List.range_succ]
theorem nestL_inner (i : Nat) : innerV (nestL (i + 1)) = ((2 * i + 1 : Nat) : Int) := by rw [nestL_succ]; simp [innerV]
theorem nestL_drop (i : Nat) : (nestL (i + 1)).dropLast = nestL i := by rw [nestL_succ]; simp
theorem atsN_get {n s k j : Nat} (h : j < 3 * n + s + 2) : (atsN n s k)[j]? = some (if thr n s k j then nestS (lvl n s j) else st0) := by
  unfold atsN
  rw [List.getElem?_map, List.getElem?_range h]
  rfl
theorem atsN_at {n s k j : Nat} (h : j < 3 * n + s + 2) : atSt (atsN n s k) (j : Int) = if thr n s k j then nestS (lvl n s j) else st0 := by
  unfold atSt
  simp only [Int.toNat_natCast]
  rw [atsN_get h]
  rfl
theorem atsN_len (n s k : Nat) : (atsN n s k).length = 3 * n + s + 2 := by simp [atsN]
/-- one place more gets its standing -/
theorem atsN_put {n s k k' j0 : Nat} (h0 : j0 < 3 * n + s + 2) (h : ∀ j, j < 3 * n + s + 2 → (thr n s k' j ↔ (thr n s k j ∨ j = j0))) : (atsN n s k).set j0 (nestS (lvl n s j0)) = atsN n s k' := by
  apply List.ext_getElem?
  intro j
  rw [List.getElem?_set, atsN_len]
  by_cases hj : j < 3 * n + s + 2
  · rw [atsN_get hj, atsN_get hj]
    by_cases h1 : j0 = j
    · subst h1
      rw [if_pos rfl, if_pos h0, if_pos ((h j0 h0).2 (.inr rfl))]
    · rw [if_neg h1]
      by_cases h2 : thr n s k j
      · rw [if_pos h2, if_pos ((h j hj).2 (.inl h2))]
      · rw [if_neg h2, if_neg (fun h3 => by rcases (h j hj).1 h3 with h4 | h4; exact h2 h4; exact h1 h4.symm)]
  · rw [if_neg (by omega), List.getElem?_eq_none (by rw [atsN_len]; omega), List.getElem?_eq_none (by rw [atsN_len]; omega)]
theorem atsN_same {n s k k' : Nat} (h : ∀ j, j < 3 * n + s + 2 → (thr n s k' j ↔ thr n s k j)) : atsN n s k' = atsN n s k := by
  apply List.ext_getElem?
  intro j
  by_cases hj : j < 3 * n + s + 2
  · rw [atsN_get hj, atsN_get hj]
    by_cases h2 : thr n s k j
    · rw [if_pos h2, if_pos ((h j hj).2 h2)]
    · rw [if_neg h2, if_neg (fun h3 => h2 ((h j hj).1 h3))]
  · rw [List.getElem?_eq_none (by rw [atsN_len]; omega), List.getElem?_eq_none (by rw [atsN_len]; omega)]
theorem take_none {op : Int} {s : St} (h0 : s.ty = ⟨#[]⟩) (h1 : takesL op = []) (h2 : givesV op = 0) : takenV op s = (s, 0) := by
  obtain ⟨th, ty, ls, hd⟩ := s
  simp only at h0
  subst h0
  have hz : (⟨#[]⟩ : ByteArray).size = 0 := rfl
  unfold takenV
  rw [h1, h2, hz]
  simp only [List.length_nil, Nat.lt_irrefl, if_false, Nat.sub_self, and_false, ne_eq, not_true_eq_false, false_and, or_self, List.range_zero, List.all_nil, if_true, pushV, h2]
  congr 1
theorem beh_none {P : Prg} {x : Ins} {s : St} (h0 : s.ty = ⟨#[]⟩) (h1 : takesL x.op = []) (h2 : givesV x.op = 0) (hh : holdV P x.op x.a s.hand = s.hand) : stBeh P x s = s := by
  unfold stBeh
  rw [take_none h0 h1 h2, hh]
theorem look_two {P : Prg} {n : Nat} {x : Ins} {s : St} {ats : List St} {a1 a2 : Int} {s1 s2 : St} (hs : s.there = true) (hh : handsV P x.op x.a s.hand = true) (ht : (takenV x.op s).2 = 0) (hk : kindsV P x.op x.a x.c = true)
    (hj : jumpsV P n x (takenV x.op s).1 ats = true) (hw : waysV n x (stBeh P x s) = [(a1, s1), (a2, s2)]) (hn1 : a1 < P.cd.length) (hn2 : a2 < P.cd.length) (hne : a1 ≠ a2) (h1 : (atSt ats a1).there = false) (h2 : (atSt ats a2).there = false) :
    lookV P n x s ats = (0, putSt (putSt ats (a1, s1)) (a2, s2)) := by
  have hc : clash [(a1, s1), (a2, s2)] ats = false := by
    unfold clash
    simp only [h1, h2, Bool.false_and, Bool.or_false, Bool.false_or]
    rw [show (a1 == a2) = false by simpa using hne]
    rfl
  unfold lookV
  rw [hw, hc, if_neg (by simp [hs]), if_neg (by simp [hh]), if_neg (by simp [ht]), if_neg (by simp [hk]), if_neg (by simp [hj]), if_neg (by simp; omega)]
  simp
theorem ats0_nest (r : List Int) (s : Nat) : ats0 (nestP r s) = atsN r.length s 0 := by
  unfold ats0 begins
  rw [nest_len]
  simp only [nestP, List.foldl_append, List.foldl_cons, List.foldl_nil]
  rw [mark, if_pos (by decide), mark, if_neg (by decide)]
  apply List.ext_getElem?
  intro k
  by_cases hk : k < 3 * r.length + s + 2
  · rw [List.getElem?_set, atsN_get hk]
    by_cases h1 : k = 0
    · subst h1
      have h2 : thr r.length s 0 0 := .inl (Nat.le_refl _)
      have h3 : lvl r.length s 0 = if 0 < 2 * r.length then 0 else if 0 ≤ 2 * r.length + s then r.length else 3 * r.length + s := rfl
      rw [if_pos h2]
      have h4 : lvl r.length s 0 = 0 := by rw [h3]; split; rfl; split <;> omega
      rw [h4]
      simp [nestS, nestL]
    · have h2 : ¬ thr r.length s 0 k := by unfold thr; omega
      rw [if_neg (by simp; omega), if_neg h2, List.getElem?_replicate, if_pos hk]
  · rw [List.getElem?_eq_none (by simp; omega), List.getElem?_eq_none (by rw [atsN_len]; omega)]
end Go.Proofs.Ytjflllfkgbhemaa

/- A plain law: all looks at loops in one another are good. Conditions: the rounds' bounds. -/
namespace Go.Proofs.Ytjflllfkgbhemaa
open Go.RowKit Go.PlainAid
theorem nestS_there (i : Nat) : (nestS i).there = true := rfl
theorem nestS_hand (i : Nat) : (nestS i).hand = 0 := rfl
theorem nestS_ls (i : Nat) : (nestS i).ls = nestL i := rfl
theorem nestS_ty (i : Nat) : (nestS i).ty = ⟨#[]⟩ := rfl
theorem thr_self (n s k : Nat) : thr n s k k := .inl (Nat.le_refl _)
/-- a plain place -/
theorem nest_plain {r : List Int} {s k : Nat} {x : Ins} (hk : k + 1 < 3 * r.length + s + 2) (ho : x.op = 24 ∨ x.op = 33 ∨ x.op = 31) (hj : jumpsV (nestP r s) k x (nestS (lvl r.length s k)) (atsN r.length s k) = true)
    (hl : lvl r.length s (k + 1) = lvl r.length s k) (hnot : ¬ thr r.length s k (k + 1)) (hthr : ∀ j, j < 3 * r.length + s + 2 → (thr r.length s (k + 1) j ↔ (thr r.length s k j ∨ j = k + 1))) :
    lookV (nestP r s) k x (nestS (lvl r.length s k)) (atsN r.length s k) = (0, atsN r.length s (k + 1)) := by
  have ht : takesL x.op = [] := by rcases ho with h | h | h <;> rw [h] <;> rfl
  have hg : givesV x.op = 0 := by rcases ho with h | h | h <;> rw [h] <;> rfl
  have hb := beh_none (P := nestP r s) (x := x) (nestS_ty (lvl r.length s k)) ht hg (by unfold holdV; rcases ho with h | h | h <;> rw [h] <;> simp)
  have htk := take_none (op := x.op) (nestS_ty (lvl r.length s k)) ht hg
  have hn : (atSt (atsN r.length s k) ((k : Int) + 1)).there = false := by
    have := atsN_at (n := r.length) (s := s) (k := k) (j := k + 1) hk
    rw [if_neg hnot] at this
    rw [show (k : Int) + 1 = ((k + 1 : Nat) : Int) by omega, this]
    rfl
  have hlook := look_plain (P := nestP r s) (n := k) (x := x) (s := nestS (lvl r.length s k)) (ats := atsN r.length s k) (nestS_there _)
    (by unfold handsV; rcases ho with h | h | h <;> rw [h] <;> simp [nestS_hand]) (by rw [htk]) (by unfold kindsV; rcases ho with h | h | h <;> rw [h] <;> simp)
    (by rw [htk]; exact hj) (by rw [hb]; unfold waysV; rcases ho with h | h | h <;> rw [h] <;> simp) (by rw [nest_len]; exact hk) hn
  rw [hlook, hb]
  have e : putSt (atsN r.length s k) ((k : Int) + 1, nestS (lvl r.length s k)) = (atsN r.length s k).set (k + 1) (nestS (lvl r.length s (k + 1))) := by
    unfold putSt
    rw [hl, show (((k : Int) + 1, nestS (lvl r.length s k)) : Int × St).1.toNat = k + 1 by simp only; omega]
    rfl
  rw [e, atsN_put hk hthr]
theorem nest_far {r : List Int} {s i : Nat} (hi : i < r.length) : (nestI r s (3 * r.length + s - i)).op ≠ 25 := by
  by_cases h0 : i = 0
  · subst h0
    rw [Nat.sub_zero, nest_ins]
    simp
  · rw [nest_again (by omega) (by omega)]
    simp
theorem nest_look_turn {r : List Int} {s i : Nat} (hi : i < r.length) : lookV (nestP r s) (2 * i + 1) (nestI r s (2 * i + 1)) (nestS (lvl r.length s (2 * i + 1))) (atsN r.length s (2 * i + 1)) = (0, atsN r.length s (2 * i + 1 + 1)) := by
  have hlv : lvl r.length s (2 * i + 1) = i := by unfold lvl; rw [if_pos (by omega)]; omega
  have hl1 : lvl r.length s (2 * i + 2) = i + 1 := by
    unfold lvl
    split
    · omega
    · rw [if_pos (by omega)]; omega
  have hl2 : lvl r.length s (3 * r.length + s - i) = i := by unfold lvl; rw [if_neg (by omega), if_neg (by omega)]; omega
  rw [nest_turn hi, hlv]
  have ht : takesL (25 : Int) = [] := rfl
  have hg : givesV (25 : Int) = 0 := rfl
  have hb := beh_none (P := nestP r s) (x := ⟨25, ((3 * r.length + s - i : Nat) : Int), 0, 0, 0⟩) (nestS_ty i) ht hg (by simp [holdV])
  have htk := take_none (op := 25) (nestS_ty i) ht hg
  have n1 : (atSt (atsN r.length s (2 * i + 1)) ((2 * i + 2 : Nat) : Int)).there = false := by
    rw [atsN_at (by omega), if_neg (by unfold thr; omega)]; rfl
  have n2 : (atSt (atsN r.length s (2 * i + 1)) ((3 * r.length + s - i : Nat) : Int)).there = false := by
    rw [atsN_at (by omega), if_neg (by unfold thr; omega)]; rfl
  have hj : jumpsV (nestP r s) (2 * i + 1) ⟨25, ((3 * r.length + s - i : Nat) : Int), 0, 0, 0⟩ (nestS i) (atsN r.length s (2 * i + 1)) = true := by
    have a1 := nest_at (r := r) (s := s) (k := 3 * r.length + s - i) (by omega)
    have a2 := nest_at (r := r) (s := s) (k := 2 * i) (by omega)
    have hf := nest_far (s := s) hi
    unfold jumpsV jbad
    rw [a1, show ((2 * i + 1 : Nat) : Int) - 1 = ((2 * i : Nat) : Int) by omega, a2, nest_loop hi]
    have e1 : decide (((3 * r.length + s - i : Nat) : Int) ≤ ((2 * i + 1 : Nat) : Int)) = false := by simp only [decide_eq_false_iff_not]; omega
    have e2 : ((nestI r s (3 * r.length + s - i)).op == 25) = false := by simpa using hf
    simp only [e1, e2]
    simp [nestP]
    omega
  have hlook := look_two (P := nestP r s) (n := 2 * i + 1) (x := ⟨25, ((3 * r.length + s - i : Nat) : Int), 0, 0, 0⟩) (s := nestS i) (ats := atsN r.length s (2 * i + 1)) (a1 := ((2 * i + 2 : Nat) : Int)) (a2 := ((3 * r.length + s - i : Nat) : Int)) (s1 := nestS (i + 1)) (s2 := nestS i)
    (nestS_there _) (by simp [handsV, nestS_hand]) (by rw [htk]) (by simp [kindsV]) (by rw [htk]; exact hj)
    (by
      rw [hb]
      unfold waysV
      simp only [show ¬ (25 : Int) = 0 by decide, show ¬ (25 : Int) = 27 by decide, show ¬ (25 : Int) = 22 by decide, show ¬ (25 : Int) = 23 by decide, if_false, if_true]
      rw [show ((2 * i + 1 : Nat) : Int) + 1 = ((2 * i + 2 : Nat) : Int) by omega]
      have : ({ nestS i with ls := (nestS i).ls ++ [((2 * i + 1 : Nat) : Int)] } : St) = nestS (i + 1) := by unfold nestS; rw [nestL_succ]
      rw [this]) (by rw [nest_len]; omega) (by rw [nest_len]; omega) (by omega) n1 n2
  rw [hlook]
  have e : putSt (putSt (atsN r.length s (2 * i + 1)) (((2 * i + 2 : Nat) : Int), nestS (i + 1))) (((3 * r.length + s - i : Nat) : Int), nestS i) = ((atsN r.length s (2 * i + 1)).set (2 * i + 2) (nestS (lvl r.length s (2 * i + 2)))).set (3 * r.length + s - i) (nestS (lvl r.length s (3 * r.length + s - i))) := by
    rw [hl1, hl2]; rfl
  rw [e]
  congr 1
  apply List.ext_getElem?
  intro j
  rw [List.getElem?_set, List.getElem?_set, List.length_set, atsN_len]
  by_cases hj : j < 3 * r.length + s + 2
  · rw [atsN_get hj, atsN_get hj]
    by_cases h1 : 3 * r.length + s - i = j
    · subst h1
      rw [if_pos rfl, if_pos (by omega), if_pos (by unfold thr; omega)]
    · rw [if_neg h1]
      by_cases h2 : 2 * i + 2 = j
      · subst h2
        rw [if_pos rfl, if_pos (by omega), if_pos (.inl (by omega))]
      · rw [if_neg h2]
        by_cases h3 : thr r.length s (2 * i + 1) j
        · rw [if_pos h3, if_pos (by unfold thr at h3 ⊢; omega)]
        · rw [if_neg h3, if_neg (by unfold thr at h3 ⊢; omega)]
  · rw [if_neg (by omega), if_neg (by omega), List.getElem?_eq_none (by rw [atsN_len]; omega), List.getElem?_eq_none (by rw [atsN_len]; omega)]
theorem nest_look_again {r : List Int} {s k : Nat} (h1 : 2 * r.length + s ≤ k) (h2 : k < 3 * r.length + s) : lookV (nestP r s) k (nestI r s k) (nestS (lvl r.length s k)) (atsN r.length s k) = (0, atsN r.length s (k + 1)) := by
  obtain ⟨m, hm⟩ : ∃ m, m = 3 * r.length + s - 1 - k := ⟨_, rfl⟩
  have hlv : lvl r.length s k = m + 1 := by
    unfold lvl
    rw [if_neg (by omega)]
    split <;> omega
  have hl2 : lvl r.length s (2 * m + 1) = m := by unfold lvl; rw [if_pos (by omega)]; omega
  rw [nest_again h1 h2, hlv, ← hm]
  have ht : takesL (27 : Int) = [] := rfl
  have hg : givesV (27 : Int) = 0 := rfl
  have htk := take_none (op := 27) (nestS_ty (m + 1)) ht hg
  have hin : atSt (atsN r.length s k) ((2 * m + 1 : Nat) : Int) = nestS m := by
    rw [atsN_at (by omega), if_pos (.inl (by omega)), hl2]
  have hj : jumpsV (nestP r s) k ⟨27, ((2 * m + 1 : Nat) : Int), 0, 0, 0⟩ (nestS (m + 1)) (atsN r.length s k) = true := by
    unfold jumpsV
    rw [nestS_ls, nestL_inner, hin, nestL_drop]
    have hs : sameV (nestS m) { nestS (m + 1) with ls := nestL m, hand := (nestS m).hand } = true := by simp [sameV, nestS]
    rw [hs]
    simp
    omega
  have hlook : lookV (nestP r s) k ⟨27, ((2 * m + 1 : Nat) : Int), 0, 0, 0⟩ (nestS (m + 1)) (atsN r.length s k) = (0, atsN r.length s k) := by
    unfold lookV
    have hw : ∀ (st : St), waysV (k : Int) ⟨27, ((2 * m + 1 : Nat) : Int), 0, 0, 0⟩ st = [] := fun st => by simp [waysV]
    rw [hw, htk, if_neg (by simp [nestS_there]), if_neg (by simp [handsV, nestS_hand]), if_neg (by simp), if_neg (by simp [kindsV]), if_neg (by rw [hj]; simp), if_neg (by simp), if_neg (by simp [clash])]
    rfl
  rw [hlook, atsN_same (k' := k + 1)]
  intro j _
  unfold thr
  omega
theorem nest_look {r : List Int} {s k : Nat} (hk : k < 3 * r.length + s + 1) : lookV (nestP r s) k (nestI r s k) (nestS (lvl r.length s k)) (atsN r.length s k) = (0, atsN r.length s (k + 1)) := by
  rcases nest_cases r.length s k (by omega) with ⟨i, hi, rfl⟩ | ⟨i, hi, rfl⟩ | ⟨h1, h2⟩ | ⟨h1, h2⟩ | rfl | rfl
  · rw [nest_loop hi]
    refine nest_plain (by omega) (.inl rfl) ?_ ?_ ?_ ?_
    · unfold jumpsV
      have := nest_at (r := r) (s := s) (k := 2 * i + 1) (by omega)
      rw [show ((2 * i : Nat) : Int) + 1 = ((2 * i + 1 : Nat) : Int) by omega, this, nest_turn hi, nest_len]
      simp
      omega
    · unfold lvl
      rw [if_pos (by omega), if_pos (by omega)]
      omega
    · unfold thr; omega
    · intro j _; unfold thr; omega
  · exact nest_look_turn hi
  · rw [nest_row h1 h2]
    refine nest_plain (by omega) (.inr (.inl rfl)) ?_ ?_ ?_ ?_
    · unfold jumpsV; simp
    · unfold lvl
      rw [if_neg (by omega), if_pos (by omega), if_neg (by omega), if_pos (by omega)]
    · unfold thr; omega
    · intro j _; unfold thr; omega
  · exact nest_look_again h1 h2
  · rw [nest_ins]
    refine nest_plain (by omega) (.inr (.inr rfl)) ?_ ?_ ?_ ?_
    · unfold jumpsV; simp
    · unfold lvl
      rw [if_neg (by omega), if_neg (by omega), if_neg (by omega)]
      split <;> omega
    · unfold thr; omega
    · intro j _; unfold thr; omega
  · omega
theorem nest_step {r : List Int} {s k : Nat} (hk : k < 3 * r.length + s + 1) : looksV (nestP r s) ((nestP r s).cd.length - k) k (atsN r.length s k) = looksV (nestP r s) ((nestP r s).cd.length - (k + 1)) (k + 1) (atsN r.length s (k + 1)) := by
  have ex := nest_at (r := r) (s := s) (k := k) (by omega)
  have es : atSt (atsN r.length s k) (k : Int) = nestS (lvl r.length s k) := by rw [atsN_at (by omega), if_pos (thr_self _ _ _)]
  have hlook := nest_look hk
  have := looks_step (P := nestP r s) (i := k) (ats := atsN r.length s k) (by rw [nest_len]; omega) (by rw [ex, es, hlook])
  rw [this, ex, es, hlook]
theorem nest_to {r : List Int} {s : Nat} : ∀ k, k ≤ 3 * r.length + s + 1 → looksV (nestP r s) (nestP r s).cd.length 0 (ats0 (nestP r s)) = looksV (nestP r s) ((nestP r s).cd.length - k) k (atsN r.length s k)
  | 0, _ => by rw [ats0_nest, Nat.sub_zero]
  | k + 1, h => by rw [nest_to k (by omega), nest_step (by omega)]
theorem nest_looks (r : List Int) (s : Nat) : looksV (nestP r s) (nestP r s).cd.length 0 (ats0 (nestP r s)) = (0, 3 * r.length + s + 2, atsN r.length s (3 * r.length + s + 1)) := by
  rw [nest_to (3 * r.length + s + 1) (Nat.le_refl _)]
  have ex := nest_at (r := r) (s := s) (k := 3 * r.length + s + 1) (by omega)
  have es : atSt (atsN r.length s (3 * r.length + s + 1)) ((3 * r.length + s + 1 : Nat) : Int) = nestS 0 := by
    rw [atsN_at (by omega), if_pos (thr_self _ _ _)]
    have : lvl r.length s (3 * r.length + s + 1) = 0 := by unfold lvl; rw [if_neg (by omega), if_neg (by omega)]; omega
    rw [this]
  rw [nest_end] at ex
  have htk := take_none (op := 0) (nestS_ty 0) rfl rfl
  have hlook : lookV (nestP r s) (3 * r.length + s + 1) ⟨0, 0, 0, 0, 0⟩ (nestS 0) (atsN r.length s (3 * r.length + s + 1)) = (0, atsN r.length s (3 * r.length + s + 1)) := by
    unfold lookV
    have hw : ∀ (st : St), waysV ((3 * r.length + s + 1 : Nat) : Int) ⟨0, 0, 0, 0, 0⟩ st = [] := fun st => by simp [waysV]
    rw [hw, htk, if_neg (by simp [nestS_there]), if_neg (by simp [handsV, nestS_hand]), if_neg (by simp), if_neg (by simp [kindsV]), if_neg (by simp [jumpsV, nestS, nestL]), if_neg (by simp), if_neg (by simp [clash])]
    rfl
  have := looks_step (P := nestP r s) (i := 3 * r.length + s + 1) (ats := atsN r.length s (3 * r.length + s + 1)) (by rw [nest_len]; omega) (by rw [ex, es, hlook])
  rw [this, ex, es, hlook, nest_len, show 3 * r.length + s + 2 - (3 * r.length + s + 1 + 1) = 0 by omega]
  rfl
end Go.Proofs.Ytjflllfkgbhemaa

/- A plain law: the fuel of loops in one another. Conditions: the rounds' bounds. -/
namespace Go.Proofs.Ytjflllfkgbhemaa
open Go.RowKit Go.PlainAid
theorem fAt_set_eq {f : List Int} {i : Nat} {v : Int} (h : i < f.length) : fAt (f.set i v) (i : Int) = v := by
  unfold fAt
  simp [h]
theorem fAt_set_ne {f : List Int} {i j : Nat} {v : Int} (h : i ≠ j) : fAt (f.set i v) (j : Int) = fAt f (j : Int) := by
  unfold fAt
  simp [h]
theorem fuel_stays (P : Prg) {k m : Nat} (h : P.cd.length ≤ m + k) : ∀ d, k + d ≤ P.cd.length → fAt (fuelK P (k + d)) (m : Int) = fAt (fuelK P k) (m : Int)
  | 0, _ => rfl
  | d + 1, hd => by
    rw [← Nat.add_assoc, fuelK, fAt_set_ne (by omega)]
    exact fuel_stays P h d (by omega)
theorem fuel_fin (P : Prg) {k m : Nat} (h : P.cd.length ≤ m + k) (hk : k ≤ P.cd.length) : fAt (fuelK P k) (m : Int) = fAt (fuelK P P.cd.length) (m : Int) := by
  have := fuel_stays P h (P.cd.length - k) (by omega)
  rw [show k + (P.cd.length - k) = P.cd.length by omega] at this
  exact this.symm
theorem fuel_at (P : Prg) {m : Nat} (h : m < P.cd.length) : fAt (fuelK P P.cd.length) (m : Int) = fuelStep P m (insAt P (m : Int)) (fuelK P (P.cd.length - 1 - m)) := by
  rw [← fuel_fin P (k := P.cd.length - 1 - m + 1) (m := m) (by omega) (by omega), fuelK]
  have e : P.cd.length - 1 - (P.cd.length - 1 - m) = m := by omega
  rw [e, fAt_set_eq (by rw [fuelK_len]; exact h)]
theorem fuel_end (P : Prg) {m : Nat} {x : Ins} (h : P.cd[m]? = some x) (ho : x.op = 0 ∨ x.op = 27) : fAt (fuelK P P.cd.length) (m : Int) = 1 := by
  rw [fuel_at P (List.getElem?_eq_some_iff.1 h).1, ins_of h]
  unfold fuelStep
  rw [if_pos ho]
theorem fuel_plain (P : Prg) {m : Nat} {x : Ins} (h : P.cd[m]? = some x) (ho : ¬ (x.op = 0 ∨ x.op = 27)) (h22 : x.op ≠ 22) (h23 : x.op ≠ 23) (h24 : x.op ≠ 24) : fAt (fuelK P P.cd.length) (m : Int) = plusV 1 (fAt (fuelK P P.cd.length) ((m + 1 : Nat) : Int)) := by
  have hm := (List.getElem?_eq_some_iff.1 h).1
  rw [fuel_at P hm, ins_of h]
  unfold fuelStep
  rw [if_neg ho, if_neg h22, if_neg h23, if_neg h24, fuel_fin P (by omega) (by omega)]
theorem fuel_loop (P : Prg) {m t : Nat} {x y : Ins} (h : P.cd[m]? = some x) (ho : x.op = 24) (h1 : P.cd[m + 1]? = some y) (hy : y.a = (t : Int)) (ht : m < t) :
    fAt (fuelK P P.cd.length) (m : Int) = plusV (plusV 1 (timesI x.a (plusV 1 (fAt (fuelK P P.cd.length) ((m + 2 : Nat) : Int))))) (plusV 1 (fAt (fuelK P P.cd.length) (t : Int))) := by
  have hm := (List.getElem?_eq_some_iff.1 h).1
  rw [fuel_at P hm, ins_of h]
  unfold fuelStep
  rw [if_neg (by rw [ho]; decide), if_neg (by rw [ho]; decide), if_neg (by rw [ho]; decide), if_pos ho, ins_of h1, hy, fuel_fin P (k := P.cd.length - 1 - m) (m := m + 2) (by omega) (by omega), fuel_fin P (k := P.cd.length - 1 - m) (m := t) (by omega) (by omega)]
/-- the fuel of the body of t loops in one another -/
def bodyV (r : List Int) (s : Nat) : Nat → Int
  | 0 => (s : Int) + 1
  | t + 1 => plusV (timesI (rAt r (r.length - 1 - t)) (plusV 1 (bodyV r s t))) 3
def wantV (r : List Int) (s : Nat) : Int := if r.length = 0 then (s : Int) + 2 else bodyV r s r.length + 1
def nF (r : List Int) (s k : Nat) : Int := fAt (fuelK (nestP r s) (nestP r s).cd.length) (k : Int)
theorem nf_end (r : List Int) (s : Nat) : nF r s (3 * r.length + s + 1) = 1 := fuel_end (nestP r s) (nest_get (by omega)) (by rw [nest_end]; exact .inl rfl)
theorem nf_ins (r : List Int) (s : Nat) : nF r s (3 * r.length + s) = 2 := by
  have := fuel_plain (nestP r s) (nest_get (r := r) (s := s) (k := 3 * r.length + s) (by omega)) (by rw [nest_ins]; simp) (by rw [nest_ins]; simp) (by rw [nest_ins]; simp) (by rw [nest_ins]; simp)
  have e := nf_end r s
  unfold nF at *
  rw [this, e]
  rfl
theorem nf_again {r : List Int} {s k : Nat} (h1 : 2 * r.length + s ≤ k) (h2 : k < 3 * r.length + s) : nF r s k = 1 := fuel_end (nestP r s) (nest_get (by omega)) (by rw [nest_again h1 h2]; exact .inr rfl)
theorem nf_row {r : List Int} {s : Nat} (hs : s ≤ 40) (c : Nat) (hc : c ≤ 2) (h0 : nF r s (2 * r.length + s) = c) : ∀ j, j ≤ s → nF r s (2 * r.length + s - j) = (c : Int) + j
  | 0, _ => by rw [Nat.sub_zero, h0]; simp
  | j + 1, h => by
    have ih := nf_row hs c hc h0 j (by omega)
    have hx := nest_row (r := r) (s := s) (k := 2 * r.length + s - (j + 1)) (by omega) (by omega)
    have := fuel_plain (nestP r s) (nest_get (r := r) (s := s) (k := 2 * r.length + s - (j + 1)) (by omega)) (by rw [hx]; simp) (by rw [hx]; simp) (by rw [hx]; simp) (by rw [hx]; simp)
    unfold nF at *
    rw [this, show 2 * r.length + s - (j + 1) + 1 = 2 * r.length + s - j by omega, ih]
    unfold plusV
    rw [if_neg (by omega)]
    omega
theorem bodyV_in (r : List Int) {s : Nat} (hs : s ≤ 40) : ∀ t, 0 ≤ bodyV r s t ∧ bodyV r s t ≤ 4611686018427387904
  | 0 => by unfold bodyV; omega
  | t + 1 => by
    have h1 := timesI_in (rAt r (r.length - 1 - t)) (plusV 1 (bodyV r s t))
    exact plusV_in h1.1 (by omega) (by omega)
theorem plusV_of {T c : Int} (h : 0 ≤ T) (h2 : T ≤ 4611686018427387904) (hc : 1 ≤ c) (hc2 : c ≤ 10) : plusV (plusV 1 T) c = if 4611686018427387904 - (c + 1) < T then 4611686018427387904 else T + (c + 1) := by
  unfold plusV
  split <;> split <;> split <;> omega
theorem nf_times {r : List Int} {s : Nat} (hs : s ≤ 40) : ∀ t, t < r.length → nF r s (2 * (r.length - t)) = bodyV r s t
  | 0, h => by
    have := nf_row hs 1 (by omega) (nf_again (r := r) (s := s) (by omega) (by omega)) s (Nat.le_refl _)
    rw [show 2 * r.length + s - s = 2 * (r.length - 0) by omega] at this
    rw [this]
    unfold bodyV
    omega
  | t + 1, h => by
    have ih := nf_times (r := r) hs t (by omega)
    have hi : r.length - (t + 1) < r.length := by omega
    have h1 := nest_loop (s := s) hi
    have h2 := nest_turn (s := s) hi
    have := fuel_loop (nestP r s) (m := 2 * (r.length - (t + 1))) (t := 3 * r.length + s - (r.length - (t + 1))) (nest_get (by omega)) (by rw [h1]) (nest_get (by omega)) (by rw [h2]) (by omega)
    have hg := nf_again (r := r) (s := s) (k := 3 * r.length + s - (r.length - (t + 1))) (by omega) (by omega)
    unfold nF at *
    rw [this, hg, h1, show 2 * (r.length - (t + 1)) + 2 = 2 * (r.length - t) by omega, ih, show r.length - (t + 1) = r.length - 1 - t by omega]
    have ht := timesI_in (rAt r (r.length - 1 - t)) (plusV 1 (bodyV r s t))
    rw [show plusV 1 1 = 2 from rfl, plusV_of ht.1 ht.2 (by omega) (by omega)]
    simp only [bodyV, plusV]
    rfl
theorem zero_law {T : Int} (h1 : T ≤ 4611686018427387904) : (plusV T 3 + 1 ≤ 1152921504606846976 → (if 4611686018427387904 - (3 + 1) < T then 4611686018427387904 else T + (3 + 1)) = plusV T 3 + 1) ∧ (1152921504606846976 < plusV T 3 + 1 → 1152921504606846976 < (if 4611686018427387904 - (3 + 1) < T then 4611686018427387904 else T + (3 + 1))) := by
  unfold plusV
  by_cases h3 : 4611686018427387904 - 3 < T
  · have h4 : 4611686018427387904 - (3 + 1) < T := by omega
    simp only [if_pos h3, if_pos h4]
    omega
  · by_cases h4 : 4611686018427387904 - (3 + 1) < T
    · simp only [if_neg h3, if_pos h4]
      omega
    · simp only [if_neg h3, if_neg h4]
      omega
theorem nf_zero {r : List Int} {s : Nat} (hs : s ≤ 40) : (wantV r s ≤ 1152921504606846976 → nF r s 0 = wantV r s) ∧ (1152921504606846976 < wantV r s → 1152921504606846976 < nF r s 0) := by
  unfold wantV
  by_cases h0 : r.length = 0
  · rw [if_pos h0]
    have := nf_row hs 2 (by omega) (by rw [show 2 * r.length + s = 3 * r.length + s by omega]; exact nf_ins r s) s (Nat.le_refl _)
    rw [show 2 * r.length + s - s = 0 by omega] at this
    rw [this]
    omega
  · rw [if_neg h0]
    obtain ⟨t, ht⟩ : ∃ t, r.length = t + 1 := ⟨r.length - 1, by omega⟩
    have ih := nf_times (r := r) hs t (by omega)
    have h1 := nest_loop (r := r) (s := s) (i := 0) (by omega)
    have h2 := nest_turn (r := r) (s := s) (i := 0) (by omega)
    have := fuel_loop (nestP r s) (m := 0) (t := 3 * r.length + s) (nest_get (by omega)) (by rw [h1]) (nest_get (by omega)) (by rw [h2]; simp) (by omega)
    have hg := nf_ins r s
    unfold nF at *
    rw [this, hg, h1, show 0 + 2 = 2 * (r.length - t) by omega, ih, ht]
    have hi := timesI_in (rAt r 0) (plusV 1 (bodyV r s t))
    rw [show plusV 1 2 = 3 from rfl, plusV_of hi.1 hi.2 (by omega) (by omega)]
    simp only [bodyV, show r.length - 1 - t = 0 by omega]
    generalize timesI (rAt r 0) (plusV 1 (bodyV r s t)) = T at *
    exact zero_law hi.2
/-- what run tells of loops in one another -/
theorem nest_run {r : List Int} {s : Nat} (hr : ∀ i < r.length, 0 ≤ rAt r i ∧ rAt r i ≤ 4194304) (hn : r.length ≤ 40) (hs : s ≤ 40) :
    (wantV r s ≤ 1152921504606846976 → (runV (nestP r s)).1 = 0 ∧ (runV (nestP r s)).2.1 = 0 ∧ fAt (costsV (fuelK (nestP r s) (nestP r s).cd.length) [(nestP r s).miss]) 0 = wantV r s) ∧
    (1152921504606846976 < wantV r s → (runV (nestP r s)).1 = 97 ∧ (runV (nestP r s)).2.1 = 0) := by
  have h0 := nest_check hr hn hs
  have hl := nest_looks r s
  have hz := nf_zero (r := r) hs
  have hb : begins (nestP r s) = [-1, 0] := rfl
  have hm : (nestP r s).miss = 0 := rfl
  have hz0 : fAt (fuelK (nestP r s) (nestP r s).cd.length) 0 = nF r s 0 := rfl
  refine ⟨fun h => ?_, fun h => ?_⟩
  · have := runV_ok h0 hl (by
      rw [hb, overV, if_neg (fun h => absurd h.1 (by decide)), overV, if_neg (fun hh => by have := hh.2; rw [hz0, hz.1 h] at this; omega)]
      rfl)
    refine ⟨by rw [this], by rw [this], ?_⟩
    rw [hm]
    show (if (0 : Int) < 0 then 0 else fAt (fuelK (nestP r s) (nestP r s).cd.length) 0) = wantV r s
    rw [if_neg (by decide), hz0, hz.1 h]
  · have := runV_over h0 hl (b := 0) (by
      rw [hb, overV, if_neg (fun h => absurd h.1 (by decide)), overV, if_pos ⟨by omega, by rw [hz0]; exact hz.2 h⟩])
    exact ⟨by rw [this], by rw [this]⟩
end Go.Proofs.Ytjflllfkgbhemaa

/- The walk of VerifyNests. Conditions: the rounds lie in memory. -/
namespace Go.Proofs.Ytjflllfkgbhemaa
open Go.RowKit
theorem step_call2 {P : Program} {ops : Array Oper} {o : Oper} {a : Act} {w : World} {K : Act → World → Prop} {Q : Exit → Act → World → Prop} {E : Prop}
    (hg : o.guard = none) (f : Nat) (x y : Operand) (t t' : TypeId) (hop : o.op = Op.call { callee := Callee.value (Operand.func f), args := #[x, y], argTypes := #[t, t'] })
    (F : Func) (hF : P.funcs[f]? = some F) (hF1 : F.name ≠ "runtime.NumGoroutine") (hF2 : F.body ≠ none) (v u : Value) (hx : a.eval x = v) (hy : a.eval y = u) (R : Value → World → Prop) (hc : Calls P f #[v, u] w fun e w' => ∃ v', e = .returned v' ∧ R v' w') (hK : ∀ v' w', R v' w' → K (a.put o.dst v') w') :
    if Region.wanted o (yielded ops a.tmps) = true then Oper.wp P o a w K Q else E := by
  have hw : Region.wanted o (yielded ops a.tmps) = true := by simp [Region.wanted, hg]
  rw [if_pos hw]
  obtain ⟨fv, hf⟩ : ∃ fv, a.eval (Operand.func f) = fv := ⟨_, rfl⟩
  have hf2 := hf
  simp only [Act.eval] at hf2
  subst hf2
  unfold Oper.wp
  simp [execOp, hop, resolve, invoke, hx, hy, hf, Deferred.ofValue, callFunc, hF, hF1, hF2, Result.andThen]
  refine hc.mono ?_
  rintro e w' ⟨v', rfl, hr⟩
  exact hK v' w' hr
theorem code_next (f : Nat → Ins) (k : Nat) : codeV ((List.range (k + 1)).map f) = codeV ((List.range k).map f) ++ [.int .i64 (f k).op, .int .i64 (f k).a, .int .i64 (f k).b, .int .i64 (f k).c, .int .i64 (f k).d] := by
  rw [List.range_succ, List.map_append, codeV_append]
  rfl
theorem code_next2 (f : Nat → Ins) (k : Nat) : codeV ((List.range (k + 2)).map f) = codeV ((List.range k).map f) ++ [.int .i64 (f k).op, .int .i64 (f k).a, .int .i64 (f k).b, .int .i64 (f k).c, .int .i64 (f k).d, .int .i64 (f (k + 1)).op, .int .i64 (f (k + 1)).a, .int .i64 (f (k + 1)).b, .int .i64 (f (k + 1)).c, .int .i64 (f (k + 1)).d] := by
  rw [show k + 2 = k + 1 + 1 from rfl, code_next, code_next, List.append_assoc]
  rfl
theorem nest_rA {l : List Int} {i : Nat} {x : Int} (h : l[i]? = some x) : rAt (l.map fun a => withinV a 4194305) i = withinV x 4194305 := by
  unfold rAt
  rw [List.getElem?_map, h]
  rfl
theorem nest_rIn (l : List Int) (i : Nat) : 0 ≤ rAt (l.map fun a => withinV a 4194305) i ∧ rAt (l.map fun a => withinV a 4194305) i ≤ 4194304 := by
  unfold rAt
  rw [List.getElem?_map]
  cases l[i]? with
  | none => simp
  | some x =>
    have := within_in x 4194305 (by decide)
    simp only [Option.map_some, Option.getD_some]
    omega
/-- what verify.Run tells of loops in one another -/
theorem nest_runs {W : World} {p : PV} {r : List Int} {s : Nat} (h : PMem W p (nestP r s)) (hov : Mv W p.oa p.oc (nestP r s).os) (hr : ∀ i < r.length, 0 ≤ rAt r i ∧ rAt r i ≤ 4194304) (hn : r.length ≤ 40) (hs : s ≤ 40) :
    (wantV r s ≤ 1152921504606846976 → Calls Try.prog 13 #[p.val] W fun en w' => ∃ oa n c, en = .returned (.tuple #[.agg #[.slice oa n c, .int .i64 (wantV r s)], .agg #[.int .i64 0, .int .i64 0]]) ∧ Below W.heap.size W w') ∧
    (1152921504606846976 < wantV r s → Calls Try.prog 13 #[p.val] W fun en w' => ∃ oa n c, en = .returned (.tuple #[.agg #[.slice oa n c, .int .i64 0], .agg #[.int .i64 97, .int .i64 0]]) ∧ Below W.heap.size W w') := by
  have law := nest_run hr hn hs
  refine ⟨fun hw => (verifyRun_i W p _ h hov).mono ?_, fun hw => (verifyRun_i W p _ h hov).mono ?_⟩
  · rintro en w' ⟨oa, n, c, m, rfl, hc, hb⟩
    obtain ⟨h1, h2, h3⟩ := law.1 hw
    obtain ⟨g, cs, e, _, _, _⟩ := hc.2 h1
    rw [h3] at e
    rw [h1, h2, e]
    exact ⟨_, _, _, rfl, hb⟩
  · rintro en w' ⟨oa, n, c, m, rfl, hc, hb⟩
    obtain ⟨h1, h2⟩ := law.2 hw
    have e := hc.1 (by rw [h1]; decide)
    rw [h1, h2, e]
    exact ⟨_, _, _, rfl, hb⟩
set_option linter.unusedVariables false in
set_option linter.unusedSimpArgs false in
set_option maxRecDepth 100000 in
set_option maxHeartbeats 40000000 in
theorem nests_i (w : World) (l : List Int) (oa : Option Addr) (cap n : Nat) (b : Int) (hby : Src w oa n (ints l)) (hln : l.length = n) (hlm : n ≤ maxLen) :
    Calls Try.prog 6 #[.slice oa n cap, .int .i64 b] w fun en w' => en = .returned (.bool true) ∧ Below w.heap.size w w' := by
  have HSRC := hide hby
  clear hby
  unfold maxLen at hlm
  by_cases hbig : 40 < n
  · have hbI : (40 : Int) < (n : Int) := by omega
    clear hbig hln
    go_enter Try.func6, Try.ntmps6
    go_wp2_with (go_at_call 10
                 refine (head_i _).mono ?_
                 rintro en w2 ⟨rfl, hb2⟩
                 have HB2 := hide hb2
                 clear hb2)
    go_ret
    exact ⟨rfl, HB2.out⟩
  have hnI : ¬ (40 : Int) < (n : Int) := by omega
  obtain ⟨i46, hi46, hz0, hz1, hz2⟩ := info_parts info46
  have hwb := within_in b 40 (by decide)
  have HWB := hide (fun W => within_i W b 40 (by decide) (by decide))
  generalize withinV b 40 = y at *
  obtain ⟨s, rfl⟩ := Int.eq_ofNat_of_zero_le hwb.1
  have hs : s < 40 := by omega
  have hn : n ≤ 40 := by omega
  clear hwb hbig
  obtain ⟨r, hr⟩ : ∃ r, r = l.map fun a => withinV a 4194305 := ⟨_, rfl⟩
  have hrl : r.length = n := by rw [hr]; simpa using hln
  have hrin : ∀ i < r.length, 0 ≤ rAt r i ∧ rAt r i ≤ 4194304 := fun i _ => by rw [hr]; exact nest_rIn l i
  have HWI : Hid (∀ (i : Nat), i < n → ∃ li, l[i]? = some li ∧ ∀ W, Calls Try.prog 20 #[.int .i64 li, .int .i64 4194305] W fun en w' => en = .returned (.int .i64 (rAt r i)) ∧ w' = W) := hide (fun i hi => by
    obtain ⟨li, hli⟩ : ∃ x, l[i]? = some x := ⟨_, List.getElem?_eq_getElem (by omega)⟩
    refine ⟨li, hli, fun W => ?_⟩
    rw [hr, nest_rA hli]
    exact within_i W li 4194305 (by decide) (by decide))
  have HRI := hide hrin
  have HRL := hide hrl
  have HLN := hide hln
  clear hr hrin hrl hln
  have HS := hide small_j
  have u1 := IntWalk.i64_in (2 * (n : Int)) (by omega)
  have u2 := IntWalk.i64_in (2 * (n : Int) + (s : Int)) (by omega)
  have u3 := IntWalk.i64_in (2 * (n : Int) + (s : Int) + (n : Int)) (by omega)
  have u4 := IntWalk.i64_in (2 * (n : Int) + (s : Int) + (n : Int) + 2) (by omega)
  go_enter Try.func6, Try.ntmps6
  go_upto_region 8 with (first
    | (go_at_call 20
       refine (HWB.out _).mono ?_
       rintro en w1 ⟨rfl, hw⟩
       obtain rfl := hw.symm
       clear hw)
    | (go_at_call 21
       refine (HS.out _).mono ?_
       rintro en w1 ⟨n1, rfl, _, _, hb1, hn1, hk3, hk4⟩
       have HB1 := hide hb1
       have HK3 := hide hk3
       have HK4 := hide hk4
       have HN1 := hide hn1
       clear hb1 hk3 hk4 hn1))
  have kp : Blk (w1.alloc (.cells #[.slice (some ⟨n1, 0, none⟩) 1 1, .slice none 0 0, .slice none 0 0, .slice (some ⟨n1 + 1, 0, none⟩) 1 1, .int .i64 0, .slice none 0 0] 28)) w1.heap.size 28 #[.slice (some ⟨n1, 0, none⟩) 1 1, .slice none 0 0, .slice none 0 0, .slice (some ⟨n1 + 1, 0, none⟩) 1 1, .int .i64 0, .slice none 0 0] := Blk.new w1 28 _
  have k3 : Blk (w1.alloc (.cells #[.slice (some ⟨n1, 0, none⟩) 1 1, .slice none 0 0, .slice none 0 0, .slice (some ⟨n1 + 1, 0, none⟩) 1 1, .int .i64 0, .slice none 0 0] 28)) n1 4 #[.bool false] := HK3.out.alloc _
  have k4 : Blk (w1.alloc (.cells #[.slice (some ⟨n1, 0, none⟩) 1 1, .slice none 0 0, .slice none 0 0, .slice (some ⟨n1 + 1, 0, none⟩) 1 1, .int .i64 0, .slice none 0 0] 28)) (n1 + 1) 3 #[.int .i64 (-1)] := HK4.out.alloc _
  have hb2 : Below w.heap.size w (w1.alloc (.cells #[.slice (some ⟨n1, 0, none⟩) 1 1, .slice none 0 0, .slice none 0 0, .slice (some ⟨n1 + 1, 0, none⟩) 1 1, .int .i64 0, .slice none 0 0] 28)) := HB1.out.alloc HB1.out.size _
  generalize (w1.alloc (.cells #[.slice (some ⟨n1, 0, none⟩) 1 1, .slice none 0 0, .slice none 0 0, .slice (some ⟨n1 + 1, 0, none⟩) 1 1, .int .i64 0, .slice none 0 0] 28)) = W2 at *
  have hpw : w.heap.size ≤ w1.heap.size := HB1.out.size
  clear HB1
  generalize w1.heap.size = pb at *
  have HPW := hide hpw
  have HKP := hide kp
  have HK3 := hide k3
  have HK4 := hide k4
  have HB2 := hide hb2
  clear kp k3 k4 hb2 hpw
  obtain ⟨B, hB⟩ : ∃ B, B = W2.heap.size := ⟨_, rfl⟩
  have HPL : Hid (pb < B) := hide (by rw [hB]; exact HKP.out.lt)
  have HBE := hide hB
  clear hB
  obtain ⟨sz, hsz⟩ : ∃ sz, sz = 2 * (n : Int) + (s : Int) + (n : Int) + 2 := ⟨_, rfl⟩
  rw [← hsz]
  have HSZ := hide hsz
  clear u1 u2 u3 u4 hnI hsz
  have u1 := IntWalk.i64_in (sz - 2) (by have := HSZ.out; omega)
  have hc0 : codeV ((List.range (2 * 0)).map (nestI r s)) = [] := rfl
  have HC0 := hide hc0
  clear hc0
  go_wp2_with fail
  go_loopw [8] (fun tx W => ∃ (i : Nat) (v : Value), tx = .int .i64 (i : Int) ∧ i ≤ n ∧ W.ownsRow B 46 5 v (2 * i) (codeV ((List.range (2 * i)).map (nestI r s))) ∧ Blk W pb 28 #[.slice (some ⟨n1, 0, none⟩) 1 1, .slice none 0 0, .slice none 0 0, .slice (some ⟨n1 + 1, 0, none⟩) 1 1, .int .i64 0, v] ∧ Only (fun k => k = pb) W2 W) (fun tx _ => n - (intOf tx).toNat)
  case atStart => exact ⟨0, _, rfl, Nat.zero_le _, by rw [HC0.out]; exact World.ownsRow_nil _ _ _ _, HKP.out, Only.refl _ _⟩
  case round =>
    obtain ⟨i, v, rfl, hi, hown, hpb, hon⟩ := hrel
    rename World => W
    have u5 := IntWalk.i64_in ((i : Int) + 1) (by omega)
    have c5 : W.cell? ⟨pb, 5, none⟩ = some v := by rw [hpb.cell]; rfl
    have HOWN := hide hown
    have HPB := hide hpb
    have HON := hide hon
    have HBS : Hid (B ≤ W.heap.size) := hide (by rw [HBE.out]; exact hon.size)
    clear hown hpb hon
    by_cases hlt : i < n
    · obtain ⟨li, hli, hwi⟩ := HWI.out i hlt
      obtain ⟨ad, ead, hab, hcl⟩ := HSRC.out (by omega)
      subst ead
      have hbX : Below w.heap.size w W := below_only HB2.out HON.out HPW.out HB2.out.size
      have cl : W.drew.cell? (ad.add i) = some (.int .i64 li) := (hbX.cell (by rw [add_block]; exact hab)).trans (hcl i _ (by simp [ints, hli]))
      have c5d : W.drew.cell? ⟨pb, 5, none⟩ = some v := c5
      have c5a : ∀ o, (W.drew.alloc o).cell? ⟨pb, 5, none⟩ = some v := fun o => (World.cell?_alloc_lt W.drew o _ (by exact HPB.out.lt)).trans c5
      have c5b : ∀ o, (W.alloc o).cell? ⟨pb, 5, none⟩ = some v := fun o => (World.cell?_alloc_lt W o _ (by exact HPB.out.lt)).trans c5
      have c5e : ∀ o, (W.alloc o).drew.cell? ⟨pb, 5, none⟩ = some v := fun o => (World.cell?_alloc_lt W o _ (by exact HPB.out.lt)).trans c5
      have HWX := hide hwi
      have hw0 := HRI.out i (by rw [HRL.out]; exact hlt)
      have e1 := nest_loop (r := r) (s := s) (i := i) (by rw [HRL.out]; exact hlt)
      have e2 := nest_turn (r := r) (s := s) (i := i) (by rw [HRL.out]; exact hlt)
      have e3 : ((3 * r.length + s - i : Nat) : Int) = sz - 2 - (i : Int) := by have := HSZ.out; rw [HRL.out]; omega
      rw [e3] at e2
      have hcode : codeV ((List.range (2 * (i + 1))).map (nestI r s)) = codeV ((List.range (2 * i)).map (nestI r s)) ++ [.int .i64 24, .int .i64 (rAt r i), .int .i64 0, .int .i64 0, .int .i64 0, .int .i64 25, .int .i64 (sz - 2 - (i : Int)), .int .i64 0, .int .i64 0, .int .i64 0] := by
        rw [show 2 * (i + 1) = 2 * i + 2 from rfl, code_next2, e1, e2]
      have HCODE := hide hcode
      have u6 := IntWalk.i64_in (sz - 2 - (i : Int)) (by have := HSZ.out; omega)
      generalize rAt r i = ri at *
      clear hcode e1 e2 e3 hwi hbX hcl hab hli hw0
      go_upto_region 11 with fail
      go_region_law (first
        | (refine step_call2 rfl 20 (.tmp 42) (.const (.int .i64 4194305)) 3 3 rfl Try.f20 Try.func20 (by decide) (by decide) (.int .i64 li) (.int .i64 4194305) (by simp [Act.eval, Act.put]) (by simp [Act.eval]) (fun v' w' => v' = .int .i64 ri ∧ w' = W.drew) ((HWX.out W.drew).mono (fun e w' hh => by
              obtain ⟨rfl, rfl⟩ := hh
              exact ⟨_, rfl, rfl, rfl⟩)) ?_
           rintro v4 w4 ⟨rfl, rfl⟩)
        | (refine step_append_own rfl (.tmp 38) (.tmp 50) 26 rfl B 46 i46 (.agg #[.int .i64 0, .int .i64 0, .int .i64 0, .int .i64 0, .int .i64 0]) 5 40 Try.underlying26 hi46 hz0 hz1 hz2 rfl (by decide) v (2 * i) (codeV ((List.range (2 * i)).map (nestI r s))) (by simp [Act.eval, Act.put]) (by first | exact (HOWN.out.alloc _).drew | exact HOWN.out.drew.alloc _) ⟨_, 0, none⟩ 2 2 [.int .i64 24, .int .i64 ri, .int .i64 0, .int .i64 0, .int .i64 0, .int .i64 25, .int .i64 (sz - 2 - (i : Int)), .int .i64 0, .int .i64 0, .int .i64 0] (by simp [Act.eval, Act.put]; rfl) rfl (by first | exact ins_cells W [.int .i64 24, .int .i64 ri, .int .i64 0, .int .i64 0, .int .i64 0, .int .i64 25, .int .i64 (sz - 2 - (i : Int)), .int .i64 0, .int .i64 0, .int .i64 0] 46 | exact ins_cells W.drew [.int .i64 24, .int .i64 ri, .int .i64 0, .int .i64 0, .int .i64 0, .int .i64 25, .int .i64 (sz - 2 - (i : Int)), .int .i64 0, .int .i64 0, .int .i64 0] 46) (by simp [Value.oneCell']) (by unfold maxLen; omega) (by omega) (by have h1 := HBS.out; first | (show B ≤ (W.alloc (.cells [.int .i64 24, .int .i64 ri, .int .i64 0, .int .i64 0, .int .i64 0, .int .i64 25, .int .i64 (sz - 2 - (i : Int)), .int .i64 0, .int .i64 0, .int .i64 0].toArray 46)).heap.size; simp; omega) | (simp; omega)) ?_
           intro v' w10 hown' hgrow0
           have hgrow : (W.drew.alloc (.cells [.int .i64 24, .int .i64 ri, .int .i64 0, .int .i64 0, .int .i64 0, .int .i64 25, .int .i64 (sz - 2 - (i : Int)), .int .i64 0, .int .i64 0, .int .i64 0].toArray 46)).grownBy w10 v.ownBlock := hgrow0
           clear hgrow0
           obtain ⟨gq, cq, ev, hq1, hq2⟩ := own_form hown' (by omega)
           subst ev
           have k10 := (HPB.out.drew.alloc (.cells [.int .i64 24, .int .i64 ri, .int .i64 0, .int .i64 0, .int .i64 0, .int .i64 25, .int .i64 (sz - 2 - (i : Int)), .int .i64 0, .int .i64 0, .int .i64 0].toArray 46)).grown hgrow (fun e => by have := (HOWN.out.lt pb e.symm).1; have := HPL.out; omega)
           have c5 : w10.cell? ⟨pb, 5, none⟩ = some v := by rw [k10.cell]; rfl
           have f5 := k10.frozen 5
           have HOWN2 := hide hown'
           have HG2 := hide hgrow
           have HK10 := hide k10
           clear hown' hgrow k10))
      all_goals
        go_wp2_with fail
        go_roundw
        case rel => exact ⟨i + 1, _, by go_num, by omega, by rw [HCODE.out]; exact own_far HOWN2.out (fun e => by have := (HOWN2.out.lt pb e).1; have := HPL.out; omega) _, HK10.out.set_ 5 _, ((HON.out.drew.alloc _).grown HG2.out (fun k hk => .inr (by rw [← HBE.out]; exact (HOWN.out.lt k hk).1))).setCell (.inl rfl) _⟩
        case measure => simp [intOf]; omega
    · have hil : i = n := by omega
      have hown := HOWN.out
      rw [hil] at hown
      clear HOWN
      have HOWN := hide hown
      have hno : ¬ (i : Int) < (n : Int) := by omega
      clear u5 hil hown hi hlt
      have C0 := hide c5
      clear c5
      go_wp2_with fail
      go_loopw [9] (fun tx W => ∃ (j : Nat) (v : Value), tx = .int .i64 (j : Int) ∧ j ≤ s ∧ W.ownsRow B 46 5 v (2 * n + j) (codeV ((List.range (2 * n + j)).map (nestI r s))) ∧ Blk W pb 28 #[.slice (some ⟨n1, 0, none⟩) 1 1, .slice none 0 0, .slice none 0 0, .slice (some ⟨n1 + 1, 0, none⟩) 1 1, .int .i64 0, v] ∧ Only (fun k => k = pb) W2 W) (fun tx _ => s - (intOf tx).toNat)
      case atStart => exact ⟨0, v, rfl, Nat.zero_le _, HOWN.out, HPB.out, HON.out⟩
      case round =>
        clear HOWN HPB HON HBS C0 hno
        obtain ⟨j, v, rfl, hj, hown, hpb, hon⟩ := hrel
        rename World => W
        have u5 := IntWalk.i64_in ((j : Int) + 1) (by omega)
        have c5 : W.cell? ⟨pb, 5, none⟩ = some v := by rw [hpb.cell]; rfl
        have HOWN := hide hown
        have HPB := hide hpb
        have HON := hide hon
        have HBS : Hid (B ≤ W.heap.size) := hide (by rw [HBE.out]; exact hon.size)
        clear hown hpb hon
        by_cases hlt : j < s
        · have e1 := nest_row (r := r) (s := s) (k := 2 * n + j) (by rw [HRL.out]; omega) (by rw [HRL.out]; omega)
          have hcode : codeV ((List.range (2 * n + (j + 1))).map (nestI r s)) = codeV ((List.range (2 * n + j)).map (nestI r s)) ++ [.int .i64 33, .int .i64 0, .int .i64 0, .int .i64 0, .int .i64 0] := by
            rw [← Nat.add_assoc, code_next, e1]
          have HCODE := hide hcode
          clear hcode e1
          go_wp2_with (at_builtin
                       refine wpList_append_own _ rfl (.tmp 59) (.tmp 61) 26 rfl B 46 i46 (.agg #[.int .i64 0, .int .i64 0, .int .i64 0, .int .i64 0, .int .i64 0]) 5 40 Try.underlying26 hi46 hz0 hz1 hz2 rfl (by decide) _ _ _ rfl (HOWN.out.alloc _) ⟨W.heap.size, 0, none⟩ 1 1 [.int .i64 33, .int .i64 0, .int .i64 0, .int .i64 0, .int .i64 0] rfl rfl (ins_cells W [.int .i64 33, .int .i64 0, .int .i64 0, .int .i64 0, .int .i64 0] 46) (by simp [Value.oneCell']) (by unfold maxLen; omega) (by omega) (by have := HON.out.size; have := HBS.out; simp; omega) ?_
                       intro v' w10 hown' hgrow _
                       obtain ⟨gq, cq, ev, hq1, hq2⟩ := own_form hown' (by omega)
                       subst ev
                       have k10 := (HPB.out.alloc (.cells [.int .i64 33, .int .i64 0, .int .i64 0, .int .i64 0, .int .i64 0].toArray 46)).grown hgrow (fun e => by have := (HOWN.out.lt pb e.symm).1; have := HPL.out; omega)
                       have c5 : w10.cell? ⟨pb, 5, none⟩ = some v := by rw [k10.cell]; rfl
                       have f5 := k10.frozen 5
                       have HOWN2 := hide hown'
                       have HG2 := hide hgrow
                       have HK10 := hide k10
                       clear hown' hgrow k10)
          go_roundw
          case rel => exact ⟨j + 1, _, by go_num, by omega, by rw [HCODE.out]; exact own_far HOWN2.out (fun e => by have := (HOWN2.out.lt pb e).1; have := HPL.out; omega) _, HK10.out.set_ 5 _, ((HON.out.alloc _).grown HG2.out (fun k hk => .inr (by rw [← HBE.out]; exact (HOWN.out.lt k hk).1))).setCell (.inl rfl) _⟩
          case measure => simp [intOf]; omega
        · have hil : j = s := by omega
          have hown := HOWN.out
          rw [hil] at hown
          clear HOWN
          have HOWN := hide hown
          have hno : ¬ (j : Int) < (s : Int) := by omega
          clear u5 hil hown hj hlt
          have C0 := hide c5
          clear c5
          have u7 := IntWalk.i64_in ((n : Int) - 1) (by omega)
          go_wp2_with fail
          go_loopw [10] (fun tx W => ∃ (k : Nat) (v : Value), tx = .int .i64 (k : Int) ∧ k ≤ n ∧ W.ownsRow B 46 5 v (2 * n + s + k) (codeV ((List.range (2 * n + s + k)).map (nestI r s))) ∧ Blk W pb 28 #[.slice (some ⟨n1, 0, none⟩) 1 1, .slice none 0 0, .slice none 0 0, .slice (some ⟨n1 + 1, 0, none⟩) 1 1, .int .i64 0, v] ∧ Only (fun k => k = pb) W2 W) (fun tx _ => n - (intOf tx).toNat)
          case atStart => exact ⟨0, v, rfl, Nat.zero_le _, HOWN.out, HPB.out, HON.out⟩
          case round =>
            clear HOWN HPB HON HBS C0 hno
            obtain ⟨k, v, rfl, hk, hown, hpb, hon⟩ := hrel
            rename World => W
            have u5 := IntWalk.i64_in ((k : Int) + 1) (by omega)
            have c5 : W.cell? ⟨pb, 5, none⟩ = some v := by rw [hpb.cell]; rfl
            have HOWN := hide hown
            have HPB := hide hpb
            have HON := hide hon
            have HBS : Hid (B ≤ W.heap.size) := hide (by rw [HBE.out]; exact hon.size)
            clear hown hpb hon
            by_cases hlt : k < n
            · have u8 := IntWalk.i64_in ((n : Int) - 1 - (k : Int)) (by omega)
              have u9 := IntWalk.i64_in (2 * ((n : Int) - 1 - (k : Int))) (by omega)
              have u10 := IntWalk.i64_in (2 * ((n : Int) - 1 - (k : Int)) + 1) (by omega)
              have e1 := nest_again (r := r) (s := s) (k := 2 * n + s + k) (by rw [HRL.out]; omega) (by rw [HRL.out]; omega)
              have e2 : ((2 * (3 * r.length + s - 1 - (2 * n + s + k)) + 1 : Nat) : Int) = 2 * ((n : Int) - 1 - (k : Int)) + 1 := by rw [HRL.out]; omega
              rw [e2] at e1
              have hcode : codeV ((List.range (2 * n + s + (k + 1))).map (nestI r s)) = codeV ((List.range (2 * n + s + k)).map (nestI r s)) ++ [.int .i64 27, .int .i64 (2 * ((n : Int) - 1 - (k : Int)) + 1), .int .i64 0, .int .i64 0, .int .i64 0] := by
                rw [← Nat.add_assoc, code_next, e1]
              have HCODE := hide hcode
              clear hcode e1 e2
              go_wp2_with (at_builtin
                           refine wpList_append_own _ rfl (.tmp 70) (.tmp 78) 26 rfl B 46 i46 (.agg #[.int .i64 0, .int .i64 0, .int .i64 0, .int .i64 0, .int .i64 0]) 5 40 Try.underlying26 hi46 hz0 hz1 hz2 rfl (by decide) _ _ _ rfl (HOWN.out.alloc _) ⟨W.heap.size, 0, none⟩ 1 1 [.int .i64 27, .int .i64 (2 * ((n : Int) - 1 - (k : Int)) + 1), .int .i64 0, .int .i64 0, .int .i64 0] rfl rfl (ins_cells W [.int .i64 27, .int .i64 (2 * ((n : Int) - 1 - (k : Int)) + 1), .int .i64 0, .int .i64 0, .int .i64 0] 46) (by simp [Value.oneCell']) (by unfold maxLen; omega) (by omega) (by have := HON.out.size; have := HBS.out; simp; omega) ?_
                           intro v' w10 hown' hgrow _
                           obtain ⟨gq, cq, ev, hq1, hq2⟩ := own_form hown' (by omega)
                           subst ev
                           have k10 := (HPB.out.alloc (.cells [.int .i64 27, .int .i64 (2 * ((n : Int) - 1 - (k : Int)) + 1), .int .i64 0, .int .i64 0, .int .i64 0].toArray 46)).grown hgrow (fun e => by have := (HOWN.out.lt pb e.symm).1; have := HPL.out; omega)
                           have c5 : w10.cell? ⟨pb, 5, none⟩ = some v := by rw [k10.cell]; rfl
                           have f5 := k10.frozen 5
                           have HOWN2 := hide hown'
                           have HG2 := hide hgrow
                           have HK10 := hide k10
                           clear hown' hgrow k10)
              go_roundw
              case rel => exact ⟨k + 1, _, by go_num, by omega, by rw [HCODE.out]; exact own_far HOWN2.out (fun e => by have := (HOWN2.out.lt pb e).1; have := HPL.out; omega) _, HK10.out.set_ 5 _, ((HON.out.alloc _).grown HG2.out (fun k hk => .inr (by rw [← HBE.out]; exact (HOWN.out.lt k hk).1))).setCell (.inl rfl) _⟩
              case measure => simp [intOf]; omega
            · have hil : k = n := by omega
              have hown := HOWN.out
              rw [hil] at hown
              clear HOWN
              have HOWN := hide hown
              have hno : ¬ (k : Int) < (n : Int) := by omega
              clear u5 hil hown hk hlt
              have C0 := hide c5
              clear c5
              have e1 := nest_ins (r := r) (s := s)
              have e2 := nest_end (r := r) (s := s)
              rw [HRL.out] at e1 e2
              have hcode : codeV ((List.range (3 * n + s + 2)).map (nestI r s)) = codeV ((List.range (2 * n + s + n)).map (nestI r s)) ++ [.int .i64 31, .int .i64 0, .int .i64 0, .int .i64 0, .int .i64 0, .int .i64 0, .int .i64 0, .int .i64 0, .int .i64 0, .int .i64 0] := by
                rw [code_next2, e1, e2, show 2 * n + s + n = 3 * n + s by omega]
              have HCODE := hide hcode
              clear hcode e1 e2
              have c5 := C0.out
              have u8 := IntWalk.i64_in ((s : Int) + 1) (by omega)
              go_upto_region 23 with (at_builtin
                                      refine wpList_append_own _ rfl (.tmp 82) (.tmp 85) 26 rfl B 46 i46 (.agg #[.int .i64 0, .int .i64 0, .int .i64 0, .int .i64 0, .int .i64 0]) 5 40 Try.underlying26 hi46 hz0 hz1 hz2 rfl (by decide) _ _ _ rfl (HOWN.out.alloc _) ⟨W.heap.size, 0, none⟩ 2 2 [.int .i64 31, .int .i64 0, .int .i64 0, .int .i64 0, .int .i64 0, .int .i64 0, .int .i64 0, .int .i64 0, .int .i64 0, .int .i64 0] rfl rfl (ins_cells W [.int .i64 31, .int .i64 0, .int .i64 0, .int .i64 0, .int .i64 0, .int .i64 0, .int .i64 0, .int .i64 0, .int .i64 0, .int .i64 0] 46) (by simp [Value.oneCell']) (by unfold maxLen; omega) (by omega) (by have := HON.out.size; have := HBS.out; simp; omega) ?_
                                      intro v' w10 hown' hgrow _
                                      obtain ⟨gq, cq, ev, hq1, hq2⟩ := own_form hown' (by omega)
                                      subst ev
                                      have k10 := (HPB.out.alloc (.cells [.int .i64 31, .int .i64 0, .int .i64 0, .int .i64 0, .int .i64 0, .int .i64 0, .int .i64 0, .int .i64 0, .int .i64 0, .int .i64 0].toArray 46)).grown hgrow (fun e => by have := (HOWN.out.lt pb e.symm).1; have := HPL.out; omega)
                                      have c5 : w10.cell? ⟨pb, 5, none⟩ = some v := by rw [k10.cell]; rfl
                                      have f5 := k10.frozen 5
                                      have HOWN2 := hide hown'
                                      have HG2 := hide hgrow
                                      have HK10 := hide k10
                                      clear hown' hgrow k10)
              have hon3 : Only (fun k => k = pb) W2 (w10.setCell ⟨pb, 5, none⟩ (.slice (some ⟨gq, 0, none⟩) (2 * n + s + n + 2) cq)) := ((HON.out.alloc _).grown HG2.out (fun k hk => .inr (by rw [← HBE.out]; exact (HOWN.out.lt k hk).1))).setCell (.inl rfl) _
              have kp3 : Blk (w10.setCell ⟨pb, 5, none⟩ (.slice (some ⟨gq, 0, none⟩) (2 * n + s + n + 2) cq)) pb 28 #[.slice (some ⟨n1, 0, none⟩) 1 1, .slice none 0 0, .slice none 0 0, .slice (some ⟨n1 + 1, 0, none⟩) 1 1, .int .i64 0, .slice (some ⟨gq, 0, none⟩) (2 * n + s + n + 2) cq] := HK10.out.set_ 5 _
              have hlen : ((List.range (3 * n + s + 2)).map (nestI r s)).length = 3 * n + s + 2 := by simp
              have hown3 : World.ownsRow (w10.setCell ⟨pb, 5, none⟩ (.slice (some ⟨gq, 0, none⟩) (2 * n + s + n + 2) cq)) B 46 5 (.slice (some ⟨gq, 0, none⟩) (2 * n + s + n + 2) cq) (2 * n + s + n + 2) (codeV ((List.range (3 * n + s + 2)).map (nestI r s))) := by
                rw [HCODE.out]
                exact own_far HOWN2.out (p := ⟨pb, 5, none⟩) (fun e => by have := (HOWN2.out.lt pb e).1; have := HPL.out; omega) _
              have k33 : Blk (w10.setCell ⟨pb, 5, none⟩ (.slice (some ⟨gq, 0, none⟩) (2 * n + s + n + 2) cq)) n1 4 #[.bool false] := HK3.out.only hon3 (fun e => HK3.out.ne_ HKP.out (by decide) e)
              have k43 : Blk (w10.setCell ⟨pb, 5, none⟩ (.slice (some ⟨gq, 0, none⟩) (2 * n + s + n + 2) cq)) (n1 + 1) 3 #[.int .i64 (-1)] := HK4.out.only hon3 (fun e => HK4.out.ne_ HKP.out (by decide) e)
              have hb3 : Below w.heap.size w (w10.setCell ⟨pb, 5, none⟩ (.slice (some ⟨gq, 0, none⟩) (2 * n + s + n + 2) cq)) := below_only HB2.out hon3 HPW.out HB2.out.size
              try rw [Exit.noGoto_ret]
              generalize (w10.setCell ⟨pb, 5, none⟩ (.slice (some ⟨gq, 0, none⟩) (2 * n + s + n + 2) cq)) = W3 at *
              rw [show 2 * n + s + n + 2 = 3 * n + s + 2 by omega] at hown3 kp3
              have hmem : PMem W3 (stackV n1 0 0 gq (3 * n + s + 2) cq) (nestP r s) := by
                have := own_mem (cap := cq) (g := gq) (vb := 0) (cd := (List.range (3 * n + s + 2)).map (nestI r s)) k33 k43 (nv := 0) (by omega) (fun h => absurd h (by omega)) (by rw [hlen]; exact hown3) (by rw [hlen]; unfold maxLen; omega)
                rw [hlen] at this
                unfold nestP
                rw [HRL.out]
                exact this
              have hmv : Mv W3 (stackV n1 0 0 gq (3 * n + s + 2) cq).oa (stackV n1 0 0 gq (3 * n + s + 2) cq).oc (nestP r s).os := own_mv k43
              have hval : (stackV n1 0 0 gq (3 * n + s + 2) cq).val = .agg #[.slice (some ⟨n1, 0, none⟩) 1 1, .slice none 0 0, .slice none 0 0, .slice (some ⟨n1 + 1, 0, none⟩) 1 1, .int .i64 0, .slice (some ⟨gq, 0, none⟩) (3 * n + s + 2) cq] := rfl
              have hrun := nest_runs hmem hmv HRI.out (by rw [HRL.out]; exact hn) (by omega)
              rw [hval] at hrun
              clear hval
              obtain ⟨LN, hLN⟩ : ∃ LN, LN = 3 * n + s + 2 := ⟨_, rfl⟩
              rw [← hLN] at hrun kp3
              clear hLN
              have HRUN := hide hrun
              have q0 : W3.cell? ⟨pb, 0, none⟩ = some (.slice (some ⟨n1, 0, none⟩) 1 1) := by rw [kp3.cell]; rfl
              have q1 : W3.cell? ⟨pb, 1, none⟩ = some (.slice none 0 0) := by rw [kp3.cell]; rfl
              have q2 : W3.cell? ⟨pb, 2, none⟩ = some (.slice none 0 0) := by rw [kp3.cell]; rfl
              have q3 : W3.cell? ⟨pb, 3, none⟩ = some (.slice (some ⟨n1 + 1, 0, none⟩) 1 1) := by rw [kp3.cell]; rfl
              have q4 : W3.cell? ⟨pb, 4, none⟩ = some (.int .i64 0) := by rw [kp3.cell]; rfl
              have q5 : W3.cell? ⟨pb, 5, none⟩ = some (.slice (some ⟨gq, 0, none⟩) LN cq) := by rw [kp3.cell]; rfl
              have HB3 := hide hb3
              have HBI : Hid (∀ t, 0 ≤ bodyV r s t ∧ bodyV r s t ≤ 4611686018427387904) := hide (bodyV_in r (by omega))
              have HBS2 : Hid (∀ t, bodyV r s (t + 1) = plusV (timesI (rAt r (n - 1 - t)) (plusV 1 (bodyV r s t))) 3) := hide (fun t => by rw [← HRL.out]; rfl)
              have HW0 : Hid (wantV r s = if n = 0 then (s : Int) + 2 else bodyV r s n + 1) := hide (by rw [← HRL.out]; rfl)
              have HC5 := hide q5
              clear hon3 kp3 hown3 k33 k43 hmem hmv hb3 hrun HG2 HK10 HOWN2 HOWN HPB HBS HKP HK3 HK4 c5 f5 hq1 hq2 hlen C0 HCODE
              have Q0 := hide q0
              have Q1 := hide q1
              have Q2 := hide q2
              have Q3 := hide q3
              have Q4 := hide q4
              have Q5 := hide q5
              go_wp2_with fail
              clear q0 q1 q2 q3 q4 q5
              go_loopw [11, 12] (fun tb tx X => ∃ i : Nat, tx = .int .i64 ((i : Int) - 1) ∧ i ≤ n ∧ tb = .int .i64 (bodyV r s (n - i)) ∧ X = W3) (fun _ tx _ => (intOf tx + 1).toNat)
              case atStart => exact ⟨n, rfl, Nat.le_refl _, by rw [Nat.sub_self]; rfl, rfl⟩
              case round =>
                obtain ⟨i, rfl, hi, rfl, hX⟩ := hrel
                rename World => X
                subst hX
                match i, hi with
                | 0, _ =>
                  have hno0 : ¬ (0 : Int) ≤ ((0 : Nat) : Int) - 1 := by omega
                  rw [Nat.sub_zero] at *
                  have hbn := HBI.out n
                  have q0 := Q0.out
                  have q1 := Q1.out
                  have q2 := Q2.out
                  have q3 := Q3.out
                  have q4 := Q4.out
                  have q5 := Q5.out
                  have hw0 := HW0.out
                  by_cases hn0 : n = 0
                  · rw [if_pos hn0] at hw0
                    have hrun := HRUN.out.1 (by rw [hw0]; omega)
                    rw [hw0] at hrun
                    have u9 := IntWalk.i64_in (bodyV r s n + 1) (by omega)
                    have u10 := IntWalk.i64_in ((s : Int) + 2) (by omega)
                    have hno1 : ¬ (1152921504606846976 : Int) < (s : Int) + 2 := by omega
                    obtain ⟨wv, hwv⟩ : ∃ wv, (s : Int) + 2 = wv := ⟨_, rfl⟩
                    rw [hwv] at hrun hno1
                    have u11 : IntKind.i64.wrap ((s : Int) + 2) = wv := u10.trans hwv
                    have HR := hide hrun
                    generalize bodyV r s n = bv at *
                    clear hw0 hrun hbn u10 hwv
                    subst hn0
                    go_upto_region 30 with (go_at_call 13
                                            refine HR.out.mono ?_
                                            rintro en w4 ⟨oa4, n4, c4, rfl, hb4⟩
                                            have HB4 := hide hb4
                                            clear hb4)
                    have kf : Blk ((w4.alloc (.cells #[.slice oa4 n4 c4, .int .i64 (wv)] 32)).alloc (.cells #[.int .i64 0, .int .i64 0] 35)) (w4.heap.size + 1) 35 #[.int .i64 0, .int .i64 0] := by
                      have := Blk.new (w4.alloc (.cells #[.slice oa4 n4 c4, .int .i64 (wv)] 32)) 35 #[.int .i64 0, .int .i64 0]
                      simpa using this
                    have kc : Blk ((w4.alloc (.cells #[.slice oa4 n4 c4, .int .i64 (wv)] 32)).alloc (.cells #[.int .i64 0, .int .i64 0] 35)) w4.heap.size 32 #[.slice oa4 n4 c4, .int .i64 (wv)] := (Blk.new w4 32 _).alloc _
                    have h1 := HB3.out.trans (HB4.out.mono HB3.out.size)
                    have h2 : Below w.heap.size w ((w4.alloc (.cells #[.slice oa4 n4 c4, .int .i64 (wv)] 32)).alloc (.cells #[.int .i64 0, .int .i64 0] 35)) := (h1.alloc h1.size _).alloc (by have := h1.size; simp; omega) _
                    have HB7 := hide h2
                    clear h1 h2 HB4
                    generalize ((w4.alloc (.cells #[.slice oa4 n4 c4, .int .i64 (wv)] 32)).alloc (.cells #[.int .i64 0, .int .i64 0] 35)) = W7 at *
                    generalize w4.heap.size = fb at *
                    have f0 : W7.cell? ⟨fb + 1, 0, none⟩ = some (.int .i64 0) := by rw [kf.cell]; rfl
                    have f1 : W7.cell? ⟨fb + 1, 1, none⟩ = some (.int .i64 0) := by rw [kf.cell]; rfl
                    have k1 : W7.cell? ⟨fb, 1, none⟩ = some (.int .i64 (wv)) := by rw [kc.cell]; rfl
                    clear kf kc HR HRUN q0 q1 q2 q3 q4 q5 HB3
                    go_wp2_with (go_at_call 10
                                 refine (head_i _).mono ?_
                                 rintro en w20 ⟨rfl, hb20⟩
                                 have HB20 := hide hb20
                                 clear hb20)
                    go_ret
                    exact ⟨rfl, HB7.out.trans (HB20.out.mono HB7.out.size)⟩
                  · rw [if_neg hn0] at hw0
                    have hq : ((n : Int) == 0) = false := by simpa using hn0
                    have u10 := IntWalk.i64_in (bodyV r s n + 1) (by omega)
                    obtain ⟨wv, hwv⟩ : ∃ wv, bodyV r s n + 1 = wv := ⟨_, rfl⟩
                    have u9 : IntKind.i64.wrap (bodyV r s n + 1) = wv := u10.trans hwv
                    clear u10
                    by_cases hle : wv ≤ 1152921504606846976
                    · have hrun := HRUN.out.1 (by rw [hw0]; omega)
                      rw [hw0, hwv] at hrun
                      have HR := hide hrun
                      have hno1 : ¬ (1152921504606846976 : Int) < wv := by omega
                      clear hwv
                      generalize bodyV r s n = bv at *
                      clear hw0 hn0 hrun hbn hle
                      go_upto_region 30 with (go_at_call 13
                                              refine HR.out.mono ?_
                                              rintro en w4 ⟨oa4, n4, c4, rfl, hb4⟩
                                              have HB4 := hide hb4
                                              clear hb4)
                      have kf : Blk ((w4.alloc (.cells #[.slice oa4 n4 c4, .int .i64 (wv)] 32)).alloc (.cells #[.int .i64 0, .int .i64 0] 35)) (w4.heap.size + 1) 35 #[.int .i64 0, .int .i64 0] := by
                        have := Blk.new (w4.alloc (.cells #[.slice oa4 n4 c4, .int .i64 (wv)] 32)) 35 #[.int .i64 0, .int .i64 0]
                        simpa using this
                      have kc : Blk ((w4.alloc (.cells #[.slice oa4 n4 c4, .int .i64 (wv)] 32)).alloc (.cells #[.int .i64 0, .int .i64 0] 35)) w4.heap.size 32 #[.slice oa4 n4 c4, .int .i64 (wv)] := (Blk.new w4 32 _).alloc _
                      have h1 := HB3.out.trans (HB4.out.mono HB3.out.size)
                      have h2 : Below w.heap.size w ((w4.alloc (.cells #[.slice oa4 n4 c4, .int .i64 (wv)] 32)).alloc (.cells #[.int .i64 0, .int .i64 0] 35)) := (h1.alloc h1.size _).alloc (by have := h1.size; simp; omega) _
                      have HB7 := hide h2
                      clear h1 h2 HB4
                      generalize ((w4.alloc (.cells #[.slice oa4 n4 c4, .int .i64 (wv)] 32)).alloc (.cells #[.int .i64 0, .int .i64 0] 35)) = W7 at *
                      generalize w4.heap.size = fb at *
                      have f0 : W7.cell? ⟨fb + 1, 0, none⟩ = some (.int .i64 0) := by rw [kf.cell]; rfl
                      have f1 : W7.cell? ⟨fb + 1, 1, none⟩ = some (.int .i64 0) := by rw [kf.cell]; rfl
                      have k1 : W7.cell? ⟨fb, 1, none⟩ = some (.int .i64 (wv)) := by rw [kc.cell]; rfl
                      clear kf kc HR HRUN q0 q1 q2 q3 q4 q5 HB3
                      go_wp2_with (go_at_call 10
                                   refine (head_i _).mono ?_
                                   rintro en w20 ⟨rfl, hb20⟩
                                   have HB20 := hide hb20
                                   clear hb20)
                      go_ret
                      exact ⟨rfl, HB7.out.trans (HB20.out.mono HB7.out.size)⟩
                    · have hrun := HRUN.out.2 (by rw [hw0]; omega)
                      have HR := hide hrun
                      have hno1 : (1152921504606846976 : Int) < wv := by omega
                      clear hwv
                      generalize bodyV r s n = bv at *
                      clear hw0 hn0 hrun hbn hle
                      go_upto_region 30 with (go_at_call 13
                                              refine HR.out.mono ?_
                                              rintro en w4 ⟨oa4, n4, c4, rfl, hb4⟩
                                              have HB4 := hide hb4
                                              clear hb4)
                      have kf : Blk ((w4.alloc (.cells #[.slice oa4 n4 c4, .int .i64 (0)] 32)).alloc (.cells #[.int .i64 97, .int .i64 0] 35)) (w4.heap.size + 1) 35 #[.int .i64 97, .int .i64 0] := by
                        have := Blk.new (w4.alloc (.cells #[.slice oa4 n4 c4, .int .i64 (0)] 32)) 35 #[.int .i64 97, .int .i64 0]
                        simpa using this
                      have kc : Blk ((w4.alloc (.cells #[.slice oa4 n4 c4, .int .i64 (0)] 32)).alloc (.cells #[.int .i64 97, .int .i64 0] 35)) w4.heap.size 32 #[.slice oa4 n4 c4, .int .i64 (0)] := (Blk.new w4 32 _).alloc _
                      have h1 := HB3.out.trans (HB4.out.mono HB3.out.size)
                      have h2 : Below w.heap.size w ((w4.alloc (.cells #[.slice oa4 n4 c4, .int .i64 (0)] 32)).alloc (.cells #[.int .i64 97, .int .i64 0] 35)) := (h1.alloc h1.size _).alloc (by have := h1.size; simp; omega) _
                      have HB7 := hide h2
                      clear h1 h2 HB4
                      generalize ((w4.alloc (.cells #[.slice oa4 n4 c4, .int .i64 (0)] 32)).alloc (.cells #[.int .i64 97, .int .i64 0] 35)) = W7 at *
                      generalize w4.heap.size = fb at *
                      have f0 : W7.cell? ⟨fb + 1, 0, none⟩ = some (.int .i64 97) := by rw [kf.cell]; rfl
                      have f1 : W7.cell? ⟨fb + 1, 1, none⟩ = some (.int .i64 0) := by rw [kf.cell]; rfl
                      have k1 : W7.cell? ⟨fb, 1, none⟩ = some (.int .i64 (0)) := by rw [kc.cell]; rfl
                      clear kf kc HR HRUN q0 q1 q2 q3 q4 q5 HB3
                      go_wp2_with (go_at_call 10
                                   refine (head_i _).mono ?_
                                   rintro en w20 ⟨rfl, hb20⟩
                                   have HB20 := hide hb20
                                   clear hb20)
                      go_ret
                      exact ⟨rfl, HB7.out.trans (HB20.out.mono HB7.out.size)⟩
                | i + 1, hi =>
                  have ei : ((i + 1 : Nat) : Int) - 1 = (i : Int) := by omega
                  rw [ei]
                  have hi0 : (0 : Int) ≤ (i : Int) := by omega
                  have u9 := IntWalk.i64_in ((i : Int) - 1) (by omega)
                  have hiN : i < n := by omega
                  obtain ⟨li, hli, hwi⟩ := HWI.out i (by omega)
                  obtain ⟨ad, ead, hab, hcl⟩ := HSRC.out (by omega)
                  subst ead
                  have cl : X.cell? (ad.add i) = some (.int .i64 li) := (HB3.out.cell (by rw [add_block]; exact hab)).trans (hcl i _ (by simp [ints, hli]))
                  have eb : bodyV r s (n - i) = plusV (timesI (rAt r i) (plusV 1 (bodyV r s (n - (i + 1))))) 3 := by
                    have := HBS2.out (n - (i + 1))
                    rw [show n - (i + 1) + 1 = n - i by omega, show n - 1 - (n - (i + 1)) = i by omega] at this
                    exact this
                  have hb := HBI.out (n - (i + 1))
                  have hri := HRI.out i (by rw [HRL.out]; exact hiN)
                  have HWX := hide hwi
                  generalize rAt r i = ri at *
                  generalize bodyV r s (n - (i + 1)) = bv at *
                  have hp := plusV_in (a := 1) (b := bv) (by omega) hb.1 hb.2
                  have HP1 := hide (fun W => sum_i W 1 bv (by omega) (by omega) hb.1 hb.2)
                  generalize plusV 1 bv = pv at *
                  have ht := timesI_in ri pv
                  have HT1 := hide (fun W => times_j W ri pv hri.1 (by omega) hp.1 hp.2)
                  generalize timesI ri pv = tv at *
                  have HQ1 := hide (fun W => sum_i W tv 3 ht.1 ht.2 (by omega) (by omega))
                  rw [← eb] at HQ1
                  generalize hnb : bodyV r s (n - i) = nb at *
                  have HNB := hide hnb
                  clear hnb
                  have HRL2 := hide hi
                  clear eb hb hri hp ht hwi hcl hab hli ei hi
                  go_wp2_with (first
                               | (go_at_call 20
                                  with_reducible refine (HWX.out _).mono ?_
                                  rintro en w1 ⟨rfl, hw⟩
                                  obtain rfl := hw.symm
                                  clear hw)
                               | (go_at_call 22
                                  with_reducible refine (HP1.out _).mono ?_
                                  rintro en w1 ⟨rfl, hw⟩
                                  obtain rfl := hw.symm
                                  clear hw)
                               | (go_at_call 23
                                  with_reducible refine (HT1.out _).mono ?_
                                  rintro en w1 ⟨rfl, hw⟩
                                  obtain rfl := hw.symm
                                  clear hw)
                               | (go_at_call 22
                                  with_reducible refine (HQ1.out _).mono ?_
                                  rintro en w1 ⟨rfl, hw⟩
                                  obtain rfl := hw.symm
                                  clear hw))
                  go_roundw
                  case rel => exact ⟨i, rfl, by omega, by rw [HNB.out], by first | trivial | rfl⟩
                  case measure => first | (simp [intOf]; done) | (simp [intOf]; omega)
end Go.Proofs.Ytjflllfkgbhemaa
