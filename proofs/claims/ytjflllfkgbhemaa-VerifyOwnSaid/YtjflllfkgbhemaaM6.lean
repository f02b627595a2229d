/- Several texts in one: Several texts in one: A plain law: what the verifier tells of a straight row of numbers, sums and one store. A plain law: what run tells of a straight row of numbers, sums and one store. Several texts in one: The walk of within. A copy of elements of any size into a row that is known whole, as a law for the walk. The walk of LendInts. A program that is lent, in memory. The walk of LendProgram. The walk of Far. Conditions: those of each. -/
import Derived.Test.YtjflllfkgbhemaaV33
import Derived.Test.YtjflllfkgbhemaaVx
import Derived.Test.YtjflllfkgbhemaaV35
import Derived.Test.YtjflllfkgbhemaaV17
import Derived.Laws.IdiomCopy
import Derived.Test.YtjflllfkgbhemaaVs
/- Several texts in one: A plain law: what the verifier tells of a straight row of numbers, sums and one store. A plain law: what run tells of a straight row of numbers, sums and one store. Conditions: those of each. -/
/- A plain law: what the verifier tells of a straight row of numbers, sums and one store. Conditions: the counts that are named. -/
namespace Go.Proofs.Ytjflllfkgbhemaa
open Go.RowKit Go.PlainAid
def numI (i : Nat) : Ins := ⟨1, i, 0, 0, 0⟩
def addI : Ins := ⟨17, 0, 0, 0, 0⟩
def stackC (n m : Nat) : List Ins := (List.range n).map numI ++ List.replicate m addI ++ [⟨28, 0, 0, 0, 0⟩, ⟨0, 0, 0, 0, 0⟩]
def stackP (n m : Nat) : Prg := ⟨[false], [⟨0, 0, 0⟩], [], [-1], 0, stackC n m⟩
def stk (h : Nat) : St := ⟨true, ⟨(List.replicate h 1).toArray⟩, [], 0⟩
theorem stack_len (n m : Nat) : (stackP n m).cd.length = n + m + 2 := by simp [stackP, stackC]; omega
theorem stack_num {n m i : Nat} (h : i < n) : (stackP n m).cd[i]? = some (numI i) := by
  simp only [stackP, stackC, List.append_assoc]
  rw [List.getElem?_append_left (by simpa using h)]
  simp [h]
theorem stack_add {n m i : Nat} (h : n ≤ i) (h2 : i < n + m) : (stackP n m).cd[i]? = some addI := by
  simp only [stackP, stackC, List.append_assoc]
  rw [List.getElem?_append_right (by simpa using h), List.getElem?_append_left (by simp; omega)]
  simp [List.getElem?_replicate]
  omega
theorem stack_set {n m : Nat} : (stackP n m).cd[n + m]? = some ⟨28, 0, 0, 0, 0⟩ := by
  simp only [stackP, stackC, List.append_assoc]
  rw [List.getElem?_append_right (by simp), List.getElem?_append_right (by simp)]
  simp
theorem stack_end {n m : Nat} : (stackP n m).cd[n + m + 1]? = some ⟨0, 0, 0, 0, 0⟩ := by
  simp only [stackP, stackC, List.append_assoc]
  rw [List.getElem?_append_right (by simp; omega), List.getElem?_append_right (by simp; omega)]
  simp [show n + m + 1 - n - m = 1 by omega]
theorem stack_mem {n m : Nat} {x : Ins} (h : x ∈ (stackP n m).cd) : (∃ i < n, x = numI i) ∨ x = addI ∨ x = ⟨28, 0, 0, 0, 0⟩ ∨ x = ⟨0, 0, 0, 0, 0⟩ := by
  simp only [stackP, stackC, List.mem_append, List.mem_map, List.mem_range, List.mem_replicate, List.mem_cons, List.not_mem_nil, or_false] at h
  rcases h with (⟨i, hi, rfl⟩ | ⟨_, rfl⟩) | rfl | rfl
  · exact .inl ⟨i, hi, rfl⟩
  · exact .inr (.inl rfl)
  · exact .inr (.inr (.inl rfl))
  · exact .inr (.inr (.inr rfl))
theorem insE_ok {P : Prg} {x : Ins} {r : ByteArray × ByteArray} (h0 : 0 ≤ x.op) (e : table[x.op.toNat]? = some r) (h : ∀ i < 4, opOk P r.2 x i = true) : insE P x = 0 := by
  unfold insE
  rw [if_neg (by omega), e]
  simp only [h 0 (by omega), h 1 (by omega), h 2 (by omega), h 3 (by omega)]
  rfl
set_option linter.unusedSimpArgs false in
theorem stack_check {n m : Nat} (hn : n ≤ 300) (hm : m ≤ 303) : checkV (stackP n m) = 0 := by
  have ht : tablesV (stackP n m) = true := by
    simp [tablesV, stack_len]
    simp [stackP, vrOk, fromV]
    have := stack_len n m
    simp [stackP] at this
    omega
  unfold checkV
  rw [if_pos ht]
  refine insEs_all fun x hx => ?_
  rcases stack_mem hx with ⟨i, hi, rfl⟩ | rfl | rfl | rfl
  · refine insE_ok (r := (⟨#[110, 117, 109]⟩, ⟨#[110]⟩)) (by simp [numI]) rfl fun k hk => ?_
    match k, hk with
    | 0, _ => simp [opOk, opB, Ins.arg, numI, boundsV, fromV]; omega
    | 1, _ => simp [opOk, opB, Ins.arg, numI, boundsV, fromV]
    | 2, _ => simp [opOk, opB, Ins.arg, numI, boundsV, fromV]
    | 3, _ => simp [opOk, opB, Ins.arg, numI, boundsV, fromV]
  · refine insE_ok (r := (⟨#[97, 100, 100]⟩, ⟨#[]⟩)) (by simp [addI]) rfl fun k hk => ?_
    match k, hk with
    | 0, _ => simp [opOk, opB, Ins.arg, addI, boundsV, fromV]
    | 1, _ => simp [opOk, opB, Ins.arg, addI, boundsV, fromV]
    | 2, _ => simp [opOk, opB, Ins.arg, addI, boundsV, fromV]
    | 3, _ => simp [opOk, opB, Ins.arg, addI, boundsV, fromV]
  · refine insE_ok (r := (⟨#[115, 101, 116]⟩, ⟨#[118]⟩)) (by decide) rfl fun k hk => ?_
    match k, hk with
    | 0, _ => simp [opOk, opB, Ins.arg, boundsV, fromV, stackP]
    | 1, _ => simp [opOk, opB, Ins.arg, boundsV, fromV]
    | 2, _ => simp [opOk, opB, Ins.arg, boundsV, fromV]
    | 3, _ => simp [opOk, opB, Ins.arg, boundsV, fromV]
  · refine insE_ok (r := (⟨#[101, 110, 100]⟩, ⟨#[]⟩)) (by decide) rfl fun k hk => ?_
    match k, hk with
    | 0, _ => simp [opOk, opB, Ins.arg, boundsV, fromV]
    | 1, _ => simp [opOk, opB, Ins.arg, boundsV, fromV]
    | 2, _ => simp [opOk, opB, Ins.arg, boundsV, fromV]
    | 3, _ => simp [opOk, opB, Ins.arg, boundsV, fromV]
theorem stk_size (h : Nat) : (stk h).ty.size = h := by simp [stk, ByteArray.size]
theorem stk_bt {h i : Nat} (hi : i < h) : bt (stk h).ty i = 1 := by
  unfold bt
  rw [dif_pos (by rw [stk_size]; exact hi)]
  have : ((stk h).ty[i]'(by rw [stk_size]; exact hi)) = 1 := by
    show (List.replicate h (1 : UInt8)).toArray[i]'(by simpa using hi) = 1
    simp
  rw [this]
  rfl
theorem stk_pop {h k : Nat} (hk : k ≤ h) : (stk h).ty.extract 0 k = (stk k).ty := by
  apply ByteArray.ext
  simp [stk, ByteArray.data_extract]
  omega
theorem stk_push (h : Nat) : (stk h).ty ++ ⟨#[1]⟩ = (stk (h + 1)).ty := by
  apply ByteArray.ext
  simp [stk, List.replicate_succ']
  rw [← List.toArray_replicate, List.push_toArray]
theorem take_num {h : Nat} (hh : h < 256) : takenV 1 (stk h) = (stk (h + 1), 0) := by
  have e1 : takesL 1 = [] := rfl
  have e2 : givesV 1 = 1 := rfl
  unfold takenV
  rw [e1, e2, stk_size]
  simp [pushV, e2]
  rw [if_neg (by omega), stk_pop (Nat.le_refl _), stk_push]
  rfl
theorem take_num_no {h : Nat} (hh : 256 ≤ h) : takenV 1 (stk h) = (stk h, 93) := by
  have e1 : takesL 1 = [] := rfl
  have e2 : givesV 1 = 1 := rfl
  unfold takenV
  rw [e1, e2, stk_size]
  simp
  omega
theorem take_add {h : Nat} (h2 : 2 ≤ h) (hh : h ≤ 256) : takenV 17 (stk h) = (stk (h - 1), 0) := by
  have e1 : takesL 17 = [1, 1] := rfl
  have e2 : givesV 17 = 1 := rfl
  have hf : ∀ i < 2, fitsV 17 (stk h).ty (h - 2) i = true := fun i hi => by
    unfold fitsV
    rw [stk_bt (by omega), stk_bt (by omega), stk_bt (by omega), e1]
    match i, hi with
    | 0, _ => simp
    | 1, _ => simp
  unfold takenV
  rw [e1, e2, stk_size, if_neg (by simp; omega), if_neg (by simp; omega), if_pos (by simp; intro x hx; exact hf x hx)]
  simp only [pushV, e2]
  rw [if_neg (by decide)]
  have := stk_pop (h := h) (k := h - 2) (by omega)
  simp only [List.length_cons, List.length_nil]
  rw [this]
  have e3 : (⟨#[(1 : Int).toNat.toUInt8]⟩ : ByteArray) = ⟨#[1]⟩ := rfl
  rw [e3, stk_push, show h - 2 + 1 = h - 1 by omega]
  rfl
theorem take_add_no {h : Nat} (h2 : h < 2) : takenV 17 (stk h) = (stk h, 93) := by
  have e1 : takesL 17 = [1, 1] := rfl
  unfold takenV
  rw [e1, stk_size, if_pos (by simpa using h2)]
theorem take_set {h : Nat} (h1 : 1 ≤ h) : takenV 28 (stk h) = (stk (h - 1), 0) := by
  have e1 : takesL 28 = [1] := rfl
  have e2 : givesV 28 = 0 := rfl
  have hf : ∀ i < 1, fitsV 28 (stk h).ty (h - 1) i = true := fun i hi => by
    obtain rfl : i = 0 := by omega
    unfold fitsV
    rw [stk_bt (by omega), e1]
    simp
  unfold takenV
  rw [e1, e2, stk_size, if_neg (by simp; omega), if_neg (by simp), if_pos (by simp; exact hf 0 (by omega))]
  simp only [pushV, e2, if_true]
  have := stk_pop (h := h) (k := h - 1) (by omega)
  simp only [List.length_cons, List.length_nil]
  rw [this]
  rfl
theorem take_set_no : takenV 28 (stk 0) = (stk 0, 93) := by
  have e1 : takesL 28 = [1] := rfl
  unfold takenV
  rw [e1, stk_size, if_pos (by simp)]
theorem take_end : takenV 0 (stk 0) = (stk 0, 0) := by
  have e1 : takesL 0 = [] := rfl
  have e2 : givesV 0 = 0 := rfl
  unfold takenV
  rw [e1, e2, stk_size]
  simp [pushV, e2]
  rfl
theorem take_end_no {h : Nat} (hh : 0 < h) : takenV 0 (stk h) = (stk h, 93) := by
  have e1 : takesL 0 = [] := rfl
  have e2 : givesV 0 = 0 := rfl
  unfold takenV
  rw [e1, e2, stk_size]
  simp
  omega
end Go.Proofs.Ytjflllfkgbhemaa

/- A plain law: what run tells of a straight row of numbers, sums and one store. Conditions: the counts that are named. -/
namespace Go.Proofs.Ytjflllfkgbhemaa
open Go.RowKit Go.PlainAid
theorem look_plain {P : Prg} {n : Nat} {x : Ins} {s : St} {ats : List St} (hs : s.there = true) (hh : handsV P x.op x.a s.hand = true) (ht : (takenV x.op s).2 = 0) (hk : kindsV P x.op x.a x.c = true)
    (hj : jumpsV P n x (takenV x.op s).1 ats = true) (hw : waysV n x (stBeh P x s) = [((n : Int) + 1, stBeh P x s)]) (hn : n + 1 < P.cd.length) (hnot : (atSt ats ((n : Int) + 1)).there = false) :
    lookV P n x s ats = (0, putSt ats ((n : Int) + 1, stBeh P x s)) := by
  have hc : clash [((n : Int) + 1, stBeh P x s)] ats = false := clash_false _ _ (by simp) (fun j u hj hu => by
    obtain rfl : j = 0 := by simpa using hj
    simp at hu
    subst hu
    exact ⟨fun k v hk => absurd hk (by omega), fun h => by rw [hnot] at h; cases h⟩)
  unfold lookV
  rw [hw, hc, if_neg (by simp [hs]), if_neg (by simp [hh]), if_neg (by simp [ht]), if_neg (by simp [hk]), if_neg (by simp [hj]), if_neg (by simp; omega)]
  simp
theorem look_takes {P : Prg} {n : Nat} {x : Ins} {s : St} {ats : List St} (hs : s.there = true) (hh : handsV P x.op x.a s.hand = true) (ht : (takenV x.op s).2 ≠ 0) : lookV P n x s ats = ((takenV x.op s).2, ats) := by
  unfold lookV
  rw [if_neg (by simp [hs]), if_neg (by simp [hh]), if_pos ht]
def hgt (n k : Nat) : Nat := if k ≤ n then k else 2 * n - k
def atsK (n m i : Nat) : List St := (List.range (n + m + 2)).map fun k => if k ≤ i then stk (hgt n k) else st0
theorem atsK_get {n m i k : Nat} (hk : k < n + m + 2) : (atsK n m i)[k]? = some (if k ≤ i then stk (hgt n k) else st0) := by
  unfold atsK
  rw [List.getElem?_map, List.getElem?_range hk]
  rfl
theorem atsK_at {n m i k : Nat} (hk : k < n + m + 2) : atSt (atsK n m i) (k : Int) = if k ≤ i then stk (hgt n k) else st0 := by
  unfold atSt
  simp only [Int.toNat_natCast]
  rw [atsK_get hk]
  rfl
theorem atsK_step {n m i : Nat} (hi : i + 1 < n + m + 2) : putSt (atsK n m i) ((i : Int) + 1, stk (hgt n (i + 1))) = atsK n m (i + 1) := by
  unfold putSt
  have e : ((i : Int) + 1).toNat = i + 1 := by omega
  simp only [e]
  apply List.ext_getElem?
  intro k
  by_cases hk : k < n + m + 2
  · rw [List.getElem?_set, atsK_get hk, atsK_get hk]
    by_cases h1 : i + 1 = k
    · subst h1
      rw [if_pos rfl, if_pos (by simp [atsK]; omega), if_pos (Nat.le_refl _)]
      rfl
    · rw [if_neg h1]
      by_cases h2 : k ≤ i
      · rw [if_pos h2, if_pos (by omega)]
      · rw [if_neg h2, if_neg (by omega)]
  · rw [List.getElem?_eq_none (by simp [atsK]; omega), List.getElem?_eq_none (by simp [atsK]; omega)]
theorem ats0_stack (n m : Nat) : ats0 (stackP n m) = atsK n m 0 := by
  unfold ats0 begins
  rw [stack_len]
  simp only [stackP, List.foldl_append, List.foldl_cons, List.foldl_nil]
  rw [mark, if_pos (by decide), mark, if_neg (by decide)]
  apply List.ext_getElem?
  intro k
  by_cases hk : k < n + m + 2
  · rw [List.getElem?_set, atsK_get hk]
    by_cases h1 : k = 0
    · subst h1
      simp [stk, hgt]
    · rw [if_neg (by simp; omega), if_neg (by omega), List.getElem?_replicate, if_pos hk]
  · rw [List.getElem?_eq_none (by simp; omega), List.getElem?_eq_none (by simp [atsK]; omega)]
theorem stk_there (h : Nat) : (stk h).there = true := rfl
theorem stk_hand (h : Nat) : (stk h).hand = 0 := rfl
/-- one plain step -/
theorem stack_step {n m i : Nat} {x : Ins} (hx : (stackP n m).cd[i]? = some x) (hi : i + 1 < n + m + 2) (ho : x.op = 1 ∨ x.op = 17 ∨ x.op = 28) (ht : takenV x.op (stk (hgt n i)) = (stk (hgt n (i + 1)), 0)) :
    looksV (stackP n m) ((stackP n m).cd.length - i) i (atsK n m i) = looksV (stackP n m) ((stackP n m).cd.length - (i + 1)) (i + 1) (atsK n m (i + 1)) := by
  have hl := stack_len n m
  have ex := ins_of hx
  have es : atSt (atsK n m i) (i : Int) = stk (hgt n i) := by rw [atsK_at (by omega), if_pos (Nat.le_refl _)]
  have en : atSt (atsK n m i) ((i : Int) + 1) = st0 := by
    have := atsK_at (n := n) (m := m) (i := i) (k := i + 1) (by omega)
    rw [if_neg (by omega)] at this
    exact this
  have hb : stBeh (stackP n m) x (stk (hgt n i)) = stk (hgt n (i + 1)) := by
    unfold stBeh
    rw [ht]
    have : holdV (stackP n m) x.op x.a (stk (hgt n i)).hand = 0 := by
      unfold holdV
      rcases ho with h | h | h <;> rw [h] <;> simp [stk_hand]
    rw [this]
    rfl
  have hlook := look_plain (P := stackP n m) (n := i) (x := x) (s := stk (hgt n i)) (ats := atsK n m i) (stk_there _)
    (by unfold handsV; rcases ho with h | h | h <;> rw [h] <;> simp [stk_hand]) (by rw [ht]) (by unfold kindsV; rcases ho with h | h | h <;> rw [h] <;> simp)
    (by rw [ht]; unfold jumpsV; rcases ho with h | h | h <;> simp [h]) (by rw [hb]; unfold waysV; rcases ho with h | h | h <;> rw [h] <;> simp) (by rw [hl]; exact hi) (by rw [en]; rfl)
  rw [hb, atsK_step hi] at hlook
  have := looks_step (P := stackP n m) (i := i) (ats := atsK n m i) (by rw [hl]; omega) (by rw [ex, es, hlook])
  rw [this, ex, es, hlook]
theorem stack_stop {n m i : Nat} {x : Ins} (hx : (stackP n m).cd[i]? = some x) (hi : i < n + m + 2) (ho : x.op = 0 ∨ x.op = 1 ∨ x.op = 17 ∨ x.op = 28) (ht : (takenV x.op (stk (hgt n i))).2 ≠ 0) :
    looksV (stackP n m) ((stackP n m).cd.length - i) i (atsK n m i) = ((takenV x.op (stk (hgt n i))).2, i, atsK n m i) := by
  have hl := stack_len n m
  have ex := ins_of hx
  have es : atSt (atsK n m i) (i : Int) = stk (hgt n i) := by rw [atsK_at (by omega), if_pos (Nat.le_refl _)]
  have hlook := look_takes (P := stackP n m) (n := i) (x := x) (s := stk (hgt n i)) (ats := atsK n m i) (stk_there _)
    (by unfold handsV; rcases ho with h | h | h | h <;> rw [h] <;> simp [stk_hand]) ht
  have := looks_stop (P := stackP n m) (i := i) (ats := atsK n m i) (by rw [hl]; omega) (by rw [ex, es, hlook]; exact ht)
  rw [this, ex, es, hlook]
theorem hgt_up {n k : Nat} (h : k < n) : hgt n k = k ∧ hgt n (k + 1) = k + 1 := by unfold hgt; rw [if_pos (by omega), if_pos (by omega)]; exact ⟨rfl, rfl⟩
theorem hgt_down {n k : Nat} (h : n ≤ k) : hgt n k = 2 * n - k := by unfold hgt; split <;> omega
/-- the numbers -/
theorem stack_up {n m : Nat} : ∀ i, i ≤ n → i ≤ 256 → looksV (stackP n m) (stackP n m).cd.length 0 (ats0 (stackP n m)) = looksV (stackP n m) ((stackP n m).cd.length - i) i (atsK n m i)
  | 0, _, _ => by rw [ats0_stack, Nat.sub_zero]
  | i + 1, h, h2 => by
    rw [stack_up i (by omega) (by omega)]
    refine stack_step (stack_num (by omega)) (by omega) (.inl rfl) ?_
    rw [(hgt_up (n := n) (k := i) (by omega)).1, (hgt_up (n := n) (k := i) (by omega)).2]
    exact take_num (by omega)
/-- the sums -/
theorem stack_sums {n m : Nat} (hn : n ≤ 256) : ∀ j, j ≤ m → j + 1 ≤ n → looksV (stackP n m) (stackP n m).cd.length 0 (ats0 (stackP n m)) = looksV (stackP n m) ((stackP n m).cd.length - (n + j)) (n + j) (atsK n m (n + j))
  | 0, _, _ => stack_up n (Nat.le_refl _) hn
  | j + 1, h, h2 => by
    rw [stack_sums hn j (by omega) (by omega)]
    refine stack_step (stack_add (by omega) (by omega)) (by omega) (.inr (.inl rfl)) ?_
    rw [hgt_down (by omega), hgt_down (by omega)]
    have := take_add (h := 2 * n - (n + j)) (by omega) (by omega)
    rw [show 2 * n - (n + j) - 1 = 2 * n - (n + j + 1) by omega] at this
    exact this
theorem runV_stop {P : Prg} {e : Int} {i : Nat} {ats : List St} (h0 : checkV P = 0) (hl : looksV P P.cd.length 0 (ats0 P) = (e, i, ats)) (he : e ≠ 0) : runV P = (e, (i : Int), []) := by
  unfold runV
  rw [if_neg (by simp [h0]), hl, if_pos he]
theorem stack_high {n m : Nat} (hn : 256 < n) (hn2 : n ≤ 300) (hm : m ≤ 303) : runV (stackP n m) = (93, 256, []) := by
  have h := stack_up (n := n) (m := m) 256 (by omega) (Nat.le_refl _)
  have hh := (hgt_up (n := n) (k := 256) hn).1
  have hs := stack_stop (m := m) (stack_num hn) (by omega) (.inr (.inl rfl)) (by rw [hh]; rw [show (numI 256).op = 1 from rfl, take_num_no (Nat.le_refl _)]; decide)
  rw [hh, show (numI 256).op = 1 from rfl, take_num_no (Nat.le_refl _)] at hs
  exact runV_stop (stack_check hn2 hm) (h.trans hs) (by decide)
theorem stack_many {n m : Nat} (h1 : 1 ≤ n) (hn : n ≤ 256) (hm : m ≤ 303) (hmn : n - 1 < m) : runV (stackP n m) = (93, ((n + n - 1 : Nat) : Int), []) := by
  have h := stack_sums (n := n) (m := m) hn (n - 1) (by omega) (by omega)
  have hh : hgt n (n + (n - 1)) = 1 := by rw [hgt_down (by omega)]; omega
  have hs := stack_stop (m := m) (stack_add (n := n) (m := m) (i := n + (n - 1)) (by omega) (by omega)) (by omega) (.inr (.inr (.inl rfl))) (by rw [hh]; rw [show addI.op = 17 from rfl, take_add_no (by decide)]; decide)
  rw [hh, show addI.op = 17 from rfl, take_add_no (by decide)] at hs
  have := runV_stop (stack_check (by omega) hm) (h.trans hs) (by decide)
  rw [show n + n - 1 = n + (n - 1) by omega]
  exact this
theorem stack_few {n m : Nat} (hn : n ≤ 256) (hmn : m + 1 < n) : runV (stackP n m) = (93, ((n + m + 1 : Nat) : Int), []) := by
  have h := stack_sums (n := n) (m := m) hn m (Nat.le_refl _) (by omega)
  have hh : hgt n (n + m) = n - m := by rw [hgt_down (by omega)]; omega
  have hh2 : hgt n (n + m + 1) = n - m - 1 := by rw [hgt_down (by omega)]; omega
  have h2 := stack_step (m := m) (i := n + m) stack_set (by omega) (.inr (.inr rfl)) (by rw [hh, hh2]; exact take_set (by omega))
  have hs := stack_stop (m := m) (stack_end (n := n) (m := m)) (by omega) (.inl rfl) (by rw [hh2, take_end_no (by omega)]; simp)
  rw [hh2, take_end_no (by omega)] at hs
  exact runV_stop (stack_check (by omega) (by omega)) ((h.trans h2).trans hs) (by decide)
/-- the fuel of code without jumps -/
theorem fuel_small {P : Prg} (hp : ∀ x ∈ P.cd, x.op ≠ 22 ∧ x.op ≠ 23 ∧ x.op ≠ 24) : ∀ (k : Nat), k ≤ P.cd.length → ∀ a, 0 ≤ fAt (fuelK P k) a ∧ fAt (fuelK P k) a ≤ k
  | 0, _, a => by
    simp only [fuelK, fAt, List.getElem?_replicate]
    split <;> simp
  | k + 1, hk, a => by
    have hx : insAt P ((P.cd.length - 1 - k : Nat) : Int) ∈ P.cd := by
      have : P.cd.length - 1 - k < P.cd.length := by omega
      simp only [insAt, Int.toNat_natCast, List.getElem?_eq_getElem this, Option.getD_some]
      exact List.getElem_mem _
    obtain ⟨h22, h23, h24⟩ := hp _ hx
    have ih := fuel_small hp k (by omega)
    have hs : 0 ≤ fuelStep P (P.cd.length - 1 - k) (insAt P ((P.cd.length - 1 - k : Nat) : Int)) (fuelK P k) ∧ fuelStep P (P.cd.length - 1 - k) (insAt P ((P.cd.length - 1 - k : Nat) : Int)) (fuelK P k) ≤ (k + 1 : Nat) := by
      unfold fuelStep
      split
      · omega
      · have := ih ((P.cd.length - 1 - k + 1 : Nat) : Int)
        unfold plusV
        split <;> omega
    rw [fuelK]
    unfold fAt
    rw [List.getElem?_set]
    split
    · split
      · exact hs
      · simp
        omega
    · have := ih a
      unfold fAt at this
      omega
theorem over_none {f : List Int} : ∀ {l : List Int}, (∀ b ∈ l, fAt f b ≤ 1152921504606846976) → overV f l = none
  | [], _ => rfl
  | b :: l, h => by
    rw [overV, if_neg (fun hh => by have := h b (List.mem_cons_self ..); omega)]
    exact over_none fun c hc => h c (List.mem_cons_of_mem _ hc)
theorem stack_right {n m : Nat} (h1 : 1 ≤ n) (hn : n ≤ 256) (hmn : m + 1 = n) : runV (stackP n m) = (0, 0, atsK n m (n + m + 1)) := by
  have h := stack_sums (n := n) (m := m) hn m (Nat.le_refl _) (by omega)
  have hh : hgt n (n + m) = 1 := by rw [hgt_down (by omega)]; omega
  have hh2 : hgt n (n + m + 1) = 0 := by rw [hgt_down (by omega)]; omega
  have h2 := stack_step (m := m) (i := n + m) stack_set (by omega) (.inr (.inr rfl)) (by rw [hh, hh2]; exact take_set (by omega))
  have hl := stack_len n m
  have ex := ins_of (stack_end (n := n) (m := m))
  have es : atSt (atsK n m (n + m + 1)) ((n + m + 1 : Nat) : Int) = stk 0 := by rw [atsK_at (by omega), if_pos (Nat.le_refl _), hh2]
  have hlook : lookV (stackP n m) (n + m + 1) ⟨0, 0, 0, 0, 0⟩ (stk 0) (atsK n m (n + m + 1)) = (0, atsK n m (n + m + 1)) := by
    unfold lookV
    rw [take_end]
    rw [if_neg (by simp [stk_there]), if_neg (by simp [handsV, stk_hand]), if_neg (by simp), if_neg (by simp [kindsV]), if_neg (by simp [jumpsV, stk]), if_neg (by simp [waysV]), if_neg (by simp [waysV, clash])]
    simp [waysV]
  have h3 := looks_step (P := stackP n m) (i := n + m + 1) (ats := atsK n m (n + m + 1)) (by rw [hl]; omega) (by rw [ex, es, hlook])
  rw [ex, es, hlook] at h3
  have h4 : looksV (stackP n m) (stackP n m).cd.length 0 (ats0 (stackP n m)) = (0, n + m + 2, atsK n m (n + m + 1)) := by
    rw [(h.trans h2).trans h3, hl, show n + m + 2 - (n + m + 1 + 1) = 0 by omega]
    rfl
  refine runV_ok (stack_check (by omega) (by omega)) h4 (over_none fun b _ => ?_)
  have := (fuel_small (P := stackP n m) (fun x hx => by
    rcases stack_mem hx with ⟨i, hi, rfl⟩ | rfl | rfl | rfl <;> simp [numI, addI]) _ (Nat.le_refl _) b).2
  rw [hl] at this ⊢
  omega
end Go.Proofs.Ytjflllfkgbhemaa

/- Several texts in one: The walk of within. A copy of elements of any size into a row that is known whole, as a law for the walk. The walk of LendInts. A program that is lent, in memory. The walk of LendProgram. The walk of Far. Conditions: those of each. -/
/- The walk of within. Conditions: the number is not 0. -/
namespace Go.Proofs.Ytjflllfkgbhemaa
open Go.RowKit
def withinV (a n : Int) : Int := if a.tmod n < 0 then a.tmod n + n else a.tmod n
theorem within_in (a n : Int) (hn : 0 < n) : 0 ≤ withinV a n ∧ withinV a n < n := by
  have h1 := Int.tmod_lt_of_pos a hn
  have h2 : -n < a.tmod n := by
    have := Int.tmod_lt_of_pos (-a) hn
    rw [Int.neg_tmod] at this
    omega
  unfold withinV
  split <;> omega
set_option maxHeartbeats 4000000 in
theorem within_i (w : World) (a n : Int) (hn : 0 < n) (hn2 : n ≤ 4611686018427387904) : Calls Try.prog 20 #[.int .i64 a, .int .i64 n] w fun en w' => en = .returned (.int .i64 (withinV a n)) ∧ w' = w := by
  have hb := within_in a n hn
  have h0 : n ≠ 0 := by omega
  have h2 : -n < a.tmod n := by
    have := Int.tmod_lt_of_pos (-a) hn
    rw [Int.neg_tmod] at this
    omega
  have h3 := Int.tmod_lt_of_pos a hn
  unfold withinV
  generalize hk : a.tmod n = k at *
  have u1 := IntWalk.i64_in k (by omega)
  have u2 := IntWalk.i64_in (k + n) (by omega)
  go_enter Try.func20, Try.ntmps20
  go_wp2_with fail
  all_goals
    go_ret
    exact ⟨rfl, rfl⟩
/-- instructions as cells -/
def codeV (l : List Ins) : List Value := l.flatMap fun x => [.int .i64 x.op, .int .i64 x.a, .int .i64 x.b, .int .i64 x.c, .int .i64 x.d]
theorem codeV_append (l l' : List Ins) : codeV (l ++ l') = codeV l ++ codeV l' := by simp [codeV]
theorem codeV_get : ∀ {l : List Ins} {i : Nat} {x : Ins}, l[i]? = some x → (codeV l)[i * 5]? = some (.int .i64 x.op) ∧ (codeV l)[i * 5 + 1]? = some (.int .i64 x.a) ∧ (codeV l)[i * 5 + 2]? = some (.int .i64 x.b) ∧ (codeV l)[i * 5 + 3]? = some (.int .i64 x.c) ∧ (codeV l)[i * 5 + 4]? = some (.int .i64 x.d)
  | [], i, x, h => by simp at h
  | y :: l, 0, x, h => by
    simp at h
    subst h
    exact ⟨rfl, rfl, rfl, rfl, rfl⟩
  | y :: l, i + 1, x, h => by
    have ih := codeV_get (l := l) (i := i) (x := x) (by simpa using h)
    have e : codeV (y :: l) = [.int .i64 y.op, .int .i64 y.a, .int .i64 y.b, .int .i64 y.c, .int .i64 y.d] ++ codeV l := rfl
    have sh : ∀ j, ([.int .i64 y.op, .int .i64 y.a, .int .i64 y.b, .int .i64 y.c, .int .i64 y.d] ++ codeV l)[(i + 1) * 5 + j]? = (codeV l)[i * 5 + j]? := fun j => by
      have hl : ([.int .i64 y.op, .int .i64 y.a, .int .i64 y.b, .int .i64 y.c, .int .i64 y.d] : List Value).length = 5 := rfl
      rw [List.getElem?_append_right (by omega), hl, show (i + 1) * 5 + j - 5 = i * 5 + j by omega]
    rw [e]
    exact ⟨(sh 0).trans ih.1, (sh 1).trans ih.2.1, (sh 2).trans ih.2.2.1, (sh 3).trans ih.2.2.2.1, (sh 4).trans ih.2.2.2.2⟩
theorem codeV_len (l : List Ins) : (codeV l).length = l.length * 5 := by
  induction l with
  | nil => rfl
  | cons x l ih =>
    have e : codeV (x :: l) = [.int .i64 x.op, .int .i64 x.a, .int .i64 x.b, .int .i64 x.c, .int .i64 x.d] ++ codeV l := rfl
    rw [e, List.length_append, ih]
    simp
    omega
/-- a program of one queue, whose code is a row of its own -/
def stackV (n vb nv g len cap : Nat) : PV := ⟨some ⟨n, 0, none⟩, if nv = 0 then none else some ⟨vb, 0, none⟩, none, some ⟨n + 1, 0, none⟩, some ⟨g, 0, none⟩, 1, 1, nv, nv, 0, 0, 1, 1, len, cap, 0⟩
theorem own_mem {w : World} {n vb nv g cap base : Nat} {cd : List Ins} (h1 : Blk w n 4 #[.bool false]) (h2 : Blk w (n + 1) 3 #[.int .i64 (-1)]) (h3 : nv ≤ 1) (h4 : 0 < nv → Blk w vb 49 #[.int .i64 0, .int .i64 0, .int .i64 0])
    (h5 : w.ownsRow base 46 5 (.slice (some ⟨g, 0, none⟩) cd.length cap) cd.length (codeV cd)) (h6 : cd.length ≤ maxLen) : PMem w (stackV n vb nv g cd.length cap) ⟨[false], List.replicate nv ⟨0, 0, 0⟩, [], [-1], 0, cd⟩ where
  gl := rfl
  vl := by simp [stackV]
  tl := rfl
  ol := rfl
  cl := rfl
  miss := rfl
  g := fun i x hx => by
    match i, hx with
    | 0, hx => simp at hx; subst hx; exact ⟨_, rfl, h1.lt, h1.cell 0⟩
    | i + 1, hx => simp at hx
  v := fun i x hx => by
    simp only [List.getElem?_replicate] at hx
    split at hx
    · next hi =>
      cases hx
      obtain rfl : i = 0 := by omega
      have hb := h4 (by omega)
      have e : (stackV n vb nv g cd.length cap).va = some ⟨vb, 0, none⟩ := by simp [stackV]; omega
      exact ⟨⟨_, e, hb.lt, hb.cell 0⟩, ⟨_, e, hb.lt, hb.cell 1⟩, ⟨_, e, hb.lt, hb.cell 2⟩⟩
    · cases hx
  t := fun i x hx => by simp at hx
  o := fun i x hx => by
    match i, hx with
    | 0, hx => simp at hx; subst hx; exact ⟨_, rfl, h2.lt, h2.cell 0⟩
    | i + 1, hx => simp at hx
  c := fun i x hx => by
    have hi := (List.getElem?_eq_some_iff.1 hx).1
    obtain ⟨c0, c1, c2, c3, c4⟩ := codeV_get hx
    have hg := (h5.lt g rfl).2
    simp only at hi
    exact ⟨⟨_, rfl, hg, (h5.cellAt _ (by omega)).trans c0⟩, ⟨_, rfl, hg, (h5.cellAt _ (by omega)).trans c1⟩, ⟨_, rfl, hg, (h5.cellAt _ (by omega)).trans c2⟩, ⟨_, rfl, hg, (h5.cellAt _ (by omega)).trans c3⟩, ⟨_, rfl, hg, (h5.cellAt _ (by omega)).trans c4⟩⟩
  lens := by refine ⟨?_, ?_, ?_, ?_, h6⟩ <;> simp [stackV, maxLen]; omega
theorem own_mv {w : World} {n vb nv g len cap : Nat} (h2 : Blk w (n + 1) 3 #[.int .i64 (-1)]) : Mv w (stackV n vb nv g len cap).oa (stackV n vb nv g len cap).oc [-1] :=
  ⟨by simp [stackV], by simp [stackV, maxLen], by simp [stackV], fun a ha => by simp [stackV] at ha; subst ha; exact ⟨_, rfl, h2.lt⟩, fun i x hx => by
    match i, hx with
    | 0, hx => simp at hx; subst hx; exact ⟨_, rfl, h2.lt, h2.cell 0⟩
    | i + 1, hx => simp at hx⟩
theorem info46 : (Try.prog.info? 46).map (fun i => (i.zero, i.size, i.bytes)) = some (some (.agg #[.int .i64 0, .int .i64 0, .int .i64 0, .int .i64 0, .int .i64 0]), 5, 40) := by kernel_rfl
/-- the cells of one instruction that was laid for an append -/
theorem ins_cells (w : World) (xs : List Value) (t : TypeId) : ∀ j u, xs[j]? = some u → (w.alloc (.cells xs.toArray t)).cell? ((⟨w.heap.size, 0, none⟩ : Addr).add j) = some u := by
  intro j u hj
  have e : (⟨w.heap.size, 0, none⟩ : Addr).add j = ⟨w.heap.size, j, none⟩ := by unfold Addr.add; split <;> simp_all
  rw [e, (Blk.new w t xs.toArray).cell]
  simpa using hj
end Go.Proofs.Ytjflllfkgbhemaa

/- A copy of elements of any size into a row that is known whole, as a law for the walk. Conditions: those that are named. -/
namespace Go.Proofs.Ytjflllfkgbhemaa
open Go.RowKit
theorem blk_setCells {g : Nat} {t : TypeId} : ∀ (vs : List Value) (o : Nat) (w : World) (cur : List Value), Blk w g t cur.toArray → o + vs.length ≤ cur.length → Blk (w.setCells g o vs) g t (cur.take o ++ (vs ++ cur.drop (o + vs.length))).toArray
  | [], o, w, cur, h, hl => by
    have e : cur.take o ++ ([] ++ cur.drop (o + ([] : List Value).length)) = cur := by simp
    rw [e]
    exact h
  | v :: r, o, w, cur, h, hl => by
    have h1 := h.set_ o v
    have e : cur.toArray.setIfInBounds o v = (cur.set o v).toArray := by simp
    rw [e] at h1
    have h2 := blk_setCells r (o + 1) _ _ h1 (by simp at hl ⊢; omega)
    have e2 : (cur.set o v).take (o + 1) ++ (r ++ (cur.set o v).drop (o + 1 + r.length)) = cur.take o ++ (v :: r ++ cur.drop (o + (v :: r).length)) := by
      have hl' : o < cur.length := by simp at hl; omega
      rw [List.take_add_one, List.take_set_of_le (Nat.le_refl o), List.getElem?_set_self hl', List.drop_set_of_lt (by omega)]
      simp only [Option.toList_some, List.append_assoc, List.nil_append, List.cons_append, List.length_cons]
      rw [show o + 1 + r.length = o + (r.length + 1) by omega]
    rw [e2] at h2
    exact h2
theorem only_setCells {g : Nat} : ∀ (vs : List Value) (o : Nat) (w : World), Only (fun k => k = g) w (w.setCells g o vs)
  | [], _, w => Only.refl _ w
  | v :: r, o, w => (((Only.refl (fun k => k = g) w).setCell (p := ⟨g, o, none⟩) (.inl rfl) v)).trans (only_setCells r (o + 1) _)
theorem wpList_copyN {P : Program} {w : World} {ops : Array Oper} {rest : List Oper} {o : Oper} {a : Act} {Q : Exit → Act → World → Prop} (hgd : o.guard = none) (d s : Operand) (dT sT : TypeId)
    (ho : o.op = .call { callee := .builtin .copy, args := #[d, s], argTypes := #[dT, sT] }) (elem : TypeId) (hu : P.underlying dT = some (.slice elem)) (sz : Nat) (hsz : (P.info? elem).map (·.size) = some sz)
    (g dLen dCap : Nat) (sp : Option Addr) (sLen sCap : Nat) (hd : a.eval d = .slice (some ⟨g, 0, none⟩) dLen dCap) (hs : a.eval s = .slice sp sLen sCap) (hle : sLen ≤ dLen)
    (cur : List Value) (t : TypeId) (hg : Blk w g t cur.toArray) (cs : List Value) (hn : cs.length = sLen * sz) (hsrc : 0 < sLen → ∃ ad, sp = some ad ∧ ∀ j v, cs[j]? = some v → w.cell? (ad.add j) = some v)
    (hfit : cs.length ≤ cur.length) (h1 : ∀ v ∈ cs, v.oneCell' = true)
    (h : ∀ w', Blk w' g t (cs ++ cur.drop cs.length).toArray → Only (fun k => k = g) w w' → wpList P ops Q rest (a.put o.dst (goInt sLen)) w') : wpList P ops Q (o :: rest) a w := by
  refine wpList_plain hgd fun K hK => ?_
  have hst := run_storeCells_cells (P := P) g 0 cs 0 w (fun j hj => by
      rw [hg.cell]; simp; omega) (fun j _ => hg.frozen _) h1
  have hb := blk_setCells cs 0 w cur hg (by omega)
  simp only [List.take_zero, List.nil_append, Nat.zero_add] at hb
  have hmin : Nat.min sLen dLen = sLen := Nat.min_eq_left hle
  have hrun : (Builtin.copy_ #[dT, sT] o.type #[.slice (some ⟨g, 0, none⟩) dLen dCap, .slice sp sLen sCap]).run P w = .ok (goInt sLen) (w.setCells g 0 cs) := by
    cases hq : P.info? elem with
    | none => simp [hq] at hsz
    | some i =>
      have hi : i.size = sz := by simpa [hq] using hsz
      by_cases h0 : sLen = 0
      · subst h0
        have hc : cs = [] := List.eq_nil_of_length_eq_zero (by simpa using hn)
        subst hc
        have hl : ∀ (x : Addr), (loadCells x 0).run P w = .ok #[] w := fun x => by simpa using run_loadCells_list (P := P) w x [] (by simp)
        cases sp <;> simp [Builtin.copy_, run_underlying hu, Builtin.lenOf, Builtin.firstCells, sizeOf, typeInfo, hq, storeCells, hl, World.setCells]
      · obtain ⟨ad, rfl, hx⟩ := hsrc (by omega)
        have hl := run_loadCells_list (P := P) w ad cs hx
        rw [hn] at hl
        simp [Builtin.copy_, run_underlying hu, Builtin.lenOf, Builtin.firstCells, sizeOf, typeInfo, hq, hi, hmin, hl, hst]
  unfold Oper.wp
  simp [execOp, ho, resolve, invoke, builtin, hd, hs, hrun, Result.andThen]
  exact hK _ _ (h _ hb (only_setCells cs 0 w))
end Go.Proofs.Ytjflllfkgbhemaa

/- The walk of LendInts. Conditions: the length's bound. -/
namespace Go.Proofs.Ytjflllfkgbhemaa
open Go.RowKit
/-- numbers that are lent: five marks lie behind them -/
def lendJ (l : List Int) (j : Nat) : List Int := l ++ (List.range 5).map fun k => if k < j then -77 - ((l.length : Int) + k) else 0
def lendL (l : List Int) : List Int := lendJ l 5
theorem lendJ_zero (l : List Int) : lendJ l 0 = l ++ List.replicate 5 0 := by simp [lendJ]; decide
theorem lendJ_len (l : List Int) (j : Nat) : (lendJ l j).length = l.length + 5 := by simp [lendJ]
theorem lendJ_step (l : List Int) (j : Nat) (hj : j < 5) : (lendJ l j).set (l.length + j) (-77 - ((l.length : Int) + j)) = lendJ l (j + 1) := by
  unfold lendJ
  rw [List.set_append, if_neg (by omega), Nat.add_sub_cancel_left]
  congr 1
  apply List.ext_getElem?
  intro k
  rw [List.getElem?_set]
  by_cases hk : k < 5
  · rw [List.getElem?_map, List.getElem?_map, List.getElem?_range hk]
    by_cases h1 : j = k
    · subst h1
      simp [hk]
    · rw [if_neg h1]
      simp only [Option.map_some]
      by_cases h2 : k < j
      · rw [if_pos h2, if_pos (by omega)]
      · rw [if_neg h2, if_neg (by omega)]
  · rw [List.getElem?_eq_none (by simp; omega), List.getElem?_eq_none (by simp; omega)]
    simp
    omega
theorem mv_src {w : World} {oa : Option Addr} {ca : Nat} {l : List Int} (h : Mv w oa ca l) : 0 < l.length → ∃ ad, oa = some ad ∧ ad.block < w.heap.size ∧ ∀ j v, (ints l)[j]? = some v → w.cell? (ad.add j) = some v := fun h0 => by
  obtain ⟨x, hx⟩ : ∃ x, l[0]? = some x := ⟨_, List.getElem?_eq_getElem h0⟩
  obtain ⟨g, rfl, hg, _⟩ := h.at_ 0 x hx
  refine ⟨_, rfl, hg, fun j v hj => ?_⟩
  simp only [ints, List.getElem?_map, Option.map_eq_some_iff] at hj
  obtain ⟨y, hy, rfl⟩ := hj
  obtain ⟨g', e', _, hc⟩ := h.at_ j y hy
  have hadd : (⟨g, 0, none⟩ : Addr).add j = ⟨g, j, none⟩ := by unfold Addr.add; split <;> simp_all
  rw [hadd]
  obtain rfl : g = g' := by injection e' with e; injection e
  exact hc
/-- a source of cells -/
def Src (w : World) (oa : Option Addr) (n : Nat) (cs : List Value) : Prop := 0 < n → ∃ ad, oa = some ad ∧ ad.block < w.heap.size ∧ ∀ j v, cs[j]? = some v → w.cell? (ad.add j) = some v
theorem add_block (a : Addr) (j : Nat) : (a.add j).block = a.block := by unfold Addr.add; split <;> rfl
theorem Src.below {w w' : World} {oa : Option Addr} {n : Nat} {cs : List Value} (h : Src w oa n cs) (hb : Below w.heap.size w w') : Src w' oa n cs := fun h0 => by
  obtain ⟨ad, e, hl, hx⟩ := h h0
  exact ⟨ad, e, Nat.lt_of_lt_of_le hl hb.size, fun j v hj => (hb.cell (by rw [add_block]; exact hl)).trans (hx j v hj)⟩
theorem Src.copy {w w' : World} {oa : Option Addr} {n : Nat} {cs : List Value} (h : Src w oa n cs) (hb : Below w.heap.size w w') : 0 < n → ∃ ad, oa = some ad ∧ ∀ j v, cs[j]? = some v → w'.cell? (ad.add j) = some v := fun h0 => by
  obtain ⟨ad, e, hl, hx⟩ := h h0
  exact ⟨ad, e, fun j v hj => (hb.cell (by rw [add_block]; exact hl)).trans (hx j v hj)⟩
set_option maxRecDepth 100000 in
set_option maxHeartbeats 4000000 in
theorem lendInts_i (w : World) (oa : Option Addr) (ca : Nat) (l : List Int) (h : Src w oa l.length (ints l)) (hl : l.length ≤ 1000000) :
    Calls Try.prog 25 #[.slice oa l.length ca] w fun en w' => ∃ g, en = .returned (.slice (some ⟨g, 0, none⟩) l.length (l.length + 5)) ∧ w.heap.size ≤ g ∧ Blk w' g 3 (ints (lendL l)).toArray ∧ Below w.heap.size w w' := by
  have hmk : ∀ W : World, (Instr.makeSlice 25 (.int .i64 ((l.length : Int) + 5)) (.int .i64 ((l.length : Int) + 5))).run Try.prog W = .ok (.slice (some ⟨W.heap.size, 0, none⟩) (l.length + 5) (l.length + 5)) (W.alloc (.cells (ints (List.replicate (l.length + 5) 0)).toArray 3)) := fun W => by
    have := make_ints W (l.length + 5) (by omega)
    simpa using this
  have HSRC := hide h
  clear h
  have u1 := IntWalk.i64_in ((l.length : Int) + 5) (by omega)
  go_enter Try.func25, Try.ntmps25
  go_wp2_with (with_reducible refine wpList_copyN rfl (.tmp 9) (.tmp 10) 25 25 rfl 3 Try.underlying25 1 (by kernel_rfl) w.heap.size (l.length + 5) (l.length + 5) oa l.length ca rfl rfl (by omega) (ints (List.replicate (l.length + 5) 0)) 3 (Blk.new w 3 _) (ints l) (by simp [ints]) ?_ ?_ ?_ ?_)
  · intro h0
    obtain ⟨ad, e, hb, hx⟩ := HSRC.out h0
    exact ⟨ad, e, fun j v hj => (World.cell?_alloc_lt w _ _ (by rw [add_block]; exact hb)).trans (hx j v hj)⟩
  · simp [ints]
  · intro u hu
    simp only [ints, List.mem_map] at hu
    obtain ⟨x, _, rfl⟩ := hu
    rfl
  intro w2 hk2 ho2
  have HK2 := hide hk2
  have HO2 := hide ho2
  clear hk2 ho2
  have hk : Blk w2 w.heap.size 3 (ints (lendJ l 0)).toArray := by
    have e : ints l ++ (ints (List.replicate (l.length + 5) 0)).drop (ints l).length = ints (lendJ l 0) := by
      rw [lendJ_zero]; simp [ints]
    rw [← e]
    exact HK2.out
  have hb : Below w.heap.size w w2 := ((Only.refl (fun k => k = w.heap.size) w).alloc _ |>.trans HO2.out).below (fun k e => by omega) (Nat.le_refl _)
  have HK := hide hk
  have HB := hide hb
  clear hk hb HK2 HO2
  go_wp2_with fail
  go_loopw [4] (fun tx W => ∃ j : Nat, tx = .int .i64 ((l.length : Int) + (j : Int)) ∧ j ≤ 5 ∧ Blk W w.heap.size 3 (ints (lendJ l j)).toArray ∧ Below w.heap.size w W) (fun tx _ => l.length + 5 - (intOf tx).toNat)
  case atStart => exact ⟨0, by simp, by omega, HK.out, HB.out⟩
  case round =>
    obtain ⟨j, rfl, hj, hk, hb⟩ := hrel
    rename World => W
    have u2 := IntWalk.i64_in ((l.length : Int) + (j : Int) + 1) (by omega)
    have u3 := IntWalk.i64_in (-77 - ((l.length : Int) + (j : Int))) (by omega)
    have HK := hide hk
    have HB := hide hb
    by_cases hlt : j < 5
    · have hlt2 : (l.length : Int) + (j : Int) < (l.length : Int) + 5 := by omega
      have hlt3 : l.length + j < l.length + 5 := by omega
      have e0 : ((l.length : Int) + (j : Int)).toNat = l.length + j := by omega
      have c0 : W.cell? ⟨w.heap.size, l.length + j, none⟩ = some (.int .i64 (fAt (lendJ l j) ((l.length + j : Nat) : Int))) := by rw [hk.cell]; exact ints_at (by rw [lendJ_len]; omega)
      have f0 := hk.frozen (l.length + j)
      clear hk hb
      go_wp2_with fail
      go_roundw
      case rel =>
        refine ⟨j + 1, by go_num, by omega, ?_, HB.out.setCell (by exact Nat.le_refl _) _⟩
        have := HK.out.set_ (l.length + j) (.int .i64 (-77 - ((l.length : Int) + (j : Int))))
        rw [ints_set, lendJ_step l j (by omega)] at this
        exact this
      case measure => simp [intOf]; omega
    · have hj5 : j = 5 := by omega
      have hno : ¬ (l.length : Int) + (j : Int) < (l.length : Int) + 5 := by omega
      rw [hj5] at hk
      have HK := hide hk
      clear hk hb hj5 hlt hj
      go_wp2_with fail
      go_ret
      exact ⟨_, rfl, Nat.le_refl _, HK.out, HB.out⟩
end Go.Proofs.Ytjflllfkgbhemaa

/- A program that is lent, in memory. Conditions: none. -/
namespace Go.Proofs.Ytjflllfkgbhemaa
open Go.RowKit
def boolsV (l : List Bool) : List Value := l.map Value.bool
def varsV (l : List Vr) : List Value := l.flatMap fun x => [.int .i64 x.init, .int .i64 x.lo, .int .i64 x.hi]
def marksC (n : Nat) : List Ins := (List.range 9).map fun (k : Nat) => ⟨-9, (n : Int) + (k : Int), 0, 0, 0⟩
def markV : List Vr := [⟨91, 0, 0⟩, ⟨0, 0, 0⟩, ⟨0, 0, 0⟩]
theorem made_const {zs : Array Value} {v : Value} (h : ∀ x ∈ zs, x = v) (h0 : 0 < zs.size) (m : Nat) : madeCells zs m = (List.replicate m v).toArray := by
  apply Array.ext_getElem?
  intro i
  by_cases hi : i < m
  · have e1 : (List.replicate m v).toArray[i]? = some v := by simp [hi]
    rw [e1]
    unfold madeCells
    rw [Array.getElem?_eq_getElem (by simpa using hi)]
    have e2 : ((Array.range m).map (zs[· % zs.size]!))[i]'(by simpa using hi) = zs[i % zs.size]! := by simp
    rw [e2, getElem!_pos zs _ (Nat.mod_lt _ h0)]
    exact congrArg some (h _ (Array.getElem_mem _))
  · rw [Array.getElem?_eq_none (by simp [madeCells]; omega), Array.getElem?_eq_none (by simp; omega)]
/-- the program P is lent: each of its rows lies at the head of a block of its own, marks behind it -/
structure Lent (w : World) (B : Nat) (gg gv gt go gc : Nat) (P : Prg) : Prop where
  g : Blk w gg 4 (boolsV (P.gh ++ List.replicate 3 false)).toArray
  v : Blk w gv 49 (varsV (P.vs ++ markV)).toArray
  t : Blk w gt 3 (ints (lendL P.ts)).toArray
  o : Blk w go 3 (ints (lendL P.os)).toArray
  c : Blk w gc 46 (codeV (P.cd ++ marksC P.cd.length)).toArray
  base : B ≤ gg ∧ B ≤ gv ∧ B ≤ gt ∧ B ≤ go ∧ B ≤ gc
  apart : gt ≠ go
def lentPV (gg gv gt go gc : Nat) (P : Prg) : PV := ⟨some ⟨gg, 0, none⟩, some ⟨gv, 0, none⟩, some ⟨gt, 0, none⟩, some ⟨go, 0, none⟩, some ⟨gc, 0, none⟩, P.gh.length, P.gh.length + 3, P.vs.length, P.vs.length + 3, P.ts.length, P.ts.length + 5, P.os.length, P.os.length + 5, P.cd.length, P.cd.length + 9, P.miss⟩
theorem varsV_get : ∀ {l : List Vr} {i : Nat} {x : Vr}, l[i]? = some x → (varsV l)[i * 3]? = some (.int .i64 x.init) ∧ (varsV l)[i * 3 + 1]? = some (.int .i64 x.lo) ∧ (varsV l)[i * 3 + 2]? = some (.int .i64 x.hi)
  | [], i, x, h => by simp at h
  | y :: l, 0, x, h => by
    simp at h
    subst h
    exact ⟨rfl, rfl, rfl⟩
  | y :: l, i + 1, x, h => by
    have ih := varsV_get (l := l) (i := i) (x := x) (by simpa using h)
    have e : varsV (y :: l) = [.int .i64 y.init, .int .i64 y.lo, .int .i64 y.hi] ++ varsV l := rfl
    have sh : ∀ j, ([.int .i64 y.init, .int .i64 y.lo, .int .i64 y.hi] ++ varsV l)[(i + 1) * 3 + j]? = (varsV l)[i * 3 + j]? := fun j => by
      have hl : ([.int .i64 y.init, .int .i64 y.lo, .int .i64 y.hi] : List Value).length = 3 := rfl
      rw [List.getElem?_append_right (by omega), hl, show (i + 1) * 3 + j - 3 = i * 3 + j by omega]
    rw [e]
    exact ⟨(sh 0).trans ih.1, (sh 1).trans ih.2.1, (sh 2).trans ih.2.2⟩
theorem varsV_len (l : List Vr) : (varsV l).length = l.length * 3 := by
  induction l with
  | nil => rfl
  | cons x l ih =>
    have e : varsV (x :: l) = [.int .i64 x.init, .int .i64 x.lo, .int .i64 x.hi] ++ varsV l := rfl
    rw [e, List.length_append, ih]
    simp
    omega
theorem get_left {α : Type} {l l' : List α} {i : Nat} {x : α} (h : l[i]? = some x) : (l ++ l')[i]? = some x := by
  rw [List.getElem?_append_left (List.getElem?_eq_some_iff.1 h).1]; exact h
theorem lend_get {l : List Int} {i : Nat} {x : Int} (hx : l[i]? = some x) : (ints (lendL l)).toArray[i]? = some (.int .i64 x) := by
  simp only [ints, lendL, lendJ, List.getElem?_toArray, List.getElem?_map]
  rw [get_left hx]
  rfl
theorem Lent.mem {w : World} {B gg gv gt go gc : Nat} {P : Prg} (h : Lent w B gg gv gt go gc P) (hl : P.gh.length ≤ maxLen ∧ P.vs.length ≤ maxLen ∧ P.ts.length ≤ maxLen ∧ P.os.length ≤ maxLen ∧ P.cd.length ≤ maxLen) : PMem w (lentPV gg gv gt go gc P) P where
  gl := rfl
  vl := rfl
  tl := rfl
  ol := rfl
  cl := rfl
  miss := rfl
  g := fun i x hx => ⟨_, rfl, h.g.lt, by rw [h.g.cell]; have := get_left (l' := List.replicate 3 false) hx; simp only [boolsV, List.getElem?_toArray, List.getElem?_map, this, Option.map_some]⟩
  v := fun i x hx => by
    obtain ⟨c0, c1, c2⟩ := varsV_get (get_left (l' := markV) hx)
    exact ⟨⟨_, rfl, h.v.lt, by rw [h.v.cell]; simpa using c0⟩, ⟨_, rfl, h.v.lt, by rw [h.v.cell]; simpa using c1⟩, ⟨_, rfl, h.v.lt, by rw [h.v.cell]; simpa using c2⟩⟩
  t := fun i x hx => ⟨_, rfl, h.t.lt, by rw [h.t.cell]; exact lend_get hx⟩
  o := fun i x hx => ⟨_, rfl, h.o.lt, by rw [h.o.cell]; exact lend_get hx⟩
  c := fun i x hx => by
    obtain ⟨c0, c1, c2, c3, c4⟩ := codeV_get (get_left (l' := marksC P.cd.length) hx)
    exact ⟨⟨_, rfl, h.c.lt, by rw [h.c.cell]; simpa using c0⟩, ⟨_, rfl, h.c.lt, by rw [h.c.cell]; simpa using c1⟩, ⟨_, rfl, h.c.lt, by rw [h.c.cell]; simpa using c2⟩, ⟨_, rfl, h.c.lt, by rw [h.c.cell]; simpa using c3⟩, ⟨_, rfl, h.c.lt, by rw [h.c.cell]; simpa using c4⟩⟩
  lens := hl
theorem Lent.mv {w : World} {B gg gv gt go gc : Nat} {P : Prg} (h : Lent w B gg gv gt go gc P) (hl : P.os.length + 5 ≤ maxLen) : Mv w (lentPV gg gv gt go gc P).oa (lentPV gg gv gt go gc P).oc P.os :=
  ⟨by simp [lentPV], hl, by simp [lentPV], fun a ha => by simp [lentPV] at ha; subst ha; exact ⟨_, rfl, h.o.lt⟩, fun i x hx => ⟨_, rfl, h.o.lt, by rw [h.o.cell]; exact lend_get hx⟩⟩
theorem Lent.below {w w' : World} {B gg gv gt go gc : Nat} {P : Prg} (h : Lent w B gg gv gt go gc P) (hb : Below w.heap.size w w') : Lent w' B gg gv gt go gc P :=
  ⟨h.g.below hb h.g.lt, h.v.below hb h.v.lt, h.t.below hb h.t.lt, h.o.below hb h.o.lt, h.c.below hb h.c.lt, h.base, h.apart⟩
theorem info4 : (Try.prog.info? 4).map (fun i => (i.zero, i.size, i.bytes)) = some (some (.bool false), 1, 1) := by kernel_rfl
theorem info49 : (Try.prog.info? 49).map (fun i => (i.zero, i.size, i.bytes)) = some (some (.agg #[.int .i64 0, .int .i64 0, .int .i64 0]), 3, 24) := by kernel_rfl
theorem make_bools (w : World) (n : Nat) (h : n ≤ 4194304) : (Instr.makeSlice 23 (.int .i64 (n : Int)) (.int .i64 (n : Int))).run Try.prog w = .ok (.slice (some ⟨w.heap.size, 0, none⟩) n n) (w.alloc (.cells (List.replicate n (.bool false)).toArray 4)) := by
  obtain ⟨i0, hi, hz0, hz1, hz2⟩ := info_parts info4
  have := run_make_rowN (P := Try.prog) 23 4 i0 (.bool false) Try.underlying23 hi hz0 .i64 .i64 n n (Nat.le_refl _) (by rw [hz2]; omega) (by omega) w
  rw [hz1, made_const (v := .bool false) (by simp [Value.cells]) (by simp [Value.cells])] at this
  simpa using this
theorem make_vars (w : World) (n : Nat) (h : n ≤ 4194304) : (Instr.makeSlice 24 (.int .i64 (n : Int)) (.int .i64 (n : Int))).run Try.prog w = .ok (.slice (some ⟨w.heap.size, 0, none⟩) n n) (w.alloc (.cells (List.replicate (n * 3) (.int .i64 0)).toArray 49)) := by
  obtain ⟨i0, hi, hz0, hz1, hz2⟩ := info_parts info49
  have := run_make_rowN (P := Try.prog) 24 49 i0 (.agg #[.int .i64 0, .int .i64 0, .int .i64 0]) Try.underlying24 hi hz0 .i64 .i64 n n (Nat.le_refl _) (by rw [hz2]; omega) (by omega) w
  rw [hz1, made_const (v := .int .i64 0) (by simp [Value.cells]) (by simp [Value.cells])] at this
  exact this
theorem make_code (w : World) (n : Nat) (h : n ≤ 4194304) : (Instr.makeSlice 26 (.int .i64 (n : Int)) (.int .i64 (n : Int))).run Try.prog w = .ok (.slice (some ⟨w.heap.size, 0, none⟩) n n) (w.alloc (.cells (List.replicate (n * 5) (.int .i64 0)).toArray 46)) := by
  obtain ⟨i0, hi, hz0, hz1, hz2⟩ := info_parts info46
  have := run_make_rowN (P := Try.prog) 26 46 i0 (.agg #[.int .i64 0, .int .i64 0, .int .i64 0, .int .i64 0, .int .i64 0]) Try.underlying26 hi hz0 .i64 .i64 n n (Nat.le_refl _) (by rw [hz2]; omega) (by omega) w
  rw [hz1, made_const (v := .int .i64 0) (by simp [Value.cells]) (by simp [Value.cells])] at this
  exact this
end Go.Proofs.Ytjflllfkgbhemaa

/- The walk of LendProgram. Conditions: the lengths' bounds. -/
namespace Go.Proofs.Ytjflllfkgbhemaa
open Go.RowKit
/-- a program that was handed in: its rows lie wherever they lie -/
structure AMem (w : World) (p : PV) (P : Prg) : Prop where
  gl : p.gl = P.gh.length
  vl : p.vl = P.vs.length
  tl : p.tl = P.ts.length
  ol : p.ol = P.os.length
  cl : p.cl = P.cd.length
  miss : p.miss = P.miss
  g : Src w p.ga P.gh.length (boolsV P.gh)
  v : Src w p.va P.vs.length (varsV P.vs)
  t : Src w p.ta P.ts.length (ints P.ts)
  o : Src w p.oa P.os.length (ints P.os)
  c : Src w p.ca P.cd.length (codeV P.cd)
  lens : p.gl ≤ maxLen ∧ p.vl ≤ maxLen ∧ p.tl ≤ maxLen ∧ p.ol ≤ maxLen ∧ p.cl ≤ maxLen
theorem AMem.below {w w' : World} {p : PV} {P : Prg} (h : AMem w p P) (hb : Below w.heap.size w w') : AMem w' p P :=
  ⟨h.gl, h.vl, h.tl, h.ol, h.cl, h.miss, h.g.below hb, h.v.below hb, h.t.below hb, h.o.below hb, h.c.below hb, h.lens⟩
theorem vars_set (l : List Vr) : (((varsV (l ++ [⟨0, 0, 0⟩, ⟨0, 0, 0⟩, ⟨0, 0, 0⟩])).toArray.setIfInBounds (l.length * 3) (.int .i64 91)).setIfInBounds (l.length * 3 + 1) (.int .i64 0)).setIfInBounds (l.length * 3 + 2) (.int .i64 0) = (varsV (l ++ markV)).toArray := by
  have e1 : varsV (l ++ [⟨0, 0, 0⟩, ⟨0, 0, 0⟩, ⟨0, 0, 0⟩]) = varsV l ++ varsV [⟨0, 0, 0⟩, ⟨0, 0, 0⟩, ⟨0, 0, 0⟩] := by simp [varsV]
  have e2 : varsV (l ++ markV) = varsV l ++ varsV markV := by simp [varsV]
  rw [e1, e2, ← varsV_len l]
  simp [varsV, markV]
/-- the marks behind a lent code, j of them laid -/
def marksJ (n j : Nat) : List Ins := (List.range 9).map fun (k : Nat) => if k < j then ⟨-9, (n : Int) + (k : Int), 0, 0, 0⟩ else ⟨0, 0, 0, 0, 0⟩
theorem marksJ_all (n : Nat) : marksJ n 9 = marksC n := by
  unfold marksJ marksC
  apply List.map_congr_left
  intro k hk
  rw [if_pos (List.mem_range.1 hk)]
theorem marksJ_step (l : List Ins) (j : Nat) (hj : j < 9) : (l ++ marksJ l.length j).set (l.length + j) ⟨-9, (l.length : Int) + (j : Int), 0, 0, 0⟩ = l ++ marksJ l.length (j + 1) := by
  rw [List.set_append, if_neg (by omega), Nat.add_sub_cancel_left]
  congr 1
  apply List.ext_getElem?
  intro k
  unfold marksJ
  rw [List.getElem?_set]
  by_cases hk : k < 9
  · rw [List.getElem?_map, List.getElem?_map, List.getElem?_range hk]
    by_cases h1 : j = k
    · subst h1
      simp [hk]
    · rw [if_neg h1]
      simp only [Option.map_some]
      by_cases h2 : k < j
      · rw [if_pos h2, if_pos (by omega)]
      · rw [if_neg h2, if_neg (by omega)]
  · rw [List.getElem?_eq_none (by simp; omega), List.getElem?_eq_none (by simp; omega)]
    simp
    omega
theorem code_set {l : List Ins} {i : Nat} {x : Ins} (hi : i < l.length) : (((((codeV l).toArray.setIfInBounds (i * 5) (.int .i64 x.op)).setIfInBounds (i * 5 + 1) (.int .i64 x.a)).setIfInBounds (i * 5 + 2) (.int .i64 x.b)).setIfInBounds (i * 5 + 3) (.int .i64 x.c)).setIfInBounds (i * 5 + 4) (.int .i64 x.d) = (codeV (l.set i x)).toArray := by
  obtain ⟨l1, y, l2, rfl, rfl⟩ : ∃ l1 y l2, l = l1 ++ y :: l2 ∧ i = l1.length := ⟨l.take i, l[i], l.drop (i + 1), by simp, by simp; omega⟩
  have e1 : codeV (l1 ++ y :: l2) = codeV l1 ++ ([.int .i64 y.op, .int .i64 y.a, .int .i64 y.b, .int .i64 y.c, .int .i64 y.d] ++ codeV l2) := by rw [codeV_append]; rfl
  have e2 : codeV ((l1 ++ y :: l2).set l1.length x) = codeV l1 ++ ([.int .i64 x.op, .int .i64 x.a, .int .i64 x.b, .int .i64 x.c, .int .i64 x.d] ++ codeV l2) := by
    rw [List.set_append, if_neg (by omega), Nat.sub_self, List.set_cons_zero, codeV_append]; rfl
  rw [e1, e2, ← codeV_len l1]
  simp
theorem Lent.far28 {w w' : World} {B gg gv gt go gc k : Nat} {P : Prg} {c : Array Value} (h : Lent w B gg gv gt go gc P) (hk : Blk w k 28 c) (ho : Only (fun x => x = k) w w') : Lent w' B gg gv gt go gc P :=
  ⟨h.g.only ho (h.g.ne_ hk (by decide)), h.v.only ho (h.v.ne_ hk (by decide)), h.t.only ho (h.t.ne_ hk (by decide)), h.o.only ho (h.o.ne_ hk (by decide)), h.c.only ho (h.c.ne_ hk (by decide)), h.base, h.apart⟩
theorem bools_one (l : List Bool) : ∀ v ∈ boolsV l, v.oneCell' = true := by
  intro v hv
  simp only [boolsV, List.mem_map] at hv
  obtain ⟨x, _, rfl⟩ := hv
  rfl
theorem vars_one (l : List Vr) : ∀ v ∈ varsV l, v.oneCell' = true := by
  intro v hv
  simp only [varsV, List.mem_flatMap, List.mem_cons, List.not_mem_nil, or_false] at hv
  obtain ⟨x, _, rfl | rfl | rfl⟩ := hv <;> rfl
theorem code_one (l : List Ins) : ∀ v ∈ codeV l, v.oneCell' = true := by
  intro v hv
  simp only [codeV, List.mem_flatMap, List.mem_cons, List.not_mem_nil, or_false] at hv
  obtain ⟨x, _, rfl | rfl | rfl | rfl | rfl⟩ := hv <;> rfl
set_option linter.unusedVariables false in
set_option linter.unusedSimpArgs false in
set_option maxRecDepth 100000 in
set_option maxHeartbeats 40000000 in
theorem lendProgram_i (w : World) (p : PV) (P : Prg) (h : AMem w p P) (hl : P.gh.length ≤ 100 ∧ P.vs.length ≤ 100 ∧ P.ts.length ≤ 100 ∧ P.os.length ≤ 100 ∧ P.cd.length ≤ 524288) :
    Calls Try.prog 12 #[p.val] w fun en w' => ∃ gg gv gt go gc, en = .returned (lentPV gg gv gt go gc P).val ∧ Lent w' w.heap.size gg gv gt go gc P ∧ Below w.heap.size w w' := by
  have hres : Try.f12.results = #[.cell 2 28] := by kernel_rfl
  have HSG : Hid (Src w _ _ _) := hide h.g
  have HSV : Hid (Src w _ _ _) := hide h.v
  have HSC : Hid (Src w _ _ _) := hide h.c
  have HTS := hide (fun (W : World) (hb : Below w.heap.size w W) => lendInts_i W p.ta p.tc _ (h.t.below hb) (by omega))
  have HOS := hide (fun (W : World) (hb : Below w.heap.size w W) => lendInts_i W p.oa p.oc _ (h.o.below hb) (by omega))
  obtain ⟨e1, e2, e3, e4, e5, e6, _, _, _, _, _, _⟩ := h
  obtain ⟨ga, va, ta, oa, ca, gl, gc, vl, vc, tl, tc, ol, oc, cl, cc, miss⟩ := p
  simp only at e1 e2 e3 e4 e5 e6
  subst e1 e2 e3 e4 e5 e6
  simp only [PV.val] at *
  obtain ⟨d1, d2, d3, d4, d5⟩ := hl
  have hmg : ∀ W : World, (Instr.makeSlice 23 (.int .i64 ((P.gh.length : Int) + 3)) (.int .i64 ((P.gh.length : Int) + 3))).run Try.prog W = .ok (.slice (some ⟨W.heap.size, 0, none⟩) (P.gh.length + 3) (P.gh.length + 3)) (W.alloc (.cells (List.replicate (P.gh.length + 3) (.bool false)).toArray 4)) := fun W => by simpa using make_bools W (P.gh.length + 3) (by omega)
  have hmv : ∀ W : World, (Instr.makeSlice 24 (.int .i64 ((P.vs.length : Int) + 3)) (.int .i64 ((P.vs.length : Int) + 3))).run Try.prog W = .ok (.slice (some ⟨W.heap.size, 0, none⟩) (P.vs.length + 3) (P.vs.length + 3)) (W.alloc (.cells (List.replicate ((P.vs.length + 3) * 3) (.int .i64 0)).toArray 49)) := fun W => by have := make_vars W (P.vs.length + 3) (by omega); rw [Int.natCast_add] at this; exact this
  have hmc : ∀ W : World, (Instr.makeSlice 26 (.int .i64 ((P.cd.length : Int) + 9)) (.int .i64 ((P.cd.length : Int) + 9))).run Try.prog W = .ok (.slice (some ⟨W.heap.size, 0, none⟩) (P.cd.length + 9) (P.cd.length + 9)) (W.alloc (.cells (List.replicate ((P.cd.length + 9) * 5) (.int .i64 0)).toArray 46)) := fun W => by have := make_code W (P.cd.length + 9) (by omega); rw [Int.natCast_add] at this; exact this
  have u1 := IntWalk.i64_in ((P.gh.length : Int) + 3) (by omega)
  have u2 := IntWalk.i64_in ((P.vs.length : Int) + 3) (by omega)
  have u3 := IntWalk.i64_in ((P.cd.length : Int) + 9) (by omega)
  go_enter Try.func12, Try.ntmps12
  go_upto_region 2 with fail
  have kp : Blk (((w.alloc (.cells #[.slice ga P.gh.length gc, .slice va P.vs.length vc, .slice ta P.ts.length tc, .slice oa P.os.length oc, .int .i64 P.miss, .slice ca P.cd.length cc] 28)).alloc (.cells #[.slice none 0 0, .slice none 0 0, .slice none 0 0, .slice none 0 0, .int .i64 0, .slice none 0 0] 28)).alloc (.cells #[.slice none 0 0, .slice none 0 0, .slice none 0 0, .slice none 0 0, .int .i64 P.miss, .slice none 0 0] 28)) (w.heap.size) 28 #[.slice ga P.gh.length gc, .slice va P.vs.length vc, .slice ta P.ts.length tc, .slice oa P.os.length oc, .int .i64 P.miss, .slice ca P.cd.length cc] := ((Blk.new w 28 _).alloc _).alloc _
  have kr : Blk (((w.alloc (.cells #[.slice ga P.gh.length gc, .slice va P.vs.length vc, .slice ta P.ts.length tc, .slice oa P.os.length oc, .int .i64 P.miss, .slice ca P.cd.length cc] 28)).alloc (.cells #[.slice none 0 0, .slice none 0 0, .slice none 0 0, .slice none 0 0, .int .i64 0, .slice none 0 0] 28)).alloc (.cells #[.slice none 0 0, .slice none 0 0, .slice none 0 0, .slice none 0 0, .int .i64 P.miss, .slice none 0 0] 28)) (w.heap.size + 1) 28 #[.slice none 0 0, .slice none 0 0, .slice none 0 0, .slice none 0 0, .int .i64 0, .slice none 0 0] := by
    have := (Blk.new (w.alloc (.cells #[.slice ga P.gh.length gc, .slice va P.vs.length vc, .slice ta P.ts.length tc, .slice oa P.os.length oc, .int .i64 P.miss, .slice ca P.cd.length cc] 28)) 28 #[.slice none 0 0, .slice none 0 0, .slice none 0 0, .slice none 0 0, .int .i64 0, .slice none 0 0]).alloc (.cells #[.slice none 0 0, .slice none 0 0, .slice none 0 0, .slice none 0 0, .int .i64 P.miss, .slice none 0 0] 28)
    simpa using this
  have ko : Blk (((w.alloc (.cells #[.slice ga P.gh.length gc, .slice va P.vs.length vc, .slice ta P.ts.length tc, .slice oa P.os.length oc, .int .i64 P.miss, .slice ca P.cd.length cc] 28)).alloc (.cells #[.slice none 0 0, .slice none 0 0, .slice none 0 0, .slice none 0 0, .int .i64 0, .slice none 0 0] 28)).alloc (.cells #[.slice none 0 0, .slice none 0 0, .slice none 0 0, .slice none 0 0, .int .i64 P.miss, .slice none 0 0] 28)) (w.heap.size + 1 + 1) 28 #[.slice none 0 0, .slice none 0 0, .slice none 0 0, .slice none 0 0, .int .i64 P.miss, .slice none 0 0] := by
    have := Blk.new ((w.alloc (.cells #[.slice ga P.gh.length gc, .slice va P.vs.length vc, .slice ta P.ts.length tc, .slice oa P.os.length oc, .int .i64 P.miss, .slice ca P.cd.length cc] 28)).alloc (.cells #[.slice none 0 0, .slice none 0 0, .slice none 0 0, .slice none 0 0, .int .i64 0, .slice none 0 0] 28)) 28 #[.slice none 0 0, .slice none 0 0, .slice none 0 0, .slice none 0 0, .int .i64 P.miss, .slice none 0 0]
    simpa using this
  have hb : Below w.heap.size w (((w.alloc (.cells #[.slice ga P.gh.length gc, .slice va P.vs.length vc, .slice ta P.ts.length tc, .slice oa P.os.length oc, .int .i64 P.miss, .slice ca P.cd.length cc] 28)).alloc (.cells #[.slice none 0 0, .slice none 0 0, .slice none 0 0, .slice none 0 0, .int .i64 0, .slice none 0 0] 28)).alloc (.cells #[.slice none 0 0, .slice none 0 0, .slice none 0 0, .slice none 0 0, .int .i64 P.miss, .slice none 0 0] 28)) := (((Below.refl _ w).alloc (Nat.le_refl _) _).alloc (by simp) _).alloc (by simp; omega) _
  generalize (((w.alloc (.cells #[.slice ga P.gh.length gc, .slice va P.vs.length vc, .slice ta P.ts.length tc, .slice oa P.os.length oc, .int .i64 P.miss, .slice ca P.cd.length cc] 28)).alloc (.cells #[.slice none 0 0, .slice none 0 0, .slice none 0 0, .slice none 0 0, .int .i64 0, .slice none 0 0] 28)).alloc (.cells #[.slice none 0 0, .slice none 0 0, .slice none 0 0, .slice none 0 0, .int .i64 P.miss, .slice none 0 0] 28)) = W1 at *
  have HP := hide kp
  have HR := hide kr
  have HO := hide ko
  have HB := hide hb
  clear kp kr ko hb
  have p0 : W1.cell? ⟨w.heap.size, 0, none⟩ = some (.slice ga P.gh.length gc) := by rw [HP.out.cell]; rfl
  have p1 : W1.cell? ⟨w.heap.size, 1, none⟩ = some (.slice va P.vs.length vc) := by rw [HP.out.cell]; rfl
  have p2 : W1.cell? ⟨w.heap.size, 2, none⟩ = some (.slice ta P.ts.length tc) := by rw [HP.out.cell]; rfl
  have p3 : W1.cell? ⟨w.heap.size, 3, none⟩ = some (.slice oa P.os.length oc) := by rw [HP.out.cell]; rfl
  have p4 : W1.cell? ⟨w.heap.size, 4, none⟩ = some (.int .i64 P.miss) := by rw [HP.out.cell]; rfl
  have p5 : W1.cell? ⟨w.heap.size, 5, none⟩ = some (.slice ca P.cd.length cc) := by rw [HP.out.cell]; rfl
  have o0 : W1.cell? ⟨w.heap.size + 1 + 1, 0, none⟩ = some (.slice none 0 0) := by rw [HO.out.cell]; rfl
  have o1 : W1.cell? ⟨w.heap.size + 1 + 1, 1, none⟩ = some (.slice none 0 0) := by rw [HO.out.cell]; rfl
  have o2 : W1.cell? ⟨w.heap.size + 1 + 1, 2, none⟩ = some (.slice none 0 0) := by rw [HO.out.cell]; rfl
  have o3 : W1.cell? ⟨w.heap.size + 1 + 1, 3, none⟩ = some (.slice none 0 0) := by rw [HO.out.cell]; rfl
  have o4 : W1.cell? ⟨w.heap.size + 1 + 1, 4, none⟩ = some (.int .i64 P.miss) := by rw [HO.out.cell]; rfl
  have o5 : W1.cell? ⟨w.heap.size + 1 + 1, 5, none⟩ = some (.slice none 0 0) := by rw [HO.out.cell]; rfl
  have of0 := HO.out.frozen 0
  have of1 := HO.out.frozen 1
  have of2 := HO.out.frozen 2
  have of3 := HO.out.frozen 3
  have of4 := HO.out.frozen 4
  have of5 := HO.out.frozen 5
  have pa0 : ∀ o, (W1.alloc o).cell? ⟨w.heap.size, 0, none⟩ = some (.slice ga P.gh.length gc) := fun o => (World.cell?_alloc_lt W1 o _ (by exact HP.out.lt)).trans p0
  have pa1 : ∀ o, (W1.alloc o).cell? ⟨w.heap.size, 1, none⟩ = some (.slice va P.vs.length vc) := fun o => (World.cell?_alloc_lt W1 o _ (by exact HP.out.lt)).trans p1
  have pa2 : ∀ o, (W1.alloc o).cell? ⟨w.heap.size, 2, none⟩ = some (.slice ta P.ts.length tc) := fun o => (World.cell?_alloc_lt W1 o _ (by exact HP.out.lt)).trans p2
  have pa3 : ∀ o, (W1.alloc o).cell? ⟨w.heap.size, 3, none⟩ = some (.slice oa P.os.length oc) := fun o => (World.cell?_alloc_lt W1 o _ (by exact HP.out.lt)).trans p3
  have pa4 : ∀ o, (W1.alloc o).cell? ⟨w.heap.size, 4, none⟩ = some (.int .i64 P.miss) := fun o => (World.cell?_alloc_lt W1 o _ (by exact HP.out.lt)).trans p4
  have pa5 : ∀ o, (W1.alloc o).cell? ⟨w.heap.size, 5, none⟩ = some (.slice ca P.cd.length cc) := fun o => (World.cell?_alloc_lt W1 o _ (by exact HP.out.lt)).trans p5
  go_wp2_with (with_reducible refine wpList_copyN rfl (.tmp 16) (.tmp 18) 23 23 rfl 4 Try.underlying23 1 (by kernel_rfl) W1.heap.size (P.gh.length + 3) (P.gh.length + 3) ga P.gh.length gc rfl rfl (by omega) (List.replicate (P.gh.length + 3) (.bool false)) 4 (Blk.new W1 4 _) (boolsV P.gh) (by simp [boolsV]) ?_ ?_ ?_ ?_)
  · exact HSG.out.copy (HB.out.alloc HB.out.size _)
  · simp [boolsV]
  · exact bools_one _
  intro w2 hk2 ho2
  have e1 : boolsV P.gh ++ List.replicate (P.gh.length + 3 - (boolsV P.gh).length) (.bool false) = boolsV (P.gh ++ List.replicate 3 false) := by
    have : P.gh.length + 3 - (boolsV P.gh).length = 3 := by simp [boolsV]
    rw [this]; simp [boolsV]
  have hw1 : w.heap.size + 3 ≤ W1.heap.size := by have := HO.out.lt; omega
  have hb2 : Below W1.heap.size W1 w2 := ((Below.refl W1.heap.size W1).alloc (Nat.le_refl _) _).trans (ho2.below (fun k e => Nat.le_of_eq e.symm) (by simp))
  have hg : Blk w2 W1.heap.size 4 (boolsV (P.gh ++ List.replicate 3 false)).toArray := by
    have := hk2
    rw [e1] at this
    exact this
  have HB := hide (HB.out.trans (hb2.mono HB.out.size))
  have HG := hide hg
  clear p0 pa0 p1 pa1 p2 pa2 p3 pa3 p4 pa4 p5 pa5 o0 o1 o2 o3 o4 o5 of0 of1 of2 of3 of4 of5
  have HP := hide (HP.out.below hb2 HP.out.lt)
  have HR := hide (HR.out.below hb2 HR.out.lt)
  have HO := hide (HO.out.below hb2 HO.out.lt)
  skip
  generalize W1.heap.size = gg at *
  have HGE := hide hw1
  clear hk2 ho2 hb2 hg e1 hw1
  have p0 : w2.cell? ⟨w.heap.size, 0, none⟩ = some (.slice ga P.gh.length gc) := by rw [HP.out.cell]; rfl
  have p1 : w2.cell? ⟨w.heap.size, 1, none⟩ = some (.slice va P.vs.length vc) := by rw [HP.out.cell]; rfl
  have p2 : w2.cell? ⟨w.heap.size, 2, none⟩ = some (.slice ta P.ts.length tc) := by rw [HP.out.cell]; rfl
  have p3 : w2.cell? ⟨w.heap.size, 3, none⟩ = some (.slice oa P.os.length oc) := by rw [HP.out.cell]; rfl
  have p4 : w2.cell? ⟨w.heap.size, 4, none⟩ = some (.int .i64 P.miss) := by rw [HP.out.cell]; rfl
  have p5 : w2.cell? ⟨w.heap.size, 5, none⟩ = some (.slice ca P.cd.length cc) := by rw [HP.out.cell]; rfl
  have o0 : w2.cell? ⟨w.heap.size + 1 + 1, 0, none⟩ = some (.slice none 0 0) := by rw [HO.out.cell]; rfl
  have o1 : w2.cell? ⟨w.heap.size + 1 + 1, 1, none⟩ = some (.slice none 0 0) := by rw [HO.out.cell]; rfl
  have o2 : w2.cell? ⟨w.heap.size + 1 + 1, 2, none⟩ = some (.slice none 0 0) := by rw [HO.out.cell]; rfl
  have o3 : w2.cell? ⟨w.heap.size + 1 + 1, 3, none⟩ = some (.slice none 0 0) := by rw [HO.out.cell]; rfl
  have o4 : w2.cell? ⟨w.heap.size + 1 + 1, 4, none⟩ = some (.int .i64 P.miss) := by rw [HO.out.cell]; rfl
  have o5 : w2.cell? ⟨w.heap.size + 1 + 1, 5, none⟩ = some (.slice none 0 0) := by rw [HO.out.cell]; rfl
  have of0 := HO.out.frozen 0
  have of1 := HO.out.frozen 1
  have of2 := HO.out.frozen 2
  have of3 := HO.out.frozen 3
  have of4 := HO.out.frozen 4
  have of5 := HO.out.frozen 5
  have hle := Nat.le_add_right P.gh.length 3
  go_upto_region 5 with fail
  clear hle
  clear p0 p1 p2 p3 p4 p5 o0 o1 o2 o3 o4 o5 of0 of1 of2 of3 of4 of5
  have hB : Below w.heap.size w (w2.setCell ⟨w.heap.size + 1 + 1, 0, none⟩ (.slice (some ⟨gg, 0, none⟩) P.gh.length (P.gh.length + 3))) := HB.out.setCell (by show w.heap.size ≤ w.heap.size + 1 + 1; omega) _
  have hP : Blk (w2.setCell ⟨w.heap.size + 1 + 1, 0, none⟩ (.slice (some ⟨gg, 0, none⟩) P.gh.length (P.gh.length + 3))) (w.heap.size) 28 #[.slice ga P.gh.length gc, .slice va P.vs.length vc, .slice ta P.ts.length tc, .slice oa P.os.length oc, .int .i64 P.miss, .slice ca P.cd.length cc] := HP.out.far (by show w.heap.size ≠ w.heap.size + 1 + 1; omega) _
  have hR : Blk (w2.setCell ⟨w.heap.size + 1 + 1, 0, none⟩ (.slice (some ⟨gg, 0, none⟩) P.gh.length (P.gh.length + 3))) (w.heap.size + 1) 28 #[.slice none 0 0, .slice none 0 0, .slice none 0 0, .slice none 0 0, .int .i64 0, .slice none 0 0] := HR.out.far (by show w.heap.size + 1 ≠ w.heap.size + 1 + 1; omega) _
  have hO : Blk (w2.setCell ⟨w.heap.size + 1 + 1, 0, none⟩ (.slice (some ⟨gg, 0, none⟩) P.gh.length (P.gh.length + 3))) (w.heap.size + 1 + 1) 28 #[.slice (some ⟨gg, 0, none⟩) P.gh.length (P.gh.length + 3), .slice none 0 0, .slice none 0 0, .slice none 0 0, .int .i64 P.miss, .slice none 0 0] := HO.out.set_ 0 _
  have hHG : Blk (w2.setCell ⟨w.heap.size + 1 + 1, 0, none⟩ (.slice (some ⟨gg, 0, none⟩) P.gh.length (P.gh.length + 3))) _ _ _ := HG.out.far (by show _ ≠ w.heap.size + 1 + 1; exact HG.out.ne_ HO.out (by decide)) _
  have HB := hide hB
  have HP := hide hP
  have HR := hide hR
  have HO := hide hO
  have HG := hide hHG
  clear hB hP hR hO hHG
  generalize (w2.setCell ⟨w.heap.size + 1 + 1, 0, none⟩ (.slice (some ⟨gg, 0, none⟩) P.gh.length (P.gh.length + 3))) = W3 at *
  have p0 : W3.cell? ⟨w.heap.size, 0, none⟩ = some (.slice ga P.gh.length gc) := by rw [HP.out.cell]; rfl
  have p1 : W3.cell? ⟨w.heap.size, 1, none⟩ = some (.slice va P.vs.length vc) := by rw [HP.out.cell]; rfl
  have p2 : W3.cell? ⟨w.heap.size, 2, none⟩ = some (.slice ta P.ts.length tc) := by rw [HP.out.cell]; rfl
  have p3 : W3.cell? ⟨w.heap.size, 3, none⟩ = some (.slice oa P.os.length oc) := by rw [HP.out.cell]; rfl
  have p4 : W3.cell? ⟨w.heap.size, 4, none⟩ = some (.int .i64 P.miss) := by rw [HP.out.cell]; rfl
  have p5 : W3.cell? ⟨w.heap.size, 5, none⟩ = some (.slice ca P.cd.length cc) := by rw [HP.out.cell]; rfl
  have o0 : W3.cell? ⟨w.heap.size + 1 + 1, 0, none⟩ = some (.slice (some ⟨gg, 0, none⟩) P.gh.length (P.gh.length + 3)) := by rw [HO.out.cell]; rfl
  have o1 : W3.cell? ⟨w.heap.size + 1 + 1, 1, none⟩ = some (.slice none 0 0) := by rw [HO.out.cell]; rfl
  have o2 : W3.cell? ⟨w.heap.size + 1 + 1, 2, none⟩ = some (.slice none 0 0) := by rw [HO.out.cell]; rfl
  have o3 : W3.cell? ⟨w.heap.size + 1 + 1, 3, none⟩ = some (.slice none 0 0) := by rw [HO.out.cell]; rfl
  have o4 : W3.cell? ⟨w.heap.size + 1 + 1, 4, none⟩ = some (.int .i64 P.miss) := by rw [HO.out.cell]; rfl
  have o5 : W3.cell? ⟨w.heap.size + 1 + 1, 5, none⟩ = some (.slice none 0 0) := by rw [HO.out.cell]; rfl
  have of0 := HO.out.frozen 0
  have of1 := HO.out.frozen 1
  have of2 := HO.out.frozen 2
  have of3 := HO.out.frozen 3
  have of4 := HO.out.frozen 4
  have of5 := HO.out.frozen 5
  have pa0 : ∀ o, (W3.alloc o).cell? ⟨w.heap.size, 0, none⟩ = some (.slice ga P.gh.length gc) := fun o => (World.cell?_alloc_lt W3 o _ (by exact HP.out.lt)).trans p0
  have pa1 : ∀ o, (W3.alloc o).cell? ⟨w.heap.size, 1, none⟩ = some (.slice va P.vs.length vc) := fun o => (World.cell?_alloc_lt W3 o _ (by exact HP.out.lt)).trans p1
  have pa2 : ∀ o, (W3.alloc o).cell? ⟨w.heap.size, 2, none⟩ = some (.slice ta P.ts.length tc) := fun o => (World.cell?_alloc_lt W3 o _ (by exact HP.out.lt)).trans p2
  have pa3 : ∀ o, (W3.alloc o).cell? ⟨w.heap.size, 3, none⟩ = some (.slice oa P.os.length oc) := fun o => (World.cell?_alloc_lt W3 o _ (by exact HP.out.lt)).trans p3
  have pa4 : ∀ o, (W3.alloc o).cell? ⟨w.heap.size, 4, none⟩ = some (.int .i64 P.miss) := fun o => (World.cell?_alloc_lt W3 o _ (by exact HP.out.lt)).trans p4
  have pa5 : ∀ o, (W3.alloc o).cell? ⟨w.heap.size, 5, none⟩ = some (.slice ca P.cd.length cc) := fun o => (World.cell?_alloc_lt W3 o _ (by exact HP.out.lt)).trans p5
  go_wp2_with (with_reducible refine wpList_copyN rfl (.tmp 31) (.tmp 33) 24 24 rfl 49 Try.underlying24 3 (by kernel_rfl) W3.heap.size (P.vs.length + 3) (P.vs.length + 3) va P.vs.length vc rfl rfl (by omega) (List.replicate ((P.vs.length + 3) * 3) (.int .i64 0)) 49 (Blk.new W3 49 _) (varsV P.vs) (varsV_len _) ?_ ?_ ?_ ?_)
  · exact HSV.out.copy (HB.out.alloc HB.out.size _)
  · rw [varsV_len]; first | (simp; done) | (simp; omega)
  · exact vars_one _
  intro w4 hk2 ho2
  have e1 : varsV P.vs ++ List.replicate ((P.vs.length + 3) * 3 - (varsV P.vs).length) (.int .i64 0) = varsV (P.vs ++ [⟨0, 0, 0⟩, ⟨0, 0, 0⟩, ⟨0, 0, 0⟩]) := by
    rw [varsV_len, show (P.vs.length + 3) * 3 - P.vs.length * 3 = 9 by omega, varsV, varsV, List.flatMap_append]; rfl
  have hw1 : w.heap.size + 3 ≤ W3.heap.size := by have := HO.out.lt; omega
  have hb2 : Below W3.heap.size W3 w4 := ((Below.refl W3.heap.size W3).alloc (Nat.le_refl _) _).trans (ho2.below (fun k e => Nat.le_of_eq e.symm) (by simp))
  have hg : Blk w4 W3.heap.size 49 (varsV (P.vs ++ [⟨0, 0, 0⟩, ⟨0, 0, 0⟩, ⟨0, 0, 0⟩])).toArray := by
    have := hk2
    rw [e1] at this
    exact this
  have HB := hide (HB.out.trans (hb2.mono HB.out.size))
  have HV := hide hg
  clear p0 pa0 p1 pa1 p2 pa2 p3 pa3 p4 pa4 p5 pa5 o0 o1 o2 o3 o4 o5 of0 of1 of2 of3 of4 of5
  have HP := hide (HP.out.below hb2 HP.out.lt)
  have HR := hide (HR.out.below hb2 HR.out.lt)
  have HO := hide (HO.out.below hb2 HO.out.lt)
  have HG := hide (HG.out.below hb2 HG.out.lt)
  skip
  generalize W3.heap.size = gv at *
  have HVE := hide hw1
  clear hk2 ho2 hb2 hg e1 hw1
  have p0 : w4.cell? ⟨w.heap.size, 0, none⟩ = some (.slice ga P.gh.length gc) := by rw [HP.out.cell]; rfl
  have p1 : w4.cell? ⟨w.heap.size, 1, none⟩ = some (.slice va P.vs.length vc) := by rw [HP.out.cell]; rfl
  have p2 : w4.cell? ⟨w.heap.size, 2, none⟩ = some (.slice ta P.ts.length tc) := by rw [HP.out.cell]; rfl
  have p3 : w4.cell? ⟨w.heap.size, 3, none⟩ = some (.slice oa P.os.length oc) := by rw [HP.out.cell]; rfl
  have p4 : w4.cell? ⟨w.heap.size, 4, none⟩ = some (.int .i64 P.miss) := by rw [HP.out.cell]; rfl
  have p5 : w4.cell? ⟨w.heap.size, 5, none⟩ = some (.slice ca P.cd.length cc) := by rw [HP.out.cell]; rfl
  have o0 : w4.cell? ⟨w.heap.size + 1 + 1, 0, none⟩ = some (.slice (some ⟨gg, 0, none⟩) P.gh.length (P.gh.length + 3)) := by rw [HO.out.cell]; rfl
  have o1 : w4.cell? ⟨w.heap.size + 1 + 1, 1, none⟩ = some (.slice none 0 0) := by rw [HO.out.cell]; rfl
  have o2 : w4.cell? ⟨w.heap.size + 1 + 1, 2, none⟩ = some (.slice none 0 0) := by rw [HO.out.cell]; rfl
  have o3 : w4.cell? ⟨w.heap.size + 1 + 1, 3, none⟩ = some (.slice none 0 0) := by rw [HO.out.cell]; rfl
  have o4 : w4.cell? ⟨w.heap.size + 1 + 1, 4, none⟩ = some (.int .i64 P.miss) := by rw [HO.out.cell]; rfl
  have o5 : w4.cell? ⟨w.heap.size + 1 + 1, 5, none⟩ = some (.slice none 0 0) := by rw [HO.out.cell]; rfl
  have of0 := HO.out.frozen 0
  have of1 := HO.out.frozen 1
  have of2 := HO.out.frozen 2
  have of3 := HO.out.frozen 3
  have of4 := HO.out.frozen 4
  have of5 := HO.out.frozen 5
  have hvlt : P.vs.length < P.vs.length + 3 := by omega
  obtain ⟨x0, g0⟩ : ∃ x, w4.cell? ⟨gv, P.vs.length * 3, none⟩ = some x := ⟨_, by rw [HV.out.cell]; exact Array.getElem?_eq_getElem (by first | (simp [varsV_len]; done) | (simp [varsV_len]; omega))⟩
  obtain ⟨x1, g1⟩ : ∃ x, w4.cell? ⟨gv, P.vs.length * 3 + 1, none⟩ = some x := ⟨_, by rw [HV.out.cell]; exact Array.getElem?_eq_getElem (by first | (simp [varsV_len]; done) | (simp [varsV_len]; omega))⟩
  obtain ⟨x2, g2⟩ : ∃ x, w4.cell? ⟨gv, P.vs.length * 3 + 2, none⟩ = some x := ⟨_, by rw [HV.out.cell]; exact Array.getElem?_eq_getElem (by first | (simp [varsV_len]; done) | (simp [varsV_len]; omega))⟩
  have gf0 := HV.out.frozen (P.vs.length * 3)
  have gf1 := HV.out.frozen (P.vs.length * 3 + 1)
  have gf2 := HV.out.frozen (P.vs.length * 3 + 2)
  have hvo : gv ≠ w.heap.size + 1 + 1 := HV.out.ne_ HO.out (by decide)
  go_upto_region 8 with fail
  clear hvlt g0 g1 g2 gf0 gf1 gf2
  clear p0 p1 p2 p3 p4 p5 o0 o1 o2 o3 o4 o5 of0 of1 of2 of3 of4 of5
  have kv : Blk (((w4.setCell ⟨gv, P.vs.length * 3, none⟩ (.int .i64 91)).setCell ⟨gv, P.vs.length * 3 + 1, none⟩ (.int .i64 0)).setCell ⟨gv, P.vs.length * 3 + 2, none⟩ (.int .i64 0)) gv 49 (varsV (P.vs ++ markV)).toArray := by
    have := ((HV.out.set_ (P.vs.length * 3) (.int .i64 91)).set_ (P.vs.length * 3 + 1) (.int .i64 0)).set_ (P.vs.length * 3 + 2) (.int .i64 0)
    rw [vars_set] at this
    exact this
  have hgv : ∀ k : Nat, (⟨gv, k, none⟩ : Addr).block = gv := fun _ => rfl
  have hB : Below w.heap.size w (((w4.setCell ⟨gv, P.vs.length * 3, none⟩ (.int .i64 91)).setCell ⟨gv, P.vs.length * 3 + 1, none⟩ (.int .i64 0)).setCell ⟨gv, P.vs.length * 3 + 2, none⟩ (.int .i64 0)) := ((HB.out.setCell (by show w.heap.size ≤ gv; have := HVE.out; omega) _).setCell (by show w.heap.size ≤ gv; have := HVE.out; omega) _).setCell (by show w.heap.size ≤ gv; have := HVE.out; omega) _
  have hP : Blk (((w4.setCell ⟨gv, P.vs.length * 3, none⟩ (.int .i64 91)).setCell ⟨gv, P.vs.length * 3 + 1, none⟩ (.int .i64 0)).setCell ⟨gv, P.vs.length * 3 + 2, none⟩ (.int .i64 0)) (w.heap.size) 28 #[.slice ga P.gh.length gc, .slice va P.vs.length vc, .slice ta P.ts.length tc, .slice oa P.os.length oc, .int .i64 P.miss, .slice ca P.cd.length cc] := ((HP.out.far (by show _ ≠ gv; exact HP.out.ne_ HV.out (by decide)) _).far (by show _ ≠ gv; exact HP.out.ne_ HV.out (by decide)) _).far (by show _ ≠ gv; exact HP.out.ne_ HV.out (by decide)) _
  have hR : Blk (((w4.setCell ⟨gv, P.vs.length * 3, none⟩ (.int .i64 91)).setCell ⟨gv, P.vs.length * 3 + 1, none⟩ (.int .i64 0)).setCell ⟨gv, P.vs.length * 3 + 2, none⟩ (.int .i64 0)) (w.heap.size + 1) 28 #[.slice none 0 0, .slice none 0 0, .slice none 0 0, .slice none 0 0, .int .i64 0, .slice none 0 0] := ((HR.out.far (by show _ ≠ gv; exact HR.out.ne_ HV.out (by decide)) _).far (by show _ ≠ gv; exact HR.out.ne_ HV.out (by decide)) _).far (by show _ ≠ gv; exact HR.out.ne_ HV.out (by decide)) _
  have hO : Blk (((w4.setCell ⟨gv, P.vs.length * 3, none⟩ (.int .i64 91)).setCell ⟨gv, P.vs.length * 3 + 1, none⟩ (.int .i64 0)).setCell ⟨gv, P.vs.length * 3 + 2, none⟩ (.int .i64 0)) (w.heap.size + 1 + 1) 28 #[.slice (some ⟨gg, 0, none⟩) P.gh.length (P.gh.length + 3), .slice none 0 0, .slice none 0 0, .slice none 0 0, .int .i64 P.miss, .slice none 0 0] := ((HO.out.far (by show _ ≠ gv; exact HO.out.ne_ HV.out (by decide)) _).far (by show _ ≠ gv; exact HO.out.ne_ HV.out (by decide)) _).far (by show _ ≠ gv; exact HO.out.ne_ HV.out (by decide)) _
  have hG : Blk (((w4.setCell ⟨gv, P.vs.length * 3, none⟩ (.int .i64 91)).setCell ⟨gv, P.vs.length * 3 + 1, none⟩ (.int .i64 0)).setCell ⟨gv, P.vs.length * 3 + 2, none⟩ (.int .i64 0)) gg 4 _ := ((HG.out.far (by show _ ≠ gv; exact HG.out.ne_ HV.out (by decide)) _).far (by show _ ≠ gv; exact HG.out.ne_ HV.out (by decide)) _).far (by show _ ≠ gv; exact HG.out.ne_ HV.out (by decide)) _
  clear HV hgv hvo
  have HB := hide hB
  have HP := hide hP
  have HR := hide hR
  have HO := hide hO
  have HG := hide hG
  have HV := hide kv
  clear hB hP hR hO hG kv
  generalize (((w4.setCell ⟨gv, P.vs.length * 3, none⟩ (.int .i64 91)).setCell ⟨gv, P.vs.length * 3 + 1, none⟩ (.int .i64 0)).setCell ⟨gv, P.vs.length * 3 + 2, none⟩ (.int .i64 0)) = w5 at *
  have p0 : w5.cell? ⟨w.heap.size, 0, none⟩ = some (.slice ga P.gh.length gc) := by rw [HP.out.cell]; rfl
  have p1 : w5.cell? ⟨w.heap.size, 1, none⟩ = some (.slice va P.vs.length vc) := by rw [HP.out.cell]; rfl
  have p2 : w5.cell? ⟨w.heap.size, 2, none⟩ = some (.slice ta P.ts.length tc) := by rw [HP.out.cell]; rfl
  have p3 : w5.cell? ⟨w.heap.size, 3, none⟩ = some (.slice oa P.os.length oc) := by rw [HP.out.cell]; rfl
  have p4 : w5.cell? ⟨w.heap.size, 4, none⟩ = some (.int .i64 P.miss) := by rw [HP.out.cell]; rfl
  have p5 : w5.cell? ⟨w.heap.size, 5, none⟩ = some (.slice ca P.cd.length cc) := by rw [HP.out.cell]; rfl
  have o0 : w5.cell? ⟨w.heap.size + 1 + 1, 0, none⟩ = some (.slice (some ⟨gg, 0, none⟩) P.gh.length (P.gh.length + 3)) := by rw [HO.out.cell]; rfl
  have o1 : w5.cell? ⟨w.heap.size + 1 + 1, 1, none⟩ = some (.slice none 0 0) := by rw [HO.out.cell]; rfl
  have o2 : w5.cell? ⟨w.heap.size + 1 + 1, 2, none⟩ = some (.slice none 0 0) := by rw [HO.out.cell]; rfl
  have o3 : w5.cell? ⟨w.heap.size + 1 + 1, 3, none⟩ = some (.slice none 0 0) := by rw [HO.out.cell]; rfl
  have o4 : w5.cell? ⟨w.heap.size + 1 + 1, 4, none⟩ = some (.int .i64 P.miss) := by rw [HO.out.cell]; rfl
  have o5 : w5.cell? ⟨w.heap.size + 1 + 1, 5, none⟩ = some (.slice none 0 0) := by rw [HO.out.cell]; rfl
  have of0 := HO.out.frozen 0
  have of1 := HO.out.frozen 1
  have of2 := HO.out.frozen 2
  have of3 := HO.out.frozen 3
  have of4 := HO.out.frozen 4
  have of5 := HO.out.frozen 5
  have hle := Nat.le_add_right P.vs.length 3
  go_upto_region 9 with fail
  clear hle
  clear p0 p1 p2 p3 p4 p5 o0 o1 o2 o3 o4 o5 of0 of1 of2 of3 of4 of5
  have hB : Below w.heap.size w (w5.setCell ⟨w.heap.size + 1 + 1, 1, none⟩ (.slice (some ⟨gv, 0, none⟩) P.vs.length (P.vs.length + 3))) := HB.out.setCell (by show w.heap.size ≤ w.heap.size + 1 + 1; omega) _
  have hP : Blk (w5.setCell ⟨w.heap.size + 1 + 1, 1, none⟩ (.slice (some ⟨gv, 0, none⟩) P.vs.length (P.vs.length + 3))) (w.heap.size) 28 #[.slice ga P.gh.length gc, .slice va P.vs.length vc, .slice ta P.ts.length tc, .slice oa P.os.length oc, .int .i64 P.miss, .slice ca P.cd.length cc] := HP.out.far (by show w.heap.size ≠ w.heap.size + 1 + 1; omega) _
  have hR : Blk (w5.setCell ⟨w.heap.size + 1 + 1, 1, none⟩ (.slice (some ⟨gv, 0, none⟩) P.vs.length (P.vs.length + 3))) (w.heap.size + 1) 28 #[.slice none 0 0, .slice none 0 0, .slice none 0 0, .slice none 0 0, .int .i64 0, .slice none 0 0] := HR.out.far (by show w.heap.size + 1 ≠ w.heap.size + 1 + 1; omega) _
  have hO : Blk (w5.setCell ⟨w.heap.size + 1 + 1, 1, none⟩ (.slice (some ⟨gv, 0, none⟩) P.vs.length (P.vs.length + 3))) (w.heap.size + 1 + 1) 28 #[.slice (some ⟨gg, 0, none⟩) P.gh.length (P.gh.length + 3), .slice (some ⟨gv, 0, none⟩) P.vs.length (P.vs.length + 3), .slice none 0 0, .slice none 0 0, .int .i64 P.miss, .slice none 0 0] := HO.out.set_ 1 _
  have hHG : Blk (w5.setCell ⟨w.heap.size + 1 + 1, 1, none⟩ (.slice (some ⟨gv, 0, none⟩) P.vs.length (P.vs.length + 3))) _ _ _ := HG.out.far (by show _ ≠ w.heap.size + 1 + 1; exact HG.out.ne_ HO.out (by decide)) _
  have hHV : Blk (w5.setCell ⟨w.heap.size + 1 + 1, 1, none⟩ (.slice (some ⟨gv, 0, none⟩) P.vs.length (P.vs.length + 3))) _ _ _ := HV.out.far (by show _ ≠ w.heap.size + 1 + 1; exact HV.out.ne_ HO.out (by decide)) _
  have HB := hide hB
  have HP := hide hP
  have HR := hide hR
  have HO := hide hO
  have HG := hide hHG
  have HV := hide hHV
  clear hB hP hR hO hHG hHV
  generalize (w5.setCell ⟨w.heap.size + 1 + 1, 1, none⟩ (.slice (some ⟨gv, 0, none⟩) P.vs.length (P.vs.length + 3))) = W5 at *
  have p0 : W5.cell? ⟨w.heap.size, 0, none⟩ = some (.slice ga P.gh.length gc) := by rw [HP.out.cell]; rfl
  have p1 : W5.cell? ⟨w.heap.size, 1, none⟩ = some (.slice va P.vs.length vc) := by rw [HP.out.cell]; rfl
  have p2 : W5.cell? ⟨w.heap.size, 2, none⟩ = some (.slice ta P.ts.length tc) := by rw [HP.out.cell]; rfl
  have p3 : W5.cell? ⟨w.heap.size, 3, none⟩ = some (.slice oa P.os.length oc) := by rw [HP.out.cell]; rfl
  have p4 : W5.cell? ⟨w.heap.size, 4, none⟩ = some (.int .i64 P.miss) := by rw [HP.out.cell]; rfl
  have p5 : W5.cell? ⟨w.heap.size, 5, none⟩ = some (.slice ca P.cd.length cc) := by rw [HP.out.cell]; rfl
  have o0 : W5.cell? ⟨w.heap.size + 1 + 1, 0, none⟩ = some (.slice (some ⟨gg, 0, none⟩) P.gh.length (P.gh.length + 3)) := by rw [HO.out.cell]; rfl
  have o1 : W5.cell? ⟨w.heap.size + 1 + 1, 1, none⟩ = some (.slice (some ⟨gv, 0, none⟩) P.vs.length (P.vs.length + 3)) := by rw [HO.out.cell]; rfl
  have o2 : W5.cell? ⟨w.heap.size + 1 + 1, 2, none⟩ = some (.slice none 0 0) := by rw [HO.out.cell]; rfl
  have o3 : W5.cell? ⟨w.heap.size + 1 + 1, 3, none⟩ = some (.slice none 0 0) := by rw [HO.out.cell]; rfl
  have o4 : W5.cell? ⟨w.heap.size + 1 + 1, 4, none⟩ = some (.int .i64 P.miss) := by rw [HO.out.cell]; rfl
  have o5 : W5.cell? ⟨w.heap.size + 1 + 1, 5, none⟩ = some (.slice none 0 0) := by rw [HO.out.cell]; rfl
  have of0 := HO.out.frozen 0
  have of1 := HO.out.frozen 1
  have of2 := HO.out.frozen 2
  have of3 := HO.out.frozen 3
  have of4 := HO.out.frozen 4
  have of5 := HO.out.frozen 5
  go_upto_region 10 with (go_at_call 25
                          refine (HTS.out _ HB.out).mono ?_
                          rintro en w6 ⟨gt, rfl, hge, hkx, hbx⟩
                          have HT := hide hkx
                          have HTE := hide (Nat.le_trans (show w.heap.size + 3 ≤ W5.heap.size by have := HO.out.lt; omega) hge)
                          have HTG := hide hge
                          have HB := hide (HB.out.trans (hbx.mono HB.out.size))
                          have HP := hide (HP.out.below hbx HP.out.lt)
                          have HR := hide (HR.out.below hbx HR.out.lt)
                          have HO := hide (HO.out.below hbx HO.out.lt)
                          have HG := hide (HG.out.below hbx HG.out.lt)
                          have HV := hide (HV.out.below hbx HV.out.lt)
                          have ob2 : w6.cell? ⟨w.heap.size + 1 + 1, 2, none⟩ = some (.slice none 0 0) := by rw [HO.out.cell]; rfl
                          have ofb := HO.out.frozen 2
                          clear hge hkx hbx)
  clear p0 p1 p2 p3 p4 p5 o0 o1 o2 o3 o4 o5 of0 of1 of2 of3 of4 of5
  clear ob2 ofb
  have hB : Below w.heap.size w (w6.setCell ⟨w.heap.size + 1 + 1, 2, none⟩ (.slice (some ⟨gt, 0, none⟩) P.ts.length (P.ts.length + 5))) := HB.out.setCell (by show w.heap.size ≤ w.heap.size + 1 + 1; omega) _
  have hP : Blk (w6.setCell ⟨w.heap.size + 1 + 1, 2, none⟩ (.slice (some ⟨gt, 0, none⟩) P.ts.length (P.ts.length + 5))) (w.heap.size) 28 #[.slice ga P.gh.length gc, .slice va P.vs.length vc, .slice ta P.ts.length tc, .slice oa P.os.length oc, .int .i64 P.miss, .slice ca P.cd.length cc] := HP.out.far (by show w.heap.size ≠ w.heap.size + 1 + 1; omega) _
  have hR : Blk (w6.setCell ⟨w.heap.size + 1 + 1, 2, none⟩ (.slice (some ⟨gt, 0, none⟩) P.ts.length (P.ts.length + 5))) (w.heap.size + 1) 28 #[.slice none 0 0, .slice none 0 0, .slice none 0 0, .slice none 0 0, .int .i64 0, .slice none 0 0] := HR.out.far (by show w.heap.size + 1 ≠ w.heap.size + 1 + 1; omega) _
  have hO : Blk (w6.setCell ⟨w.heap.size + 1 + 1, 2, none⟩ (.slice (some ⟨gt, 0, none⟩) P.ts.length (P.ts.length + 5))) (w.heap.size + 1 + 1) 28 #[.slice (some ⟨gg, 0, none⟩) P.gh.length (P.gh.length + 3), .slice (some ⟨gv, 0, none⟩) P.vs.length (P.vs.length + 3), .slice (some ⟨gt, 0, none⟩) P.ts.length (P.ts.length + 5), .slice none 0 0, .int .i64 P.miss, .slice none 0 0] := HO.out.set_ 2 _
  have hHG : Blk (w6.setCell ⟨w.heap.size + 1 + 1, 2, none⟩ (.slice (some ⟨gt, 0, none⟩) P.ts.length (P.ts.length + 5))) _ _ _ := HG.out.far (by show _ ≠ w.heap.size + 1 + 1; exact HG.out.ne_ HO.out (by decide)) _
  have hHV : Blk (w6.setCell ⟨w.heap.size + 1 + 1, 2, none⟩ (.slice (some ⟨gt, 0, none⟩) P.ts.length (P.ts.length + 5))) _ _ _ := HV.out.far (by show _ ≠ w.heap.size + 1 + 1; exact HV.out.ne_ HO.out (by decide)) _
  have hHT : Blk (w6.setCell ⟨w.heap.size + 1 + 1, 2, none⟩ (.slice (some ⟨gt, 0, none⟩) P.ts.length (P.ts.length + 5))) _ _ _ := HT.out.far (by show _ ≠ w.heap.size + 1 + 1; exact HT.out.ne_ HO.out (by decide)) _
  have HB := hide hB
  have HP := hide hP
  have HR := hide hR
  have HO := hide hO
  have HG := hide hHG
  have HV := hide hHV
  have HT := hide hHT
  clear hB hP hR hO hHG hHV hHT
  generalize (w6.setCell ⟨w.heap.size + 1 + 1, 2, none⟩ (.slice (some ⟨gt, 0, none⟩) P.ts.length (P.ts.length + 5))) = W6 at *
  have hW6 : gt < W6.heap.size := HT.out.lt
  have HT6 := hide hW6
  clear hW6
  have p0 : W6.cell? ⟨w.heap.size, 0, none⟩ = some (.slice ga P.gh.length gc) := by rw [HP.out.cell]; rfl
  have p1 : W6.cell? ⟨w.heap.size, 1, none⟩ = some (.slice va P.vs.length vc) := by rw [HP.out.cell]; rfl
  have p2 : W6.cell? ⟨w.heap.size, 2, none⟩ = some (.slice ta P.ts.length tc) := by rw [HP.out.cell]; rfl
  have p3 : W6.cell? ⟨w.heap.size, 3, none⟩ = some (.slice oa P.os.length oc) := by rw [HP.out.cell]; rfl
  have p4 : W6.cell? ⟨w.heap.size, 4, none⟩ = some (.int .i64 P.miss) := by rw [HP.out.cell]; rfl
  have p5 : W6.cell? ⟨w.heap.size, 5, none⟩ = some (.slice ca P.cd.length cc) := by rw [HP.out.cell]; rfl
  have o0 : W6.cell? ⟨w.heap.size + 1 + 1, 0, none⟩ = some (.slice (some ⟨gg, 0, none⟩) P.gh.length (P.gh.length + 3)) := by rw [HO.out.cell]; rfl
  have o1 : W6.cell? ⟨w.heap.size + 1 + 1, 1, none⟩ = some (.slice (some ⟨gv, 0, none⟩) P.vs.length (P.vs.length + 3)) := by rw [HO.out.cell]; rfl
  have o2 : W6.cell? ⟨w.heap.size + 1 + 1, 2, none⟩ = some (.slice (some ⟨gt, 0, none⟩) P.ts.length (P.ts.length + 5)) := by rw [HO.out.cell]; rfl
  have o3 : W6.cell? ⟨w.heap.size + 1 + 1, 3, none⟩ = some (.slice none 0 0) := by rw [HO.out.cell]; rfl
  have o4 : W6.cell? ⟨w.heap.size + 1 + 1, 4, none⟩ = some (.int .i64 P.miss) := by rw [HO.out.cell]; rfl
  have o5 : W6.cell? ⟨w.heap.size + 1 + 1, 5, none⟩ = some (.slice none 0 0) := by rw [HO.out.cell]; rfl
  have of0 := HO.out.frozen 0
  have of1 := HO.out.frozen 1
  have of2 := HO.out.frozen 2
  have of3 := HO.out.frozen 3
  have of4 := HO.out.frozen 4
  have of5 := HO.out.frozen 5
  go_upto_region 11 with (go_at_call 25
                          refine (HOS.out _ HB.out).mono ?_
                          rintro en w7 ⟨go, rfl, hge, hkx, hbx⟩
                          have HOO := hide hkx
                          have HOOE := hide (Nat.le_trans (show w.heap.size + 3 ≤ W6.heap.size by have := HO.out.lt; omega) hge)
                          have HOOG := hide hge
                          have HB := hide (HB.out.trans (hbx.mono HB.out.size))
                          have HP := hide (HP.out.below hbx HP.out.lt)
                          have HR := hide (HR.out.below hbx HR.out.lt)
                          have HO := hide (HO.out.below hbx HO.out.lt)
                          have HG := hide (HG.out.below hbx HG.out.lt)
                          have HV := hide (HV.out.below hbx HV.out.lt)
                          have HT := hide (HT.out.below hbx HT.out.lt)
                          have ob3 : w7.cell? ⟨w.heap.size + 1 + 1, 3, none⟩ = some (.slice none 0 0) := by rw [HO.out.cell]; rfl
                          have ofb := HO.out.frozen 3
                          clear hge hkx hbx)
  clear p0 p1 p2 p3 p4 p5 o0 o1 o2 o3 o4 o5 of0 of1 of2 of3 of4 of5
  clear ob3 ofb
  have hB : Below w.heap.size w (w7.setCell ⟨w.heap.size + 1 + 1, 3, none⟩ (.slice (some ⟨go, 0, none⟩) P.os.length (P.os.length + 5))) := HB.out.setCell (by show w.heap.size ≤ w.heap.size + 1 + 1; omega) _
  have hP : Blk (w7.setCell ⟨w.heap.size + 1 + 1, 3, none⟩ (.slice (some ⟨go, 0, none⟩) P.os.length (P.os.length + 5))) (w.heap.size) 28 #[.slice ga P.gh.length gc, .slice va P.vs.length vc, .slice ta P.ts.length tc, .slice oa P.os.length oc, .int .i64 P.miss, .slice ca P.cd.length cc] := HP.out.far (by show w.heap.size ≠ w.heap.size + 1 + 1; omega) _
  have hR : Blk (w7.setCell ⟨w.heap.size + 1 + 1, 3, none⟩ (.slice (some ⟨go, 0, none⟩) P.os.length (P.os.length + 5))) (w.heap.size + 1) 28 #[.slice none 0 0, .slice none 0 0, .slice none 0 0, .slice none 0 0, .int .i64 0, .slice none 0 0] := HR.out.far (by show w.heap.size + 1 ≠ w.heap.size + 1 + 1; omega) _
  have hO : Blk (w7.setCell ⟨w.heap.size + 1 + 1, 3, none⟩ (.slice (some ⟨go, 0, none⟩) P.os.length (P.os.length + 5))) (w.heap.size + 1 + 1) 28 #[.slice (some ⟨gg, 0, none⟩) P.gh.length (P.gh.length + 3), .slice (some ⟨gv, 0, none⟩) P.vs.length (P.vs.length + 3), .slice (some ⟨gt, 0, none⟩) P.ts.length (P.ts.length + 5), .slice (some ⟨go, 0, none⟩) P.os.length (P.os.length + 5), .int .i64 P.miss, .slice none 0 0] := HO.out.set_ 3 _
  have hHG : Blk (w7.setCell ⟨w.heap.size + 1 + 1, 3, none⟩ (.slice (some ⟨go, 0, none⟩) P.os.length (P.os.length + 5))) _ _ _ := HG.out.far (by show _ ≠ w.heap.size + 1 + 1; exact HG.out.ne_ HO.out (by decide)) _
  have hHV : Blk (w7.setCell ⟨w.heap.size + 1 + 1, 3, none⟩ (.slice (some ⟨go, 0, none⟩) P.os.length (P.os.length + 5))) _ _ _ := HV.out.far (by show _ ≠ w.heap.size + 1 + 1; exact HV.out.ne_ HO.out (by decide)) _
  have hHT : Blk (w7.setCell ⟨w.heap.size + 1 + 1, 3, none⟩ (.slice (some ⟨go, 0, none⟩) P.os.length (P.os.length + 5))) _ _ _ := HT.out.far (by show _ ≠ w.heap.size + 1 + 1; exact HT.out.ne_ HO.out (by decide)) _
  have hHOO : Blk (w7.setCell ⟨w.heap.size + 1 + 1, 3, none⟩ (.slice (some ⟨go, 0, none⟩) P.os.length (P.os.length + 5))) _ _ _ := HOO.out.far (by show _ ≠ w.heap.size + 1 + 1; exact HOO.out.ne_ HO.out (by decide)) _
  have HB := hide hB
  have HP := hide hP
  have HR := hide hR
  have HO := hide hO
  have HG := hide hHG
  have HV := hide hHV
  have HT := hide hHT
  have HOO := hide hHOO
  clear hB hP hR hO hHG hHV hHT hHOO
  generalize (w7.setCell ⟨w.heap.size + 1 + 1, 3, none⟩ (.slice (some ⟨go, 0, none⟩) P.os.length (P.os.length + 5))) = W7 at *
  have p0 : W7.cell? ⟨w.heap.size, 0, none⟩ = some (.slice ga P.gh.length gc) := by rw [HP.out.cell]; rfl
  have p1 : W7.cell? ⟨w.heap.size, 1, none⟩ = some (.slice va P.vs.length vc) := by rw [HP.out.cell]; rfl
  have p2 : W7.cell? ⟨w.heap.size, 2, none⟩ = some (.slice ta P.ts.length tc) := by rw [HP.out.cell]; rfl
  have p3 : W7.cell? ⟨w.heap.size, 3, none⟩ = some (.slice oa P.os.length oc) := by rw [HP.out.cell]; rfl
  have p4 : W7.cell? ⟨w.heap.size, 4, none⟩ = some (.int .i64 P.miss) := by rw [HP.out.cell]; rfl
  have p5 : W7.cell? ⟨w.heap.size, 5, none⟩ = some (.slice ca P.cd.length cc) := by rw [HP.out.cell]; rfl
  have o0 : W7.cell? ⟨w.heap.size + 1 + 1, 0, none⟩ = some (.slice (some ⟨gg, 0, none⟩) P.gh.length (P.gh.length + 3)) := by rw [HO.out.cell]; rfl
  have o1 : W7.cell? ⟨w.heap.size + 1 + 1, 1, none⟩ = some (.slice (some ⟨gv, 0, none⟩) P.vs.length (P.vs.length + 3)) := by rw [HO.out.cell]; rfl
  have o2 : W7.cell? ⟨w.heap.size + 1 + 1, 2, none⟩ = some (.slice (some ⟨gt, 0, none⟩) P.ts.length (P.ts.length + 5)) := by rw [HO.out.cell]; rfl
  have o3 : W7.cell? ⟨w.heap.size + 1 + 1, 3, none⟩ = some (.slice (some ⟨go, 0, none⟩) P.os.length (P.os.length + 5)) := by rw [HO.out.cell]; rfl
  have o4 : W7.cell? ⟨w.heap.size + 1 + 1, 4, none⟩ = some (.int .i64 P.miss) := by rw [HO.out.cell]; rfl
  have o5 : W7.cell? ⟨w.heap.size + 1 + 1, 5, none⟩ = some (.slice none 0 0) := by rw [HO.out.cell]; rfl
  have of0 := HO.out.frozen 0
  have of1 := HO.out.frozen 1
  have of2 := HO.out.frozen 2
  have of3 := HO.out.frozen 3
  have of4 := HO.out.frozen 4
  have of5 := HO.out.frozen 5
  have pa0 : ∀ o, (W7.alloc o).cell? ⟨w.heap.size, 0, none⟩ = some (.slice ga P.gh.length gc) := fun o => (World.cell?_alloc_lt W7 o _ (by exact HP.out.lt)).trans p0
  have pa1 : ∀ o, (W7.alloc o).cell? ⟨w.heap.size, 1, none⟩ = some (.slice va P.vs.length vc) := fun o => (World.cell?_alloc_lt W7 o _ (by exact HP.out.lt)).trans p1
  have pa2 : ∀ o, (W7.alloc o).cell? ⟨w.heap.size, 2, none⟩ = some (.slice ta P.ts.length tc) := fun o => (World.cell?_alloc_lt W7 o _ (by exact HP.out.lt)).trans p2
  have pa3 : ∀ o, (W7.alloc o).cell? ⟨w.heap.size, 3, none⟩ = some (.slice oa P.os.length oc) := fun o => (World.cell?_alloc_lt W7 o _ (by exact HP.out.lt)).trans p3
  have pa4 : ∀ o, (W7.alloc o).cell? ⟨w.heap.size, 4, none⟩ = some (.int .i64 P.miss) := fun o => (World.cell?_alloc_lt W7 o _ (by exact HP.out.lt)).trans p4
  have pa5 : ∀ o, (W7.alloc o).cell? ⟨w.heap.size, 5, none⟩ = some (.slice ca P.cd.length cc) := fun o => (World.cell?_alloc_lt W7 o _ (by exact HP.out.lt)).trans p5
  go_wp2_with (with_reducible refine wpList_copyN rfl (.tmp 60) (.tmp 62) 26 26 rfl 46 Try.underlying26 5 (by kernel_rfl) W7.heap.size (P.cd.length + 9) (P.cd.length + 9) ca P.cd.length cc rfl rfl (by omega) (List.replicate ((P.cd.length + 9) * 5) (.int .i64 0)) 46 (Blk.new W7 46 _) (codeV P.cd) (codeV_len _) ?_ ?_ ?_ ?_)
  · exact HSC.out.copy (HB.out.alloc HB.out.size _)
  · rw [codeV_len]; first | (simp; done) | (simp; omega)
  · exact code_one _
  intro w8 hk2 ho2
  have e1 : codeV P.cd ++ List.replicate ((P.cd.length + 9) * 5 - (codeV P.cd).length) (.int .i64 0) = codeV (P.cd ++ marksJ P.cd.length 0) := by
    rw [codeV_len, show (P.cd.length + 9) * 5 - P.cd.length * 5 = 45 by omega, codeV_append]; rfl
  have hw1 : w.heap.size + 3 ≤ W7.heap.size := by have := HO.out.lt; omega
  have hb2 : Below W7.heap.size W7 w8 := ((Below.refl W7.heap.size W7).alloc (Nat.le_refl _) _).trans (ho2.below (fun k e => Nat.le_of_eq e.symm) (by simp))
  have hg : Blk w8 W7.heap.size 46 (codeV (P.cd ++ marksJ P.cd.length 0)).toArray := by
    have := hk2
    rw [e1] at this
    exact this
  have HB := hide (HB.out.trans (hb2.mono HB.out.size))
  have HCD := hide hg
  clear p0 pa0 p1 pa1 p2 pa2 p3 pa3 p4 pa4 p5 pa5 o0 o1 o2 o3 o4 o5 of0 of1 of2 of3 of4 of5
  have HP := hide (HP.out.below hb2 HP.out.lt)
  have HR := hide (HR.out.below hb2 HR.out.lt)
  have HO := hide (HO.out.below hb2 HO.out.lt)
  have HG := hide (HG.out.below hb2 HG.out.lt)
  have HV := hide (HV.out.below hb2 HV.out.lt)
  have HT := hide (HT.out.below hb2 HT.out.lt)
  have HOO := hide (HOO.out.below hb2 HOO.out.lt)
  skip
  generalize W7.heap.size = gcd at *
  have HCDE := hide hw1
  clear hk2 ho2 hb2 hg e1 hw1
  have p0 : w8.cell? ⟨w.heap.size, 0, none⟩ = some (.slice ga P.gh.length gc) := by rw [HP.out.cell]; rfl
  have p1 : w8.cell? ⟨w.heap.size, 1, none⟩ = some (.slice va P.vs.length vc) := by rw [HP.out.cell]; rfl
  have p2 : w8.cell? ⟨w.heap.size, 2, none⟩ = some (.slice ta P.ts.length tc) := by rw [HP.out.cell]; rfl
  have p3 : w8.cell? ⟨w.heap.size, 3, none⟩ = some (.slice oa P.os.length oc) := by rw [HP.out.cell]; rfl
  have p4 : w8.cell? ⟨w.heap.size, 4, none⟩ = some (.int .i64 P.miss) := by rw [HP.out.cell]; rfl
  have p5 : w8.cell? ⟨w.heap.size, 5, none⟩ = some (.slice ca P.cd.length cc) := by rw [HP.out.cell]; rfl
  have o0 : w8.cell? ⟨w.heap.size + 1 + 1, 0, none⟩ = some (.slice (some ⟨gg, 0, none⟩) P.gh.length (P.gh.length + 3)) := by rw [HO.out.cell]; rfl
  have o1 : w8.cell? ⟨w.heap.size + 1 + 1, 1, none⟩ = some (.slice (some ⟨gv, 0, none⟩) P.vs.length (P.vs.length + 3)) := by rw [HO.out.cell]; rfl
  have o2 : w8.cell? ⟨w.heap.size + 1 + 1, 2, none⟩ = some (.slice (some ⟨gt, 0, none⟩) P.ts.length (P.ts.length + 5)) := by rw [HO.out.cell]; rfl
  have o3 : w8.cell? ⟨w.heap.size + 1 + 1, 3, none⟩ = some (.slice (some ⟨go, 0, none⟩) P.os.length (P.os.length + 5)) := by rw [HO.out.cell]; rfl
  have o4 : w8.cell? ⟨w.heap.size + 1 + 1, 4, none⟩ = some (.int .i64 P.miss) := by rw [HO.out.cell]; rfl
  have o5 : w8.cell? ⟨w.heap.size + 1 + 1, 5, none⟩ = some (.slice none 0 0) := by rw [HO.out.cell]; rfl
  have of0 := HO.out.frozen 0
  have of1 := HO.out.frozen 1
  have of2 := HO.out.frozen 2
  have of3 := HO.out.frozen 3
  have of4 := HO.out.frozen 4
  have of5 := HO.out.frozen 5
  go_wp2_with fail
  clear p0 p1 p2 p3 p4 p5 o0 o1 o2 o3 o4 o5 of0 of1 of2 of3 of4 of5
  have HCD8 := HCD
  go_loopw [7] (fun tx W => ∃ j : Nat, tx = .int .i64 ((P.cd.length : Int) + (j : Int)) ∧ j ≤ 9 ∧ Blk W gcd 46 (codeV (P.cd ++ marksJ P.cd.length j)).toArray ∧ Only (fun k => k = gcd) w8 W) (fun tx _ => P.cd.length + 9 - (intOf tx).toNat)
  case atStart => exact ⟨0, by simp, by omega, HCD.out, Only.refl _ _⟩
  case round =>
    obtain ⟨j, rfl, hj, hk, hon⟩ := hrel
    rename World => W
    have v1 := IntWalk.i64_in ((P.cd.length : Int) + (j : Int) + 1) (by omega)
    have HK := hide hk
    have HON := hide hon
    by_cases hlt : j < 9
    · have hlt2 : (P.cd.length : Int) + (j : Int) < (P.cd.length : Int) + 9 := by omega
      have hlt3 : P.cd.length + j < P.cd.length + 9 := by omega
      have hsz : (codeV (P.cd ++ marksJ P.cd.length j)).length = (P.cd.length + 9) * 5 := by rw [codeV_len]; simp [marksJ]
      obtain ⟨x0, g0⟩ : ∃ x, W.cell? ⟨gcd, (P.cd.length + j) * 5, none⟩ = some x := ⟨_, by rw [hk.cell]; exact Array.getElem?_eq_getElem (by simp only [List.size_toArray]; rw [hsz]; omega)⟩
      obtain ⟨x1, g1⟩ : ∃ x, W.cell? ⟨gcd, (P.cd.length + j) * 5 + 1, none⟩ = some x := ⟨_, by rw [hk.cell]; exact Array.getElem?_eq_getElem (by simp only [List.size_toArray]; rw [hsz]; omega)⟩
      obtain ⟨x2, g2⟩ : ∃ x, W.cell? ⟨gcd, (P.cd.length + j) * 5 + 2, none⟩ = some x := ⟨_, by rw [hk.cell]; exact Array.getElem?_eq_getElem (by simp only [List.size_toArray]; rw [hsz]; omega)⟩
      obtain ⟨x3, g3⟩ : ∃ x, W.cell? ⟨gcd, (P.cd.length + j) * 5 + 3, none⟩ = some x := ⟨_, by rw [hk.cell]; exact Array.getElem?_eq_getElem (by simp only [List.size_toArray]; rw [hsz]; omega)⟩
      obtain ⟨x4, g4⟩ : ∃ x, W.cell? ⟨gcd, (P.cd.length + j) * 5 + 4, none⟩ = some x := ⟨_, by rw [hk.cell]; exact Array.getElem?_eq_getElem (by simp only [List.size_toArray]; rw [hsz]; omega)⟩
      have gf0 := hk.frozen ((P.cd.length + j) * 5)
      have gf1 := hk.frozen ((P.cd.length + j) * 5 + 1)
      have gf2 := hk.frozen ((P.cd.length + j) * 5 + 2)
      have gf3 := hk.frozen ((P.cd.length + j) * 5 + 3)
      have gf4 := hk.frozen ((P.cd.length + j) * 5 + 4)
      clear hk hon hsz
      go_wp2_with fail
      go_roundw
      case rel =>
        refine ⟨j + 1, by go_num, by omega, ?_, ((((HON.out.setCell (.inl rfl) _).setCell (.inl rfl) _).setCell (.inl rfl) _).setCell (.inl rfl) _).setCell (.inl rfl) _⟩
        have := ((((HK.out.set_ ((P.cd.length + j) * 5) (.int .i64 (-9))).set_ ((P.cd.length + j) * 5 + 1) (.int .i64 ((P.cd.length : Int) + (j : Int)))).set_ ((P.cd.length + j) * 5 + 2) (.int .i64 0)).set_ ((P.cd.length + j) * 5 + 3) (.int .i64 0)).set_ ((P.cd.length + j) * 5 + 4) (.int .i64 0)
        rw [code_set (x := ⟨-9, (P.cd.length : Int) + (j : Int), 0, 0, 0⟩) (by simp [marksJ]; omega), marksJ_step P.cd j (by omega)] at this
        exact this
      case measure => simp [intOf]; omega
    · have hj9 : j = 9 := by omega
      have hno : ¬ (P.cd.length : Int) + (j : Int) < (P.cd.length : Int) + 9 := by omega
      rw [hj9, marksJ_all] at hk
      have HCD := hide hk
      have hb8 : Below w.heap.size w W := below_only HB.out hon (by have := HCDE.out; omega) HB.out.size
      have HB := hide hb8
      skip
      have hpg : w.heap.size ≠ gcd := by have := HCDE.out; omega
      have hrg : w.heap.size + 1 ≠ gcd := by have := HCDE.out; omega
      have hog : w.heap.size + 1 + 1 ≠ gcd := by have := HCDE.out; omega
      have HP := hide (HP.out.only hon hpg)
      have HR := hide (HR.out.only hon hrg)
      have HO := hide (HO.out.only hon hog)
      have HG := hide (HG.out.only hon (fun e => HG.out.ne_ HCD8.out (by decide) e))
      have HV := hide (HV.out.only hon (fun e => HV.out.ne_ HCD8.out (by decide) e))
      have HT := hide (HT.out.only hon (fun e => HT.out.ne_ HCD8.out (by decide) e))
      have HOO := hide (HOO.out.only hon (fun e => HOO.out.ne_ HCD8.out (by decide) e))
      clear hk hon hb8 hpg hrg hog hj9 hlt hj HK HON HCD8
      have p0 : W.cell? ⟨w.heap.size, 0, none⟩ = some (.slice ga P.gh.length gc) := by rw [HP.out.cell]; rfl
      have p1 : W.cell? ⟨w.heap.size, 1, none⟩ = some (.slice va P.vs.length vc) := by rw [HP.out.cell]; rfl
      have p2 : W.cell? ⟨w.heap.size, 2, none⟩ = some (.slice ta P.ts.length tc) := by rw [HP.out.cell]; rfl
      have p3 : W.cell? ⟨w.heap.size, 3, none⟩ = some (.slice oa P.os.length oc) := by rw [HP.out.cell]; rfl
      have p4 : W.cell? ⟨w.heap.size, 4, none⟩ = some (.int .i64 P.miss) := by rw [HP.out.cell]; rfl
      have p5 : W.cell? ⟨w.heap.size, 5, none⟩ = some (.slice ca P.cd.length cc) := by rw [HP.out.cell]; rfl
      have o0 : W.cell? ⟨w.heap.size + 1 + 1, 0, none⟩ = some (.slice (some ⟨gg, 0, none⟩) P.gh.length (P.gh.length + 3)) := by rw [HO.out.cell]; rfl
      have o1 : W.cell? ⟨w.heap.size + 1 + 1, 1, none⟩ = some (.slice (some ⟨gv, 0, none⟩) P.vs.length (P.vs.length + 3)) := by rw [HO.out.cell]; rfl
      have o2 : W.cell? ⟨w.heap.size + 1 + 1, 2, none⟩ = some (.slice (some ⟨gt, 0, none⟩) P.ts.length (P.ts.length + 5)) := by rw [HO.out.cell]; rfl
      have o3 : W.cell? ⟨w.heap.size + 1 + 1, 3, none⟩ = some (.slice (some ⟨go, 0, none⟩) P.os.length (P.os.length + 5)) := by rw [HO.out.cell]; rfl
      have o4 : W.cell? ⟨w.heap.size + 1 + 1, 4, none⟩ = some (.int .i64 P.miss) := by rw [HO.out.cell]; rfl
      have o5 : W.cell? ⟨w.heap.size + 1 + 1, 5, none⟩ = some (.slice none 0 0) := by rw [HO.out.cell]; rfl
      have of0 := HO.out.frozen 0
      have of1 := HO.out.frozen 1
      have of2 := HO.out.frozen 2
      have of3 := HO.out.frozen 3
      have of4 := HO.out.frozen 4
      have of5 := HO.out.frozen 5
      have hle := Nat.le_add_right P.cd.length 9
      go_upto_region 18 with fail
      clear hle
      clear p0 p1 p2 p3 p4 p5 o0 o1 o2 o3 o4 o5 of0 of1 of2 of3 of4 of5
      have hB : Below w.heap.size w (W.setCell ⟨w.heap.size + 1 + 1, 5, none⟩ (.slice (some ⟨gcd, 0, none⟩) P.cd.length (P.cd.length + 9))) := HB.out.setCell (by show w.heap.size ≤ w.heap.size + 1 + 1; omega) _
      have hP : Blk (W.setCell ⟨w.heap.size + 1 + 1, 5, none⟩ (.slice (some ⟨gcd, 0, none⟩) P.cd.length (P.cd.length + 9))) (w.heap.size) 28 #[.slice ga P.gh.length gc, .slice va P.vs.length vc, .slice ta P.ts.length tc, .slice oa P.os.length oc, .int .i64 P.miss, .slice ca P.cd.length cc] := HP.out.far (by show w.heap.size ≠ w.heap.size + 1 + 1; omega) _
      have hR : Blk (W.setCell ⟨w.heap.size + 1 + 1, 5, none⟩ (.slice (some ⟨gcd, 0, none⟩) P.cd.length (P.cd.length + 9))) (w.heap.size + 1) 28 #[.slice none 0 0, .slice none 0 0, .slice none 0 0, .slice none 0 0, .int .i64 0, .slice none 0 0] := HR.out.far (by show w.heap.size + 1 ≠ w.heap.size + 1 + 1; omega) _
      have hO : Blk (W.setCell ⟨w.heap.size + 1 + 1, 5, none⟩ (.slice (some ⟨gcd, 0, none⟩) P.cd.length (P.cd.length + 9))) (w.heap.size + 1 + 1) 28 #[.slice (some ⟨gg, 0, none⟩) P.gh.length (P.gh.length + 3), .slice (some ⟨gv, 0, none⟩) P.vs.length (P.vs.length + 3), .slice (some ⟨gt, 0, none⟩) P.ts.length (P.ts.length + 5), .slice (some ⟨go, 0, none⟩) P.os.length (P.os.length + 5), .int .i64 P.miss, .slice (some ⟨gcd, 0, none⟩) P.cd.length (P.cd.length + 9)] := HO.out.set_ 5 _
      have hHG : Blk (W.setCell ⟨w.heap.size + 1 + 1, 5, none⟩ (.slice (some ⟨gcd, 0, none⟩) P.cd.length (P.cd.length + 9))) _ _ _ := HG.out.far (by show _ ≠ w.heap.size + 1 + 1; exact HG.out.ne_ HO.out (by decide)) _
      have hHV : Blk (W.setCell ⟨w.heap.size + 1 + 1, 5, none⟩ (.slice (some ⟨gcd, 0, none⟩) P.cd.length (P.cd.length + 9))) _ _ _ := HV.out.far (by show _ ≠ w.heap.size + 1 + 1; exact HV.out.ne_ HO.out (by decide)) _
      have hHT : Blk (W.setCell ⟨w.heap.size + 1 + 1, 5, none⟩ (.slice (some ⟨gcd, 0, none⟩) P.cd.length (P.cd.length + 9))) _ _ _ := HT.out.far (by show _ ≠ w.heap.size + 1 + 1; exact HT.out.ne_ HO.out (by decide)) _
      have hHOO : Blk (W.setCell ⟨w.heap.size + 1 + 1, 5, none⟩ (.slice (some ⟨gcd, 0, none⟩) P.cd.length (P.cd.length + 9))) _ _ _ := HOO.out.far (by show _ ≠ w.heap.size + 1 + 1; exact HOO.out.ne_ HO.out (by decide)) _
      have hHCD : Blk (W.setCell ⟨w.heap.size + 1 + 1, 5, none⟩ (.slice (some ⟨gcd, 0, none⟩) P.cd.length (P.cd.length + 9))) _ _ _ := HCD.out.far (by show _ ≠ w.heap.size + 1 + 1; exact HCD.out.ne_ HO.out (by decide)) _
      have HB := hide hB
      have HP := hide hP
      have HR := hide hR
      have HO := hide hO
      have HG := hide hHG
      have HV := hide hHV
      have HT := hide hHT
      have HOO := hide hHOO
      have HCD := hide hHCD
      clear hB hP hR hO hHG hHV hHT hHOO hHCD
      generalize (W.setCell ⟨w.heap.size + 1 + 1, 5, none⟩ (.slice (some ⟨gcd, 0, none⟩) P.cd.length (P.cd.length + 9))) = W9 at *
      have hlent : Lent W9 w.heap.size gg gv gt go gcd P := ⟨HG.out, HV.out, HT.out, HOO.out, HCD.out, ⟨by have := HGE.out; omega, by have := HVE.out; omega, by have := HTE.out; omega, by have := HOOE.out; omega, by have := HCDE.out; omega⟩, by have := HT6.out; have := HOOG.out; omega⟩
      have HL := hide hlent
      clear hlent
      have p0 : W9.cell? ⟨w.heap.size, 0, none⟩ = some (.slice ga P.gh.length gc) := by rw [HP.out.cell]; rfl
      have p1 : W9.cell? ⟨w.heap.size, 1, none⟩ = some (.slice va P.vs.length vc) := by rw [HP.out.cell]; rfl
      have p2 : W9.cell? ⟨w.heap.size, 2, none⟩ = some (.slice ta P.ts.length tc) := by rw [HP.out.cell]; rfl
      have p3 : W9.cell? ⟨w.heap.size, 3, none⟩ = some (.slice oa P.os.length oc) := by rw [HP.out.cell]; rfl
      have p4 : W9.cell? ⟨w.heap.size, 4, none⟩ = some (.int .i64 P.miss) := by rw [HP.out.cell]; rfl
      have p5 : W9.cell? ⟨w.heap.size, 5, none⟩ = some (.slice ca P.cd.length cc) := by rw [HP.out.cell]; rfl
      have o0 : W9.cell? ⟨w.heap.size + 1 + 1, 0, none⟩ = some (.slice (some ⟨gg, 0, none⟩) P.gh.length (P.gh.length + 3)) := by rw [HO.out.cell]; rfl
      have o1 : W9.cell? ⟨w.heap.size + 1 + 1, 1, none⟩ = some (.slice (some ⟨gv, 0, none⟩) P.vs.length (P.vs.length + 3)) := by rw [HO.out.cell]; rfl
      have o2 : W9.cell? ⟨w.heap.size + 1 + 1, 2, none⟩ = some (.slice (some ⟨gt, 0, none⟩) P.ts.length (P.ts.length + 5)) := by rw [HO.out.cell]; rfl
      have o3 : W9.cell? ⟨w.heap.size + 1 + 1, 3, none⟩ = some (.slice (some ⟨go, 0, none⟩) P.os.length (P.os.length + 5)) := by rw [HO.out.cell]; rfl
      have o4 : W9.cell? ⟨w.heap.size + 1 + 1, 4, none⟩ = some (.int .i64 P.miss) := by rw [HO.out.cell]; rfl
      have o5 : W9.cell? ⟨w.heap.size + 1 + 1, 5, none⟩ = some (.slice (some ⟨gcd, 0, none⟩) P.cd.length (P.cd.length + 9)) := by rw [HO.out.cell]; rfl
      have of0 := HO.out.frozen 0
      have of1 := HO.out.frozen 1
      have of2 := HO.out.frozen 2
      have of3 := HO.out.frozen 3
      have of4 := HO.out.frozen 4
      have of5 := HO.out.frozen 5
      have r0 : W9.cell? ⟨w.heap.size + 1, 0, none⟩ = some (.slice none 0 0) := by rw [HR.out.cell]; rfl
      have r1 : W9.cell? ⟨w.heap.size + 1, 1, none⟩ = some (.slice none 0 0) := by rw [HR.out.cell]; rfl
      have r2 : W9.cell? ⟨w.heap.size + 1, 2, none⟩ = some (.slice none 0 0) := by rw [HR.out.cell]; rfl
      have r3 : W9.cell? ⟨w.heap.size + 1, 3, none⟩ = some (.slice none 0 0) := by rw [HR.out.cell]; rfl
      have r4 : W9.cell? ⟨w.heap.size + 1, 4, none⟩ = some (.int .i64 0) := by rw [HR.out.cell]; rfl
      have r5 : W9.cell? ⟨w.heap.size + 1, 5, none⟩ = some (.slice none 0 0) := by rw [HR.out.cell]; rfl
      have rf0 := HR.out.frozen 0
      have rf1 := HR.out.frozen 1
      have rf2 := HR.out.frozen 2
      have rf3 := HR.out.frozen 3
      have rf4 := HR.out.frozen 4
      have rf5 := HR.out.frozen 5
      go_wp2_with fail
      have hkW : Blk ((((((W9.setCell ⟨w.heap.size + 1, 0, none⟩ (.slice (some ⟨gg, 0, none⟩) P.gh.length (P.gh.length + 3))).setCell ⟨w.heap.size + 1, 1, none⟩ (.slice (some ⟨gv, 0, none⟩) P.vs.length (P.vs.length + 3))).setCell ⟨w.heap.size + 1, 2, none⟩ (.slice (some ⟨gt, 0, none⟩) P.ts.length (P.ts.length + 5))).setCell ⟨w.heap.size + 1, 3, none⟩ (.slice (some ⟨go, 0, none⟩) P.os.length (P.os.length + 5))).setCell ⟨w.heap.size + 1, 4, none⟩ (.int .i64 P.miss)).setCell ⟨w.heap.size + 1, 5, none⟩ (.slice (some ⟨gcd, 0, none⟩) P.cd.length (P.cd.length + 9))) (w.heap.size + 1) 28 #[.slice (some ⟨gg, 0, none⟩) P.gh.length (P.gh.length + 3), .slice (some ⟨gv, 0, none⟩) P.vs.length (P.vs.length + 3), .slice (some ⟨gt, 0, none⟩) P.ts.length (P.ts.length + 5), .slice (some ⟨go, 0, none⟩) P.os.length (P.os.length + 5), .int .i64 P.miss, .slice (some ⟨gcd, 0, none⟩) P.cd.length (P.cd.length + 9)] := (((((HR.out.set_ 0 _).set_ 1 _).set_ 2 _).set_ 3 _).set_ 4 _).set_ 5 _
      have hoW : Only (fun x => x = w.heap.size + 1) W9 ((((((W9.setCell ⟨w.heap.size + 1, 0, none⟩ (.slice (some ⟨gg, 0, none⟩) P.gh.length (P.gh.length + 3))).setCell ⟨w.heap.size + 1, 1, none⟩ (.slice (some ⟨gv, 0, none⟩) P.vs.length (P.vs.length + 3))).setCell ⟨w.heap.size + 1, 2, none⟩ (.slice (some ⟨gt, 0, none⟩) P.ts.length (P.ts.length + 5))).setCell ⟨w.heap.size + 1, 3, none⟩ (.slice (some ⟨go, 0, none⟩) P.os.length (P.os.length + 5))).setCell ⟨w.heap.size + 1, 4, none⟩ (.int .i64 P.miss)).setCell ⟨w.heap.size + 1, 5, none⟩ (.slice (some ⟨gcd, 0, none⟩) P.cd.length (P.cd.length + 9))) := ((((((Only.refl (fun x => x = w.heap.size + 1) W9).setCell (.inl rfl) _).setCell (.inl rfl) _).setCell (.inl rfl) _).setCell (.inl rfl) _).setCell (.inl rfl) _).setCell (.inl rfl) _
      have hbW : Below w.heap.size w ((((((W9.setCell ⟨w.heap.size + 1, 0, none⟩ (.slice (some ⟨gg, 0, none⟩) P.gh.length (P.gh.length + 3))).setCell ⟨w.heap.size + 1, 1, none⟩ (.slice (some ⟨gv, 0, none⟩) P.vs.length (P.vs.length + 3))).setCell ⟨w.heap.size + 1, 2, none⟩ (.slice (some ⟨gt, 0, none⟩) P.ts.length (P.ts.length + 5))).setCell ⟨w.heap.size + 1, 3, none⟩ (.slice (some ⟨go, 0, none⟩) P.os.length (P.os.length + 5))).setCell ⟨w.heap.size + 1, 4, none⟩ (.int .i64 P.miss)).setCell ⟨w.heap.size + 1, 5, none⟩ (.slice (some ⟨gcd, 0, none⟩) P.cd.length (P.cd.length + 9))) := below_only HB.out hoW (by omega) HB.out.size
      generalize ((((((W9.setCell ⟨w.heap.size + 1, 0, none⟩ (.slice (some ⟨gg, 0, none⟩) P.gh.length (P.gh.length + 3))).setCell ⟨w.heap.size + 1, 1, none⟩ (.slice (some ⟨gv, 0, none⟩) P.vs.length (P.vs.length + 3))).setCell ⟨w.heap.size + 1, 2, none⟩ (.slice (some ⟨gt, 0, none⟩) P.ts.length (P.ts.length + 5))).setCell ⟨w.heap.size + 1, 3, none⟩ (.slice (some ⟨go, 0, none⟩) P.os.length (P.os.length + 5))).setCell ⟨w.heap.size + 1, 4, none⟩ (.int .i64 P.miss)).setCell ⟨w.heap.size + 1, 5, none⟩ (.slice (some ⟨gcd, 0, none⟩) P.cd.length (P.cd.length + 9))) = WF at *
      have z0 : WF.cell? ⟨w.heap.size + 1, 0, none⟩ = some (.slice (some ⟨gg, 0, none⟩) P.gh.length (P.gh.length + 3)) := by rw [hkW.cell]; rfl
      have z1 : WF.cell? ⟨w.heap.size + 1, 1, none⟩ = some (.slice (some ⟨gv, 0, none⟩) P.vs.length (P.vs.length + 3)) := by rw [hkW.cell]; rfl
      have z2 : WF.cell? ⟨w.heap.size + 1, 2, none⟩ = some (.slice (some ⟨gt, 0, none⟩) P.ts.length (P.ts.length + 5)) := by rw [hkW.cell]; rfl
      have z3 : WF.cell? ⟨w.heap.size + 1, 3, none⟩ = some (.slice (some ⟨go, 0, none⟩) P.os.length (P.os.length + 5)) := by rw [hkW.cell]; rfl
      have z4 : WF.cell? ⟨w.heap.size + 1, 4, none⟩ = some (.int .i64 P.miss) := by rw [hkW.cell]; rfl
      have z5 : WF.cell? ⟨w.heap.size + 1, 5, none⟩ = some (.slice (some ⟨gcd, 0, none⟩) P.cd.length (P.cd.length + 9)) := by rw [hkW.cell]; rfl
      refine bodyPost_ret (v := .agg #[.slice (some ⟨gg, 0, none⟩) P.gh.length (P.gh.length + 3), .slice (some ⟨gv, 0, none⟩) P.vs.length (P.vs.length + 3), .slice (some ⟨gt, 0, none⟩) P.ts.length (P.ts.length + 5), .slice (some ⟨go, 0, none⟩) P.os.length (P.os.length + 5), .int .i64 P.miss, .slice (some ⟨gcd, 0, none⟩) P.cd.length (P.cd.length + 9)]) ?_ rfl ⟨gg, gv, gt, go, gcd, rfl, HL.out.far28 HR.out hoW, hbW⟩
      simp only [results, hres]
      go_simp
end Go.Proofs.Ytjflllfkgbhemaa

/- The walk of Far. Conditions: the program lies in memory. -/
namespace Go.Proofs.Ytjflllfkgbhemaa
open Go.RowKit
def farV (P : Prg) : Bool := decide (100 < P.gh.length ∨ 100 < P.vs.length ∨ 100 < P.ts.length ∨ 100 < P.os.length ∨ 524288 < P.cd.length)
set_option linter.unusedVariables false in
set_option maxRecDepth 100000 in
set_option maxHeartbeats 4000000 in
theorem far_i (w : World) (p : PV) (P : Prg) (h : AMem w p P) : Calls Try.prog 11 #[p.val] w fun en w' => en = .returned (.bool (farV P)) ∧ Below w.heap.size w w' := by
  obtain ⟨e1, e2, e3, e4, e5, e6, _, _, _, _, _, l1, l2, l3, l4, l5⟩ := h
  obtain ⟨ga, va, ta, oa, ca, gl, gc, vl, vc, tl, tc, ol, oc, cl, cc, miss⟩ := p
  simp only at e1 e2 e3 e4 e5 e6
  subst e1 e2 e3 e4 e5 e6
  simp only [PV.val] at *
  have hB : Below w.heap.size w (w.alloc (.cells #[.slice ga P.gh.length gc, .slice va P.vs.length vc, .slice ta P.ts.length tc, .slice oa P.os.length oc, .int .i64 P.miss, .slice ca P.cd.length cc] 28)) := (Below.refl _ w).alloc (Nat.le_refl _) _
  have HB := hide hB
  clear hB
  by_cases h1 : 100 < P.gh.length
  · have hf : farV P = true := by simp [farV, h1]
    rw [hf]
    have i1 : (100 : Int) < (P.gh.length : Int) := by omega
    clear hf
    go_enter Try.func11, Try.ntmps11
    go_wp2_with fail
    go_ret
    exact ⟨rfl, HB.out⟩
  · have i1 : ¬ (100 : Int) < (P.gh.length : Int) := by omega
    by_cases h2 : 100 < P.vs.length
    · have hf : farV P = true := by simp [farV, h2]
      rw [hf]
      have i2 : (100 : Int) < (P.vs.length : Int) := by omega
      clear hf
      go_enter Try.func11, Try.ntmps11
      go_wp2_with fail
      go_ret
      exact ⟨rfl, HB.out⟩
    · have i2 : ¬ (100 : Int) < (P.vs.length : Int) := by omega
      by_cases h3 : 100 < P.ts.length
      · have hf : farV P = true := by simp [farV, h3]
        rw [hf]
        have i3 : (100 : Int) < (P.ts.length : Int) := by omega
        clear hf
        go_enter Try.func11, Try.ntmps11
        go_wp2_with fail
        go_ret
        exact ⟨rfl, HB.out⟩
      · have i3 : ¬ (100 : Int) < (P.ts.length : Int) := by omega
        by_cases h4 : 100 < P.os.length
        · have hf : farV P = true := by simp [farV, h4]
          rw [hf]
          have i4 : (100 : Int) < (P.os.length : Int) := by omega
          clear hf
          go_enter Try.func11, Try.ntmps11
          go_wp2_with fail
          go_ret
          exact ⟨rfl, HB.out⟩
        · have i4 : ¬ (100 : Int) < (P.os.length : Int) := by omega
          by_cases h5 : 524288 < P.cd.length
          · have hf : farV P = true := by simp [farV, h5]
            rw [hf]
            have i5 : (524288 : Int) < (P.cd.length : Int) := by omega
            clear hf
            go_enter Try.func11, Try.ntmps11
            go_wp2_with fail
            go_ret
            exact ⟨rfl, HB.out⟩
          · have i5 : ¬ (524288 : Int) < (P.cd.length : Int) := by omega
            have hf : farV P = false := by simp [farV, h1, h2, h3, h4, h5]
            rw [hf]
            clear hf
            go_enter Try.func11, Try.ntmps11
            go_wp2_with fail
            go_ret
            exact ⟨rfl, HB.out⟩
end Go.Proofs.Ytjflllfkgbhemaa
