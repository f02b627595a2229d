/- Several texts in one: A plain law: what the verifier tells of a straight row of numbers, sums and one store. A plain law: what run tells of a straight row of numbers, sums and one store. Conditions: those of each. -/
import Derived.Test.YtjflllfkgbhemaaV33
import Derived.Test.YtjflllfkgbhemaaVx
/- A plain law: what the verifier tells of a straight row of numbers, sums and one store. Conditions: the counts that are named. -/
namespace Go.Proofs.Ytjflllfkgbhemaa
open Go.RowKit Go.PlainAid
def numI (i : Nat) : Ins := ⟨1, i, 0, 0, 0⟩
def addI : Ins := ⟨17, 0, 0, 0, 0⟩
def stackC (n m : Nat) : List Ins := (List.range n).map numI ++ List.replicate m addI ++ [⟨28, 0, 0, 0, 0⟩, ⟨0, 0, 0, 0, 0⟩]
def stackP (n m : Nat) : Prg := ⟨[false], [⟨0, 0, 0⟩], [], [-1], 0, stackC n m⟩
def stk (h : Nat) : St := ⟨true, ⟨(List.replicate h 1).toArray⟩, [], 0⟩
theorem stack_len (n m : Nat) : (stackP n m).cd.length = n + m + 2 := by simp [stackP, stackC]; omega
theorem stack_num {n m i : Nat} (h : i < n) : (stackP n m).cd[i]? = some (numI i) := by
  simp only [stackP, stackC, List.append_assoc]
  rw [List.getElem?_append_left (by simpa using h)]
  simp [h]
theorem stack_add {n m i : Nat} (h : n ≤ i) (h2 : i < n + m) : (stackP n m).cd[i]? = some addI := by
  simp only [stackP, stackC, List.append_assoc]
  rw [List.getElem?_append_right (by simpa using h), List.getElem?_append_left (by simp; omega)]
  simp [List.getElem?_replicate]
  omega
theorem stack_set {n m : Nat} : (stackP n m).cd[n + m]? = some ⟨28, 0, 0, 0, 0⟩ := by
  simp only [stackP, stackC, List.append_assoc]
  rw [List.getElem?_append_right (by simp), List.getElem?_append_right (by simp)]
  simp
theorem stack_end {n m : Nat} : (stackP n m).cd[n + m + 1]? = some ⟨0, 0, 0, 0, 0⟩ := by
  simp only [stackP, stackC, List.append_assoc]
  rw [List.getElem?_append_right (by simp; omega), List.getElem?_append_right (by simp; omega)]
  simp [show n + m + 1 - n - m = 1 by omega]
theorem stack_mem {n m : Nat} {x : Ins} (h : x ∈ (stackP n m).cd) : (∃ i < n, x = numI i) ∨ x = addI ∨ x = ⟨28, 0, 0, 0, 0⟩ ∨ x = ⟨0, 0, 0, 0, 0⟩ := by
  simp only [stackP, stackC, List.mem_append, List.mem_map, List.mem_range, List.mem_replicate, List.mem_cons, List.not_mem_nil, or_false] at h
  rcases h with (⟨i, hi, rfl⟩ | ⟨_, rfl⟩) | rfl | rfl
  · exact .inl ⟨i, hi, rfl⟩
  · exact .inr (.inl rfl)
  · exact .inr (.inr (.inl rfl))
  · exact .inr (.inr (.inr rfl))
theorem insE_ok {P : Prg} {x : Ins} {r : ByteArray × ByteArray} (h0 : 0 ≤ x.op) (e : table[x.op.toNat]? = some r) (h : ∀ i < 4, opOk P r.2 x i = true) : insE P x = 0 := by
  unfold insE
  rw [if_neg (by omega), e]
  simp only [h 0 (by omega), h 1 (by omega), h 2 (by omega), h 3 (by omega)]
  rfl
set_option linter.unusedSimpArgs false in
theorem stack_check {n m : Nat} (hn : n ≤ 300) (hm : m ≤ 303) : checkV (stackP n m) = 0 := by
  have ht : tablesV (stackP n m) = true := by
    simp [tablesV, stack_len]
    simp [stackP, vrOk, fromV]
    have := stack_len n m
    simp [stackP] at this
    omega
  unfold checkV
  rw [if_pos ht]
  refine insEs_all fun x hx => ?_
  rcases stack_mem hx with ⟨i, hi, rfl⟩ | rfl | rfl | rfl
  · refine insE_ok (r := (⟨#[110, 117, 109]⟩, ⟨#[110]⟩)) (by simp [numI]) rfl fun k hk => ?_
    match k, hk with
    | 0, _ => simp [opOk, opB, Ins.arg, numI, boundsV, fromV]; omega
    | 1, _ => simp [opOk, opB, Ins.arg, numI, boundsV, fromV]
    | 2, _ => simp [opOk, opB, Ins.arg, numI, boundsV, fromV]
    | 3, _ => simp [opOk, opB, Ins.arg, numI, boundsV, fromV]
  · refine insE_ok (r := (⟨#[97, 100, 100]⟩, ⟨#[]⟩)) (by simp [addI]) rfl fun k hk => ?_
    match k, hk with
    | 0, _ => simp [opOk, opB, Ins.arg, addI, boundsV, fromV]
    | 1, _ => simp [opOk, opB, Ins.arg, addI, boundsV, fromV]
    | 2, _ => simp [opOk, opB, Ins.arg, addI, boundsV, fromV]
    | 3, _ => simp [opOk, opB, Ins.arg, addI, boundsV, fromV]
  · refine insE_ok (r := (⟨#[115, 101, 116]⟩, ⟨#[118]⟩)) (by decide) rfl fun k hk => ?_
    match k, hk with
    | 0, _ => simp [opOk, opB, Ins.arg, boundsV, fromV, stackP]
    | 1, _ => simp [opOk, opB, Ins.arg, boundsV, fromV]
    | 2, _ => simp [opOk, opB, Ins.arg, boundsV, fromV]
    | 3, _ => simp [opOk, opB, Ins.arg, boundsV, fromV]
  · refine insE_ok (r := (⟨#[101, 110, 100]⟩, ⟨#[]⟩)) (by decide) rfl fun k hk => ?_
    match k, hk with
    | 0, _ => simp [opOk, opB, Ins.arg, boundsV, fromV]
    | 1, _ => simp [opOk, opB, Ins.arg, boundsV, fromV]
    | 2, _ => simp [opOk, opB, Ins.arg, boundsV, fromV]
    | 3, _ => simp [opOk, opB, Ins.arg, boundsV, fromV]
theorem stk_size (h : Nat) : (stk h).ty.size = h := by simp [stk, ByteArray.size]
theorem stk_bt {h i : Nat} (hi : i < h) : bt (stk h).ty i = 1 := by
  unfold bt
  rw [dif_pos (by rw [stk_size]; exact hi)]
  have : ((stk h).ty[i]'(by rw [stk_size]; exact hi)) = 1 := by
    show (List.replicate h (1 : UInt8)).toArray[i]'(by simpa using hi) = 1
    simp
  rw [this]
  rfl
theorem stk_pop {h k : Nat} (hk : k ≤ h) : (stk h).ty.extract 0 k = (stk k).ty := by
  apply ByteArray.ext
  simp [stk, ByteArray.data_extract]
  omega
theorem stk_push (h : Nat) : (stk h).ty ++ ⟨#[1]⟩ = (stk (h + 1)).ty := by
  apply ByteArray.ext
  simp [stk, List.replicate_succ']
  rw [← List.toArray_replicate, List.push_toArray]
theorem take_num {h : Nat} (hh : h < 256) : takenV 1 (stk h) = (stk (h + 1), 0) := by
  have e1 : takesL 1 = [] := rfl
  have e2 : givesV 1 = 1 := rfl
  unfold takenV
  rw [e1, e2, stk_size]
  simp [pushV, e2]
  rw [if_neg (by omega), stk_pop (Nat.le_refl _), stk_push]
  rfl
theorem take_num_no {h : Nat} (hh : 256 ≤ h) : takenV 1 (stk h) = (stk h, 93) := by
  have e1 : takesL 1 = [] := rfl
  have e2 : givesV 1 = 1 := rfl
  unfold takenV
  rw [e1, e2, stk_size]
  simp
  omega
theorem take_add {h : Nat} (h2 : 2 ≤ h) (hh : h ≤ 256) : takenV 17 (stk h) = (stk (h - 1), 0) := by
  have e1 : takesL 17 = [1, 1] := rfl
  have e2 : givesV 17 = 1 := rfl
  have hf : ∀ i < 2, fitsV 17 (stk h).ty (h - 2) i = true := fun i hi => by
    unfold fitsV
    rw [stk_bt (by omega), stk_bt (by omega), stk_bt (by omega), e1]
    match i, hi with
    | 0, _ => simp
    | 1, _ => simp
  unfold takenV
  rw [e1, e2, stk_size, if_neg (by simp; omega), if_neg (by simp; omega), if_pos (by simp; intro x hx; exact hf x hx)]
  simp only [pushV, e2]
  rw [if_neg (by decide)]
  have := stk_pop (h := h) (k := h - 2) (by omega)
  simp only [List.length_cons, List.length_nil]
  rw [this]
  have e3 : (⟨#[(1 : Int).toNat.toUInt8]⟩ : ByteArray) = ⟨#[1]⟩ := rfl
  rw [e3, stk_push, show h - 2 + 1 = h - 1 by omega]
  rfl
theorem take_add_no {h : Nat} (h2 : h < 2) : takenV 17 (stk h) = (stk h, 93) := by
  have e1 : takesL 17 = [1, 1] := rfl
  unfold takenV
  rw [e1, stk_size, if_pos (by simpa using h2)]
theorem take_set {h : Nat} (h1 : 1 ≤ h) : takenV 28 (stk h) = (stk (h - 1), 0) := by
  have e1 : takesL 28 = [1] := rfl
  have e2 : givesV 28 = 0 := rfl
  have hf : ∀ i < 1, fitsV 28 (stk h).ty (h - 1) i = true := fun i hi => by
    obtain rfl : i = 0 := by omega
    unfold fitsV
    rw [stk_bt (by omega), e1]
    simp
  unfold takenV
  rw [e1, e2, stk_size, if_neg (by simp; omega), if_neg (by simp), if_pos (by simp; exact hf 0 (by omega))]
  simp only [pushV, e2, if_true]
  have := stk_pop (h := h) (k := h - 1) (by omega)
  simp only [List.length_cons, List.length_nil]
  rw [this]
  rfl
theorem take_set_no : takenV 28 (stk 0) = (stk 0, 93) := by
  have e1 : takesL 28 = [1] := rfl
  unfold takenV
  rw [e1, stk_size, if_pos (by simp)]
theorem take_end : takenV 0 (stk 0) = (stk 0, 0) := by
  have e1 : takesL 0 = [] := rfl
  have e2 : givesV 0 = 0 := rfl
  unfold takenV
  rw [e1, e2, stk_size]
  simp [pushV, e2]
  rfl
theorem take_end_no {h : Nat} (hh : 0 < h) : takenV 0 (stk h) = (stk h, 93) := by
  have e1 : takesL 0 = [] := rfl
  have e2 : givesV 0 = 0 := rfl
  unfold takenV
  rw [e1, e2, stk_size]
  simp
  omega
end Go.Proofs.Ytjflllfkgbhemaa

/- A plain law: what run tells of a straight row of numbers, sums and one store. Conditions: the counts that are named. -/
namespace Go.Proofs.Ytjflllfkgbhemaa
open Go.RowKit Go.PlainAid
theorem look_plain {P : Prg} {n : Nat} {x : Ins} {s : St} {ats : List St} (hs : s.there = true) (hh : handsV P x.op x.a s.hand = true) (ht : (takenV x.op s).2 = 0) (hk : kindsV P x.op x.a x.c = true)
    (hj : jumpsV P n x (takenV x.op s).1 ats = true) (hw : waysV n x (stBeh P x s) = [((n : Int) + 1, stBeh P x s)]) (hn : n + 1 < P.cd.length) (hnot : (atSt ats ((n : Int) + 1)).there = false) :
    lookV P n x s ats = (0, putSt ats ((n : Int) + 1, stBeh P x s)) := by
  have hc : clash [((n : Int) + 1, stBeh P x s)] ats = false := clash_false _ _ (by simp) (fun j u hj hu => by
    obtain rfl : j = 0 := by simpa using hj
    simp at hu
    subst hu
    exact ⟨fun k v hk => absurd hk (by omega), fun h => by rw [hnot] at h; cases h⟩)
  unfold lookV
  rw [hw, hc, if_neg (by simp [hs]), if_neg (by simp [hh]), if_neg (by simp [ht]), if_neg (by simp [hk]), if_neg (by simp [hj]), if_neg (by simp; omega)]
  simp
theorem look_takes {P : Prg} {n : Nat} {x : Ins} {s : St} {ats : List St} (hs : s.there = true) (hh : handsV P x.op x.a s.hand = true) (ht : (takenV x.op s).2 ≠ 0) : lookV P n x s ats = ((takenV x.op s).2, ats) := by
  unfold lookV
  rw [if_neg (by simp [hs]), if_neg (by simp [hh]), if_pos ht]
def hgt (n k : Nat) : Nat := if k ≤ n then k else 2 * n - k
def atsK (n m i : Nat) : List St := (List.range (n + m + 2)).map fun k => if k ≤ i then stk (hgt n k) else st0
theorem atsK_get {n m i k : Nat} (hk : k < n + m + 2) : (atsK n m i)[k]? = some (if k ≤ i then stk (hgt n k) else st0) := by
  unfold atsK
  rw [List.getElem?_map, List.getElem?_range hk]
  rfl
theorem atsK_at {n m i k : Nat} (hk : k < n + m + 2) : atSt (atsK n m i) (k : Int) = if k ≤ i then stk (hgt n k) else st0 := by
  unfold atSt
  simp only [Int.toNat_natCast]
  rw [atsK_get hk]
  rfl
theorem atsK_step {n m i : Nat} (hi : i + 1 < n + m + 2) : putSt (atsK n m i) ((i : Int) + 1, stk (hgt n (i + 1))) = atsK n m (i + 1) := by
  unfold putSt
  have e : ((i : Int) + 1).toNat = i + 1 := by omega
  simp only [e]
  apply List.ext_getElem?
  intro k
  by_cases hk : k < n + m + 2
  · rw [List.getElem?_set, atsK_get hk, atsK_get hk]
    by_cases h1 : i + 1 = k
    · subst h1
      rw [if_pos rfl, if_pos (by simp [atsK]; omega), if_pos (Nat.le_refl _)]
      rfl
    · rw [if_neg h1]
      by_cases h2 : k ≤ i
      · rw [if_pos h2, if_pos (by omega)]
      · rw [if_neg h2, if_neg (by omega)]
  · rw [List.getElem?_eq_none (by simp [atsK]; omega), List.getElem?_eq_none (by simp [atsK]; omega)]
theorem ats0_stack (n m : Nat) : ats0 (stackP n m) = atsK n m 0 := by
  unfold ats0 begins
  rw [stack_len]
  simp only [stackP, List.foldl_append, List.foldl_cons, List.foldl_nil]
  rw [mark, if_pos (by decide), mark, if_neg (by decide)]
  apply List.ext_getElem?
  intro k
  by_cases hk : k < n + m + 2
  · rw [List.getElem?_set, atsK_get hk]
    by_cases h1 : k = 0
    · subst h1
      simp [stk, hgt]
    · rw [if_neg (by simp; omega), if_neg (by omega), List.getElem?_replicate, if_pos hk]
  · rw [List.getElem?_eq_none (by simp; omega), List.getElem?_eq_none (by simp [atsK]; omega)]
theorem stk_there (h : Nat) : (stk h).there = true := rfl
theorem stk_hand (h : Nat) : (stk h).hand = 0 := rfl
/-- one plain step -/
theorem stack_step {n m i : Nat} {x : Ins} (hx : (stackP n m).cd[i]? = some x) (hi : i + 1 < n + m + 2) (ho : x.op = 1 ∨ x.op = 17 ∨ x.op = 28) (ht : takenV x.op (stk (hgt n i)) = (stk (hgt n (i + 1)), 0)) :
    looksV (stackP n m) ((stackP n m).cd.length - i) i (atsK n m i) = looksV (stackP n m) ((stackP n m).cd.length - (i + 1)) (i + 1) (atsK n m (i + 1)) := by
  have hl := stack_len n m
  have ex := ins_of hx
  have es : atSt (atsK n m i) (i : Int) = stk (hgt n i) := by rw [atsK_at (by omega), if_pos (Nat.le_refl _)]
  have en : atSt (atsK n m i) ((i : Int) + 1) = st0 := by
    have := atsK_at (n := n) (m := m) (i := i) (k := i + 1) (by omega)
    rw [if_neg (by omega)] at this
    exact this
  have hb : stBeh (stackP n m) x (stk (hgt n i)) = stk (hgt n (i + 1)) := by
    unfold stBeh
    rw [ht]
    have : holdV (stackP n m) x.op x.a (stk (hgt n i)).hand = 0 := by
      unfold holdV
      rcases ho with h | h | h <;> rw [h] <;> simp [stk_hand]
    rw [this]
    rfl
  have hlook := look_plain (P := stackP n m) (n := i) (x := x) (s := stk (hgt n i)) (ats := atsK n m i) (stk_there _)
    (by unfold handsV; rcases ho with h | h | h <;> rw [h] <;> simp [stk_hand]) (by rw [ht]) (by unfold kindsV; rcases ho with h | h | h <;> rw [h] <;> simp)
    (by rw [ht]; unfold jumpsV; rcases ho with h | h | h <;> simp [h]) (by rw [hb]; unfold waysV; rcases ho with h | h | h <;> rw [h] <;> simp) (by rw [hl]; exact hi) (by rw [en]; rfl)
  rw [hb, atsK_step hi] at hlook
  have := looks_step (P := stackP n m) (i := i) (ats := atsK n m i) (by rw [hl]; omega) (by rw [ex, es, hlook])
  rw [this, ex, es, hlook]
theorem stack_stop {n m i : Nat} {x : Ins} (hx : (stackP n m).cd[i]? = some x) (hi : i < n + m + 2) (ho : x.op = 0 ∨ x.op = 1 ∨ x.op = 17 ∨ x.op = 28) (ht : (takenV x.op (stk (hgt n i))).2 ≠ 0) :
    looksV (stackP n m) ((stackP n m).cd.length - i) i (atsK n m i) = ((takenV x.op (stk (hgt n i))).2, i, atsK n m i) := by
  have hl := stack_len n m
  have ex := ins_of hx
  have es : atSt (atsK n m i) (i : Int) = stk (hgt n i) := by rw [atsK_at (by omega), if_pos (Nat.le_refl _)]
  have hlook := look_takes (P := stackP n m) (n := i) (x := x) (s := stk (hgt n i)) (ats := atsK n m i) (stk_there _)
    (by unfold handsV; rcases ho with h | h | h | h <;> rw [h] <;> simp [stk_hand]) ht
  have := looks_stop (P := stackP n m) (i := i) (ats := atsK n m i) (by rw [hl]; omega) (by rw [ex, es, hlook]; exact ht)
  rw [this, ex, es, hlook]
theorem hgt_up {n k : Nat} (h : k < n) : hgt n k = k ∧ hgt n (k + 1) = k + 1 := by unfold hgt; rw [if_pos (by omega), if_pos (by omega)]; exact ⟨rfl, rfl⟩
theorem hgt_down {n k : Nat} (h : n ≤ k) : hgt n k = 2 * n - k := by unfold hgt; split <;> omega
/-- the numbers -/
theorem stack_up {n m : Nat} : ∀ i, i ≤ n → i ≤ 256 → looksV (stackP n m) (stackP n m).cd.length 0 (ats0 (stackP n m)) = looksV (stackP n m) ((stackP n m).cd.length - i) i (atsK n m i)
  | 0, _, _ => by rw [ats0_stack, Nat.sub_zero]
  | i + 1, h, h2 => by
    rw [stack_up i (by omega) (by omega)]
    refine stack_step (stack_num (by omega)) (by omega) (.inl rfl) ?_
    rw [(hgt_up (n := n) (k := i) (by omega)).1, (hgt_up (n := n) (k := i) (by omega)).2]
    exact take_num (by omega)
/-- the sums -/
theorem stack_sums {n m : Nat} (hn : n ≤ 256) : ∀ j, j ≤ m → j + 1 ≤ n → looksV (stackP n m) (stackP n m).cd.length 0 (ats0 (stackP n m)) = looksV (stackP n m) ((stackP n m).cd.length - (n + j)) (n + j) (atsK n m (n + j))
  | 0, _, _ => stack_up n (Nat.le_refl _) hn
  | j + 1, h, h2 => by
    rw [stack_sums hn j (by omega) (by omega)]
    refine stack_step (stack_add (by omega) (by omega)) (by omega) (.inr (.inl rfl)) ?_
    rw [hgt_down (by omega), hgt_down (by omega)]
    have := take_add (h := 2 * n - (n + j)) (by omega) (by omega)
    rw [show 2 * n - (n + j) - 1 = 2 * n - (n + j + 1) by omega] at this
    exact this
theorem runV_stop {P : Prg} {e : Int} {i : Nat} {ats : List St} (h0 : checkV P = 0) (hl : looksV P P.cd.length 0 (ats0 P) = (e, i, ats)) (he : e ≠ 0) : runV P = (e, (i : Int), []) := by
  unfold runV
  rw [if_neg (by simp [h0]), hl, if_pos he]
theorem stack_high {n m : Nat} (hn : 256 < n) (hn2 : n ≤ 300) (hm : m ≤ 303) : runV (stackP n m) = (93, 256, []) := by
  have h := stack_up (n := n) (m := m) 256 (by omega) (Nat.le_refl _)
  have hh := (hgt_up (n := n) (k := 256) hn).1
  have hs := stack_stop (m := m) (stack_num hn) (by omega) (.inr (.inl rfl)) (by rw [hh]; rw [show (numI 256).op = 1 from rfl, take_num_no (Nat.le_refl _)]; decide)
  rw [hh, show (numI 256).op = 1 from rfl, take_num_no (Nat.le_refl _)] at hs
  exact runV_stop (stack_check hn2 hm) (h.trans hs) (by decide)
theorem stack_many {n m : Nat} (h1 : 1 ≤ n) (hn : n ≤ 256) (hm : m ≤ 303) (hmn : n - 1 < m) : runV (stackP n m) = (93, ((n + n - 1 : Nat) : Int), []) := by
  have h := stack_sums (n := n) (m := m) hn (n - 1) (by omega) (by omega)
  have hh : hgt n (n + (n - 1)) = 1 := by rw [hgt_down (by omega)]; omega
  have hs := stack_stop (m := m) (stack_add (n := n) (m := m) (i := n + (n - 1)) (by omega) (by omega)) (by omega) (.inr (.inr (.inl rfl))) (by rw [hh]; rw [show addI.op = 17 from rfl, take_add_no (by decide)]; decide)
  rw [hh, show addI.op = 17 from rfl, take_add_no (by decide)] at hs
  have := runV_stop (stack_check (by omega) hm) (h.trans hs) (by decide)
  rw [show n + n - 1 = n + (n - 1) by omega]
  exact this
theorem stack_few {n m : Nat} (hn : n ≤ 256) (hmn : m + 1 < n) : runV (stackP n m) = (93, ((n + m + 1 : Nat) : Int), []) := by
  have h := stack_sums (n := n) (m := m) hn m (Nat.le_refl _) (by omega)
  have hh : hgt n (n + m) = n - m := by rw [hgt_down (by omega)]; omega
  have hh2 : hgt n (n + m + 1) = n - m - 1 := by rw [hgt_down (by omega)]; omega
  have h2 := stack_step (m := m) (i := n + m) stack_set (by omega) (.inr (.inr rfl)) (by rw [hh, hh2]; exact take_set (by omega))
  have hs := stack_stop (m := m) (stack_end (n := n) (m := m)) (by omega) (.inl rfl) (by rw [hh2, take_end_no (by omega)]; simp)
  rw [hh2, take_end_no (by omega)] at hs
  exact runV_stop (stack_check (by omega) (by omega)) ((h.trans h2).trans hs) (by decide)
/-- the fuel of code without jumps -/
theorem fuel_small {P : Prg} (hp : ∀ x ∈ P.cd, x.op ≠ 22 ∧ x.op ≠ 23 ∧ x.op ≠ 24) : ∀ (k : Nat), k ≤ P.cd.length → ∀ a, 0 ≤ fAt (fuelK P k) a ∧ fAt (fuelK P k) a ≤ k
  | 0, _, a => by
    simp only [fuelK, fAt, List.getElem?_replicate]
    split <;> simp
  | k + 1, hk, a => by
    have hx : insAt P ((P.cd.length - 1 - k : Nat) : Int) ∈ P.cd := by
      have : P.cd.length - 1 - k < P.cd.length := by omega
      simp only [insAt, Int.toNat_natCast, List.getElem?_eq_getElem this, Option.getD_some]
      exact List.getElem_mem _
    obtain ⟨h22, h23, h24⟩ := hp _ hx
    have ih := fuel_small hp k (by omega)
    have hs : 0 ≤ fuelStep P (P.cd.length - 1 - k) (insAt P ((P.cd.length - 1 - k : Nat) : Int)) (fuelK P k) ∧ fuelStep P (P.cd.length - 1 - k) (insAt P ((P.cd.length - 1 - k : Nat) : Int)) (fuelK P k) ≤ (k + 1 : Nat) := by
      unfold fuelStep
      split
      · omega
      · have := ih ((P.cd.length - 1 - k + 1 : Nat) : Int)
        unfold plusV
        split <;> omega
    rw [fuelK]
    unfold fAt
    rw [List.getElem?_set]
    split
    · split
      · exact hs
      · simp
        omega
    · have := ih a
      unfold fAt at this
      omega
theorem over_none {f : List Int} : ∀ {l : List Int}, (∀ b ∈ l, fAt f b ≤ 1152921504606846976) → overV f l = none
  | [], _ => rfl
  | b :: l, h => by
    rw [overV, if_neg (fun hh => by have := h b (List.mem_cons_self ..); omega)]
    exact over_none fun c hc => h c (List.mem_cons_of_mem _ hc)
theorem stack_right {n m : Nat} (h1 : 1 ≤ n) (hn : n ≤ 256) (hmn : m + 1 = n) : runV (stackP n m) = (0, 0, atsK n m (n + m + 1)) := by
  have h := stack_sums (n := n) (m := m) hn m (Nat.le_refl _) (by omega)
  have hh : hgt n (n + m) = 1 := by rw [hgt_down (by omega)]; omega
  have hh2 : hgt n (n + m + 1) = 0 := by rw [hgt_down (by omega)]; omega
  have h2 := stack_step (m := m) (i := n + m) stack_set (by omega) (.inr (.inr rfl)) (by rw [hh, hh2]; exact take_set (by omega))
  have hl := stack_len n m
  have ex := ins_of (stack_end (n := n) (m := m))
  have es : atSt (atsK n m (n + m + 1)) ((n + m + 1 : Nat) : Int) = stk 0 := by rw [atsK_at (by omega), if_pos (Nat.le_refl _), hh2]
  have hlook : lookV (stackP n m) (n + m + 1) ⟨0, 0, 0, 0, 0⟩ (stk 0) (atsK n m (n + m + 1)) = (0, atsK n m (n + m + 1)) := by
    unfold lookV
    rw [take_end]
    rw [if_neg (by simp [stk_there]), if_neg (by simp [handsV, stk_hand]), if_neg (by simp), if_neg (by simp [kindsV]), if_neg (by simp [jumpsV, stk]), if_neg (by simp [waysV]), if_neg (by simp [waysV, clash])]
    simp [waysV]
  have h3 := looks_step (P := stackP n m) (i := n + m + 1) (ats := atsK n m (n + m + 1)) (by rw [hl]; omega) (by rw [ex, es, hlook])
  rw [ex, es, hlook] at h3
  have h4 : looksV (stackP n m) (stackP n m).cd.length 0 (ats0 (stackP n m)) = (0, n + m + 2, atsK n m (n + m + 1)) := by
    rw [(h.trans h2).trans h3, hl, show n + m + 2 - (n + m + 1 + 1) = 0 by omega]
    rfl
  refine runV_ok (stack_check (by omega) (by omega)) h4 (over_none fun b _ => ?_)
  have := (fuel_small (P := stackP n m) (fun x hx => by
    rcases stack_mem hx with ⟨i, hi, rfl⟩ | rfl | rfl | rfl <;> simp [numI, addI]) _ (Nat.le_refl _) b).2
  rw [hl] at this ⊢
  omega
end Go.Proofs.Ytjflllfkgbhemaa
