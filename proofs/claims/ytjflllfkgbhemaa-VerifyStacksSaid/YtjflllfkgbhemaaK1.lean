/- A plain law: what the verifier tells of a straight row of numbers, sums and one store. Conditions: the counts that are named. -/
import Derived.Test.YtjflllfkgbhemaaV33
namespace Go.Proofs.Ytjflllfkgbhemaa
open Go.RowKit Go.PlainAid
def numI (i : Nat) : Ins := ⟨1, i, 0, 0, 0⟩
def addI : Ins := ⟨17, 0, 0, 0, 0⟩
def stackC (n m : Nat) : List Ins := (List.range n).map numI ++ List.replicate m addI ++ [⟨28, 0, 0, 0, 0⟩, ⟨0, 0, 0, 0, 0⟩]
def stackP (n m : Nat) : Prg := ⟨[false], [⟨0, 0, 0⟩], [], [-1], 0, stackC n m⟩
def stk (h : Nat) : St := ⟨true, ⟨(List.replicate h 1).toArray⟩, [], 0⟩
theorem stack_len (n m : Nat) : (stackP n m).cd.length = n + m + 2 := by simp [stackP, stackC]; omega
theorem stack_num {n m i : Nat} (h : i < n) : (stackP n m).cd[i]? = some (numI i) := by
  simp only [stackP, stackC, List.append_assoc]
  rw [List.getElem?_append_left (by simpa using h)]
  simp [h]
theorem stack_add {n m i : Nat} (h : n ≤ i) (h2 : i < n + m) : (stackP n m).cd[i]? = some addI := by
  simp only [stackP, stackC, List.append_assoc]
  rw [List.getElem?_append_right (by simpa using h), List.getElem?_append_left (by simp; omega)]
  simp [List.getElem?_replicate]
  omega
theorem stack_set {n m : Nat} : (stackP n m).cd[n + m]? = some ⟨28, 0, 0, 0, 0⟩ := by
  simp only [stackP, stackC, List.append_assoc]
  rw [List.getElem?_append_right (by simp), List.getElem?_append_right (by simp)]
  simp
theorem stack_end {n m : Nat} : (stackP n m).cd[n + m + 1]? = some ⟨0, 0, 0, 0, 0⟩ := by
  simp only [stackP, stackC, List.append_assoc]
  rw [List.getElem?_append_right (by simp; omega), List.getElem?_append_right (by simp; omega)]
  simp [show n + m + 1 - n - m = 1 by omega]
theorem stack_mem {n m : Nat} {x : Ins} (h : x ∈ (stackP n m).cd) : (∃ i < n, x = numI i) ∨ x = addI ∨ x = ⟨28, 0, 0, 0, 0⟩ ∨ x = ⟨0, 0, 0, 0, 0⟩ := by
  simp only [stackP, stackC, List.mem_append, List.mem_map, List.mem_range, List.mem_replicate, List.mem_cons, List.not_mem_nil, or_false] at h
  rcases h with (⟨i, hi, rfl⟩ | ⟨_, rfl⟩) | rfl | rfl
  · exact .inl ⟨i, hi, rfl⟩
  · exact .inr (.inl rfl)
  · exact .inr (.inr (.inl rfl))
  · exact .inr (.inr (.inr rfl))
theorem insE_ok {P : Prg} {x : Ins} {r : ByteArray × ByteArray} (h0 : 0 ≤ x.op) (e : table[x.op.toNat]? = some r) (h : ∀ i < 4, opOk P r.2 x i = true) : insE P x = 0 := by
  unfold insE
  rw [if_neg (by omega), e]
  simp only [h 0 (by omega), h 1 (by omega), h 2 (by omega), h 3 (by omega)]
  rfl
set_option linter.unusedSimpArgs false in
theorem stack_check {n m : Nat} (hn : n ≤ 300) (hm : m ≤ 303) : checkV (stackP n m) = 0 := by
  have ht : tablesV (stackP n m) = true := by
    simp [tablesV, stack_len]
    simp [stackP, vrOk, fromV]
    have := stack_len n m
    simp [stackP] at this
    omega
  unfold checkV
  rw [if_pos ht]
  refine insEs_all fun x hx => ?_
  rcases stack_mem hx with ⟨i, hi, rfl⟩ | rfl | rfl | rfl
  · refine insE_ok (r := (⟨#[110, 117, 109]⟩, ⟨#[110]⟩)) (by simp [numI]) rfl fun k hk => ?_
    match k, hk with
    | 0, _ => simp [opOk, opB, Ins.arg, numI, boundsV, fromV]; omega
    | 1, _ => simp [opOk, opB, Ins.arg, numI, boundsV, fromV]
    | 2, _ => simp [opOk, opB, Ins.arg, numI, boundsV, fromV]
    | 3, _ => simp [opOk, opB, Ins.arg, numI, boundsV, fromV]
  · refine insE_ok (r := (⟨#[97, 100, 100]⟩, ⟨#[]⟩)) (by simp [addI]) rfl fun k hk => ?_
    match k, hk with
    | 0, _ => simp [opOk, opB, Ins.arg, addI, boundsV, fromV]
    | 1, _ => simp [opOk, opB, Ins.arg, addI, boundsV, fromV]
    | 2, _ => simp [opOk, opB, Ins.arg, addI, boundsV, fromV]
    | 3, _ => simp [opOk, opB, Ins.arg, addI, boundsV, fromV]
  · refine insE_ok (r := (⟨#[115, 101, 116]⟩, ⟨#[118]⟩)) (by decide) rfl fun k hk => ?_
    match k, hk with
    | 0, _ => simp [opOk, opB, Ins.arg, boundsV, fromV, stackP]
    | 1, _ => simp [opOk, opB, Ins.arg, boundsV, fromV]
    | 2, _ => simp [opOk, opB, Ins.arg, boundsV, fromV]
    | 3, _ => simp [opOk, opB, Ins.arg, boundsV, fromV]
  · refine insE_ok (r := (⟨#[101, 110, 100]⟩, ⟨#[]⟩)) (by decide) rfl fun k hk => ?_
    match k, hk with
    | 0, _ => simp [opOk, opB, Ins.arg, boundsV, fromV]
    | 1, _ => simp [opOk, opB, Ins.arg, boundsV, fromV]
    | 2, _ => simp [opOk, opB, Ins.arg, boundsV, fromV]
    | 3, _ => simp [opOk, opB, Ins.arg, boundsV, fromV]
theorem stk_size (h : Nat) : (stk h).ty.size = h := by simp [stk, ByteArray.size]
theorem stk_bt {h i : Nat} (hi : i < h) : bt (stk h).ty i = 1 := by
  unfold bt
  rw [dif_pos (by rw [stk_size]; exact hi)]
  have : ((stk h).ty[i]'(by rw [stk_size]; exact hi)) = 1 := by
    show (List.replicate h (1 : UInt8)).toArray[i]'(by simpa using hi) = 1
    simp
  rw [this]
  rfl
theorem stk_pop {h k : Nat} (hk : k ≤ h) : (stk h).ty.extract 0 k = (stk k).ty := by
  apply ByteArray.ext
  simp [stk, ByteArray.data_extract]
  omega
theorem stk_push (h : Nat) : (stk h).ty ++ ⟨#[1]⟩ = (stk (h + 1)).ty := by
  apply ByteArray.ext
  simp [stk, List.replicate_succ']
  rw [← List.toArray_replicate, List.push_toArray]
theorem take_num {h : Nat} (hh : h < 256) : takenV 1 (stk h) = (stk (h + 1), 0) := by
  have e1 : takesL 1 = [] := rfl
  have e2 : givesV 1 = 1 := rfl
  unfold takenV
  rw [e1, e2, stk_size]
  simp [pushV, e2]
  rw [if_neg (by omega), stk_pop (Nat.le_refl _), stk_push]
  rfl
theorem take_num_no {h : Nat} (hh : 256 ≤ h) : takenV 1 (stk h) = (stk h, 93) := by
  have e1 : takesL 1 = [] := rfl
  have e2 : givesV 1 = 1 := rfl
  unfold takenV
  rw [e1, e2, stk_size]
  simp
  omega
theorem take_add {h : Nat} (h2 : 2 ≤ h) (hh : h ≤ 256) : takenV 17 (stk h) = (stk (h - 1), 0) := by
  have e1 : takesL 17 = [1, 1] := rfl
  have e2 : givesV 17 = 1 := rfl
  have hf : ∀ i < 2, fitsV 17 (stk h).ty (h - 2) i = true := fun i hi => by
    unfold fitsV
    rw [stk_bt (by omega), stk_bt (by omega), stk_bt (by omega), e1]
    match i, hi with
    | 0, _ => simp
    | 1, _ => simp
  unfold takenV
  rw [e1, e2, stk_size, if_neg (by simp; omega), if_neg (by simp; omega), if_pos (by simp; intro x hx; exact hf x hx)]
  simp only [pushV, e2]
  rw [if_neg (by decide)]
  have := stk_pop (h := h) (k := h - 2) (by omega)
  simp only [List.length_cons, List.length_nil]
  rw [this]
  have e3 : (⟨#[(1 : Int).toNat.toUInt8]⟩ : ByteArray) = ⟨#[1]⟩ := rfl
  rw [e3, stk_push, show h - 2 + 1 = h - 1 by omega]
  rfl
theorem take_add_no {h : Nat} (h2 : h < 2) : takenV 17 (stk h) = (stk h, 93) := by
  have e1 : takesL 17 = [1, 1] := rfl
  unfold takenV
  rw [e1, stk_size, if_pos (by simpa using h2)]
theorem take_set {h : Nat} (h1 : 1 ≤ h) : takenV 28 (stk h) = (stk (h - 1), 0) := by
  have e1 : takesL 28 = [1] := rfl
  have e2 : givesV 28 = 0 := rfl
  have hf : ∀ i < 1, fitsV 28 (stk h).ty (h - 1) i = true := fun i hi => by
    obtain rfl : i = 0 := by omega
    unfold fitsV
    rw [stk_bt (by omega), e1]
    simp
  unfold takenV
  rw [e1, e2, stk_size, if_neg (by simp; omega), if_neg (by simp), if_pos (by simp; exact hf 0 (by omega))]
  simp only [pushV, e2, if_true]
  have := stk_pop (h := h) (k := h - 1) (by omega)
  simp only [List.length_cons, List.length_nil]
  rw [this]
  rfl
theorem take_set_no : takenV 28 (stk 0) = (stk 0, 93) := by
  have e1 : takesL 28 = [1] := rfl
  unfold takenV
  rw [e1, stk_size, if_pos (by simp)]
theorem take_end : takenV 0 (stk 0) = (stk 0, 0) := by
  have e1 : takesL 0 = [] := rfl
  have e2 : givesV 0 = 0 := rfl
  unfold takenV
  rw [e1, e2, stk_size]
  simp [pushV, e2]
  rfl
theorem take_end_no {h : Nat} (hh : 0 < h) : takenV 0 (stk h) = (stk h, 93) := by
  have e1 : takesL 0 = [] := rfl
  have e2 : givesV 0 = 0 := rfl
  unfold takenV
  rw [e1, e2, stk_size]
  simp
  omega
end Go.Proofs.Ytjflllfkgbhemaa
