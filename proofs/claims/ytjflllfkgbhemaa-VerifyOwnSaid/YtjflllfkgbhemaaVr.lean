/- What look tells, as a function; plain laws of it. Conditions: none. -/
import Derived.Test.YtjflllfkgbhemaaVq
import Derived.Test.YtjflllfkgbhemaaV23
import Derived.Test.YtjflllfkgbhemaaV20
import Derived.Test.YtjflllfkgbhemaaV19
namespace Go.Proofs.Ytjflllfkgbhemaa
open Go.RowKit
/-- what the check of an instruction gives -/
structure Chk (P : Prg) (x : Ins) : Prop where
  q34 : x.op = 34 → qIn P x.a
  q35 : x.op = 35 → qIn P x.a
  qk : x.op = 32 ∨ x.op = 40 ∨ x.op = 41 ∨ x.op = 38 ∨ x.op = 39 → qIn P x.a
  qc : x.op = 38 ∨ x.op = 39 → qIn P x.c
  pj : x.op = 22 ∨ x.op = 23 ∨ x.op = 25 ∨ x.op = 26 → pIn P x.a
/-- a standing at a place -/
structure Fit (P : Prg) (i : Nat) (s : St) : Prop where
  ty : s.ty.size ≤ 256
  ls : s.ls.length ≤ i
  pl : ∀ t ∈ s.ls, pIn P t
def Fits (P : Prg) (ats : List St) : Prop := ∀ (i : Nat) (s : St), ats[i]? = some s → Fit P i s
def clash (l : List (Int × St)) (ats : List St) : Bool :=
  match l with
  | [u] => (atSt ats u.1).there && !sameV (atSt ats u.1) u.2
  | [u, v] => ((atSt ats u.1).there && !sameV (atSt ats u.1) u.2) || (u.1 == v.1 && !sameV u.2 v.2) || ((atSt ats v.1).there && !sameV (atSt ats v.1) v.2)
  | _ => false
def putSt (ats : List St) (u : Int × St) : List St := ats.set u.1.toNat { u.2 with there := true }
def stBeh (P : Prg) (x : Ins) (s : St) : St := { (takenV x.op s).1 with hand := holdV P x.op x.a s.hand }
def lookV (P : Prg) (at_ : Nat) (x : Ins) (s : St) (ats : List St) : Int × List St :=
  if s.there = false then (99, ats)
  else if handsV P x.op x.a s.hand = false then (96, ats)
  else if (takenV x.op s).2 ≠ 0 then ((takenV x.op s).2, ats)
  else if kindsV P x.op x.a x.c = false then (92, ats)
  else if jumpsV P at_ x (takenV x.op s).1 ats = false then (95, ats)
  else if (waysV at_ x (stBeh P x s)).any (fun u => decide ((P.cd.length : Int) ≤ u.1)) then (98, ats)
  else if clash (waysV at_ x (stBeh P x s)) ats then (94, ats)
  else (0, (waysV at_ x (stBeh P x s)).foldl putSt ats)
theorem takenV_hand (op : Int) (s : St) : (takenV op s).1.hand = s.hand ∧ (takenV op s).1.ls = s.ls ∧ (takenV op s).1.there = s.there := by
  unfold takenV
  repeat' split
  all_goals simp
theorem blk_two1 (w : World) (o : Obj) (t : TypeId) (cs : Array Value) : Blk ((w.alloc (.cells cs t)).alloc o).drew w.heap.size t cs := ((Blk.new w t cs).alloc o).drew
theorem blk_two2 (w : World) (o : Obj) (t : TypeId) (cs : Array Value) : Blk ((w.alloc o).alloc (.cells cs t)).drew (w.heap.size + 1) t cs := by
  have := (Blk.new (w.alloc o) t cs).drew
  simpa using this
theorem below_two (w : World) (o o1 : Obj) : Below w.heap.size w ((w.alloc o).alloc o1).drew := (((Below.refl _ w).alloc (Nat.le_refl _) _).alloc (by simp) _).drew
theorem ways_i (w : World) (at_ : Nat) (x : Ins) (v : Value) (s : St) (h : StM w v s) (hat : at_ ≤ 4194304) (hl : s.ls.length ≤ 4194304) (h0 : x.op = 26 → 0 < s.ls.length) :
    Calls Try.prog 50 #[.int .i64 (at_ : Int), .agg #[.int .i64 x.op, .int .i64 x.a, .int .i64 x.b, .int .i64 x.c, .int .i64 x.d], v] w fun en w' => ∃ v', en = .returned v' ∧ Wy w' v' (waysV at_ x s) ∧ Below w.heap.size w w' := by
  obtain ⟨op, a, b, c, d⟩ := x
  by_cases h25 : op = 25
  · subst h25
    exact ways_turn w at_ a b c d v s h hat hl
  · by_cases h26 : op = 26
    · subst h26
      exact ways_quit w at_ a b c d v s h (h0 rfl) hat hl
    · exact ways_plain w at_ ⟨op, a, b, c, d⟩ v s h hat h25 h26
theorem waysV_len (at_ : Nat) (x : Ins) (s : St) : (waysV at_ x s).length ≤ 2 := by
  unfold waysV
  repeat' split
  all_goals simp
theorem waysV_pos (P : Prg) (at_ : Nat) (x : Ins) (s : St) (hc : Chk P x) (h5 : ∀ u ∈ waysV at_ x s, u.1 < P.cd.length) : ∀ u ∈ waysV at_ x s, pIn P u.1 := by
  intro u hu
  have hlt := h5 u hu
  have h0 : 0 ≤ u.1 := by
    unfold waysV at hu
    by_cases o0 : x.op = 0
    · simp [o0] at hu
    · by_cases o1 : x.op = 27
      · simp [o1] at hu
      · by_cases oj : x.op = 22 ∨ x.op = 23 ∨ x.op = 25 ∨ x.op = 26
        · have hp := (hc.pj oj).1
          rcases oj with oj | oj | oj | oj
          · simp [oj] at hu; subst hu; exact hp
          · simp [oj] at hu; rcases hu with rfl | rfl
            · simp; omega
            · exact hp
          · simp [oj] at hu; rcases hu with rfl | rfl
            · simp; omega
            · exact hp
          · simp [oj] at hu; rcases hu with rfl | rfl
            · simp; omega
            · exact hp
        · have h1 : x.op ≠ 22 ∧ x.op ≠ 23 ∧ x.op ≠ 25 ∧ x.op ≠ 26 := by omega
          simp [o0, o1, h1] at hu
          subst hu
          simp
          omega
  exact ⟨h0, by omega⟩
theorem waysV_ls (at_ : Nat) (x : Ins) (s : St) : ∀ u ∈ waysV at_ x s, u.2.ls.length ≤ s.ls.length + 1 := by
  intro u hu
  unfold waysV at hu
  repeat' split at hu
  all_goals simp at hu
  all_goals first
    | (subst hu; simp)
    | (rcases hu with rfl | rfl <;> simp <;> omega)
    | (rcases hu with rfl | rfl <;> simp)
def noClash (l : List (Int × St)) (ats : List St) (i : Nat) : Prop := ∀ (j : Nat) (u : Int × St), j < i → l[j]? = some u → (∀ (k : Nat) (v : Int × St), k < j → l[k]? = some v → v.1 = u.1 → sameV v.2 u.2 = true) ∧ ((atSt ats u.1).there = true → sameV (atSt ats u.1) u.2 = true)
theorem clash_false (l : List (Int × St)) (ats : List St) (h2 : l.length ≤ 2) (h : noClash l ats l.length) : clash l ats = false := by
  rcases l with _ | ⟨u, _ | ⟨v, _ | ⟨x, l⟩⟩⟩
  · rfl
  · have h1 := (h 0 u (by simp) rfl).2
    unfold clash
    cases e : (atSt ats u.1).there <;> simp [e] at h1 ⊢
    exact h1
  · have h1 := (h 0 u (by simp) rfl).2
    have h3 := (h 1 v (by simp) rfl).2
    have h4 := (h 1 v (by simp) rfl).1 0 u (by simp) rfl
    unfold clash
    by_cases e3 : u.1 = v.1
    · have h5 := h4 e3
      cases e : (atSt ats u.1).there <;> cases e2 : (atSt ats v.1).there <;> simp [e] at h1 <;> simp [e2] at h3 <;> simp [e, e2, h1, h3, h5]
    · have h5 : (u.1 == v.1) = false := by simpa using e3
      cases e : (atSt ats u.1).there <;> cases e2 : (atSt ats v.1).there <;> simp [e] at h1 <;> simp [e2] at h3 <;> simp [e, e2, h1, h3, h5]
  · simp at h2
theorem clash_here (l : List (Int × St)) (ats : List St) (h2 : l.length ≤ 2) (i : Nat) (u : Int × St) (hi : l[i]? = some u) (ht : (atSt ats u.1).there = true) (hs : sameV (atSt ats u.1) u.2 = false) : clash l ats = true := by
  rcases l with _ | ⟨a, _ | ⟨b, _ | ⟨x, l⟩⟩⟩
  · simp at hi
  · obtain rfl : i = 0 := by have := (List.getElem?_eq_some_iff.1 hi).1; simp at this; exact this
    simp at hi
    subst hi
    simp [clash, ht, hs]
  · have hi2 : i = 0 ∨ i = 1 := by have := (List.getElem?_eq_some_iff.1 hi).1; simp at this; omega
    rcases hi2 with rfl | rfl
    · simp at hi
      subst hi
      simp [clash, ht, hs]
    · simp at hi
      subst hi
      simp [clash, ht, hs]
  · simp at h2
theorem clash_both (l : List (Int × St)) (ats : List St) (h2 : l.length ≤ 2) (i k : Nat) (u v : Int × St) (hk : k < i) (hi : l[i]? = some u) (hv : l[k]? = some v) (he : v.1 = u.1) (hs : sameV v.2 u.2 = false) : clash l ats = true := by
  rcases l with _ | ⟨a, _ | ⟨b, _ | ⟨x, l⟩⟩⟩
  · simp at hi
  · have := (List.getElem?_eq_some_iff.1 hi).1
    simp at this
    omega
  · have hi2 : i = 1 := by have := (List.getElem?_eq_some_iff.1 hi).1; simp at this; omega
    subst hi2
    obtain rfl : k = 0 := by omega
    simp at hi hv
    subst hi hv
    simp [clash, he, hs]
  · simp at h2
theorem inner_in (P : Prg) (l : List Int) (h : ∀ t ∈ l, pIn P t) : innerV l = -1 ∨ pIn P (innerV l) := by
  rcases List.eq_nil_or_concat l with rfl | ⟨l', x, rfl⟩
  · left; rfl
  · right
    rw [List.concat_eq_append] at h ⊢
    have : innerV (l' ++ [x]) = x := by simp [innerV]
    rw [this]
    exact h x (by simp)
end Go.Proofs.Ytjflllfkgbhemaa
