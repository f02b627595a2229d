/- Move is Unlink and Push of what was held: on the arena's numbers. Nothing here names the program. Conditions: the numbers are those of an arena. -/
import Derived.Test.YtbjmmfoklnhiiaaW18
namespace Go.Proofs.Ytbjmmfoklnhiiaa
open Go.RowKit

section
variable {α : Type}
theorem link_same {x c : ASt α} {m : Nat} (l : Nat) (e : Bool) (h1 : x.most = c.most) (h2 : x.made = c.made) (h3 : x.L = c.L) (h4 : x.V = c.V) (h5 : x.E = c.E) (h6 : x.CN = c.CN)
    (h7 : ∀ k, k ≠ m → x.LS k = c.LS k) (h8 : ∀ d k, k ≠ m → x.B d k = c.B d k) : x.link m l e = ((c.link m l e).setFr x.freed).setUs x.used := by
  obtain ⟨x1, x2, x3, x4, x5, x6, x7, x8, x9, x10⟩ := x
  obtain ⟨c1, c2, c3, c4, c5, c6, c7, c8, c9, c10⟩ := c
  dsimp only at h1 h2 h3 h4 h5 h6 h7 h8
  subst h1 h2 h3 h4 h5 h6
  unfold ASt.link
  dsimp only [ASt.setLS, ASt.setB, ASt.setE, ASt.setC, ASt.setFr, ASt.setUs]
  have hLS : ∀ y, upd x5 m y = upd c5 m y := by
    intro y; funext k; unfold upd; split
    · rfl
    · next h => exact h7 k h
  have hB : ∀ y z, upd2 (upd2 x6 e m y) (!e) m z = upd2 (upd2 c6 e m y) (!e) m z := by
    intro y z; funext d k
    by_cases hk : k = m
    · subst hk
      cases d <;> cases e <;> simp [upd2, upd]
    · have := h8 d k hk
      cases d <;> cases e <;> simp [upd2, upd, hk, this]
  split <;> rw [hLS, hB]

theorem setFU_id (s : ASt α) : ((s.setFr s.freed).setUs (s.used - 1)).setUs s.used = s := rfl
theorem move_is {s : ASt α} {z : α} {n l e : Int} (hb : s.Bd) (hE : s.moveE n l e = 0) :
    s.holds n = 0 ∧ (s.unlink z n).pushE l e = 0 ∧ (s.unlink z n).pushR l e = n ∧ (s.unlink z n).push z l e (s.get z n) = s.move n l e := by
  have hh : s.holds n = 0 ∧ s.isB l e = true := by
    unfold ASt.moveE at hE
    split at hE
    · cases hE
    · next h => exact ⟨hE, by cases hy : s.isB l e with | true => rfl | false => exact absurd (.inr hy) h⟩
  obtain ⟨hh, hi⟩ := hh
  have hn : 0 ≤ n := by
    unfold ASt.holds at hh
    split at hh
    · cases hh
    · omega
  obtain ⟨m, rfl⟩ := Int.eq_ofNat_of_zero_le hn
  have hun : s.unlink z (m : Int) = s.free z m := by unfold ASt.unlink; rw [if_pos hh, Int.toNat_natCast]
  have hge : s.get z (m : Int) = s.V m := by unfold ASt.get; rw [if_pos hh, Int.toNat_natCast]
  have hmv : s.move (m : Int) l e = (s.cut m).link m l.toNat (eB e) := by unfold ASt.move; rw [if_pos hE, Int.toNat_natCast]
  rw [hun, hge, hmv]
  obtain ⟨q1, q2, q3, q4, q5, q6, q7, q8, q9, q10⟩ := free_fields s z m
  have k1 := cut_V s m
  have k2 := cut_L s m
  have k3 := cut_most s m
  have k4 := cut_freed s m
  have k5 := cut_used s m
  generalize s.free z m = t at *
  generalize s.cut m = c at *
  have hpE : t.pushE l e = 0 := by
    unfold ASt.pushE
    have : t.isB l e = true := by unfold ASt.isB at hi ⊢; rw [q1, k2]; exact hi
    rw [this, q6, k3, q5]
    have := hb.um
    have := hb.mm
    rw [if_neg (by simp), if_neg (by omega)]
  have hpN : t.pushN = m := by unfold ASt.pushN; rw [q4, if_neg (by omega)]
  refine ⟨hh, hpE, ?_, ?_⟩
  · unfold ASt.pushR; rw [if_pos hpE, hpN]
  · unfold ASt.push
    rw [if_pos hpE]
    unfold ASt.pushOk
    have hS : t.pushS z = t.setFr s.freed := by
      unfold ASt.pushS
      rw [q4, if_neg (by omega)]
      congr 1
      rw [q10, Int.toNat_natCast, ← k4]
      simp [upd2, upd]
    rw [hpN, q5, hS, Int.toNat_natCast]
    have key := link_same (x := ((t.setFr s.freed).setV m (s.V m))) (c := c) (m := m) l.toNat (eB e) q6 q7 q1
      (by
        show upd t.V m (s.V m) = c.V
        rw [q8, k1]; funext k; simp only [upd]
        by_cases hk : k = m
        · simp [hk]
        · simp [hk])
      q2 q3
      (fun k hk => by show t.LS k = _; rw [q9, upd_other _ _ hk])
      (fun d k hk => by show t.B d k = _; rw [q10]; cases d <;> simp [upd2, upd, hk])
    rw [key]
    generalize hq : c.link m l.toNat (eB e) = q
    have e1 : s.freed = q.freed := by rw [← hq, link_freed, k4]
    have e2 : s.used = q.used := by rw [← hq, link_used, k5]
    show ((q.setFr s.freed).setUs t.used).setUs (s.used - 1 + 1) = q
    rw [show s.used - 1 + 1 = s.used from by omega, e1, e2]
    rfl

theorem move_get {s : ASt α} {z : α} {n l e : Int} (hE : s.moveE n l e = 0) (k : Int) : (s.move n l e).get z k = s.get z k ∧ (s.move n l e).holds k = s.holds k := by
  have hh : s.holds n = 0 ∧ s.isB l e = true := by
    unfold ASt.moveE at hE
    split at hE
    · cases hE
    · next h => exact ⟨hE, by cases hy : s.isB l e with | true => rfl | false => exact absurd (.inr hy) h⟩
  obtain ⟨hh, hi⟩ := hh
  have hn : 0 ≤ n ∧ 0 ≤ s.LS n.toNat := by
    unfold ASt.holds at hh
    split at hh
    · cases hh
    · split at hh
      · cases hh
      · omega
  have hLS : (s.move n l e).LS = upd s.LS n.toNat l.toNat := by
    unfold ASt.move
    rw [if_pos hE]
    unfold ASt.link
    split <;> (show upd (s.cut n.toNat).LS n.toNat l.toNat = _; rw [cut_LS])
  have hV : (s.move n l e).V = s.V := by unfold ASt.move; rw [if_pos hE, link_V, cut_V]
  have hm : (s.move n l e).made = s.made := by unfold ASt.move; rw [if_pos hE, link_made, cut_made]
  have hM : (s.move n l e).most = s.most := by unfold ASt.move; rw [if_pos hE, link_most, cut_most]
  have hold : (s.move n l e).holds k = s.holds k := by
    unfold ASt.holds
    rw [hLS, hm, hM]
    by_cases hk : k < 0 ∨ s.most ≤ k
    · rw [if_pos hk, if_pos hk]
    · rw [if_neg hk, if_neg hk]
      by_cases e : k.toNat = n.toNat
      · rw [e, upd_same]
        have h1 : (¬ ((l.toNat : Nat) : Int) < 0) ∧ ¬ s.LS n.toNat < 0 := by omega
        by_cases h2 : (s.made : Int) ≤ k
        · rw [if_pos (.inl h2), if_pos (.inl h2)]
        · rw [if_neg (fun h => h.elim h2 h1.1), if_neg (fun h => h.elim h2 h1.2)]
      · rw [upd_other _ _ e]
  refine ⟨?_, hold⟩
  unfold ASt.get
  rw [hold, hV]

/-- what a list tells without a node -/
def rest (x : Int) (l : List (Nat × α)) : List Int := (l.map fun y => (y.1 : Int)).filter (fun y => y != x)
theorem rest_erase {l : List (Nat × α)} {k : Nat} {x : Nat × α} (hk : l[k]? = some x) : rest (x.1 : Int) (l.eraseIdx k) = rest (x.1 : Int) l := by
  have e : l = l.take k ++ x :: l.drop (k + 1) := by
    obtain ⟨h, rfl⟩ := List.getElem?_eq_some_iff.1 hk
    rw [List.getElem_cons_drop, List.take_append_drop]
  rw [List.eraseIdx_eq_take_drop_succ]
  conv => rhs; rw [e]
  simp [rest]
theorem rest_ins (e : Bool) (x : Nat × α) (l : List (Nat × α)) : rest (x.1 : Int) (ins e x l) = rest (x.1 : Int) l := by
  unfold ins
  split <;> simp [rest]
theorem tell_nat (A : Ab α) (j : Nat) : A.tell (j : Int) 0 = A.L[j]?.getD [] := by
  unfold Ab.tell
  rw [if_pos (by omega), Int.toNat_natCast]
  cases A.L[j]? <;> simp
theorem rest_set {A B : Ab α} {i i2 : Nat} {l l2 : List (Nat × α)} {k : Nat} {x : Nat × α} {e : Bool} (hi : A.L[i]? = some l) (hk : l[k]? = some x) (hi2 : (A.L.set i (l.eraseIdx k))[i2]? = some l2)
    (hB : B.L = (A.L.set i (l.eraseIdx k)).set i2 (ins e x l2)) (j : Nat) : rest (x.1 : Int) (B.tell j 0) = rest (x.1 : Int) (A.tell j 0) := by
  rw [tell_nat, tell_nat, hB]
  have h1 : ∀ j : Nat, rest (x.1 : Int) ((A.L.set i (l.eraseIdx k))[j]?.getD []) = rest (x.1 : Int) (A.L[j]?.getD []) := by
    intro j
    rw [List.getElem?_set]
    split
    · next h =>
      subst h
      rw [if_pos (List.getElem?_eq_some_iff.1 hi).1, hi]
      exact rest_erase hk
    · rfl
  rw [← h1, List.getElem?_set]
  split
  · next h =>
    subst h
    rw [if_pos (List.getElem?_eq_some_iff.1 hi2).1, hi2]
    exact rest_ins e x l2
  · rfl
/-- Move: the lists, without the node, are as they were -/
theorem Rep.move_rest {s : ASt α} {A : Ab α} (h : Rep s A) {n l e : Int} (hp : s.moveE n l e = 0) : ∃ B, Rep (s.move n l e) B ∧ A.like B ∧ ∀ j : Nat, rest n (B.tell j 0) = rest n (A.tell j 0) := by
  unfold ASt.move
  rw [if_pos hp]
  unfold ASt.moveE at hp
  by_cases hx : s.holds n = 1 ∨ s.isB l e = false
  · rw [if_pos hx] at hp; cases hp
  · rw [if_neg hx] at hp
    have hb : s.isB l e = true := by
      cases hy : s.isB l e with
      | true => rfl
      | false => exact absurd (.inr hy) hx
    obtain ⟨h0, h1, h2⟩ := (h.isB_iff _ _).1 hb
    obtain ⟨i, l', k, x, hi, hk, rfl⟩ := h.at_ hp
    rw [Int.toNat_natCast]
    have hlt2 : l.toNat < (A.L.set i (l'.eraseIdx k)).length := by rw [List.length_set]; exact h1
    have hi2 : (A.L.set i (l'.eraseIdx k))[l.toNat]? = some ((A.L.set i (l'.eraseIdx k))[l.toNat]'hlt2) := List.getElem?_eq_getElem hlt2
    exact ⟨_, h.move (eB e) hi hk hi2, ⟨rfl, (List.length_set ..).trans (List.length_set ..)⟩, rest_set hi hk hi2 rfl⟩
end
end Go.Proofs.Ytbjmmfoklnhiiaa
