/- The plain law of the arena: what its numbers say of lists of nodes. Nothing here names the program. Conditions: none. -/
import Derived.Test.YtbjmmfoklnhiiaaBd
namespace Go.Proofs.Ytbjmmfoklnhiiaa

/-- the node at a place of a list; -1: there is none -/
def nodeAt {α : Type} (xs : List (Nat × α)) (k : Nat) : Int := match xs[k]? with | some x => x.1 | none => -1
section
variable {α : Type} {xs l : List (Nat × α)} {k j : Nat} {x y : Nat × α}
theorem nodeAt_some (h : xs[k]? = some x) : nodeAt xs k = x.1 := by simp [nodeAt, h]
theorem nodeAt_none (h : xs.length ≤ k) : nodeAt xs k = -1 := by simp [nodeAt, List.getElem?_eq_none h]
theorem nodeAt_ge (xs : List (Nat × α)) (k : Nat) : -1 ≤ nodeAt xs k := by unfold nodeAt; split <;> omega
theorem nodeAt_pos (h : 0 ≤ nodeAt xs k) : ∃ x, xs[k]? = some x ∧ nodeAt xs k = x.1 := by
  unfold nodeAt at h ⊢
  split
  · next x hx => exact ⟨x, hx, rfl⟩
  · next hx => rw [hx] at h; simp at h
theorem nodeAt_lt (h : k < xs.length) : 0 ≤ nodeAt xs k := by unfold nodeAt; rw [List.getElem?_eq_getElem h]; simp
theorem nodeAt_congr {ys : List (Nat × α)} (h : xs[k]? = ys[j]?) : nodeAt xs k = nodeAt ys j := by unfold nodeAt; rw [h]

/-- what lies beside a place: towards the front, towards the back -/
def nb (l : List (Nat × α)) (e : Bool) (k : Nat) : Int := if e then nodeAt l (k + 1) else if k = 0 then -1 else nodeAt l (k - 1)
theorem nb_true (l : List (Nat × α)) (k : Nat) : nb l true k = nodeAt l (k + 1) := rfl
theorem nb_zero (l : List (Nat × α)) : nb l false 0 = -1 := rfl
theorem nb_succ (l : List (Nat × α)) (k : Nat) : nb l false (k + 1) = nodeAt l k := rfl
theorem nb_ge (l : List (Nat × α)) (e : Bool) (k : Nat) : -1 ≤ nb l e k := by
  unfold nb; split
  · exact nodeAt_ge _ _
  · split
    · omega
    · exact nodeAt_ge _ _

theorem erase_lt (h : j < k) : (l.eraseIdx k)[j]? = l[j]? := by rw [List.getElem?_eraseIdx]; simp [h]
theorem erase_ge (h : k ≤ j) : (l.eraseIdx k)[j]? = l[j + 1]? := by rw [List.getElem?_eraseIdx, if_neg (by omega)]
end

/-- the lists as the numbers have them -/
structure Chain {α : Type} (s : ASt α) (L : List (List (Nat × α))) : Prop where
  len : s.L = L.length
  lists : ∀ {i : Nat} {l : List (Nat × α)}, L[i]? = some l → s.CN i = l.length ∧ s.E false i = nodeAt l 0 ∧ s.E true i = nb l false l.length
  nodes : ∀ {i : Nat} {l : List (Nat × α)} {k : Nat} {x : Nat × α}, L[i]? = some l → l[k]? = some x → x.1 < s.made ∧ s.V x.1 = x.2 ∧ s.LS x.1 = i ∧ s.B false x.1 = nb l false k ∧ s.B true x.1 = nb l true k
  uniq : ∀ {i : Nat} {l : List (Nat × α)} {k : Nat} {x : Nat × α} {l' : List (Nat × α)} {k' : Nat} {x' : Nat × α}, L[i]? = some l → l[k]? = some x → L[i]? = some l' → l'[k']? = some x' → x.1 = x'.1 → k = k'

section
variable {α : Type} {s : ASt α} {L : List (List (Nat × α))}

theorem Chain.uniq2 (h : Chain s L) {i i' : Nat} {l l' : List (Nat × α)} {k k' : Nat} {x x' : Nat × α} (hi : L[i]? = some l) (hk : l[k]? = some x) (hi' : L[i']? = some l') (hk' : l'[k']? = some x') (e : x.1 = x'.1) : i = i' ∧ k = k' := by
  have h1 := (h.nodes hi hk).2.2.1
  have h2 := (h.nodes hi' hk').2.2.1
  rw [e, h2] at h1
  have : i' = i := by omega
  subst this
  exact ⟨rfl, h.uniq hi hk hi' hk' e⟩

/-! what cut leaves -/
theorem cut_Bt (n m : Nat) : (s.cut n).B true m = if 0 ≤ s.B false n ∧ m = (s.B false n).toNat then s.B true n else s.B true m := by
  unfold ASt.cut ASt.cutA ASt.cutB
  by_cases h0 : s.B false n < 0 <;> by_cases h1 : s.B true n < 0
  · have p : ¬ 0 ≤ s.B false n := by omega
    simp [h0, h1, p, ASt.setC, ASt.setE]
  · have p0 : ¬ 0 ≤ s.B false n := by omega
    simp [h0, h1, p0, ASt.setC, ASt.setE, ASt.setB, upd2]
  · have p0 : 0 ≤ s.B false n := by omega
    simp [h0, h1, p0, ASt.setC, ASt.setE, ASt.setB, upd2, upd]
  · have p0 : 0 ≤ s.B false n := by omega
    simp [h0, h1, p0, ASt.setC, ASt.setB, upd2, upd]
theorem cut_Bf (n m : Nat) : (s.cut n).B false m = if 0 ≤ s.B true n ∧ m = (s.B true n).toNat then s.B false n else s.B false m := by
  unfold ASt.cut ASt.cutA ASt.cutB
  by_cases h0 : s.B false n < 0 <;> by_cases h1 : s.B true n < 0
  · have p : ¬ 0 ≤ s.B true n := by omega
    simp [h0, h1, p, ASt.setC, ASt.setE]
  · have p1 : 0 ≤ s.B true n := by omega
    simp [h0, h1, p1, ASt.setC, ASt.setE, ASt.setB, upd2, upd]
  · have p1 : ¬ 0 ≤ s.B true n := by omega
    simp [h0, h1, p1, ASt.setC, ASt.setE, ASt.setB, upd2]
  · have p1 : 0 ≤ s.B true n := by omega
    simp [h0, h1, p1, ASt.setC, ASt.setB, upd2, upd]
theorem cut_Ef (n m : Nat) : (s.cut n).E false m = if s.B false n < 0 ∧ m = (s.LS n).toNat then s.B true n else s.E false m := by
  unfold ASt.cut ASt.cutA ASt.cutB
  by_cases h0 : s.B false n < 0 <;> by_cases h1 : s.B true n < 0 <;> simp [h0, h1, ASt.setC, ASt.setE, ASt.setB, upd2, upd]
theorem cut_Et (n m : Nat) : (s.cut n).E true m = if s.B true n < 0 ∧ m = (s.LS n).toNat then s.B false n else s.E true m := by
  unfold ASt.cut ASt.cutA ASt.cutB
  by_cases h0 : s.B false n < 0 <;> by_cases h1 : s.B true n < 0 <;> simp [h0, h1, ASt.setC, ASt.setE, ASt.setB, upd2, upd]
theorem cut_CN (n m : Nat) : (s.cut n).CN m = if m = (s.LS n).toNat then s.CN m - 1 else s.CN m := by
  unfold ASt.cut ASt.cutA ASt.cutB
  by_cases h0 : s.B false n < 0 <;> by_cases h1 : s.B true n < 0 <;> simp [h0, h1, ASt.setC, ASt.setE, ASt.setB, upd] <;> (split <;> simp_all)

theorem set_get {β : Type} {L : List β} {i i' : Nat} {l l' l0 : β} (hi : L[i]? = some l0) (h : (L.set i l')[i']? = some l) : (i' = i ∧ l = l') ∨ (i' ≠ i ∧ L[i']? = some l) := by
  rw [List.getElem?_set] at h
  have hlt : i < L.length := (List.getElem?_eq_some_iff.1 hi).1
  by_cases e : i = i'
  · subst e
    rw [if_pos rfl, if_pos hlt] at h
    injection h with h
    exact .inl ⟨rfl, h.symm⟩
  · rw [if_neg e] at h
    exact .inr ⟨fun e' => e e'.symm, h⟩

theorem Chain.beside_f (h : Chain s L) {i i' : Nat} {l l' : List (Nat × α)} {k j : Nat} {x y : Nat × α} (hi : L[i]? = some l) (hk : l[k]? = some x) (hi' : L[i']? = some l') (hj : l'[j]? = some y) :
    (0 ≤ nb l false k ∧ y.1 = (nb l false k).toNat) ↔ (i' = i ∧ j + 1 = k) := by
  constructor
  · rintro ⟨h0, h1⟩
    cases k with
    | zero => rw [nb_zero] at h0; omega
    | succ k =>
      rw [nb_succ] at h0 h1
      obtain ⟨z, hz, e⟩ := nodeAt_pos h0
      rw [e, Int.toNat_natCast] at h1
      obtain ⟨e1, e2⟩ := h.uniq2 hi' hj hi hz h1
      exact ⟨e1, by omega⟩
  · rintro ⟨rfl, rfl⟩
    rw [hi] at hi'; injection hi' with hi'; subst hi'
    rw [nb_succ, nodeAt_some hj]
    exact ⟨by omega, by simp⟩
theorem Chain.beside_t (h : Chain s L) {i i' : Nat} {l l' : List (Nat × α)} {k j : Nat} {y : Nat × α} (hi : L[i]? = some l) (hi' : L[i']? = some l') (hj : l'[j]? = some y) :
    (0 ≤ nb l true k ∧ y.1 = (nb l true k).toNat) ↔ (i' = i ∧ j = k + 1) := by
  rw [nb_true]
  constructor
  · rintro ⟨h0, h1⟩
    obtain ⟨z, hz, e⟩ := nodeAt_pos h0
    rw [e, Int.toNat_natCast] at h1
    exact h.uniq2 hi' hj hi hz h1
  · rintro ⟨rfl, rfl⟩
    rw [hi] at hi'; injection hi' with hi'; subst hi'
    rw [nodeAt_some hj]
    exact ⟨by omega, by simp⟩

theorem Chain.cut (h : Chain s L) {i : Nat} {l : List (Nat × α)} {k : Nat} {x : Nat × α} (hi : L[i]? = some l) (hk : l[k]? = some x) : Chain (s.cut x.1) (L.set i (l.eraseIdx k)) := by
  obtain ⟨hx1, hx2, hx3, hx4, hx5⟩ := h.nodes hi hk
  have hli : (s.LS x.1).toNat = i := by rw [hx3]; rfl
  have hkl : k < l.length := (List.getElem?_eq_some_iff.1 hk).1
  have hlen : (l.eraseIdx k).length = l.length - 1 := by rw [List.length_eraseIdx]; simp [hkl]
  refine ⟨by rw [cut_L, h.len, List.length_set], ?_, ?_, ?_⟩
  · intro i' l' hl'
    rcases set_get hi hl' with ⟨rfl, rfl⟩ | ⟨hne, hl⟩
    · obtain ⟨g1, g2, g3⟩ := h.lists hi
      refine ⟨?_, ?_, ?_⟩
      · rw [cut_CN, hli, if_pos rfl, g1, hlen]; omega
      · rw [cut_Ef, hli, hx4, hx5, g2]
        cases k with
        | zero => rw [nb_zero, if_pos ⟨by omega, rfl⟩, nb_true]; exact nodeAt_congr (erase_ge (Nat.le_refl _)).symm
        | succ k => rw [nb_succ, if_neg (by have := nodeAt_lt (xs := l) (k := k) (by omega); omega)]; exact nodeAt_congr (erase_lt (by omega)).symm
      · rw [cut_Et, hli, hx4, hx5, g3, hlen]
        by_cases he : k + 1 = l.length
        · rw [nb_true, nodeAt_none (by omega), if_pos ⟨by omega, rfl⟩, show l.length - 1 = k from by omega]
          cases k with
          | zero => rfl
          | succ k => rw [nb_succ, nb_succ]; exact nodeAt_congr (erase_lt (by omega)).symm
        · rw [nb_true, if_neg (by have := nodeAt_lt (xs := l) (k := k + 1) (by omega); omega)]
          obtain ⟨m, hm⟩ : ∃ m, l.length = m + 2 := ⟨l.length - 2, by omega⟩
          rw [hm, show m + 2 - 1 = m + 1 from rfl, nb_succ, nb_succ]
          exact nodeAt_congr (erase_ge (by omega)).symm
    · obtain ⟨g1, g2, g3⟩ := h.lists hl
      refine ⟨?_, ?_, ?_⟩
      · rw [cut_CN, hli, if_neg hne, g1]
      · rw [cut_Ef, hli, if_neg (fun e => hne e.2), g2]
      · rw [cut_Et, hli, if_neg (fun e => hne e.2), g3]
  · intro i' l' j y hl' hy
    rcases set_get hi hl' with ⟨rfl, rfl⟩ | ⟨hne, hl⟩
    · rcases Nat.lt_or_ge j k with hjk | hjk
      · rw [erase_lt hjk] at hy
        obtain ⟨g1, g2, g3, g4, g5⟩ := h.nodes hi hy
        refine ⟨by rw [cut_made]; exact g1, by rw [cut_V]; exact g2, by rw [cut_LS]; exact g3, ?_, ?_⟩
        · rw [cut_Bf, hx4, hx5, if_neg (by rw [h.beside_t hi hi hy]; omega), g4]
          cases j with
          | zero => rfl
          | succ j => rw [nb_succ, nb_succ]; exact nodeAt_congr (erase_lt (by omega)).symm
        · rw [cut_Bt, hx4, hx5]
          by_cases hj1 : j + 1 = k
          · rw [if_pos ((h.beside_f hi hk hi hy).2 ⟨rfl, hj1⟩), nb_true, nb_true, hj1]; exact nodeAt_congr (erase_ge (Nat.le_refl _)).symm
          · rw [if_neg (by rw [h.beside_f hi hk hi hy]; omega), g5, nb_true, nb_true]; exact nodeAt_congr (erase_lt (by omega)).symm
      · rw [erase_ge hjk] at hy
        obtain ⟨g1, g2, g3, g4, g5⟩ := h.nodes hi hy
        refine ⟨by rw [cut_made]; exact g1, by rw [cut_V]; exact g2, by rw [cut_LS]; exact g3, ?_, ?_⟩
        · rw [cut_Bf, hx4, hx5]
          by_cases hj1 : j = k
          · subst hj1
            rw [if_pos ((h.beside_t hi hi hy).2 ⟨rfl, rfl⟩)]
            cases j with
            | zero => rfl
            | succ j => rw [nb_succ, nb_succ]; exact nodeAt_congr (erase_lt (by omega)).symm
          · rw [if_neg (by rw [h.beside_t hi hi hy]; omega), g4]
            obtain ⟨m, rfl⟩ : ∃ m, j = m + 1 := ⟨j - 1, by omega⟩
            rw [nb_succ, nb_succ]; exact nodeAt_congr (erase_ge (by omega)).symm
        · rw [cut_Bt, hx4, hx5, if_neg (by rw [h.beside_f hi hk hi hy]; omega), g5, nb_true, nb_true]; exact nodeAt_congr (erase_ge (by omega)).symm
    · obtain ⟨g1, g2, g3, g4, g5⟩ := h.nodes hl hy
      refine ⟨by rw [cut_made]; exact g1, by rw [cut_V]; exact g2, by rw [cut_LS]; exact g3, ?_, ?_⟩
      · rw [cut_Bf, hx4, hx5, if_neg (by rw [h.beside_t hi hl hy]; exact fun e => hne e.1), g4]
      · rw [cut_Bt, hx4, hx5, if_neg (by rw [h.beside_f hi hk hl hy]; exact fun e => hne e.1), g5]
  · intro i' l1 j y l2 j' y' h1 hy h2 hy' e
    rcases set_get hi h1 with ⟨rfl, rfl⟩ | ⟨hne, hl⟩
    · rcases set_get hi h2 with ⟨_, rfl⟩ | ⟨hne, _⟩
      · rcases Nat.lt_or_ge j k with a | a <;> rcases Nat.lt_or_ge j' k with b | b
        · rw [erase_lt a] at hy; rw [erase_lt b] at hy'; exact h.uniq hi hy hi hy' e
        · rw [erase_lt a] at hy; rw [erase_ge b] at hy'; have := h.uniq hi hy hi hy' e; omega
        · rw [erase_ge a] at hy; rw [erase_lt b] at hy'; have := h.uniq hi hy hi hy' e; omega
        · rw [erase_ge a] at hy; rw [erase_ge b] at hy'; have := h.uniq hi hy hi hy' e; omega
      · exact absurd rfl hne
    · rcases set_get hi h2 with ⟨e', _⟩ | ⟨_, hl'⟩
      · exact absurd e' hne
      · exact h.uniq hl hy hl' hy' e
/-- the node that was cut out is in no list any more -/
theorem Chain.cut_gone (h : Chain s L) {i : Nat} {l : List (Nat × α)} {k : Nat} {x : Nat × α} (hi : L[i]? = some l) (hk : l[k]? = some x) {i' : Nat} {l' : List (Nat × α)} {j : Nat} {y : Nat × α}
    (hi' : (L.set i (l.eraseIdx k))[i']? = some l') (hj : l'[j]? = some y) : y.1 ≠ x.1 ∧ ∃ j' : Nat, L[i']? = some (if i' = i then l else l') ∧ (if i' = i then l else l')[j']? = some y := by
  rcases set_get hi hi' with ⟨rfl, rfl⟩ | ⟨hne, hl⟩
  · rw [if_pos rfl]
    rcases Nat.lt_or_ge j k with a | a
    · rw [erase_lt a] at hj
      exact ⟨fun e => by have := h.uniq hi hj hi hk e; omega, j, hi, hj⟩
    · rw [erase_ge a] at hj
      exact ⟨fun e => by have := h.uniq hi hj hi hk e; omega, j + 1, hi, hj⟩
  · rw [if_neg hne]
    exact ⟨fun e => hne (h.uniq2 hl hj hi hk e).1, j, hl, hj⟩

/-! what link leaves -/
theorem link_LS (n l m : Nat) (e : Bool) : (s.link n l e).LS m = if m = n then (l : Int) else s.LS m := by
  unfold ASt.link; split <;> simp [ASt.setC, ASt.setE, ASt.setB, ASt.setLS, upd]
theorem link_Bs (n l m : Nat) (e : Bool) : (s.link n l e).B e m = if 0 ≤ s.E e l ∧ m = (s.E e l).toNat then (n : Int) else if m = n then -1 else s.B e m := by
  unfold ASt.link
  by_cases h : 0 ≤ s.E e l
  · rw [if_pos h]; cases e <;> simp [h, ASt.setC, ASt.setE, ASt.setB, ASt.setLS, upd, upd2]
  · rw [if_neg h]; cases e <;> simp [h, ASt.setC, ASt.setE, ASt.setB, ASt.setLS, upd, upd2]
theorem link_Bo (n l m : Nat) (e : Bool) : (s.link n l e).B (!e) m = if m = n then s.E e l else s.B (!e) m := by
  unfold ASt.link; split <;> (cases e <;> simp [ASt.setC, ASt.setE, ASt.setB, ASt.setLS, upd, upd2])
theorem link_Es (n l m : Nat) (e : Bool) : (s.link n l e).E e m = if m = l then (n : Int) else s.E e m := by
  unfold ASt.link; split <;> (cases e <;> simp [ASt.setC, ASt.setE, ASt.setB, ASt.setLS, upd, upd2])
theorem link_Eo (n l m : Nat) (e : Bool) : (s.link n l e).E (!e) m = if s.E e l < 0 ∧ m = l then (n : Int) else s.E (!e) m := by
  unfold ASt.link
  by_cases h : 0 ≤ s.E e l
  · have h' : ¬ s.E e l < 0 := by omega
    rw [if_pos h]; cases e <;> simp [h', ASt.setC, ASt.setE, ASt.setB, ASt.setLS, upd2]
  · have h' : s.E e l < 0 := by omega
    rw [if_neg h]; cases e <;> simp [h', ASt.setC, ASt.setE, ASt.setB, ASt.setLS, upd, upd2]
theorem link_CN (n l m : Nat) (e : Bool) : (s.link n l e).CN m = if m = l then s.CN l + 1 else s.CN m := by
  unfold ASt.link; split <;> simp [ASt.setC, ASt.setE, ASt.setB, ASt.setLS, upd]

/-- a cell at an end -/
def ins (e : Bool) (x : Nat × α) (l : List (Nat × α)) : List (Nat × α) := if e then l ++ [x] else x :: l

theorem Chain.link (h : Chain s L) {i : Nat} {l : List (Nat × α)} (hi : L[i]? = some l) (n : Nat) (hm : n < s.made) (e : Bool)
    (hn : ∀ {i' : Nat} {l' : List (Nat × α)} {k : Nat} {x : Nat × α}, L[i']? = some l' → l'[k]? = some x → x.1 ≠ n) : Chain (s.link n i e) (L.set i (ins e (n, s.V n) l)) := by
  obtain ⟨a1, a2, a3⟩ := h.lists hi
  cases e with
  | true =>
    have hE : ∀ {i' : Nat} {l' : List (Nat × α)} {j : Nat} {y : Nat × α}, L[i']? = some l' → l'[j]? = some y → ((0 ≤ s.E true i ∧ y.1 = (s.E true i).toNat) ↔ (i' = i ∧ j + 1 = l.length)) := by
      intro i' l' j y h1 h2
      rw [a3]
      constructor
      · rintro ⟨h0, h3⟩
        cases hl : l.length with
        | zero => rw [hl, nb_zero] at h0; omega
        | succ m =>
          rw [hl, nb_succ] at h0 h3
          obtain ⟨z, hz, ez⟩ := nodeAt_pos h0
          rw [ez, Int.toNat_natCast] at h3
          obtain ⟨e1, e2⟩ := h.uniq2 h1 h2 hi hz h3
          exact ⟨e1, by omega⟩
      · rintro ⟨rfl, h3⟩
        rw [hi] at h1; injection h1 with h1; subst h1
        rw [← h3, nb_succ, nodeAt_some h2]
        exact ⟨by omega, by simp⟩
    have hlast : ¬ (0 ≤ s.E true i ∧ n = (s.E true i).toNat) := by
      rintro ⟨h0, h3⟩
      rw [a3] at h0 h3
      cases hl : l.length with
      | zero => rw [hl, nb_zero] at h0; omega
      | succ m =>
        rw [hl, nb_succ] at h0 h3
        obtain ⟨z, hz, ez⟩ := nodeAt_pos h0
        rw [ez, Int.toNat_natCast] at h3
        exact hn hi hz h3.symm
    have hneg : s.E true i < 0 ↔ l.length = 0 := by
      rw [a3]
      cases hl : l.length with
      | zero => rw [nb_zero]; omega
      | succ m => rw [nb_succ]; have := nodeAt_lt (xs := l) (k := m) (by omega); omega
    have Bt := fun m => link_Bs (s := s) n i m true
    have Bf := fun m => link_Bo (s := s) n i m true
    have Et := fun m => link_Es (s := s) n i m true
    have Ef := fun m => link_Eo (s := s) n i m true
    simp only [Bool.not_true] at Bf Ef
    simp only [ins, if_true]
    refine ⟨by rw [link_L, h.len, List.length_set], ?_, ?_, ?_⟩
    · intro i' l' hl'
      rcases set_get hi hl' with ⟨rfl, rfl⟩ | ⟨hne, hl⟩
      · refine ⟨?_, ?_, ?_⟩
        · rw [link_CN, if_pos rfl, a1]; simp
        · rw [Ef, a2]
          by_cases h0 : l.length = 0
          · have hl0 := List.eq_nil_of_length_eq_zero h0
            rw [if_pos ⟨hneg.2 h0, rfl⟩, hl0]; rfl
          · rw [if_neg (fun e => h0 (hneg.1 e.1))]; exact nodeAt_congr (List.getElem?_append_left (by omega)).symm
        · rw [Et, if_pos rfl, List.length_append, List.length_singleton, nb_succ, nodeAt_some (x := (n, s.V n)) (by rw [List.getElem?_append_right (Nat.le_refl _)]; simp)]
      · obtain ⟨g1, g2, g3⟩ := h.lists hl
        refine ⟨?_, ?_, ?_⟩
        · rw [link_CN, if_neg hne, g1]
        · rw [Ef, if_neg (fun e => hne e.2), g2]
        · rw [Et, if_neg hne, g3]
    · intro i' l' j y hl' hy
      rcases set_get hi hl' with ⟨rfl, rfl⟩ | ⟨hne, hl⟩
      · rcases Nat.lt_or_ge j l.length with hj | hj
        · rw [List.getElem?_append_left hj] at hy
          obtain ⟨g1, g2, g3, g4, g5⟩ := h.nodes hi hy
          have hyn := hn hi hy
          refine ⟨by rw [link_made]; exact g1, by rw [link_V]; exact g2, by rw [link_LS, if_neg hyn]; exact g3, ?_, ?_⟩
          · rw [Bf, if_neg hyn, g4]
            cases j with
            | zero => rfl
            | succ j => rw [nb_succ, nb_succ]; exact nodeAt_congr (List.getElem?_append_left (by omega)).symm
          · rw [Bt]
            by_cases hj1 : j + 1 = l.length
            · rw [if_pos ((hE hi hy).2 ⟨rfl, hj1⟩), nb_true, hj1, nodeAt_some (x := (n, s.V n)) (by rw [List.getElem?_append_right (Nat.le_refl _)]; simp)]
            · rw [if_neg (by rw [hE hi hy]; exact fun e => hj1 e.2), if_neg hyn, g5, nb_true, nb_true]; exact nodeAt_congr (List.getElem?_append_left (by omega)).symm
        · rw [List.getElem?_append_right hj] at hy
          have hj0 : j - l.length = 0 := by
            rcases Nat.eq_zero_or_pos (j - l.length) with h0 | h0
            · exact h0
            · rw [List.getElem?_eq_none (by simp; omega)] at hy; cases hy
          have hjl : j = l.length := by omega
          rw [hj0] at hy; simp at hy; subst hy hjl
          refine ⟨by rw [link_made]; exact hm, by rw [link_V], by rw [link_LS, if_pos rfl], ?_, ?_⟩
          · rw [Bf, if_pos rfl, a3]
            cases hl : l.length with
            | zero => rfl
            | succ m => rw [nb_succ, nb_succ]; exact nodeAt_congr (List.getElem?_append_left (by omega)).symm
          · rw [Bt, if_neg hlast, if_pos rfl, nb_true, nodeAt_none (by simp)]
      · obtain ⟨g1, g2, g3, g4, g5⟩ := h.nodes hl hy
        have hyn := hn hl hy
        refine ⟨by rw [link_made]; exact g1, by rw [link_V]; exact g2, by rw [link_LS, if_neg hyn]; exact g3, ?_, ?_⟩
        · rw [Bf, if_neg hyn, g4]
        · rw [Bt, if_neg (by rw [hE hl hy]; exact fun e => hne e.1), if_neg hyn, g5]
    · intro i' l1 j y l2 j' y' h1 hy h2 hy' e
      rcases set_get hi h1 with ⟨rfl, rfl⟩ | ⟨hne, hl⟩
      · rcases set_get hi h2 with ⟨_, rfl⟩ | ⟨hne, _⟩
        · have key : ∀ {j : Nat} {y : Nat × α}, (l ++ [(n, s.V n)])[j]? = some y → (j < l.length ∧ l[j]? = some y) ∨ (j = l.length ∧ y = (n, s.V n)) := by
            intro j y hy
            rcases Nat.lt_or_ge j l.length with a | a
            · rw [List.getElem?_append_left a] at hy; exact .inl ⟨a, hy⟩
            · rw [List.getElem?_append_right a] at hy
              rcases Nat.eq_zero_or_pos (j - l.length) with h0 | h0
              · rw [h0] at hy; simp at hy; exact .inr ⟨by omega, hy.symm⟩
              · rw [List.getElem?_eq_none (by simp; omega)] at hy; cases hy
          rcases key hy with ⟨_, p⟩ | ⟨p, rfl⟩ <;> rcases key hy' with ⟨_, q⟩ | ⟨q, rfl⟩
          · exact h.uniq hi p hi q e
          · exact absurd e (hn hi p)
          · exact absurd e.symm (hn hi q)
          · omega
        · exact absurd rfl hne
      · rcases set_get hi h2 with ⟨e', _⟩ | ⟨_, hl'⟩
        · exact absurd e' hne
        · exact h.uniq hl hy hl' hy' e
  | false =>
    have hE : ∀ {i' : Nat} {l' : List (Nat × α)} {j : Nat} {y : Nat × α}, L[i']? = some l' → l'[j]? = some y → ((0 ≤ s.E false i ∧ y.1 = (s.E false i).toNat) ↔ (i' = i ∧ j = 0)) := by
      intro i' l' j y h1 h2
      rw [a2]
      constructor
      · rintro ⟨h0, h3⟩
        obtain ⟨z, hz, ez⟩ := nodeAt_pos h0
        rw [ez, Int.toNat_natCast] at h3
        exact h.uniq2 h1 h2 hi hz h3
      · rintro ⟨rfl, rfl⟩
        rw [hi] at h1; injection h1 with h1; subst h1
        rw [nodeAt_some h2]
        exact ⟨by omega, by simp⟩
    have hlast : ¬ (0 ≤ s.E false i ∧ n = (s.E false i).toNat) := by
      rintro ⟨h0, h3⟩
      rw [a2] at h0 h3
      obtain ⟨z, hz, ez⟩ := nodeAt_pos h0
      rw [ez, Int.toNat_natCast] at h3
      exact hn hi hz h3.symm
    have hneg : s.E false i < 0 ↔ l.length = 0 := by
      rw [a2]
      constructor
      · intro h0
        rcases Nat.eq_zero_or_pos l.length with h1 | h1
        · exact h1
        · have := nodeAt_lt (xs := l) (k := 0) h1; omega
      · intro h0; rw [nodeAt_none (by omega)]; omega
    have Bt := fun m => link_Bo (s := s) n i m false
    have Bf := fun m => link_Bs (s := s) n i m false
    have Et := fun m => link_Eo (s := s) n i m false
    have Ef := fun m => link_Es (s := s) n i m false
    simp only [Bool.not_false] at Bt Et
    simp only [ins, Bool.false_eq_true, if_false]
    refine ⟨by rw [link_L, h.len, List.length_set], ?_, ?_, ?_⟩
    · intro i' l' hl'
      rcases set_get hi hl' with ⟨rfl, rfl⟩ | ⟨hne, hl⟩
      · refine ⟨?_, ?_, ?_⟩
        · rw [link_CN, if_pos rfl, a1]; simp
        · rw [Ef, if_pos rfl]; rfl
        · rw [Et, a3, List.length_cons, nb_succ]
          by_cases h0 : l.length = 0
          · rw [if_pos ⟨hneg.2 h0, rfl⟩, h0]; rfl
          · obtain ⟨m, hm⟩ : ∃ m, l.length = m + 1 := ⟨l.length - 1, by omega⟩
            rw [if_neg (fun e => h0 (hneg.1 e.1)), hm, nb_succ]; exact nodeAt_congr rfl
      · obtain ⟨g1, g2, g3⟩ := h.lists hl
        refine ⟨?_, ?_, ?_⟩
        · rw [link_CN, if_neg hne, g1]
        · rw [Ef, if_neg hne, g2]
        · rw [Et, if_neg (fun e => hne e.2), g3]
    · intro i' l' j y hl' hy
      rcases set_get hi hl' with ⟨rfl, rfl⟩ | ⟨hne, hl⟩
      · cases j with
        | zero =>
          simp at hy; subst hy
          refine ⟨by rw [link_made]; exact hm, by rw [link_V], by rw [link_LS, if_pos rfl], ?_, ?_⟩
          · rw [Bf, if_neg hlast, if_pos rfl, nb_zero]
          · rw [Bt, if_pos rfl, a2, nb_true]; exact nodeAt_congr rfl
        | succ j =>
          rw [List.getElem?_cons_succ] at hy
          obtain ⟨g1, g2, g3, g4, g5⟩ := h.nodes hi hy
          have hyn := hn hi hy
          refine ⟨by rw [link_made]; exact g1, by rw [link_V]; exact g2, by rw [link_LS, if_neg hyn]; exact g3, ?_, ?_⟩
          · rw [Bf, nb_succ]
            cases j with
            | zero => rw [if_pos ((hE hi hy).2 ⟨rfl, rfl⟩)]; rfl
            | succ j => rw [if_neg (by rw [hE hi hy]; omega), if_neg hyn, g4, nb_succ]; exact nodeAt_congr rfl
          · rw [Bt, if_neg hyn, g5, nb_true, nb_true]; exact nodeAt_congr rfl
      · obtain ⟨g1, g2, g3, g4, g5⟩ := h.nodes hl hy
        have hyn := hn hl hy
        refine ⟨by rw [link_made]; exact g1, by rw [link_V]; exact g2, by rw [link_LS, if_neg hyn]; exact g3, ?_, ?_⟩
        · rw [Bf, if_neg (by rw [hE hl hy]; exact fun e => hne e.1), if_neg hyn, g4]
        · rw [Bt, if_neg hyn, g5]
    · intro i' l1 j y l2 j' y' h1 hy h2 hy' e
      rcases set_get hi h1 with ⟨rfl, rfl⟩ | ⟨hne, hl⟩
      · rcases set_get hi h2 with ⟨_, rfl⟩ | ⟨hne, _⟩
        · cases j with
          | zero =>
            simp at hy; subst hy
            cases j' with
            | zero => rfl
            | succ j' => rw [List.getElem?_cons_succ] at hy'; exact absurd e.symm (hn hi hy')
          | succ j =>
            rw [List.getElem?_cons_succ] at hy
            cases j' with
            | zero => simp at hy'; subst hy'; exact absurd e (hn hi hy)
            | succ j' => rw [List.getElem?_cons_succ] at hy'; rw [h.uniq hi hy hi hy' e]
        · exact absurd rfl hne
      · rcases set_get hi h2 with ⟨e', _⟩ | ⟨_, hl'⟩
        · exact absurd e' hne
        · exact h.uniq hl hy hl' hy' e
end
end Go.Proofs.Ytbjmmfoklnhiiaa
