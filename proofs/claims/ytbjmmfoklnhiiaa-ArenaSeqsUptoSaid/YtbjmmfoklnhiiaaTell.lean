/- The plain law of the arena: what All, Peek, Next, List, Len tell; each call leaves an arena. Nothing here names the program. Conditions: none. -/
import Derived.Test.YtbjmmfoklnhiiaaRep4
namespace Go.Proofs.Ytbjmmfoklnhiiaa

/-- what the walk of All needs of a list -/
structure Told {α : Type} (s : ASt α) (l e : Int) (xs : List (Nat × α)) : Prop where
  pn : s.peekN l e = max (nodeAt xs 0) 0
  pb : s.peekB l e = decide (0 < xs.length)
  step : ∀ {k : Nat} {x : Nat × α}, xs[k]? = some x → x.1 < s.made ∧ s.V x.1 = x.2 ∧ s.nextN x.1 (1 - e) = max (nodeAt xs (k + 1)) 0 ∧ s.nextB x.1 (1 - e) = decide (k + 1 < xs.length)
  ends : 0 < xs.length → e = 0 ∨ e = 1
  short : xs.length ≤ s.made


section
variable {α : Type} {s : ASt α} {A : Ab α}

theorem Rep.isB_iff (h : Rep s A) (l e : Int) : s.isB l e = true ↔ (0 ≤ l ∧ l.toNat < A.L.length ∧ (e = 0 ∨ e = 1)) := by
  have := h.ch.len
  simp only [ASt.isB, isEndB, Bool.and_eq_true, decide_eq_true_eq]
  omega
theorem tell_at {i : Nat} {l : List (Nat × α)} (hi : A.L[i]? = some l) : A.tell i 0 = l ∧ A.tell i 1 = l.reverse := by
  unfold Ab.tell
  simp [hi]
theorem tell_nil {l e : Int} (h : ¬ (0 ≤ l ∧ l.toNat < A.L.length ∧ (e = 0 ∨ e = 1))) : A.tell l e = [] := by
  unfold Ab.tell
  by_cases h0 : 0 ≤ l
  · rw [if_pos h0]
    cases hx : A.L[l.toNat]? with
    | none => rfl
    | some x =>
      have := (List.getElem?_eq_some_iff.1 hx).1
      simp only
      rw [if_neg (by omega), if_neg (by omega)]
  · rw [if_neg h0]

theorem Rep.peek (h : Rep s A) {i : Nat} {l : List (Nat × α)} (hi : A.L[i]? = some l) (e : Int) (he : e = 0 ∨ e = 1) :
    s.peekN i e = max (nodeAt (A.tell i e) 0) 0 ∧ s.peekB i e = decide (0 < (A.tell i e).length) := by
  have hlt := (List.getElem?_eq_some_iff.1 hi).1
  have hb : s.isB i e = true := (h.isB_iff _ _).2 ⟨by omega, by rw [Int.toNat_natCast]; exact hlt, he⟩
  obtain ⟨g1, g2, g3⟩ := h.ch.lists hi
  obtain ⟨t0, t1⟩ := tell_at (A := A) hi
  unfold ASt.peekN ASt.peekB
  rw [if_pos hb, if_pos hb]
  rcases he with rfl | rfl
  · rw [show eB 0 = false from rfl, Int.toNat_natCast, g2, t0]
    refine ⟨rfl, ?_⟩
    by_cases h0 : 0 < l.length
    · rw [decide_eq_true h0, decide_eq_true (nodeAt_lt h0)]
    · rw [decide_eq_false h0, nodeAt_none (by omega)]; rfl
  · rw [show eB 1 = true from rfl, Int.toNat_natCast, g3, t1]
    by_cases h0 : 0 < l.length
    · obtain ⟨m, hm⟩ : ∃ m, l.length = m + 1 := ⟨l.length - 1, by omega⟩
      have e1 : nodeAt l.reverse 0 = nodeAt l m := by rw [nodeAt_reverse l h0, show l.length - 1 - 0 = m from by omega]
      rw [hm, nb_succ, e1, List.length_reverse, decide_eq_true (show 0 < l.length from h0), decide_eq_true (nodeAt_lt (by omega))]
      exact ⟨rfl, rfl⟩
    · have h00 : l.length = 0 := by omega
      have e2 : nodeAt l.reverse 0 = -1 := nodeAt_none (by rw [List.length_reverse]; omega)
      rw [h00, nb_zero, List.length_reverse, h00, e2]
      exact ⟨rfl, rfl⟩

theorem Rep.next (h : Rep s A) {i : Nat} {l : List (Nat × α)} {k : Nat} {x : Nat × α} (hi : A.L[i]? = some l) (hk : l[k]? = some x) :
    s.nextN x.1 1 = max (nodeAt l (k + 1)) 0 ∧ s.nextB x.1 1 = decide (k + 1 < l.length) ∧ s.nextN x.1 0 = max (nb l false k) 0 ∧ s.nextB x.1 0 = decide (0 < k) := by
  have hh := h.holds_ hi hk
  obtain ⟨g1, g2, g3, g4, g5⟩ := h.ch.nodes hi hk
  have hkl := (List.getElem?_eq_some_iff.1 hk).1
  unfold ASt.nextN ASt.nextB
  rw [if_pos ⟨hh, rfl⟩, if_pos ⟨hh, rfl⟩, if_pos ⟨hh, rfl⟩, if_pos ⟨hh, rfl⟩, show eB 0 = false from rfl, show eB 1 = true from rfl, Int.toNat_natCast, g4, g5, nb_true]
  refine ⟨rfl, ?_, rfl, ?_⟩
  · by_cases h0 : k + 1 < l.length
    · rw [decide_eq_true h0, decide_eq_true (nodeAt_lt h0)]
    · rw [decide_eq_false h0, nodeAt_none (by omega)]; rfl
  · cases k with
    | zero => rw [nb_zero]; rfl
    | succ k => rw [nb_succ, decide_eq_true (nodeAt_lt (by omega)), decide_eq_true (Nat.succ_pos k)]

theorem Rep.told (h : Rep s A) (l e : Int) : Told s l e (A.tell l e) := by
  by_cases hb : 0 ≤ l ∧ l.toNat < A.L.length ∧ (e = 0 ∨ e = 1)
  · obtain ⟨h0, h1, h2⟩ := hb
    obtain ⟨i, rfl⟩ := Int.eq_ofNat_of_zero_le h0
    rw [Int.toNat_natCast] at h1
    have hi : A.L[i]? = some A.L[i] := List.getElem?_eq_getElem h1
    obtain ⟨p1, p2⟩ := h.peek hi e h2
    obtain ⟨t0, t1⟩ := tell_at (A := A) hi
    have hshort : A.L[i].length ≤ s.made := by have := total_ge hi; have := h.count; have := h.made; omega
    refine ⟨p1, p2, ?_, fun _ => h2, ?_⟩
    · intro k x hk
      rcases h2 with rfl | rfl
      · rw [t0] at hk ⊢
        obtain ⟨g1, g2, _⟩ := h.ch.nodes hi hk
        obtain ⟨n1, n2, _⟩ := h.next hi hk
        exact ⟨g1, g2, n1, n2⟩
      · rw [t1] at hk ⊢
        have hkl : k < A.L[i].length := by have := (List.getElem?_eq_some_iff.1 hk).1; simpa using this
        rw [List.getElem?_reverse hkl] at hk
        obtain ⟨g1, g2, _⟩ := h.ch.nodes hi hk
        obtain ⟨_, _, n3, n4⟩ := h.next hi hk
        refine ⟨g1, g2, ?_, ?_⟩
        · rw [nodeAt_rev_next _ hkl]; exact n3
        · rw [List.length_reverse, show (1 : Int) - 1 = 0 from rfl, n4]
          congr 1
          exact propext ⟨fun _ => by omega, fun _ => by omega⟩
    · rcases h2 with rfl | rfl
      · rw [t0]; exact hshort
      · rw [t1, List.length_reverse]; exact hshort
  · have hf : s.isB l e = false := by
      cases hx : s.isB l e with
      | false => rfl
      | true => exact absurd ((h.isB_iff _ _).1 hx) hb
    rw [tell_nil hb]
    refine ⟨?_, ?_, fun hk => by simp at hk, fun h0 => absurd h0 (Nat.lt_irrefl 0), Nat.zero_le _⟩
    · unfold ASt.peekN; rw [hf]; rfl
    · unfold ASt.peekB; rw [hf]; rfl

theorem Rep.list (h : Rep s A) {i : Nat} {l : List (Nat × α)} {k : Nat} {x : Nat × α} (hi : A.L[i]? = some l) (hk : l[k]? = some x) : s.listN x.1 = i ∧ s.listB x.1 = true := by
  have hh := h.holds_ hi hk
  unfold ASt.listN ASt.listB
  rw [if_pos hh, hh, Int.toNat_natCast, (h.ch.nodes hi hk).2.2.1]
  exact ⟨rfl, rfl⟩
theorem Rep.len_ (h : Rep s A) {i : Nat} {l : List (Nat × α)} (hi : A.L[i]? = some l) : s.len i = l.length := by
  have hlt := (List.getElem?_eq_some_iff.1 hi).1
  unfold ASt.len
  rw [if_pos ⟨by omega, by rw [h.ch.len]; omega⟩, Int.toNat_natCast, (h.ch.lists hi).1]

/-! each call leaves an arena, of as many nodes and lists -/
def Ab.like (A B : Ab α) : Prop := B.most = A.most ∧ B.L.length = A.L.length

theorem Rep.push_ (h : Rep s A) (z v : α) (l e : Int) : ∃ B, Rep (s.push z l e v) B ∧ A.like B := by
  unfold ASt.push
  by_cases hp : s.pushE l e = 0
  · rw [if_pos hp]
    have hb : s.isB l e = true := by
      cases hx : s.isB l e with
      | true => rfl
      | false => unfold ASt.pushE at hp; rw [if_pos hx] at hp; cases hp
    have hu : ¬ s.used = s.most := by
      intro hu
      unfold ASt.pushE at hp; rw [if_neg (by rw [hb]; decide), if_pos hu] at hp; cases hp
    obtain ⟨h0, h1, h2⟩ := (h.isB_iff _ _).1 hb
    have hi : A.L[l.toNat]? = some A.L[l.toNat] := List.getElem?_eq_getElem h1
    cases hf : A.fr with
    | nil =>
      have hc := h.count
      have hm := h.most
      have hmm := h.mm
      have hus := h.used
      rw [hf, List.length_nil] at hc
      exact ⟨_, (h.push_new z v (eB e) hi hf (by omega)).2, rfl, List.length_set ..⟩
    | cons n t => exact ⟨_, (h.push_old z v (eB e) hi hf).2, rfl, List.length_set ..⟩
  · rw [if_neg hp]; exact ⟨A, h, rfl, rfl⟩
theorem Rep.unlink_ (h : Rep s A) (z : α) (n : Int) : ∃ B, Rep (s.unlink z n) B ∧ A.like B := by
  unfold ASt.unlink
  by_cases hp : s.holds n = 0
  · rw [if_pos hp]
    obtain ⟨i, l, k, x, hi, hk, rfl⟩ := h.at_ hp
    exact ⟨_, h.free z hi hk, rfl, List.length_set ..⟩
  · rw [if_neg hp]; exact ⟨A, h, rfl, rfl⟩
theorem Rep.pop_ (h : Rep s A) (z : α) (l e : Int) : ∃ B, Rep (s.pop z l e) B ∧ A.like B := by
  unfold ASt.pop
  by_cases hp : s.popE l e = 0
  · rw [if_pos hp]
    have hb : s.isB l e = true := by
      cases hx : s.isB l e with
      | true => rfl
      | false => unfold ASt.popE at hp; rw [if_pos hx] at hp; cases hp
    obtain ⟨h0, h1, h2⟩ := (h.isB_iff _ _).1 hb
    have hE : 0 ≤ s.E (eB e) l.toNat := by
      unfold ASt.popE at hp
      rw [if_neg (by rw [hb]; decide)] at hp
      by_cases hx : s.E (eB e) l.toNat < 0
      · rw [if_pos hx] at hp; cases hp
      · omega
    have hh := (h.bd.ends (eB e) (l := l.toNat) (by rw [h.ch.len]; exact h1)).2.2 hE
    obtain ⟨i, l', k, x, hi, hk, hx⟩ := h.at_ hh
    rw [hx, Int.toNat_natCast]
    exact ⟨_, h.free z hi hk, rfl, List.length_set ..⟩
  · rw [if_neg hp]; exact ⟨A, h, rfl, rfl⟩
theorem Rep.move_ (h : Rep s A) (n l e : Int) : ∃ B, Rep (s.move n l e) B ∧ A.like B := by
  unfold ASt.move
  by_cases hp : s.moveE n l e = 0
  · rw [if_pos hp]
    unfold ASt.moveE at hp
    by_cases hx : s.holds n = 1 ∨ s.isB l e = false
    · rw [if_pos hx] at hp; cases hp
    · rw [if_neg hx] at hp
      have hb : s.isB l e = true := by
        cases hy : s.isB l e with
        | true => rfl
        | false => exact absurd (.inr hy) hx
      obtain ⟨h0, h1, h2⟩ := (h.isB_iff _ _).1 hb
      obtain ⟨i, l', k, x, hi, hk, rfl⟩ := h.at_ hp
      rw [Int.toNat_natCast]
      have hlt2 : l.toNat < (A.L.set i (l'.eraseIdx k)).length := by rw [List.length_set]; exact h1
      have hi2 : (A.L.set i (l'.eraseIdx k))[l.toNat]? = some ((A.L.set i (l'.eraseIdx k))[l.toNat]'hlt2) := List.getElem?_eq_getElem hlt2
      exact ⟨_, h.move (eB e) hi hk hi2, rfl, (List.length_set ..).trans (List.length_set ..)⟩
  · rw [if_neg hp]; exact ⟨A, h, rfl, rfl⟩
theorem Rep.set_ (h : Rep s A) (n : Int) (v : α) : ∃ B, Rep (s.set n v) B ∧ A.like B := by
  unfold ASt.set
  by_cases hp : s.holds n = 0
  · rw [if_pos hp]
    obtain ⟨i, l, k, x, hi, hk, rfl⟩ := h.at_ hp
    rw [Int.toNat_natCast]
    exact ⟨_, h.set v hi hk, rfl, List.length_set ..⟩
  · rw [if_neg hp]; exact ⟨A, h, rfl, rfl⟩
end
end Go.Proofs.Ytbjmmfoklnhiiaa
