/- The plain law of the arena: each call keeps what the numbers say; what the walks need follows. Nothing here names the program. Conditions: none. -/
import Derived.Test.YtbjmmfoklnhiiaaRep
namespace Go.Proofs.Ytbjmmfoklnhiiaa

/-- the arena as lists: the nodes ever made, the lists from their fronts, the freed ones (the last one first) -/
structure Ab (α : Type) where
  most : Nat
  made : Nat
  L : List (List (Nat × α))
  fr : List Nat

def frAt (fr : List Nat) (k : Nat) : Int := match fr[k]? with | some n => n | none => -1
def total {α : Type} (L : List (List (Nat × α))) : Nat := (L.map List.length).sum

theorem total_set {α : Type} {L : List (List (Nat × α))} {i : Nat} {l : List (Nat × α)} (l' : List (Nat × α)) (hi : L[i]? = some l) : total (L.set i l') + l.length = total L + l'.length := by
  induction L generalizing i with
  | nil => simp at hi
  | cons a L ih =>
    cases i with
    | zero => simp at hi; subst hi; simp [total]; omega
    | succ i => simp at hi; have := ih hi; simp [total] at this ⊢; omega
theorem total_ge {α : Type} {L : List (List (Nat × α))} {i : Nat} {l : List (Nat × α)} (hi : L[i]? = some l) : l.length ≤ total L := by
  have := total_set [] hi
  simp at this; omega

structure Rep {α : Type} (s : ASt α) (A : Ab α) : Prop where
  ch : Chain s A.L
  most : s.most = A.most
  made : s.made = A.made
  mm : A.made ≤ A.most
  m22 : A.most ≤ 4194304
  l256 : A.L.length ≤ 256
  count : total A.L + A.fr.length = A.made
  used : s.used = total A.L
  freed : s.freed = frAt A.fr 0
  frnd : A.fr.Nodup
  frees : ∀ {k n : Nat}, A.fr[k]? = some n → n < s.made ∧ s.LS n = -1 ∧ s.B false n = frAt A.fr (k + 1)
  cover : ∀ {n : Nat}, n < s.made → n ∈ A.fr ∨ ∃ (i : Nat) (l : List (Nat × α)) (k : Nat) (x : Nat × α), A.L[i]? = some l ∧ l[k]? = some x ∧ x.1 = n

section
variable {α : Type} {s : ASt α} {A : Ab α} {L : List (List (Nat × α))}

/-- what is turned at a node that is in no list, the lists do not see -/
theorem Chain.other (h : Chain s L) (n : Nat) (hn : ∀ {i : Nat} {l : List (Nat × α)} {k : Nat} {x : Nat × α}, L[i]? = some l → l[k]? = some x → x.1 ≠ n) (s' : ASt α)
    (h1 : s'.L = s.L) (h2 : s.made ≤ s'.made) (h3 : s'.E = s.E) (h4 : s'.CN = s.CN) (h5 : ∀ m, m ≠ n → m < s.made → s'.V m = s.V m ∧ s'.LS m = s.LS m ∧ ∀ e, s'.B e m = s.B e m) : Chain s' L := by
  refine ⟨h1.trans h.len, fun hi => by rw [h3, h4]; exact h.lists hi, fun hi hk => ?_, h.uniq⟩
  obtain ⟨g1, g2, g3, g4, g5⟩ := h.nodes hi hk
  obtain ⟨k1, k2, k3⟩ := h5 _ (hn hi hk) g1
  exact ⟨by omega, by rw [k1]; exact g2, by rw [k2]; exact g3, by rw [k3]; exact g4, by rw [k3]; exact g5⟩

theorem nb_cases (l : List (Nat × α)) (e : Bool) (k : Nat) : nb l e k = -1 ∨ ∃ (j : Nat) (y : Nat × α), l[j]? = some y ∧ nb l e k = y.1 ∧ j ≠ k := by
  have key : ∀ j, j ≠ k → nodeAt l j = -1 ∨ ∃ (j : Nat) (y : Nat × α), l[j]? = some y ∧ nodeAt l j = y.1 ∧ j ≠ k := by
    intro j hj
    rcases Nat.lt_or_ge j l.length with h | h
    · exact .inr ⟨j, _, List.getElem?_eq_getElem h, nodeAt_some (List.getElem?_eq_getElem h), hj⟩
    · exact .inl (nodeAt_none h)
  cases e with
  | true =>
    rw [nb_true]
    rcases Nat.lt_or_ge (k + 1) l.length with h | h
    · exact .inr ⟨k + 1, _, List.getElem?_eq_getElem h, nodeAt_some (List.getElem?_eq_getElem h), by omega⟩
    · exact .inl (nodeAt_none h)
  | false =>
    cases k with
    | zero => exact .inl (nb_zero l)
    | succ k =>
      rw [nb_succ]
      rcases Nat.lt_or_ge k l.length with h | h
      · exact .inr ⟨k, _, List.getElem?_eq_getElem h, nodeAt_some (List.getElem?_eq_getElem h), by omega⟩
      · exact .inl (nodeAt_none h)
theorem Chain.end_ (h : Chain s L) {i : Nat} {l : List (Nat × α)} (hi : L[i]? = some l) (e : Bool) : s.E e i = -1 ∨ ∃ (j : Nat) (y : Nat × α), l[j]? = some y ∧ s.E e i = y.1 := by
  obtain ⟨_, g2, g3⟩ := h.lists hi
  cases e with
  | true =>
    rw [g3]
    rcases nb_cases l false l.length with h1 | ⟨j, y, h1, h2, _⟩
    · exact .inl h1
    · exact .inr ⟨j, y, h1, h2⟩
  | false =>
    rw [g2]
    rcases Nat.lt_or_ge 0 l.length with h | h
    · exact .inr ⟨0, _, List.getElem?_eq_getElem h, nodeAt_some (List.getElem?_eq_getElem h)⟩
    · exact .inl (nodeAt_none h)

theorem frAt_cases (fr : List Nat) (k : Nat) : frAt fr k = -1 ∨ ∃ n, fr[k]? = some n ∧ frAt fr k = n := by
  unfold frAt; cases h : fr[k]? with
  | none => exact .inl rfl
  | some n => exact .inr ⟨n, rfl, rfl⟩

/-- where a node is that holds asks for -/
theorem Rep.at_ (h : Rep s A) {n : Int} (hn : s.holds n = 0) : ∃ (i : Nat) (l : List (Nat × α)) (k : Nat) (x : Nat × α), A.L[i]? = some l ∧ l[k]? = some x ∧ n = x.1 := by
  unfold ASt.holds at hn
  split at hn
  · cases hn
  · next h1 =>
    split at hn
    · cases hn
    · next h2 =>
      rcases h.cover (n := n.toNat) (by omega) with h3 | ⟨i, l, k, x, h3, h4, h5⟩
      · obtain ⟨k, hk⟩ := List.getElem?_of_mem h3
        have := (h.frees hk).2.1
        omega
      · exact ⟨i, l, k, x, h3, h4, by omega⟩
theorem Rep.holds_ (h : Rep s A) {i : Nat} {l : List (Nat × α)} {k : Nat} {x : Nat × α} (hi : A.L[i]? = some l) (hk : l[k]? = some x) : s.holds x.1 = 0 := by
  obtain ⟨g1, g2, g3, _⟩ := h.ch.nodes hi hk
  have := h.mm
  have := h.made
  have := h.most
  unfold ASt.holds
  rw [if_neg (by omega), if_neg (by simp; omega)]

theorem Rep.bd (h : Rep s A) : s.Bd := by
  have hm := h.made
  have hM := h.most
  have hmm := h.mm
  have hm22 := h.m22
  have hcnt := h.count
  have hused := h.used
  refine ⟨by omega, by omega, by rw [h.ch.len]; exact h.l256, by omega, by omega, ?_, ?_, ?_, ?_, ?_, ?_, ?_, ?_, ?_, ?_, ?_⟩
  · intro n hn
    obtain ⟨i, l, k, x, hi, hk, rfl⟩ := h.at_ hn
    rw [Int.toNat_natCast, (h.ch.nodes hi hk).2.2.1, h.ch.len]
    have := (List.getElem?_eq_some_iff.1 hi).1; omega
  · intro n hn e
    obtain ⟨i, l, k, x, hi, hk, rfl⟩ := h.at_ hn
    rw [Int.toNat_natCast]
    have hb : s.B e x.1 = nb l e k := by obtain ⟨_, _, _, g4, g5⟩ := h.ch.nodes hi hk; cases e <;> assumption
    rw [hb]
    rcases nb_cases l e k with h1 | ⟨j, y, h1, h2, h3⟩
    · rw [h1]; omega
    · rw [h2]
      have := (h.ch.nodes hi h1).1
      refine ⟨by omega, by omega, fun e => h3 (h.ch.uniq hi h1 hi hk (by omega))⟩
  · intro n hn
    obtain ⟨i, l, k, x, hi, hk, rfl⟩ := h.at_ hn
    rw [Int.toNat_natCast, (h.ch.nodes hi hk).2.2.1, Int.toNat_natCast, (h.ch.lists hi).1]
    have := (List.getElem?_eq_some_iff.1 hk).1
    have := total_ge hi
    omega
  · intro n hn
    obtain ⟨i, l, k, x, hi, hk, rfl⟩ := h.at_ hn
    have := (List.getElem?_eq_some_iff.1 hk).1
    have := total_ge hi
    omega
  · intro e i hi
    rw [h.ch.len] at hi
    have hi' : A.L[i]? = some A.L[i] := List.getElem?_eq_getElem hi
    rcases h.ch.end_ hi' e with h1 | ⟨j, y, h1, h2⟩
    · rw [h1]; exact ⟨by omega, by omega, by omega⟩
    · rw [h2]
      have := (h.ch.nodes hi' h1).1
      exact ⟨by omega, by omega, fun _ => h.holds_ hi' h1⟩
  · intro i hi
    rw [h.ch.len] at hi
    have hi' : A.L[i]? = some A.L[i] := List.getElem?_eq_getElem hi
    rw [(h.ch.lists hi').1]
    have := total_ge hi'
    omega
  · rw [h.freed]
    rcases frAt_cases A.fr 0 with h1 | ⟨n, h1, h2⟩
    · rw [h1]; omega
    · rw [h2]; have := (h.frees h1).1; omega
  · rw [h.freed]
    rcases frAt_cases A.fr 0 with h1 | ⟨n, h1, h2⟩
    · rw [h1]; omega
    · rw [h2, Int.toNat_natCast]; have := (h.frees h1).2.1; omega
  · intro h1 h2
    have h3 : A.fr.length = 0 := by
      rcases Nat.eq_zero_or_pos A.fr.length with h4 | h4
      · exact h4
      · rw [h.freed] at h2
        unfold frAt at h2
        rw [List.getElem?_eq_getElem h4] at h2
        simp at h2; omega
    omega
  · intro n hn e i hi0
    obtain ⟨i0, l, k, x, hi, hk, rfl⟩ := h.at_ hn
    rw [Int.toNat_natCast]
    have hc := h.ch.cut hi hk
    have hlen := hc.len
    rw [cut_L] at hlen
    have hi' : (A.L.set i0 (l.eraseIdx k))[i]? = some (A.L.set i0 (l.eraseIdx k))[i] := List.getElem?_eq_getElem (by omega)
    rcases hc.end_ hi' e with h1 | ⟨j, y, h1, h2⟩
    · rw [h1]; exact ⟨by omega, by omega, by omega⟩
    · rw [h2]
      have h3 := (hc.nodes hi' h1).1
      rw [cut_made] at h3
      have h4 := (h.ch.cut_gone hi hk hi' h1).1
      exact ⟨by omega, by omega, by omega⟩
  · intro n hn i hi0
    obtain ⟨i0, l, k, x, hi, hk, rfl⟩ := h.at_ hn
    rw [Int.toNat_natCast]
    have hc := h.ch.cut hi hk
    have hlen := hc.len
    rw [cut_L] at hlen
    have hi' : (A.L.set i0 (l.eraseIdx k))[i]? = some (A.L.set i0 (l.eraseIdx k))[i] := List.getElem?_eq_getElem (by omega)
    rw [(hc.lists hi').1]
    have h1 := total_ge hi'
    have h2 := total_set (l.eraseIdx k) hi
    have h3 : (l.eraseIdx k).length ≤ l.length := by rw [List.length_eraseIdx]; split <;> omega
    omega
end
end Go.Proofs.Ytbjmmfoklnhiiaa
