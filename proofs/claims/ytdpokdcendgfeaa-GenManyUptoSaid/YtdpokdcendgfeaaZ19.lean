/- Several texts in one: The reference's look at plans, as functions on lists. Nothing here names the program. The reference's look at an event's rows, as functions on lists; it tells what the program's tells. Nothing here names the program. From the reference's look at an event's rows to the program's. Nothing here names the program. From the reference's look at an event to the program's. Nothing here names the program. From the program's look at an event's rows to the reference's. Nothing here names the program. From the program's look at an event to the reference's, and both ways. Nothing here names the program. The reference's look at events and plans tells what the program's tells. Nothing here names the program. Conditions: those of each. -/
import Derived.Test.YtdpokdcendgfeaaZ2
set_option linter.unusedSimpArgs false
set_option linter.unusedVariables false
set_option maxHeartbeats 40000000
namespace Go.Proofs.Ytdpokdcendgfeaa
def opR (P : Pl) (x : Ac) : Bool :=
 let q := fromV x.a 0 ((P.gh.length : Int) - 1) && fromV x.b 0 1
 let rest := decide (x.c = 0) && decide (x.d = 0)
 let none_ := decide (x.b = 0) && rest
 if x.k = 3 then none_ && fromV x.a 0 4194304
 else if x.k = 4 ∨ x.k = 21 then none_ && fromV x.a 0 ((P.vs.length : Int) - 1)
 else if x.k = 5 ∨ x.k = 25 then none_ && fromV x.a 0 ((P.ts.length : Int) - 1)
 else if x.k = 6 ∨ x.k = 9 ∨ x.k = 10 ∨ x.k = 18 then q && rest
 else if x.k = 7 ∨ x.k = 15 then q && rest && !ghV P.gh x.a
 else if x.k = 16 then q && rest && ghV P.gh x.a
 else if x.k = 13 ∨ x.k = 14 then (if q = false ∨ fromV x.c 0 ((P.gh.length : Int) - 1) = false ∨ fromV x.d 0 1 = false then false else if x.k = 13 then ghV P.gh x.a == ghV P.gh x.c else !ghV P.gh x.a && ghV P.gh x.c)
 else if x.k = 19 then none_ && fromV x.a (-1073741824) 1073741824
 else if x.k = 20 then none_ && fromV x.a 0 1
 else if x.k = 22 ∨ x.k = 24 then none_ && fromV x.a 0 ((P.gh.length : Int) - 1)
 else none_ && decide (x.a = 0)
theorem opR_eq (P : Pl) (x : Ac) : opR P x = numV P x := by
 unfold opR numV qV
 obtain ⟨k, a, b, c, d, n⟩ := x
 simp only
 by_cases h3 : k = 3
 · subst h3; simp [Bool.and_comm]
 by_cases h4 : k = 4 ∨ k = 21
 · rw [if_neg h3, if_pos h4, if_neg h3, if_pos h4, Bool.and_comm]
 by_cases h5 : k = 5 ∨ k = 25
 · rw [if_neg h3, if_neg h4, if_pos h5, if_neg h3, if_neg h4, if_pos h5, Bool.and_comm]
 by_cases h19 : k = 19
 · subst h19; simp [Bool.and_comm]
 by_cases h20 : k = 20
 · subst h20; simp [Bool.and_comm]
 by_cases h22 : k = 22 ∨ k = 24
 · rcases h22 with rfl | rfl <;> simp [Bool.and_comm]
 by_cases h6 : k = 6 ∨ k = 9 ∨ k = 10 ∨ k = 18
 · rcases h6 with rfl | rfl | rfl | rfl <;> simp [Bool.and_assoc]
 by_cases h7 : k = 7 ∨ k = 15
 · rcases h7 with rfl | rfl <;> (simp; cases ghV P.gh a <;> simp [Bool.and_assoc])
 by_cases h16 : k = 16
 · subst h16; simp; cases ghV P.gh a <;> simp [Bool.and_assoc]
 by_cases h13 : k = 13
 · subst h13; simp
 by_cases h14 : k = 14
 · subst h14; simp
 have hn : ¬ (k = 13 ∨ k = 14) := by omega
 rw [if_neg h3, if_neg h4, if_neg h5, if_neg h6, if_neg h7, if_neg h16, if_neg hn, if_neg h19, if_neg h20, if_neg h22, if_neg h3, if_neg h4, if_neg h5, if_neg h19, if_neg h20, if_neg h22, if_neg h6, if_neg h7, if_neg h16, if_neg h13, if_neg h14, Bool.and_comm]
/-- a number's, a bool's; 0: neither -/
def typeR (k : Int) : Int :=
 if k = 19 ∨ k = 21 ∨ k = 22 ∨ k = 23 ∨ k = 25 ∨ k = 26 ∨ k = 27 ∨ k = 28 ∨ k = 30 ∨ k = 31 ∨ k = 32 ∨ k = 33 then 3 else if k = 20 ∨ k = 24 ∨ k = 29 ∨ k = 34 ∨ k = 35 ∨ k = 36 ∨ k = 37 ∨ k = 38 then 4 else 0
theorem typeR_eq (k : Int) : typeR k = typeV k + 1 := by
 unfold typeR typeV
 by_cases h1 : k = 20 ∨ k = 24 ∨ k = 29 ∨ k = 34 ∨ k = 35 ∨ k = 36 ∨ k = 37 ∨ k = 38
 · rw [if_neg (by omega), if_pos h1, if_pos h1]; rfl
 · rw [if_neg h1, if_neg h1]
   by_cases h2 : 19 ≤ k ∧ k < 39
   · rw [if_pos (by omega), if_pos h2]; rfl
   · rw [if_neg (by omega), if_neg h2]; rfl
/-- what the kids of a kind must be -/
def kidsR (k : Int) : List Int :=
 if k = 2 ∨ k = 3 then [4, 1] else if k = 4 ∨ k = 28 then [3] else if k = 5 then [5, 3] else if k = 25 then [5]
 else if k = 26 ∨ k = 27 ∨ k = 30 ∨ k = 31 ∨ k = 32 ∨ k = 33 ∨ k = 35 ∨ k = 36 then [3, 3] else if k = 34 then [6, 6] else if k = 29 then [4] else if k = 37 ∨ k = 38 then [4, 4] else []
def wantR (k n : Int) : List Int := if k = 2 ∧ n = 3 then [4, 1, 1] else kidsR k
/-- may a kind stand there? -/
def standsR (k what : Int) : Bool :=
 if what = 0 ∨ what = 1 then decide (k = 1) else if what = 2 then decide (1 ≤ k) && decide (k ≤ 16) else if what = 5 then decide (k = 17) || decide (k = 18) else if what = 6 then decide (typeR k ≠ 0) else decide (typeR k = what)
/-- what is wanted, as the program names it -/
def whatV (w : Int) : Int := if w = 1 ∨ w = 0 then 1 else if w = 2 then 0 else if w = 3 then 2 else if w = 4 then 3 else if w = 6 then 4 else 5
theorem stands_may (k w : Int) (hw : w = 0 ∨ w = 1 ∨ w = 2 ∨ w = 3 ∨ w = 4 ∨ w = 5 ∨ w = 6) : standsR k w = mayV (whatV w) k := by
 unfold standsR mayV whatV
 rw [typeR_eq]
 have h0 : typeV k = -1 ∨ typeV k = 2 ∨ typeV k = 3 := by
   unfold typeV
   split
   · simp
   · split <;> simp
 rcases hw with rfl | rfl | rfl | rfl | rfl | rfl | rfl <;> simp
 · rcases h0 with h | h | h <;> simp [h]
 · rcases h0 with h | h | h <;> simp [h]
 · rcases h0 with h | h | h <;> simp [h]
theorem want_kids (k n : Int) : kidsV k n = (wantR k n).map whatV := by
 unfold kidsV wantR kidsR
 by_cases h2 : k = 2
 · subst h2
   by_cases h3 : n = 3 <;> simp [h3, whatV]
 · rw [if_neg h2, if_neg (show ¬ (k = 2 ∧ n = 3) from fun h => h2 h.1)]
   by_cases h3 : k = 3
   · rw [if_pos h3, if_pos (.inr h3)]; rfl
   · rw [if_neg h3, if_neg (show ¬ (k = 2 ∨ k = 3) from fun h => h.elim h2 h3)]
     by_cases h4 : k = 4 ∨ k = 28
     · rw [if_pos h4, if_pos h4]; rfl
     · rw [if_neg h4, if_neg h4]
       by_cases h5 : k = 5
       · rw [if_pos h5, if_pos h5]; rfl
       · rw [if_neg h5, if_neg h5]
         by_cases h25 : k = 25
         · rw [if_pos h25, if_pos h25]; rfl
         · rw [if_neg h25, if_neg h25]
           by_cases h26 : k = 26 ∨ k = 27 ∨ k = 30 ∨ k = 31 ∨ k = 32 ∨ k = 33 ∨ k = 35 ∨ k = 36
           · rw [if_pos h26, if_pos h26]; rfl
           · rw [if_neg h26, if_neg h26]
             by_cases h34 : k = 34
             · rw [if_pos h34, if_pos h34]; rfl
             · rw [if_neg h34, if_neg h34]
               by_cases h29 : k = 29
               · rw [if_pos h29, if_pos h29]; rfl
               · rw [if_neg h29, if_neg h29]
                 by_cases h37 : k = 37 ∨ k = 38
                 · rw [if_pos h37, if_pos h37]; rfl
                 · rw [if_neg h37, if_neg h37]; rfl
end Go.Proofs.Ytdpokdcendgfeaa
namespace Go.Proofs.Ytdpokdcendgfeaa
/-- a list that is filled from its end -/
def backL {α : Type} (g : Nat → List α → α) (len : Nat) : Nat → List α
 | 0 => []
 | k + 1 => g (len - (k + 1)) (backL g len k) :: backL g len k
section
variable {α : Type} {g : Nat → List α → α} {len : Nat}
theorem backL_length : ∀ k, (backL g len k).length = k
 | 0 => rfl
 | k + 1 => by simp [backL, backL_length k]
theorem backL_drop : ∀ (k i : Nat), i ≤ k → (backL g len k).drop i = backL g len (k - i)
 | k, 0, _ => rfl
 | 0, i + 1, h => by omega
 | k + 1, i + 1, h => by
   simp only [backL, List.drop_succ_cons]
   rw [backL_drop k i (by omega), Nat.add_sub_add_right]
theorem backL_get {at_ : Nat} (h : at_ < len) : (backL g len len)[at_]? = some (g at_ (backL g len (len - (at_ + 1)))) := by
 have h1 := backL_drop (g := g) (len := len) len at_ (by omega)
 have h2 : ((backL g len len).drop at_)[0]? = (backL g len len)[at_]? := by rw [List.getElem?_drop, Nat.add_zero]
 rw [← h2, h1]
 obtain ⟨m, hm⟩ : ∃ m, len - at_ = m + 1 := ⟨len - at_ - 1, by omega⟩
 rw [hm]
 have e1 : len - (m + 1) = at_ := by omega
 have e2 : len - (at_ + 1) = m := by omega
 simp only [backL, List.getElem?_cons_zero, e1, e2]
theorem backL_later {at_ j : Nat} (h : at_ < len) (hj : at_ < j) : (backL g len (len - (at_ + 1)))[j - (at_ + 1)]? = (backL g len len)[j]? := by
 rw [← backL_drop len (at_ + 1) (by omega), List.getElem?_drop]
 congr 1
 omega
end
/-- the m-th row behind, sister by sister -/
def chainE (E : Nat → Nat) : Nat → Nat → Nat
 | 0, n => n
 | m + 1, n => chainE E m (E n)
def kindL (l : List Ac) (j : Nat) : Int := (l[j]?.map Ac.k).getD 0
/-- a row's kids lie among the rows; its end is behind them -/
def TreeAt (l : List Ac) (E : Nat → Nat) (at_ : Nat) : Prop := ∃ x, l[at_]? = some x ∧ 0 ≤ x.n ∧ (∀ j, j < x.n.toNat → chainE E j (at_ + 1) < l.length) ∧ E at_ = chainE E x.n.toNat (at_ + 1)
/-- what is in the hand, behind a doing -/
def handR (P : Pl) (x : Ac) (h : Int) : Option Int :=
 if x.k = 9 ∧ h = 0 ∧ ghV P.gh x.a = true then some 2
 else if x.k = 9 ∧ h = 0 then some 1
 else if x.k = 11 ∧ h = 1 then some 3
 else if x.k = 10 ∧ ((h = 1 ∧ ghV P.gh x.a = false) ∨ (1 < h ∧ ghV P.gh x.a = true)) then some 0
 else if x.k = 12 ∧ 1 < h then some 0
 else if (9 ≤ x.k ∧ x.k ≤ 12) ∨ h ≠ 0 then none else some h
def blockR (P : Pl) (l : List Ac) (E : Nat → Nat) : Nat → Nat → Int → Bool
 | 0, _, h => decide (h = 0)
 | m + 1, next, h =>
   match l[next]? with
   | none => false
   | some x =>
     if standsR x.k 2 = false then false
     else if (x.k = 9 ∨ x.k = 10) ∧ fromV x.a 0 ((P.gh.length : Int) - 1) = false then false
     else match handR P x h with
       | none => false
       | some h' => blockR P l E m (E next) h'
def standsL (l : List Ac) (E : Nat → Nat) (at_ : Nat) : List Int → Nat → Bool
 | [], _ => true
 | w :: ws, next => standsR (kindL l next) w && (!decide (w = 6) || decide (typeR (kindL l next) = typeR (kindL l (at_ + 1)))) && standsL l E at_ ws (E next)
/-- is a row right by itself, with the kinds of its kids? -/
def rowR (P : Pl) (l : List Ac) (E : Nat → Nat) (at_ : Nat) (x : Ac) : Bool :=
 opR P x && (if x.k = 1 then blockR P l E x.n.toNat (at_ + 1) 0 else decide (x.n = ((wantR x.k x.n).length : Int)) && standsL l E at_ (wantR x.k x.n) (at_ + 1))
/-- what operands want, by what their kids want -/
def wantsR (W : Nat → Int) (E : Nat → Nat) (at_ : Nat) (x : Ac) : Int :=
 if x.k = 25 ∨ x.n = 0 then 1 else if x.n = 1 then W (at_ + 1) else max (W (at_ + 1)) (if x.k = 37 ∨ x.k = 38 then W (E (at_ + 1)) else W (E (at_ + 1)) + 1)
/-- a row is right, and wants no more than may be -/
def RowFit (P : Pl) (l : List Ac) (E : Nat → Nat) (W : Nat → Int) (at_ : Nat) : Prop := ∃ x, l[at_]? = some x ∧ 1 ≤ x.k ∧ x.k ≤ 38 ∧ rowR P l E at_ x = true ∧ (typeR x.k ≠ 0 → W at_ = wantsR W E at_ x ∧ W at_ ≤ 256)
section
variable {P : Pl} {l : List Ac} {E : Nat → Nat} {W : Nat → Int}
theorem chain_ge (hE : ∀ j, j < l.length → j < E j) : ∀ (m n : Nat), (∀ j, j < m → chainE E j n < l.length) → n + m ≤ chainE E m n
 | 0, n, _ => Nat.le_refl _
 | m + 1, n, h => by
   have h0 := h 0 (by omega)
   have h1 := hE n h0
   have h2 := chain_ge hE m (E n) (fun j hj => h (j + 1) (by omega))
   simp only [chainE]
   omega
theorem tree_lt (hT : ∀ j, j < l.length → TreeAt l E j) : ∀ k j, l.length - j ≤ k → j < l.length → j < E j
 | 0, j, hk, hj => by omega
 | k + 1, j, hk, hj => by
   obtain ⟨x, hx, h0, h1, h2⟩ := hT j hj
   have hge : ∀ (m n : Nat), j < n → (∀ i, i < m → chainE E i n < l.length) → n + m ≤ chainE E m n := by
     intro m
     induction m with
     | zero => intro n _ _; exact Nat.le_refl _
     | succ m ih =>
       intro n hn h
       have h3 := tree_lt hT k n (by have := h 0 (by omega); simp only [chainE] at this; omega) (h 0 (by omega))
       have h4 := ih (E n) (by omega) (fun i hi => h (i + 1) (by omega))
       simp only [chainE]
       omega
   have := hge x.n.toNat (j + 1) (by omega) h1
   omega
/-! from the reference's look to the program's -/
/-- what a row's kids want, as the program has it -/
def numR (E : Nat → Nat) (N : Nat → Int) (at_ : Nat) (x : Ac) : Int :=
 match wantR x.k x.n with
 | [] => 0
 | [_] => max 0 (N (at_ + 1))
 | [_, _] => max (max 0 (N (at_ + 1))) (if 19 ≤ x.k ∧ x.k ≠ 37 ∧ x.k ≠ 38 then N (E (at_ + 1)) + 1 else N (E (at_ + 1)))
 | _ => max (max (max 0 (N (at_ + 1))) (if 19 ≤ x.k ∧ x.k ≠ 37 ∧ x.k ≠ 38 then N (E (at_ + 1)) + 1 else N (E (at_ + 1)))) (N (E (E (at_ + 1))))
/-- a row as the program sees it -/
def Seen (P : Pl) (l : List Ac) (E : Nat → Nat) (N : Nat → Int) (f at_ : Nat) : Prop := ∀ what, mayV what (kindL l at_) = true → rowV P l f at_ what = some (E at_, N at_)
theorem kinds_len (k n : Int) : wantR k n = [] ∨ (∃ a, wantR k n = [a]) ∨ (∃ a b, wantR k n = [a, b]) ∨ (k = 2 ∧ wantR k n = [4, 1, 1]) := by
 unfold wantR kidsR
 by_cases h : k = 2 ∧ n = 3
 · rw [if_pos h]; exact .inr (.inr (.inr ⟨h.1, rfl⟩))
 · rw [if_neg h]
   (repeat' split) <;> simp
theorem stands_range {k w : Int} (h : standsR k w = true) (hw : w = 0 ∨ w = 1 ∨ w = 2 ∨ w = 3 ∨ w = 4 ∨ w = 5 ∨ w = 6) : mayV (whatV w) k = true := by rw [← stands_may k w hw]; exact h
theorem want_mem {k n w : Int} (h : w ∈ wantR k n) : w = 1 ∨ w = 3 ∨ w = 4 ∨ w = 5 ∨ w = 6 := by
 unfold wantR kidsR at h
 (repeat' split at h) <;> simp at h <;> omega
/-- the kids, one by one -/
theorem kids_seen {f at_ : Nat} {N : Nat → Int} {k n : Int} (hS : ∀ c, at_ < c → c < l.length → Seen P l E N f c) (hE : ∀ j, j < l.length → j < E j) (hin : ∀ j, j < (wantR k n).length → chainE E j (at_ + 1) < l.length) (hst : standsL l E at_ (wantR k n) (at_ + 1) = true) {x : Ac} (hxk : x.k = k) (hxn : x.n = n) :
   kidsLoop l (rowV P l f) k ((wantR k n).map whatV) 0 (at_ + 1) 0 0 = some (chainE E (wantR k n).length (at_ + 1), numR E N at_ x) := by
 subst hxk hxn
 unfold numR
 rcases kinds_len x.k x.n with hw | ⟨a, hw⟩ | ⟨a, b, hw⟩ | ⟨h2, hw⟩
 · rw [hw]; rfl
 · have ha := want_mem (k := x.k) (n := x.n) (w := a) (by rw [hw]; simp)
   rw [hw] at hst hin ⊢
   simp only [standsL, Bool.and_eq_true] at hst
   have h1 := hin 0 (by simp)
   simp only [chainE] at h1
   have hm := stands_range hst.1.1 (by omega)
   have h3 := hS (at_ + 1) (by omega) h1 _ hm
   simp only [List.map_cons, List.map_nil, kidsLoop]
   rw [if_neg (by omega), h3]
   simp [chainE]
 · have ha := want_mem (k := x.k) (n := x.n) (w := a) (by rw [hw]; simp)
   have hb := want_mem (k := x.k) (n := x.n) (w := b) (by rw [hw]; simp)
   rw [hw] at hst hin ⊢
   simp only [standsL, Bool.and_eq_true, Bool.or_eq_true, Bool.not_eq_true', decide_eq_true_eq, decide_eq_false_iff_not] at hst
   have h1 := hin 0 (by simp)
   have h2 := hin 1 (by simp)
   simp only [chainE] at h1 h2
   have hm := stands_range hst.1.1 (by omega)
   have h3 := hS (at_ + 1) (by omega) h1 _ hm
   have hgt := hE _ h1
   have h4 : rowV P l f (E (at_ + 1)) (if whatV b = 4 ∧ (1 : Nat) = 1 then typeV (kindL l (at_ + 1)) else whatV b) = some (E (E (at_ + 1)), N (E (at_ + 1))) := by
     refine hS _ (by omega) h2 _ ?_
     by_cases h6 : b = 6
     · have h7 : whatV b = 4 := by rw [h6]; rfl
       rw [if_pos ⟨h7, rfl⟩]
       have h8 : typeR (kindL l (E (at_ + 1))) = typeR (kindL l (at_ + 1)) := by
         rcases hst.2.1.2 with h9 | h9
         · exact absurd h6 h9
         · exact h9
       have h9 := hst.2.1.1
       rw [h6] at h9
       have h10 : typeR (kindL l (E (at_ + 1))) ≠ 0 := by unfold standsR at h9; simpa using h9
       rw [typeR_eq, typeR_eq] at h8
       have h11 : typeV (kindL l (E (at_ + 1))) = typeV (kindL l (at_ + 1)) := by omega
       rw [typeR_eq] at h10
       have h0 : typeV (kindL l (E (at_ + 1))) = -1 ∨ typeV (kindL l (E (at_ + 1))) = 2 ∨ typeV (kindL l (E (at_ + 1))) = 3 := by
         unfold typeV
         split
         · simp
         · split <;> simp
       rw [← h11]
       unfold mayV
       rcases h0 with h0 | h0 | h0
       · omega
       · rw [h0]; simp [h0]
       · rw [h0]; simp [h0]
     · have h7 : ¬ (whatV b = 4 ∧ (1 : Nat) = 1) := by
         rintro ⟨h7, _⟩
         rcases hb with rfl | rfl | rfl | rfl | rfl <;> simp [whatV] at h7 h6
       rw [if_neg h7]
       exact stands_range hst.2.1.1 (by omega)
   simp only [List.map_cons, List.map_nil, kidsLoop]
   rw [if_neg (by omega), h3]
   simp only
   have hk : (l[at_ + 1]?.map Ac.k).getD 0 = kindL l (at_ + 1) := rfl
   rw [hk]
   simp only [and_true, true_and] at h4 ⊢
   rw [h4]
   simp [chainE]
 · rw [hw] at hst hin ⊢
   simp only [standsL, Bool.and_eq_true, Bool.or_eq_true, Bool.not_eq_true', decide_eq_true_eq, decide_eq_false_iff_not] at hst
   have h1 := hin 0 (by simp)
   have h2' := hin 1 (by simp)
   have h3' := hin 2 (by simp)
   simp only [chainE] at h1 h2' h3'
   have hg1 := hE _ h1
   have hg2 := hE _ h2'
   have r1 := hS _ (by omega) h1 _ (stands_range hst.1.1 (by omega))
   have r2 := hS _ (by omega) h2' _ (stands_range hst.2.1.1 (by omega))
   have r3 := hS _ (by omega) h3' _ (stands_range hst.2.2.1.1 (by omega))
   simp only [show whatV 4 = 3 from rfl, show whatV 1 = 1 from rfl] at r1 r2 r3
   simp only [List.map_cons, List.map_nil, kidsLoop, show whatV 4 = 3 from rfl, show whatV 1 = 1 from rfl]
   rw [if_neg (by omega), r1]
   simp only
   rw [if_neg (by omega), r2]
   simp only
   rw [if_neg (by omega), r3]
   simp [chainE, h2]
end
end Go.Proofs.Ytdpokdcendgfeaa
namespace Go.Proofs.Ytdpokdcendgfeaa
section
variable {P : Pl} {l : List Ac} {E : Nat → Nat} {W : Nat → Int}
theorem hand_row {j : Nat} {x : Ac} (hT : TreeAt l E j) (hR : RowFit P l E W j) (hx : l[j]? = some x) (hk : 9 ≤ x.k ∧ x.k ≤ 12) : x.n = 0 ∧ numV P x = true ∧ E j = j + 1 := by
 obtain ⟨y, hy, h0, _, h2⟩ := hT
 obtain ⟨z, hz, _, _, h4, _⟩ := hR
 rw [hx] at hy hz
 injection hy with hy
 injection hz with hz
 subst hy hz
 unfold rowR at h4
 rw [opR_eq, Bool.and_eq_true, if_neg (by omega), Bool.and_eq_true, decide_eq_true_eq] at h4
 have hw : wantR x.k x.n = [] := by
   unfold wantR kidsR
   rw [if_neg (by omega), if_neg (by omega), if_neg (by omega), if_neg (by omega), if_neg (by omega), if_neg (by omega), if_neg (by omega), if_neg (by omega), if_neg (by omega)]
 rw [hw] at h4
 have hn : x.n = 0 := h4.2.1
 refine ⟨hn, h4.1, ?_⟩
 rw [h2, hn]
 rfl
theorem handR_cases {x : Ac} {h h' : Int} (e : handR P x h = some h') : (x.k = 9 ∧ h = 0 ∧ ((ghV P.gh x.a = true ∧ h' = 2) ∨ (ghV P.gh x.a = false ∧ h' = 1))) ∨ (x.k = 11 ∧ h = 1 ∧ h' = 3) ∨ (x.k = 10 ∧ h' = 0 ∧ ((h = 1 ∧ ghV P.gh x.a = false) ∨ (1 < h ∧ ghV P.gh x.a = true))) ∨ (x.k = 12 ∧ 1 < h ∧ h' = 0) ∨ (¬ (9 ≤ x.k ∧ x.k ≤ 12) ∧ h = 0 ∧ h' = 0) := by
 unfold handR at e
 split at e
 · next h1 => injection e with e; exact .inl ⟨h1.1, h1.2.1, .inl ⟨h1.2.2, e.symm⟩⟩
 · next h1 =>
   split at e
   · next h2 =>
     injection e with e
     refine .inl ⟨h2.1, h2.2, .inr ⟨?_, e.symm⟩⟩
     cases hg : ghV P.gh x.a with
     | false => rfl
     | true => exact absurd ⟨h2.1, h2.2, hg⟩ h1
   · split at e
     · next h3 => injection e with e; exact .inr (.inl ⟨h3.1, h3.2, e.symm⟩)
     · split at e
       · next h4 => injection e with e; exact .inr (.inr (.inl ⟨h4.1, e.symm, h4.2⟩))
       · split at e
         · next h5 => injection e with e; exact .inr (.inr (.inr (.inl ⟨h5.1, h5.2, e.symm⟩)))
         · split at e
           · cases e
           · next h6 =>
             injection e with e
             have h7 : h = 0 := by
               by_cases h8 : h = 0
               · exact h8
               · exact absurd (.inr h8) h6
             exact .inr (.inr (.inr (.inr ⟨fun h8 => h6 (.inl h8), h7, by rw [← e]; exact h7⟩)))
theorem blockR_step {m next : Nat} {h : Int} (hb : blockR P l E (m + 1) next h = true) : ∃ x h', l[next]? = some x ∧ standsR x.k 2 = true ∧ handR P x h = some h' ∧ blockR P l E m (E next) h' = true := by
 unfold blockR at hb
 cases hx : l[next]? with
 | none => rw [hx] at hb; cases hb
 | some x =>
   rw [hx] at hb
   simp only at hb
   split at hb
   · cases hb
   · next h1 =>
     split at hb
     · cases hb
     · cases hh : handR P x h with
       | none => rw [hh] at hb; cases hb
       | some h' =>
         rw [hh] at hb
         exact ⟨x, h', rfl, by simpa using h1, hh, hb⟩
/-- a block's kids, one by one -/
theorem block_seen {f at_ : Nat} {N : Nat → Int} (hS : ∀ c, at_ < c → c < l.length → Seen P l E N f c) (hT : ∀ c, c < l.length → TreeAt l E c) (hR : ∀ c, at_ < c → c < l.length → RowFit P l E W c) (hE : ∀ j, j < l.length → j < E j) :
   ∀ (k m next : Nat), m ≤ k → at_ < next → (∀ j, j < m → chainE E j next < l.length) → blockR P l E m next 0 = true → blockLoop P l (rowV P l f) m next = some (chainE E m next)
 | _, 0, next, _, _, _, _ => block_end
 | 0, m + 1, next, h, _, _, _ => by omega
 | k + 1, m + 1, next, hk, hgt, hin, hb => by
   have hlt : next < l.length := hin 0 (by omega)
   obtain ⟨x, h', hx, hst, hh, hb'⟩ := blockR_step hb
   rcases handR_cases hh with ⟨h9, _, hg⟩ | ⟨_, h0, _⟩ | ⟨_, _, h0⟩ | ⟨_, h0, _⟩ | ⟨hno, _, h0⟩
   · -- an RTake
     obtain ⟨n1, v1, E1⟩ := hand_row (hT next hlt) (hR next hgt hlt) hx (by omega)
     rw [E1] at hb'
     cases m with
     | zero =>
       simp only [blockR, decide_eq_true_eq] at hb'
       rcases hg with ⟨_, h2⟩ | ⟨_, h2⟩ <;> omega
     | succ m =>
       have hlt2 : next + 1 < l.length := by have := hin 1 (by omega); simp only [chainE, E1] at this; exact this
       obtain ⟨y, h2, hy, hsty, hhy, hb2⟩ := blockR_step hb'
       have hgood : ∀ (hky : 9 ≤ y.k ∧ y.k ≤ 12), y.n = 0 ∧ numV P y = true ∧ E (next + 1) = next + 1 + 1 := fun hky => hand_row (hT _ hlt2) (hR _ (by omega) hlt2) hy hky
       have fin2 : handV P l next = 2 → h2 = 0 → E (next + 1) = next + 1 + 1 → blockLoop P l (rowV P l f) (m + 1 + 1) next = some (chainE E (m + 1 + 1) next) := by
         intro hv h20 E2
         rw [E2, h20] at hb2
         rw [block_hand (x := x) (by omega) hx h9 (by omega) (by omega), hv]
         have := block_seen hS hT hR hE k m (next + 2) (by omega) (by omega) (fun j hj => by have := hin (j + 2) (by omega); simp only [chainE, E1, E2] at this; exact this) hb2
         rw [show m + 1 + 1 - 2 = m from by omega, this]
         simp only [chainE, E1, E2]
       rcases hg with ⟨g1, e1⟩ | ⟨g1, e1⟩
       · rcases handR_cases hhy with ⟨_, a, _⟩ | ⟨_, a, _⟩ | ⟨k10, a, ⟨b, _⟩ | ⟨_, b⟩⟩ | ⟨k12, _, a⟩ | ⟨_, a, _⟩
         · omega
         · omega
         · omega
         · obtain ⟨n2, v2, E2⟩ := hgood (by omega)
           refine fin2 ?_ a E2
           unfold handV
           simp only [hx, hy, n1, v1, n2, v2, k10, b, g1]
           simp
         · obtain ⟨n2, v2, E2⟩ := hgood (by omega)
           refine fin2 ?_ a E2
           unfold handV
           simp only [hx, hy, n1, v1, n2, v2, k12, g1]
           simp
         · omega
       · rcases handR_cases hhy with ⟨_, a, _⟩ | ⟨k11, _, a⟩ | ⟨k10, a, ⟨_, b⟩ | ⟨b, _⟩⟩ | ⟨k12, a, _⟩ | ⟨_, a, _⟩
         · omega
         · obtain ⟨n2, v2, E2⟩ := hgood (by omega)
           rw [E2, a] at hb2
           cases m with
           | zero => simp [blockR] at hb2
           | succ m =>
             have hlt3 : next + 1 + 1 < l.length := by have := hin 2 (by omega); simp only [chainE, E1, E2] at this; exact this
             obtain ⟨z, h3, hz, hstz, hhz, hb3⟩ := blockR_step hb2
             have fin3 : handV P l next = 3 → h3 = 0 → E (next + 1 + 1) = next + 1 + 1 + 1 → blockLoop P l (rowV P l f) (m + 1 + 1 + 1) next = some (chainE E (m + 1 + 1 + 1) next) := by
               intro hv h30 E3
               rw [E3, h30] at hb3
               rw [block_hand (x := x) (by omega) hx h9 (by omega) (by omega), hv]
               have := block_seen hS hT hR hE k m (next + 3) (by omega) (by omega) (fun j hj => by have := hin (j + 3) (by omega); simp only [chainE, E1, E2, E3] at this; exact this) hb3
               rw [show m + 1 + 1 + 1 - 3 = m from by omega, this]
               simp only [chainE, E1, E2, E3]
             rcases handR_cases hhz with ⟨_, c, _⟩ | ⟨_, c, _⟩ | ⟨c10, c, ⟨d, _⟩ | ⟨_, d⟩⟩ | ⟨c12, _, c⟩ | ⟨_, c, _⟩
             · omega
             · omega
             · omega
             · obtain ⟨n3, v3, E3⟩ := hand_row (hT _ hlt3) (hR _ (by omega) hlt3) hz (by omega)
               refine fin3 ?_ c E3
               have hz2 : l[next + 2]? = some z := hz
               unfold handV
               simp only [hx, hy, hz2, n1, v1, n2, v2, n3, v3, k11, c10, d, g1]
               simp
             · obtain ⟨n3, v3, E3⟩ := hand_row (hT _ hlt3) (hR _ (by omega) hlt3) hz (by omega)
               refine fin3 ?_ c E3
               have hz2 : l[next + 2]? = some z := hz
               unfold handV
               simp only [hx, hy, hz2, n1, v1, n2, v2, n3, v3, k11, c12, g1]
               simp
             · omega
         · obtain ⟨n2, v2, E2⟩ := hgood (by omega)
           refine fin2 ?_ a E2
           unfold handV
           simp only [hx, hy, n1, v1, n2, v2, k10, b, g1]
           simp
         · omega
         · omega
         · omega
   · omega
   · rcases h0 with ⟨h0, _⟩ | ⟨h0, _⟩ <;> omega
   · omega
   · subst h0
     have hm : mayV 0 (kindL l next) = true := by
       have := stands_range hst (by omega)
       unfold kindL
       rw [hx]
       exact this
     rw [block_row (x := x) (by omega) hx (by omega) (by omega) (hS next hgt hlt 0 hm), Nat.add_sub_cancel]
     have hE1 := hE next hlt
     rw [block_seen hS hT hR hE k m (E next) (by omega) (by omega) (fun j hj => hin (j + 1) (by omega)) hb']
     rfl
end
end Go.Proofs.Ytdpokdcendgfeaa
namespace Go.Proofs.Ytdpokdcendgfeaa
section
variable {P : Pl} {l : List Ac} {E : Nat → Nat} {W N : Nat → Int}
theorem typeR_range {k : Int} (h : typeR k ≠ 0) : 19 ≤ k ∧ k ≤ 38 := by
 unfold typeR at h
 by_cases h1 : k = 19 ∨ k = 21 ∨ k = 22 ∨ k = 23 ∨ k = 25 ∨ k = 26 ∨ k = 27 ∨ k = 28 ∨ k = 30 ∨ k = 31 ∨ k = 32 ∨ k = 33
 · omega
 · rw [if_neg h1] at h
   by_cases h2 : k = 20 ∨ k = 24 ∨ k = 29 ∨ k = 34 ∨ k = 35 ∨ k = 36 ∨ k = 37 ∨ k = 38
   · omega
   · rw [if_neg h2] at h
     exact absurd rfl h
theorem typeR_some {k : Int} (h : 19 ≤ k ∧ k ≤ 38) : typeR k ≠ 0 := by
 rw [typeR_eq]
 unfold typeV
 split
 · simp
 · rw [if_pos (by omega)]; simp
/-- a row as the program sees it, and what it wants -/
def Good (P : Pl) (l : List Ac) (E : Nat → Nat) (W N : Nat → Int) (f c : Nat) : Prop := Seen P l E N f c ∧ 0 ≤ N c ∧ N c ≤ 256 ∧ (kindL l c ≠ 1 → 1 ≤ N c) ∧ (typeR (kindL l c) ≠ 0 → N c = W c)
theorem kind_get {j : Nat} {x : Ac} (h : l[j]? = some x) : kindL l j = x.k := by unfold kindL; rw [h]; rfl
/-- an item wants one -/
theorem item_one (hN : ∀ c x, l[c]? = some x → N c = if x.k = 1 then 0 else max (numR E N c x) 1) {c : Nat} {x : Ac} (hx : l[c]? = some x) (hk : x.k = 17 ∨ x.k = 18) : N c = 1 := by
 rw [hN c x hx, if_neg (by omega)]
 have hw : wantR x.k x.n = [] := by
   unfold wantR kidsR
   rw [if_neg (by omega), if_neg (by omega), if_neg (by omega), if_neg (by omega), if_neg (by omega), if_neg (by omega), if_neg (by omega), if_neg (by omega), if_neg (by omega)]
 unfold numR
 rw [hw]
 rfl
theorem want_expr {k n : Int} (h : 19 ≤ k ∧ k ≤ 38) : (wantR k n = [] ∧ k ≠ 25) ∨ (k = 25 ∧ wantR k n = [5]) ∨ (k ≠ 25 ∧ ∃ a, wantR k n = [a] ∧ (a = 3 ∨ a = 4)) ∨ (k ≠ 25 ∧ ∃ a b, wantR k n = [a, b] ∧ (a = 3 ∨ a = 4 ∨ a = 6) ∧ (b = 3 ∨ b = 4 ∨ b = 6)) := by
 unfold wantR kidsR
 rw [if_neg (by omega), if_neg (by omega)]
 by_cases h4 : k = 4 ∨ k = 28
 · rw [if_pos h4]; exact .inr (.inr (.inl ⟨by omega, 3, rfl, .inl rfl⟩))
 rw [if_neg h4, if_neg (by omega)]
 by_cases h25 : k = 25
 · rw [if_pos h25]; exact .inr (.inl ⟨h25, rfl⟩)
 rw [if_neg h25]
 by_cases h26 : k = 26 ∨ k = 27 ∨ k = 30 ∨ k = 31 ∨ k = 32 ∨ k = 33 ∨ k = 35 ∨ k = 36
 · rw [if_pos h26]; exact .inr (.inr (.inr ⟨h25, 3, 3, rfl, .inl rfl, .inl rfl⟩))
 rw [if_neg h26]
 by_cases h34 : k = 34
 · rw [if_pos h34]; exact .inr (.inr (.inr ⟨h25, 6, 6, rfl, .inr (.inr rfl), .inr (.inr rfl)⟩))
 rw [if_neg h34]
 by_cases h29 : k = 29
 · rw [if_pos h29]; exact .inr (.inr (.inl ⟨h25, 4, rfl, .inr rfl⟩))
 rw [if_neg h29]
 by_cases h37 : k = 37 ∨ k = 38
 · rw [if_pos h37]; exact .inr (.inr (.inr ⟨h25, 4, 4, rfl, .inr (.inl rfl), .inr (.inl rfl)⟩))
 rw [if_neg h37]
 exact .inl ⟨rfl, h25⟩
theorem stands_type {k w : Int} (h : standsR k w = true) (hw : w = 3 ∨ w = 4 ∨ w = 6) : typeR k ≠ 0 := by
 unfold standsR at h
 rcases hw with rfl | rfl | rfl <;> simp at h <;> omega
/-- what a row wants, both ways -/
theorem wants_same (hN : ∀ c x, l[c]? = some x → N c = if x.k = 1 then 0 else max (numR E N c x) 1) {f c : Nat} {x : Ac} (hI : ∀ j, c < j → j < l.length → Good P l E W N f j) (hE : ∀ j, j < l.length → j < E j)
   (hin : ∀ j, j < (wantR x.k x.n).length → chainE E j (c + 1) < l.length) (hn : x.n = ((wantR x.k x.n).length : Int)) (hst : standsL l E c (wantR x.k x.n) (c + 1) = true) (hk : 1 ≤ x.k ∧ x.k ≤ 38) (hk1 : x.k ≠ 1) (hW : typeR x.k ≠ 0 → W c = wantsR W E c x ∧ W c ≤ 256) :
   max (numR E N c x) 1 ≤ 256 ∧ numR E N c x ≤ 256 ∧ (typeR x.k ≠ 0 → max (numR E N c x) 1 = W c) := by
 by_cases ht : typeR x.k = 0
 · have hk18 : x.k ≤ 18 := by
     by_cases h : 19 ≤ x.k
     · exact absurd ht (typeR_some ⟨h, hk.2⟩)
     · omega
   have hle : numR E N c x ≤ 256 := by
     unfold numR
     rcases kinds_len x.k x.n with hw | ⟨a, hw⟩ | ⟨a, b, hw⟩ | ⟨_, hw⟩
     · rw [hw]; simp
     · rw [hw] at hin ⊢
       have h1 := hin 0 (by simp)
       simp only [chainE] at h1
       have := (hI _ (by omega) h1).2.2.1
       simp only
       omega
     · rw [hw] at hin ⊢
       have h1 := hin 0 (by simp)
       have h2 := hin 1 (by simp)
       simp only [chainE] at h1 h2
       have g1 := hE _ h1
       have := (hI _ (by omega) h1).2.2.1
       have := (hI _ (by omega) h2).2.2.1
       simp only
       rw [if_neg (by omega)]
       omega
     · rw [hw] at hin ⊢
       have h1 := hin 0 (by simp)
       have h2 := hin 1 (by simp)
       have h3 := hin 2 (by simp)
       simp only [chainE] at h1 h2 h3
       have g1 := hE _ h1
       have g2 := hE _ h2
       have := (hI _ (by omega) h1).2.2.1
       have := (hI _ (by omega) h2).2.2.1
       have := (hI _ (by omega) h3).2.2.1
       simp only
       rw [if_neg (by omega)]
       omega
   exact ⟨by omega, hle, fun h => absurd ht h⟩
 · obtain ⟨hWe, hWl⟩ := hW ht
   have hr := typeR_range ht
   have hkey : max (numR E N c x) 1 = W c := by
     rw [hWe]
     rcases want_expr (n := x.n) hr with ⟨hw, h25⟩ | ⟨h25, hw⟩ | ⟨h25, a, hw, ha⟩ | ⟨h25, a, b, hw, ha, hb⟩
     · rw [hw] at hn
       have hnv : numR E N c x = 0 := by unfold numR; rw [hw]
       have hwv : wantsR W E c x = 1 := by unfold wantsR; exact if_pos (.inr (by simpa using hn))
       rw [hnv, hwv]
       rfl
     · rw [hw] at hin hst
       have h1 := hin 0 (by simp)
       simp only [chainE] at h1
       simp only [standsL, Bool.and_eq_true] at hst
       have h2 := hst.1.1
       obtain ⟨y, hy⟩ : ∃ y, l[c + 1]? = some y := ⟨_, List.getElem?_eq_getElem h1⟩
       rw [kind_get hy] at h2
       have h3 : y.k = 17 ∨ y.k = 18 := by unfold standsR at h2; simpa using h2
       have h4 := item_one hN hy h3
       have hnv : numR E N c x = max 0 (N (c + 1)) := by unfold numR; rw [hw]
       have hwv : wantsR W E c x = 1 := by unfold wantsR; exact if_pos (.inl h25)
       rw [hnv, hwv, h4]
       rfl
     · rw [hw] at hin hst hn
       have h1 := hin 0 (by simp)
       simp only [chainE] at h1
       simp only [standsL, Bool.and_eq_true] at hst
       have h2 := stands_type hst.1.1 (by omega)
       obtain ⟨_, g0, _, g1, g2⟩ := hI _ (by omega) h1
       have g3 := g2 h2
       have g4 : 1 ≤ N (c + 1) := g1 (fun e => by have := typeR_range h2; omega)
       have hn1 : x.n = 1 := by simpa using hn
       have hnv : numR E N c x = max 0 (N (c + 1)) := by unfold numR; rw [hw]
       have hwv : wantsR W E c x = W (c + 1) := by unfold wantsR; rw [if_neg (by omega), if_pos hn1]
       rw [hnv, hwv]
       omega
     · rw [hw] at hin hst hn
       have h1 := hin 0 (by simp)
       have h1b := hin 1 (by simp)
       simp only [chainE] at h1 h1b
       have gE := hE _ h1
       simp only [standsL, Bool.and_eq_true] at hst
       have h2 := stands_type hst.1.1 (by omega)
       have h3 := stands_type hst.2.1.1 (by omega)
       obtain ⟨_, g0, _, g1, g2⟩ := hI _ (by omega) h1
       obtain ⟨_, k0, _, k1, k2⟩ := hI _ (by omega) h1b
       have g3 := g2 h2
       have k3 := k2 h3
       have g4 : 1 ≤ N (c + 1) := g1 (fun e => by have := typeR_range h2; omega)
       have hn1 : x.n = 2 := by simpa using hn
       have hnv : numR E N c x = max (max 0 (N (c + 1))) (if 19 ≤ x.k ∧ x.k ≠ 37 ∧ x.k ≠ 38 then N (E (c + 1)) + 1 else N (E (c + 1))) := by unfold numR; rw [hw]
       have hwv : wantsR W E c x = max (W (c + 1)) (if x.k = 37 ∨ x.k = 38 then W (E (c + 1)) else W (E (c + 1)) + 1) := by unfold wantsR; rw [if_neg (by omega), if_neg (by omega)]
       rw [hnv, hwv]
       by_cases h37 : x.k = 37 ∨ x.k = 38
       · rw [if_pos h37, if_neg (show ¬ (19 ≤ x.k ∧ x.k ≠ 37 ∧ x.k ≠ 38) by omega)]
         omega
       · rw [if_neg h37, if_pos (show 19 ≤ x.k ∧ x.k ≠ 37 ∧ x.k ≠ 38 by omega)]
         omega
   exact ⟨by omega, by omega, fun _ => hkey⟩
/-- every row -/
theorem good_all (hT : ∀ c, c < l.length → TreeAt l E c) (hR : ∀ c, c < l.length → RowFit P l E W c) (hN : ∀ c x, l[c]? = some x → N c = if x.k = 1 then 0 else max (numR E N c x) 1) :
   ∀ (k c : Nat), c < l.length → l.length - c ≤ k → Good P l E W N k c
 | 0, c, h1, h2 => by omega
 | k + 1, c, hc, hk => by
   have hE := fun j hj => tree_lt hT l.length j (by omega) hj
   have hI : ∀ j, c < j → j < l.length → Good P l E W N k j := fun j h1 h2 => good_all hT hR hN k j h2 (by omega)
   obtain ⟨x, hx, n0, hch, hEc⟩ := hT c hc
   obtain ⟨x', hx', r1, r2, r3, r4⟩ := hR c hc
   rw [hx] at hx'
   injection hx' with hx'
   subst hx'
   have hkc := kind_get hx
   unfold rowR at r3
   rw [opR_eq, Bool.and_eq_true] at r3
   obtain ⟨hv, r3⟩ := r3
   by_cases hk1 : x.k = 1
   · rw [if_pos hk1] at r3
     have hNc : N c = 0 := by rw [hN c x hx, if_pos hk1]
     refine ⟨fun what hm => ?_, by omega, by omega, fun h => absurd (hkc.trans hk1) h, fun h => ?_⟩
     · rw [hkc] at hm
       have hb := block_seen (fun c' a b => (hI c' a b).1) hT (fun c' a b => hR c' b) hE x.n.toNat x.n.toNat (c + 1) (Nat.le_refl _) (by omega) hch r3
       unfold rowV
       rw [hx]
       simp only [hm, hv, Bool.and_self, if_true]
       rw [if_pos hk1, if_neg (by omega), hb, hNc, hEc]
       rfl
     · rw [hkc] at h
       have := typeR_range h
       omega
   · rw [if_neg hk1, Bool.and_eq_true, decide_eq_true_eq] at r3
     obtain ⟨hn, hst⟩ := r3
     have hnn : x.n.toNat = (wantR x.k x.n).length := by omega
     rw [hnn] at hch hEc
     obtain ⟨w1, w2, w3⟩ := wants_same hN hI hE hch hn hst ⟨r1, r2⟩ hk1 r4
     have hNc : N c = max (numR E N c x) 1 := by rw [hN c x hx, if_neg hk1]
     have hks := kids_seen (k := x.k) (n := x.n) (fun c' a b => (hI c' a b).1) hE hch hst (x := x) rfl rfl
     refine ⟨fun what hm => ?_, by omega, by omega, fun _ => by omega, fun h => ?_⟩
     · rw [hkc] at hm
       unfold rowV
       rw [hx]
       simp only [hm, hv, Bool.and_self, if_true]
       rw [if_neg hk1, want_kids, List.length_map, if_neg (by simpa using hn), hks]
       simp only
       rw [if_pos w2, hNc, hEc]
     · rw [hkc] at h
       rw [hNc]
       exact w3 h
end
end Go.Proofs.Ytdpokdcendgfeaa
namespace Go.Proofs.Ytdpokdcendgfeaa
section
variable {P : Pl} {l : List Ac} {E : Nat → Nat} {W : Nat → Int}
theorem rowV_may {f i : Nat} {what : Int} {r : Nat × Int} (h : rowV P l f i what = some r) : ∃ x, l[i]? = some x ∧ mayV what x.k = true ∧ numV P x = true := by
 cases f with
 | zero => simp [rowV] at h
 | succ f =>
   unfold rowV at h
   cases hx : l[i]? with
   | none => simp [hx] at h
   | some x =>
     simp only [hx] at h
     split at h
     · next hg => simp only [Bool.and_eq_true] at hg; exact ⟨x, rfl, hg.1, hg.2⟩
     · cases h
theorem kids_inv {row : Nat → Int → Option (Nat × Int)} {k w : Int} {ws : List Int} {j i : Nat} {kind wants : Int} {r : Nat × Int} (h : kidsLoop l row k (w :: ws) j i kind wants = some r) :
   ∃ e n, row i (if w = 4 ∧ j = 1 then typeV kind else w) = some (e, n) ∧ kidsLoop l row k ws (j + 1) e (kindL l i) (max wants (if j = 1 ∧ 19 ≤ k ∧ k ≠ 37 ∧ k ≠ 38 then n + 1 else n)) = some r := by
 simp only [kidsLoop] at h
 cases hr : row i (if w = 4 ∧ j = 1 then typeV kind else w) with
 | none => rw [hr] at h; cases h
 | some en =>
   obtain ⟨e, n⟩ := en
   rw [hr] at h
   exact ⟨e, n, rfl, h⟩
theorem handV_inv {i : Nat} {x : Ac} (hx : l[i]? = some x) (h : handV P l i ≠ 0) : x.n = 0 ∧ numV P x = true ∧ ∃ y, l[i + 1]? = some y ∧ y.n = 0 ∧ numV P y = true ∧
   ((handV P l i = 2 ∧ ((y.k = 10 ∧ ghV P.gh y.a = ghV P.gh x.a) ∨ (y.k = 12 ∧ ghV P.gh x.a = true))) ∨
    (handV P l i = 3 ∧ y.k = 11 ∧ ghV P.gh x.a = false ∧ ∃ z, l[i + 2]? = some z ∧ z.n = 0 ∧ numV P z = true ∧ (z.k = 12 ∨ (z.k = 10 ∧ ghV P.gh z.a = true)))) := by
 unfold handV at h ⊢
 simp only [hx] at h ⊢
 cases h1 : l[i + 1]? with
 | none => simp [h1] at h
 | some y =>
   simp only [h1] at h ⊢
   split at h
   · next hg =>
     rw [if_pos hg]
     simp only [Bool.and_eq_true, decide_eq_true_eq] at hg
     obtain ⟨⟨g1, g2⟩, g3, g4⟩ := hg
     refine ⟨g1, g2, y, rfl, g3, g4, ?_⟩
     split at h
     · next h2 =>
       rw [if_pos h2]
       simp only [Bool.or_eq_true, Bool.and_eq_true, decide_eq_true_eq, beq_iff_eq] at h2
       exact .inl ⟨rfl, h2⟩
     · next h2 =>
       rw [if_neg h2]
       split at h
       · exact absurd rfl h
       · next h3 =>
         rw [if_neg h3]
         have h3a : y.k = 11 := by
           by_cases h9 : y.k = 11
           · exact h9
           · exact absurd (.inl h9) h3
         have h3b : ghV P.gh x.a = false := by
           cases h9 : ghV P.gh x.a with
           | false => rfl
           | true => exact absurd (.inr h9) h3
         cases h4 : l[i + 2]? with
         | none => simp [h4] at h
         | some z =>
           simp only [h4] at h ⊢
           split at h
           · next h5 =>
             rw [if_pos h5]
             simp only [Bool.or_eq_true, Bool.and_eq_true, decide_eq_true_eq] at h5
             exact .inr ⟨rfl, h3a, h3b, z, rfl, h5.1.1, h5.1.2, h5.2⟩
           · exact absurd rfl h
   · exact absurd rfl h
theorem num_q {x : Ac} (h : numV P x = true) (hk : x.k = 9 ∨ x.k = 10) : fromV x.a 0 ((P.gh.length : Int) - 1) = true := by
 rw [← opR_eq] at h
 unfold opR at h
 rw [if_neg (by omega), if_neg (by omega), if_neg (by omega), if_pos (by omega)] at h
 simp only [Bool.and_eq_true] at h
 exact h.1.1
/-- a row, but for what it wants -/
def RowIs (P : Pl) (l : List Ac) (E : Nat → Nat) (c : Nat) : Prop := TreeAt l E c ∧ ∃ x, l[c]? = some x ∧ 1 ≤ x.k ∧ x.k ≤ 38 ∧ rowR P l E c x = true
theorem hand_is (hE1 : ∀ j x, l[j]? = some x → x.n = 0 → E j = j + 1) {j : Nat} {x : Ac} (hx : l[j]? = some x) (hn : x.n = 0) (hv : numV P x = true) (hk : 9 ≤ x.k ∧ x.k ≤ 12) : RowIs P l E j := by
 refine ⟨⟨x, hx, by omega, fun j hj => by rw [hn] at hj; simp at hj, by rw [hE1 j x hx hn, hn]; rfl⟩, x, hx, by omega, by omega, ?_⟩
 have hw : wantR x.k x.n = [] := by
   unfold wantR kidsR
   rw [if_neg (by omega), if_neg (by omega), if_neg (by omega), if_neg (by omega), if_neg (by omega), if_neg (by omega), if_neg (by omega), if_neg (by omega), if_neg (by omega)]
 unfold rowR
 rw [opR_eq, hv, if_neg (by omega), hw, hn]
 rfl
theorem blockR_go {m next : Nat} {h h' : Int} {x : Ac} (hx : l[next]? = some x) (hs : 1 ≤ x.k ∧ x.k ≤ 16) (hq : x.k = 9 ∨ x.k = 10 → fromV x.a 0 ((P.gh.length : Int) - 1) = true) (hh : handR P x h = some h') : blockR P l E (m + 1) next h = blockR P l E m (E next) h' := by
 unfold blockR
 rw [hx]
 simp only
 have h1 : standsR x.k 2 = true := by unfold standsR; simp [hs.1, hs.2]
 rw [h1, if_neg (by simp), if_neg (by rintro ⟨a, b⟩; rw [hq a] at b; cases b), hh]
 cases m <;> rfl
/-- a block's kids, back -/
theorem v_block {f : Nat} {Q : Nat → Prop} (hrow : ∀ i e n, rowV P l f i 0 = some (e, n) → E i = e ∧ i < e ∧ e ≤ l.length ∧ ∀ j, i ≤ j → j < e → Q j) (hq : ∀ j x, l[j]? = some x → x.n = 0 → numV P x = true → 9 ≤ x.k ∧ x.k ≤ 12 → Q j) (hE1 : ∀ j x, l[j]? = some x → x.n = 0 → E j = j + 1) :
   ∀ (k m next e : Nat), m ≤ k → next ≤ l.length → blockLoop P l (rowV P l f) m next = some e → blockR P l E m next 0 = true ∧ (∀ j, j < m → chainE E j next < l.length) ∧ chainE E m next = e ∧ next ≤ e ∧ e ≤ l.length ∧ ∀ j, next ≤ j → j < e → Q j
 | _, 0, next, e, _, hn, h => by
   rw [block_end] at h
   injection h with h
   subst h
   exact ⟨by simp [blockR], fun j hj => by omega, rfl, Nat.le_refl _, hn, fun j a b => by omega⟩
 | 0, m + 1, next, e, h, _, _ => by omega
 | k + 1, m + 1, next, e, hk, hn, h => by
   cases hx : l[next]? with
   | none => rw [block_out (by omega) hx] at h; cases h
   | some x =>
     have hlt := (List.getElem?_eq_some_iff.1 hx).1
     by_cases h9 : x.k = 9
     · by_cases hh : handV P l next = 0 ∨ m + 1 < handV P l next
       · rw [block_nohand (by omega) hx h9 hh] at h; cases h
       · have hh0 : handV P l next ≠ 0 := fun e => hh (.inl e)
         have hhm : handV P l next ≤ m + 1 := by
           by_cases h8 : handV P l next ≤ m + 1
           · exact h8
           · exact absurd (.inr (by omega)) hh
         rw [block_hand (by omega) hx h9 hh0 hhm] at h
         obtain ⟨n1, v1, y, hy, n2, v2, hcase⟩ := handV_inv hx hh0
         have E1 := hE1 next x hx n1
         have E2 := hE1 (next + 1) y hy n2
         have hly := (List.getElem?_eq_some_iff.1 hy).1
         have R1 := hq next x hx n1 v1 (by omega)
         have hx2 := handR P x 0
         rcases hcase with ⟨hv, hc⟩ | ⟨hv, k11, g1, z, hz, n3, v3, hc⟩
         · rw [hv] at h hhm
           obtain ⟨m', rfl⟩ : ∃ m', m = m' + 1 := ⟨m - 1, by omega⟩
           have R2 : Q (next + 1) := hq (next + 1) y hy n2 v2 (by rcases hc with hc | hc <;> omega)
           obtain ⟨b1, b2, b3, b4, b5, b6⟩ := v_block hrow hq hE1 k (m' + 1 + 1 - 2) (next + 2) e (by omega) (by omega) h
           rw [show m' + 1 + 1 - 2 = m' from by omega] at b1 b2 b3
           have hb : blockR P l E (m' + 1 + 1) next 0 = true := by
             cases hg : ghV P.gh x.a with
             | true =>
               rw [blockR_go (h' := 2) hx (by omega) (fun _ => num_q v1 (by omega)) (by unfold handR; rw [if_pos ⟨h9, rfl, hg⟩]), E1]
               rw [blockR_go (h' := 0) hy (by rcases hc with hc | hc <;> omega) (fun h8 => num_q v2 h8) ?_, E2]
               · exact b1
               · unfold handR
                 rcases hc with ⟨c1, c2⟩ | ⟨c1, _⟩
                 · rw [if_neg (by omega), if_neg (by omega), if_neg (by omega), if_pos ⟨c1, .inr ⟨by decide, by rw [c2]; exact hg⟩⟩]
                 · rw [if_neg (by omega), if_neg (by omega), if_neg (by omega), if_neg (by omega), if_pos ⟨c1, by decide⟩]
             | false =>
               rw [blockR_go (h' := 1) hx (by omega) (fun _ => num_q v1 (by omega)) (by unfold handR; rw [if_neg (by rw [hg]; simp), if_pos ⟨h9, rfl⟩]), E1]
               rw [blockR_go (h' := 0) hy (by rcases hc with hc | hc <;> omega) (fun h8 => num_q v2 h8) ?_, E2]
               · exact b1
               · unfold handR
                 rcases hc with ⟨c1, c2⟩ | ⟨_, c2⟩
                 · rw [if_neg (by omega), if_neg (by omega), if_neg (by omega), if_pos ⟨c1, .inl ⟨rfl, by rw [c2]; exact hg⟩⟩]
                 · rw [hg] at c2; cases c2
           refine ⟨hb, fun j hj => ?_, by simp only [chainE, E1, E2]; exact b3, by omega, b5, fun j a b => ?_⟩
           · match j with
             | 0 => exact hlt
             | 1 => simp only [chainE, E1]; exact hly
             | j + 2 => simp only [chainE, E1, E2]; exact b2 j (by omega)
           · by_cases hj : j = next
             · rw [hj]; exact R1
             · by_cases hj2 : j = next + 1
               · rw [hj2]; exact R2
               · exact b6 j (by omega) b
         · rw [hv] at h hhm
           obtain ⟨m', rfl⟩ : ∃ m', m = m' + 2 := ⟨m - 2, by omega⟩
           have E3 := hE1 (next + 2) z hz n3
           have hlz := (List.getElem?_eq_some_iff.1 hz).1
           have R2 : Q (next + 1) := hq (next + 1) y hy n2 v2 (by omega)
           have R3 : Q (next + 2) := hq (next + 2) z hz n3 v3 (by rcases hc with hc | hc <;> omega)
           obtain ⟨b1, b2, b3, b4, b5, b6⟩ := v_block hrow hq hE1 k (m' + 2 + 1 - 3) (next + 3) e (by omega) (by omega) h
           rw [show m' + 2 + 1 - 3 = m' from by omega] at b1 b2 b3
           have hb : blockR P l E (m' + 2 + 1) next 0 = true := by
             rw [blockR_go (h' := 1) hx (by omega) (fun _ => num_q v1 (by omega)) (by unfold handR; rw [if_neg (by rw [g1]; simp), if_pos ⟨h9, rfl⟩]), E1]
             rw [blockR_go (h' := 3) hy (by omega) (fun h8 => num_q v2 h8) (by unfold handR; rw [if_neg (by omega), if_neg (by omega), if_pos ⟨k11, rfl⟩]), E2]
             rw [blockR_go (h' := 0) hz (by rcases hc with hc | hc <;> omega) (fun h8 => num_q v3 h8) ?_, E3]
             · exact b1
             · unfold handR
               rcases hc with c1 | ⟨c1, c2⟩
               · rw [if_neg (by omega), if_neg (by omega), if_neg (by omega), if_neg (by omega), if_pos ⟨c1, by decide⟩]
               · rw [if_neg (by omega), if_neg (by omega), if_neg (by omega), if_pos ⟨c1, .inr ⟨by decide, c2⟩⟩]
           refine ⟨hb, fun j hj => ?_, by simp only [chainE, E1, E2, E3]; exact b3, by omega, b5, fun j a b => ?_⟩
           · match j with
             | 0 => exact hlt
             | 1 => simp only [chainE, E1]; exact hly
             | 2 => simp only [chainE, E1, E2]; exact hlz
             | j + 3 => simp only [chainE, E1, E2, E3]; exact b2 j (by omega)
           · by_cases hj : j = next
             · rw [hj]; exact R1
             · by_cases hj2 : j = next + 1
               · rw [hj2]; exact R2
               · by_cases hj3 : j = next + 2
                 · rw [hj3]; exact R3
                 · exact b6 j (by omega) b
     · by_cases hk2 : x.k = 10 ∨ x.k = 11 ∨ x.k = 12
       · rw [block_bad (by omega) hx hk2] at h; cases h
       · cases hr : rowV P l f next 0 with
         | none => rw [block_norow (by omega) hx h9 hk2 hr] at h; cases h
         | some en =>
           obtain ⟨e1, n1⟩ := en
           rw [block_row (by omega) hx h9 hk2 hr, Nat.add_sub_cancel] at h
           obtain ⟨a1, a2, a3, a4⟩ := hrow _ _ _ hr
           obtain ⟨b1, b2, b3, b4, b5, b6⟩ := v_block hrow hq hE1 k m e1 e (by omega) a3 h
           obtain ⟨x', hx', hm, _⟩ := rowV_may hr
           rw [hx] at hx'
           injection hx' with hx'
           subst hx'
           have hkk : 1 ≤ x.k ∧ x.k ≤ 16 := by unfold mayV at hm; simpa using hm
           refine ⟨?_, fun j hj => ?_, by simp only [chainE, a1]; exact b3, by omega, b5, fun j a b => ?_⟩
           · rw [blockR_go (h' := 0) hx hkk (fun h8 => by omega) (by unfold handR; rw [if_neg (by omega), if_neg (by omega), if_neg (by omega), if_neg (by omega), if_neg (by omega), if_neg (by omega)]), a1]
             exact b1
           · match j with
             | 0 => exact hlt
             | j + 1 => simp only [chainE, a1]; exact b2 j (by omega)
           · by_cases hj : j < e1
             · exact a4 j a hj
             · exact b6 j (by omega) b
end
end Go.Proofs.Ytdpokdcendgfeaa
namespace Go.Proofs.Ytdpokdcendgfeaa
section
variable {P : Pl} {l : List Ac} {E : Nat → Nat} {W : Nat → Int}
theorem may_range {what k : Int} (h : mayV what k = true) (h0 : 0 ≤ what) : 1 ≤ k ∧ k ≤ 38 := by
 unfold mayV at h
 have ht : 0 ≤ typeV k → 19 ≤ k ∧ k ≤ 38 := fun h1 => typeR_range (by rw [typeR_eq]; omega)
 split at h
 · simp at h; omega
 · split at h
   · simp at h; omega
   · split at h
     · simp at h; omega
     · split at h
       · have := ht (by simpa using h); omega
       · have h2 : typeV k = what := by simpa using h
         have := ht (by omega)
         omega
theorem may_stands {k w : Int} (h : mayV (whatV w) k = true) (hw : w = 0 ∨ w = 1 ∨ w = 2 ∨ w = 3 ∨ w = 4 ∨ w = 5 ∨ w = 6) : standsR k w = true := by rw [stands_may k w hw]; exact h
theorem whatV_nonneg (w : Int) : 0 ≤ whatV w := by unfold whatV; (repeat' split) <;> omega
theorem want_none {k n : Int} (h : 6 ≤ k ∧ k ≤ 18) : wantR k n = [] := by
 unfold wantR kidsR
 rw [if_neg (by omega), if_neg (by omega), if_neg (by omega), if_neg (by omega), if_neg (by omega), if_neg (by omega), if_neg (by omega), if_neg (by omega), if_neg (by omega)]
/-- what a look tells of a row's wants -/
def Told (l : List Ac) (W : Nat → Int) (i : Nat) (n : Int) : Prop := 0 ≤ n ∧ n ≤ 256 ∧ (kindL l i ≠ 1 → 1 ≤ n) ∧ (kindL l i = 17 ∨ kindL l i = 18 → n = 1) ∧ (typeR (kindL l i) ≠ 0 → n = W i)
def Full (P : Pl) (l : List Ac) (E : Nat → Nat) (W : Nat → Int) (j : Nat) : Prop := TreeAt l E j ∧ RowFit P l E W j
theorem hand_full (hE1 : ∀ j x, l[j]? = some x → x.n = 0 → E j = j + 1) {j : Nat} {x : Ac} (hx : l[j]? = some x) (hn : x.n = 0) (hv : numV P x = true) (hk : 9 ≤ x.k ∧ x.k ≤ 12) : Full P l E W j := by
 obtain ⟨h1, y, hy, h2, h3, h4⟩ := hand_is hE1 hx hn hv hk
 refine ⟨h1, y, hy, h2, h3, h4, fun ht => ?_⟩
 rw [hx] at hy
 injection hy with hy
 subst hy
 have := typeR_range ht
 omega
/-- what a look at a row tells -/
def Look (P : Pl) (l : List Ac) (E : Nat → Nat) (W : Nat → Int) (f : Nat) : Prop := ∀ i what e n, 0 ≤ what → rowV P l f i what = some (e, n) → (E i = e ∧ i < e ∧ e ≤ l.length) ∧ Told l W i n ∧ ∀ j, i ≤ j → j < e → Full P l E W j
/-- what a look at a row's kids tells -/
def KidsGot (P : Pl) (l : List Ac) (E : Nat → Nat) (W : Nat → Int) (i : Nat) (x : Ac) (e9 : Nat) (w9 : Int) : Prop :=
 standsL l E i (wantR x.k x.n) (i + 1) = true ∧ (∀ j, j < (wantR x.k x.n).length → chainE E j (i + 1) < l.length) ∧ chainE E (wantR x.k x.n).length (i + 1) = e9 ∧ (∀ j, i + 1 ≤ j → j < e9 → Full P l E W j) ∧ 0 ≤ w9 ∧ (x.k = 17 ∨ x.k = 18 → max w9 1 = 1) ∧ (typeR x.k ≠ 0 → max w9 1 = wantsR W E i x ∧ (2 ≤ x.n → i < E (i + 1)))
theorem kid_got {f : Nat} (hK : Look P l E W f) {i e : Nat} {a n : Int} (ha : a = 1 ∨ a = 3 ∨ a = 4 ∨ a = 5 ∨ a = 6) (hr : rowV P l f i (whatV a) = some (e, n)) :
   E i = e ∧ i < e ∧ e ≤ l.length ∧ standsR (kindL l i) a = true ∧ Told l W i n ∧ ∀ j, i ≤ j → j < e → Full P l E W j := by
 obtain ⟨⟨g0, g1, g2⟩, t, t5⟩ := hK _ _ _ _ (whatV_nonneg a) hr
 obtain ⟨y, hy, hmy, _⟩ := rowV_may hr
 exact ⟨g0, g1, g2, by rw [kind_get hy]; exact may_stands hmy (by omega), t, t5⟩
theorem want_six {k n a b : Int} (h : wantR k n = [a, b]) (hb : b = 6) : a = 6 ∧ k = 34 := by
 subst hb
 unfold wantR at h
 split at h
 · cases h
 · unfold kidsR at h
   split at h
   · cases h
   split at h
   · cases h
   split at h
   · cases h
   split at h
   · cases h
   split at h
   · cases h
   split at h
   · next h34 => injection h with h; exact ⟨h.symm, h34⟩
   split at h
   · cases h
   split at h
   · cases h
   · cases h
theorem what_six {b : Int} (hb : b = 1 ∨ b = 3 ∨ b = 4 ∨ b = 5 ∨ b = 6) (h : whatV b = 4) : b = 6 := by
 rcases hb with rfl | rfl | rfl | rfl | rfl <;> first | rfl | exact absurd h (by decide)
theorem type_three (k : Int) : typeV k = -1 ∨ typeV k = 2 ∨ typeV k = 3 := by
 unfold typeV
 split
 · simp
 · split <;> simp
/-- the second kid -/
theorem kid_got2 {f : Nat} (hK : Look P l E W f) {k m : Int} {i e : Nat} {a b n kind : Int} (hw : wantR k m = [a, b]) (hb : b = 1 ∨ b = 3 ∨ b = 4 ∨ b = 5 ∨ b = 6) (hst : standsR kind a = true) (hr : rowV P l f i (if whatV b = 4 ∧ 0 + 1 = 1 then typeV kind else whatV b) = some (e, n)) :
   E i = e ∧ i < e ∧ e ≤ l.length ∧ standsR (kindL l i) b = true ∧ (b = 6 → typeR (kindL l i) = typeR kind) ∧ Told l W i n ∧ ∀ j, i ≤ j → j < e → Full P l E W j := by
 by_cases hb6 : b = 6
 · obtain ⟨ha, _⟩ := want_six hw hb6
   subst hb6 ha
   rw [if_pos ⟨rfl, rfl⟩] at hr
   have h10 := stands_type hst (by omega)
   rw [typeR_eq] at h10
   have h0 := type_three kind
   obtain ⟨⟨g0, g1, g2⟩, t, t5⟩ := hK _ _ _ _ (by omega) hr
   obtain ⟨y, hy, hmy, _⟩ := rowV_may hr
   have h11 : typeV y.k = typeV kind := by
     unfold mayV at hmy
     rcases h0 with h0 | h0 | h0
     · omega
     · rw [h0] at hmy; rw [h0]; simpa using hmy
     · rw [h0] at hmy; rw [h0]; simpa using hmy
   refine ⟨g0, g1, g2, ?_, fun _ => by rw [kind_get hy, typeR_eq, typeR_eq, h11], t, t5⟩
   rw [kind_get hy]
   unfold standsR
   rw [if_neg (by omega), if_neg (by omega), if_neg (by omega), if_pos rfl, typeR_eq, h11]
   exact decide_eq_true h10
 · rw [if_neg (fun h => hb6 (what_six hb h.1))] at hr
   obtain ⟨g0, g1, g2, g3, g4⟩ := kid_got hK hb hr
   exact ⟨g0, g1, g2, g3, fun h => absurd h hb6, g4⟩
theorem v_kids1 {f : Nat} (hK : Look P l E W f) {i : Nat} {x : Ac} {a w9 : Int} {e9 : Nat} (hw : wantR x.k x.n = [a]) (hn : x.n = ((wantR x.k x.n).length : Int))
   (hb : kidsLoop l (rowV P l f) x.k ((wantR x.k x.n).map whatV) 0 (i + 1) 0 0 = some (e9, w9)) : KidsGot P l E W i x e9 w9 := by
 have ha := want_mem (k := x.k) (n := x.n) (w := a) (by rw [hw]; simp)
 unfold KidsGot
 rw [hw] at hb hn ⊢
 rw [List.map_cons, List.map_nil] at hb
 obtain ⟨e1, n1, hr1, hb⟩ := kids_inv hb
 rw [if_neg (by omega)] at hr1
 rw [if_neg (show ¬ ((0 : Nat) = 1 ∧ 19 ≤ x.k ∧ x.k ≠ 37 ∧ x.k ≠ 38) by omega)] at hb
 simp only [kidsLoop, Option.some.injEq, Prod.mk.injEq] at hb
 obtain ⟨rfl, rfl⟩ := hb
 obtain ⟨g0, g1, g2, hst, ⟨t0, t1, t2, t3, t4⟩, t5⟩ := kid_got hK ha hr1
 have hn1 : x.n = 1 := by simpa using hn
 refine ⟨?_, ?_, g0, t5, by omega, fun h9 => ?_, fun h9 => ⟨?_, fun h8 => by omega⟩⟩
 · simp only [standsL, hst, Bool.true_and, Bool.and_true, Bool.or_eq_true, Bool.not_eq_true', decide_eq_true_eq, decide_eq_false_iff_not]
   exact .inr trivial
 · intro j hj
   have : j = 0 := by simp only [List.length_cons, List.length_nil] at hj; omega
   subst this
   show i + 1 < l.length
   omega
 · rw [want_none (by omega)] at hw; cases hw
 · rcases want_expr (n := x.n) (typeR_range h9) with ⟨hw2, _⟩ | ⟨h25, hw2⟩ | ⟨h25, a', hw2, ha'⟩ | ⟨_, _, _, hw2, _⟩
   · rw [hw] at hw2; cases hw2
   · rw [hw] at hw2
     injection hw2 with hw2
     subst hw2
     have h17 : kindL l (i + 1) = 17 ∨ kindL l (i + 1) = 18 := by unfold standsR at hst; simpa using hst
     have hn9 := t3 h17
     unfold wantsR
     rw [if_pos (.inl h25), hn9]
     rfl
   · rw [hw] at hw2
     injection hw2 with hw2
     subst hw2
     have hty := stands_type hst (by omega)
     have hn9 := t4 hty
     have h1n := t2 (by have := typeR_range hty; omega)
     unfold wantsR
     rw [if_neg (by omega), if_pos hn1]
     omega
   · rw [hw] at hw2; cases hw2
theorem v_kids2 {f : Nat} (hK : Look P l E W f) {i : Nat} {x : Ac} {a b w9 : Int} {e9 : Nat} (hw : wantR x.k x.n = [a, b]) (hn : x.n = ((wantR x.k x.n).length : Int))
   (hb : kidsLoop l (rowV P l f) x.k ((wantR x.k x.n).map whatV) 0 (i + 1) 0 0 = some (e9, w9)) : KidsGot P l E W i x e9 w9 := by
 have ha := want_mem (k := x.k) (n := x.n) (w := a) (by rw [hw]; simp)
 have hb9 := want_mem (k := x.k) (n := x.n) (w := b) (by rw [hw]; simp)
 have hw0 := hw
 unfold KidsGot
 rw [hw] at hb hn ⊢
 rw [List.map_cons, List.map_cons, List.map_nil] at hb
 obtain ⟨e1, n1, hr1, hb⟩ := kids_inv hb
 rw [if_neg (by omega)] at hr1
 rw [if_neg (show ¬ ((0 : Nat) = 1 ∧ 19 ≤ x.k ∧ x.k ≠ 37 ∧ x.k ≠ 38) by omega)] at hb
 obtain ⟨e2, n2, hr2, hb⟩ := kids_inv hb
 simp only [kidsLoop, Option.some.injEq, Prod.mk.injEq] at hb
 obtain ⟨rfl, rfl⟩ := hb
 obtain ⟨g0, g1, g2, hst, ⟨t0, t1, t2, t3, t4⟩, t5⟩ := kid_got hK ha hr1
 obtain ⟨q0, q1, q2, hst2, hty2, ⟨u0, u1, u2, u3, u4⟩, u5⟩ := kid_got2 hK hw0 hb9 hst hr2
 subst g0
 have hn2 : x.n = 2 := by simpa using hn
 refine ⟨?_, ?_, q0, fun j c1 c2 => ?_, by split <;> omega, fun h9 => ?_, fun h9 => ⟨?_, fun _ => by omega⟩⟩
 · simp only [standsL, hst, hst2, Bool.true_and, Bool.and_true, Bool.and_eq_true, Bool.or_eq_true, Bool.not_eq_true', decide_eq_true_eq, decide_eq_false_iff_not]
   refine ⟨.inr trivial, ?_⟩
   by_cases h6 : b = 6
   · exact .inr (hty2 h6)
   · exact .inl h6
 · intro j hj
   simp only [List.length_cons, List.length_nil] at hj
   match j, hj with
   | 0, _ => show i + 1 < l.length; omega
   | 1, _ => show E (i + 1) < l.length; omega
 · by_cases hj : j < E (i + 1)
   · exact t5 j c1 hj
   · exact u5 j (by omega) c2
 · rw [want_none (by omega)] at hw; cases hw
 · rcases want_expr (n := x.n) (typeR_range h9) with ⟨hw2, _⟩ | ⟨h25, hw2⟩ | ⟨h25, a', hw2, ha'⟩ | ⟨h25, a', b', hw2, ha', hb'⟩
   · rw [hw] at hw2; cases hw2
   · rw [hw] at hw2; cases hw2
   · rw [hw] at hw2; cases hw2
   · rw [hw] at hw2
     injection hw2 with hw2 hw3
     injection hw3 with hw3
     subst hw2 hw3
     have hr9 := typeR_range h9
     have hty := stands_type hst (by omega)
     have htz := stands_type hst2 (by omega)
     have hn9 := t4 hty
     have h1n := t2 (by have := typeR_range hty; omega)
     have hm9 := u4 htz
     have hwv : wantsR W E i x = max (W (i + 1)) (if x.k = 37 ∨ x.k = 38 then W (E (i + 1)) else W (E (i + 1)) + 1) := by unfold wantsR; rw [if_neg (by omega), if_neg (by omega)]
     rw [hwv]
     by_cases h37 : x.k = 37 ∨ x.k = 38
     · rw [if_pos h37, if_neg (show ¬ (True ∧ 19 ≤ x.k ∧ x.k ≠ 37 ∧ x.k ≠ 38) from fun h => by omega)]
       omega
     · rw [if_neg h37, if_pos (show True ∧ 19 ≤ x.k ∧ x.k ≠ 37 ∧ x.k ≠ 38 from ⟨trivial, by omega⟩)]
       omega
theorem v_kids3 {f : Nat} (hK : Look P l E W f) {i : Nat} {x : Ac} {w9 : Int} {e9 : Nat} (hk : x.k = 2) (hw : wantR x.k x.n = [4, 1, 1])
   (hb : kidsLoop l (rowV P l f) x.k ((wantR x.k x.n).map whatV) 0 (i + 1) 0 0 = some (e9, w9)) : KidsGot P l E W i x e9 w9 := by
 have ht : typeR x.k = 0 := by rw [hk]; rfl
 unfold KidsGot
 rw [hw] at hb ⊢
 rw [List.map_cons, List.map_cons, List.map_cons, List.map_nil] at hb
 obtain ⟨e1, n1, hr1, hb⟩ := kids_inv hb
 rw [if_neg (by omega)] at hr1
 obtain ⟨e2, n2, hr2, hb⟩ := kids_inv hb
 rw [if_neg (by decide)] at hr2
 obtain ⟨e3, n3, hr3, hb⟩ := kids_inv hb
 rw [if_neg (by omega)] at hr3
 rw [if_neg (by omega), if_neg (by omega), if_neg (by omega)] at hb
 simp only [kidsLoop, Option.some.injEq, Prod.mk.injEq] at hb
 obtain ⟨rfl, rfl⟩ := hb
 obtain ⟨g0, g1, g2, hst, ⟨t0, _⟩, t5⟩ := kid_got hK (by omega) hr1
 obtain ⟨q0, q1, q2, hst2, ⟨u0, _⟩, u5⟩ := kid_got hK (by omega) hr2
 obtain ⟨p0, p1, p2, hst3, ⟨v0, _⟩, v5⟩ := kid_got hK (by omega) hr3
 subst g0
 subst q0
 refine ⟨?_, ?_, p0, fun j c1 c2 => ?_, by omega, fun h9 => by omega, fun h9 => absurd ht h9⟩
 · simp only [standsL, hst, hst2, hst3]
   rfl
 · intro j hj
   simp only [List.length_cons, List.length_nil] at hj
   match j, hj with
   | 0, _ => show i + 1 < l.length; omega
   | 1, _ => show E (i + 1) < l.length; omega
   | 2, _ => show E (E (i + 1)) < l.length; omega
 · by_cases hj : j < E (i + 1)
   · exact t5 j c1 hj
   · by_cases hj2 : j < E (E (i + 1))
     · exact u5 j (by omega) hj2
     · exact v5 j (by omega) c2
theorem v_kids {f : Nat} (hK : Look P l E W f) {i : Nat} {x : Ac} {w9 : Int} {e9 : Nat} (hn : x.n = ((wantR x.k x.n).length : Int))
   (hb : kidsLoop l (rowV P l f) x.k ((wantR x.k x.n).map whatV) 0 (i + 1) 0 0 = some (e9, w9)) : KidsGot P l E W i x e9 w9 := by
 rcases kinds_len x.k x.n with hw | ⟨a, hw⟩ | ⟨a, b, hw⟩ | ⟨hk2, hw⟩
 · unfold KidsGot
   rw [hw] at hb hn ⊢
   simp only [List.map_nil, kidsLoop, Option.some.injEq, Prod.mk.injEq] at hb
   obtain ⟨rfl, rfl⟩ := hb
   have hn0 : x.n = 0 := by simpa using hn
   refine ⟨rfl, fun j hj => by simp at hj, rfl, fun j a b => by omega, by omega, fun _ => rfl, fun _ => ⟨?_, fun h9 => by omega⟩⟩
   unfold wantsR
   rw [if_pos (.inr hn0)]
   rfl
 · exact v_kids1 hK hw hn hb
 · exact v_kids2 hK hw hn hb
 · exact v_kids3 hK hk2 hw hb
theorem v_row (hE1 : ∀ j x, l[j]? = some x → x.n = 0 → E j = j + 1) (hEE : ∀ f i what e n, rowV P l f i what = some (e, n) → E i = e ∧ i < e ∧ e ≤ l.length)
   (hW : ∀ c x, l[c]? = some x → typeR x.k ≠ 0 → (2 ≤ x.n → c < E (c + 1)) → W c = wantsR W E c x) :
   ∀ (f i : Nat) (what : Int) (e : Nat) (n : Int), 0 ≤ what → rowV P l f i what = some (e, n) → Told l W i n ∧ ∀ j, i ≤ j → j < e → Full P l E W j
 | 0, i, what, e, n, _, h => by simp [rowV] at h
 | f + 1, i, what, e, n, h0, h => by
   have ih := v_row hE1 hEE hW f
   obtain ⟨e0, e1, e2⟩ := hEE _ _ _ _ _ h
   obtain ⟨x, hx, hm, hv⟩ := rowV_may h
   have hkr := may_range hm h0
   have hkc := kind_get hx
   unfold rowV at h
   rw [hx] at h
   simp only [hm, hv, Bool.and_self, if_true] at h
   by_cases hk1 : x.k = 1
   · rw [if_pos hk1] at h
     have ht : typeR x.k = 0 := by rw [hk1]; rfl
     split at h
     · cases h
     · next hn =>
       cases hb : blockLoop P l (rowV P l f) x.n.toNat (i + 1) with
       | none => rw [hb] at h; cases h
       | some e9 =>
         rw [hb] at h
         simp only [Option.map_some, Option.some.injEq, Prod.mk.injEq] at h
         obtain ⟨rfl, rfl⟩ := h
         obtain ⟨b1, b2, b3, b4, b5, b6⟩ := v_block (Q := Full P l E W) (fun i e n hr => by
           obtain ⟨c0, c1, c2⟩ := hEE _ _ _ _ _ hr
           exact ⟨c0, c1, c2, (ih _ _ _ _ (Int.le_refl 0) hr).2⟩) (fun j x a b c d => hand_full hE1 a b c d) hE1 x.n.toNat x.n.toNat (i + 1) e9 (Nat.le_refl _) (by omega) hb
         refine ⟨⟨Int.le_refl _, by decide, fun h9 => absurd (hkc.trans hk1) h9, fun h9 => by rw [hkc] at h9; omega, fun h9 => by rw [hkc] at h9; exact absurd ht h9⟩, fun j hj1 hj2 => ?_⟩
         by_cases hj : j = i
         · subst hj
           refine ⟨⟨x, hx, by omega, b2, by rw [e0, b3]⟩, x, hx, hkr.1, hkr.2, ?_, fun h9 => absurd ht h9⟩
           unfold rowR
           rw [opR_eq, hv, if_pos hk1, b1]
           rfl
         · exact b6 j (by omega) hj2
   · rw [if_neg hk1, want_kids, List.length_map] at h
     split at h
     · cases h
     · next hn =>
       have hn : x.n = ((wantR x.k x.n).length : Int) := by simpa using hn
       have hnn : x.n.toNat = (wantR x.k x.n).length := by omega
       cases hb : kidsLoop l (rowV P l f) x.k ((wantR x.k x.n).map whatV) 0 (i + 1) 0 0 with
       | none => rw [hb] at h; cases h
       | some en =>
         obtain ⟨e9, w9⟩ := en
         rw [hb] at h
         simp only at h
         split at h
         · next hw256 =>
           simp only [Option.some.injEq, Prod.mk.injEq] at h
           obtain ⟨rfl, rfl⟩ := h
           have fin : standsL l E i (wantR x.k x.n) (i + 1) = true → (∀ j, j < (wantR x.k x.n).length → chainE E j (i + 1) < l.length) → chainE E (wantR x.k x.n).length (i + 1) = e9 → (∀ j, i + 1 ≤ j → j < e9 → Full P l E W j) → 0 ≤ w9 → (x.k = 17 ∨ x.k = 18 → max w9 1 = 1) → (typeR x.k ≠ 0 → max w9 1 = wantsR W E i x ∧ (2 ≤ x.n → i < E (i + 1))) →
               Told l W i (max w9 1) ∧ ∀ j, i ≤ j → j < e9 → Full P l E W j := by
             intro f1 f2 f3 f4 f5 f6 f7
             refine ⟨⟨by omega, by omega, fun _ => by omega, fun h9 => by rw [hkc] at h9; exact f6 h9, fun h9 => ?_⟩, fun j hj1 hj2 => ?_⟩
             · rw [hkc] at h9
               rw [hW i x hx h9 (f7 h9).2]
               exact (f7 h9).1
             · by_cases hj : j = i
               · subst hj
                 refine ⟨⟨x, hx, by omega, by rw [hnn]; exact f2, by rw [hnn, e0, f3]⟩, x, hx, hkr.1, hkr.2, ?_, fun h9 => ?_⟩
                 · unfold rowR
                   rw [opR_eq, hv, if_neg hk1, f1]
                   simp [← hn]
                 · have h8 := hW j x hx h9 (f7 h9).2
                   exact ⟨h8, by rw [h8, ← (f7 h9).1]; omega⟩
               · exact f4 j (by omega) hj2
           obtain ⟨f1, f2, f3, f4, f5, f6, f7⟩ := v_kids (fun i what e n a b => ⟨hEE _ _ _ _ _ b, ih _ _ _ _ a b⟩) hn hb
           exact fin f1 f2 f3 f4 f5 f6 f7
         · cases h
end
end Go.Proofs.Ytdpokdcendgfeaa
namespace Go.Proofs.Ytdpokdcendgfeaa
section
variable {P : Pl} {l : List Ac}
/-- where a row's own end; junk behind all rows, if nowhere -/
def endE (l : List Ac) (j : Nat) : Nat := (endS l j 1).getD (l.length + 1)
theorem endS_ge {l : List Ac} : ∀ (k i : Nat) (left : Int) (e : Nat), l.length - i ≤ k → endS l i left = some e → i ≤ e
 | k, i, left, e, hk, h => by
   by_cases hl : left ≤ 0
   · rw [endS_stop hl] at h
     injection h with h
     omega
   · cases hx : l[i]? with
     | none => rw [endS_none hl hx] at h; cases h
     | some x =>
       have hi := (List.getElem?_eq_some_iff.1 hx).1
       rw [endS_step hl hx] at h
       match k, hk with
       | 0, hk => omega
       | k + 1, hk =>
         have := endS_ge k (i + 1) _ _ (by omega) h
         omega
theorem endE_ge {l : List Ac} {j : Nat} (h : j ≤ l.length) : j ≤ endE l j := by
 unfold endE
 cases h1 : endS l j 1 with
 | none => simp only [Option.getD_none]; omega
 | some e => exact endS_ge _ _ _ _ (Nat.le_refl _) h1
theorem endE_out {l : List Ac} {j : Nat} (h : l.length ≤ j) : endE l j = l.length + 1 := by
 unfold endE
 rw [endS_none (by omega) (List.getElem?_eq_none h)]
 rfl
theorem endE_gt {l : List Ac} {c : Nat} (h : c < l.length) : c < endE l (c + 1) := by
 rcases Nat.lt_or_ge (c + 1) l.length with h1 | h1
 · have := endE_ge (l := l) (j := c + 1) (by omega)
   omega
 · rw [endE_out h1]; omega
theorem endE_leaf {j : Nat} {x : Ac} (hx : l[j]? = some x) (hn : x.n = 0) : endE l j = j + 1 := by
 unfold endE
 rw [endS_step (by omega) hx, endS_stop (by omega)]
 rfl
/-- a row's kids lie among the rows -/
def KidsIn (l : List Ac) (at_ : Nat) : Prop := ∃ x, l[at_]? = some x ∧ 0 ≤ x.n ∧ ∀ j, j < x.n.toNat → chainE (endE l) j (at_ + 1) < l.length
theorem chain_end {b : Nat} {at_ : Nat} (hK : ∀ j, at_ < j → j < l.length → ∀ b : Nat, endS l j (1 + (b : Int)) = endS l (endE l j) b) (hE : ∀ j, at_ < j → j < l.length → j < endE l j) :
   ∀ (m n : Nat), at_ < n → (∀ i, i < m → chainE (endE l) i n < l.length) → endS l n ((m : Int) + (b : Int)) = endS l (chainE (endE l) m n) b
 | 0, n, _, _ => by simp [chainE]
 | m + 1, n, hn, h => by
   have h0 : n < l.length := h 0 (by omega)
   have h1 := hK n hn h0 (m + b)
   have h2 := hE n hn h0
   have h3 := chain_end (b := b) hK hE m (endE l n) (by omega) (fun i hi => h (i + 1) (by omega))
   rw [show (((m + 1 : Nat) : Int) + (b : Int)) = 1 + ((m + b : Nat) : Int) by omega, h1]
   simp only [chainE]
   rw [← h3]
   congr 1 <;> omega
theorem kids_ends : ∀ (k at_ : Nat), at_ < l.length → l.length - at_ ≤ k → (∀ j, at_ ≤ j → j < l.length → KidsIn l j) → (∀ b : Nat, endS l at_ (1 + (b : Int)) = endS l (endE l at_) b) ∧ at_ < endE l at_ ∧ TreeAt l (endE l) at_
 | 0, at_, h1, h2, _ => by omega
 | k + 1, at_, h1, h2, h => by
   have ih := fun j (a : at_ < j) (b : j < l.length) => kids_ends k j b (by omega) (fun i c d => h i (by omega) d)
   obtain ⟨x, hx, h0, hc⟩ := h at_ (Nat.le_refl _) h1
   have hce := fun b => chain_end (l := l) (at_ := at_) (b := b) (fun j a b => (ih j a b).1) (fun j a b => (ih j a b).2.1) x.n.toNat (at_ + 1) (by omega) hc
   have hst : ∀ b : Nat, endS l at_ (1 + (b : Int)) = endS l (chainE (endE l) x.n.toNat (at_ + 1)) b := fun b => by
     rw [endS_step (by omega) hx, ← hce b]
     congr 1
     omega
   have he : endE l at_ = chainE (endE l) x.n.toNat (at_ + 1) := by
     have h5 := hst 0
     rw [endS_stop (i := chainE (endE l) x.n.toNat (at_ + 1)) (by simp)] at h5
     unfold endE
     rw [show (1 : Int) = 1 + ((0 : Nat) : Int) by simp, h5]
     rfl
   refine ⟨fun b => by rw [hst b, he], ?_, x, hx, h0, hc, he⟩
   have hge : ∀ (m n : Nat), at_ < n → (∀ i, i < m → chainE (endE l) i n < l.length) → n ≤ chainE (endE l) m n := by
     intro m
     induction m with
     | zero => intro n _ _; exact Nat.le_refl _
     | succ m ihm =>
       intro n hn hh
       have a1 : n < l.length := hh 0 (by omega)
       have a2 := (ih n hn a1).2.1
       have a3 := ihm (endE l n) (by omega) (fun i hi => hh (i + 1) (by omega))
       simp only [chainE]
       omega
   have := hge x.n.toNat (at_ + 1) (by omega) hc
   omega
theorem tree_small (hT : ∀ j, j < l.length → TreeAt l (endE l) j) {j : Nat} {x : Ac} (hx : l[j]? = some x) : 0 ≤ x.n ∧ x.n ≤ l.length := by
 have hj := (List.getElem?_eq_some_iff.1 hx).1
 obtain ⟨y, hy, h0, h1, _⟩ := hT j hj
 rw [hx] at hy
 injection hy with hy
 subst hy
 refine ⟨h0, ?_⟩
 by_cases hn : x.n = 0
 · omega
 · have h2 := chain_ge (fun j hj => tree_lt hT l.length j (by omega) hj) (x.n.toNat - 1) (j + 1) (fun i hi => h1 i (by omega))
   have h3 := h1 (x.n.toNat - 1) (by omega)
   omega
theorem wantsR_congr {W W' : Nat → Int} {E : Nat → Nat} {c : Nat} {x : Ac} (h1 : W (c + 1) = W' (c + 1)) (h2 : W (E (c + 1)) = W' (E (c + 1))) : wantsR W E c x = wantsR W' E c x := by
 unfold wantsR
 rw [h1, h2]
theorem numR_congr {N N' : Nat → Int} {E : Nat → Nat} {c : Nat} {x : Ac} (h1 : N (c + 1) = N' (c + 1)) (h2 : N (E (c + 1)) = N' (E (c + 1))) (h3 : N (E (E (c + 1))) = N' (E (E (c + 1)))) : numR E N c x = numR E N' c x := by
 unfold numR
 rw [h1, h2, h3]
/-- what a row's operands want -/
def wantG (l : List Ac) (c : Nat) (ws : List Int) : Int := match l[c]? with | none => 0 | some x => if typeR x.k = 0 then 0 else wantsR (fun j => (ws[j - (c + 1)]?).getD 0) (endE l) c x
def wantW (l : List Ac) (j : Nat) : Int := ((backL (wantG l) l.length l.length)[j]?).getD 0
theorem wantW_eq {c : Nat} {x : Ac} (hx : l[c]? = some x) : wantW l c = if typeR x.k = 0 then 0 else wantsR (wantW l) (endE l) c x := by
 have hc := (List.getElem?_eq_some_iff.1 hx).1
 have h1 : ∀ j, c < j → ((backL (wantG l) l.length (l.length - (c + 1)))[j - (c + 1)]?).getD 0 = wantW l j := fun j hj => by rw [backL_later hc hj]; rfl
 conv => lhs; unfold wantW
 rw [backL_get hc]
 simp only [Option.getD_some]
 unfold wantG
 rw [hx]
 simp only
 split
 · rfl
 · exact wantsR_congr (h1 (c + 1) (by omega)) (h1 _ (endE_gt hc))
def numG (l : List Ac) (c : Nat) (ns : List Int) : Int := match l[c]? with | none => 0 | some x => if x.k = 1 then 0 else max (numR (endE l) (fun j => (ns[j - (c + 1)]?).getD 0) c x) 1
def numN (l : List Ac) (j : Nat) : Int := ((backL (numG l) l.length l.length)[j]?).getD 0
theorem numN_eq (hT : ∀ j, j < l.length → TreeAt l (endE l) j) {c : Nat} {x : Ac} (hx : l[c]? = some x) : numN l c = if x.k = 1 then 0 else max (numR (endE l) (numN l) c x) 1 := by
 have hc := (List.getElem?_eq_some_iff.1 hx).1
 have h1 : ∀ j, c < j → ((backL (numG l) l.length (l.length - (c + 1)))[j - (c + 1)]?).getD 0 = numN l j := fun j hj => by rw [backL_later hc hj]; rfl
 have h2 : c < endE l (endE l (c + 1)) := by
   have := endE_gt hc
   rcases Nat.lt_or_ge (endE l (c + 1)) l.length with h3 | h3
   · have := tree_lt hT l.length _ (by omega) h3
     omega
   · rw [endE_out h3]; omega
 conv => lhs; unfold numN
 rw [backL_get hc]
 simp only [Option.getD_some]
 unfold numG
 rw [hx]
 simp only
 split
 · rfl
 · rw [numR_congr (h1 (c + 1) (by omega)) (h1 _ (endE_gt hc)) (h1 _ h2)]
/-- the reference's look at an event -/
def EvR (P : Pl) (l : List Ac) : Prop := l = [] ∨ (kindL l 0 = 1 ∧ endE l 0 = l.length ∧ ∀ j, j < l.length → TreeAt l (endE l) j ∧ RowFit P l (endE l) (wantW l) j)
theorem evR_iff : EvR P l ↔ eventV P l = true := by
 by_cases h0 : l = []
 · subst h0
   exact ⟨fun _ => rfl, fun _ => .inl rfl⟩
 have hlen : 0 < l.length := List.length_pos_iff.2 h0
 have hem : l.isEmpty = false := by simpa using h0
 constructor
 · rintro (h | ⟨hk, he, h⟩)
   · exact absurd h h0
   · have hg := good_all (fun c hc => (h c hc).1) (fun c hc => (h c hc).2) (N := numN l) (fun c x hx => numN_eq (fun c hc => (h c hc).1) hx) (l.length + 1) 0 hlen (by omega)
     have h1 := hg.1 1 (by rw [hk]; rfl)
     unfold eventV
     rw [hem, h1, Bool.false_or]
     simp only [decide_eq_true_eq, he]
     exact Nat.le_refl _
 · intro h
   unfold eventV at h
   rw [hem, Bool.false_or] at h
   cases hr : rowV P l (l.length + 1) 0 1 with
   | none => rw [hr] at h; cases h
   | some en =>
     obtain ⟨e, n⟩ := en
     rw [hr] at h
     simp only [decide_eq_true_eq] at h
     have hEE : ∀ f i what e n, rowV P l f i what = some (e, n) → endE l i = e ∧ i < e ∧ e ≤ l.length := fun f i what e n h => by
       have h1 := wf_of_row _ _ _ _ _ h
       have h2 := wf_end1 h1
       have h3 := wf_le _ _ _ _ h1
       refine ⟨by unfold endE; rw [h2]; rfl, h3.1, h3.2⟩
     have hv := v_row (W := wantW l) (fun j x hx hn => endE_leaf hx hn) hEE (fun c x hx ht _ => by rw [wantW_eq hx, if_neg ht]) _ _ _ _ _ (by omega) hr
     obtain ⟨g0, g1, g2⟩ := hEE _ _ _ _ _ hr
     obtain ⟨x, hx, hm, _⟩ := rowV_may hr
     refine .inr ⟨?_, by omega, fun j hj => hv.2 j (by omega) (by omega)⟩
     rw [kind_get hx]
     unfold mayV at hm
     simpa using hm
end
end Go.Proofs.Ytdpokdcendgfeaa
