/- Several texts in one: A plain law: other rounds in a program's loops. A plain law: other rounds in a program's loops leave its looks as they are. A plain law: greater rounds in a program's loops cost no less fuel, and turn nothing else. The walk of VerifyRounds. A program that was handed in, as lists. Conditions: those of each. -/
import Derived.Test.YtjflllfkgbhemaaM1
import Derived.Test.YtjflllfkgbhemaaM2
import Derived.Test.YtjflllfkgbhemaaV38
import Derived.StillTailTactics
import Derived.BigRegion
import Derived.Test.YtjflllfkgbhemaaOpen
/- A plain law: other rounds in a program's loops. Conditions: none. -/
namespace Go.Proofs.Ytjflllfkgbhemaa
open Go.RowKit
/-- y is x, but for the rounds of a loop, of which y has no fewer -/
def More (x y : Ins) : Prop := y = x ∨ (x.op = 24 ∧ y = { x with a := y.a } ∧ 0 ≤ x.a ∧ x.a ≤ y.a ∧ y.a ≤ 4194304)
theorem More.op {x y : Ins} (h : More x y) : y.op = x.op := by
  rcases h with rfl | ⟨_, e, _⟩
  · rfl
  · rw [e]
theorem More.b {x y : Ins} (h : More x y) : y.b = x.b := by
  rcases h with rfl | ⟨_, e, _⟩
  · rfl
  · rw [e]
theorem More.c {x y : Ins} (h : More x y) : y.c = x.c := by
  rcases h with rfl | ⟨_, e, _⟩
  · rfl
  · rw [e]
theorem More.d {x y : Ins} (h : More x y) : y.d = x.d := by
  rcases h with rfl | ⟨_, e, _⟩
  · rfl
  · rw [e]
theorem More.a {x y : Ins} (h : More x y) (h24 : x.op ≠ 24) : y.a = x.a := by
  rcases h with rfl | ⟨h, _⟩
  · rfl
  · exact absurd h h24
theorem More.le {x y : Ins} (h : More x y) : x.a ≤ y.a := by
  rcases h with rfl | ⟨_, _, _, h, _⟩
  · exact Int.le_refl _
  · exact h
structure Mores (P Q : Prg) : Prop where
  gh : Q.gh = P.gh
  vs : Q.vs = P.vs
  ts : Q.ts = P.ts
  os : Q.os = P.os
  miss : Q.miss = P.miss
  len : Q.cd.length = P.cd.length
  cd : ∀ (i : Nat) (x : Ins), P.cd[i]? = some x → ∃ y, Q.cd[i]? = some y ∧ More x y
theorem Mores.at_ {P Q : Prg} (h : Mores P Q) (a : Int) : More (insAt P a) (insAt Q a) := by
  unfold insAt
  by_cases ha : a.toNat < P.cd.length
  · obtain ⟨y, hy, hm⟩ := h.cd a.toNat _ (List.getElem?_eq_getElem ha)
    rw [List.getElem?_eq_getElem ha, hy]
    exact hm
  · rw [List.getElem?_eq_none (by omega), List.getElem?_eq_none (by rw [h.len]; omega)]
    exact .inl rfl
theorem Mores.tables {P Q : Prg} (h : Mores P Q) : tablesV Q = tablesV P := by
  unfold tablesV
  rw [h.gh, h.vs, h.ts, h.os, h.miss, h.len]
theorem Mores.opB {P Q : Prg} (h : Mores P Q) (s : ByteArray) (i : Nat) : opB Q s i = opB P s i := by
  unfold Go.Proofs.Ytjflllfkgbhemaa.opB
  rw [h.gh, h.vs, h.ts, h.len]
theorem Mores.opOk {P Q : Prg} (h : Mores P Q) (s : ByteArray) (x : Ins) (i : Nat) : opOk Q s x i = opOk P s x i := by
  unfold Go.Proofs.Ytjflllfkgbhemaa.opOk
  rw [h.opB]
theorem Mores.insE {P Q : Prg} (h : Mores P Q) {x y : Ins} (hm : More x y) : insE Q y = insE P x := by
  rcases hm with rfl | ⟨h24, e, h0, h1, h2⟩
  · unfold Go.Proofs.Ytjflllfkgbhemaa.insE
    split
    · rfl
    · split
      · rfl
      · simp only [h.opOk]
  · have hop : y.op = 24 := by rw [e]; exact h24
    have ht : table[24]? = some (⟨#[108, 111, 111, 112]⟩, ⟨#[114]⟩) := rfl
    have e24 : ∀ (R : Prg) (z : Ins), z.op = 24 → 0 ≤ z.a → z.a ≤ 4194304 → Go.Proofs.Ytjflllfkgbhemaa.insE R z = if Go.Proofs.Ytjflllfkgbhemaa.opOk R ⟨#[114]⟩ z 1 && Go.Proofs.Ytjflllfkgbhemaa.opOk R ⟨#[114]⟩ z 2 && Go.Proofs.Ytjflllfkgbhemaa.opOk R ⟨#[114]⟩ z 3 then 0 else 92 := fun R z hz h0 h1 => by
      unfold Go.Proofs.Ytjflllfkgbhemaa.insE
      rw [hz, if_neg (by decide), show (24 : Int).toNat = 24 from rfl, ht]
      have : Go.Proofs.Ytjflllfkgbhemaa.opOk R ⟨#[114]⟩ z 0 = true := by
        simp [Go.Proofs.Ytjflllfkgbhemaa.opOk, Go.Proofs.Ytjflllfkgbhemaa.opB, Ins.arg, boundsV, fromV, h0, h1]
      simp only [this, Bool.true_and]
    rw [e24 Q y hop (by omega) h2, e24 P x h24 h0 (by omega)]
    have hb : ∀ k, 1 ≤ k → y.arg k = x.arg k := fun k hk => by
      rw [e]
      match k, hk with
      | 1, _ => rfl
      | 2, _ => rfl
      | (_ + 3), _ => rfl
    unfold Go.Proofs.Ytjflllfkgbhemaa.opOk
    rw [h.opB, h.opB, h.opB, hb 1 (by omega), hb 2 (by omega), hb 3 (by omega)]
theorem Mores.insEs {P Q : Prg} (h : Mores P Q) : ∀ (l l' : List Ins), l'.length = l.length → (∀ (i : Nat) (x : Ins), l[i]? = some x → ∃ y, l'[i]? = some y ∧ More x y) → insEs Q l' = insEs P l
  | [], [], _, _ => rfl
  | [], _ :: _, hl, _ => by simp at hl
  | _ :: _, [], hl, _ => by simp at hl
  | x :: l, y :: l', hl, hm => by
    obtain ⟨y', hy, h0⟩ := hm 0 x rfl
    obtain rfl : y = y' := by simpa using hy
    rw [Go.Proofs.Ytjflllfkgbhemaa.insEs, Go.Proofs.Ytjflllfkgbhemaa.insEs, h.insE h0, h.insEs l l' (by simpa using hl) fun i z hz => by
      obtain ⟨y2, hy2, h2⟩ := hm (i + 1) z (by simpa using hz)
      exact ⟨y2, by simpa using hy2, h2⟩]
theorem Mores.check {P Q : Prg} (h : Mores P Q) : checkV Q = checkV P := by
  unfold checkV
  rw [h.tables, h.insEs P.cd Q.cd h.len h.cd]
end Go.Proofs.Ytjflllfkgbhemaa

/- A plain law: other rounds in a program's loops leave its looks as they are. Conditions: none. -/
namespace Go.Proofs.Ytjflllfkgbhemaa
open Go.RowKit
theorem Mores.ghost {P Q : Prg} (h : Mores P Q) (a : Int) : ghost Q a = ghost P a := by unfold Go.Proofs.Ytjflllfkgbhemaa.ghost; rw [h.gh]
theorem Mores.hands {P Q : Prg} (h : Mores P Q) {x y : Ins} (hm : More x y) (hand : Int) : handsV Q y.op y.a hand = handsV P x.op x.a hand := by
  rw [hm.op]
  by_cases h24 : x.op = 24
  · rw [h24]; simp [handsV]
  · rw [hm.a h24]; unfold handsV; rw [h.ghost]
theorem Mores.kinds {P Q : Prg} (h : Mores P Q) {x y : Ins} (hm : More x y) : kindsV Q y.op y.a y.c = kindsV P x.op x.a x.c := by
  rw [hm.op, hm.c]
  by_cases h24 : x.op = 24
  · rw [h24]; simp [kindsV]
  · rw [hm.a h24]; unfold kindsV; rw [h.ghost, h.ghost]
theorem Mores.hold {P Q : Prg} (h : Mores P Q) {x y : Ins} (hm : More x y) (hand : Int) : holdV Q y.op y.a hand = holdV P x.op x.a hand := by
  rw [hm.op]
  by_cases h24 : x.op = 24
  · rw [h24]; simp [holdV]
  · rw [hm.a h24]; unfold holdV; rw [h.ghost]
theorem Mores.beh {P Q : Prg} (h : Mores P Q) {x y : Ins} (hm : More x y) (s : St) : stBeh Q y s = stBeh P x s := by
  unfold stBeh
  rw [h.hold hm, hm.op]
theorem More.ways {x y : Ins} (hm : More x y) (n : Int) (s : St) : waysV n y s = waysV n x s := by
  by_cases h24 : x.op = 24
  · have h24' : y.op = 24 := by rw [hm.op, h24]
    unfold waysV
    rw [h24, h24']
    simp
  · unfold waysV
    rw [hm.op, hm.a h24]
theorem Mores.bad {P Q : Prg} (h : Mores P Q) {x y : Ins} (hm : More x y) (h24 : x.op ≠ 24) (n : Nat) : jbad Q n y = jbad P n x := by
  unfold jbad
  rw [hm.a h24, (h.at_ x.a).op]
def Turns (P : Prg) (l : List Int) : Prop := ∀ t ∈ l, (insAt P t).op = 25
theorem innerV_mem {l : List Int} (h : l ≠ []) : innerV l ∈ l := by
  unfold innerV
  rw [List.getLast?_eq_some_getLast h]
  exact List.getLast_mem h
theorem Mores.jumps {P Q : Prg} (h : Mores P Q) {x y : Ins} (hm : More x y) (n : Nat) (s : St) (ats : List St) (ht : Turns P s.ls) : jumpsV Q n y s ats = jumpsV P n x s ats := by
  by_cases h24 : x.op = 24
  · have h24' : y.op = 24 := by rw [hm.op, h24]
    unfold jumpsV
    rw [h24, h24', h.len, (h.at_ _).op]
    simp
  · unfold jumpsV
    rw [hm.op, h.bad hm h24, hm.a h24, (h.at_ ((n : Int) - 1)).op, h.miss, h.os, h.len, (h.at_ ((n : Int) + 1)).op]
    by_cases hl : s.ls = []
    · have : ¬ (0 : Int) ≤ innerV s.ls := by rw [hl]; decide
      simp only [this, decide_false, Bool.false_and]
    · have hi := ht _ (innerV_mem hl)
      rw [(h.at_ (innerV s.ls)).a (by rw [hi]; decide)]
theorem Mores.look {P Q : Prg} (h : Mores P Q) {x y : Ins} (hm : More x y) (n : Nat) (s : St) (ats : List St) (ht : Turns P s.ls) : lookV Q n y s ats = lookV P n x s ats := by
  unfold lookV
  rw [h.hands hm, h.kinds hm, h.beh hm, hm.ways, hm.op, h.jumps hm n _ ats (by rw [(takenV_hand x.op s).2.1]; exact ht), h.len]
theorem ways_turns {P : Prg} {n : Nat} {x : Ins} {s : St} (hs : Turns P s.ls) (hx : x.op = 25 → (insAt P (n : Int)).op = 25) : ∀ u ∈ waysV n x s, Turns P u.2.ls := by
  intro u hu
  unfold waysV at hu
  split at hu
  · cases hu
  split at hu
  · cases hu
  split at hu
  · simp at hu; subst hu; exact hs
  split at hu
  · simp at hu; rcases hu with rfl | rfl <;> exact hs
  split at hu
  · next h25 =>
    simp at hu
    rcases hu with rfl | rfl
    · intro t ht
      simp at ht
      rcases ht with ht | rfl
      · exact hs t ht
      · exact hx h25
    · exact hs
  split at hu
  · simp at hu
    rcases hu with rfl | rfl
    · exact hs
    · intro t ht
      exact hs t ((List.dropLast_sublist s.ls).subset ht)
  · simp at hu; subst hu; exact hs
def AllTurns (P : Prg) (ats : List St) : Prop := ∀ (i : Nat) (s : St), ats[i]? = some s → Turns P s.ls
theorem put_turns {P : Prg} {ats : List St} (h : AllTurns P ats) (u : Int × St) (hu : Turns P u.2.ls) : AllTurns P (putSt ats u) := by
  intro i s hi
  unfold putSt at hi
  rw [List.getElem?_set] at hi
  split at hi
  · split at hi
    · cases hi; exact hu
    · cases hi
  · exact h i s hi
theorem fold_turns {P : Prg} : ∀ (l : List (Int × St)) (ats : List St), AllTurns P ats → (∀ u ∈ l, Turns P u.2.ls) → AllTurns P (l.foldl putSt ats)
  | [], _, h, _ => h
  | u :: l, _, h, hl => fold_turns l _ (put_turns h u (hl u (List.mem_cons_self ..))) fun v hv => hl v (List.mem_cons_of_mem _ hv)
theorem atSt_turns {P : Prg} {ats : List St} (h : AllTurns P ats) (a : Int) : Turns P (atSt ats a).ls := by
  unfold atSt
  cases hx : ats[a.toNat]? with
  | none => intro t ht; cases ht
  | some s => exact h _ s hx
theorem look_turns {P : Prg} {n : Nat} {s : St} {ats : List St} (h : AllTurns P ats) (hs : Turns P s.ls) : AllTurns P (lookV P n (insAt P (n : Int)) s ats).2 := by
  unfold lookV
  repeat' split
  all_goals first
    | exact h
    | (refine fold_turns _ _ h (ways_turns ?_ fun h25 => h25)
       unfold stBeh
       rw [show ({ (takenV (insAt P (n : Int)).op s).1 with hand := holdV P (insAt P (n : Int)).op (insAt P (n : Int)).a s.hand } : St).ls = (takenV (insAt P (n : Int)).op s).1.ls from rfl, (takenV_hand _ s).2.1]
       exact hs)
theorem Mores.looks {P Q : Prg} (h : Mores P Q) : ∀ (k n : Nat) (ats : List St), AllTurns P ats → looksV Q k n ats = looksV P k n ats
  | 0, _, _, _ => rfl
  | k + 1, n, ats, ha => by
    have hs := atSt_turns ha (n : Int)
    have e := h.look (h.at_ (n : Int)) n (atSt ats (n : Int)) ats hs
    rw [looksV, looksV, e]
    split
    · exact h.looks k (n + 1) _ (look_turns ha hs)
    · rfl
theorem ats0_turns (P : Prg) : AllTurns P (ats0 P) := by
  have : ∀ (l : List Int) (ats : List St), (∀ (i : Nat) (s : St), ats[i]? = some s → s.ls = []) → ∀ (i : Nat) (s : St), (l.foldl mark ats)[i]? = some s → s.ls = [] := by
    intro l
    induction l with
    | nil => intro ats h; exact h
    | cons b l ih =>
      intro ats h
      refine ih _ fun i s hi => ?_
      unfold mark at hi
      split at hi
      · rw [List.getElem?_set] at hi
        split at hi
        · split at hi
          · cases hi; rfl
          · cases hi
        · exact h i s hi
      · exact h i s hi
  intro i s hi t ht
  rw [this _ _ (fun i s hi => by
    rw [List.getElem?_replicate] at hi
    split at hi
    · cases hi; rfl
    · cases hi) i s hi] at ht
  cases ht
theorem Mores.ats0 {P Q : Prg} (h : Mores P Q) : ats0 Q = ats0 P := by
  unfold Go.Proofs.Ytjflllfkgbhemaa.ats0 begins
  rw [h.os, h.miss, h.len]
theorem Mores.all {P Q : Prg} (h : Mores P Q) : looksV Q Q.cd.length 0 (Go.Proofs.Ytjflllfkgbhemaa.ats0 Q) = looksV P P.cd.length 0 (Go.Proofs.Ytjflllfkgbhemaa.ats0 P) := by
  rw [h.ats0, h.len, h.looks _ _ _ (ats0_turns P)]
end Go.Proofs.Ytjflllfkgbhemaa

/- A plain law: greater rounds in a program's loops cost no less fuel, and turn nothing else. Conditions: none. -/
namespace Go.Proofs.Ytjflllfkgbhemaa
open Go.RowKit
set_option linter.unusedVariables false in
theorem plusV_mono {a b a' b' : Int} (h1 : a ≤ a') (h2 : b ≤ b') (ha : 0 ≤ a) (hb : 0 ≤ b) (hb2 : b' ≤ 4611686018427387904) : plusV a b ≤ plusV a' b' := by
  unfold plusV
  split <;> split <;> omega
theorem timesI_mono {a b a' b' : Int} (h1 : a ≤ a') (h2 : b ≤ b') : timesI a b ≤ timesI a' b' := by
  unfold timesI timesV
  have h : a.toNat * b.toNat ≤ a'.toNat * b'.toNat := Nat.mul_le_mul (by omega) (by omega)
  split <;> split <;> omega
/-- behind a loop's instruction stands its turn -/
def Loops (P : Prg) : Prop := ∀ (n : Nat), n < P.cd.length → (insAt P (n : Int)).op = 24 → (insAt P ((n + 1 : Nat) : Int)).op = 25
theorem loops_of {P : Prg} {ats : List St} (h : (looksV P P.cd.length 0 ats).1 = 0) : Loops P := fun n hn h24 => by
  obtain ⟨a, ha⟩ := looks_good _ _ _ h n (Nat.zero_le _) (by omega)
  have hj := (look_good ha).2.2.1
  simp [jumpsV, h24] at hj
  exact hj.2
theorem step_mono {P Q : Prg} (h : Mores P Q) {n : Nat} (hn : n < P.cd.length) (hl : Loops P) {f f' : List Int} (hf : F62 f) (hf' : F62 f') (hm : ∀ a, fAt f a ≤ fAt f' a) :
    fuelStep P n (insAt P (n : Int)) f ≤ fuelStep Q n (insAt Q (n : Int)) f' := by
  have hx := h.at_ (n : Int)
  have b := fun a => fAt_in hf a
  have b' := fun a => fAt_in hf' a
  by_cases h24 : (insAt P (n : Int)).op = 24
  · have h24' : (insAt Q (n : Int)).op = 24 := by rw [hx.op, h24]
    have hy := h.at_ ((n + 1 : Nat) : Int)
    have h25 := hl n hn h24
    unfold fuelStep
    rw [h24, h24', hy.a (by rw [h25]; decide)]
    simp only [show ¬ ((24 : Int) = 0 ∨ (24 : Int) = 27) by decide, show ¬ (24 : Int) = 22 by decide, show ¬ (24 : Int) = 23 by decide, if_false, if_true]
    have p1 := plusV_mono (Int.le_refl 1) (hm ((n + 2 : Nat) : Int)) (by decide) (b _).1 (b' _).2
    have q1 := plusV_in (a := 1) (by decide) (b ((n + 2 : Nat) : Int)).1 (b _).2
    have p2 := timesI_mono hx.le p1
    have q2 := timesI_in (insAt P (n : Int)).a (plusV 1 (fAt f ((n + 2 : Nat) : Int)))
    have q2' := timesI_in (insAt Q (n : Int)).a (plusV 1 (fAt f' ((n + 2 : Nat) : Int)))
    have p3 := plusV_mono (Int.le_refl 1) p2 (by decide) q2.1 q2'.2
    have q3 := plusV_in (a := 1) (by decide) q2.1 q2.2
    have p4 := plusV_mono (Int.le_refl 1) (hm (insAt P ((n + 1 : Nat) : Int)).a) (by decide) (b _).1 (b' _).2
    have q4 := plusV_in (a := 1) (by decide) (b (insAt P ((n + 1 : Nat) : Int)).a).1 (b _).2
    have q4' := plusV_in (a := 1) (by decide) (b' (insAt P ((n + 1 : Nat) : Int)).a).1 (b' _).2
    exact plusV_mono p3 p4 q3.1 q4.1 q4'.2
  · unfold fuelStep
    rw [hx.op, hx.a h24]
    split
    · exact Int.le_refl _
    split
    · exact plusV_mono (Int.le_refl 1) (hm _) (by decide) (b _).1 (b' _).2
    split
    · refine plusV_mono (Int.le_refl 1) ?_ (by decide) ?_ ?_
      · have h1 := hm ((n + 1 : Nat) : Int)
        have h2 := hm (insAt P (n : Int)).a
        split <;> split <;> omega
      · have := (b ((n + 1 : Nat) : Int)).1
        have := (b (insAt P (n : Int)).a).1
        split <;> omega
      · have := (b' ((n + 1 : Nat) : Int)).2
        have := (b' (insAt P (n : Int)).a).2
        split <;> omega
    · exact plusV_mono (Int.le_refl 1) (hm _) (by decide) (b _).1 (b' _).2
theorem fAt_set (f : List Int) (i : Nat) (v : Int) (a : Int) : fAt (f.set i v) a = if i = a.toNat ∧ i < f.length then v else fAt f a := by
  unfold fAt
  rw [List.getElem?_set]
  by_cases h1 : i = a.toNat
  · by_cases h2 : i < f.length
    · rw [if_pos h1, if_pos h2, if_pos ⟨h1, h2⟩]; rfl
    · rw [if_pos h1, if_neg h2, if_neg (fun h => h2 h.2), List.getElem?_eq_none (by omega)]
  · rw [if_neg h1, if_neg (fun h => h1 h.1)]
theorem fuel_mono {P Q : Prg} (h : Mores P Q) (hl : Loops P) : ∀ (k : Nat), k ≤ P.cd.length → ∀ a, fAt (fuelK P k) a ≤ fAt (fuelK Q k) a
  | 0, _, a => by rw [fuelK, fuelK, h.len]; exact Int.le_refl _
  | k + 1, hk, a => by
    have ih := fuel_mono h hl k (by omega)
    have hs := step_mono h (n := P.cd.length - 1 - k) (by omega) hl (fuelK_in P k) (fuelK_in Q k) ih
    rw [fuelK, fuelK, h.len, fAt_set, fAt_set, fuelK_len, fuelK_len, h.len]
    split
    · exact hs
    · exact ih a
theorem over_mono {f f' : List Int} (h : ∀ a, fAt f a ≤ fAt f' a) : ∀ {l : List Int} {b : Int}, overV f l = some b → ∃ b', overV f' l = some b'
  | [], _, hb => by simp [overV] at hb
  | c :: l, b, hb => by
    rw [overV] at hb ⊢
    split at hb
    · next hc =>
      have := h c
      rw [if_pos ⟨hc.1, by omega⟩]
      exact ⟨c, rfl⟩
    · split
      · exact ⟨c, rfl⟩
      · exact over_mono h hb
theorem look_not {P : Prg} {n : Nat} {x : Ins} {s : St} {ats : List St} : (lookV P n x s ats).1 ≠ 97 := by
  unfold lookV
  have : (takenV x.op s).2 ≠ 97 := by
    unfold takenV
    repeat' split
    all_goals simp
  repeat' split
  all_goals first | exact this | simp
theorem looks_not {P : Prg} : ∀ (k n : Nat) (ats : List St), (looksV P k n ats).1 ≠ 97
  | 0, n, ats => by simp [looksV]
  | k + 1, n, ats => by
    rw [looksV]
    split
    · exact looks_not k _ _
    · exact look_not
theorem check_not (P : Prg) : checkV P ≠ 97 := by
  unfold checkV
  split
  · have : ∀ l : List Ins, insEs P l ≠ 97 := by
      intro l
      induction l with
      | nil => simp [insEs]
      | cons x l ih =>
        rw [insEs]
        split
        · exact ih
        · unfold insE
          repeat' split
          all_goals simp
    exact this _
  · decide
/-- the three ways of run -/
theorem runV_ways (P : Prg) : (checkV P ≠ 0 ∧ runV P = ((checkV P : Int), 0, [])) ∨
    (checkV P = 0 ∧ (looksV P P.cd.length 0 (ats0 P)).1 ≠ 0 ∧ runV P = ((looksV P P.cd.length 0 (ats0 P)).1, ((looksV P P.cd.length 0 (ats0 P)).2.1 : Int), [])) ∨
    (checkV P = 0 ∧ (looksV P P.cd.length 0 (ats0 P)).1 = 0 ∧ ((∃ b, overV (fuelK P P.cd.length) (begins P) = some b ∧ runV P = (97, b, [])) ∨ (overV (fuelK P P.cd.length) (begins P) = none ∧ runV P = (0, 0, (looksV P P.cd.length 0 (ats0 P)).2.2)))) := by
  unfold runV
  by_cases h0 : checkV P = 0
  · by_cases h1 : (looksV P P.cd.length 0 (ats0 P)).1 = 0
    · refine .inr (.inr ⟨h0, h1, ?_⟩)
      rw [if_neg (by simp [h0]), if_neg (by simp [h1])]
      cases ho : overV (fuelK P P.cd.length) (begins P) with
      | some b => exact .inl ⟨b, rfl, rfl⟩
      | none => exact .inr ⟨rfl, rfl⟩
    · refine .inr (.inl ⟨h0, h1, ?_⟩)
      rw [if_neg (by simp [h0]), if_pos h1]
  · exact .inl ⟨h0, by rw [if_pos h0]⟩
theorem rounds_law {P Q : Prg} (h : Mores P Q) :
    ((runV P).1 ≠ 0 ∨ (runV Q).1 = 97 → ((runV P).1 = (runV Q).1 ∧ (runV P).2.1 = (runV Q).2.1) ∨ ((runV Q).1 = 97 ∧ ((runV P).1 = 0 ∨ (runV P).1 = 97))) ∧
    ((runV P).1 = 0 → (runV Q).1 ≠ 97 → (runV Q).1 = 0 ∧ ∀ a, fAt (fuelK P P.cd.length) a ≤ fAt (fuelK Q Q.cd.length) a) := by
  have hc := h.check
  have ha := h.all
  have hb : begins Q = begins P := by unfold begins; rw [h.os, h.miss]
  rcases runV_ways P with ⟨h0, e⟩ | ⟨h0, h1, e⟩ | ⟨h0, h1, hp⟩
  · rcases runV_ways Q with ⟨g0, e'⟩ | ⟨g0, g1, e'⟩ | ⟨g0, g1, hq⟩
    · rw [hc] at e'
      rw [e, e']
      exact ⟨fun _ => .inl ⟨rfl, rfl⟩, fun hz => absurd (show (checkV P : Int) = 0 from hz) (by omega)⟩
    · exact absurd g0 (by rw [hc]; exact h0)
    · exact absurd g0 (by rw [hc]; exact h0)
  · rcases runV_ways Q with ⟨g0, e'⟩ | ⟨g0, g1, e'⟩ | ⟨g0, g1, hq⟩
    · exact absurd h0 (by rw [← hc]; exact g0)
    · rw [ha] at e'
      rw [e, e']
      exact ⟨fun _ => .inl ⟨rfl, rfl⟩, fun hz => absurd hz h1⟩
    · rw [ha] at g1
      exact absurd g1 h1
  · have hm := fuel_mono h (loops_of h1) P.cd.length (Nat.le_refl _)
    rcases runV_ways Q with ⟨g0, e'⟩ | ⟨g0, g1, e'⟩ | ⟨g0, g1, hq⟩
    · exact absurd h0 (by rw [← hc]; exact g0)
    · rw [ha] at g1
      exact absurd h1 g1
    · rw [h.len, hb] at hq
      rcases hp with ⟨b, ho, e⟩ | ⟨ho, e⟩
      · obtain ⟨b', ho'⟩ := over_mono hm ho
        rcases hq with ⟨b2, ho2, e'⟩ | ⟨ho2, e'⟩
        · rw [e, e']
          exact ⟨fun _ => .inr ⟨rfl, .inr rfl⟩, fun hz => absurd hz (by simp)⟩
        · rw [ho'] at ho2; cases ho2
      · rcases hq with ⟨b2, ho2, e'⟩ | ⟨ho2, e'⟩
        · rw [e, e']
          exact ⟨fun _ => .inr ⟨rfl, .inl rfl⟩, fun _ hz => absurd rfl hz⟩
        · rw [e, e', h.len]
          exact ⟨fun hz => by rcases hz with hz | hz <;> simp at hz, fun _ _ => ⟨rfl, hm⟩⟩
end Go.Proofs.Ytjflllfkgbhemaa

/- The walk of VerifyRounds. Conditions: the program and the numbers lie in memory. -/
namespace Go.Proofs.Ytjflllfkgbhemaa
open Go.RowKit
def modI (x : Ins) (b : Int) : Ins := if x.op = 24 ∧ 0 ≤ x.a ∧ x.a ≤ 4194304 then { x with a := x.a + withinV b (4194304 - x.a + 1) } else x
theorem lend_j (w : World) (p : PV) (P : Prg) (h : AMem w p P) (hl : P.gh.length ≤ 100 ∧ P.vs.length ≤ 100 ∧ P.ts.length ≤ 100 ∧ P.os.length ≤ 100 ∧ P.cd.length ≤ 524288) :
    Calls Try.prog 12 #[p.val] w fun en w' => ∃ gg gv gt go gc, en = .returned (.agg #[.slice (some ⟨gg, 0, none⟩) P.gh.length (P.gh.length + 3), .slice (some ⟨gv, 0, none⟩) P.vs.length (P.vs.length + 3), .slice (some ⟨gt, 0, none⟩) P.ts.length (P.ts.length + 5), .slice (some ⟨go, 0, none⟩) P.os.length (P.os.length + 5), .int .i64 P.miss, .slice (some ⟨gc, 0, none⟩) P.cd.length (P.cd.length + 9)]) ∧ Lent w' w.heap.size gg gv gt go gc P ∧ Below w.heap.size w w' := lendProgram_i w p P h hl
theorem far_lens {P : Prg} (h : farV P = false) : P.gh.length ≤ 100 ∧ P.vs.length ≤ 100 ∧ P.ts.length ≤ 100 ∧ P.os.length ≤ 100 ∧ P.cd.length ≤ 524288 := by simp [farV] at h; omega
theorem lens_max {P : Prg} (h : P.gh.length ≤ 100 ∧ P.vs.length ≤ 100 ∧ P.ts.length ≤ 100 ∧ P.os.length ≤ 100 ∧ P.cd.length ≤ 524288) : P.gh.length ≤ maxLen ∧ P.vs.length ≤ maxLen ∧ P.ts.length ≤ maxLen ∧ P.os.length ≤ maxLen ∧ P.cd.length ≤ maxLen := by unfold maxLen; omega
theorem lens_os {P : Prg} (h : P.gh.length ≤ 100 ∧ P.vs.length ≤ 100 ∧ P.ts.length ≤ 100 ∧ P.os.length ≤ 100 ∧ P.cd.length ≤ 524288) : P.os.length + 5 ≤ maxLen := by unfold maxLen; omega
theorem lent_run {W : World} {B hg hv ht ho hcd : Nat} {P : Prg} (h : Lent W B hg hv ht ho hcd P) (hl : P.gh.length ≤ 100 ∧ P.vs.length ≤ 100 ∧ P.ts.length ≤ 100 ∧ P.os.length ≤ 100 ∧ P.cd.length ≤ 524288) :
    Calls Try.prog 13 #[.agg #[.slice (some ⟨hg, 0, none⟩) P.gh.length (P.gh.length + 3), .slice (some ⟨hv, 0, none⟩) P.vs.length (P.vs.length + 3), .slice (some ⟨ht, 0, none⟩) P.ts.length (P.ts.length + 5), .slice (some ⟨ho, 0, none⟩) P.os.length (P.os.length + 5), .int .i64 P.miss, .slice (some ⟨hcd, 0, none⟩) P.cd.length (P.cd.length + 9)]] W fun en w' => ∃ oa n c m, en = .returned (.tuple #[.agg #[.slice oa n c, .int .i64 m], .agg #[.int .i64 (runV P).1, .int .i64 (runV P).2.1]]) ∧ CostsAre W.heap.size w' (.agg #[.slice oa n c, .int .i64 m]) P ∧ Below W.heap.size W w' :=
  verifyRun_i W (lentPV hg hv ht ho hcd P) P (h.mem (lens_max hl)) (h.mv (lens_os hl))
theorem costs_only {B k : Nat} {t : TypeId} {w w' : World} {v : Value} {P : Prg} {c : Array Value} (h : CostsAre B w v P) (ho : Only (fun x => x = k) w w') (hk : Blk w k t c) (ht : 3 ≠ t) : CostsAre B w' v P :=
  ⟨h.1, fun h0 => by
    obtain ⟨g, cs, e, hg, hc, hx⟩ := h.2 h0
    exact ⟨g, cs, e, hg, hc.only ho (hc.ne_ hk ht), hx⟩⟩
theorem cost_le {f f' : List Int} (h : ∀ a, fAt f a ≤ fAt f' a) (b : Int) : fAt (costsV f [b]) 0 ≤ fAt (costsV f' [b]) 0 := by
  have := h b
  simp only [costsV, List.map_cons, List.map_nil, fAt, Int.toNat_zero, List.getElem?_cons_zero, Option.getD_some]
  simp only [fAt] at this
  split <;> omega
theorem modI_more (x : Ins) (b : Int) : More x (modI x b) := by
  unfold modI
  split
  · next h =>
    have := within_in b (4194304 - x.a + 1) (by omega)
    exact .inr ⟨h.1, rfl, h.2.1, by show x.a ≤ x.a + _; omega, by show x.a + _ ≤ _; omega⟩
  · exact .inl rfl
/-- the code with the rounds of its first i instructions turned -/
def modC (cd : List Ins) (l : List Int) (i : Nat) : List Ins := (List.range cd.length).map fun k => if k < i then modI ((cd[k]?).getD ⟨0, 0, 0, 0, 0⟩) ((l[k % l.length]?).getD 0) else (cd[k]?).getD ⟨0, 0, 0, 0, 0⟩
theorem modC_len (cd : List Ins) (l : List Int) (i : Nat) : (modC cd l i).length = cd.length := by simp [modC]
theorem modC_get {cd : List Ins} {l : List Int} {i k : Nat} {x : Ins} (h : cd[k]? = some x) : (modC cd l i)[k]? = some (if k < i then modI x ((l[k % l.length]?).getD 0) else x) := by
  have hk := (List.getElem?_eq_some_iff.1 h).1
  unfold modC
  rw [List.getElem?_map, List.getElem?_range hk]
  simp only [Option.map_some, h, Option.getD_some]
theorem modC_zero (cd : List Ins) (l : List Int) : modC cd l 0 = cd := by
  apply List.ext_getElem?
  intro k
  by_cases hk : k < cd.length
  · rw [modC_get (List.getElem?_eq_getElem hk), if_neg (by omega), List.getElem?_eq_getElem hk]
  · rw [List.getElem?_eq_none (by rw [modC_len]; omega), List.getElem?_eq_none (by omega)]
theorem modC_step {cd : List Ins} {l : List Int} {i : Nat} {x : Ins} (h : cd[i]? = some x) : (modC cd l i).set i (modI x ((l[i % l.length]?).getD 0)) = modC cd l (i + 1) := by
  have hi := (List.getElem?_eq_some_iff.1 h).1
  apply List.ext_getElem?
  intro k
  rw [List.getElem?_set, modC_len]
  by_cases hk : k < cd.length
  · rw [modC_get (List.getElem?_eq_getElem hk), modC_get (List.getElem?_eq_getElem hk)]
    by_cases h1 : i = k
    · subst h1
      rw [if_pos rfl, if_pos hi, if_pos (by omega)]
      rw [List.getElem?_eq_getElem hi] at h
      cases h
      rfl
    · rw [if_neg h1]
      by_cases h2 : k < i
      · rw [if_pos h2, if_pos (by omega)]
      · rw [if_neg h2, if_neg (by omega)]
  · rw [if_neg (by omega), List.getElem?_eq_none (by rw [modC_len]; omega), List.getElem?_eq_none (by rw [modC_len]; omega)]
theorem modC_keep {cd : List Ins} {l : List Int} {i : Nat} {x : Ins} (h : cd[i]? = some x) (hn : ¬ (x.op = 24 ∧ 0 ≤ x.a ∧ x.a ≤ 4194304)) : modC cd l (i + 1) = modC cd l i := by
  have hi := (List.getElem?_eq_some_iff.1 h).1
  rw [← modC_step h]
  have e : modI x ((l[i % l.length]?).getD 0) = x := by unfold modI; rw [if_neg hn]
  rw [e]
  apply List.ext_getElem?
  intro k
  rw [List.getElem?_set, modC_len]
  by_cases hk : i = k
  · subst hk
    rw [if_pos rfl, if_pos hi, modC_get h, if_neg (by omega)]
  · rw [if_neg hk]
theorem code_set1 {l : List Ins} {i : Nat} {x : Ins} {a : Int} (hx : l[i]? = some x) : (codeV l).toArray.setIfInBounds (i * 5 + 1) (.int .i64 a) = (codeV (l.set i { x with a := a })).toArray := by
  obtain ⟨hi, rfl⟩ := List.getElem?_eq_some_iff.1 hx
  obtain ⟨l1, y, l2, rfl, rfl⟩ : ∃ l1 y l2, l = l1 ++ y :: l2 ∧ i = l1.length := ⟨l.take i, l[i], l.drop (i + 1), by simp, by simp; omega⟩
  have e1 : codeV (l1 ++ y :: l2) = codeV l1 ++ ([.int .i64 y.op, .int .i64 y.a, .int .i64 y.b, .int .i64 y.c, .int .i64 y.d] ++ codeV l2) := by rw [codeV_append]; rfl
  have e3 : (l1 ++ y :: l2)[l1.length] = y := by simp
  rw [e3]
  have e2 : codeV ((l1 ++ y :: l2).set l1.length { y with a := a }) = codeV l1 ++ ([.int .i64 y.op, .int .i64 a, .int .i64 y.b, .int .i64 y.c, .int .i64 y.d] ++ codeV l2) := by
    rw [List.set_append, if_neg (by omega), Nat.sub_self, List.set_cons_zero, codeV_append]; rfl
  rw [e1, e2, ← codeV_len l1]
  simp
def modP (P : Prg) (l : List Int) (i : Nat) : Prg := { P with cd := modC P.cd l i }
theorem modP_more (P : Prg) (l : List Int) (i : Nat) : Mores P (modP P l i) :=
  ⟨rfl, rfl, rfl, rfl, rfl, modC_len _ _ _, fun k x hx => ⟨_, modC_get hx, by split; exact modI_more _ _; exact .inl rfl⟩⟩
theorem mod_run {W : World} {B hg hv ht ho hcd : Nat} {P : Prg} {l : List Int} {k : Nat} (h : Lent W B hg hv ht ho hcd (modP P l k)) (hl : P.gh.length ≤ 100 ∧ P.vs.length ≤ 100 ∧ P.ts.length ≤ 100 ∧ P.os.length ≤ 100 ∧ P.cd.length ≤ 524288) :
    Calls Try.prog 13 #[.agg #[.slice (some ⟨hg, 0, none⟩) P.gh.length (P.gh.length + 3), .slice (some ⟨hv, 0, none⟩) P.vs.length (P.vs.length + 3), .slice (some ⟨ht, 0, none⟩) P.ts.length (P.ts.length + 5), .slice (some ⟨ho, 0, none⟩) P.os.length (P.os.length + 5), .int .i64 P.miss, .slice (some ⟨hcd, 0, none⟩) P.cd.length (P.cd.length + 9)]] W fun en w' => ∃ oa n c m, en = .returned (.tuple #[.agg #[.slice oa n c, .int .i64 m], .agg #[.int .i64 (runV (modP P l k)).1, .int .i64 (runV (modP P l k)).2.1]]) ∧ CostsAre W.heap.size w' (.agg #[.slice oa n c, .int .i64 m]) (modP P l k) ∧ Below W.heap.size W w' := by
  have e : (modP P l k).cd.length = P.cd.length := modC_len _ _ _
  have := lent_run h ⟨hl.1, hl.2.1, hl.2.2.1, hl.2.2.2.1, by rw [e]; exact hl.2.2.2.2⟩
  rw [e] at this
  exact this
set_option linter.unusedVariables false in
set_option linter.unusedSimpArgs false in
set_option maxRecDepth 100000 in
set_option maxHeartbeats 40000000 in
theorem rounds_i (w : World) (p : PV) (P : Prg) (l : List Int) (ob : Option Addr) (cb : Nat) (h : AMem w p P) (hby : Src w ob l.length (ints l)) (hlm : l.length ≤ maxLen) :
    Calls Try.prog 8 #[p.val, .slice ob l.length cb] w fun en w' => en = .returned (.bool true) ∧ Below w.heap.size w w' := by
  have HFAR := hide (fun (W : World) (hb : Below w.heap.size w W) => far_i W p P (h.below hb))
  have HLEND : Hid (farV P = false → ∀ (W : World), Below w.heap.size w W → Calls Try.prog 12 #[p.val] W _) := hide (fun hf W hb => lend_j W p P (h.below hb) (far_lens hf))
  have HBY := hide hby
  obtain ⟨e1, e2, e3, e4, e5, e6, _, _, _, _, _, l1, l2, l3, l4, l5⟩ := h
  obtain ⟨ga, va, ta, oa, ca, gl, gc, vl, vc, tl, tc, ol, oc, cl, cc, miss⟩ := p
  simp only at e1 e2 e3 e4 e5 e6
  subst e1 e2 e3 e4 e5 e6
  simp only [PV.val] at *
  unfold maxLen at *
  clear hby
  have hB : Below w.heap.size w (w.alloc (.cells #[.slice ga P.gh.length gc, .slice va P.vs.length vc, .slice ta P.ts.length tc, .slice oa P.os.length oc, .int .i64 P.miss, .slice ca P.cd.length cc] 28)) := (Below.refl _ w).alloc (Nat.le_refl _) _
  have kp : Blk (w.alloc (.cells #[.slice ga P.gh.length gc, .slice va P.vs.length vc, .slice ta P.ts.length tc, .slice oa P.os.length oc, .int .i64 P.miss, .slice ca P.cd.length cc] 28)) w.heap.size 28 #[.slice ga P.gh.length gc, .slice va P.vs.length vc, .slice ta P.ts.length tc, .slice oa P.os.length oc, .int .i64 P.miss, .slice ca P.cd.length cc] := Blk.new w 28 _
  have HB := hide hB
  have HP := hide kp
  clear hB kp
  by_cases hf : farV P = true
  · rw [hf] at HFAR
    go_enter Try.func8, Try.ntmps8
    go_wp2_with (first
      | (go_at_call 11
         refine (HFAR.out _ HB.out).mono ?_
         rintro en w1 ⟨rfl, hb1⟩
         have HB1 := hide hb1
         clear hb1)
      | (go_at_call 10
         refine (head_i _).mono ?_
         rintro en w2 ⟨rfl, hb2⟩
         have HB2 := hide hb2
         clear hb2))
    go_ret
    have h1 := HB.out.trans (HB1.out.mono HB.out.size)
    exact ⟨rfl, h1.trans (HB2.out.mono h1.size)⟩
  have hf : farV P = false := by simpa using hf
  have HFF := hide hf
  rw [hf] at HFAR
  clear hf
  by_cases hl0 : l = []
  · subst hl0
    simp only [List.length_nil] at *
    go_enter Try.func8, Try.ntmps8
    go_wp2_with (first
      | (go_at_call 11
         refine (HFAR.out _ HB.out).mono ?_
         rintro en w1 ⟨rfl, hb1⟩
         have HB1 := hide hb1
         clear hb1)
      | (go_at_call 10
         refine (head_i _).mono ?_
         rintro en w2 ⟨rfl, hb2⟩
         have HB2 := hide hb2
         clear hb2))
    go_ret
    have h1 := HB.out.trans (HB1.out.mono HB.out.size)
    exact ⟨rfl, h1.trans (HB2.out.mono h1.size)⟩
  have hlp : 0 < l.length := List.length_pos_iff.2 hl0
  have hlb : ((l.length : Int) == 0) = false := by simp; omega
  clear hl0
  have HHD := hide head_i
  have hln := far_lens HFF.out
  have HLN := hide hln
  obtain ⟨d1, d2, d3, d4, d5⟩ := hln
  have tk1 := 0
  go_enter Try.func8, Try.ntmps8
  go_upto_region 5 with (first
    | (go_at_call 11
       refine (HFAR.out _ HB.out).mono ?_
       rintro en w1 ⟨rfl, hb1⟩
       have HB1 := hide hb1
       have HP := hide (HP.out.below hb1 HP.out.lt)
       have HB := hide (HB.out.trans (hb1.mono HB.out.size))
       have p0 : w1.cell? ⟨w.heap.size, 0, none⟩ = some (.slice ga P.gh.length gc) := by rw [HP.out.cell]; rfl
       have p1 : w1.cell? ⟨w.heap.size, 1, none⟩ = some (.slice va P.vs.length vc) := by rw [HP.out.cell]; rfl
       have p2 : w1.cell? ⟨w.heap.size, 2, none⟩ = some (.slice ta P.ts.length tc) := by rw [HP.out.cell]; rfl
       have p3 : w1.cell? ⟨w.heap.size, 3, none⟩ = some (.slice oa P.os.length oc) := by rw [HP.out.cell]; rfl
       have p4 : w1.cell? ⟨w.heap.size, 4, none⟩ = some (.int .i64 P.miss) := by rw [HP.out.cell]; rfl
       have p5 : w1.cell? ⟨w.heap.size, 5, none⟩ = some (.slice ca P.cd.length cc) := by rw [HP.out.cell]; rfl
       clear hb1)
    | (go_at_call 12
       have _t := tk1
       clear _t tk1
       have tk2 := 0
       refine (HLEND.out HFF.out _ HB.out).mono ?_
       rintro en w2 ⟨gg, gv, gt, go, gcd, rfl, hl2, hb2⟩
       have HL2 := hide hl2
       have HP := hide (HP.out.below hb2 HP.out.lt)
       have HB := hide (HB.out.trans (hb2.mono HB.out.size))
       clear hl2 hb2)
    | (go_at_call 13
       have _t := tk2
       clear _t tk2
       have tk3 := 0
       refine (verifyRun_i _ (lentPV gg gv gt go gcd P) P (HL2.out.mem (lens_max HLN.out)) (HL2.out.mv (lens_os HLN.out))).mono ?_
       rintro en w3 ⟨oa1, n1, c1, m1, rfl, hc3, hb3⟩
       have HC3 := hide hc3
       have HB3 := hide hb3
       have HP := hide (HP.out.below hb3 HP.out.lt)
       have HB := hide (HB.out.trans (hb3.mono HB.out.size))
       have p0 : ∀ o o1, ((w3.alloc o).alloc o1).cell? ⟨w.heap.size, 0, none⟩ = some (.slice ga P.gh.length gc) := fun o o1 => (World.cell?_alloc_lt (w3.alloc o) o1 _ (by have := HP.out.lt; simp; omega)).trans ((World.cell?_alloc_lt w3 o _ (by exact HP.out.lt)).trans (by rw [HP.out.cell]; rfl))
       have p1 : ∀ o o1, ((w3.alloc o).alloc o1).cell? ⟨w.heap.size, 1, none⟩ = some (.slice va P.vs.length vc) := fun o o1 => (World.cell?_alloc_lt (w3.alloc o) o1 _ (by have := HP.out.lt; simp; omega)).trans ((World.cell?_alloc_lt w3 o _ (by exact HP.out.lt)).trans (by rw [HP.out.cell]; rfl))
       have p2 : ∀ o o1, ((w3.alloc o).alloc o1).cell? ⟨w.heap.size, 2, none⟩ = some (.slice ta P.ts.length tc) := fun o o1 => (World.cell?_alloc_lt (w3.alloc o) o1 _ (by have := HP.out.lt; simp; omega)).trans ((World.cell?_alloc_lt w3 o _ (by exact HP.out.lt)).trans (by rw [HP.out.cell]; rfl))
       have p3 : ∀ o o1, ((w3.alloc o).alloc o1).cell? ⟨w.heap.size, 3, none⟩ = some (.slice oa P.os.length oc) := fun o o1 => (World.cell?_alloc_lt (w3.alloc o) o1 _ (by have := HP.out.lt; simp; omega)).trans ((World.cell?_alloc_lt w3 o _ (by exact HP.out.lt)).trans (by rw [HP.out.cell]; rfl))
       have p4 : ∀ o o1, ((w3.alloc o).alloc o1).cell? ⟨w.heap.size, 4, none⟩ = some (.int .i64 P.miss) := fun o o1 => (World.cell?_alloc_lt (w3.alloc o) o1 _ (by have := HP.out.lt; simp; omega)).trans ((World.cell?_alloc_lt w3 o _ (by exact HP.out.lt)).trans (by rw [HP.out.cell]; rfl))
       have p5 : ∀ o o1, ((w3.alloc o).alloc o1).cell? ⟨w.heap.size, 5, none⟩ = some (.slice ca P.cd.length cc) := fun o o1 => (World.cell?_alloc_lt (w3.alloc o) o1 _ (by have := HP.out.lt; simp; omega)).trans ((World.cell?_alloc_lt w3 o _ (by exact HP.out.lt)).trans (by rw [HP.out.cell]; rfl))
       clear hc3 hb3)
    | (go_at_call 12
       have _t := tk3
       clear _t tk3
       have tk4 := 0
       refine (HLEND.out HFF.out _ ((HB.out.alloc HB.out.size _).alloc (by have := HB.out.size; simp; omega) _)).mono ?_
       rintro en w4 ⟨hg, hv, ht, ho, hcd, rfl, hl4, hb4⟩
       have HL4 := hide hl4
       have HB4 := hide hb4
       clear hl4 hb4))
  have kC : Blk (w4.alloc (.cells #[.slice (some ⟨hg, 0, none⟩) P.gh.length (P.gh.length + 3), .slice (some ⟨hv, 0, none⟩) P.vs.length (P.vs.length + 3), .slice (some ⟨ht, 0, none⟩) P.ts.length (P.ts.length + 5), .slice (some ⟨ho, 0, none⟩) P.os.length (P.os.length + 5), .int .i64 P.miss, .slice (some ⟨hcd, 0, none⟩) P.cd.length (P.cd.length + 9)] 28)) w3.heap.size 32 #[.slice oa1 n1 c1, .int .i64 m1] := (((Blk.new w3 32 #[.slice oa1 n1 c1, .int .i64 m1]).alloc _).below HB4.out (((Blk.new w3 32 #[.slice oa1 n1 c1, .int .i64 m1]).alloc _).lt)).alloc _
  have kF : Blk (w4.alloc (.cells #[.slice (some ⟨hg, 0, none⟩) P.gh.length (P.gh.length + 3), .slice (some ⟨hv, 0, none⟩) P.vs.length (P.vs.length + 3), .slice (some ⟨ht, 0, none⟩) P.ts.length (P.ts.length + 5), .slice (some ⟨ho, 0, none⟩) P.os.length (P.os.length + 5), .int .i64 P.miss, .slice (some ⟨hcd, 0, none⟩) P.cd.length (P.cd.length + 9)] 28)) (w3.heap.size + 1) 35 #[.int .i64 (runV P).1, .int .i64 (runV P).2.1] := by
    have k0 : Blk ((w3.alloc (.cells #[.slice oa1 n1 c1, .int .i64 m1] 32)).alloc (.cells #[.int .i64 (runV P).1, .int .i64 (runV P).2.1] 35)) (w3.heap.size + 1) 35 #[.int .i64 (runV P).1, .int .i64 (runV P).2.1] := by
      have := Blk.new (w3.alloc (.cells #[.slice oa1 n1 c1, .int .i64 m1] 32)) 35 #[.int .i64 (runV P).1, .int .i64 (runV P).2.1]
      simpa using this
    exact (k0.below HB4.out k0.lt).alloc _
  have kq : Blk (w4.alloc (.cells #[.slice (some ⟨hg, 0, none⟩) P.gh.length (P.gh.length + 3), .slice (some ⟨hv, 0, none⟩) P.vs.length (P.vs.length + 3), .slice (some ⟨ht, 0, none⟩) P.ts.length (P.ts.length + 5), .slice (some ⟨ho, 0, none⟩) P.os.length (P.os.length + 5), .int .i64 P.miss, .slice (some ⟨hcd, 0, none⟩) P.cd.length (P.cd.length + 9)] 28)) w4.heap.size 28 #[.slice (some ⟨hg, 0, none⟩) P.gh.length (P.gh.length + 3), .slice (some ⟨hv, 0, none⟩) P.vs.length (P.vs.length + 3), .slice (some ⟨ht, 0, none⟩) P.ts.length (P.ts.length + 5), .slice (some ⟨ho, 0, none⟩) P.os.length (P.os.length + 5), .int .i64 P.miss, .slice (some ⟨hcd, 0, none⟩) P.cd.length (P.cd.length + 9)] := Blk.new w4 28 _
  have hb45 : Below w4.heap.size w4 (w4.alloc (.cells #[.slice (some ⟨hg, 0, none⟩) P.gh.length (P.gh.length + 3), .slice (some ⟨hv, 0, none⟩) P.vs.length (P.vs.length + 3), .slice (some ⟨ht, 0, none⟩) P.ts.length (P.ts.length + 5), .slice (some ⟨ho, 0, none⟩) P.os.length (P.os.length + 5), .int .i64 P.miss, .slice (some ⟨hcd, 0, none⟩) P.cd.length (P.cd.length + 9)] 28)) := (Below.refl _ w4).alloc (Nat.le_refl _) _
  have hl5 : Lent (w4.alloc (.cells #[.slice (some ⟨hg, 0, none⟩) P.gh.length (P.gh.length + 3), .slice (some ⟨hv, 0, none⟩) P.vs.length (P.vs.length + 3), .slice (some ⟨ht, 0, none⟩) P.ts.length (P.ts.length + 5), .slice (some ⟨ho, 0, none⟩) P.os.length (P.os.length + 5), .int .i64 P.miss, .slice (some ⟨hcd, 0, none⟩) P.cd.length (P.cd.length + 9)] 28)) _ hg hv ht ho hcd P := HL4.out.below hb45
  have hb3 : Below w.heap.size w ((w3.alloc (.cells #[.slice oa1 n1 c1, .int .i64 m1] 32)).alloc (.cells #[.int .i64 (runV P).1, .int .i64 (runV P).2.1] 35)) := (HB.out.alloc HB.out.size _).alloc (by have := HB.out.size; simp; omega) _
  have hb35 : Below w3.heap.size w3 (w4.alloc (.cells #[.slice (some ⟨hg, 0, none⟩) P.gh.length (P.gh.length + 3), .slice (some ⟨hv, 0, none⟩) P.vs.length (P.vs.length + 3), .slice (some ⟨ht, 0, none⟩) P.ts.length (P.ts.length + 5), .slice (some ⟨ho, 0, none⟩) P.os.length (P.os.length + 5), .int .i64 P.miss, .slice (some ⟨hcd, 0, none⟩) P.cd.length (P.cd.length + 9)] 28)) := (((Below.refl _ w3).alloc (Nat.le_refl _) _).alloc (by simp) _).trans ((HB4.out.trans (hb45.mono HB4.out.size)).mono (by simp; omega))
  have hb5 : Below w.heap.size w (w4.alloc (.cells #[.slice (some ⟨hg, 0, none⟩) P.gh.length (P.gh.length + 3), .slice (some ⟨hv, 0, none⟩) P.vs.length (P.vs.length + 3), .slice (some ⟨ht, 0, none⟩) P.ts.length (P.ts.length + 5), .slice (some ⟨ho, 0, none⟩) P.os.length (P.os.length + 5), .int .i64 P.miss, .slice (some ⟨hcd, 0, none⟩) P.cd.length (P.cd.length + 9)] 28)) := HB.out.trans (hb35.mono HB.out.size)
  have hc5 : CostsAre w2.heap.size (w4.alloc (.cells #[.slice (some ⟨hg, 0, none⟩) P.gh.length (P.gh.length + 3), .slice (some ⟨hv, 0, none⟩) P.vs.length (P.vs.length + 3), .slice (some ⟨ht, 0, none⟩) P.ts.length (P.ts.length + 5), .slice (some ⟨ho, 0, none⟩) P.os.length (P.os.length + 5), .int .i64 P.miss, .slice (some ⟨hcd, 0, none⟩) P.cd.length (P.cd.length + 9)] 28)) _ P := HC3.out.below hb35
  have hcdw : w.heap.size ≤ hcd := Nat.le_trans hb3.size hl5.base.2.2.2.2
  have HLB := hide hb3.size
  generalize (w4.alloc (.cells #[.slice (some ⟨hg, 0, none⟩) P.gh.length (P.gh.length + 3), .slice (some ⟨hv, 0, none⟩) P.vs.length (P.vs.length + 3), .slice (some ⟨ht, 0, none⟩) P.ts.length (P.ts.length + 5), .slice (some ⟨ho, 0, none⟩) P.os.length (P.os.length + 5), .int .i64 P.miss, .slice (some ⟨hcd, 0, none⟩) P.cd.length (P.cd.length + 9)] 28)) = W5 at *
  have HKC := hide kC
  have HKF := hide kF
  have HKQ := hide kq
  have HL5 := hide hl5
  have HB5 := hide hb5
  have HC5 := hide hc5
  have HHW := hide hcdw
  clear kC kF kq hl5 hb5 hc5 hcdw hb3 hb35 hb45 HL4 HB4 HC3 HB3 HL2 HP HB HB1
  generalize w4.heap.size = qb at *
  generalize w3.heap.size = fb at *
  obtain ⟨e, he⟩ : ∃ e, e = (runV P).1 := ⟨_, rfl⟩
  obtain ⟨at_, hat⟩ : ∃ e, e = (runV P).2.1 := ⟨_, rfl⟩
  rw [← he, ← hat] at HKF ⊢
  have HE := hide he
  have HAT := hide hat
  clear he hat
  go_wp2_with fail
  go_loopw [8] (fun tx W => ∃ i : Nat, tx = .int .i64 (i : Int) ∧ i ≤ P.cd.length ∧ Blk W hcd 46 (codeV (modC P.cd l i ++ marksC P.cd.length)).toArray ∧ Only (fun k => k = hcd) W5 W) (fun tx _ => P.cd.length - (intOf tx).toNat)
  case atStart => exact ⟨0, rfl, Nat.zero_le _, by rw [modC_zero]; exact HL5.out.c, Only.refl _ _⟩
  case round =>
    obtain ⟨i, rfl, hi, hk, hon⟩ := hrel
    rename World => W
    have u1 := IntWalk.i64_in ((i : Int) + 1) (by omega)
    have HK := hide hk
    have HON := hide hon
    have kq := HKQ.out.only hon (HKQ.out.ne_ HL5.out.c (by decide))
    have q5 : W.cell? ⟨qb, 5, none⟩ = some (.slice (some ⟨hcd, 0, none⟩) P.cd.length (P.cd.length + 9)) := by rw [kq.cell]; rfl
    clear kq
    by_cases hlt : i < P.cd.length
    · obtain ⟨x, hx⟩ : ∃ x, P.cd[i]? = some x := ⟨_, List.getElem?_eq_getElem hlt⟩
      have hxi : (modC P.cd l i ++ marksC P.cd.length)[i]? = some x := by rw [List.getElem?_append_left (by rw [modC_len]; exact hlt), modC_get hx, if_neg (by omega)]
      obtain ⟨g0, g1, g2, g3, g4⟩ := codeV_get hxi
      have c0 : W.cell? ⟨hcd, i * 5, none⟩ = some (.int .i64 x.op) := by rw [hk.cell]; simpa using g0
      have c1 : W.cell? ⟨hcd, i * 5 + 1, none⟩ = some (.int .i64 x.a) := by rw [hk.cell]; simpa using g1
      have c2 : W.cell? ⟨hcd, i * 5 + 2, none⟩ = some (.int .i64 x.b) := by rw [hk.cell]; simpa using g2
      have c3 : W.cell? ⟨hcd, i * 5 + 3, none⟩ = some (.int .i64 x.c) := by rw [hk.cell]; simpa using g3
      have c4 : W.cell? ⟨hcd, i * 5 + 4, none⟩ = some (.int .i64 x.d) := by rw [hk.cell]; simpa using g4
      have hlt9 : i < P.cd.length + 9 := by omega
      obtain ⟨xo, xa, xb, xc, xd⟩ := x
      simp only at c0 c1 c2 c3 c4
      have HX := hide hx
      clear hxi g0 g1 g2 g3 g4 hx hk hon
      by_cases h24 : xo = 24
      · subst h24
        by_cases ha0 : 0 ≤ xa
        · by_cases ha1 : xa ≤ 4194304
          · go_upto_region 10 with fail
            have hmod : i % l.length < l.length := Nat.mod_lt _ hlp
            obtain ⟨bv, hbv⟩ : ∃ bv, l[i % l.length]? = some bv := ⟨_, List.getElem?_eq_getElem hmod⟩
            obtain ⟨ab, eb, hgb, hcb⟩ := HBY.out hlp
            subst eb
            have hcb := hcb (i % l.length) (.int .i64 bv) (by simp [ints, hbv])
            have hbX : Below w.heap.size w W := below_only HB5.out HON.out HHW.out HB5.out.size
            have kx : Blk (W.alloc (.cells #[.int .i64 24, .int .i64 xa, .int .i64 xb, .int .i64 xc, .int .i64 xd] 46)) W.heap.size 46 #[.int .i64 24, .int .i64 xa, .int .i64 xb, .int .i64 xc, .int .i64 xd] := Blk.new W 46 _
            have y1 : (W.alloc (.cells #[.int .i64 24, .int .i64 xa, .int .i64 xb, .int .i64 xc, .int .i64 xd] 46)).cell? ⟨W.heap.size, 1, none⟩ = some (.int .i64 xa) := by rw [kx.cell]; rfl
            have y2 : (W.alloc (.cells #[.int .i64 24, .int .i64 xa, .int .i64 xb, .int .i64 xc, .int .i64 xd] 46)).cell? (ab.add (i % l.length)) = some (.int .i64 bv) := (World.cell?_alloc_lt W _ _ (by rw [add_block]; have := hbX.size; omega)).trans ((hbX.cell (by rw [add_block]; exact hgb)).trans hcb)
            have y3 : (W.alloc (.cells #[.int .i64 24, .int .i64 xa, .int .i64 xb, .int .i64 xc, .int .i64 xd] 46)).cell? ⟨qb, 5, none⟩ = some (.slice (some ⟨hcd, 0, none⟩) P.cd.length (P.cd.length + 9)) := (World.cell?_alloc_lt W _ _ (by have := (HKQ.out.only HON.out (HKQ.out.ne_ HL5.out.c (by decide))).lt; exact this)).trans q5
            have y4 : (W.alloc (.cells #[.int .i64 24, .int .i64 xa, .int .i64 xb, .int .i64 xc, .int .i64 xd] 46)).cell? ⟨hcd, i * 5 + 1, none⟩ = some (.int .i64 xa) := (World.cell?_alloc_lt W _ _ (by exact HK.out.lt)).trans c1
            have y5 := (HK.out.alloc (.cells #[.int .i64 24, .int .i64 xa, .int .i64 xb, .int .i64 xc, .int .i64 xd] 46)).frozen (i * 5 + 1)
            have HKX := hide (HK.out.alloc (.cells #[.int .i64 24, .int .i64 xa, .int .i64 xb, .int .i64 xc, .int .i64 xd] 46))
            have HONX := hide (HON.out.alloc (.cells #[.int .i64 24, .int .i64 xa, .int .i64 xb, .int .i64 xc, .int .i64 xd] 46))
            have hst := modC_step (l := l) HX.out
            have hmi : modI ⟨24, xa, xb, xc, xd⟩ ((l[i % l.length]?).getD 0) = ⟨24, xa + withinV bv (4194304 - xa + 1), xb, xc, xd⟩ := by rw [hbv]; unfold modI; rw [if_pos ⟨rfl, ha0, ha1⟩]; rfl
            rw [hmi] at hst
            have HST := hide hst
            have hwi := within_in bv (4194304 - xa + 1) (by omega)
            have hwc := fun (Y : World) => within_i Y bv (4194304 - xa + 1) (by omega) (by omega)
            generalize withinV bv (4194304 - xa + 1) = kv at *
            have hrem : (i : Int).tmod (l.length : Int) = ((i % l.length : Nat) : Int) := rfl
            have hl0 : (l.length : Int) ≠ 0 := by omega
            have hl00 : ¬ l = [] := fun h => by rw [h] at hlp; simp at hlp
            have hl01 : l.length ≠ 0 := by omega
            have v2 := IntWalk.i64_in ((i % l.length : Nat) : Int) (by omega)
            have v3 := IntWalk.i64_in (4194304 - xa) (by omega)
            have v4 := IntWalk.i64_in (4194304 - xa + 1) (by omega)
            have v5 := IntWalk.i64_in (xa + kv) (by omega)
            generalize (W.alloc (.cells #[.int .i64 24, .int .i64 xa, .int .i64 xb, .int .i64 xc, .int .i64 xd] 46)) = X at *
            generalize i % l.length = im at *
            clear kx hbX hst hmi q5 c0 c1 c2 c3 c4 hbv hcb
            refine wp_region_still_tail 20 (by kernel_rfl) (by kernel_rfl) ?_
            simp only [List.take_succ_cons, List.take_zero, List.drop_succ_cons, List.drop_zero]
            change wpStill _ _ X.drew _ _ _
            repeat still_step
            still_call (hwc _)
            repeat still_step
            refine wpStill_nil ?_
            change wpList _ _ _ _ _ X.drew
            clear hrem hl0 hl00 hl01 v2 v3 v4
            go_wp2_with fail
            go_roundw
            case rel =>
              refine ⟨i + 1, by go_num, by omega, ?_, (HONX.out.setCell (.inl rfl) _).drew⟩
              have h1 := (HKX.out.set_ (i * 5 + 1) (.int .i64 (xa + kv))).drew
              rw [code_set1 (x := ⟨24, xa, xb, xc, xd⟩) (by rw [List.getElem?_append_left (by rw [modC_len]; exact hlt), modC_get HX.out, if_neg (by omega)]), List.set_append, if_pos (by rw [modC_len]; exact hlt)] at h1
              rw [← HST.out]
              exact h1
            case measure => simp [intOf]; omega
          · have hn := modC_keep (l := l) HX.out (fun h => ha1 h.2.2)
            have HN := hide hn
            clear hn
            go_wp2_with fail
            go_roundw
            case rel => exact ⟨i + 1, by go_num, by omega, by rw [HN.out]; exact HK.out.alloc _, HON.out.alloc _⟩
            case measure => simp [intOf]; omega
        · have hn := modC_keep (l := l) HX.out (fun h => ha0 h.2.1)
          have HN := hide hn
          clear hn
          go_wp2_with fail
          go_roundw
          case rel => exact ⟨i + 1, by go_num, by omega, by rw [HN.out]; exact HK.out.alloc _, HON.out.alloc _⟩
          case measure => simp [intOf]; omega
      · have hn := modC_keep (l := l) HX.out (fun h => h24 h.1)
        have HN := hide hn
        clear hn
        go_wp2_with fail
        go_roundw
        case rel => exact ⟨i + 1, by go_num, by omega, by rw [HN.out]; exact HK.out.alloc _, HON.out.alloc _⟩
        case measure => simp [intOf]; omega
    · have hil : i = P.cd.length := by omega
      have hk2 := HK.out
      rw [hil] at hk2
      have HIL2 := hide hil
      have hno : ¬ (i : Int) < (P.cd.length : Int) := by omega
      clear hk hon hil hlt u1 q5 hi
      have hl6 : Lent W w.heap.size hg hv ht ho hcd (modP P l P.cd.length) := ⟨HL5.out.g.only HON.out (HL5.out.g.ne_ HL5.out.c (by decide)), HL5.out.v.only HON.out (HL5.out.v.ne_ HL5.out.c (by decide)), HL5.out.t.only HON.out (HL5.out.t.ne_ HL5.out.c (by decide)), HL5.out.o.only HON.out (HL5.out.o.ne_ HL5.out.c (by decide)), by have e : (modP P l P.cd.length).cd.length = P.cd.length := modC_len _ _ _; rw [e]; exact hk2, ⟨by have := HL5.out.base; have := HLB.out; omega, by have := HL5.out.base; have := HLB.out; omega, by have := HL5.out.base; have := HLB.out; omega, by have := HL5.out.base; have := HLB.out; omega, HHW.out⟩, HL5.out.apart⟩
      have HRUN := hide (mod_run hl6 HLN.out)
      have kq := HKQ.out.only HON.out (HKQ.out.ne_ HL5.out.c (by decide))
      have q0 : W.cell? ⟨qb, 0, none⟩ = some (.slice (some ⟨hg, 0, none⟩) P.gh.length (P.gh.length + 3)) := by rw [kq.cell]; rfl
      have q1 : W.cell? ⟨qb, 1, none⟩ = some (.slice (some ⟨hv, 0, none⟩) P.vs.length (P.vs.length + 3)) := by rw [kq.cell]; rfl
      have q2 : W.cell? ⟨qb, 2, none⟩ = some (.slice (some ⟨ht, 0, none⟩) P.ts.length (P.ts.length + 5)) := by rw [kq.cell]; rfl
      have q3 : W.cell? ⟨qb, 3, none⟩ = some (.slice (some ⟨ho, 0, none⟩) P.os.length (P.os.length + 5)) := by rw [kq.cell]; rfl
      have q4 : W.cell? ⟨qb, 4, none⟩ = some (.int .i64 P.miss) := by rw [kq.cell]; rfl
      have q5 : W.cell? ⟨qb, 5, none⟩ = some (.slice (some ⟨hcd, 0, none⟩) P.cd.length (P.cd.length + 9)) := by rw [kq.cell]; rfl
      have hb6 : Below w.heap.size w W := below_only HB5.out HON.out HHW.out HB5.out.size
      have kc6 := HKC.out.only HON.out (HKC.out.ne_ HL5.out.c (by decide))
      have kf6 := HKF.out.only HON.out (HKF.out.ne_ HL5.out.c (by decide))
      have hc6 := costs_only HC5.out HON.out HL5.out.c (by decide)
      have HB6 := hide hb6
      have HKC := hide kc6
      have HKF := hide kf6
      have HC6 := hide hc6
      clear kq hb6 kc6 kf6 hc6 hl6 hk2 HK HON
      obtain ⟨Q, hQ⟩ : ∃ Q, Q = modP P l P.cd.length := ⟨_, rfl⟩
      rw [← hQ] at HRUN
      have HQ := hide hQ
      clear hQ
      obtain ⟨e2, he2⟩ : ∃ e, e = (runV Q).1 := ⟨_, rfl⟩
      obtain ⟨at2, hat2⟩ : ∃ e, e = (runV Q).2.1 := ⟨_, rfl⟩
      rw [← he2, ← hat2] at HRUN
      have HE2 := hide he2
      have HAT2 := hide hat2
      clear he2 hat2
      go_upto_region 12 with (go_at_call 13
                              refine HRUN.out.mono ?_
                              rintro en w13 ⟨oa2, n2, c2, m2, rfl, hc13, hb13⟩
                              have HC13 := hide hc13
                              have HB13 := hide hb13
                              clear hc13 hb13)
      have kf2 : Blk ((w13.alloc (.cells #[.slice oa2 n2 c2, .int .i64 m2] 32)).alloc (.cells #[.int .i64 e2, .int .i64 at2] 35)) (w13.heap.size + 1) 35 #[.int .i64 e2, .int .i64 at2] := by
        have := Blk.new (w13.alloc (.cells #[.slice oa2 n2 c2, .int .i64 m2] 32)) 35 #[.int .i64 e2, .int .i64 at2]
        simpa using this
      have kc2 : Blk ((w13.alloc (.cells #[.slice oa2 n2 c2, .int .i64 m2] 32)).alloc (.cells #[.int .i64 e2, .int .i64 at2] 35)) w13.heap.size 32 #[.slice oa2 n2 c2, .int .i64 m2] := (Blk.new w13 32 _).alloc _
      have hb137 : Below w13.heap.size w13 ((w13.alloc (.cells #[.slice oa2 n2 c2, .int .i64 m2] 32)).alloc (.cells #[.int .i64 e2, .int .i64 at2] 35)) := ((Below.refl _ w13).alloc (Nat.le_refl _) _).alloc (by simp) _
      have hbW7 : Below W.heap.size W ((w13.alloc (.cells #[.slice oa2 n2 c2, .int .i64 m2] 32)).alloc (.cells #[.int .i64 e2, .int .i64 at2] 35)) := HB13.out.trans (hb137.mono HB13.out.size)
      have kf1 := HKF.out.below hbW7 HKF.out.lt
      have kc1 := HKC.out.below hbW7 HKC.out.lt
      have hc1 := HC6.out.below hbW7
      have hc2 := HC13.out.below hb137
      have hb7 : Below w.heap.size w ((w13.alloc (.cells #[.slice oa2 n2 c2, .int .i64 m2] 32)).alloc (.cells #[.int .i64 e2, .int .i64 at2] 35)) := HB6.out.trans (hbW7.mono HB6.out.size)
      generalize ((w13.alloc (.cells #[.slice oa2 n2 c2, .int .i64 m2] 32)).alloc (.cells #[.int .i64 e2, .int .i64 at2] 35)) = W7 at *
      generalize w13.heap.size = f2b at *
      have f0 : W7.cell? ⟨fb + 1, 0, none⟩ = some (.int .i64 e) := by rw [kf1.cell]; rfl
      have f1 : W7.cell? ⟨fb + 1, 1, none⟩ = some (.int .i64 at_) := by rw [kf1.cell]; rfl
      have g0 : W7.cell? ⟨f2b + 1, 0, none⟩ = some (.int .i64 e2) := by rw [kf2.cell]; rfl
      have g1 : W7.cell? ⟨f2b + 1, 1, none⟩ = some (.int .i64 at2) := by rw [kf2.cell]; rfl
      have k0 : W7.cell? ⟨fb, 0, none⟩ = some (.slice oa1 n1 c1) := by rw [kc1.cell]; rfl
      have k1 : W7.cell? ⟨fb, 1, none⟩ = some (.int .i64 m1) := by rw [kc1.cell]; rfl
      have l0 : W7.cell? ⟨f2b, 0, none⟩ = some (.slice oa2 n2 c2) := by rw [kc2.cell]; rfl
      have l1 : W7.cell? ⟨f2b, 1, none⟩ = some (.int .i64 m2) := by rw [kc2.cell]; rfl
      have law := rounds_law (modP_more P l P.cd.length)
      rw [← HQ.out, ← HE.out, ← HAT.out, ← HE2.out, ← HAT2.out] at law
      have HC1 := hide hc1
      have HC2 := hide hc2
      have HB7 := hide hb7
      have HKC1 := hide kc1
      have HKC2 := hide kc2
      clear hc1 hc2 hb7 kf1 kf2 kc1 kc2 hb137 hbW7 HB13 HC13 HKF HKC HC6 HB6 HRUN q0 q1 q2 q3 q4 q5
      have hend : ∀ X : World, Below W7.heap.size W7 X → Below w.heap.size w X := fun X hX => HB7.out.trans (hX.mono HB7.out.size)
      have HEND := hide hend
      clear hend
      have LAW := hide law
      clear law
      by_cases hA : e ≠ 0 ∨ e2 = 97
      · rcases LAW.out.1 hA with ⟨h1, h2⟩ | ⟨h1, h2 | h2⟩
        · have he0 : e ≠ 0 := fun h => by rcases hA with h3 | h3; exact h3 h; rw [h3] at h1; omega
          have heb : (e != 0) = true := by simpa using he0
          clear LAW hA
          subst h2 h1
          go_wp2_with (go_at_call 10
                       refine (HHD.out _).mono ?_
                       rintro en w20 ⟨rfl, hb20⟩
                       have HB20 := hide hb20
                       clear hb20)
          go_ret
          exact ⟨rfl, HEND.out _ HB20.out⟩
        · clear LAW hA
          subst h1 h2
          go_wp2_with (go_at_call 10
                       refine (HHD.out _).mono ?_
                       rintro en w20 ⟨rfl, hb20⟩
                       have HB20 := hide hb20
                       clear hb20)
          go_ret
          exact ⟨rfl, HEND.out _ HB20.out⟩
        · clear LAW hA
          subst h1 h2
          by_cases h3 : at_ = at2
          · subst h3
            go_wp2_with (go_at_call 10
                         refine (HHD.out _).mono ?_
                         rintro en w20 ⟨rfl, hb20⟩
                         have HB20 := hide hb20
                         clear hb20)
            go_ret
            exact ⟨rfl, HEND.out _ HB20.out⟩
          · have h4 : (at_ == at2) = false := by simpa using h3
            go_wp2_with (go_at_call 10
                         refine (HHD.out _).mono ?_
                         rintro en w20 ⟨rfl, hb20⟩
                         have HB20 := hide hb20
                         clear hb20)
            go_ret
            exact ⟨rfl, HEND.out _ HB20.out⟩
      · have he : e = 0 := by by_cases h : e = 0; exact h; exact absurd (.inl h) hA
        have h97 : e2 ≠ 97 := fun h => hA (.inr h)
        obtain ⟨he2, hmono⟩ := LAW.out.2 he h97
        have HMO := hide hmono
        clear LAW hmono hA h97
        obtain ⟨o1, cs1, eq1, _, kb1, hx1⟩ := HC1.out.2 (HE.out.symm.trans he)
        obtain ⟨o2, cs2, eq2, _, kb2, hx2⟩ := HC2.out.2 (HE2.out.symm.trans he2)
        have eos : Q.os = P.os := by rw [HQ.out]; rfl
        have emi : Q.miss = P.miss := by rw [HQ.out]; rfl
        rw [eos, emi] at eq2
        rw [eos] at hx2
        injection eq1 with eq1
        injection eq2 with eq2
        simp at eq1 eq2
        obtain ⟨⟨rfl, rfl, rfl⟩, hm1⟩ := eq1
        obtain ⟨⟨rfl, rfl, rfl⟩, hm2⟩ := eq2
        have hmm : m1 ≤ m2 := by rw [hm1, hm2]; exact cost_le HMO.out P.miss
        have hle : ∀ (k : Nat), k < P.os.length → ∃ x y, W7.cell? ⟨o1, k, none⟩ = some (.int .i64 x) ∧ W7.cell? ⟨o2, k, none⟩ = some (.int .i64 y) ∧ x ≤ y ∧ o1 < W7.heap.size ∧ o2 < W7.heap.size := fun k hk => by
          obtain ⟨bk, hbk⟩ : ∃ b, P.os[k]? = some b := ⟨_, List.getElem?_eq_getElem hk⟩
          refine ⟨_, _, (kb1.cell k).trans (hx1 k _ (by rw [costsV, List.getElem?_map, hbk]; rfl)), (kb2.cell k).trans (hx2 k _ (by rw [costsV, List.getElem?_map, hbk]; rfl)), ?_, kb1.lt, kb2.lt⟩
          have := HMO.out bk
          dsimp only
          split <;> omega
        have HLE := hide hle
        clear hle hx1 hx2 kb1 kb2 hm1 hm2 eos emi HC1 HC2 HMO
        subst he he2
        go_wp2_with fail
        clear k0 k1 l0 l1 f0 f1 g0 g1
        go_loopw [12] (fun tx X => ∃ k : Nat, tx = .int .i64 (k : Int) ∧ k ≤ P.os.length ∧ Below W7.heap.size W7 X) (fun tx _ => P.os.length - (intOf tx).toNat)
        case atStart => exact ⟨0, rfl, Nat.zero_le _, Below.refl _ _⟩
        case round =>
          obtain ⟨k, rfl, hk, hbx⟩ := hrel
          rename World => X
          have u1 := IntWalk.i64_in ((k : Int) + 1) (by omega)
          have kk1 := HKC1.out.below hbx HKC1.out.lt
          have kk2 := HKC2.out.below hbx HKC2.out.lt
          have k0 : X.cell? ⟨fb, 0, none⟩ = some (.slice (some ⟨o1, 0, none⟩) P.os.length P.os.length) := by rw [kk1.cell]; rfl
          have l0 : X.cell? ⟨f2b, 0, none⟩ = some (.slice (some ⟨o2, 0, none⟩) P.os.length P.os.length) := by rw [kk2.cell]; rfl
          have HBX := hide hbx
          clear kk1 kk2
          by_cases hlt : k < P.os.length
          · obtain ⟨x, y, cx, cy, hxy, ho1, ho2⟩ := HLE.out k hlt
            have cx := (hbx.cell (by exact ho1)).trans cx
            have cy := (hbx.cell (by exact ho2)).trans cy
            have k0d : X.drew.cell? ⟨fb, 0, none⟩ = some (.slice (some ⟨o1, 0, none⟩) P.os.length P.os.length) := k0
            have l0d : X.drew.cell? ⟨f2b, 0, none⟩ = some (.slice (some ⟨o2, 0, none⟩) P.os.length P.os.length) := l0
            have cxd : X.drew.cell? ⟨o1, k, none⟩ = some (.int .i64 x) := cx
            have cyd : X.drew.cell? ⟨o2, k, none⟩ = some (.int .i64 y) := cy
            have hno : ¬ y < x := by omega
            clear hbx hxy ho1 ho2
            go_upto_region 19 with fail
            go_region
            all_goals
              go_wp2_with fail
              go_roundw
              case rel => exact ⟨k + 1, by go_num, by omega, HBX.out.drew⟩
              case measure => simp [intOf]; omega
          · have hno : ¬ (k : Int) < (P.os.length : Int) := by omega
            clear hlt hbx
            go_wp2_with (go_at_call 10
                         refine (HHD.out _).mono ?_
                         rintro en w20 ⟨rfl, hb20⟩
                         have HB20 := hide hb20
                         clear hb20)
            go_ret
            exact ⟨rfl, HEND.out _ (HBX.out.trans (HB20.out.mono HBX.out.size))⟩
end Go.Proofs.Ytjflllfkgbhemaa

/- A program that was handed in, as lists. Conditions: none. -/
namespace Go.Proofs.Ytjflllfkgbhemaa.opened
open Go.ChangeShapes Go.WideShapes Go.ChangeAt Go.RowKit Go.Deep
set_option linter.unusedVariables false
section
variable {H : Type} {enc : TypeId × Value → H} {w : World} {base : Nat} {held : Bool}
theorem src_slice1 {α : Type} [Inhabited α] {t e : TypeId} {fuel : Nat} {c : Value} {x : DataW H × List MemPlace} (ht : Try.prog.underlying t = some (.slice e)) (hc : Try.prog.cellsOf e = 1)
    (h : DataW.trod enc Try.prog w base (fun _ => true) held fuel t [c] = some x) (f : α → Value) (kind : ∀ (V : Value) (n : Nat) (y : DataW H × List MemPlace), DataW.trod enc Try.prog w base (fun _ => true) held n e [V] = some y → ∃ u, V = f u) :
    ∃ oa cap, ∃ l : List α, c = .slice oa l.length cap ∧ Src w oa l.length (l.map f) ∧ l.length ≤ cap ∧ cap ≤ maxLen := by
  rcases open_slice1 ht hc h with ⟨h0, _⟩ | ⟨a, len, cap, m, n, V, D, Pl, h0, hb, hl, hm, hmm, _, hx⟩
  · injection h0 with h0
    exact ⟨none, 0, [], h0, fun h => absurd h (by simp), Nat.le_refl _, Nat.zero_le _⟩
  · injection h0 with h0
    simp only [if_true] at hmm
    obtain ⟨U, hU⟩ := choose_lt (α := α) (p := fun i u => V i = f u) (n := len) (fun i hi => kind _ _ _ (hx i (by omega)).2)
    refine ⟨some a, cap, (List.range len).map U, by rw [h0]; simp, fun hp => ?_, by simpa using hl, hm⟩
    have hp : 0 < len := by simpa using hp
    refine ⟨a, rfl, ?_, fun j v hj => ?_⟩
    · have := lt_of_cell (hx 0 (by omega)).1
      rwa [add_block] at this
    · have hjl : j < len := by have := (List.getElem?_eq_some_iff.1 hj).1; simpa using this
      rw [(hx j (by omega)).1, hU j hjl]
      simpa [hjl] using hj
theorem src_bools {fuel : Nat} {c : Value} {x : DataW H × List MemPlace} (h : DataW.trod enc Try.prog w base (fun _ => true) held fuel 23 [c] = some x) :
    ∃ oa cap, ∃ l : List Bool, c = .slice oa l.length cap ∧ Src w oa l.length (boolsV l) ∧ l.length ≤ cap ∧ cap ≤ maxLen :=
  src_slice1 Try.underlying23 (by kernel_rfl) h Value.bool fun V n y hy => by
    obtain ⟨b, hb, _⟩ := DataW.trod_bool Try.underlying4 hy
    exact ⟨b, by simpa using hb⟩
theorem src_ints {fuel : Nat} {c : Value} {x : DataW H × List MemPlace} (h : DataW.trod enc Try.prog w base (fun _ => true) held fuel 25 [c] = some x) :
    ∃ oa cap, ∃ l : List Int, c = .slice oa l.length cap ∧ Src w oa l.length (ints l) ∧ l.length ≤ cap ∧ cap ≤ maxLen :=
  src_slice1 Try.underlying25 (by kernel_rfl) h (fun x => .int .i64 x) fun V n y hy => by
    obtain ⟨b, hb, _⟩ := DataW.trod_int Try.underlying3 hy
    exact ⟨b, by simpa using hb⟩
theorem src_vars {fuel : Nat} {c : Value} {x : DataW H × List MemPlace} (h : DataW.trod enc Try.prog w base (fun _ => true) held fuel 24 [c] = some x) :
    ∃ oa cap, ∃ l : List Vr, c = .slice oa l.length cap ∧ Src w oa l.length (varsV l) ∧ l.length ≤ cap ∧ cap ≤ maxLen := by
  rcases open_slice_fields Try.underlying24 Try.underlying49 (by kernel_rfl) (by kernel_rfl) h with ⟨h0, _⟩ | ⟨a, len, cap, m, D, Pl, h0, hb, hl, hm, hmm, _, hx⟩
  · injection h0 with h0
    exact ⟨none, 0, [], h0, fun h => absurd h (by simp), Nat.le_refl _, Nat.zero_le _⟩
  · injection h0 with h0
    simp only [if_true] at hmm
    have : Inhabited Vr := ⟨⟨0, 0, 0⟩⟩
    obtain ⟨U, hU⟩ := choose_lt (α := Vr) (p := fun i u => w.cell? (a.add (i * 3)) = some (.int .i64 u.init) ∧ w.cell? (a.add (i * 3 + 1)) = some (.int .i64 u.lo) ∧ w.cell? (a.add (i * 3 + 2)) = some (.int .i64 u.hi)) (n := len) (fun i hi => by
      obtain ⟨ys, k, _, _, _, hf⟩ := hx i (by omega)
      obtain ⟨v0, y0, c0, _, t0⟩ := hf 0 _ rfl
      obtain ⟨v1, y1, c1, _, t1⟩ := hf 1 _ rfl
      obtain ⟨v2, y2, c2, _, t2⟩ := hf 2 _ rfl
      obtain ⟨n0, e0, _⟩ := DataW.trod_int Try.underlying3 t0
      obtain ⟨n1, e1, _⟩ := DataW.trod_int Try.underlying3 t1
      obtain ⟨n2, e2, _⟩ := DataW.trod_int Try.underlying3 t2
      injection e0 with e0
      injection e1 with e1
      injection e2 with e2
      subst e0 e1 e2
      exact ⟨⟨n0, n1, n2⟩, c0, c1, c2⟩)
    refine ⟨some a, cap, (List.range len).map U, by rw [h0]; simp, fun hp => ?_, by simpa using hl, hm⟩
    have hp : 0 < len := by simpa using hp
    refine ⟨a, rfl, ?_, fun j v hj => ?_⟩
    · have := lt_of_cell (hU 0 hp).1
      rwa [add_block] at this
    · have hjl : j < len * 3 := by have := (List.getElem?_eq_some_iff.1 hj).1; rw [varsV_len] at this; simpa using this
      have hy : ((List.range len).map U)[j / 3]? = some (U (j / 3)) := by rw [List.getElem?_map, List.getElem?_range (by omega)]; rfl
      obtain ⟨c0, c1, c2⟩ := varsV_get hy
      obtain ⟨d0, d1, d2⟩ := hU (j / 3) (by omega)
      obtain h3 | h3 | h3 : j = j / 3 * 3 ∨ j = j / 3 * 3 + 1 ∨ j = j / 3 * 3 + 2 := by omega
      · rw [h3] at hj ⊢; rw [c0] at hj; rw [d0]; exact hj
      · rw [h3] at hj ⊢; rw [c1] at hj; rw [d1]; exact hj
      · rw [h3] at hj ⊢; rw [c2] at hj; rw [d2]; exact hj
theorem src_code {fuel : Nat} {c : Value} {x : DataW H × List MemPlace} (h : DataW.trod enc Try.prog w base (fun _ => true) held fuel 26 [c] = some x) :
    ∃ oa cap, ∃ l : List Ins, c = .slice oa l.length cap ∧ Src w oa l.length (codeV l) ∧ l.length ≤ cap ∧ cap ≤ maxLen := by
  rcases open_slice_fields Try.underlying26 Try.underlying46 (by kernel_rfl) (by kernel_rfl) h with ⟨h0, _⟩ | ⟨a, len, cap, m, D, Pl, h0, hb, hl, hm, hmm, _, hx⟩
  · injection h0 with h0
    exact ⟨none, 0, [], h0, fun h => absurd h (by simp), Nat.le_refl _, Nat.zero_le _⟩
  · injection h0 with h0
    simp only [if_true] at hmm
    have : Inhabited Ins := ⟨⟨0, 0, 0, 0, 0⟩⟩
    obtain ⟨U, hU⟩ := choose_lt (α := Ins) (p := fun i u => w.cell? (a.add (i * 5)) = some (.int .i64 u.op) ∧ w.cell? (a.add (i * 5 + 1)) = some (.int .i64 u.a) ∧ w.cell? (a.add (i * 5 + 2)) = some (.int .i64 u.b) ∧ w.cell? (a.add (i * 5 + 3)) = some (.int .i64 u.c) ∧ w.cell? (a.add (i * 5 + 4)) = some (.int .i64 u.d)) (n := len) (fun i hi => by
      obtain ⟨ys, k, _, _, _, hf⟩ := hx i (by omega)
      obtain ⟨v0, y0, c0, _, t0⟩ := hf 0 _ rfl
      obtain ⟨v1, y1, c1, _, t1⟩ := hf 1 _ rfl
      obtain ⟨v2, y2, c2, _, t2⟩ := hf 2 _ rfl
      obtain ⟨v3, y3, c3, _, t3⟩ := hf 3 _ rfl
      obtain ⟨v4, y4, c4, _, t4⟩ := hf 4 _ rfl
      obtain ⟨n0, e0, _⟩ := DataW.trod_int Try.underlying3 t0
      obtain ⟨n1, e1, _⟩ := DataW.trod_int Try.underlying3 t1
      obtain ⟨n2, e2, _⟩ := DataW.trod_int Try.underlying3 t2
      obtain ⟨n3, e3, _⟩ := DataW.trod_int Try.underlying3 t3
      obtain ⟨n4, e4, _⟩ := DataW.trod_int Try.underlying3 t4
      injection e0 with e0
      injection e1 with e1
      injection e2 with e2
      injection e3 with e3
      injection e4 with e4
      subst e0 e1 e2 e3 e4
      exact ⟨⟨n0, n1, n2, n3, n4⟩, c0, c1, c2, c3, c4⟩)
    refine ⟨some a, cap, (List.range len).map U, by rw [h0]; simp, fun hp => ?_, by simpa using hl, hm⟩
    have hp : 0 < len := by simpa using hp
    refine ⟨a, rfl, ?_, fun j v hj => ?_⟩
    · have := lt_of_cell (hU 0 hp).1
      rwa [add_block] at this
    · have hjl : j < len * 5 := by have := (List.getElem?_eq_some_iff.1 hj).1; rw [codeV_len] at this; simpa using this
      have hy : ((List.range len).map U)[j / 5]? = some (U (j / 5)) := by rw [List.getElem?_map, List.getElem?_range (by omega)]; rfl
      obtain ⟨c0, c1, c2, c3, c4⟩ := codeV_get hy
      obtain ⟨d0, d1, d2, d3, d4⟩ := hU (j / 5) (by omega)
      obtain h3 | h3 | h3 | h3 | h3 : j = j / 5 * 5 ∨ j = j / 5 * 5 + 1 ∨ j = j / 5 * 5 + 2 ∨ j = j / 5 * 5 + 3 ∨ j = j / 5 * 5 + 4 := by omega
      · rw [h3] at hj ⊢; rw [c0] at hj; rw [d0]; exact hj
      · rw [h3] at hj ⊢; rw [c1] at hj; rw [d1]; exact hj
      · rw [h3] at hj ⊢; rw [c2] at hj; rw [d2]; exact hj
      · rw [h3] at hj ⊢; rw [c3] at hj; rw [d3]; exact hj
      · rw [h3] at hj ⊢; rw [c4] at hj; rw [d4]; exact hj
end
set_option maxRecDepth 100000 in
theorem open_prog {H : Type} {enc : TypeId × Value → H} {W : World} {r : Reach} {b0 : Nat} {v : Value} {d : DataW H} {p : List MemPlace} (hv : Value.okWide Try.prog W r b0 28 v)
    (h : DataW.Trod enc Try.prog W 0 (fun _ => true) true 28 v d p) : ∃ q P, v = PV.val q ∧ AMem W q P := by
  obtain ⟨fuel, hf⟩ := h
  obtain ⟨cs, rfl, hsz⟩ := okWide_struct Try.underlying28 hv
  obtain ⟨ys, n, _, _, hl, hyl, hfs⟩ := DataW.trod_struct Try.underlying28 hf
  have h28 : Try.prog.cellsOf 28 = 6 := by kernel_rfl
  obtain ⟨c0, c1, c2, c3, c4, c5, rfl⟩ : ∃ c0 c1 c2 c3 c4 c5, cs = #[c0, c1, c2, c3, c4, c5] := by
    rcases cs with ⟨l⟩
    have hl6 : l.length = 6 := by rw [← h28, ← hsz]; rfl
    match l, hl6 with
    | [c0, c1, c2, c3, c4, c5], _ => exact ⟨c0, c1, c2, c3, c4, c5, rfl⟩
  have get : ∀ (i : Nat), i < 6 → ∃ y, ys[i]? = some y := fun i hi => ⟨_, List.getElem?_eq_getElem (by rw [hyl]; exact hi)⟩
  obtain ⟨y0, hy0⟩ := get 0 (by decide)
  obtain ⟨y1, hy1⟩ := get 1 (by decide)
  obtain ⟨y2, hy2⟩ := get 2 (by decide)
  obtain ⟨y3, hy3⟩ := get 3 (by decide)
  obtain ⟨y4, hy4⟩ := get 4 (by decide)
  obtain ⟨y5, hy5⟩ := get 5 (by decide)
  have f0 : DataW.trod enc Try.prog W 0 (fun _ => true) true n 23 [c0] = some y0 := (hfs 0 _ rfl).trans hy0
  have f1 : DataW.trod enc Try.prog W 0 (fun _ => true) true n 24 [c1] = some y1 := (hfs 1 _ rfl).trans hy1
  have f2 : DataW.trod enc Try.prog W 0 (fun _ => true) true n 25 [c2] = some y2 := (hfs 2 _ rfl).trans hy2
  have f3 : DataW.trod enc Try.prog W 0 (fun _ => true) true n 25 [c3] = some y3 := (hfs 3 _ rfl).trans hy3
  have f4 : DataW.trod enc Try.prog W 0 (fun _ => true) true n 3 [c4] = some y4 := (hfs 4 _ rfl).trans hy4
  have f5 : DataW.trod enc Try.prog W 0 (fun _ => true) true n 26 [c5] = some y5 := (hfs 5 _ rfl).trans hy5
  obtain ⟨ga, gc, gl, rfl, sg, g1, g2⟩ := src_bools f0
  obtain ⟨va, vc, vl, rfl, sv, v1, v2⟩ := src_vars f1
  obtain ⟨ta, tc, tl, rfl, st, t1, t2⟩ := src_ints f2
  obtain ⟨oa, oc, ol, rfl, so, o1, o2⟩ := src_ints f3
  obtain ⟨mi, em, _⟩ := DataW.trod_int Try.underlying3 f4
  injection em with em
  subst em
  obtain ⟨ca, cc, cl, rfl, sc, d1, d2⟩ := src_code f5
  exact ⟨⟨ga, va, ta, oa, ca, gl.length, gc, vl.length, vc, tl.length, tc, ol.length, oc, cl.length, cc, mi⟩, ⟨gl, vl, tl, ol, mi, cl⟩, rfl, ⟨rfl, rfl, rfl, rfl, rfl, rfl, sg, sv, st, so, sc, ⟨Nat.le_trans g1 g2, Nat.le_trans v1 v2, Nat.le_trans t1 t2, Nat.le_trans o1 o2, Nat.le_trans d1 d2⟩⟩⟩
set_option maxRecDepth 100000 in
theorem open_ints25 {H : Type} {enc : TypeId × Value → H} {W : World} {r : Reach} {b0 : Nat} {v : Value} {d : DataW H} {p : List MemPlace} (hv : Value.okWide Try.prog W r b0 25 v)
    (h : DataW.Trod enc Try.prog W 0 (fun _ => true) true 25 v d p) : ∃ oa cap, ∃ l : List Int, v = .slice oa l.length cap ∧ Src W oa l.length (ints l) ∧ l.length ≤ maxLen := by
  obtain ⟨fuel, hf⟩ := h
  obtain ⟨oa, len, cap, rfl⟩ := okWide_slice Try.underlying25 hv
  obtain ⟨oa', cap', l, e, hs, h1, h2⟩ := src_ints (c := .slice oa len cap) hf
  exact ⟨oa', cap', l, e, hs, Nat.le_trans h1 h2⟩
end Go.Proofs.Ytjflllfkgbhemaa.opened
