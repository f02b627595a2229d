/- Several texts in one: What the reference makes of a plan, as functions on lists: its code is the program's. Nothing here names the program. Lines of the reference's in memory: rows of the call's own, and appends to them. The walks of winnowref14's smallest functions: end, kids, one, jump, plain, item. The writer of the reference in memory; the contract of its code; the walk of item. The walks of the reference's branch and either. Conditions: those of each. -/
import Derived.Test.YtdpokdcendgfeaaZ5
import Derived.Laws.AppendOwnNone
import Derived.Test.YtdpokdcendgfeaaZ3
import Derived.Test.YtdpokdcendgfeaaZ7
set_option linter.unusedSimpArgs false
set_option linter.unusedVariables false
set_option maxHeartbeats 40000000
namespace Go.Proofs.Ytdpokdcendgfeaa
/-- an instruction of the reference's: its row; does its place count from where it stands? -/
structure Ln where
 i : In
 row : Nat
 jp : Bool
def oneL (row : Nat) (o a b c d : Int) : Ln := ⟨⟨o, a, b, c, d⟩, row, false⟩
def jmpL (row : Nat) (o a : Int) : Ln := ⟨⟨o, a, 0, 0, 0⟩, row, true⟩
def itemL (row : Nat) (y : Ac) (x e tag : Int) : Ln := if y.k = 17 then oneL row x tag 0 0 0 else oneL row e y.a y.b tag 0
def fromL : List Int := [6, 7, 8, 9, 10, 11, 12, 13, 14, 15, 16, 19, 20, 21, 22, 23, 24, 4, 26, 27, 30, 31, 32, 33, 34, 35, 36, 28, 29]
def toL : List Int := [31, 32, 33, 34, 35, 36, 37, 38, 39, 40, 41, 1, 2, 3, 4, 7, 8, 28, 11, 12, 15, 16, 17, 18, 19, 20, 21, 13, 14]
def lookL : List Int → List Int → Int → Int
 | f :: fs, t :: ts, k => if f = k then t else lookL fs ts k
 | _, _, _ => -1
def plainL (k : Int) : Int := lookL fromL toL k
theorem plainL_leaf {k : Int} (h : (plainV k).2 = true) : plainL k = (plainV k).1 := by
 have hk : 6 ≤ k ∧ k ≤ 16 ∨ 19 ≤ k ∧ k ≤ 24 := by
   unfold plainV at h
   (repeat' split at h) <;> first | omega | (simp at h)
 have : k = 6 ∨ k = 7 ∨ k = 8 ∨ k = 9 ∨ k = 10 ∨ k = 11 ∨ k = 12 ∨ k = 13 ∨ k = 14 ∨ k = 15 ∨ k = 16 ∨ k = 19 ∨ k = 20 ∨ k = 21 ∨ k = 22 ∨ k = 23 ∨ k = 24 := by omega
 rcases this with rfl | rfl | rfl | rfl | rfl | rfl | rfl | rfl | rfl | rfl | rfl | rfl | rfl | rfl | rfl | rfl | rfl <;> rfl
theorem plainL_behind {k : Int} (h : k = 4 ∨ (26 ≤ k ∧ k ≤ 36)) : plainL k = behindV k := by
 have : k = 4 ∨ k = 26 ∨ k = 27 ∨ k = 28 ∨ k = 29 ∨ k = 30 ∨ k = 31 ∨ k = 32 ∨ k = 33 ∨ k = 34 ∨ k = 35 ∨ k = 36 := by omega
 rcases this with rfl | rfl | rfl | rfl | rfl | rfl | rfl | rfl | rfl | rfl | rfl | rfl <;> rfl
def branchL (g : Nat → List Ln) (i : Nat) (k : List Nat) : List Ln :=
 match k with
 | [a, b] => g a ++ jmpL i 23 ((g b).length + 1) :: g b
 | [a, b, d] => g a ++ jmpL i 23 ((g b).length + 2) :: (g b ++ jmpL i 22 ((g d).length + 1) :: g d)
 | _ => []
def loopL (g : Nat → List Ln) (i : Nat) (x : Ac) (k : List Nat) : List Ln :=
 match k with
 | [a, b] => oneL i 24 x.a 0 0 0 :: jmpL i 25 ((g a).length + (g b).length + 3) :: (g a ++ jmpL i 26 ((g b).length + 2) :: (g b ++ [jmpL i 27 (0 - (g a).length - (g b).length - 2)]))
 | _ => []
def bothL (g : Nat → List Ln) (i : Nat) (k : List Nat) : List Ln :=
 match k with
 | [a, b] => g a ++ jmpL i 23 ((g b).length + 2) :: (g b ++ [jmpL i 22 2, oneL i 2 0 0 0 0])
 | _ => []
def eitherL (g : Nat → List Ln) (i : Nat) (k : List Nat) : List Ln :=
 match k with
 | [a, b] => g a ++ jmpL i 23 3 :: oneL i 2 1 0 0 0 :: jmpL i 22 ((g b).length + 1) :: g b
 | _ => []
/-- a row's code -/
def lnC (l : List Ac) : Nat → Nat → List Ln
 | 0, _ => []
 | f + 1, i =>
   match l[i]? with
   | none => []
   | some x =>
     let k := kidsC l i x
     let g := lnC l f
     if x.k = 2 then branchL g i k
     else if x.k = 3 then loopL g i x k
     else if x.k = 5 then g (k[1]?.getD 0) ++ [itemL i ((l[k[0]?.getD 0]?).getD ⟨0, 0, 0, 0, 0, 0⟩) 29 30 x.a]
     else if x.k = 25 then [itemL i ((l[k[0]?.getD 0]?).getD ⟨0, 0, 0, 0, 0, 0⟩) 9 10 x.a]
     else if x.k = 37 then bothL g i k
     else if x.k = 38 then eitherL g i k
     else if x.k = 1 then (k.map g).flatten
     else (k.map g).flatten ++ [oneL i (plainL x.k) x.a x.b x.c x.d]
theorem lnC_succ (l : List Ac) (f i : Nat) (x : Ac) (hx : l[i]? = some x) : lnC l (f + 1) i =
   if x.k = 2 then branchL (lnC l f) i (kidsC l i x)
   else if x.k = 3 then loopL (lnC l f) i x (kidsC l i x)
   else if x.k = 5 then lnC l f ((kidsC l i x)[1]?.getD 0) ++ [itemL i ((l[(kidsC l i x)[0]?.getD 0]?).getD ⟨0, 0, 0, 0, 0, 0⟩) 29 30 x.a]
   else if x.k = 25 then [itemL i ((l[(kidsC l i x)[0]?.getD 0]?).getD ⟨0, 0, 0, 0, 0, 0⟩) 9 10 x.a]
   else if x.k = 37 then bothL (lnC l f) i (kidsC l i x)
   else if x.k = 38 then eitherL (lnC l f) i (kidsC l i x)
   else if x.k = 1 then ((kidsC l i x).map (lnC l f)).flatten
   else ((kidsC l i x).map (lnC l f)).flatten ++ [oneL i (plainL x.k) x.a x.b x.c x.d] := by
 conv => lhs; unfold lnC
 rw [hx]
/-- an event's code -/
def lnE (l : List Ac) : List Ln := lnC l (l.length + 2) 0 ++ [oneL 0 0 0 0 0 0]
/-- lines in their places -/
def layL : Nat → List Ln → List (In × Nat)
 | _, [] => []
 | c, x :: xs => ((if x.jp = true then { x.i with a := (c : Int) + x.i.a } else x.i), x.row) :: layL (c + 1) xs
theorem layL_nil (c : Nat) : layL c [] = [] := rfl
theorem layL_length : ∀ (xs : List Ln) (c : Nat), (layL c xs).length = xs.length
 | [], _ => rfl
 | x :: xs, c => by simp [layL, layL_length xs]
theorem layL_append : ∀ (xs ys : List Ln) (c : Nat), layL c (xs ++ ys) = layL c xs ++ layL (c + xs.length) ys
 | [], ys, c => by simp [layL]
 | x :: xs, ys, c => by
   simp only [List.cons_append, layL, layL_append xs ys, List.length_cons, List.cons.injEq, true_and, List.append_cancel_left_eq]
   congr 1
   omega
theorem layL_rows : ∀ (xs : List Ln) (c : Nat), (layL c xs).map Prod.snd = xs.map Ln.row
 | [], _ => rfl
 | x :: xs, c => by simp [layL, layL_rows xs]
def finP (y : Cd) : In × Nat := (y.fin, y.row)
theorem fin_say (o a b c d : Int) (row : Nat) : finP (sayC o a b c d row) = (⟨o, a, b, c, d⟩, row) := rfl
theorem fin_jmp (o : Int) (row t : Nat) : finP (jmpC o row t) = (⟨o, (t : Int), 0, 0, 0⟩, row) := rfl
theorem lay_one (c row : Nat) (o a b e d : Int) (xs : List Ln) : layL c (oneL row o a b e d :: xs) = (⟨o, a, b, e, d⟩, row) :: layL (c + 1) xs := rfl
theorem lay_jmp (c row : Nat) (o a : Int) (xs : List Ln) : layL c (jmpL row o a :: xs) = (⟨o, (c : Int) + a, 0, 0, 0⟩, row) :: layL (c + 1) xs := rfl
theorem fin_item (c row : Nat) (y : Ac) (tag x e : Int) : [finP (itemC row y tag x e)] = layL c [itemL row y x e tag] := by
 unfold itemC itemL
 split <;> rfl
theorem seq_same {g : Nat → Nat → List Cd} {h : Nat → List Ln} : ∀ (ks : List Nat) (c : Nat), (∀ k ∈ ks, ∀ c, (g k c).map finP = layL c (h k)) → (seqC g ks c).map finP = layL c (ks.map h).flatten
 | [], c, _ => rfl
 | k :: ks, c, hk => by
   have h1 := hk k (by simp) c
   have hl : (g k c).length = (h k).length := by have := congrArg List.length h1; simpa [layL_length] using this
   simp only [seqC, List.map_append, List.map_cons, List.flatten_cons, layL_append, h1, seq_same ks _ (fun j hj => hk j (by simp [hj])), hl]
theorem jump_eq {o : Int} {a b : Int} {row : Nat} {t s : List (In × Nat)} (h : a = b) (h2 : t = s) : ((⟨o, a, 0, 0, 0⟩, row) : In × Nat) :: t = (⟨o, b, 0, 0, 0⟩, row) :: s := by rw [h, h2]
theorem same_len {m : List Cd} {n : List Ln} {c : Nat} (h : m.map finP = layL c n) : m.length = n.length := by have := congrArg List.length h; simpa [layL_length] using this
theorem lay_at {c d : Nat} (h : c = d) (xs : List Ln) : layL c xs = layL d xs := by rw [h]
theorem ln_same {P : Pl} {l : List Ac} : ∀ (f : Nat) (what : Int) (i e : Nat), Wf P l f what i e → (what ≠ 5 ∧ what ≠ -1) → ∀ c, (actC l f i c).map finP = layL c (lnC l f i)
 | 0, _, _, _, hw, _, _ => hw.elim
 | f + 1, what, i, e, hw, h5, c => by
   have IH := ln_same (P := P) (l := l) f
   obtain ⟨x, hx⟩ : ∃ x, l[i]? = some x := by obtain ⟨x, sp, hx, _⟩ := hw; exact ⟨x, hx⟩
   obtain ⟨sp, hm, hv, h0, hnl, hn, hkids, hks, hwl, hspl⟩ := wf_inv hw hx
   obtain ⟨k0, hk0⟩ : ∃ k0, (l[i + 1]?.map Ac.k).getD 0 = k0 := ⟨_, rfl⟩
   rw [hk0] at hkids hwl
   have hkk := mayV_kind hm h5
   have hkc := kidsC_of hks
   have hA := actC_succ l f i c x hx
   have hL := lnC_succ l f i x hx
   rw [hkc] at hA hL
   obtain ⟨xk, xa, xb, xc, xd, xn⟩ := x
   simp only at hA hL h0 hnl hn hm hks hspl hwl hkk
   by_cases hp : (plainV xk).2 = true
   · rw [if_pos hp] at hA
     have hpk : 6 ≤ xk ∧ xk ≤ 16 ∨ 19 ≤ xk ∧ xk ≤ 24 := by
       unfold plainV at hp
       (repeat' split at hp) <;> first | omega | (simp at hp)
     have hkv : kidsV xk xn = [] := by
       unfold kidsV
       repeat rw [if_neg (by omega)]
     have hn0 := hn (by omega)
     rw [hkv] at hn0
     have hsp : sp = [] := by
       apply List.length_eq_zero_iff.1
       rw [hspl, hn0]
       rfl
     subst hsp
     rw [if_neg (by omega), if_neg (by omega), if_neg (by omega), if_neg (by omega), if_neg (by omega), if_neg (by omega), if_neg (by omega)] at hL
     rw [hA, hL, plainL_leaf hp]
     rfl
   · rw [if_neg hp] at hA
     have hpl0 := plainV_kinds hkk hp
     by_cases h1 : xk = 1
     · subst h1
       rw [if_pos rfl] at hA
       rw [if_neg (by omega), if_neg (by omega), if_neg (by omega), if_neg (by omega), if_neg (by omega), if_neg (by omega), if_pos rfl] at hL
       rw [hA, hL]
       refine seq_same _ _ (fun k hk => ?_)
       obtain ⟨r, hr, rfl⟩ := List.mem_map.1 hk
       obtain ⟨w, hw1, hw2⟩ := kids_all _ _ _ _ hkids r hr
       simp [wantsV] at hw1
       exact IH w r.1 r.2 hw2 (by omega)
     · rw [if_neg h1] at hA
       by_cases h2 : xk = 2
       · subst h2
         rw [if_pos rfl] at hA hL
         have hn2 := hn (by decide)
         by_cases h3 : xn = 3
         · subst h3
           have hwv : wantsV ⟨2, xa, xb, xc, xd, 3⟩ k0 = [3, 1, 1] := by simp [wantsV, kidsV]
           rw [hwv] at hkids
           obtain ⟨j, k, rfl, g1, g2, g3⟩ := kids_three hkids
           simp only [List.map_cons, List.map_nil, ifC] at hA
           simp only [List.map_cons, List.map_nil, branchL] at hL
           have s1 := IH 3 _ _ g1 (by omega) c
           have e1 := same_len s1
           rw [e1] at hA
           have s2 := IH 1 _ _ g2 (by omega) (c + (lnC l f (i + 1)).length + 1)
           have e2 := same_len s2
           rw [e2] at hA
           have s3 := IH 1 _ _ g3 (by omega) (c + (lnC l f (i + 1)).length + 1 + (lnC l f j).length + 1)
           have e3 := same_len s3
           rw [e3] at hA
           rw [hA, hL]
           simp only [List.map_append, List.map_cons, layL_append, lay_jmp, fin_jmp, s1, s2, s3, e1, e2, e3]
           congr 1
           refine jump_eq (by omega) ?_
           congr 1
           refine jump_eq (by omega) rfl
         · have hkv : kidsV 2 xn = [3, 1] := by simp [kidsV, h3]
           rw [hkv] at hn2
           simp at hn2
           subst hn2
           have hwv : wantsV ⟨2, xa, xb, xc, xd, 2⟩ k0 = [3, 1] := by simp [wantsV, kidsV]
           rw [hwv] at hkids
           obtain ⟨j, rfl, g1, g2⟩ := kids_two hkids
           simp only [List.map_cons, List.map_nil, ifC] at hA
           simp only [List.map_cons, List.map_nil, branchL] at hL
           have s1 := IH 3 _ _ g1 (by omega) c
           have e1 := same_len s1
           rw [e1] at hA
           have s2 := IH 1 _ _ g2 (by omega) (c + (lnC l f (i + 1)).length + 1)
           have e2 := same_len s2
           rw [e2] at hA
           rw [hA, hL]
           simp only [List.map_append, List.map_cons, layL_append, lay_jmp, fin_jmp, s1, s2, e1, e2]
           congr 1
           refine jump_eq (by omega) rfl
       · rw [if_neg h2] at hA hL
         by_cases h3 : xk = 3
         · subst h3
           rw [if_pos rfl] at hA hL
           have hn2 := hn (by decide)
           simp [kidsV] at hn2
           subst hn2
           have hwv : wantsV ⟨3, xa, xb, xc, xd, 2⟩ k0 = [3, 1] := by simp [wantsV, kidsV]
           rw [hwv] at hkids
           obtain ⟨j, rfl, g1, g2⟩ := kids_two hkids
           simp only [List.map_cons, List.map_nil, loopC] at hA
           simp only [List.map_cons, List.map_nil, loopL] at hL
           have s1 := IH 3 _ _ g1 (by omega) (c + 2)
           have e1 := same_len s1
           rw [e1] at hA
           have s2 := IH 1 _ _ g2 (by omega) (c + 2 + (lnC l f (i + 1)).length + 1)
           have e2 := same_len s2
           rw [e2] at hA
           rw [hA, hL]
           simp only [List.map_append, List.map_cons, List.map_nil, layL_append, lay_jmp, lay_one, fin_jmp, fin_say, s1, s2, e1, e2, layL_nil]
           congr 1
           refine jump_eq (by omega) ?_
           congr 1
           refine jump_eq (by omega) ?_
           rw [lay_at (show c + 1 + 1 + (lnC l f (i + 1)).length + 1 = c + 2 + (lnC l f (i + 1)).length + 1 by omega)]
           congr 1
           exact jump_eq (by omega) rfl
         · rw [if_neg h3] at hA hL
           by_cases h5' : xk = 5
           · subst h5'
             rw [if_pos rfl] at hA hL
             have hn2 := hn (by decide)
             simp [kidsV] at hn2
             subst hn2
             have hwv : wantsV ⟨5, xa, xb, xc, xd, 2⟩ k0 = [5, 2] := by simp [wantsV, kidsV]
             rw [hwv] at hkids
             obtain ⟨j, rfl, g1, g2⟩ := kids_two hkids
             have s2 := IH 2 _ _ g2 (by omega) c
             rw [hA, hL]
             simp only [List.map_cons, List.map_nil, List.getElem?_cons_succ, List.getElem?_cons_zero, Option.getD_some, List.map_append, layL_append, s2]
             congr 1
             exact fin_item _ _ _ _ _ _
           · rw [if_neg h5'] at hA hL
             by_cases h25 : xk = 25
             · subst h25
               rw [if_pos rfl] at hA hL
               rw [hA, hL]
               simp only [List.map_cons, List.map_nil]
               exact fin_item _ _ _ _ _ _
             · rw [if_neg h25] at hA hL
               by_cases h37 : xk = 37
               · subst h37
                 rw [if_pos rfl] at hA hL
                 have hn2 := hn (by decide)
                 simp [kidsV] at hn2
                 subst hn2
                 have hwv : wantsV ⟨37, xa, xb, xc, xd, 2⟩ k0 = [3, 3] := by simp [wantsV, kidsV]
                 rw [hwv] at hkids
                 obtain ⟨j, rfl, g1, g2⟩ := kids_two hkids
                 simp only [List.map_cons, List.map_nil, andC] at hA
                 simp only [List.map_cons, List.map_nil, bothL] at hL
                 have s1 := IH 3 _ _ g1 (by omega) c
                 have e1 := same_len s1
                 rw [e1] at hA
                 have s2 := IH 3 _ _ g2 (by omega) (c + (lnC l f (i + 1)).length + 1)
                 have e2 := same_len s2
                 rw [e2] at hA
                 rw [hA, hL]
                 simp only [List.map_append, List.map_cons, List.map_nil, layL_append, lay_jmp, lay_one, fin_jmp, fin_say, s1, s2, e1, e2, layL_nil]
                 congr 1
                 refine jump_eq (by omega) ?_
                 congr 1
                 first | done | exact jump_eq (by omega) rfl
               · rw [if_neg h37] at hA hL
                 by_cases h38 : xk = 38
                 · subst h38
                   rw [if_pos rfl] at hA hL
                   have hn2 := hn (by decide)
                   simp [kidsV] at hn2
                   subst hn2
                   have hwv : wantsV ⟨38, xa, xb, xc, xd, 2⟩ k0 = [3, 3] := by simp [wantsV, kidsV]
                   rw [hwv] at hkids
                   obtain ⟨j, rfl, g1, g2⟩ := kids_two hkids
                   simp only [List.map_cons, List.map_nil, orC] at hA
                   simp only [List.map_cons, List.map_nil, eitherL] at hL
                   have s1 := IH 3 _ _ g1 (by omega) c
                   have e1 := same_len s1
                   rw [e1] at hA
                   have s2 := IH 3 _ _ g2 (by omega) (c + (lnC l f (i + 1)).length + 1 + 1 + 1)
                   have e2 := same_len s2
                   rw [e2] at hA
                   rw [hA, hL]
                   simp only [List.map_append, List.map_cons, List.map_nil, layL_append, lay_jmp, lay_one, fin_jmp, fin_say, s1, s2, e1, e2]
                   congr 1
                   refine jump_eq (by omega) ?_
                   congr 1
                   exact jump_eq (by omega) rfl
                 · rw [if_neg h38] at hA hL
                   rw [if_neg h1] at hL
                   have hk2 : xk = 4 ∨ 26 ≤ xk ∧ xk ≤ 36 := by omega
                   have hz : xb = 0 ∧ xc = 0 ∧ xd = 0 := by
                     unfold numV at hv
                     simp only at hv
                     rw [if_neg h3] at hv
                     by_cases h4 : xk = 4
                     · rw [if_pos (.inl h4)] at hv
                       simp at hv
                       omega
                     · rw [if_neg (by omega), if_neg (by omega), if_neg (by omega), if_neg (by omega), if_neg (by omega), if_neg (by omega), if_neg (by omega), if_neg (by omega), if_neg (by omega), if_neg (by omega)] at hv
                       simp at hv
                       omega
                   obtain ⟨rfl, rfl, rfl⟩ := hz
                   have hseq : (seqC (actC l f) (sp.map Prod.fst) c).map finP = layL c ((sp.map Prod.fst).map (lnC l f)).flatten := by
                     refine seq_same _ _ (fun k hk => ?_)
                     obtain ⟨r, hr, rfl⟩ := List.mem_map.1 hk
                     obtain ⟨w, hw0, hw2⟩ : ∃ w, (w ≠ 5 ∧ w ≠ -1) ∧ Wf P l f w r.1 r.2 := by
                       by_cases h34 : xk = 34
                       · subst h34
                         have hwv : wantsV ⟨34, xa, 0, 0, 0, xn⟩ k0 = [4, typeV k0] := by simp [wantsV]
                         rw [hwv] at hkids
                         obtain ⟨j, rfl, g1, g2⟩ := kids_two hkids
                         have := typeV_first g1
                         rw [hk0] at this
                         simp only [List.mem_cons, List.not_mem_nil, or_false] at hr
                         rcases hr with rfl | rfl
                         · exact ⟨4, by decide, g1⟩
                         · exact ⟨_, this, g2⟩
                       · obtain ⟨w, hw1, hw2⟩ := kids_all _ _ _ _ hkids r hr
                         refine ⟨w, ?_, hw2⟩
                         simp only [wantsV, if_neg h1, if_neg h34] at hw1
                         unfold kidsV at hw1
                         (repeat' split at hw1) <;> simp at hw1 <;> omega
                     exact IH w r.1 r.2 hw2 hw0
                   rw [hA, hL, List.map_append, hseq, layL_append, plainL_behind hk2]
                   rfl
/-! the jumps -/
def OkL (x : Ln) : Prop := x.jp = true ↔ S5 x.i.o
theorem ok_one {row : Nat} {o a b c d : Int} (h : ¬ S5 o) : OkL (oneL row o a b c d) := ⟨fun h1 => by simp [oneL] at h1, fun h1 => absurd h1 h⟩
theorem ok_jmp {row : Nat} {o a : Int} (h : S5 o) : OkL (jmpL row o a) := ⟨fun _ => h, fun _ => rfl⟩
theorem ok_item {row : Nat} {y : Ac} {x e tag : Int} (h1 : ¬ S5 x) (h2 : ¬ S5 e) : OkL (itemL row y x e tag) := by
 unfold itemL
 split
 · exact ok_one h1
 · exact ok_one h2
theorem look_ok (p : Int → Prop) (h1 : p (-1)) : ∀ (fs ts : List Int) (k : Int), (∀ t ∈ ts, p t) → p (lookL fs ts k)
 | [], _, _, _ => by simpa [lookL] using h1
 | f :: fs, [], _, _ => by simpa [lookL] using h1
 | f :: fs, t :: ts, k, h => by
   unfold lookL
   split
   · exact h t (by simp)
   · exact look_ok p h1 fs ts k (fun u hu => h u (by simp [hu]))
theorem plain_ok (k : Int) : ¬ S5 (plainL k) := by
 unfold plainL
 refine look_ok (fun o => ¬ S5 o) (by unfold S5; omega) _ _ _ ?_
 unfold toL S5
 decide
theorem lnC_ok (l : List Ac) : ∀ (f i : Nat), ∀ x ∈ lnC l f i, OkL x
 | 0, i, x, h => by simp [lnC] at h
 | f + 1, i, x, h => by
   have IH := lnC_ok l f
   cases hx : l[i]? with
   | none => unfold lnC at h; simp [hx] at h
   | some y =>
     rw [lnC_succ l f i y hx] at h
     have n24 : ¬ S5 24 := by unfold S5; omega
     have n2 : ¬ S5 2 := by unfold S5; omega
     have n29 : ¬ S5 29 := by unfold S5; omega
     have n30 : ¬ S5 30 := by unfold S5; omega
     have n9 : ¬ S5 9 := by unfold S5; omega
     have n10 : ¬ S5 10 := by unfold S5; omega
     have y22 : S5 22 := by unfold S5; omega
     have y23 : S5 23 := by unfold S5; omega
     have y25 : S5 25 := by unfold S5; omega
     have y26 : S5 26 := by unfold S5; omega
     have y27 : S5 27 := by unfold S5; omega
     have hfl : ∀ ks : List Nat, x ∈ (ks.map (lnC l f)).flatten → OkL x := fun ks h => by
       obtain ⟨m, hm, hx⟩ := List.mem_flatten.1 h
       obtain ⟨j, _, rfl⟩ := List.mem_map.1 hm
       exact IH j x hx
     (repeat' split at h)
     · unfold branchL at h
       split at h <;> simp only [List.mem_append, List.mem_cons, List.not_mem_nil] at h
       · rcases h with h | rfl | h
         · exact IH _ _ h
         · exact ok_jmp y23
         · exact IH _ _ h
       · rcases h with h | rfl | h | rfl | h
         · exact IH _ _ h
         · exact ok_jmp y23
         · exact IH _ _ h
         · exact ok_jmp y22
         · exact IH _ _ h
     · unfold loopL at h
       split at h <;> simp only [List.mem_append, List.mem_cons, List.not_mem_nil, or_false] at h
       rcases h with rfl | rfl | h | rfl | h | rfl
       · exact ok_one n24
       · exact ok_jmp y25
       · exact IH _ _ h
       · exact ok_jmp y26
       · exact IH _ _ h
       · exact ok_jmp y27
     · simp only [List.mem_append, List.mem_cons, List.not_mem_nil, or_false] at h
       rcases h with h | rfl
       · exact IH _ _ h
       · exact ok_item n29 n30
     · simp only [List.mem_cons, List.not_mem_nil, or_false] at h
       subst h
       exact ok_item n9 n10
     · unfold bothL at h
       split at h <;> simp only [List.mem_append, List.mem_cons, List.not_mem_nil, or_false] at h
       rcases h with h | rfl | h | rfl | rfl
       · exact IH _ _ h
       · exact ok_jmp y23
       · exact IH _ _ h
       · exact ok_jmp y22
       · exact ok_one n2
     · unfold eitherL at h
       split at h <;> simp only [List.mem_append, List.mem_cons, List.not_mem_nil] at h
       rcases h with h | rfl | rfl | rfl | h
       · exact IH _ _ h
       · exact ok_jmp y23
       · exact ok_one n2
       · exact ok_jmp y22
       · exact IH _ _ h
     · exact hfl _ h
     · simp only [List.mem_append, List.mem_cons, List.not_mem_nil, or_false] at h
       rcases h with h | rfl
       · exact hfl _ h
       · exact ok_one (plain_ok _)
theorem lnE_ok (l : List Ac) : ∀ x ∈ lnE l, OkL x := fun x h => by
 unfold lnE at h
 simp only [List.mem_append, List.mem_cons, List.not_mem_nil, or_false] at h
 rcases h with h | rfl
 · exact lnC_ok l _ _ x h
 · exact ok_one (by unfold S5; omega)
theorem lay_rel : ∀ (L : List Ln) (from_ c : Nat), (∀ x ∈ L, OkL x) → layL (from_ + c) L = (layL c L).map (fun p => (relC from_ p.1, p.2))
 | [], _, _, _ => rfl
 | x :: L, from_, c, h => by
   have h1 := h x (by simp)
   have ih := lay_rel L from_ (c + 1) (fun y hy => h y (by simp [hy]))
   simp only [layL, List.map_cons, ← ih, Nat.add_assoc, List.cons.injEq, Prod.mk.injEq, and_true]
   unfold OkL S5 at h1
   by_cases hj : x.jp = true
   · rw [if_pos hj, if_pos hj]
     unfold relC
     rw [if_pos (h1.1 hj)]
     simp only [In.mk.injEq, true_and, and_true]
     omega
   · rw [if_neg hj, if_neg hj]
     unfold relC
     rw [if_neg (fun h9 => hj (h1.2 h9))]
/-- an event's code in its place -/
theorem ev_same {P : Pl} {l : List Ac} (h : Wf P l (l.length + 2) 1 0 l.length) (m : Nat) : (evC l).map (fun x => relC m x.fin) = (layL m (lnE l)).map Prod.fst ∧ (evC l).map (fun x => (x.row : Int)) = (lnE l).map (fun x => (x.row : Int)) ∧ (evC l).length = (lnE l).length := by
 have h1 := ln_same _ _ _ _ h (by omega) 0
 have h2 : (evC l).map finP = layL 0 (lnE l) := by
   unfold evC lnE
   rw [List.map_append, layL_append, h1]
   rfl
 have h3 := lay_rel (lnE l) m 0 (lnE_ok l)
 rw [Nat.add_zero, ← h2] at h3
 refine ⟨?_, ?_, same_len h2⟩
 · rw [h3]
   simp only [List.map_map]
   rfl
 · have h4 := congrArg (List.map (fun p : In × Nat => ((p.2 : Nat) : Int))) h2
   simp only [List.map_map] at h4
   have h5 := congrArg (List.map (fun n : Nat => (n : Int))) (layL_rows (lnE l) 0)
   simp only [List.map_map] at h5
   have e1 : (fun x : Cd => (x.row : Int)) = (fun p : In × Nat => ((p.2 : Nat) : Int)) ∘ finP := rfl
   rw [e1, h4]
   exact h5
end Go.Proofs.Ytdpokdcendgfeaa
namespace Go.Proofs.Ytdpokdcendgfeaa
open Go.RowKit
def Ln.cells (x : Ln) : List Value := [.int .i64 x.i.o, .int .i64 x.i.a, .int .i64 x.i.b, .int .i64 x.i.c, .int .i64 x.i.d, .int .i64 (x.row : Int), .bool x.jp]
def lcs (l : List Ln) : List Value := (l.map Ln.cells).flatten
theorem lcs_append (a b : List Ln) : lcs (a ++ b) = lcs a ++ lcs b := by simp [lcs]
theorem lcs_length : ∀ l : List Ln, (lcs l).length = l.length * 7
 | [] => rfl
 | x :: l => by
   have := lcs_length l
   simp only [lcs, List.map_cons, List.flatten_cons, List.length_append, List.length_cons] at this ⊢
   rw [this]
   simp only [Ln.cells, List.length_cons, List.length_nil]
   omega
theorem lcs_one (l : List Ln) : ∀ u ∈ lcs l, u.oneCell' = true := fun u hu => by
 simp only [lcs, List.mem_flatten, List.mem_map] at hu
 obtain ⟨_, ⟨x, _, rfl⟩, hu⟩ := hu
 simp only [Ln.cells, List.mem_cons, List.not_mem_nil, or_false] at hu
 rcases hu with rfl | rfl | rfl | rfl | rfl | rfl | rfl <;> rfl
/-- lines of the call's own -/
def Lns (w : World) (B : Nat) (v : Value) (l : List Ln) : Prop := w.ownsRow B 156 7 v l.length (lcs l)
section
variable {w w' : World} {B C : Nat} {v u : Value} {l m : List Ln}
theorem Lns.below (h : Lns w B v l) (hb : Below w.heap.size w w') : Lns w' B v l := own_below h hb (Nat.le_refl _)
theorem Lns.only {S : Nat → Prop} (h : Lns w B v l) (ho : Only S w w') (hS : ∀ k, v.ownBlock = some k → ¬ S k) : Lns w' B v l := own_only h ho hS
theorem Lns.down (h : Lns w B v l) (hC : C ≤ B) : Lns w C v l := own_down h hC
theorem Lns.slice (h : Lns w B v l) : ∃ oa c, v = .slice oa l.length c := own_slice h
theorem Lns.lt (h : Lns w B v l) : ∀ k, v.ownBlock = some k → B ≤ k ∧ k < w.heap.size := fun k hk => World.ownsRow.lt h k hk
theorem Lns.nil (w : World) (B : Nat) : Lns w B (.slice none 0 0) [] := ⟨rfl, .inl ⟨rfl, rfl⟩⟩
theorem Lns.src (h : Lns w B v l) : (v = .slice none 0 0 ∧ l = []) ∨ ∃ g c, v = .slice (some ⟨g, 0, none⟩) l.length c ∧ ∀ j u, (lcs l)[j]? = some u → w.cell? ((⟨g, 0, none⟩ : Addr).add j) = some u := by
 rcases h.2 with ⟨rfl, h0⟩ | ⟨g, c, cur, rfl, _⟩
 · exact .inl ⟨rfl, List.length_eq_zero_iff.1 h0⟩
 · exact .inr ⟨g, c, rfl, World.ownsRow.cells h (g := g) rfl⟩
/-- lines in a block that was made -/
theorem Lns.of_blk {g : Nat} {cs : Array Value} (h : Blk w g 156 cs) (hc : cs.toList = lcs l) (hB : B ≤ g) (hl : l.length ≤ 9000000) : Lns w B (.slice (some ⟨g, 0, none⟩) l.length l.length) l := by
 have hs : cs.size = l.length * 7 := by rw [← Array.length_toList, hc, lcs_length]
 refine ⟨lcs_length l, .inr ⟨g, l.length, cs, rfl, hB, h, Nat.le_refl _, by unfold maxLen; omega, by rw [hs], ?_⟩⟩
 rw [hc]
 exact List.take_of_length_le (by rw [lcs_length]; exact Nat.le_refl _)
end
theorem infL : (Try.prog.info? 156).map (fun i => (i.zero, i.size, i.bytes)) = some (some (.agg #[.int .i64 0, .int .i64 0, .int .i64 0, .int .i64 0, .int .i64 0, .int .i64 0, .bool false]), 7, 56) := by kernel_rfl
/-- an append of lines to lines -/
theorem wp_lns {w : World} {ops : Array Oper} {rest : List Oper} {o : Oper} {a : Act} {Q : Exit → Act → World → Prop} (hg : o.guard = none) (s x : Operand)
   (hop : o.op = Op.call { callee := Callee.builtin Builtin.append, args := #[s, x], argTypes := #[153, 153] })
   {B C : Nat} {v u : Value} {l m : List Ln} (hv : Lns w B v l) (hs : a.eval s = v) (hu : Lns w C u m) (hx : a.eval x = u) (hlm : l.length + m.length ≤ 9000000) (hB : B ≤ w.heap.size)
   (hK : ∀ v' w', Lns w' B v' (l ++ m) → w.grownBy w' v.ownBlock → (v'.ownBlock = v.ownBlock ∨ v'.ownBlock = some w.heap.size) → wpList Try.prog ops Q rest (a.put o.dst v') w') : wpList Try.prog ops Q (o :: rest) a w := by
 obtain ⟨i3, hi3, hz0, hz1, hz2⟩ := info_parts3 infL
 rcases hu.src with ⟨rfl, rfl⟩ | ⟨g, c, rfl, hc⟩
 · refine wpList_append_own_none hg s x 153 hop B 156 i3 7 Try.underlying153 hi3 v l.length (lcs l) hs hv hx ?_
   have := hK v w (by rw [List.append_nil]; exact hv) ⟨rfl, rfl, rfl, Nat.le_refl _, fun _ _ _ => rfl⟩ (.inl rfl)
   exact this
 · refine wpList_append_own_at w hg s x 153 hop B 156 i3 _ 7 56 Try.underlying153 hi3 hz0 hz1 hz2 rfl (by decide) v l.length (lcs l) hs hv ⟨g, 0, none⟩ m.length c (lcs m) hx (lcs_length m) hc (lcs_one m) (by unfold maxLen; omega) (by omega) hB ?_
   intro v' w' h1 h2 _ h3
   exact hK v' w' (by unfold Lns; rw [List.length_append, lcs_append]; exact h1) h2 h3
/-- an append of one line that lies in a block of its own -/
theorem wp_ln1 {w : World} {ops : Array Oper} {rest : List Oper} {o : Oper} {a : Act} {Q : Exit → Act → World → Prop} (hg : o.guard = none) (s x : Operand)
   (hop : o.op = Op.call { callee := Callee.builtin Builtin.append, args := #[s, x], argTypes := #[153, 153] })
   {B : Nat} {v : Value} {l m : List Ln} (hv : Lns w B v l) (hs : a.eval s = v) (g c : Nat) (cs : Array Value) (hb : Blk w g 156 cs) (hcs : cs.toList = lcs m) (hx : a.eval x = .slice (some ⟨g, 0, none⟩) m.length c) (hlm : l.length + m.length ≤ 9000000) (hB : B ≤ w.heap.size)
   (hK : ∀ v' w', Lns w' B v' (l ++ m) → w.grownBy w' v.ownBlock → (v'.ownBlock = v.ownBlock ∨ v'.ownBlock = some w.heap.size) → wpList Try.prog ops Q rest (a.put o.dst v') w') : wpList Try.prog ops Q (o :: rest) a w := by
 obtain ⟨i3, hi3, hz0, hz1, hz2⟩ := info_parts3 infL
 refine wpList_append_own_at w hg s x 153 hop B 156 i3 _ 7 56 Try.underlying153 hi3 hz0 hz1 hz2 rfl (by decide) v l.length (lcs l) hs hv ⟨g, 0, none⟩ m.length c (lcs m) hx (lcs_length m) (fun j u hj => ?_) (lcs_one m) (by unfold maxLen; omega) (by omega) hB ?_
 · have hadd : (⟨g, 0, none⟩ : Addr).add j = ⟨g, j, none⟩ := by unfold Addr.add; split <;> simp_all
   rw [hadd, hb.cell, ← Array.getElem?_toList, hcs, hj]
 · intro v' w' h1 h2 _ h3
   exact hK v' w' (by unfold Lns; rw [List.length_append, lcs_append]; exact h1) h2 h3
end Go.Proofs.Ytdpokdcendgfeaa
namespace Go.Proofs.Ytdpokdcendgfeaa
open Go.RowKit
set_option maxRecDepth 100000 in
theorem endL_i (w : World) (oa : Option Addr) (c : Nat) (l : List Ac) (i e : Nat) (h : Src w oa l.length (acs l)) (hs : Small l) (he : endS l i 1 = some e) (hi : i ≤ l.length) :
   Calls Try.prog 182 #[.slice oa l.length c, .int .i64 (i : Int)] w fun en w' => en = .returned (.int .i64 (e : Int)) ∧ w = w' := by
 have HS := hide h
 have HSM := hide hs
 have HE := hide he
 have hln := hs.1
 clear h hs he
 go_enter Try.func182, Try.ntmps182
 go_wp2_with fail
 go_loopw [1, 5] (fun t1 t5 W => ∃ (j : Nat) (left : Int), t1 = .int .i64 (j : Int) ∧ t5 = .int .i64 left ∧ j ≤ l.length ∧ -1 ≤ left ∧ left ≤ 1 + (j : Int) * 262144 ∧ Hid (endS l j left = some e) ∧ w = W) (fun t1 _ _ => l.length + 1 - (intOf t1).toNat)
 case atStart => exact ⟨i, 1, rfl, rfl, hi, by omega, by omega, HE, rfl⟩
 case round =>
   obtain ⟨j, left, rfl, rfl, hj, hl0, hl1, HES, rfl⟩ := hrel
   by_cases hpos : left ≤ 0
   · have hp : ¬ (0 : Int) < left := by omega
     have hje : j = e := by
       have := HES.out
       rw [endS_stop hpos] at this
       injection this
     subst hje
     go_wp2_with fail
     go_ret
     exact ⟨rfl, rfl⟩
   · have hp : (0 : Int) < left := by omega
     have hjl : j < l.length := by
       rcases Nat.lt_or_ge j l.length with h1 | h1
       · exact h1
       · have := HES.out
         rw [endS_none hpos (List.getElem?_eq_none h1)] at this
         cases this
     have hjI : (j : Int) < (l.length : Int) := by omega
     have hj0 : (0 : Int) ≤ (j : Int) := by omega
     obtain ⟨x, hx⟩ : ∃ x, l[j]? = some x := ⟨_, List.getElem?_eq_getElem hjl⟩
     obtain ⟨ad, rfl, _, _, _, _, _, _, q5⟩ := acs_row HS.out hx
     obtain ⟨hn0, hn1⟩ := HSM.out.2 x (List.mem_of_getElem? hx)
     have HST := hide (endS_step hpos hx)
     have hq1 := IntWalk.i64_in ((j : Int) + 1) (by omega)
     have hq2 := IntWalk.i64_in (left - 1) (by omega)
     have hq3 := IntWalk.i64_in (left - 1 + x.n) (by omega)
     clear hx
     go_wp2_with fail
     go_roundw
     case rel =>
       refine ⟨j + 1, left + (x.n - 1), by go_num, by congr 1; omega, by omega, by omega, by omega, hide ?_, trivial⟩
       have := HES.out
       rw [HST.out] at this
       exact this
     case measure =>
       simp only [intOf]
       omega
set_option maxRecDepth 100000 in
theorem kidsL_i (W : World) (ad : Addr) (c : Nat) (l : List Ac) (h : Src W (some ad) l.length (acs l)) (hs : Small l) (i : Nat) (x : Ac) (sp : List (Nat × Nat)) (hx : l[i]? = some x) (hk : kidsS l x.n.toNat (i + 1) = some sp) (hx0 : 0 ≤ x.n) (hx1 : x.n ≤ (l.length : Int)) :
   Calls Try.prog 156 #[.slice (some ad) l.length c, .int .i64 (i : Int)] W fun en w' => ∃ u, en = .returned u ∧ w'.ownsRow W.heap.size 3 1 u sp.length (ints (sp.map fun r => (r.1 : Int))) ∧ Below W.heap.size W w' := by
 have HS := hide h
 have HSM := hide hs
 have HX := hide hx
 obtain ⟨N, hN⟩ : ∃ N : Nat, x.n = (N : Int) := ⟨x.n.toNat, by omega⟩
 have HN := hide hN
 rw [hN] at hk
 simp only [Int.toNat_natCast] at hk
 have hi := (List.getElem?_eq_some_iff.1 hx).1
 have hl := hs.1
 have hI0 : (0 : Int) ≤ (i : Int) := by omega
 have hI1 : (i : Int) < (l.length : Int) := by omega
 have u1 := IntWalk.i64_in ((i : Int) + 1) (by omega)
 obtain ⟨i3, hi3, hz0, hz1, hz2⟩ := info_parts3 infI
 have HK := hide hk
 have HO0 := hide (World.ownsRow_nil W W.heap.size 3 1)
 have hN1 : N ≤ l.length := by omega
 clear h hs hk hx hN hx0 hx1
 go_enter Try.func156, Try.ntmps156
 go_wp2_with fail
 go_loopw [5, 6, 7] (fun t5 t6 t7 w2 => ∃ (j k : Nat) (ds rest : List (Nat × Nat)), t6 = .int .i64 (k : Int) ∧ t7 = .int .i64 (j : Int) ∧ j ≤ N ∧ k ≤ l.length ∧ w2.ownsRow W.heap.size 3 1 t5 ds.length (ints (ds.map fun r => (r.1 : Int))) ∧ kidsS l (N - j) k = some rest ∧ sp = ds ++ rest ∧ ds.length = j ∧ Below W.heap.size W w2) (fun _ _ t7 _ => N - (intOf t7).toNat)
 case atStart => exact ⟨0, i + 1, [], sp, by go_num, rfl, Nat.zero_le _, by omega, by simpa [ints] using HO0.out, HK.out, rfl, rfl, Below.refl _ _⟩
 case round =>
   obtain ⟨j, k, ds, rest, rfl, rfl, hj, hkl, hown, hks, hsp, hds, hb⟩ := hrel
   rename World => W2
   have HOWN := hide hown
   have HB := hide hb
   have hq2 := IntWalk.i64_in ((j : Int) + 1) (by omega)
   obtain ⟨ad', e', hab, -, -, -, -, -, p5⟩ := acs_row (HS.out.below hb) HX.out
   cases e'
   rw [HN.out] at p5
   by_cases hjn : j < N
   · have hjI : (j : Int) < (N : Int) := by omega
     obtain ⟨m, hm⟩ : ∃ m, N - j = m + 1 := ⟨N - j - 1, by omega⟩
     rw [hm] at hks
     simp only [kidsS] at hks
     cases he : endS l k 1 with
     | none => simp [he] at hks
     | some e =>
       simp only [he] at hks
       cases hr : kidsS l m e with
       | none => simp [hr] at hks
       | some r2 =>
         simp only [hr, Option.map_some, Option.some.injEq] at hks
         have hle := endS_le l _ k 1 e rfl he hkl
         have HR := hide (show kidsS l (N - (j + 1)) e = some r2 by rw [show N - (j + 1) = m by omega]; exact hr)
         have HSP := hide (show sp = (ds ++ [(k, e)]) ++ r2 by rw [hsp, ← hks]; simp)
         obtain ⟨l1, l2, l3⟩ := hle
         have l3' := l3 (by omega)
         have hk0 : (0 : Int) ≤ (k : Int) := by omega
         have hk1 : (k : Int) < (l.length : Int) := by omega
         have HEC := fun (W3 : World) (hb3 : Below W.heap.size W W3) => hide (endL_i W3 (some ad) c l k e (HS.out.below hb3) HSM.out he hkl)
         have HOA := hide (own_keep (w' := W2.alloc (.cells #[.int .i64 (k : Int)] 3)) HOWN.out (fun g hg => Below.heap_alloc _ _ g (HOWN.out.lt g hg).2))
         have HTW := hide (cells_at W2 3 [.int .i64 (k : Int)])
         have hds9 : ds.length ≤ 262144 := by omega
         clear hown hks hsp hb he hr l3 hab
         go_wp2_with (at_builtin
                      refine wpList_append_own_at _ rfl (.tmp 19) (.tmp 21) 24 rfl W.heap.size 3 i3 _ 1 8 Try.underlying24 hi3 hz0 hz1 hz2 rfl (by decide) u5 ds.length (ints (ds.map fun r => (r.1 : Int))) rfl HOA.out ⟨W2.heap.size, 0, none⟩ 1 1 [.int .i64 (k : Int)] rfl rfl HTW.out (by simp [Value.oneCell']) (by unfold maxLen; omega) (by omega) (by have := HB.out.size; simp; omega) ?_
                      rintro v3 w3 hown3 hgr3 hnil3 hat3
                      clear hnil3 hat3
                      have HO3 := hide hown3
                      have HB3 := hide ((HB.out.alloc HB.out.size _).trans (below_grow hgr3 (fun g hg => (HOWN.out.lt g hg).1) (by have := HB.out.size; simp; omega)))
                      clear hown3 hgr3)
         have HE3 := HEC _ HB3.out
         clear p5
         go_wp2_with (go_at_call 182; refine HE3.out.mono ?_; rintro en w4 ⟨rfl, rfl⟩)
         go_roundw
         case rel =>
           refine ⟨j + 1, e, ds ++ [(k, e)], r2, rfl, by go_num, by omega, l2, ?_, HR.out, HSP.out, by simp; omega, HB3.out⟩
           have := HO3.out
           simpa [ints] using this
         case measure =>
           simp only [intOf]
           omega
   · have hjn2 : j = N := by omega
     have hre : rest = [] := by rw [hjn2, Nat.sub_self] at hks; simpa [kidsS] using hks.symm
     have HF := hide (show W2.ownsRow W.heap.size 3 1 u5 sp.length (ints (sp.map fun r => (r.1 : Int))) by rw [hsp, hre, List.append_nil]; exact hown)
     have hjI : ¬ (j : Int) < (N : Int) := by omega
     clear hown hks hsp hb hre hjn2 hab
     go_wp2_with fail
     go_ret
     exact ⟨_, rfl, HF.out, HB.out⟩
def Ln.val (x : Ln) : Value := .agg #[.int .i64 x.i.o, .int .i64 x.i.a, .int .i64 x.i.b, .int .i64 x.i.c, .int .i64 x.i.d, .int .i64 (x.row : Int), .bool x.jp]
def LnTold (x : Ln) (w : World) (en : Ending) (w' : World) : Prop := en = .returned x.val ∧ Below w.heap.size w w'
set_option maxRecDepth 100000 in
theorem oneL_i (w : World) (row : Nat) (o a b c d : Int) : Calls Try.prog 113 #[.int .i64 (row : Int), .int .i64 o, .int .i64 a, .int .i64 b, .int .i64 c, .int .i64 d] w (LnTold (oneL row o a b c d) w) := by
 have HRES := hide (show Try.f113.results = #[.cell 12 156] by kernel_rfl)
 go_enter Try.func113, Try.ntmps113
 go_wp2_with fail
 refine bodyPost_ret (v := (oneL row o a b c d).val) ?_ rfl ⟨rfl, ?_⟩
 · simp only [results, HRES.out, oneL, Ln.val]
   go_simp
 · exact (Below.refl _ w).alloc (Nat.le_refl _) _
set_option maxRecDepth 100000 in
theorem jumpL_i (w : World) (row : Nat) (o a : Int) : Calls Try.prog 158 #[.int .i64 (row : Int), .int .i64 o, .int .i64 a] w (LnTold (jmpL row o a) w) := by
 have HRES := hide (show Try.f158.results = #[.cell 6 156] by kernel_rfl)
 go_enter Try.func158, Try.ntmps158
 go_wp2_with fail
 refine bodyPost_ret (v := (jmpL row o a).val) ?_ rfl ⟨rfl, ?_⟩
 · simp only [results, HRES.out, jmpL, Ln.val]
   go_simp
 · exact (Below.refl _ w).alloc (Nat.le_refl _) _
theorem jump_v (w : World) (row : Nat) (o a : Int) : Calls Try.prog 158 #[.int .i64 (row : Int), .int .i64 o, .int .i64 a] w fun en w' => en = .returned (.agg #[.int .i64 o, .int .i64 a, .int .i64 0, .int .i64 0, .int .i64 0, .int .i64 (row : Int), .bool true]) ∧ Below w.heap.size w w' := jumpL_i w row o a
theorem one_v (w : World) (row : Nat) (o a b c d : Int) : Calls Try.prog 113 #[.int .i64 (row : Int), .int .i64 o, .int .i64 a, .int .i64 b, .int .i64 c, .int .i64 d] w fun en w' => en = .returned (.agg #[.int .i64 o, .int .i64 a, .int .i64 b, .int .i64 c, .int .i64 d, .int .i64 (row : Int), .bool false]) ∧ Below w.heap.size w w' := oneL_i w row o a b c d
theorem look_none : ∀ (fs ts : List Int) (k : Int) (n : Nat), (∀ j, j < n → fs[j]? ≠ some k) → lookL fs ts k = lookL (fs.drop n) (ts.drop n) k
 | _, _, _, 0, _ => by simp
 | [], _, k, n + 1, _ => by simp [lookL]
 | f :: fs, [], k, n + 1, _ => by
   simp only [lookL, List.drop_nil]
   cases (f :: fs).drop (n + 1) <;> rfl
 | f :: fs, t :: ts, k, n + 1, h => by
   have h0 := h 0 (by omega)
   simp at h0
   have ih := look_none fs ts k n (fun j hj => by have := h (j + 1) (by omega); simpa using this)
   simp only [lookL, if_neg h0, List.drop_succ_cons]
   exact ih
theorem look_at {fs ts : List Int} {k t : Int} {n : Nat} (h : ∀ j, j < n → fs[j]? ≠ some k) (hn : fs[n]? = some k) (ht : ts[n]? = some t) : lookL fs ts k = t := by
 rw [look_none fs ts k n h]
 obtain ⟨h1, rfl⟩ := List.getElem?_eq_some_iff.1 hn
 obtain ⟨h2, rfl⟩ := List.getElem?_eq_some_iff.1 ht
 rw [List.drop_eq_getElem_cons h1, List.drop_eq_getElem_cons h2]
 simp [lookL]
theorem look_no {fs ts : List Int} {k : Int} (h : ∀ j, j < fs.length → fs[j]? ≠ some k) : lookL fs ts k = -1 := by
 rw [look_none fs ts k fs.length h, List.drop_length]
 cases ts.drop fs.length <;> rfl
set_option maxRecDepth 100000 in
theorem plainL_i (w : World) (k : Int) : Calls Try.prog 161 #[.int .i64 k] w fun en w' => en = .returned (.int .i64 (plainL k)) ∧ Below w.heap.size w w' := by
 obtain ⟨r, hr⟩ : ∃ r, plainL k = r := ⟨_, rfl⟩
 rw [hr]
 have HR := hide hr
 clear hr
 obtain ⟨fs, hfs⟩ : ∃ fs, fromL = fs := ⟨_, rfl⟩
 obtain ⟨ts, hts⟩ : ∃ ts, toL = ts := ⟨_, rfl⟩
 have HK1 : Hid (Blk (w.alloc (.cells (ints fs).toArray 3)) w.heap.size 3 (ints fs).toArray) := hide (Blk.new w _ _)
 have HK2 : Hid (Blk ((w.alloc (.cells (ints fs).toArray 3)).alloc (.cells (ints ts).toArray 3)) (w.heap.size + 1) 3 (ints ts).toArray) := hide (blk_new2 _ _ _ _)
 have HK3 := hide (HK1.out.alloc (.cells (ints ts).toArray 3))
 have HB := hide (((Below.refl w.heap.size w).alloc (Nat.le_refl _) (.cells (ints fs).toArray 3)).alloc (by simp) (.cells (ints ts).toArray 3))
 have HFL : Hid (fs.length = 29) := hide (by rw [← hfs]; rfl)
 have HTL : Hid (ts.length = 29) := hide (by rw [← hts]; rfl)
 have HR2 : Hid (lookL fs ts k = r) := hide (by rw [← hfs, ← hts]; exact HR.out)
 obtain ⟨W2, hW2⟩ : ∃ W2, (w.alloc (.cells (ints fs).toArray 3)).alloc (.cells (ints ts).toArray 3) = W2 := ⟨_, rfl⟩
 rw [hW2] at HK2 HK3 HB
 rw [← hfs, ← hts] at hW2
 simp only [fromL, toL, ints, List.map_cons, List.map_nil] at hW2
 have HW2 := hide hW2
 clear HK1 hfs hts hW2
 have hs1 := HK3.out.lt
 have hs2 := HK2.out.lt
 go_enter Try.func161, Try.ntmps161
 go_wp2_with fail
 rw [HW2.out]
 go_loopw [5] (fun t5 W => ∃ i : Nat, t5 = .int .i64 (i : Int) ∧ i ≤ 29 ∧ Hid (∀ j, j < i → fs[j]? ≠ some k) ∧ W = W2) (fun t5 _ => 29 - (intOf t5).toNat)
 case atStart => exact ⟨0, rfl, by omega, hide (fun j hj => by omega), rfl⟩
 case round =>
   obtain ⟨i, rfl, hi, HN, rfl⟩ := hrel
   have u1 := IntWalk.i64_in ((i : Int) + 1) (by omega)
   by_cases hlt : i < 29
   · have hltI : (i : Int) < 29 := by omega
     have hi0 : (0 : Int) ≤ (i : Int) := by omega
     obtain ⟨f, hf⟩ : ∃ f, fs[i]? = some f := ⟨_, List.getElem?_eq_getElem (by rw [HFL.out]; exact hlt)⟩
     obtain ⟨t, ht⟩ : ∃ t, ts[i]? = some t := ⟨_, List.getElem?_eq_getElem (by rw [HTL.out]; exact hlt)⟩
     have c1 := blk_int HK3.out hf
     have c2 := blk_int HK2.out ht
     by_cases hfk : f = k
     · subst hfk
       have HRT := hide (show r = t by rw [← HR2.out]; exact look_at HN.out hf ht)
       clear hf ht
       go_wp2_with fail
       go_ret
       exact ⟨by rw [HRT.out]; first | done | rfl, HB.out⟩
     · have HN2 := hide (show ∀ j, j < i + 1 → fs[j]? ≠ some k from fun j hj => by
         rcases Nat.lt_or_ge j i with h1 | h1
         · exact HN.out j h1
         · obtain rfl : j = i := by omega
           rw [hf]
           intro h2
           injection h2 with h2
           exact hfk h2)
       clear hf ht
       go_wp2_with fail
       go_roundw
       case rel => exact ⟨i + 1, by go_num, by omega, HN2, trivial⟩
       case measure => simp [intOf]; omega
   · have hltI : ¬ (i : Int) < 29 := by omega
     have HRT := hide (show r = -1 by rw [← HR2.out]; exact look_no (fun j hj => HN.out j (by have := HFL.out; omega)))
     go_wp2_with fail
     go_ret
     exact ⟨by rw [HRT.out]; first | done | rfl, HB.out⟩
end Go.Proofs.Ytdpokdcendgfeaa
namespace Go.Proofs.Ytdpokdcendgfeaa
open Go.RowKit
theorem ln_len {P : Pl} {l : List Ac} {f : Nat} {what : Int} {i e : Nat} (h : Wf P l f what i e) (h5 : what ≠ 5 ∧ what ≠ -1) : (lnC l f i).length + 4 * i ≤ 4 * e := by
 have h1 := code_le f what i e h 0
 have h2 := same_len (ln_same f what i e h h5 0)
 omega
/-- the writer in memory -/
structure Wr (w : World) (b : Nat) (ad : Addr) (c : Nat) (l : List Ac) : Prop where
 k : Blk w b 152 #[.slice (some ad) l.length c]
 s : Src w (some ad) l.length (acs l)
 m : Small l
theorem Wr.below {w w' : World} {b : Nat} {ad : Addr} {c : Nat} {l : List Ac} (h : Wr w b ad c l) (hb : Below w.heap.size w w') : Wr w' b ad c l := ⟨h.k.below hb h.k.lt, h.s.below hb, h.m⟩
theorem Wr.cell {w : World} {b : Nat} {ad : Addr} {c : Nat} {l : List Ac} (h : Wr w b ad c l) : w.cell? ⟨b, 0, none⟩ = some (.slice (some ad) l.length c) := by rw [h.k.cell]; rfl
/-- lines told -/
def LnsTold (ls : List Ln) (w : World) (en : Ending) (w' : World) : Prop := ∃ oa c, en = .returned (.slice oa ls.length c) ∧ Lns w' w.heap.size (.slice oa ls.length c) ls ∧ Below w.heap.size w w'
theorem lnsTold {ls : List Ln} {w w' : World} {v : Value} (h : Lns w' w.heap.size v ls) (hb : Below w.heap.size w w') : LnsTold ls w (.returned v) w' := by
 obtain ⟨oa, c, rfl⟩ := h.slice
 exact ⟨oa, c, rfl, h, hb⟩
/-- what code tells, of rows with so much fuel -/
def CodeAll (P : Pl) (l : List Ac) (f : Nat) : Prop := ∀ (w : World) (b : Nat) (ad : Addr) (c : Nat) (what : Int) (i e : Nat), Wr w b ad c l → Wf P l f what i e → (what ≠ 5 ∧ what ≠ -1) →
 Calls Try.prog 112 #[.pointer (some ⟨b, 0, none⟩), .int .i64 (i : Int)] w (LnsTold (lnC l f i) w)
/-- the kids' places in memory -/
def KidsAt (w : World) (v : Value) (ks : List Nat) : Prop := ∃ oa c, v = .slice oa ks.length c ∧ Src w oa ks.length (ints (ks.map fun k : Nat => (k : Int)))
theorem KidsAt.below {w w' : World} {v : Value} {ks : List Nat} (h : KidsAt w v ks) (hb : Below w.heap.size w w') : KidsAt w' v ks := by
 obtain ⟨oa, c, rfl, hs⟩ := h
 exact ⟨oa, c, rfl, hs.below hb⟩
theorem kids_at {w : World} {B : Nat} {v : Value} {ks : List Nat} (h : w.ownsRow B 3 1 v ks.length (ints (ks.map fun k : Nat => (k : Int)))) : KidsAt w v ks := by
 rcases h.2 with ⟨rfl, h0⟩ | ⟨g, c, cur, rfl, _⟩
 · exact ⟨none, 0, by rw [h0], fun h1 => by omega⟩
 · refine ⟨_, _, rfl, fun h1 => ⟨_, rfl, (h.lt g (by simp [Value.ownBlock])).2, World.ownsRow.cells h (g := g) rfl⟩⟩
theorem KidsAt.get {w : World} {oa : Option Addr} {n c : Nat} {ks : List Nat} (h : KidsAt w (.slice oa n c) ks) {j k : Nat} (hj : ks[j]? = some k) : n = ks.length ∧ ∃ ad, oa = some ad ∧ ad.block < w.heap.size ∧ w.cell? (ad.add j) = some (.int .i64 (k : Int)) := by
 obtain ⟨oa', c', e, hs⟩ := h
 injection e with e1 e2 e3
 subst e1 e2 e3
 have hjl := (List.getElem?_eq_some_iff.1 hj).1
 obtain ⟨ad, h1, h2, h3⟩ := hs (by omega)
 exact ⟨rfl, ad, h1, h2, h3 j _ (by simp [ints, hj])⟩
theorem blk7 {w : World} {g : Nat} {t : TypeId} {a b c d e f i : Value} (h : Blk w g t #[a, b, c, d, e, f, i]) : (w.cell? ⟨g, 0, none⟩ = some a ∧ w.cell? ⟨g, 1, none⟩ = some b ∧ w.cell? ⟨g, 2, none⟩ = some c ∧ w.cell? ⟨g, 3, none⟩ = some d ∧ w.cell? ⟨g, 4, none⟩ = some e ∧ w.cell? ⟨g, 5, none⟩ = some f ∧ w.cell? ⟨g, 6, none⟩ = some i) ∧
   w.frozen? ⟨g, 0, none⟩ = false ∧ w.frozen? ⟨g, 1, none⟩ = false ∧ w.frozen? ⟨g, 2, none⟩ = false ∧ w.frozen? ⟨g, 3, none⟩ = false ∧ w.frozen? ⟨g, 4, none⟩ = false ∧ w.frozen? ⟨g, 5, none⟩ = false ∧ w.frozen? ⟨g, 6, none⟩ = false :=
 ⟨⟨by rw [h.cell]; rfl, by rw [h.cell]; rfl, by rw [h.cell]; rfl, by rw [h.cell]; rfl, by rw [h.cell]; rfl, by rw [h.cell]; rfl, by rw [h.cell]; rfl⟩, h.frozen 0, h.frozen 1, h.frozen 2, h.frozen 3, h.frozen 4, h.frozen 5, h.frozen 6⟩
theorem set7_below {B g : Nat} {w w' : World} (h : Below B w w') (hg : B ≤ g) (a b c d e f i : Value) : Below B w (((((((w'.setCell ⟨g, 0, none⟩ a).setCell ⟨g, 1, none⟩ b).setCell ⟨g, 2, none⟩ c).setCell ⟨g, 3, none⟩ d).setCell ⟨g, 4, none⟩ e).setCell ⟨g, 5, none⟩ f).setCell ⟨g, 6, none⟩ i) :=
 ((((((h.setCell (p := ⟨g, 0, none⟩) hg _).setCell (p := ⟨g, 1, none⟩) hg _).setCell (p := ⟨g, 2, none⟩) hg _).setCell (p := ⟨g, 3, none⟩) hg _).setCell (p := ⟨g, 4, none⟩) hg _).setCell (p := ⟨g, 5, none⟩) hg _).setCell (p := ⟨g, 6, none⟩) hg _
set_option maxRecDepth 100000 in
theorem itemL_i (w : World) (b : Nat) (ad : Addr) (c : Nat) (l : List Ac) (h : Wr w b ad c l) (row k : Nat) (y : Ac) (x e tag : Int) (hy : l[k]? = some y) :
   Calls Try.prog 159 #[.pointer (some ⟨b, 0, none⟩), .int .i64 (row : Int), .int .i64 (k : Int), .int .i64 x, .int .i64 e, .int .i64 tag] w (LnTold (itemL row y x e tag) w) := by
 have HRES := hide (show Try.f159.results = #[.cell 12 156] by kernel_rfl)
 have ck := h.cell
 have hbl := h.k.lt
 have hkl := (List.getElem?_eq_some_iff.1 hy).1
 have hk0 : (0 : Int) ≤ (k : Int) := by omega
 have hkL : (k : Int) < (l.length : Int) := by omega
 obtain ⟨ad1, e1, hab, hrw⟩ := acs_row h.s hy
 cases e1
 have hro := fun (o : Obj) => hrw.below (by rw [add_block]; exact hab) ((Below.refl w.heap.size w).alloc (Nat.le_refl _) o)
 have cko := fun (o : Obj) => (((Below.refl w.heap.size w).alloc (Nat.le_refl _) o).cell (p := ⟨b, 0, none⟩) hbl).trans ck
 obtain ⟨yk, ya, yb, yc, yd, yn⟩ := y
 unfold RowAt at hro
 have q0 := fun o => (hro o).1
 have q1 := fun o => (hro o).2.1
 have q2 := fun o => (hro o).2.2.1
 have q3 := fun o => (hro o).2.2.2.1
 have q4 := fun o => (hro o).2.2.2.2.1
 have q5 := fun o => (hro o).2.2.2.2.2
 simp only at q0 q1 q2 q3 q4 q5
 have HO := fun (W : World) (a0 a1 a2 a3 a4 : Int) => hide (one_v W row a0 a1 a2 a3 a4)
 clear h hy ck hro hrw
 by_cases h17 : yk = 17
 · subst h17
   have HI : Hid (itemL row ⟨17, ya, yb, yc, yd, yn⟩ x e tag = oneL row x tag 0 0 0) := hide (by unfold itemL; rw [if_pos rfl])
   rw [HI.out]
   have HK2 := hide ((Blk.new w 156 #[.int .i64 0, .int .i64 0, .int .i64 0, .int .i64 0, .int .i64 0, .int .i64 0, .bool false]).alloc (.cells #[.int .i64 17, .int .i64 ya, .int .i64 yb, .int .i64 yc, .int .i64 yd, .int .i64 yn] 49))
   have HB2 := hide (((Below.refl w.heap.size w).alloc (Nat.le_refl _) (.cells #[.int .i64 0, .int .i64 0, .int .i64 0, .int .i64 0, .int .i64 0, .int .i64 0, .bool false] 156)).alloc (by simp) (.cells #[.int .i64 17, .int .i64 ya, .int .i64 yb, .int .i64 yc, .int .i64 yd, .int .i64 yn] 49))
   go_enter Try.func159, Try.ntmps159
   go_wp2_with (go_at_call 113
                refine (HO _ _ _ _ _ _).out.mono ?_
                rintro en w2 ⟨rfl, hb2⟩
                have HB3 := hide (HB2.out.trans (hb2.mono HB2.out.size))
                have hk2 := HK2.out.below hb2 HK2.out.lt
                obtain ⟨⟨z0, z1, z2, z3, z4, z5, z6⟩, y0, y1, y2, y3, y4, y5, y6⟩ := blk7 hk2
                clear hb2 hk2)
   refine bodyPost_ret (v := (oneL row x tag 0 0 0).val) ?_ rfl ⟨rfl, set7_below HB3.out (Nat.le_refl _) _ _ _ _ _ _ _⟩
   simp only [results, HRES.out, oneL, Ln.val]
   go_simp
 · have HI : Hid (itemL row ⟨yk, ya, yb, yc, yd, yn⟩ x e tag = oneL row e ya yb tag 0) := hide (by unfold itemL; rw [if_neg h17])
   rw [HI.out]
   have HK2 := hide ((Blk.new w 156 #[.int .i64 0, .int .i64 0, .int .i64 0, .int .i64 0, .int .i64 0, .int .i64 0, .bool false]).alloc (.cells #[.int .i64 yk, .int .i64 ya, .int .i64 yb, .int .i64 yc, .int .i64 yd, .int .i64 yn] 49))
   have HB2 := hide (((Below.refl w.heap.size w).alloc (Nat.le_refl _) (.cells #[.int .i64 0, .int .i64 0, .int .i64 0, .int .i64 0, .int .i64 0, .int .i64 0, .bool false] 156)).alloc (by simp) (.cells #[.int .i64 yk, .int .i64 ya, .int .i64 yb, .int .i64 yc, .int .i64 yd, .int .i64 yn] 49))
   go_enter Try.func159, Try.ntmps159
   go_wp2_with (go_at_call 113
                refine (HO _ _ _ _ _ _).out.mono ?_
                rintro en w2 ⟨rfl, hb2⟩
                have HB3 := hide (HB2.out.trans (hb2.mono HB2.out.size))
                have hk2 := HK2.out.below hb2 HK2.out.lt
                obtain ⟨⟨z0, z1, z2, z3, z4, z5, z6⟩, y0, y1, y2, y3, y4, y5, y6⟩ := blk7 hk2
                clear hb2 hk2)
   refine bodyPost_ret (v := (oneL row e ya yb tag 0).val) ?_ rfl ⟨rfl, set7_below HB3.out (Nat.le_refl _) _ _ _ _ _ _ _⟩
   simp only [results, HRES.out, oneL, Ln.val]
   go_simp
end Go.Proofs.Ytdpokdcendgfeaa
namespace Go.Proofs.Ytdpokdcendgfeaa
open Go.RowKit
theorem add_pos (a : Addr) {j : Nat} (h : 0 < j) : a.add j = ⟨a.block, a.off + j, none⟩ := by
 unfold Addr.add
 split
 · omega
 · rfl
/-- what code tells of a row, from a world on -/
def CodeAt (w : World) (b k : Nat) (ls : List Ln) : Prop := ∀ w', Below w.heap.size w w' → Calls Try.prog 112 #[.pointer (some ⟨b, 0, none⟩), .int .i64 (k : Int)] w' (LnsTold ls w')
theorem CodeAt.call {w w' : World} {b k : Nat} {ls : List Ln} (h : CodeAt w b k ls) (hb : Below w.heap.size w w') : Calls Try.prog 112 #[.pointer (some ⟨b, 0, none⟩), .int .i64 (k : Int)] w' (LnsTold ls w') := h w' hb
/-- values in blocks apart -/
def Apart (v u : Value) : Prop := ∀ k, v.ownBlock = some k → u.ownBlock ≠ some k
/-- lines under way, others kept apart -/
structure Wk (w0 w : World) (v : Value) (l : List Ln) (us : List (Value × List Ln)) : Prop where
 o : Lns w w0.heap.size v l
 b : Below w0.heap.size w0 w
 u : ∀ p ∈ us, (∃ C, Lns w C p.1 p.2) ∧ Apart v p.1
section
variable {w0 w w' : World} {v v' u : Value} {l m : List Ln} {us : List (Value × List Ln)}
theorem Wk.below (h : Wk w0 w v l us) (hb : Below w.heap.size w w') : Wk w0 w' v l us :=
 ⟨h.o.below hb, h.b.trans (hb.mono h.b.size), fun p hp => by obtain ⟨⟨C, h1⟩, h2⟩ := h.u p hp; exact ⟨⟨C, h1.below hb⟩, h2⟩⟩
theorem Wk.start (hl : Lns w w0.heap.size v l) (hb : Below w0.heap.size w0 w) : Wk w0 w v l [] := ⟨hl, hb, fun p hp => by cases hp⟩
theorem Wk.more (h : Wk w0 w v l us) (hl : Lns w' w.heap.size u m) (hb : Below w.heap.size w w') : Wk w0 w' v l ((u, m) :: us) :=
 ⟨h.o.below hb, h.b.trans (hb.mono h.b.size), fun p hp => by
   rcases List.mem_cons.1 hp with rfl | hp
   · exact ⟨⟨_, hl⟩, fun k h1 h2 => by have := (h.o.lt k h1).2; have := (hl.lt k h2).1; omega⟩
   · obtain ⟨⟨C, h1⟩, h2⟩ := h.u p hp
     exact ⟨⟨C, h1.below hb⟩, h2⟩⟩
theorem Wk.app (h : Wk w0 w v l us) (hl : Lns w' w0.heap.size v' m) (hg : w.grownBy w' v.ownBlock) (hat : v'.ownBlock = v.ownBlock ∨ v'.ownBlock = some w.heap.size) : Wk w0 w' v' m us :=
 ⟨hl, h.b.trans (below_grow hg (fun k hk => (h.o.lt k hk).1) h.b.size), fun p hp => by
   obtain ⟨⟨C, h1⟩, h2⟩ := h.u p hp
   refine ⟨⟨C, own_keep h1 (fun k hk => hg.block k (h1.lt k hk).2 (fun e => h2 k e.symm hk))⟩, fun k e1 e2 => ?_⟩
   rcases hat with e | e
   · exact h2 k (by rw [← e]; exact e1) e2
   · rw [e] at e1
     injection e1 with e1
     have := (h1.lt k e2).2
     omega⟩
theorem Wk.told (h : Wk w0 w v l us) (hm : l = m) : LnsTold m w0 (.returned v) w := lnsTold (hm ▸ h.o) h.b
/-- an append of lines that were just made -/
theorem wk_lines {ops : Array Oper} {rest : List Oper} {o : Oper} {a : Act} {Q : Exit → Act → World → Prop} (h : Wk w0 w v l us) (hg : o.guard = none) (s x : Operand)
   (hop : o.op = Op.call { callee := Callee.builtin Builtin.append, args := #[s, x], argTypes := #[153, 153] })
   (m : List Ln) (cells : Array Value) (c : Nat) (hs : a.eval s = v) (hx : a.eval x = .slice (some ⟨w.heap.size, 0, none⟩) m.length c) (hc : cells.toList = lcs m) (hlm : l.length + m.length ≤ 9000000)
   (hK : ∀ oa c N w', Hid (N = (l ++ m).length) → Wk w0 w' (.slice oa N c) (l ++ m) us → wpList Try.prog ops Q rest (a.put o.dst (.slice oa N c)) w') : wpList Try.prog ops Q (o :: rest) a (w.alloc (.cells cells 156)) := by
 have hb := (Below.refl w.heap.size w).alloc (Nat.le_refl _) (.cells cells 156)
 have h1 := h.below hb
 refine wp_ln1 hg s x hop h1.o hs w.heap.size c cells (Blk.new w _ cells) hc hx hlm h1.b.size ?_
 intro v' w' hl hg hat
 have h2 := h1.app hl hg hat
 obtain ⟨oa, c', e⟩ := hl.slice
 rw [e] at h2 ⊢
 exact hK _ _ _ _ (hide rfl) h2
/-- an append of kept lines -/
theorem wk_own {ops : Array Oper} {rest : List Oper} {o : Oper} {a : Act} {Q : Exit → Act → World → Prop} (h : Wk w0 w v l us) (hg : o.guard = none) (s x : Operand)
   (hop : o.op = Op.call { callee := Callee.builtin Builtin.append, args := #[s, x], argTypes := #[153, 153] })
   (hu : (u, m) ∈ us) (hs : a.eval s = v) (hx : a.eval x = u) (hlm : l.length + m.length ≤ 9000000)
   (hK : ∀ oa c N w', Hid (N = (l ++ m).length) → Wk w0 w' (.slice oa N c) (l ++ m) us → wpList Try.prog ops Q rest (a.put o.dst (.slice oa N c)) w') : wpList Try.prog ops Q (o :: rest) a w := by
 obtain ⟨⟨C, hu⟩, _⟩ := h.u _ hu
 refine wp_lns hg s x hop h.o hs hu hx hlm h.b.size ?_
 intro v' w' hl hg hat
 have h2 := h.app hl hg hat
 obtain ⟨oa, c', e⟩ := hl.slice
 rw [e] at h2 ⊢
 exact hK _ _ _ _ (hide rfl) h2
end
set_option maxRecDepth 100000 in
theorem branch_two (w : World) (b row : Nat) (kv : Value) (k1 k2 : Nat) (A B : List Ln) (hk : KidsAt w kv [k1, k2]) (h1 : CodeAt w b k1 A) (n1 : A.length ≤ 1100000) (h2 : CodeAt w b k2 B) (n2 : B.length ≤ 1100000) : Calls Try.prog 157 #[.pointer (some ⟨b, 0, none⟩), .int .i64 (row : Int), kv] w (LnsTold (A ++ jmpL row 23 (B.length + 1) :: B) w) := by
 obtain ⟨oa, c, rfl, hks⟩ := hk
 have HK : Hid (KidsAt w (.slice oa [k1, k2].length c) [k1, k2]) := hide ⟨oa, c, rfl, hks⟩
 simp only [List.length_cons, List.length_nil, Nat.zero_add, Nat.reduceAdd] at HK ⊢
 have H1 := hide h1
 have H2 := hide h2
 obtain ⟨-, ad0, e0, hd0, q0⟩ := HK.out.get (j := 0) (k := k1) rfl
 cases e0
 have hz0 : ad0.add 0 = ad0 := by unfold Addr.add; split <;> simp_all
 rw [hz0] at q0
 clear hz0
 clear hks h1 h2
 go_enter Try.func157, Try.ntmps157
 go_wp2_with fail
 go_at_call 112
 with_reducible refine (H1.out.call (Below.refl _ _)).mono ?_
 rintro en w1 ⟨o1, c1, rfl, hl, hb⟩
 have HWK := hide (Wk.start hl hb)
 have HB := hide hb
 clear hl hb
 obtain ⟨-, ad1, e1, hd1, q1⟩ := (HK.out.below HB.out).get (j := 1) (k := k2) rfl
 cases e1
 rw [add_pos _ (by omega)] at q1
 go_wp2_with fail
 go_at_call 112
 with_reducible refine (H2.out.call HB.out).mono ?_
 rintro en w2 ⟨o2, c2, rfl, hl, hb⟩
 replace HWK := hide (HWK.out.more hl hb)
 replace HB := hide (HB.out.trans (hb.mono HB.out.size))
 clear hl hb
 go_wp2_with fail
 go_at_call 158
 with_reducible refine (jump_v _ row 23 (B.length + 1)).mono ?_
 rintro en w3 ⟨rfl, hb⟩
 replace HWK := hide (HWK.out.below hb)
 clear hb
 go_upto_region 5 with (at_builtin
                        with_reducible refine wk_lines HWK.out rfl (.tmp 23) (.tmp 29) rfl [jmpL row 23 (B.length + 1)] #[.int .i64 23, .int .i64 ((B.length : Int) + 1), .int .i64 0, .int .i64 0, .int .i64 0, .int .i64 (row : Int), .bool true] 1 rfl rfl rfl (by simp only [List.length_append, List.length_cons, List.length_nil]; omega) ?_
                        rintro o5 c5 n5 w5 HNn5 hk
                        replace HWK := hide hk
                        clear hk)
 go_wp2_with (at_builtin
              with_reducible refine wk_own HWK.out rfl (.tmp 31) (.tmp 32) rfl (u := (Value.slice o2 B.length c2)) (m := B) (by simp) rfl rfl (by simp only [List.length_append, List.length_cons, List.length_nil]; omega) ?_
              rintro o6 c6 n6 w6 HNn6 hk
              replace HWK := hide hk
              clear hk)
 go_ret
 exact HWK.out.told (by simp)
set_option maxRecDepth 100000 in
theorem branch_three (w : World) (b row : Nat) (kv : Value) (k1 k2 k3 : Nat) (A B C : List Ln) (hk : KidsAt w kv [k1, k2, k3]) (h1 : CodeAt w b k1 A) (n1 : A.length ≤ 1100000) (h2 : CodeAt w b k2 B) (n2 : B.length ≤ 1100000) (h3 : CodeAt w b k3 C) (n3 : C.length ≤ 1100000) : Calls Try.prog 157 #[.pointer (some ⟨b, 0, none⟩), .int .i64 (row : Int), kv] w (LnsTold (A ++ jmpL row 23 (B.length + 2) :: (B ++ jmpL row 22 (C.length + 1) :: C)) w) := by
 obtain ⟨oa, c, rfl, hks⟩ := hk
 have HK : Hid (KidsAt w (.slice oa [k1, k2, k3].length c) [k1, k2, k3]) := hide ⟨oa, c, rfl, hks⟩
 simp only [List.length_cons, List.length_nil, Nat.zero_add, Nat.reduceAdd] at HK ⊢
 have H1 := hide h1
 have H2 := hide h2
 have H3 := hide h3
 obtain ⟨-, ad0, e0, hd0, q0⟩ := HK.out.get (j := 0) (k := k1) rfl
 cases e0
 have hz0 : ad0.add 0 = ad0 := by unfold Addr.add; split <;> simp_all
 rw [hz0] at q0
 clear hz0
 clear hks h1 h2 h3
 go_enter Try.func157, Try.ntmps157
 go_wp2_with fail
 go_at_call 112
 with_reducible refine (H1.out.call (Below.refl _ _)).mono ?_
 rintro en w1 ⟨o1, c1, rfl, hl, hb⟩
 have HWK := hide (Wk.start hl hb)
 have HB := hide hb
 clear hl hb
 obtain ⟨-, ad1, e1, hd1, q1⟩ := (HK.out.below HB.out).get (j := 1) (k := k2) rfl
 cases e1
 rw [add_pos _ (by omega)] at q1
 go_wp2_with fail
 go_at_call 112
 with_reducible refine (H2.out.call HB.out).mono ?_
 rintro en w2 ⟨o2, c2, rfl, hl, hb⟩
 replace HWK := hide (HWK.out.more hl hb)
 replace HB := hide (HB.out.trans (hb.mono HB.out.size))
 clear hl hb
 obtain ⟨-, ad2, e2, hd2, q2⟩ := (HK.out.below HB.out).get (j := 2) (k := k3) rfl
 cases e2
 rw [add_pos _ (by omega)] at q2
 go_wp2_with fail
 go_at_call 112
 with_reducible refine (H3.out.call HB.out).mono ?_
 rintro en w3 ⟨o3, c3, rfl, hl, hb⟩
 replace HWK := hide (HWK.out.more hl hb)
 replace HB := hide (HB.out.trans (hb.mono HB.out.size))
 clear hl hb
 go_wp2_with fail
 go_at_call 158
 with_reducible refine (jump_v _ row 23 (B.length + 2)).mono ?_
 rintro en w4 ⟨rfl, hb⟩
 replace HWK := hide (HWK.out.below hb)
 clear hb
 go_upto_region 8 with (at_builtin
                        with_reducible refine wk_lines HWK.out rfl (.tmp 39) (.tmp 45) rfl [jmpL row 23 (B.length + 2)] #[.int .i64 23, .int .i64 ((B.length : Int) + 2), .int .i64 0, .int .i64 0, .int .i64 0, .int .i64 (row : Int), .bool true] 1 rfl rfl rfl (by simp only [List.length_append, List.length_cons, List.length_nil]; omega) ?_
                        rintro o5 c5 n5 w5 HNn5 hk
                        replace HWK := hide hk
                        clear hk)
 go_upto_region 9 with (at_builtin
                        with_reducible refine wk_own HWK.out rfl (.tmp 47) (.tmp 48) rfl (u := (Value.slice o2 B.length c2)) (m := B) (by simp) rfl rfl (by simp only [List.length_append, List.length_cons, List.length_nil]; omega) ?_
                        rintro o6 c6 n6 w6 HNn6 hk
                        replace HWK := hide hk
                        clear hk)
 go_wp2_with fail
 go_at_call 158
 with_reducible refine (jump_v _ row 22 (C.length + 1)).mono ?_
 rintro en w7 ⟨rfl, hb⟩
 replace HWK := hide (HWK.out.below hb)
 clear hb
 go_upto_region 10 with (at_builtin
                         with_reducible refine wk_lines HWK.out rfl (.tmp 50) (.tmp 56) rfl [jmpL row 22 (C.length + 1)] #[.int .i64 22, .int .i64 ((C.length : Int) + 1), .int .i64 0, .int .i64 0, .int .i64 0, .int .i64 (row : Int), .bool true] 1 rfl rfl rfl (by simp only [List.length_append, List.length_cons, List.length_nil]; omega) ?_
                         rintro o8 c8 n8 w8 HNn8 hk
                         replace HWK := hide hk
                         clear hk)
 go_wp2_with (at_builtin
              with_reducible refine wk_own HWK.out rfl (.tmp 58) (.tmp 59) rfl (u := (Value.slice o3 C.length c3)) (m := C) (by simp) rfl rfl (by simp only [List.length_append, List.length_cons, List.length_nil]; omega) ?_
              rintro o9 c9 n9 w9 HNn9 hk
              replace HWK := hide hk
              clear hk)
 go_ret
 exact HWK.out.told (by simp)
set_option maxRecDepth 100000 in
theorem both_two (w : World) (b row : Nat) (kv : Value) (k1 k2 : Nat) (A B : List Ln) (hk : KidsAt w kv [k1, k2]) (h1 : CodeAt w b k1 A) (n1 : A.length ≤ 1100000) (h2 : CodeAt w b k2 B) (n2 : B.length ≤ 1100000) : Calls Try.prog 160 #[.pointer (some ⟨b, 0, none⟩), .int .i64 (row : Int), kv, .bool true] w (LnsTold (A ++ jmpL row 23 (B.length + 2) :: (B ++ [jmpL row 22 2, oneL row 2 0 0 0 0])) w) := by
 obtain ⟨oa, c, rfl, hks⟩ := hk
 have HK : Hid (KidsAt w (.slice oa [k1, k2].length c) [k1, k2]) := hide ⟨oa, c, rfl, hks⟩
 simp only [List.length_cons, List.length_nil, Nat.zero_add, Nat.reduceAdd] at HK ⊢
 have H1 := hide h1
 have H2 := hide h2
 obtain ⟨-, ad0, e0, hd0, q0⟩ := HK.out.get (j := 0) (k := k1) rfl
 cases e0
 have hz0 : ad0.add 0 = ad0 := by unfold Addr.add; split <;> simp_all
 rw [hz0] at q0
 clear hz0
 clear hks h1 h2
 go_enter Try.func160, Try.ntmps160
 go_wp2_with fail
 go_at_call 112
 with_reducible refine (H1.out.call (Below.refl _ _)).mono ?_
 rintro en w1 ⟨o1, c1, rfl, hl, hb⟩
 have HWK := hide (Wk.start hl hb)
 have HB := hide hb
 clear hl hb
 obtain ⟨-, ad1, e1, hd1, q1⟩ := (HK.out.below HB.out).get (j := 1) (k := k2) rfl
 cases e1
 rw [add_pos _ (by omega)] at q1
 go_wp2_with fail
 go_at_call 112
 with_reducible refine (H2.out.call HB.out).mono ?_
 rintro en w2 ⟨o2, c2, rfl, hl, hb⟩
 replace HWK := hide (HWK.out.more hl hb)
 replace HB := hide (HB.out.trans (hb.mono HB.out.size))
 clear hl hb
 go_wp2_with fail
 go_at_call 158
 with_reducible refine (jump_v _ row 23 (B.length + 2)).mono ?_
 rintro en w3 ⟨rfl, hb⟩
 replace HWK := hide (HWK.out.below hb)
 clear hb
 go_upto_region 5 with (at_builtin
                        with_reducible refine wk_lines HWK.out rfl (.tmp 22) (.tmp 28) rfl [jmpL row 23 (B.length + 2)] #[.int .i64 23, .int .i64 ((B.length : Int) + 2), .int .i64 0, .int .i64 0, .int .i64 0, .int .i64 (row : Int), .bool true] 1 rfl rfl rfl (by simp only [List.length_append, List.length_cons, List.length_nil]; omega) ?_
                        rintro o5 c5 n5 w5 HNn5 hk
                        replace HWK := hide hk
                        clear hk)
 go_upto_region 6 with (at_builtin
                        with_reducible refine wk_own HWK.out rfl (.tmp 30) (.tmp 31) rfl (u := (Value.slice o2 B.length c2)) (m := B) (by simp) rfl rfl (by simp only [List.length_append, List.length_cons, List.length_nil]; omega) ?_
                        rintro o6 c6 n6 w6 HNn6 hk
                        replace HWK := hide hk
                        clear hk)
 go_wp2_with fail
 go_at_call 158
 with_reducible refine (jump_v _ row 22 2).mono ?_
 rintro en w7 ⟨rfl, hb⟩
 replace HWK := hide (HWK.out.below hb)
 clear hb
 go_wp2_with fail
 go_at_call 113
 with_reducible refine (one_v _ row 2 0 0 0 0).mono ?_
 rintro en w8 ⟨rfl, hb⟩
 replace HWK := hide (HWK.out.below hb)
 clear hb
 go_wp2_with (at_builtin
              with_reducible refine wk_lines HWK.out rfl (.tmp 33) (.tmp 38) rfl [jmpL row 22 2, oneL row 2 0 0 0 0] #[.int .i64 22, .int .i64 2, .int .i64 0, .int .i64 0, .int .i64 0, .int .i64 (row : Int), .bool true, .int .i64 2, .int .i64 0, .int .i64 0, .int .i64 0, .int .i64 0, .int .i64 (row : Int), .bool false] 2 rfl rfl rfl (by simp only [List.length_append, List.length_cons, List.length_nil]; omega) ?_
              rintro o9 c9 n9 w9 HNn9 hk
              replace HWK := hide hk
              clear hk)
 go_ret
 exact HWK.out.told (by simp)
set_option maxRecDepth 100000 in
theorem either_two (w : World) (b row : Nat) (kv : Value) (k1 k2 : Nat) (A B : List Ln) (hk : KidsAt w kv [k1, k2]) (h1 : CodeAt w b k1 A) (n1 : A.length ≤ 1100000) (h2 : CodeAt w b k2 B) (n2 : B.length ≤ 1100000) : Calls Try.prog 160 #[.pointer (some ⟨b, 0, none⟩), .int .i64 (row : Int), kv, .bool false] w (LnsTold (A ++ jmpL row 23 3 :: oneL row 2 1 0 0 0 :: jmpL row 22 (B.length + 1) :: B) w) := by
 obtain ⟨oa, c, rfl, hks⟩ := hk
 have HK : Hid (KidsAt w (.slice oa [k1, k2].length c) [k1, k2]) := hide ⟨oa, c, rfl, hks⟩
 simp only [List.length_cons, List.length_nil, Nat.zero_add, Nat.reduceAdd] at HK ⊢
 have H1 := hide h1
 have H2 := hide h2
 obtain ⟨-, ad0, e0, hd0, q0⟩ := HK.out.get (j := 0) (k := k1) rfl
 cases e0
 have hz0 : ad0.add 0 = ad0 := by unfold Addr.add; split <;> simp_all
 rw [hz0] at q0
 clear hz0
 clear hks h1 h2
 go_enter Try.func160, Try.ntmps160
 go_wp2_with fail
 go_at_call 112
 with_reducible refine (H1.out.call (Below.refl _ _)).mono ?_
 rintro en w1 ⟨o1, c1, rfl, hl, hb⟩
 have HWK := hide (Wk.start hl hb)
 have HB := hide hb
 clear hl hb
 obtain ⟨-, ad1, e1, hd1, q1⟩ := (HK.out.below HB.out).get (j := 1) (k := k2) rfl
 cases e1
 rw [add_pos _ (by omega)] at q1
 go_wp2_with fail
 go_at_call 112
 with_reducible refine (H2.out.call HB.out).mono ?_
 rintro en w2 ⟨o2, c2, rfl, hl, hb⟩
 replace HWK := hide (HWK.out.more hl hb)
 replace HB := hide (HB.out.trans (hb.mono HB.out.size))
 clear hl hb
 go_wp2_with fail
 go_at_call 158
 with_reducible refine (jump_v _ row 23 3).mono ?_
 rintro en w3 ⟨rfl, hb⟩
 replace HWK := hide (HWK.out.below hb)
 clear hb
 go_wp2_with fail
 go_at_call 113
 with_reducible refine (one_v _ row 2 1 0 0 0).mono ?_
 rintro en w4 ⟨rfl, hb⟩
 replace HWK := hide (HWK.out.below hb)
 clear hb
 go_wp2_with fail
 go_at_call 158
 with_reducible refine (jump_v _ row 22 (B.length + 1)).mono ?_
 rintro en w5 ⟨rfl, hb⟩
 replace HWK := hide (HWK.out.below hb)
 clear hb
 go_upto_region 8 with (at_builtin
                        with_reducible refine wk_lines HWK.out rfl (.tmp 40) (.tmp 50) rfl [jmpL row 23 3, oneL row 2 1 0 0 0, jmpL row 22 (B.length + 1)] #[.int .i64 23, .int .i64 3, .int .i64 0, .int .i64 0, .int .i64 0, .int .i64 (row : Int), .bool true, .int .i64 2, .int .i64 1, .int .i64 0, .int .i64 0, .int .i64 0, .int .i64 (row : Int), .bool false, .int .i64 22, .int .i64 ((B.length : Int) + 1), .int .i64 0, .int .i64 0, .int .i64 0, .int .i64 (row : Int), .bool true] 3 rfl rfl rfl (by simp only [List.length_append, List.length_cons, List.length_nil]; omega) ?_
                        rintro o6 c6 n6 w6 HNn6 hk
                        replace HWK := hide hk
                        clear hk)
 go_wp2_with (at_builtin
              with_reducible refine wk_own HWK.out rfl (.tmp 52) (.tmp 53) rfl (u := (Value.slice o2 B.length c2)) (m := B) (by simp) rfl rfl (by simp only [List.length_append, List.length_cons, List.length_nil]; omega) ?_
              rintro o7 c7 n7 w7 HNn7 hk
              replace HWK := hide hk
              clear hk)
 go_ret
 exact HWK.out.told (by simp)
end Go.Proofs.Ytdpokdcendgfeaa
