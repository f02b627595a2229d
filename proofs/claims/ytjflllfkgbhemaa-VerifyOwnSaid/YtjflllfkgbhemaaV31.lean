/- Plain laws of the looks: what a checked program's looks leave. Conditions: none. -/
import Derived.Test.YtjflllfkgbhemaaVr
namespace Go.Proofs.Ytjflllfkgbhemaa
open Go.RowKit Go.PlainAid
theorem insE_in (P : Prg) (x : Ins) (h : insE P x = 0) (k m : Nat) (c : UInt8) (hk : x.op = k) (hm : m < 4) (ht : (table[k]?.bind fun r => r.2.data[m]?) = some c) :
    (boundsV P.gh.length P.vs.length P.ts.length P.cd.length c.toNat).1 ≤ x.arg m ∧ x.arg m ≤ (boundsV P.gh.length P.vs.length P.ts.length P.cd.length c.toNat).2 := by
  obtain ⟨k', r, e, hr, ho⟩ := insE_op P x h
  obtain rfl : k' = k := by omega
  rw [hr] at ht
  simp only [Option.bind_some] at ht
  have := ho m hm
  unfold opOk opB at this
  rw [ht] at this
  simpa [fromV] using this
theorem insE_p (P : Prg) (x : Ins) (h : insE P x = 0) (k : Nat) (hk : x.op = k) (ht : (table[k]?.bind fun r => r.2.data[0]?) = some 112) : pIn P x.a := by
  have := insE_in P x h k 0 112 hk (by omega) ht
  simp [boundsV, Ins.arg] at this
  unfold pIn
  omega
theorem insE_r (P : Prg) (x : Ins) (h : insE P x = 0) (hk : x.op = 24) : 0 ≤ x.a ∧ x.a ≤ 4194304 := by
  have := insE_in P x h 24 0 114 (by omega) (by omega) (by decide)
  simp [boundsV, Ins.arg] at this
  exact this
theorem chk_of (P : Prg) (x : Ins) (h : insE P x = 0) : Chk P x := by
  refine ⟨fun e => insE_q P x h 34 0 (by omega) (by omega) (by decide), fun e => insE_q P x h 35 0 (by omega) (by omega) (by decide), fun e => ?_, fun e => ?_, fun e => ?_⟩
  · rcases e with e | e | e | e | e
    · exact insE_q P x h 32 0 (by omega) (by omega) (by decide)
    · exact insE_q P x h 40 0 (by omega) (by omega) (by decide)
    · exact insE_q P x h 41 0 (by omega) (by omega) (by decide)
    · exact insE_q P x h 38 0 (by omega) (by omega) (by decide)
    · exact insE_q P x h 39 0 (by omega) (by omega) (by decide)
  · rcases e with e | e
    · exact insE_q P x h 38 2 (by omega) (by omega) (by decide)
    · exact insE_q P x h 39 2 (by omega) (by omega) (by decide)
  · rcases e with e | e | e | e
    · exact insE_p P x h 22 (by omega) (by decide)
    · exact insE_p P x h 23 (by omega) (by decide)
    · exact insE_p P x h 25 (by omega) (by decide)
    · exact insE_p P x h 26 (by omega) (by decide)
/-- what a look that tells no error has found -/
theorem look_good {P : Prg} {n : Nat} {x : Ins} {s : St} {ats : List St} (h : (lookV P n x s ats).1 = 0) :
    s.there = true ∧ (takenV x.op s).2 = 0 ∧ jumpsV P n x (takenV x.op s).1 ats = true ∧ (∀ u ∈ waysV n x (stBeh P x s), u.1 < (P.cd.length : Int)) ∧ (lookV P n x s ats).2 = (waysV n x (stBeh P x s)).foldl putSt ats := by
  unfold lookV at h ⊢
  by_cases h1 : s.there = false
  · rw [if_pos h1] at h; simp at h
  rw [if_neg h1] at h ⊢
  by_cases h2 : handsV P x.op x.a s.hand = false
  · rw [if_pos h2] at h; simp at h
  rw [if_neg h2] at h ⊢
  by_cases h3 : (takenV x.op s).2 ≠ 0
  · rw [if_pos h3] at h; exact absurd h h3
  rw [if_neg h3] at h ⊢
  by_cases h4 : kindsV P x.op x.a x.c = false
  · rw [if_pos h4] at h; simp at h
  rw [if_neg h4] at h ⊢
  by_cases h5 : jumpsV P n x (takenV x.op s).1 ats = false
  · rw [if_pos h5] at h; simp at h
  rw [if_neg h5] at h ⊢
  by_cases h6 : (waysV n x (stBeh P x s)).any (fun u => decide ((P.cd.length : Int) ≤ u.1)) = true
  · rw [if_pos h6] at h; simp at h
  rw [if_neg h6] at h ⊢
  by_cases h7 : clash (waysV n x (stBeh P x s)) ats = true
  · rw [if_pos h7] at h; simp at h
  rw [if_neg h7]
  refine ⟨by simpa using h1, by simpa using h3, by simpa using h5, fun u hu => ?_, rfl⟩
  simp only [List.any_eq_true, not_exists, not_and, decide_eq_true_eq] at h6
  have := h6 u hu
  omega
theorem look_bad {P : Prg} {n : Nat} {x : Ins} {s : St} {ats : List St} (h : (lookV P n x s ats).1 ≠ 0) : (lookV P n x s ats).2 = ats := by
  unfold lookV at h ⊢
  repeat' split
  all_goals first | rfl | skip
  simp_all
theorem takenV_ty {op : Int} {s : St} (hs : s.ty.size ≤ 256) : (takenV op s).1.ty.size ≤ 256 := by
  unfold takenV
  by_cases h1 : s.ty.size < (takesL op).length
  · rw [if_pos h1]; exact hs
  rw [if_neg h1]
  by_cases h2 : op = 0 ∧ 0 < s.ty.size - (takesL op).length ∨ givesV op ≠ 0 ∧ 256 < s.ty.size - (takesL op).length + 1
  · rw [if_pos h2]; exact hs
  rw [if_neg h2]
  split
  · show (pushV op s.ty (s.ty.size - (takesL op).length)).size ≤ 256
    unfold pushV
    split
    · rw [ByteArray.size_extract]; omega
    · rw [ByteArray.size_append, ByteArray.size_extract]
      show min _ _ - 0 + 1 ≤ 256
      omega
  · exact hs
theorem jump_on {P : Prg} {n : Nat} {x : Ins} {s : St} {ats : List St} (h : jumpsV P n x s ats = true) (ho : x.op = 22 ∨ x.op = 23 ∨ x.op = 25 ∨ x.op = 26) : (n : Int) < x.a := by
  have hj : jbad P n x = false := by
    unfold jumpsV at h
    rcases ho with e | e | e | e
    · simpa [e] using h
    · simpa [e] using h
    · simp [e] at h; exact h.1
    · simp [e] at h; exact h.1
  unfold jbad at hj
  simp at hj
  omega
/-- each way's standing fits at its place -/
theorem ways_fit {P : Prg} {n : Nat} {x : Ins} {s : St} {ats : List St} (hn : n < P.cd.length) (hf : Fit P n s) (hj : jumpsV P n x (takenV x.op s).1 ats = true) (u : Int × St) (hu : u ∈ waysV n x (stBeh P x s)) :
    ∃ m : Nat, u.1 = (m : Int) ∧ n < m ∧ Fit P m u.2 := by
  have hty := takenV_ty (op := x.op) hf.ty
  obtain ⟨_, hls, _⟩ := takenV_hand x.op s
  have b0 : ∀ m : Nat, n < m → Fit P m (stBeh P x s) := fun m hm => ⟨hty, by show (takenV x.op s).1.ls.length ≤ m; rw [hls]; have := hf.ls; omega, by show ∀ t ∈ (takenV x.op s).1.ls, pIn P t; rw [hls]; exact hf.pl⟩
  have b1 : Fit P (n + 1) { stBeh P x s with ls := (stBeh P x s).ls ++ [(n : Int)] } := by
    refine ⟨hty, ?_, ?_⟩
    · show ((takenV x.op s).1.ls ++ [(n : Int)]).length ≤ n + 1
      rw [hls]
      have := hf.ls
      simp
      exact this
    · show ∀ t ∈ (takenV x.op s).1.ls ++ [(n : Int)], pIn P t
      rw [hls]
      intro t ht
      rcases List.mem_append.1 ht with h | h
      · exact hf.pl t h
      · simp at h; subst h; exact ⟨by omega, by simpa using hn⟩
  have b2 : ∀ m : Nat, n < m → Fit P m { stBeh P x s with ls := (stBeh P x s).ls.dropLast } := fun m hm => by
    refine ⟨hty, ?_, ?_⟩
    · show ((takenV x.op s).1.ls.dropLast).length ≤ m
      rw [hls]
      have := hf.ls
      simp
      omega
    · show ∀ t ∈ (takenV x.op s).1.ls.dropLast, pIn P t
      rw [hls]
      exact fun t ht => hf.pl t (List.dropLast_subset _ ht)
  have hnx : ((n : Int) + 1) = ((n + 1 : Nat) : Int) := by omega
  have ja : (x.op = 22 ∨ x.op = 23 ∨ x.op = 25 ∨ x.op = 26) → ∃ m : Nat, x.a = (m : Int) ∧ n < m := fun ho => by
    have := jump_on hj ho
    obtain ⟨m, hm⟩ := Int.eq_ofNat_of_zero_le (show 0 ≤ x.a by omega)
    exact ⟨m, hm, by omega⟩
  unfold waysV at hu
  by_cases o0 : x.op = 0
  · simp [o0] at hu
  by_cases o27 : x.op = 27
  · simp [o27] at hu
  by_cases o22 : x.op = 22
  · simp [o22] at hu
    subst hu
    obtain ⟨m, e, hm⟩ := ja (by omega)
    exact ⟨m, e, hm, b0 m hm⟩
  by_cases o23 : x.op = 23
  · simp [o23] at hu
    obtain ⟨m, e, hm⟩ := ja (by omega)
    rcases hu with rfl | rfl
    · exact ⟨n + 1, hnx, by omega, b0 _ (by omega)⟩
    · exact ⟨m, e, hm, b0 m hm⟩
  by_cases o25 : x.op = 25
  · simp [o25] at hu
    obtain ⟨m, e, hm⟩ := ja (by omega)
    rcases hu with rfl | rfl
    · exact ⟨n + 1, hnx, by omega, b1⟩
    · exact ⟨m, e, hm, b0 m hm⟩
  by_cases o26 : x.op = 26
  · simp [o26] at hu
    obtain ⟨m, e, hm⟩ := ja (by omega)
    rcases hu with rfl | rfl
    · exact ⟨n + 1, hnx, by omega, b0 _ (by omega)⟩
    · exact ⟨m, e, hm, b2 m hm⟩
  · simp [o0, o27, o22, o23, o25, o26] at hu
    subst hu
    exact ⟨n + 1, hnx, by omega, b0 _ (by omega)⟩
theorem putSt_fits {P : Prg} {ats : List St} (h : Fits P ats) {m : Nat} {s : St} (hf : Fit P m s) : Fits P (putSt ats ((m : Int), s)) := by
  intro i s' hi
  unfold putSt at hi
  simp only [Int.toNat_natCast] at hi
  rw [List.getElem?_set] at hi
  split at hi
  · next e =>
    split at hi
    · cases hi
      subst e
      exact ⟨hf.ty, hf.ls, hf.pl⟩
    · cases hi
  · exact h i s' hi
theorem fold_fits {P : Prg} : ∀ (l : List (Int × St)) (ats : List St), Fits P ats → (∀ u ∈ l, ∃ m : Nat, u.1 = (m : Int) ∧ Fit P m u.2) → Fits P (l.foldl putSt ats)
  | [], _, h, _ => h
  | (p, s) :: l, ats, h, hl => by
    obtain ⟨m, e, hf⟩ := hl (p, s) (by simp)
    simp only at e hf
    subst e
    exact fold_fits l _ (putSt_fits h hf) fun u hu => hl u (by simp [hu])
theorem fold_len : ∀ (l : List (Int × St)) (ats : List St), (l.foldl putSt ats).length = ats.length
  | [], _ => rfl
  | u :: l, ats => by rw [List.foldl_cons, fold_len l]; simp [putSt]
theorem look_fits {P : Prg} {n : Nat} {x : Ins} {s : St} {ats : List St} (hn : n < P.cd.length) (hs : ats[n]? = some s) (hf : Fits P ats) : Fits P (lookV P n x s ats).2 ∧ (lookV P n x s ats).2.length = ats.length := by
  by_cases h : (lookV P n x s ats).1 = 0
  · obtain ⟨_, _, hj, _, e⟩ := look_good h
    rw [e]
    exact ⟨fold_fits _ _ hf fun u hu => by
      obtain ⟨m, e1, _, e2⟩ := ways_fit hn (hf n s hs) hj u hu
      exact ⟨m, e1, e2⟩, fold_len _ _⟩
  · rw [look_bad h]
    exact ⟨hf, rfl⟩
end Go.Proofs.Ytjflllfkgbhemaa
