/- Fuel as a function; plain laws of it. Conditions: none. -/
import Derived.Test.YtjflllfkgbhemaaV24
import Derived.Test.YtjflllfkgbhemaaV1
import Derived.Test.YtjflllfkgbhemaaV16
import Derived.Test.YtjflllfkgbhemaaV11
import Derived.Laws.MakeOwn
import Derived.StillTailTactics
import Derived.WalkMore
import Derived.ScopeJumps
namespace Go.Proofs.Ytjflllfkgbhemaa
open Go.RowKit
theorem run_make_rowN {P : Program} (t e : TypeId) (i : TypeInfo) (z : Value) (ht : P.underlying t = some (.slice e)) (hi : P.info? e = some i) (hz : i.zero = some z)
    (kl kc : IntKind) (n c : Nat) (hnc : n ≤ c) (hbytes : i.bytes * c ≤ 281474976710656) (h63 : c ≤ 9223372036854775807) (w : World) :
    (Instr.makeSlice t (.int kl (n : Int)) (.int kc (c : Int))).run P w = .ok (.slice (some ⟨w.heap.size, 0, none⟩) n c) (w.alloc (.cells (madeCells z.cells (c * i.size)) e)) := by
  have hb : (i.bytes : Int) * (c : Int) ≤ 281474976710656 := by
    have h : ((i.bytes * c : Nat) : Int) ≤ 281474976710656 := by omega
    rwa [Int.natCast_mul] at h
  have hr := run_make (P := P) w t e i z ht hi hz kl kc n c (by omega) (by omega) hb (by omega)
  simp only [Int.toNat_natCast] at hr
  exact hr
theorem made_ints (n : Nat) : madeCells #[.int .i64 0] (n * 1) = (ints (List.replicate n 0)).toArray := by
  apply Array.ext_getElem?
  intro j
  by_cases hj : j < n
  · simp [madeCells, ints, hj, Nat.mod_one]
  · simp [madeCells, ints, hj]
theorem make_ints (w : World) (n : Nat) (h : n ≤ 4194304) : (Instr.makeSlice 25 (.int .i64 (n : Int)) (.int .i64 (n : Int))).run Try.prog w = .ok (.slice (some ⟨w.heap.size, 0, none⟩) n n) (w.alloc (.cells (ints (List.replicate n 0)).toArray 3)) := by
  obtain ⟨i0, hi, hz0, hz1, hz2⟩ := info_parts info3
  have := run_make_rowN (P := Try.prog) 25 3 i0 (.int .i64 0) Try.underlying25 hi hz0 .i64 .i64 n n (Nat.le_refl _) (by rw [hz2]; omega) (by omega) w
  rw [hz1, show (Value.int IntKind.i64 0).cells = #[.int .i64 0] from rfl, made_ints] at this
  exact this
def fAt (f : List Int) (a : Int) : Int := (f[a.toNat]?).getD 0
def timesI (a b : Int) : Int := (timesV a.toNat b.toNat : Int)
def fuelStep (P : Prg) (n : Nat) (x : Ins) (f : List Int) : Int :=
  if x.op = 0 ∨ x.op = 27 then 1
  else if x.op = 22 then plusV 1 (fAt f x.a)
  else if x.op = 23 then plusV 1 (if fAt f ((n + 1 : Nat) : Int) < fAt f x.a then fAt f x.a else fAt f ((n + 1 : Nat) : Int))
  else if x.op = 24 then plusV (plusV 1 (timesI x.a (plusV 1 (fAt f ((n + 2 : Nat) : Int))))) (plusV 1 (fAt f (insAt P ((n + 1 : Nat) : Int)).a))
  else plusV 1 (fAt f ((n + 1 : Nat) : Int))
/-- the fuel of the last k places -/
def fuelK (P : Prg) : Nat → List Int
  | 0 => List.replicate P.cd.length 0
  | k + 1 => (fuelK P k).set (P.cd.length - 1 - k) (fuelStep P (P.cd.length - 1 - k) (insAt P ((P.cd.length - 1 - k : Nat) : Int)) (fuelK P k))
/-- where an instruction goes on lies within the code -/
structure Flow (P : Prg) (n : Nat) (x : Ins) : Prop where
  j : x.op = 22 → pIn P x.a
  e : x.op = 23 → pIn P x.a ∧ n + 1 < P.cd.length
  l : x.op = 24 → n + 2 < P.cd.length ∧ 0 ≤ x.a ∧ x.a ≤ 4194304 ∧ pIn P (insAt P ((n + 1 : Nat) : Int)).a
  o : x.op ≠ 0 → x.op ≠ 27 → x.op ≠ 22 → n + 1 < P.cd.length
def Flows (P : Prg) : Prop := ∀ (n : Nat) (x : Ins), P.cd[n]? = some x → Flow P n x
theorem plusV_in {a b : Int} (ha : 0 ≤ a) (hb : 0 ≤ b) (hb2 : b ≤ 4611686018427387904) : 0 ≤ plusV a b ∧ plusV a b ≤ 4611686018427387904 := by
  unfold plusV
  split <;> omega
theorem timesI_in (a b : Int) : 0 ≤ timesI a b ∧ timesI a b ≤ 4611686018427387904 := by
  unfold timesI timesV
  split <;> omega
def F62 (f : List Int) : Prop := ∀ (i : Nat) (v : Int), f[i]? = some v → 0 ≤ v ∧ v ≤ 4611686018427387904
theorem fAt_in {f : List Int} (h : F62 f) (a : Int) : 0 ≤ fAt f a ∧ fAt f a ≤ 4611686018427387904 := by
  unfold fAt
  cases e : f[a.toNat]? with
  | none => simp
  | some v => exact h _ _ e
theorem fuelStep_in {P : Prg} {n : Nat} {x : Ins} {f : List Int} (h : F62 f) : 0 ≤ fuelStep P n x f ∧ fuelStep P n x f ≤ 4611686018427387904 := by
  unfold fuelStep
  split
  · omega
  · split
    · exact plusV_in (by omega) (fAt_in h _).1 (fAt_in h _).2
    · split
      · have h1 := fAt_in h ((n + 1 : Nat) : Int)
        have h2 := fAt_in h x.a
        exact plusV_in (by omega) (by split <;> omega) (by split <;> omega)
      · split
        · have h1 := fAt_in h ((n + 2 : Nat) : Int)
          have h2 := plusV_in (a := 1) (by omega) h1.1 h1.2
          have h3 := timesI_in x.a (plusV 1 (fAt f ((n + 2 : Nat) : Int)))
          have h4 := plusV_in (a := 1) (by omega) h3.1 h3.2
          have h5 := fAt_in h (insAt P ((n + 1 : Nat) : Int)).a
          have h6 := plusV_in (a := 1) (by omega) h5.1 h5.2
          exact plusV_in h4.1 h6.1 h6.2
        · exact plusV_in (by omega) (fAt_in h _).1 (fAt_in h _).2
theorem fuelK_len (P : Prg) : ∀ k, (fuelK P k).length = P.cd.length
  | 0 => by simp [fuelK]
  | k + 1 => by rw [fuelK, List.length_set, fuelK_len P k]
theorem fuelK_in (P : Prg) : ∀ k, F62 (fuelK P k)
  | 0 => fun i v h => by
    rw [fuelK, List.getElem?_replicate] at h
    split at h
    · cases h; omega
    · cases h
  | k + 1 => fun i v h => by
    rw [fuelK, List.getElem?_set] at h
    split at h
    · split at h
      · cases h
        exact fuelStep_in (fuelK_in P k)
      · cases h
    · exact fuelK_in P k i v h
theorem plus_s (w : World) (a b : Int) (ha : 0 ≤ a) (ha2 : a ≤ 4611686018427387904) (hb : 0 ≤ b) (hb2 : b ≤ 4611686018427387904) : Calls Try.prog 52 #[.int .i64 a, .int .i64 b] w fun en w' => en = .returned (.int .i64 (plusV a b)) ∧ w' = w :=
  (plus_i w a b ha ha2 hb hb2).mono fun _ _ h => ⟨h.1, h.2.symm⟩
theorem times_s (w : World) (a b : Int) (ha : 0 ≤ a) (ha2 : a ≤ 4611686018427387904) (hb : 0 ≤ b) (hb2 : b ≤ 4611686018427387904) : Calls Try.prog 53 #[.int .i64 a, .int .i64 b] w fun en w' => en = .returned (.int .i64 (timesI a b)) ∧ w' = w := by
  obtain ⟨x, rfl⟩ := Int.eq_ofNat_of_zero_le ha
  obtain ⟨y, rfl⟩ := Int.eq_ofNat_of_zero_le hb
  exact times_i w x y (by omega) (by omega)
theorem wp_scope_head {P : Program} {a : Act} {w : World} {Q : Exit → Act → World → Prop} {c rest : Code} (l : Nat) (J : Act → World → Prop) (μ : Act → World → Nat) (hf : findLabel c l = some (Code.skip.seq rest))
    (first : (∀ a w, J a w → rest.wp P (Exit.jump l J Q) a w) → c.wp P (Exit.jump l J Q) a w)
    (pass : ∀ a w, J a w → rest.wp P (Exit.jump l (fun a' w' => J a' w' ∧ μ a' w' < μ a w) Q) a w) : (Code.scope c).wp P Q a w :=
  wp_scope_jumps l J μ hf (first fun a w hJ => wp_mono (pass a w hJ) fun e a' w' h => by
    cases e with
    | goto l' => exact ⟨h.1, h.2.1⟩
    | _ => exact h) fun a w hJ => wp_seq (wp_skip (pass a w hJ))
theorem ints_at {f : List Int} {i : Nat} (h : i < f.length) : (ints f).toArray[i]? = some (.int .i64 (fAt f (i : Int))) := by
  simp [ints, fAt, List.getElem?_eq_getElem h]
theorem ints_set (f : List Int) (i : Nat) (v : Int) : (ints f).toArray.setIfInBounds i (.int .i64 v) = (ints (f.set i v)).toArray := by
  simp [ints, List.map_set]
end Go.Proofs.Ytjflllfkgbhemaa
