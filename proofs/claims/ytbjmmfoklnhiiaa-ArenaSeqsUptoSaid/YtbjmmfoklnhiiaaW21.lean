/- Scripts as functions, arenas that are opened and doubled. Conditions: those of each lemma. -/
import Derived.Test.YtbjmmfoklnhiiaaW20
namespace Go.Proofs.Ytbjmmfoklnhiiaa
open Go.RowKit

/-- a script in memory: what each of its steps says, in every world that keeps what was -/
def Scr (w : World) (oa : Option Addr) (len : Nat) (g : Nat → Int × Int × Int × Int) : Prop :=
  ∀ i, i < len → ∃ a, oa = some a ∧ ∀ W, Below w.heap.size w W →
    W.cell? (a.add (i * 4)) = some (.int .i64 (g i).1) ∧ W.cell? ⟨(a.add (i * 4)).block, (a.add (i * 4)).off + 1, none⟩ = some (.int .i64 (g i).2.1) ∧
    W.cell? ⟨(a.add (i * 4)).block, (a.add (i * 4)).off + 2, none⟩ = some (.int .i64 (g i).2.2.1) ∧ W.cell? ⟨(a.add (i * 4)).block, (a.add (i * 4)).off + 3, none⟩ = some (.int .i64 (g i).2.2.2)
theorem Script.fn {w : World} {oa : Option Addr} {len : Nat} (h : Script w oa len) : ∃ g, Scr w oa len g := by
  have h' : ∀ i, ∃ t : Int × Int × Int × Int, i < len → ∃ a, oa = some a ∧ a.block < w.heap.size ∧
      w.cell? (a.add (i * 4)) = some (.int .i64 t.1) ∧ w.cell? ⟨(a.add (i * 4)).block, (a.add (i * 4)).off + 1, none⟩ = some (.int .i64 t.2.1) ∧
      w.cell? ⟨(a.add (i * 4)).block, (a.add (i * 4)).off + 2, none⟩ = some (.int .i64 t.2.2.1) ∧ w.cell? ⟨(a.add (i * 4)).block, (a.add (i * 4)).off + 3, none⟩ = some (.int .i64 t.2.2.2) := by
    intro i
    by_cases hi : i < len
    · obtain ⟨a, ha, hlt, k, x, y, z, h0⟩ := h i hi
      exact ⟨(k, x, y, z), fun _ => ⟨a, ha, hlt, h0⟩⟩
    · exact ⟨(0, 0, 0, 0), fun e => absurd e hi⟩
  refine ⟨fun i => Classical.choose (h' i), fun i hi => ?_⟩
  obtain ⟨a, ha, hlt, h0, h1, h2, h3⟩ := Classical.choose_spec (h' i) hi
  have hl : (a.add (i * 4)).block < w.heap.size := by rw [add_blk]; exact hlt
  exact ⟨a, ha, fun W hB => ⟨(hB.cell (by exact hl)).trans h0, (hB.cell (by exact hl)).trans h1, (hB.cell (by exact hl)).trans h2, (hB.cell (by exact hl)).trans h3⟩⟩

def run (s : ASt Int) (g : Nat → Int × Int × Int × Int) : Nat → ASt Int
  | 0 => s
  | i + 1 => (run s g i).act (g i).1 (g i).2.1 (g i).2.2.1 (g i).2.2.2

section
variable {w0 n l : Nat} {w w' : World} {T : Nat → Option (ASt Int)} {ab : Nat} {s : ASt Int}
theorem Ars.open_ (h : Ars w0 w n l T) (h0 : w0 ≤ w.heap.size) (hn : n ≤ 2000) (hE : newE n l = 0) :
    Calls Try.prog 11 #[.int .i64 n, .int .i64 l] w fun en w' => ∃ d, en = .returned (.pointer (some ⟨d, 0, none⟩)) ∧ T d = none ∧ Ars w0 w' n l (upd T d (some (ASt.init 0 n l l))) ∧ Below w.heap.size w w' := by
  refine (open_yes w _ _ (by omega) hE).mono ?_
  rintro en w' ⟨f, he, hf, hM, hB⟩
  obtain ⟨h1, h2⟩ := h.add h0 ⟨rfl, hM, hf, _, rep_init hE, by simp, by simp⟩ hB
  exact ⟨f.ab, he, h1, h2, hB⟩
theorem Ars.twin (h : Ars w0 w n l T) (h0 : w0 ≤ w.heap.size) (ht : T ab = some s) :
    Calls Try.prog 22 #[.pointer (some ⟨ab, 0, none⟩)] w fun en w' => ∃ d, en = .returned (.pointer (some ⟨d, 0, none⟩)) ∧ T d = none ∧ Ars w0 w' n l (upd T d (some s)) ∧ Below w.heap.size w w' := by
  obtain ⟨f, hL⟩ := h.get ht
  obtain ⟨hb, _, hl, _⟩ := h.bd ht
  have := twin_i w f s hL.mem (by have := hb.mm; have := hb.m22; omega) hb.l256
  rw [hL.ab] at this
  refine this.mono ?_
  rintro en w' ⟨f', he, hf, hM, hB⟩
  obtain ⟨h1, h2⟩ := h.add h0 ⟨rfl, hM, hf, hL.rep⟩ hB
  exact ⟨f'.ab, he, h1, h2, hB⟩

def T2 (a b : Nat) (x y : ASt Int) : Nat → Option (ASt Int) := fun k => if k = a then some x else if k = b then some y else none
def T3 (a b c : Nat) (x y z : ASt Int) : Nat → Option (ASt Int) := fun k => if k = a then some x else if k = b then some y else if k = c then some z else none
def T4 (a b c d : Nat) (x y z u : ASt Int) : Nat → Option (ASt Int) := fun k => if k = a then some x else if k = b then some y else if k = c then some z else if k = d then some u else none
section
variable {a b c d : Nat} {x y z u v : ASt Int}
theorem T2_a : T2 a b x y a = some x := by simp [T2]
theorem T2_b (h : b ≠ a) : T2 a b x y b = some y := by simp [T2, h]
theorem T2_ua : upd (T2 a b x y) a (some v) = T2 a b v y := by funext k; simp only [upd, T2]; by_cases h : k = a <;> simp [h]
theorem T2_ub (h : b ≠ a) : upd (T2 a b x y) b (some v) = T2 a b x v := by funext k; simp only [upd, T2]; by_cases h1 : k = b <;> simp [h1, h]
theorem T2_of : upd (upd (fun _ => none) a (some x)) b (some y) = if b = a then upd (fun _ => none) b (some y) else T2 a b x y := by
  split
  · next e => subst e; funext k; simp only [upd]; split <;> rfl
  · next e => funext k; simp only [upd, T2]; by_cases h : k = b <;> simp [h, e]
theorem T2_uc (ha : c ≠ a) (hb : c ≠ b) : upd (T2 a b x y) c (some v) = T3 a b c x y v := by funext k; simp only [upd, T2, T3]; by_cases h : k = c <;> simp [h, ha, hb]
theorem T3_a : T3 a b c x y z a = some x := by simp [T3]
theorem T3_b (h : b ≠ a) : T3 a b c x y z b = some y := by simp [T3, h]
theorem T3_c (h : c ≠ a) (h' : c ≠ b) : T3 a b c x y z c = some z := by simp [T3, h, h']
theorem T3_ud (ha : d ≠ a) (hb : d ≠ b) (hc : d ≠ c) : upd (T3 a b c x y z) d (some v) = T4 a b c d x y z v := by funext k; simp only [upd, T3, T4]; by_cases h : k = d <;> simp [h, ha, hb, hc]
theorem T4_a : T4 a b c d x y z u a = some x := by simp [T4]
theorem T4_b (h : b ≠ a) : T4 a b c d x y z u b = some y := by simp [T4, h]
theorem T4_c (h : c ≠ a) (h' : c ≠ b) : T4 a b c d x y z u c = some z := by simp [T4, h, h']
theorem T4_d (h : d ≠ a) (h' : d ≠ b) (h'' : d ≠ c) : T4 a b c d x y z u d = some u := by simp [T4, h, h', h'']
theorem T4_ua : upd (T4 a b c d x y z u) a (some v) = T4 a b c d v y z u := by funext k; simp only [upd, T4]; by_cases h : k = a <;> simp [h]
theorem T4_ub (h : b ≠ a) : upd (T4 a b c d x y z u) b (some v) = T4 a b c d x v z u := by funext k; simp only [upd, T4]; by_cases h1 : k = b <;> simp [h1, h]
theorem T4_uc (h : c ≠ a) (h' : c ≠ b) : upd (T4 a b c d x y z u) c (some v) = T4 a b c d x y v u := by funext k; simp only [upd, T4]; by_cases h1 : k = c <;> simp [h1, h, h']
theorem T4_ud (h : d ≠ a) (h' : d ≠ b) (h'' : d ≠ c) : upd (T4 a b c d x y z u) d (some v) = T4 a b c d x y z v := by funext k; simp only [upd, T4]; by_cases h1 : k = d <;> simp [h1, h, h', h'']
end
theorem T1_ne {a b : Nat} {x : ASt Int} (h : upd (fun _ => none) a (some x) b = none) : b ≠ a := by rintro rfl; rw [upd_same] at h; cases h
theorem T2_ne {a b c : Nat} {x y : ASt Int} (h : T2 a b x y c = none) : c ≠ a ∧ c ≠ b := by
  unfold T2 at h
  exact ⟨fun e => by simp [e] at h, fun e => by subst e; split at h <;> simp_all⟩
theorem T3_ne {a b c d : Nat} {x y z : ASt Int} (h : T3 a b c x y z d = none) : d ≠ a ∧ d ≠ b ∧ d ≠ c := by
  unfold T3 at h
  refine ⟨fun e => by simp [e] at h, fun e => by subst e; split at h <;> simp_all, fun e => ?_⟩
  subst e
  split at h
  · cases h
  · split at h
    · cases h
    · simp at h
end
end Go.Proofs.Ytbjmmfoklnhiiaa
