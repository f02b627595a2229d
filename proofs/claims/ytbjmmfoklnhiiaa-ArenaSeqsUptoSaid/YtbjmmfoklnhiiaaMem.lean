/- The arena in memory: its header, its nodes, its lists, and what a store does to each. Nothing here names the program. Conditions: none. -/
import Derived.Test.YtbjmmfoklnhiiaaBase
namespace Go.Proofs.Ytbjmmfoklnhiiaa
open Go.RowKit

/-- what an arena holds, as numbers: B, E: towards the front (false), towards the back (true) -/
structure ASt (α : Type) where
  most : Nat
  made : Nat
  L : Nat
  V : Nat → α
  LS : Nat → Int
  B : Bool → Nat → Int
  E : Bool → Nat → Int
  CN : Nat → Int
  freed : Int
  used : Int

def upd2 (b : Bool → Nat → Int) (e : Bool) (n : Nat) (x : Int) : Bool → Nat → Int := fun d => if d = e then upd (b e) n x else b d
section
variable {α : Type}
def ASt.setLS (s : ASt α) (n : Nat) (x : Int) : ASt α := { s with LS := upd s.LS n x }
def ASt.setB (s : ASt α) (e : Bool) (n : Nat) (x : Int) : ASt α := { s with B := upd2 s.B e n x }
def ASt.setE (s : ASt α) (e : Bool) (l : Nat) (x : Int) : ASt α := { s with E := upd2 s.E e l x }
def ASt.setC (s : ASt α) (l : Nat) (x : Int) : ASt α := { s with CN := upd s.CN l x }
def ASt.setV (s : ASt α) (n : Nat) (x : α) : ASt α := { s with V := upd s.V n x }
def ASt.setFr (s : ASt α) (x : Int) : ASt α := { s with freed := x }
def ASt.setUs (s : ASt α) (x : Int) : ASt α := { s with used := x }
end

/-- the types and the cells of one instance -/
structure Kn (α : Type) where
  tA : TypeId
  tN : TypeId
  tL : TypeId
  vw : Nat
  enc : α → List Value
structure Kn.ok {α : Type} (K : Kn α) : Prop where
  wide : ∀ x, (K.enc x).length = K.vw
  an : K.tA ≠ K.tN
  al : K.tA ≠ K.tL
  nl : K.tN ≠ K.tL

/-- the blocks: header, nodes, lists -/
structure Fp where
  ab : Nat
  gb : Nat
  lb : Nat
def Fp.has (f : Fp) (k : Nat) : Prop := k = f.ab ∨ k = f.gb ∨ k = f.lb

def i64v (n : Int) : Value := .int .i64 n
def nodeRow {α : Type} (K : Kn α) (s : ASt α) (n : Nat) : List Value := K.enc (s.V n) ++ [.int .i64 (s.LS n), .int .i64 (s.B false n), .int .i64 (s.B true n)]
def listRow {α : Type} (s : ASt α) (l : Nat) : List Value := [.int .i64 (s.E false l), .int .i64 (s.E true l), .int .i64 (s.CN l)]
def headRow {α : Type} (s : ASt α) (nv lv : Value) : Array Value := #[.int .i64 s.most, nv, lv, .int .i64 s.freed, .int .i64 s.used]

/-- a slice of the call's own: its block is g; nil: g is the header's -/
def Sl (w : World) (t : TypeId) (sz : Nat) (v : Value) (n : Nat) (xs : List Value) (g ab : Nat) : Prop := w.ownsRow 0 t sz v n xs ∧ (v.ownBlock = some g ∨ (v.ownBlock = none ∧ g = ab))
section
variable {w w' : World} {t : TypeId} {sz n g ab : Nat} {v : Value} {xs : List Value}
theorem Sl.lt (h : Sl w t sz v n xs g ab) (ha : ab < w.heap.size) : g < w.heap.size := by
  rcases h.2 with hg | ⟨_, hg⟩
  · exact (h.1.lt _ hg).2
  · rw [hg]; exact ha
theorem Sl.form (h : Sl w t sz v n xs g ab) (hn : 0 < n) : ∃ cap, v = .slice (some ⟨g, 0, none⟩) n cap ∧ n ≤ cap ∧ cap ≤ maxLen := by
  obtain ⟨g', cap, rfl, h1, h2⟩ := own_form h.1 hn
  rcases h.2 with hg | ⟨hg, _⟩
  · simp [Value.ownBlock] at hg; subst hg; exact ⟨cap, rfl, h1, h2⟩
  · simp [Value.ownBlock] at hg
theorem Sl.len (h : Sl w t sz v n xs g ab) : ∃ a cap, v = .slice a n cap := by
  rcases h.1.2 with ⟨h1, h2⟩ | ⟨g, cap, cur, h1, _⟩
  · exact ⟨none, 0, by rw [h1, h2]⟩
  · exact ⟨_, cap, h1⟩
theorem Sl.ne_blk {T : TypeId} {cs : Array Value} {k : Nat} (h : Sl w t sz v n xs g ab) (hb : Blk w k T cs) (hne : t ≠ T) (hn : 0 < n) : ¬ g = k := by
  rcases h.2 with hg | ⟨hg, _⟩
  · intro e; exact own_blk_ne h.1 hb hne (by rw [hg, e])
  · obtain ⟨_, _, rfl, _⟩ := own_form h.1 hn; simp [Value.ownBlock] at hg
theorem own_own_ne {base base' : Nat} {e e' : TypeId} {size size' n n' : Nat} {v v' : Value} {xs xs' : List Value} {g : Nat} (h : w.ownsRow base e size v n xs) (h' : w.ownsRow base' e' size' v' n' xs') (hne : e ≠ e') (hg : v.ownBlock = some g) : v'.ownBlock ≠ some g := by
  rcases h.2 with ⟨rfl, _⟩ | ⟨g', cap, cur, rfl, _, hh, _⟩
  · simp [Value.ownBlock] at hg
  · simp [Value.ownBlock] at hg
    subst hg
    exact own_blk_ne h' hh (fun e => hne e.symm)
theorem Sl.ne_sl {T : TypeId} {sz' n' : Nat} {v' : Value} {xs' : List Value} {k : Nat} (h : Sl w t sz v n xs g ab) (h' : Sl w T sz' v' n' xs' k ab) (hne : t ≠ T) (hn : 0 < n) (hn' : 0 < n') : ¬ g = k := by
  obtain ⟨_, rfl, _⟩ := h.form hn
  obtain ⟨_, rfl, _⟩ := h'.form hn'
  intro e
  exact own_own_ne h.1 h'.1 hne rfl (by rw [e]; rfl)
theorem Sl.keep (h : Sl w t sz v n xs g ab) (hg : w'.heap[g]? = w.heap[g]?) : Sl w' t sz v n xs g ab := by
  refine ⟨⟨h.1.1, ?_⟩, h.2⟩
  rcases h.1.2 with hn | ⟨k, cap, cur, rfl, hb', hgg, rest⟩
  · exact .inl hn
  · refine .inr ⟨k, cap, cur, rfl, hb', ?_, rest⟩
    have e : k = g := by
      rcases h.2 with h3 | ⟨h3, _⟩
      · simpa [Value.ownBlock] using h3
      · simp [Value.ownBlock] at h3
    subst e
    exact hg.trans hgg
theorem Sl.far (h : Sl w t sz v n xs g ab) {p : Addr} (hp : v.ownBlock ≠ some p.block) (u : Value) : Sl (w.setCell p u) t sz v n xs g ab := ⟨own_far h.1 hp u, h.2⟩
end

def AMem {α : Type} (K : Kn α) (w : World) (f : Fp) (s : ASt α) : Prop :=
  ∃ nv lv, Blk w f.ab K.tA (headRow s nv lv) ∧ Sl w K.tN (K.vw + 3) nv s.made (rows (nodeRow K s) s.made) f.gb f.ab ∧ Sl w K.tL 3 lv s.L (rows (listRow s) s.L) f.lb f.ab

section
variable {α : Type} {K : Kn α} {w w' : World} {f : Fp} {s : ASt α}

theorem nodeRow_length (hK : K.ok) (s : ASt α) (n : Nat) : (nodeRow K s n).length = K.vw + 3 := by simp [nodeRow, hK.wide]
theorem listRow_length (s : ASt α) (n : Nat) : (listRow s n).length = 3 := by simp [listRow]

theorem AMem.ablt (h : AMem K w f s) : f.ab < w.heap.size := by obtain ⟨nv, lv, hb, _⟩ := h; exact hb.lt
theorem AMem.gblt (h : AMem K w f s) : f.gb < w.heap.size := by have ha := h.ablt; obtain ⟨nv, lv, hb, ho, hl⟩ := h; exact ho.lt ha
theorem AMem.lblt (h : AMem K w f s) : f.lb < w.heap.size := by have ha := h.ablt; obtain ⟨nv, lv, hb, ho, hl⟩ := h; exact hl.lt ha
theorem AMem.ne_al (hK : K.ok) (h : AMem K w f s) (hn : 0 < s.L) : ¬ f.ab = f.lb := by obtain ⟨nv, lv, hb, ho, hl⟩ := h; exact fun e => hl.ne_blk hb (fun e => hK.al e.symm) hn e.symm
theorem AMem.ne_gl (hK : K.ok) (h : AMem K w f s) (hm : 0 < s.made) (hn : 0 < s.L) : ¬ f.gb = f.lb := by obtain ⟨nv, lv, hb, ho, hl⟩ := h; exact ho.ne_sl hl hK.nl hm hn
theorem AMem.ne_ag (hK : K.ok) (h : AMem K w f s) (hn : 0 < s.made) : ¬ f.ab = f.gb := by obtain ⟨nv, lv, hb, ho, hl⟩ := h; exact fun e => ho.ne_blk hb (fun e => hK.an e.symm) hn e.symm

theorem AMem.keep (h : AMem K w f s) (ha : w'.heap[f.ab]? = w.heap[f.ab]?) (hg : w'.heap[f.gb]? = w.heap[f.gb]?) (hl : w'.heap[f.lb]? = w.heap[f.lb]?) : AMem K w' f s := by
  obtain ⟨nv, lv, h1, h2, h3⟩ := h
  exact ⟨nv, lv, ha.trans h1, h2.keep hg, h3.keep hl⟩
theorem AMem.drew (h : AMem K w f s) : AMem K w.drew f s := h
theorem AMem.drewN (h : AMem K w f s) (n : Nat) : AMem K (w.drewN n) f s := h
theorem AMem.only {S : Nat → Prop} (h : AMem K w f s) (hb : Only S w w') (hS : ∀ k, f.has k → ¬ S k) : AMem K w' f s :=
  h.keep (hb.block _ h.ablt (hS _ (.inl rfl))) (hb.block _ h.gblt (hS _ (.inr (.inl rfl)))) (hb.block _ h.lblt (hS _ (.inr (.inr rfl))))
theorem AMem.alloc (h : AMem K w f s) (o : Obj) : AMem K (w.alloc o) f s := h.only (S := fun _ => False) ((Only.refl _ w).alloc o) (fun _ _ h => h)
theorem AMem.below {B : Nat} (h : AMem K w f s) (hb : Below B w w') (hB : ∀ k, f.has k → k < B) : AMem K w' f s :=
  h.keep (hb.block _ (hB _ (.inl rfl))) (hb.block _ (hB _ (.inr (.inl rfl)))) (hb.block _ (hB _ (.inr (.inr rfl))))
theorem AMem.congr {s' : ASt α} (h : AMem K w f s) (h1 : s'.most = s.most) (h2 : s'.made = s.made) (h3 : s'.L = s.L) (h4 : s'.freed = s.freed) (h5 : s'.used = s.used)
    (hn : ∀ n, n < s.made → nodeRow K s' n = nodeRow K s n) (hl : ∀ l, l < s.L → listRow s' l = listRow s l) : AMem K w f s' := by
  obtain ⟨nv, lv, a, b, c⟩ := h
  refine ⟨nv, lv, ?_, ?_, ?_⟩
  · unfold headRow; rw [h1, h4, h5]; exact a
  · rw [h2, rows_congr _ hn]; exact b
  · rw [h3, rows_congr _ hl]; exact c

/-- what the walk of a function that looks at the header wants -/
theorem AMem.head (h : AMem K w f s) :
    w.cell? ⟨f.ab, 0, none⟩ = some (.int .i64 s.most) ∧ w.cell? ⟨f.ab, 3, none⟩ = some (.int .i64 s.freed) ∧ w.cell? ⟨f.ab, 4, none⟩ = some (.int .i64 s.used) ∧
    w.frozen? ⟨f.ab, 3, none⟩ = false ∧ w.frozen? ⟨f.ab, 4, none⟩ = false ∧ w.frozen? ⟨f.ab, 1, none⟩ = false := by
  obtain ⟨nv, lv, hb, _⟩ := h
  refine ⟨by rw [hb.cell]; rfl, by rw [hb.cell]; rfl, by rw [hb.cell]; rfl, hb.frozen _, hb.frozen _, hb.frozen _⟩
theorem AMem.lists (h : AMem K w f s) (hn : 0 < s.L) : ∃ lc, w.cell? ⟨f.ab, 2, none⟩ = some (.slice (some ⟨f.lb, 0, none⟩) s.L lc) := by
  obtain ⟨nv, lv, hb, ho, hl⟩ := h
  obtain ⟨cap, rfl, _⟩ := hl.form hn
  exact ⟨cap, by rw [hb.cell]; rfl⟩
theorem AMem.listsLen (h : AMem K w f s) : ∃ a lc, w.cell? ⟨f.ab, 2, none⟩ = some (.slice a s.L lc) := by
  obtain ⟨nv, lv, hb, ho, hl⟩ := h
  obtain ⟨a, cap, rfl⟩ := hl.len
  exact ⟨a, cap, by rw [hb.cell]; rfl⟩
theorem AMem.list (h : AMem K w f s) {l : Nat} (hl : l < s.L) :
    w.cell? ⟨f.lb, l * 3, none⟩ = some (.int .i64 (s.E false l)) ∧ w.cell? ⟨f.lb, l * 3 + 1, none⟩ = some (.int .i64 (s.E true l)) ∧ w.cell? ⟨f.lb, l * 3 + 2, none⟩ = some (.int .i64 (s.CN l)) ∧
    w.frozen? ⟨f.lb, l * 3, none⟩ = false ∧ w.frozen? ⟨f.lb, l * 3 + 1, none⟩ = false ∧ w.frozen? ⟨f.lb, l * 3 + 2, none⟩ = false := by
  obtain ⟨nv, lv, hb, _, hs⟩ := h
  obtain ⟨cap, rfl, _⟩ := hs.form (by omega)
  have hg := fun j (hj : j < 3) => rows_get (f := listRow s) (listRow_length s) hj s.L hl
  refine ⟨?_, ?_, ?_, hs.1.frozenAt _, hs.1.frozenAt _, hs.1.frozenAt _⟩
  · rw [hs.1.cellAt _ (by omega)]; simpa [listRow] using hg 0 (by omega)
  · rw [hs.1.cellAt _ (by omega)]; simpa [listRow] using hg 1 (by omega)
  · rw [hs.1.cellAt _ (by omega)]; simpa [listRow] using hg 2 (by omega)
/-- the nodes' slice, where there are any -/
theorem AMem.nodes (h : AMem K w f s) (hn : 0 < s.made) : ∃ cap, s.made ≤ cap ∧ cap ≤ maxLen ∧ w.cell? ⟨f.ab, 1, none⟩ = some (.slice (some ⟨f.gb, 0, none⟩) s.made cap) ∧
    w.ownsRow 0 K.tN (K.vw + 3) (.slice (some ⟨f.gb, 0, none⟩) s.made cap) s.made (rows (nodeRow K s) s.made) := by
  obtain ⟨nv, lv, hb, ho, _⟩ := h
  obtain ⟨cap, rfl, h1, h2⟩ := ho.form hn
  exact ⟨cap, h1, h2, by rw [hb.cell]; rfl, ho.1⟩
/-- the slice of nodes, nil or not: its length -/
theorem AMem.nodesLen (h : AMem K w f s) : ∃ a cap, w.cell? ⟨f.ab, 1, none⟩ = some (.slice a s.made cap) := by
  obtain ⟨nv, lv, hb, ho, _⟩ := h
  obtain ⟨a, cap, rfl⟩ := ho.len
  exact ⟨a, cap, by rw [hb.cell]; rfl⟩

theorem AMem.node (hK : K.ok) (h : AMem K w f s) {n : Nat} (hn : n < s.made) :
    (∀ j, j < K.vw → w.cell? ⟨f.gb, n * (K.vw + 3) + j, none⟩ = (K.enc (s.V n))[j]?) ∧ w.cell? ⟨f.gb, n * (K.vw + 3) + K.vw, none⟩ = some (.int .i64 (s.LS n)) ∧
    w.cell? ⟨f.gb, n * (K.vw + 3) + (K.vw + 1), none⟩ = some (.int .i64 (s.B false n)) ∧ w.cell? ⟨f.gb, n * (K.vw + 3) + (K.vw + 1) + 1, none⟩ = some (.int .i64 (s.B true n)) ∧
    ∀ i, w.frozen? ⟨f.gb, i, none⟩ = false := by
  obtain ⟨cap, _, _, _, ho⟩ := h.nodes (by omega)
  have hlen := hK.wide (s.V n)
  have hb : ∀ j, j < K.vw + 3 → n * (K.vw + 3) + j < s.made * (K.vw + 3) := fun j hj => by
    have := Nat.mul_le_mul_right (K.vw + 3) hn
    rw [Nat.succ_mul] at this; omega
  have hc : ∀ j, j < K.vw + 3 → w.cell? ⟨f.gb, n * (K.vw + 3) + j, none⟩ = (nodeRow K s n)[j]? := fun j hj => by
    rw [ho.cellAt _ (hb j hj)]
    exact rows_get (nodeRow_length hK s) hj s.made hn
  refine ⟨fun j hj => ?_, ?_, ?_, ?_, fun i => ho.frozenAt i⟩
  · rw [hc j (by omega), nodeRow, List.getElem?_append_left (by omega)]
  · rw [hc K.vw (by omega), nodeRow, List.getElem?_append_right (by omega)]; simp [hlen]
  · rw [hc (K.vw + 1) (by omega), nodeRow, List.getElem?_append_right (by omega)]; simp [hlen]
  · rw [Nat.add_assoc, hc (K.vw + 1 + 1) (by omega), nodeRow, List.getElem?_append_right (by omega), hlen, show K.vw + 1 + 1 - K.vw = 2 from by omega]; rfl

/-! the stores -/
theorem AMem.setNode (hK : K.ok) (h : AMem K w f s) {n j : Nat} (hn : n < s.made) (hj : j < K.vw + 3) (u : Value) (s' : ASt α) (hs : s' = { s with V := s'.V, LS := s'.LS, B := s'.B })
    (he : ∀ m, nodeRow K s' m = if m = n then (nodeRow K s n).set j u else nodeRow K s m) :
    AMem K (w.setCell ⟨f.gb, n * (K.vw + 3) + j, none⟩ u) f s' := by
  have hne := h.ne_ag hK (by omega)
  obtain ⟨nv, lv, hb, ho, hl⟩ := h
  obtain ⟨cap, rfl, h1, h2⟩ := ho.form (by omega)
  have hst := (ho.1.stored (n * (K.vw + 3) + j) u).1
  rw [rows_set (nodeRow_length hK s) hj u s.made] at hst
  have er : rows (nodeRow K s') s.made = rows (fun m => if m = n then (nodeRow K s n).set j u else nodeRow K s m) s.made := rows_congr _ fun i _ => he i
  have hnl : lv.ownBlock ≠ some f.gb := own_own_ne ho.1 hl.1 hK.nl rfl
  rw [hs]
  refine ⟨_, lv, hb.far (by exact hne) u, ⟨?_, ho.2⟩, hl.far hnl u⟩
  rw [← hs]
  show World.ownsRow _ 0 K.tN (K.vw + 3) _ s'.made (rows (nodeRow K s') s'.made)
  have em : s'.made = s.made := by rw [hs]
  rw [em, er]
  exact hst
theorem AMem.setLS (hK : K.ok) (h : AMem K w f s) {n : Nat} (hn : n < s.made) (x : Int) :
    AMem K (w.setCell ⟨f.gb, n * (K.vw + 3) + K.vw, none⟩ (.int .i64 x)) f (s.setLS n x) := by
  refine h.setNode hK hn (by omega) _ _ rfl fun m => ?_
  by_cases e : m = n
  · subst e; simp [nodeRow, ASt.setLS, upd, hK.wide]
  · simp [nodeRow, ASt.setLS, upd, e]
theorem AMem.setB0 (hK : K.ok) (h : AMem K w f s) {n : Nat} (hn : n < s.made) (x : Int) :
    AMem K (w.setCell ⟨f.gb, n * (K.vw + 3) + (K.vw + 1), none⟩ (.int .i64 x)) f (s.setB false n x) := by
  refine h.setNode hK hn (by omega) _ _ rfl fun m => ?_
  by_cases e : m = n
  · subst e; simp [nodeRow, ASt.setB, upd, upd2, hK.wide]
  · simp [nodeRow, ASt.setB, upd, upd2, e]
theorem AMem.setB1 (hK : K.ok) (h : AMem K w f s) {n : Nat} (hn : n < s.made) (x : Int) :
    AMem K (w.setCell ⟨f.gb, n * (K.vw + 3) + (K.vw + 1) + 1, none⟩ (.int .i64 x)) f (s.setB true n x) := by
  rw [Nat.add_assoc]
  refine h.setNode hK hn (by omega) _ _ rfl fun m => ?_
  by_cases e : m = n
  · subst e; simp [nodeRow, ASt.setB, upd, upd2, hK.wide, List.set_append]; rw [if_neg (by omega)]; simp [show K.vw + (1 + 1) - K.vw = 2 from by omega]
  · simp [nodeRow, ASt.setB, upd, upd2, e]
theorem AMem.setHead (hK : K.ok) (h : AMem K w f s) {j : Nat} (u : Value) (s' : ASt α) (hs : s' = { s with freed := s'.freed, used := s'.used })
    (he : ∀ nv lv, headRow s' nv lv = (headRow s nv lv).setIfInBounds j u) : AMem K (w.setCell ⟨f.ab, j, none⟩ u) f s' := by
  obtain ⟨nv, lv, hb, ho, hl⟩ := h
  have hne := own_blk_ne ho.1 hb (fun e => hK.an e.symm)
  have hnl := own_blk_ne hl.1 hb (fun e => hK.al e.symm)
  rw [hs]
  refine ⟨nv, lv, ?_, ho.far (p := ⟨f.ab, j, none⟩) hne u, hl.far (p := ⟨f.ab, j, none⟩) hnl u⟩
  rw [← hs, he]
  exact hb.set_ j u
theorem AMem.setFreed (hK : K.ok) (h : AMem K w f s) (x : Int) : AMem K (w.setCell ⟨f.ab, 3, none⟩ (.int .i64 x)) f (s.setFr x) :=
  h.setHead hK _ _ rfl fun _ _ => by simp [headRow, ASt.setFr]
theorem AMem.setUsed (hK : K.ok) (h : AMem K w f s) (x : Int) : AMem K (w.setCell ⟨f.ab, 4, none⟩ (.int .i64 x)) f (s.setUs x) :=
  h.setHead hK _ _ rfl fun _ _ => by simp [headRow, ASt.setUs]
theorem AMem.setList (hK : K.ok) (h : AMem K w f s) {l j : Nat} (hl : l < s.L) (hj : j < 3) (u : Value) (s' : ASt α) (hs : s' = { s with E := s'.E, CN := s'.CN })
    (he : ∀ m, listRow s' m = if m = l then (listRow s l).set j u else listRow s m) : AMem K (w.setCell ⟨f.lb, l * 3 + j, none⟩ u) f s' := by
  have hal := h.ne_al hK (by omega)
  obtain ⟨nv, lv, hb, ho, hlb⟩ := h
  obtain ⟨cap, rfl, h1, h2⟩ := hlb.form (by omega)
  have hne : nv.ownBlock ≠ some f.lb := own_own_ne hlb.1 ho.1 (fun e => hK.nl e.symm) rfl
  have hst := (hlb.1.stored (l * 3 + j) u).1
  rw [rows_set (listRow_length s) hj u s.L] at hst
  have er : rows (listRow s') s.L = rows (fun m => if m = l then (listRow s l).set j u else listRow s m) s.L := rows_congr _ fun i _ => he i
  rw [hs]
  refine ⟨nv, _, hb.far (by exact hal) u, ho.far (p := ⟨f.lb, l * 3 + j, none⟩) hne u, ⟨?_, hlb.2⟩⟩
  rw [← hs]
  show World.ownsRow _ 0 K.tL 3 _ s'.L (rows (listRow s') s'.L)
  have em : s'.L = s.L := by rw [hs]
  rw [em, er]
  exact hst
theorem AMem.setE0 (hK : K.ok) (h : AMem K w f s) {l : Nat} (hl : l < s.L) (x : Int) : AMem K (w.setCell ⟨f.lb, l * 3, none⟩ (.int .i64 x)) f (s.setE false l x) := by
  refine h.setList hK hl (j := 0) (by omega) _ _ rfl fun m => ?_
  by_cases e : m = l
  · subst e; simp [listRow, ASt.setE, upd, upd2]
  · simp [listRow, ASt.setE, upd, upd2, e]
theorem AMem.setE1 (hK : K.ok) (h : AMem K w f s) {l : Nat} (hl : l < s.L) (x : Int) : AMem K (w.setCell ⟨f.lb, l * 3 + 1, none⟩ (.int .i64 x)) f (s.setE true l x) := by
  refine h.setList hK hl (j := 1) (by omega) _ _ rfl fun m => ?_
  by_cases e : m = l
  · subst e; simp [listRow, ASt.setE, upd, upd2]
  · simp [listRow, ASt.setE, upd, upd2, e]
theorem AMem.setC (hK : K.ok) (h : AMem K w f s) {l : Nat} (hl : l < s.L) (x : Int) : AMem K (w.setCell ⟨f.lb, l * 3 + 2, none⟩ (.int .i64 x)) f (s.setC l x) := by
  refine h.setList hK hl (j := 2) (by omega) _ _ rfl fun m => ?_
  by_cases e : m = l
  · subst e; simp [listRow, ASt.setC, upd]
  · simp [listRow, ASt.setC, upd, e]
end
end Go.Proofs.Ytbjmmfoklnhiiaa
