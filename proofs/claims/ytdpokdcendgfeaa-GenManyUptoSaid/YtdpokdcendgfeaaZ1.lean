/- Several texts in one: Words for memory, for the walks of this seat: a block that is known whole, rows of a fixed width, a footprint. Nothing here names the program. Plans as lists, and what rule.Check tells of them, as functions. Nothing here names the program. Regions that draw their order, over the worlds that have only grown: a callee that makes new memory is let in. Nothing here names the program. Steps of regions that draw their order: an append to an own row, a call; words on own rows. Nothing here names the program. A region that draws its order, by an invariant: what holds of the operations that are listed, whatever their order. Nothing here names the program. A region that draws its order, walked once in the order of its text, with a letter for each operation's value: what J says of what is listed stands whatever the order. Nothing here names the program. A call with any arguments as a step of a region that draws its order. Nothing here names the program. Conditions: those of each. -/
import Derived.Below
import Derived.Laws.OwnMore
import Derived.Deep.Draws
import Derived.Laws.Rows
import Derived.OwnWalk
import Derived.Deep.QuietTactic
import Derived.Deep.RegionLaw
import Derived.Deep.RegionWith
import Derived.Orders
import Derived.Tactics
import Derived.Tactics2
import Derived.Still
import Derived.KernelRfl
set_option linter.unusedSimpArgs false
set_option linter.unusedVariables false
set_option maxHeartbeats 40000000
namespace Go.Proofs.Ytdpokdcendgfeaa
open Go.RowKit
theorem hide {p : Prop} (h : p) : Hid p := h
/-! A footprint: only blocks in S, and new ones, have turned. -/
structure Only (S : Nat → Prop) (w w' : World) : Prop where
 os : w'.os = w.os
 tape : w'.tape = w.tape
 output : w'.output = w.output
 size : w.heap.size ≤ w'.heap.size
 block : ∀ k, k < w.heap.size → ¬ S k → w'.heap[k]? = w.heap[k]?
section
variable {S T : Nat → Prop} {a b c w w' : World}
theorem Only.refl (S : Nat → Prop) (w : World) : Only S w w := ⟨rfl, rfl, rfl, Nat.le_refl _, fun _ _ _ => rfl⟩
theorem Only.trans2 (h : Only S a b) (k : Only T b c) (hT : ∀ i, T i → S i ∨ a.heap.size ≤ i) : Only S a c :=
 ⟨k.os.trans h.os, k.tape.trans h.tape, k.output.trans h.output, Nat.le_trans h.size k.size, fun i hi hS =>
   (k.block i (Nat.lt_of_lt_of_le hi h.size) (fun ht => by rcases hT i ht with h1 | h1; exact hS h1; omega)).trans (h.block i hi hS)⟩
theorem Only.trans (h : Only S a b) (k : Only S b c) : Only S a c := h.trans2 k fun _ hi => .inl hi
theorem Only.mono (h : Only S a b) (hS : ∀ k, S k → T k ∨ a.heap.size ≤ k) : Only T a b :=
 ⟨h.os, h.tape, h.output, h.size, fun i hi hT => h.block i hi (fun hs => by rcases hS i hs with h1 | h1; exact hT h1; omega)⟩
theorem Only.drew (h : Only S a b) : Only S a b.drew := ⟨h.os, h.tape, h.output, h.size, h.block⟩
theorem Only.drewN (h : Only S a b) (n : Nat) : Only S a (b.drewN n) := ⟨h.os, h.tape, h.output, h.size, h.block⟩
theorem Only.alloc (h : Only S a b) (o : Obj) : Only S a (b.alloc o) :=
 ⟨h.os, h.tape, h.output, Nat.le_trans h.size (by simp), fun i hi hS => (Below.heap_alloc b o i (Nat.lt_of_lt_of_le hi h.size)).trans (h.block i hi hS)⟩
theorem Only.setCell (h : Only S a b) {p : Addr} (hp : S p.block ∨ a.heap.size ≤ p.block) (u : Value) : Only S a (b.setCell p u) :=
 ⟨h.os, h.tape, h.output, by simpa [World.setCell] using h.size, fun i hi hS => (Below.heap_setCell b p u i (by
   rintro rfl
   rcases hp with hp | hp
   · exact hS hp
   · omega)).trans (h.block i hi hS)⟩
theorem Only.grown (h : Only S a b) {row : Option Nat} (hg : b.grownBy c row) (hr : ∀ k, row = some k → S k ∨ a.heap.size ≤ k) : Only S a c :=
 ⟨hg.os.trans h.os, hg.tape.trans h.tape, hg.output.trans h.output, Nat.le_trans h.size hg.size, fun i hi hS =>
   (hg.block i (Nat.lt_of_lt_of_le hi h.size) (fun e => by rcases hr i e.symm with h1 | h1; exact hS h1; omega)).trans (h.block i hi hS)⟩
theorem Only.below {B : Nat} (h : Only S a b) (hS : ∀ k, S k → B ≤ k) (hB : B ≤ a.heap.size) : Below B a b :=
 ⟨h.os, h.tape, h.output, h.size, fun i hi => h.block i (by omega) (fun hs => by have := hS i hs; omega)⟩
theorem Only.of_below {B : Nat} (h : Below B a b) : Only (fun k => B ≤ k) a b :=
 ⟨h.os, h.tape, h.output, h.size, fun i _ hS => h.block i (by simpa using hS)⟩
theorem Only.of_new (h : Below a.heap.size a b) : Only S a b :=
 ⟨h.os, h.tape, h.output, h.size, fun i hi _ => h.block i hi⟩
theorem Only.cell (h : Only S a b) {p : Addr} (hp : p.block < a.heap.size) (hS : ¬ S p.block) : b.cell? p = a.cell? p := World.cell?_of_block (h.block _ hp hS)
theorem below_drewN {B : Nat} (h : Below B a w) (n : Nat) : Below B a (w.drewN n) := ⟨h.os, h.tape, h.output, h.size, h.block⟩
end
/-! A block that is known whole. -/
def Blk (w : World) (g : Nat) (t : TypeId) (cs : Array Value) : Prop := w.heap[g]? = some (.cells cs t (0, 0))
section
variable {S : Nat → Prop} {w w' : World} {g : Nat} {t : TypeId} {cs : Array Value}
theorem Blk.lt (h : Blk w g t cs) : g < w.heap.size := by
 rcases Nat.lt_or_ge g w.heap.size with hlt | hge
 · exact hlt
 · unfold Blk at h; rw [Array.getElem?_eq_none hge] at h; cases h
theorem Blk.cell (h : Blk w g t cs) (i : Nat) : w.cell? ⟨g, i, none⟩ = cs[i]? := cell_of_row w g i cs t (0, 0) h
theorem Blk.frozen (h : Blk w g t cs) (i : Nat) : w.frozen? ⟨g, i, none⟩ = false := by
 unfold Blk at h
 simp [World.frozen?, h]
theorem Blk.new (w : World) (t : TypeId) (cs : Array Value) : Blk (w.alloc (.cells cs t)) w.heap.size t cs := heap_alloc_new w _
theorem Blk.drew (h : Blk w g t cs) : Blk w.drew g t cs := h
theorem Blk.drewN (h : Blk w g t cs) (n : Nat) : Blk (w.drewN n) g t cs := h
theorem Blk.alloc (h : Blk w g t cs) (o : Obj) : Blk (w.alloc o) g t cs := (Below.heap_alloc w o g h.lt).trans h
theorem Blk.set_ (h : Blk w g t cs) (i : Nat) (u : Value) : Blk (w.setCell ⟨g, i, none⟩ u) g t (cs.setIfInBounds i u) := by
 unfold Blk at h ⊢
 simp [World.setCell, Array.getElem?_modify, h]
theorem Blk.far (h : Blk w g t cs) {p : Addr} (hp : g ≠ p.block) (u : Value) : Blk (w.setCell p u) g t cs := (Below.heap_setCell w p u g hp).trans h
theorem Blk.below {B : Nat} (h : Blk w g t cs) (hb : Below B w w') (hg : g < B) : Blk w' g t cs := (hb.block g hg).trans h
theorem Blk.only (h : Blk w g t cs) (hb : Only S w w') (hg : ¬ S g) : Blk w' g t cs := (hb.block g h.lt hg).trans h
theorem Blk.grown {row : Option Nat} (h : Blk w g t cs) (hb : w.grownBy w' row) (hg : some g ≠ row) : Blk w' g t cs := (hb.block g h.lt hg).trans h
theorem Blk.ne_ {g' : Nat} {t' : TypeId} {cs' : Array Value} (h : Blk w g t cs) (h' : Blk w g' t' cs') (hne : t ≠ t') : g ≠ g' := by
 rintro rfl
 unfold Blk at h h'
 rw [h] at h'
 injection h' with h'
 injection h' with _ ht
 exact hne ht
theorem own_blk_ne {base : Nat} {e : TypeId} {size n : Nat} {v : Value} {xs : List Value} (h : w.ownsRow base e size v n xs) (hg : Blk w g t cs) (hne : e ≠ t) : v.ownBlock ≠ some g := by
 rcases h.2 with ⟨rfl, _⟩ | ⟨g', cap, cur, rfl, _, hh, _⟩
 · simp [Value.ownBlock]
 · intro he
   have : g' = g := by simpa [Value.ownBlock] using he
   subst this
   exact Blk.ne_ (t := e) hh hg hne rfl
theorem own_only {base : Nat} {e : TypeId} {size n : Nat} {v : Value} {xs : List Value} (h : w.ownsRow base e size v n xs) (hb : Only S w w') (hS : ∀ k, v.ownBlock = some k → ¬ S k) : w'.ownsRow base e size v n xs := by
 refine ⟨h.1, ?_⟩
 rcases h.2 with hn | ⟨g, cap, cur, rfl, hb', hg, rest⟩
 · exact .inl hn
 · exact .inr ⟨g, cap, cur, rfl, hb', (hb.block g (Array.getElem?_eq_some_iff.1 hg).1 (hS g rfl)).trans hg, rest⟩
theorem own_far {base : Nat} {e : TypeId} {size n : Nat} {v : Value} {xs : List Value} (h : w.ownsRow base e size v n xs) {p : Addr} (hp : v.ownBlock ≠ some p.block) (u : Value) : (w.setCell p u).ownsRow base e size v n xs :=
 own_only (S := fun k => k = p.block) h ((Only.refl (fun k => k = p.block) w).setCell (.inl rfl) u) (fun k hk e => hp (by rw [hk, e]))
theorem own_form {base : Nat} {e : TypeId} {size n : Nat} {v : Value} {xs : List Value} (h : w.ownsRow base e size v n xs) (hn : 0 < n) : ∃ g cap, v = .slice (some ⟨g, 0, none⟩) n cap ∧ n ≤ cap ∧ cap ≤ maxLen := by
 rcases h.2 with ⟨_, h0⟩ | ⟨g, cap, cur, rfl, _, _, h1, h2, _⟩
 · omega
 · exact ⟨g, cap, rfl, h1, h2⟩
end
/-! Rows of a fixed width. -/
def rows (f : Nat → List Value) : Nat → List Value
 | 0 => []
 | n + 1 => rows f n ++ f n
section
variable {f g : Nat → List Value} {k : Nat}
end
def upd {α : Type} (f : Nat → α) (i : Nat) (x : α) : Nat → α := fun j => if j = i then x else f j
theorem upd_same {α : Type} (f : Nat → α) (i : Nat) (x : α) : upd f i x i = x := by simp [upd]
theorem upd_other {α : Type} (f : Nat → α) {i j : Nat} (x : α) (h : j ≠ i) : upd f i x j = f j := by simp [upd, h]
end Go.Proofs.Ytdpokdcendgfeaa
namespace Go.Proofs.Ytdpokdcendgfeaa
/-- a row of a plan: kind, A to D, kids -/
structure Ac where
 (k a b c d n : Int)
deriving DecidableEq
structure Vr where
 (init lo hi : Int)
/-- a plan, as lists -/
structure Pl where
 gh : List Bool
 vs : List Vr
 ts : List Int
 on : List (List Ac)
 ms : List Ac
def fromV (n lo hi : Int) : Bool := decide (lo ≤ n) && decide (n ≤ hi)
/-- what stands below a kind: 0 a doing, 1 a block, 2 a number, 3 a bool, 4 either, 5 an item -/
def kidsV (k n : Int) : List Int :=
 if k = 2 then (if n = 3 then [3, 1, 1] else [3, 1]) else if k = 3 then [3, 1] else if k = 4 ∨ k = 28 then [2] else if k = 5 then [5, 2] else if k = 25 then [5]
 else if k = 26 ∨ k = 27 ∨ k = 30 ∨ k = 31 ∨ k = 32 ∨ k = 33 ∨ k = 35 ∨ k = 36 then [2, 2] else if k = 34 then [4, 4] else if k = 29 then [3] else if k = 37 ∨ k = 38 then [3, 3] else []
def typeV (k : Int) : Int :=
 if k = 20 ∨ k = 24 ∨ k = 29 ∨ k = 34 ∨ k = 35 ∨ k = 36 ∨ k = 37 ∨ k = 38 then 3 else if 19 ≤ k ∧ k < 39 then 2 else -1
def mayV (what k : Int) : Bool :=
 if what = 0 then decide (1 ≤ k) && decide (k ≤ 16) else if what = 1 then decide (k = 1) else if what = 5 then decide (k = 17) || decide (k = 18) else if what = 4 then decide (0 ≤ typeV k) else decide (typeV k = what)
/-- is the i-th queue a ghost's? -/
def ghV (g : List Bool) (i : Int) : Bool := g[i.toNat]?.getD false
def qV (g : List Bool) (i : Int) : Bool := fromV i 0 ((g.length : Int) - 1)
/-- may the numbers of a row be? -/
def numV (P : Pl) (x : Ac) : Bool :=
 let g := P.gh
 let two := decide (x.c = 0) && decide (x.d = 0)
 let none_ := decide (x.b = 0) && two
 let en := fromV x.b 0 1 && two
 if x.k = 3 then fromV x.a 0 4194304 && none_
 else if x.k = 4 ∨ x.k = 21 then fromV x.a 0 ((P.vs.length : Int) - 1) && none_
 else if x.k = 5 ∨ x.k = 25 then fromV x.a 0 ((P.ts.length : Int) - 1) && none_
 else if x.k = 19 then fromV x.a (-1073741824) 1073741824 && none_
 else if x.k = 20 then fromV x.a 0 1 && none_
 else if x.k = 22 ∨ x.k = 24 then qV g x.a && none_
 else if x.k = 6 ∨ x.k = 9 ∨ x.k = 10 ∨ x.k = 18 then qV g x.a && en
 else if x.k = 7 ∨ x.k = 15 then (qV g x.a && !ghV g x.a) && en
 else if x.k = 16 then (qV g x.a && ghV g x.a) && en
 else if x.k = 13 then (qV g x.a && fromV x.b 0 1 && (qV g x.c && fromV x.d 0 1)) && (ghV g x.a == ghV g x.c)
 else if x.k = 14 then (qV g x.a && fromV x.b 0 1 && (qV g x.c && fromV x.d 0 1)) && (!ghV g x.a && ghV g x.c)
 else decide (x.a = 0) && none_
/-- how many rows an RTake and what empties the hand are -/
def handV (P : Pl) (l : List Ac) (i : Nat) : Nat :=
 let good := fun (x : Ac) => decide (x.n = 0) && numV P x
 match l[i]?, l[i + 1]? with
 | some x, some y =>
   if good x && good y then
     let gh := ghV P.gh x.a
     if (decide (y.k = 10) && (ghV P.gh y.a == gh)) || (decide (y.k = 12) && gh) then 2
     else if y.k ≠ 11 ∨ gh = true then 0
     else match l[i + 2]? with
       | some z => if good z && (decide (z.k = 12) || (decide (z.k = 10) && ghV P.gh z.a)) then 3 else 0
       | none => 0
   else 0
 | _, _ => 0
/-- the kids of a row, by what must stand there: the place behind them, and what they want -/
def kidsLoop (l : List Ac) (row : Nat → Int → Option (Nat × Int)) (k : Int) : List Int → Nat → Nat → Int → Int → Option (Nat × Int)
 | [], _, i, _, wants => some (i, wants)
 | w :: ws, j, i, kind, wants =>
   match row i (if w = 4 ∧ j = 1 then typeV kind else w) with
   | none => none
   | some (e, n) => kidsLoop l row k ws (j + 1) e ((l[i]?.map Ac.k).getD 0) (max wants (if j = 1 ∧ 19 ≤ k ∧ k ≠ 37 ∧ k ≠ 38 then n + 1 else n))
/-- the kids of a block: the place behind them -/
def blockLoop (P : Pl) (l : List Ac) (row : Nat → Int → Option (Nat × Int)) (m i : Nat) : Option Nat :=
 if _hm : m = 0 then some i else
 match l[i]? with
 | none => none
 | some x =>
   if x.k = 9 then
     if _hh : handV P l i = 0 ∨ m < handV P l i then none else blockLoop P l row (m - handV P l i) (i + handV P l i)
   else if x.k = 10 ∨ x.k = 11 ∨ x.k = 12 then none
   else match row i 0 with
     | none => none
     | some (e, _) => blockLoop P l row (m - 1) e
termination_by m
decreasing_by all_goals omega
/-- a row and all of its own: the place behind it, and what it wants -/
def rowV (P : Pl) (l : List Ac) : Nat → Nat → Int → Option (Nat × Int)
 | 0, _, _ => none
 | f + 1, i, what =>
   match l[i]? with
   | none => none
   | some x =>
     if mayV what x.k && numV P x then
       if x.k = 1 then (if x.n < 0 then none else (blockLoop P l (rowV P l f) x.n.toNat (i + 1)).map (·, 0))
       else if x.n ≠ ((kidsV x.k x.n).length : Int) then none
       else match kidsLoop l (rowV P l f) x.k (kidsV x.k x.n) 0 (i + 1) 0 0 with
         | none => none
         | some (e, w) => if w ≤ 256 then some (e, max w 1) else none
     else none
/-- are an event's rows right? -/
def eventV (P : Pl) (l : List Ac) : Bool := l.isEmpty || (match rowV P l (l.length + 1) 0 1 with | some (e, _) => decide (l.length ≤ e) | none => false)
def vrOk (v : Vr) : Bool := decide (v.lo ≤ v.init) && decide (v.init ≤ v.hi) && decide (-1073741824 ≤ v.lo) && decide (v.hi ≤ 1073741824)
def rowsV (l : List (List Ac)) : Nat := (l.map List.length).sum
def checkV (P : Pl) : Nat :=
 if decide (P.gh.length ≤ 16) && decide (P.vs.length ≤ 16) && decide (P.ts.length ≤ 4) && decide (P.on.length = P.gh.length) && P.vs.all vrOk && P.ts.all (fun t => fromV t 1 255) && decide (rowsV (P.on ++ [P.ms]) ≤ 131072) && (P.on ++ [P.ms]).all (eventV P) then 0 else 71
end Go.Proofs.Ytdpokdcendgfeaa
namespace Go.Proofs.Ytdpokdcendgfeaa
open Go.RowKit
/-- a world that has only grown out of w -/
structure Grown (w : World) where
 v : World
 b : Below w.heap.size w v
instance (w : World) : Nonempty (Grown w) := ⟨⟨w, Below.refl _ _⟩⟩
theorem wp_region_grown {P : Program} {id : Nat} {Q : Exit → Act → World → Prop} {a : Act} {w0 w : World} {l : List Oper} (hb : Below w0.heap.size w0 w) (hm : P.follows .mixedOrders = true) (hB : Region.lexB .any l.toArray = true)
   (h : wpQuiet P l.toArray (fun w' => ∃ z : Grown w0, w' = z.v) (fun a' => ∀ w', (∃ z : Grown w0, w' = z.v) → Q .normal a' w') l a) : (Code.region id l.toArray true).wp P Q a w :=
 wp_region_quiet (C := fun w' => ∃ z : Grown w0, w' = z.v) hm hB ⟨⟨_, hb.drew⟩, rfl⟩ (by simpa using h)
theorem grown_call {P : Program} {f : FuncId} {args : Array Value} {w : World} {z : Grown w} {v : Value} (h : Calls P f args z.v fun e w' => e = .returned v ∧ Below z.v.heap.size z.v w') : Calls P f args z.v fun e w'' => e = .returned v ∧ ∃ z' : Grown w, w'' = z'.v :=
 h.mono fun _ _ ⟨he, hb⟩ => ⟨he, ⟨⟨_, z.b.trans (hb.mono z.b.size)⟩, rfl⟩⟩
theorem grown_same {P : Program} {f : FuncId} {args : Array Value} {w : World} {z : Grown w} {v : Value} (h : Calls P f args z.v fun e w' => e = .returned v ∧ w' = z.v) : Calls P f args z.v fun e w'' => e = .returned v ∧ ∃ z' : Grown w, w'' = z'.v :=
 h.mono fun _ _ ⟨he, hb⟩ => ⟨he, ⟨z, hb⟩⟩
end Go.Proofs.Ytdpokdcendgfeaa
namespace Go.Proofs.Ytdpokdcendgfeaa
open Go.RowKit
theorem step_append_own {P : Program} {ops : Array Oper} {o : Oper} {a : Act} {w : World} {K : Act → World → Prop} {Q : Exit → Act → World → Prop} {E : Prop}
   (hg : o.guard = none) (s x : Operand) (t : TypeId) (hop : o.op = Op.call { callee := Callee.builtin Builtin.append, args := #[s, x], argTypes := #[t, t] })
   (base : Nat) (e : TypeId) (i : TypeInfo) (z : Value) (size bytes : Nat) (h1 : P.underlying t = some (.slice e)) (h2 : P.info? e = some i) (h3 : i.zero = some z) (h4 : i.size = size) (h5 : i.bytes = bytes) (h6 : z.cells.size = size) (h7 : 0 < size)
   (v : Value) (n : Nat) (xs : List Value) (hs : a.eval s = v) (hown : w.ownsRow base e size v n xs)
   (ad : Addr) (m c : Nat) (news : List Value) (hx : a.eval x = .slice (some ad) m c) (hn : news.length = m * size) (hc : ∀ j u, news[j]? = some u → w.cell? (ad.add j) = some u) (h1c : ∀ u ∈ news, u.oneCell' = true)
   (b1 : n + m ≤ maxLen) (b2 : (n + m) * bytes ≤ 140737488355328) (hb : base ≤ w.heap.size)
   (hK : ∀ v' w', w'.ownsRow base e size v' (n + m) (xs ++ news) → w.grownBy w' v.ownBlock → K (a.put o.dst v') w') :
   if Region.wanted o (yielded ops a.tmps) = true then Oper.wp P o a w K Q else E := by
 have hw : Region.wanted o (yielded ops a.tmps) = true := by simp [Region.wanted, hg]
 rw [if_pos hw]
 obtain ⟨v', w', hrun, r1, r2, _⟩ := run_append_own (P := P) w base t o.type e i z size bytes h1 h2 h3 h4 h5 h6 h7 v n xs hown ad m c news hn hc h1c b1 b2 hb
 unfold Oper.wp
 simp [execOp, hop, resolve, invoke, builtin, hs, hx, hrun, Result.andThen]
 exact hK v' w' r1 r2
theorem step_call {P : Program} {ops : Array Oper} {o : Oper} {a : Act} {w : World} {K : Act → World → Prop} {Q : Exit → Act → World → Prop} {E : Prop}
   (hg : o.guard = none) (f : Nat) (x : Operand) (t : TypeId) (hop : o.op = Op.call { callee := Callee.value (Operand.func f), args := #[x], argTypes := #[t] })
   (F : Func) (hF : P.funcs[f]? = some F) (hF1 : F.name ≠ "runtime.NumGoroutine") (hF2 : F.body ≠ none) (v : Value) (hx : a.eval x = v) (R : Value → World → Prop) (hc : Calls P f #[v] w fun e w' => ∃ v', e = .returned v' ∧ R v' w') (hK : ∀ v' w', R v' w' → K (a.put o.dst v') w') :
   if Region.wanted o (yielded ops a.tmps) = true then Oper.wp P o a w K Q else E := by
 have hw : Region.wanted o (yielded ops a.tmps) = true := by simp [Region.wanted, hg]
 rw [if_pos hw]
 obtain ⟨fv, hf⟩ : ∃ fv, a.eval (Operand.func f) = fv := ⟨_, rfl⟩
 have hf2 := hf
 simp only [Act.eval] at hf2
 subst hf2
 unfold Oper.wp
 simp [execOp, hop, resolve, invoke, hx, hf, Deferred.ofValue, callFunc, hF, hF1, hF2, Result.andThen]
 refine hc.mono ?_
 rintro e w' ⟨v', rfl, hr⟩
 exact hK v' w' hr
theorem own_keep {w w' : World} {base : Nat} {e : TypeId} {size n : Nat} {v : Value} {xs : List Value} (h : w.ownsRow base e size v n xs) (hk : ∀ g, v.ownBlock = some g → w'.heap[g]? = w.heap[g]?) : w'.ownsRow base e size v n xs := by
 refine ⟨h.1, ?_⟩
 rcases h.2 with hn | ⟨g, cap, cur, rfl, hb, hgg, rest⟩
 · exact .inl hn
 · exact .inr ⟨g, cap, cur, rfl, hb, (hk g rfl).trans hgg, rest⟩
theorem own_down {w : World} {base base' : Nat} {e : TypeId} {size n : Nat} {v : Value} {xs : List Value} (h : w.ownsRow base e size v n xs) (hb : base' ≤ base) : w.ownsRow base' e size v n xs := by
 refine ⟨h.1, ?_⟩
 rcases h.2 with hn | ⟨g, cap, cur, rfl, hg, rest⟩
 · exact .inl hn
 · exact .inr ⟨g, cap, cur, rfl, Nat.le_trans hb hg, rest⟩
theorem below_grow {B : Nat} {A C : World} {row : Option Nat} (h : A.grownBy C row) (hr : ∀ k, row = some k → B ≤ k) (hB : B ≤ A.heap.size) : Below B A C :=
 ⟨h.os, h.tape, h.output, h.size, fun k hk => h.block k (Nat.lt_of_lt_of_le hk hB) (fun e => by have := hr k e.symm; omega)⟩
theorem own_get {B g n c : Nat} {W : World} {xs : List Value} {t : TypeId} (h : W.ownsRow B t 1 (.slice (some ⟨g, 0, none⟩) n c) n xs) (i : Nat) (x : Value) (hx : xs[i]? = some x) : W.cell? ⟨g, i, none⟩ = some x := by
 rcases h.2 with ⟨e, _⟩ | ⟨g', cap, cur, e, hb, hg, h1, h2, h3, h4⟩
 · simp at e
 · simp only [Value.slice.injEq, Option.some.injEq, Addr.mk.injEq, and_true, true_and] at e
   obtain ⟨rfl, rfl⟩ := e
   rw [Blk.cell (cs := cur) hg]
   have hi := (List.getElem?_eq_some_iff.1 hx).1
   have hl : xs.length = n * 1 := h.1
   have h5 : (cur.toList.take (n * 1))[i]? = xs[i]? := by rw [h4]
   rw [List.getElem?_take, if_pos (by omega), hx] at h5
   simpa using h5
theorem own_below {B base : Nat} {w w' : World} {e : TypeId} {size n : Nat} {v : Value} {xs : List Value} (h : w.ownsRow base e size v n xs) (hb : Below B w w') (hB : w.heap.size ≤ B) : w'.ownsRow base e size v n xs :=
 own_keep h (fun k hk => hb.block k (by have := (h.lt k hk).2; omega))
end Go.Proofs.Ytdpokdcendgfeaa
namespace Go.Proofs.Ytdpokdcendgfeaa
open Go.RowKit
theorem count_set : ∀ (l : List Bool) (j : Nat), l[j]? = some false → (l.set j true).count false + 1 = l.count false
 | [], j, h => by simp at h
 | b :: l, 0, h => by
   simp at h
   subst h
   simp
 | b :: l, j + 1, h => by
   have ih := count_set l j (by simpa using h)
   simp only [List.set_cons_succ, List.count_cons]
   omega
theorem count_zero : ∀ (l : List Bool), l.count false = 0 → ∀ (j : Nat) (b : Bool), l[j]? = some b → b = true
 | [], _, j, b, h => by simp at h
 | x :: l, h0, 0, b, h => by
   simp at h
   subst h
   cases x
   · simp at h0
   · rfl
 | x :: l, h0, j + 1, b, h => count_zero l (by rw [List.count_cons] at h0; omega) j b (by simpa using h)
section
variable {P : Program} {md : Region.Mode} {ops : Array Oper} {Q : Exit → Act → World → Prop}
theorem ready_of_all {listed : Array Bool} (hs : listed.size = ops.size) (h : ∀ j, j < ops.size → listed.getD j false = true) : Region.ready md ops listed = [] := by
 rw [List.eq_nil_iff_forall_not_mem]
 intro j hj
 obtain ⟨h1, o, ho, _⟩ := mem_ready.1 hj
 have hlt := (Array.getElem?_eq_some_iff.1 ho).1
 have h2 := h j hlt
 simp only [Array.getD, hs, hlt, dite_true] at h1 h2
 rw [h1] at h2
 cases h2
theorem all_of_ready {listed : Array Bool} (hs : listed.size = ops.size) (hord : ∀ (j : Nat) (o : Oper), ops[j]? = some o → ∀ e ∈ o.after, e.on < j) (h : Region.ready md ops listed = []) : ∀ j, j < ops.size → listed.getD j false = true := by
 intro j
 induction j using Nat.strongRecOn with
 | ind j ih =>
   intro hj
   cases hl : listed.getD j false with
   | true => rfl
   | false =>
     have hm : j ∈ Region.ready md ops listed := by
       refine mem_ready.2 ⟨?_, _, Array.getElem?_eq_getElem hj, fun e he _ => ih e.on (hord j _ (Array.getElem?_eq_getElem hj) e he) (Nat.lt_trans (hord j _ (Array.getElem?_eq_getElem hj) e he) hj)⟩
       simp only [Array.getD, hs, hj, dite_true] at hl ⊢
       exact hl
     rw [h] at hm
     cases hm
/-- Whatever the order: J holds of what is listed. -/
theorem wpAny_inv (J : Array Bool → Act → World → Prop) (hord : ∀ (j : Nat) (o : Oper), ops[j]? = some o → ∀ e ∈ o.after, e.on < j)
   (hstep : ∀ (listed : Array Bool) (a : Act) (w : World) (j : Nat) (o : Oper), J listed a w → listed.getD j true = false → ops[j]? = some o → (∀ e ∈ o.after, Region.binds md e = true → listed.getD e.on false = true) → wpOp P ops Q j (fun a' w' => J (listed.setIfInBounds j true) a' w') a w)
   (hend : ∀ (listed : Array Bool) (a : Act) (w : World), J listed a w → (∀ j, j < ops.size → listed.getD j false = true) → Q .normal a w) :
   ∀ (fuel : Nat) (listed : Array Bool) (a : Act) (w : World), J listed a w → listed.size = ops.size → listed.toList.count false ≤ fuel → wpAny P md ops Q fuel listed a w
 | 0, listed, a, w, hJ, hs, hc => by
   have hall : ∀ j, j < ops.size → listed.getD j false = true := fun j hj => by
     have h1 := count_zero listed.toList (by omega) j (listed[j]'(by omega)) (by rw [Array.getElem?_toList, Array.getElem?_eq_getElem (by omega)])
     simp only [Array.getD, hs, hj, dite_true]
     exact h1
   exact ⟨ready_of_all hs hall, hend _ _ _ hJ hall⟩
 | fuel + 1, listed, a, w, hJ, hs, hc => by
   refine ⟨fun h0 => hend _ _ _ hJ (all_of_ready hs hord h0), fun i hi => ?_⟩
   obtain ⟨h1, o, ho, h2⟩ := mem_ready.1 hi
   have hlt := (Array.getElem?_eq_some_iff.1 ho).1
   refine wpOp_mono (fun a' w' hJ' => wpAny_inv J hord hstep hend fuel _ a' w' hJ' (by simpa using hs) ?_) (hstep listed a w i o hJ h1 ho h2)
   have h3 : listed.toList[i]? = some false := by
     rw [Array.getElem?_toList, Array.getElem?_eq_getElem (by omega)]
     simp only [Array.getD, hs, hlt, dite_true] at h1
     simpa using h1
   have h4 := count_set listed.toList i h3
   simp only [Array.toList_setIfInBounds]
   omega
theorem wp_region_inv {id : Nat} {a : Act} {w : World} {l : List Oper} (J : Array Bool → Act → World → Prop) (hm : P.follows .mixedOrders = true) (hord : ∀ (j : Nat) (o : Oper), l.toArray[j]? = some o → ∀ e ∈ o.after, e.on < j)
   (hstart : J (Array.replicate l.toArray.size false) a w.drew)
   (hstep : ∀ (listed : Array Bool) (a : Act) (w : World) (j : Nat) (o : Oper), J listed a w → listed.getD j true = false → l.toArray[j]? = some o → (∀ e ∈ o.after, Region.binds .any e = true → listed.getD e.on false = true) → wpOp P l.toArray Q j (fun a' w' => J (listed.setIfInBounds j true) a' w') a w)
   (hend : ∀ (listed : Array Bool) (a : Act) (w : World), J listed a w → (∀ j, j < l.toArray.size → listed.getD j false = true) → Q .normal a w) : (Code.region id l.toArray true).wp P Q a w :=
 wp_region_any hm (wpAny_inv J hord hstep hend _ _ _ _ hstart (by simp) (by simp))
end
end Go.Proofs.Ytdpokdcendgfeaa
namespace Go.Proofs.Ytdpokdcendgfeaa
open Go.RowKit
def upn {α : Type} (f : Nat → α) (j : Nat) (v : α) : Nat → α := fun k => if k = j then v else f k
theorem upn_ne {α : Type} {f : Nat → α} {j k : Nat} {v : α} (h : k ≠ j) : upn f j v k = f k := if_neg h
theorem upn_eq {α : Type} {f : Nat → α} {j : Nat} {v : α} : upn f j v j = v := if_pos rfl
/-- what an operation tells, and where it leads -/
def parUpon (P : Program) (R : Value → World → Prop) : Result Next → Prop
 | .ok (.value u) w' => R u w'
 | .ok .skip w' => R undef w'
 | .ok (.enter f args) w' => Calls P f args w' (fun e w'' => ∃ u, e = .returned u ∧ R u w'')
 | _ => False
def par (P : Program) (o : Oper) (a : Act) (w : World) (R : Value → World → Prop) : Prop := parUpon P R ((execOp a.eval o).run P w)
theorem wp_of_par {P : Program} {o : Oper} {a b : Act} {w : World} {R : Value → World → Prop} {K : Act → World → Prop} {Q : Exit → Act → World → Prop} (he : execOp a.eval o = execOp b.eval o) (h : par P o b w R) (hK : ∀ u w', R u w' → K (a.put o.dst u) w') : o.wp P a w K Q := by
 unfold par at h
 rw [← he] at h
 unfold Oper.wp
 generalize (execOp a.eval o).run P w = r at *
 cases r with
 | ok n w' =>
   cases n <;> simp only [parUpon] at h <;> simp only [Oper.upon]
   case value u => exact hK _ _ h
   case skip => exact hK _ _ h
   case enter f args =>
     exact h.mono fun e w'' ⟨u, he, hu⟩ => by subst he; exact hK _ _ hu
 | halt x w' => simp only [parUpon] at h
/-- the frame in which those in S have come up -/
def layP : List Oper → Nat → (Nat → Bool) → (Nat → Value) → Act → Act
 | [], _, _, _, a => a
 | o :: l, i, S, vs, a => layP l (i + 1) S vs (if S i then a.put o.dst (vs i) else a)
section
variable {ops : Array Oper}
/-- two frames that an operation cannot tell apart -/
def Alike (o : Oper) (ops : Array Oper) (a b : Act) : Prop := ∀ t ∈ o.looksAt ops, a.tmps[t]? = b.tmps[t]?
theorem put_get {a : Act} {dst : Option Tmp} {v : Value} {t : Tmp} (h : dst ≠ some t) : (a.put dst v).tmps[t]? = a.tmps[t]? := by
 cases dst with
 | none => rfl
 | some d =>
   have hne : d ≠ t := fun e => h (e ▸ rfl)
   simp [Act.put, Array.getElem?_setIfInBounds_ne hne]
theorem alike_put {o : Oper} {a b : Act} {dst : Option Tmp} {v : Value} (hs : a.tmps.size = b.tmps.size) (h : Alike o ops a b) : Alike o ops (a.put dst v) (b.put dst v) := by
 intro t ht
 cases dst with
 | none => exact h t ht
 | some d =>
   by_cases hd : d = t
   · subst hd
     simp only [Act.put, Array.getElem?_setIfInBounds, hs]
     simp
   · rw [put_get (by simpa using hd), put_get (by simpa using hd)]
     exact h t ht
theorem put_size {a : Act} {dst : Option Tmp} {v : Value} : (a.put dst v).tmps.size = a.tmps.size := by
 cases dst <;> simp [Act.put]
theorem alike_layP {o : Oper} : ∀ (l : List Oper) (i : Nat) (S T : Nat → Bool) (vs : Nat → Value) (a b : Act), a.tmps.size = b.tmps.size → Alike o ops a b → (∀ k x, l[k]? = some x → S (i + k) = T (i + k) ∨ ∀ d, x.dst = some d → d ∉ o.looksAt ops) → Alike o ops (layP l i S vs a) (layP l i T vs b)
 | [], _, _, _, _, _, _, _, h, _ => h
 | x :: l, i, S, T, vs, a, b, hs, h, hl => by
   unfold layP
   have h0 := hl 0 x rfl
   refine alike_layP l (i + 1) S T vs _ _ ?_ ?_ (fun k y hk => by have := hl (k + 1) y (by simpa using hk); rwa [Nat.add_assoc, Nat.add_comm 1 k])
   · split <;> split <;> simp [put_size, hs]
   · rcases h0 with h0 | h0
     · rw [Nat.add_zero] at h0
       rw [h0]
       split
       · exact alike_put hs h
       · exact h
     · have hput : ∀ (c : Act) v, Alike o ops (c.put x.dst v) c := fun c v t ht => put_get (fun e => h0 t e ht)
       intro t ht
       split <;> split
       · exact ((hput a _ t ht).trans (h t ht)).trans (hput b _ t ht).symm
       · exact (hput a _ t ht).trans (h t ht)
       · exact (h t ht).trans (hput b _ t ht).symm
       · exact h t ht
theorem exec_alike {o : Oper} {a b : Act} (hs : ∀ cs b, o.op ≠ .select cs b) (h : Alike o ops a b) : execOp a.eval o = execOp b.eval o :=
 execOp_congr o hs fun x hx => by
   cases x with
   | tmp t =>
     have := h t (List.mem_append_left _ (List.mem_filterMap.2 ⟨.tmp t, by simpa using hx, rfl⟩))
     simp only [Act.eval]
     rw [Array.getD_eq_getD_getElem?, Array.getD_eq_getD_getElem?, this]
   | _ => rfl
theorem wanted_alike {o : Oper} {a b : Act} (h : Alike o ops a b) : Region.wanted o (yielded ops a.tmps) = Region.wanted o (yielded ops b.tmps) := by
 unfold Region.wanted
 cases hg : o.guard with
 | none => rfl
 | some gw =>
   obtain ⟨g, want⟩ := gw
   have hy : yielded ops a.tmps g = yielded ops b.tmps g := by
     unfold yielded
     cases ht : (ops[g]?).bind (·.dst) with
     | none => rfl
     | some t =>
       have h1 := h t (by simp [Oper.looksAt, hg, ht])
       simp only [Option.bind_some, h1]
   simp only [hy]
theorem layP_put : ∀ (l : List Oper) (i : Nat) (S : Nat → Bool) (vs : Nat → Value) (a : Act) (d : Option Tmp) (u : Value), (∀ (k : Nat) (x : Oper), l[k]? = some x → ∀ t, x.dst = some t → d ≠ some t) → layP l i S vs (a.put d u) = (layP l i S vs a).put d u
 | [], _, _, _, _, _, _, _ => rfl
 | x :: l, i, S, vs, a, d, u, h => by
   unfold layP
   have h0 := h 0 x rfl
   have ih := fun c => layP_put l (i + 1) S vs c d u (fun k y hk => h (k + 1) y (by simpa using hk))
   split
   · rw [Act.put_comm a u (vs i) (fun t ht ht2 => h0 t ht2 ht), ih]
   · rw [ih]
theorem layP_congr : ∀ (l : List Oper) (i : Nat) (S T : Nat → Bool) (vs us : Nat → Value) (a : Act), (∀ k, k < l.length → S (i + k) = T (i + k) ∧ vs (i + k) = us (i + k)) → layP l i S vs a = layP l i T us a
 | [], _, _, _, _, _, _, _ => rfl
 | x :: l, i, S, T, vs, us, a, h => by
   unfold layP
   have h0 := h 0 (by simp)
   rw [Nat.add_zero] at h0
   rw [h0.1, h0.2]
   exact layP_congr l (i + 1) S T vs us _ (fun k hk => by have := h (k + 1) (by simpa using hk); rwa [Nat.add_assoc, Nat.add_comm 1 k])
/-- one more has come up -/
theorem layP_more : ∀ (l : List Oper) (i : Nat) (S : Nat → Bool) (vs : Nat → Value) (a : Act) (j : Nat) (o : Oper) (u : Value), l[j]? = some o → S (i + j) = false → (∀ (k k' : Nat) (x y : Oper), l[k]? = some x → l[k']? = some y → k ≠ k' → ∀ t, x.dst = some t → y.dst ≠ some t) → (layP l i S vs a).put o.dst u = layP l i (upn S (i + j) true) (upn vs (i + j) u) a
 | [], _, _, _, _, _, _, _, h, _, _ => by simp at h
 | x :: l, i, S, vs, a, 0, o, u, h, hS, hd => by
   simp at h
   subst h
   rw [Nat.add_zero] at hS
   unfold layP
   rw [hS]
   simp only [Nat.add_zero, Bool.false_eq_true, if_false, upn, if_true]
   rw [← layP_put l (i + 1) S vs a x.dst u (fun k y hk t ht ht2 => hd (k + 1) 0 y x (by simpa using hk) rfl (by omega) t ht ht2)]
   refine layP_congr _ _ _ _ _ _ _ (fun k hk => ?_)
   have h1 : i + 1 + k ≠ i := by omega
   exact ⟨(if_neg h1).symm, (if_neg h1).symm⟩
 | x :: l, i, S, vs, a, j + 1, o, u, h, hS, hd => by
   unfold layP
   have hne : i ≠ i + (j + 1) := by omega
   simp only [upn, hne, if_false]
   have ih := layP_more l (i + 1) S vs (if S i = true then a.put x.dst (vs i) else a) j o u (by simpa using h) (by rwa [Nat.add_assoc, Nat.add_comm 1 j]) (fun k k' y z hk hk' hne => hd (k + 1) (k' + 1) y z (by simpa using hk) (by simpa using hk') (by omega))
   rw [ih]
   refine layP_congr _ _ _ _ _ _ _ (fun k hk => ?_)
   have e : i + 1 + j = i + (j + 1) := by omega
   rw [e]
   exact ⟨rfl, rfl⟩
end
def directs (o : Oper) : List Nat := (o.after.toList.filter fun e => Region.binds .any e).map (·.on)
/-- the check of a region: selects none, no slot written twice, who looks at a slot comes behind; 'anc j': who has come up ahead of j -/
def parB (l : List Oper) (anc : List (List Nat)) : Bool :=
 let n := l.length
 (List.range n).all fun j => match l[j]? with
   | none => false
   | some o =>
     (match o.op with | .select _ _ => false | _ => true) &&
     (o.after.toList.all fun e => decide (e.on < j)) &&
     ((anc.getD j []).all fun i => (directs o).contains i || (directs o).any fun k => (anc.getD k []).contains i) &&
     ((List.range n).all fun i => i == j || match l[i]? with
       | none => false
       | some x => match x.dst with
         | none => true
         | some d => o.dst != some d && (!(o.looksAt l.toArray).contains d || (decide (i < j) && (anc.getD j []).contains i)))
section
variable {P : Program} {Q : Exit → Act → World → Prop}
def wpPar (P : Program) (ops : Array Oper) (J : (Nat → Bool) → (Nat → Value) → World → Prop) (anc : List (List Nat)) (E : Act → Prop) (vs : Nat → Value) : List Oper → Nat → Act → Prop
 | [], _, a => E a
 | o :: rest, j, a =>
   (∀ S w, S j = false → (∀ i ∈ anc.getD j [], S i = true) → (∀ k, k < ops.size → j ∈ anc.getD k [] → S k = false) → J S vs w → if Region.wanted o (yielded ops a.tmps) then par P o a w (fun u w' => J (upn S j true) (upn vs j u) w') else J (upn S j true) (upn vs j undef) w) ∧
   wpPar P ops J anc E vs rest (j + 1) (a.put o.dst (vs j))
theorem wpPar_nil {ops : Array Oper} {J : (Nat → Bool) → (Nat → Value) → World → Prop} {anc : List (List Nat)} {E : Act → Prop} {vs : Nat → Value} {j : Nat} {a : Act} (h : E a) : wpPar P ops J anc E vs [] j a := h
/-- one operation -/
theorem wpPar_step {ops : Array Oper} {J : (Nat → Bool) → (Nat → Value) → World → Prop} {anc : List (List Nat)} {E : Act → Prop} {vs : Nat → Value} {o : Oper} {rest : List Oper} {j : Nat} {a : Act}
   (h : ∀ S w, S j = false → (∀ i ∈ anc.getD j [], S i = true) → (∀ k, k < ops.size → j ∈ anc.getD k [] → S k = false) → J S vs w → ∀ R : Value → World → Prop, (∀ u w', J (upn S j true) (upn vs j u) w' → R u w') → if Region.wanted o (yielded ops a.tmps) then par P o a w R else R undef w)
   (hr : ∀ K : Act → Prop, (∀ b, wpPar P ops J anc E vs rest (j + 1) b → K b) → K (a.put o.dst (vs j))) : wpPar P ops J anc E vs (o :: rest) j a :=
 ⟨fun S w h1 h2 h3 h4 => h S w h1 h2 h3 h4 _ (fun _ _ h => h), hr _ (fun _ h => h)⟩
/-- one operation that nothing guards -/
theorem wpPar_step0 {ops : Array Oper} {J : (Nat → Bool) → (Nat → Value) → World → Prop} {anc : List (List Nat)} {E : Act → Prop} {vs : Nat → Value} {o : Oper} {rest : List Oper} {j : Nat} {a : Act} (hg : o.guard = none)
   (h : ∀ S w, S j = false → (∀ i ∈ anc.getD j [], S i = true) → (∀ k, k < ops.size → j ∈ anc.getD k [] → S k = false) → J S vs w → ∀ R : Value → World → Prop, (∀ u w', J (upn S j true) (upn vs j u) w' → R u w') → par P o a w R)
   (hr : ∀ K : Act → Prop, (∀ b, wpPar P ops J anc E vs rest (j + 1) b → K b) → K (a.put o.dst (vs j))) : wpPar P ops J anc E vs (o :: rest) j a :=
 wpPar_step (fun S w h1 h2 h3 h4 R hR => by
   have hw : Region.wanted o (yielded ops a.tmps) = true := by simp [Region.wanted, hg]
   rw [if_pos hw]
   exact h S w h1 h2 h3 h4 R hR) hr
theorem wpPar_get {ops : Array Oper} {J : (Nat → Bool) → (Nat → Value) → World → Prop} {anc : List (List Nat)} {E : Act → Prop} {vs : Nat → Value} : ∀ (l : List Oper) (i : Nat) (a : Act) (j : Nat) (o : Oper), wpPar P ops J anc E vs l i a → l[j]? = some o →
   ∀ S w, S (i + j) = false → (∀ k ∈ anc.getD (i + j) [], S k = true) → (∀ k, k < ops.size → i + j ∈ anc.getD k [] → S k = false) → J S vs w → if Region.wanted o (yielded ops (layP l i (fun k => decide (k < i + j)) vs a).tmps) then par P o (layP l i (fun k => decide (k < i + j)) vs a) w (fun u w' => J (upn S (i + j) true) (upn vs (i + j) u) w') else J (upn S (i + j) true) (upn vs (i + j) undef) w
 | [], _, _, _, _, _, h => by simp at h
 | x :: l, i, a, 0, o, h, hj => by
   simp at hj
   subst hj
   have e : layP (x :: l) i (fun k => decide (k < i + 0)) vs a = a := by
     have : ∀ (l : List Oper) (m : Nat), i ≤ m → layP l m (fun k => decide (k < i + 0)) vs a = a := by
       intro l
       induction l with
       | nil => intro m _; rfl
       | cons y l ih =>
         intro m hm
         unfold layP
         rw [if_neg (by simp; omega)]
         exact ih (m + 1) (by omega)
     exact this _ _ (Nat.le_refl _)
   rw [e]
   exact h.1
 | x :: l, i, a, j + 1, o, h, hj => by
   have ih := wpPar_get l (i + 1) _ j o h.2 (by simpa using hj)
   have e2 : i + 1 + j = i + (j + 1) := by omega
   rw [e2] at ih
   unfold layP
   rw [if_pos (by simp)]
   exact ih
theorem wpPar_end {ops : Array Oper} {J : (Nat → Bool) → (Nat → Value) → World → Prop} {anc : List (List Nat)} {E : Act → Prop} {vs : Nat → Value} : ∀ (l : List Oper) (i : Nat) (a : Act) (S : Nat → Bool), wpPar P ops J anc E vs l i a → (∀ k, k < l.length → S (i + k) = true) → E (layP l i S vs a)
 | [], _, _, _, h, _ => h
 | x :: l, i, a, S, h, hS => by
   unfold layP
   rw [if_pos (by simpa using hS 0 (by simp))]
   exact wpPar_end l (i + 1) _ S h.2 (fun k hk => by have := hS (k + 1) (by simpa using hk); rwa [Nat.add_assoc, Nat.add_comm 1 k])
theorem layP_none : ∀ (l : List Oper) (i : Nat) (S : Nat → Bool) (vs : Nat → Value) (a : Act), (∀ k, k < l.length → S (i + k) = false) → layP l i S vs a = a
 | [], _, _, _, _, _ => rfl
 | x :: l, i, S, vs, a, h => by
   unfold layP
   rw [if_neg (by simpa using h 0 (by simp))]
   exact layP_none l (i + 1) S vs a (fun k hk => by have := h (k + 1) (by simpa using hk); rwa [Nat.add_assoc, Nat.add_comm 1 k])
theorem wp_region_par {id : Nat} {a : Act} {w : World} {l : List Oper} (J : (Nat → Bool) → (Nat → Value) → World → Prop) (anc : List (List Nat)) (hm : P.follows .mixedOrders = true) (hB : parB l anc = true)
   (h0 : ∀ vs, J (fun i => decide (l.length ≤ i)) vs w.drew)
   (h : ∀ vs, wpPar P l.toArray J anc (fun a' => ∀ w', J (fun _ => true) vs w' → Q .normal a' w') vs l 0 a) : (Code.region id l.toArray true).wp P Q a w := by
 have hB' : ∀ (j : Nat) (o : Oper), l[j]? = some o → (∀ cs b, o.op ≠ .select cs b) ∧ (∀ e ∈ o.after, e.on < j) ∧ (∀ i ∈ anc.getD j [], i ∈ directs o ∨ ∃ k ∈ directs o, i ∈ anc.getD k []) ∧ (∀ i x, l[i]? = some x → i ≠ j → ∀ d, x.dst = some d → o.dst ≠ some d ∧ (d ∈ o.looksAt l.toArray → i < j ∧ i ∈ anc.getD j [])) := by
   intro j o ho
   have hj : j < l.length := (List.getElem?_eq_some_iff.1 ho).1
   simp only [parB, List.all_eq_true, List.mem_range] at hB
   have h1 := hB j hj
   rw [ho] at h1
   simp only [Bool.and_eq_true, List.all_eq_true, List.mem_range, Bool.or_eq_true, decide_eq_true_eq, List.contains_iff_mem, List.any_eq_true, beq_iff_eq] at h1
   obtain ⟨⟨⟨h2, h3⟩, h4⟩, h5⟩ := h1
   refine ⟨fun cs b e => by rw [e] at h2; simp at h2, fun e he => h3 e (by simpa using he), h4, fun i x hx hne d hd => ?_⟩
   have h6 := h5 i (List.getElem?_eq_some_iff.1 hx).1
   rcases h6 with h6 | h6
   · exact absurd h6 hne
   · rw [hx] at h6
     simp only [hd, Bool.and_eq_true, Bool.or_eq_true, bne_iff_ne, ne_eq, Bool.not_eq_true', List.contains_iff_mem, decide_eq_true_eq] at h6
     refine ⟨h6.1, fun hm => ?_⟩
     rcases h6.2 with h7 | h7
     · exact absurd hm (by simpa using h7)
     · exact h7
 have hsz : ∀ (listed : Array Bool) (j : Nat), (fun i => (listed.setIfInBounds j true).getD i true) = upn (fun i => listed.getD i true) j true := by
   intro listed j
   funext i
   simp only [upn, Array.getD_eq_getD_getElem?, Array.getElem?_setIfInBounds]
   by_cases hij : i = j
   · subst hij
     simp
     split <;> rfl
   · simp [hij, Ne.symm hij]
 refine wp_region_inv (fun listed a' w' => ∃ vs, a' = layP l 0 (fun i => listed.getD i true) vs a ∧ J (fun i => listed.getD i true) vs w' ∧ (∀ j, j < l.length → listed.getD j true = true → ∀ i ∈ anc.getD j [], listed.getD i true = true) ∧ listed.size = l.length) hm (fun j o ho => (hB' j o (by simpa using ho)).2.1) ?_ ?_ ?_
 · have e : (fun i => (Array.replicate l.toArray.size false).getD i true) = fun i => decide (l.length ≤ i) := by
     funext i
     simp only [Array.getD_eq_getD_getElem?, Array.getElem?_replicate]
     by_cases hi : i < l.length
     · simp [hi]; 
     · simp [hi]; omega
   refine ⟨fun _ => undef, ?_, ?_, fun j hj hl => ?_, by simp⟩
   · rw [e, layP_none]
     intro k hk
     simp only [Nat.zero_add]
     simpa using hk
   · rw [e]; exact h0 _
   · have h1 : (Array.replicate l.toArray.size false).getD j true = decide (l.length ≤ j) := congrFun e j
     rw [h1] at hl
     simp at hl
     omega
 · rintro listed a' w' j o ⟨vs, rfl, hJ, hcl, hlz⟩ hj ho hafter
   have ho' : l[j]? = some o := by simpa using ho
   obtain ⟨hs1, hs2, hs3, hs4⟩ := hB' j o ho'
   have hjl : j < l.length := (List.getElem?_eq_some_iff.1 ho').1
   have hdir : ∀ k ∈ directs o, k < j ∧ listed.getD k true = true := by
     intro k hk
     simp only [directs, List.mem_map, List.mem_filter] at hk
     obtain ⟨e, ⟨he1, he2⟩, rfl⟩ := hk
     have h1 := hafter e (by simpa using he1) he2
     refine ⟨hs2 e (by simpa using he1), ?_⟩
     rw [Array.getD_eq_getD_getElem?] at h1 ⊢
     cases hq : listed[e.on]? with
     | none => rfl
     | some b => rw [hq] at h1; simpa using h1
   have hanc : ∀ i ∈ anc.getD j [], listed.getD i true = true := by
     intro i hi
     rcases hs3 i hi with h1 | ⟨k, hk, h1⟩
     · exact (hdir i h1).2
     · exact hcl k (by have := (hdir k hk).1; omega) (hdir k hk).2 i h1
   have hg := wpPar_get l 0 a j o (h vs) ho' (fun i => listed.getD i true) w' (by simpa using hj) (by simpa using hanc) (fun k hk hm => by
     cases hq : listed.getD k true with
     | false => rfl
     | true =>
       have h1 := hcl k (by simpa using hk) hq j (by simpa using hm)
       rw [hj] at h1
       cases h1) hJ
   simp only [Nat.zero_add] at hg
   have hal : Alike o l.toArray (layP l 0 (fun i => listed.getD i true) vs a) (layP l 0 (fun k => decide (k < j)) vs a) := by
     refine alike_layP l 0 _ _ vs a a rfl (fun t _ => rfl) (fun k x hk => ?_)
     rw [Nat.zero_add]
     by_cases hkj : k = j
     · subst hkj
       left
       rw [hj]
       simp
     · by_cases hin : ∃ d, x.dst = some d ∧ d ∈ o.looksAt l.toArray
       · obtain ⟨d, hd, hdm⟩ := hin
         obtain ⟨h1, h2⟩ := (hs4 k x hk hkj d hd).2 hdm
         left
         rw [hanc k h2]
         simp [h1]
       · right
         exact fun d hd hdm => hin ⟨d, hd, hdm⟩
   have hw := wanted_alike hal
   have hx := exec_alike hs1 hal
   have hput : ∀ u w'', J (upn (fun i => listed.getD i true) j true) (upn vs j u) w'' → ∃ vs', (layP l 0 (fun i => listed.getD i true) vs a).put o.dst u = layP l 0 (fun i => (listed.setIfInBounds j true).getD i true) vs' a ∧ J (fun i => (listed.setIfInBounds j true).getD i true) vs' w'' ∧ (∀ m, m < l.length → (listed.setIfInBounds j true).getD m true = true → ∀ i ∈ anc.getD m [], (listed.setIfInBounds j true).getD i true = true) ∧ (listed.setIfInBounds j true).size = l.length := by
     intro u w'' hj'
     have hup : ∀ i, (listed.setIfInBounds j true).getD i true = upn (fun i => listed.getD i true) j true i := fun i => congrFun (hsz listed j) i
     refine ⟨upn vs j u, ?_, by rw [hsz]; exact hj', fun m hm hl i hi => ?_, by simpa using hlz⟩
     · rw [hsz]
       have := layP_more l 0 (fun i => listed.getD i true) vs a j o u ho' (by simpa using hj) (fun k k' x y hk hk' hne t ht ht2 => (hB' k' y hk').2.2.2 k x hk hne t ht |>.1 ht2)
       simpa using this
     · rw [hup] at hl ⊢
       simp only [upn] at hl ⊢
       split
       · rfl
       · by_cases hmj : m = j
         · subst hmj
           exact hanc i hi
         · rw [if_neg hmj] at hl
           exact hcl m hm hl i hi
   unfold wpOp
   simp only [ho]
   rw [hw]
   split
   · rename_i hwt
     rw [if_pos hwt] at hg
     exact .inl (wp_of_par hx hg hput)
   · rename_i hwt
     rw [if_neg hwt] at hg
     exact hput _ _ hg
 · rintro listed a' w' ⟨vs, rfl, hJ, _, hlz⟩ hall
   have e : (fun i => listed.getD i true) = fun _ => true := by
     funext i
     by_cases hi : i < l.length
     · have h1 := hall i (by simpa using hi)
       rw [Array.getD_eq_getD_getElem?] at h1 ⊢
       cases hq : listed[i]? with
       | none => rfl
       | some b => rw [hq] at h1; simpa using h1
     · simp only [Array.getD_eq_getD_getElem?]
       rw [Array.getElem?_eq_none (by omega)]
       rfl
   rw [e] at hJ ⊢
   exact wpPar_end l 0 a _ (h vs) (fun _ _ => rfl) w' hJ
theorem par_append {o : Oper} {a : Act} {w : World} {R : Value → World → Prop} (s x : Operand) (t : TypeId) (hop : o.op = Op.call { callee := Callee.builtin Builtin.append, args := #[s, x], argTypes := #[t, t] })
   (v vx : Value) (hs : a.eval s = v) (hx : a.eval x = vx) {u : Value} {w' : World} (hrun : (Builtin.append_ #[t, t] o.type #[v, vx]).run P w = .ok u w') (hR : R u w') : par P o a w R := by
 unfold par
 simp [execOp, hop, resolve, invoke, builtin, hs, hx, hrun, Result.andThen, parUpon]
 exact hR
theorem par_call {o : Oper} {a : Act} {w : World} {R : Value → World → Prop} (f : Nat) (x : Operand) (t : TypeId) (hop : o.op = Op.call { callee := Callee.value (Operand.func f), args := #[x], argTypes := #[t] })
   (F : Func) (hF : P.funcs[f]? = some F) (hF1 : F.name ≠ "runtime.NumGoroutine") (hF2 : F.body ≠ none) (v : Value) (hx : a.eval x = v) (hc : Calls P f #[v] w fun e w' => ∃ u, e = .returned u ∧ R u w') : par P o a w R := by
 obtain ⟨fv, hf⟩ : ∃ fv, a.eval (Operand.func f) = fv := ⟨_, rfl⟩
 have hf2 := hf
 simp only [Act.eval] at hf2
 subst hf2
 unfold par
 simp [execOp, hop, resolve, invoke, hx, hf, Deferred.ofValue, callFunc, hF, hF1, hF2, Result.andThen, parUpon]
 exact hc
end
end Go.Proofs.Ytdpokdcendgfeaa
namespace Go.Proofs.Ytdpokdcendgfeaa
open Go.RowKit
/-- a call with any arguments, as a step of a region -/
theorem step_calls {P : Program} {ops : Array Oper} {o : Oper} {a : Act} {w : World} {K : Act → World → Prop} {Q : Exit → Act → World → Prop} {E : Prop}
   (hg : o.guard = none) (f : Nat) (xs : Array Operand) (ts : Array TypeId) (hop : o.op = Op.call { callee := Callee.value (Operand.func f), args := xs, argTypes := ts })
   (F : Func) (hF : P.funcs[f]? = some F) (hF1 : F.name ≠ "runtime.NumGoroutine") (hF2 : F.body ≠ none) (vs : Array Value) (hx : xs.map a.eval = vs) (R : Value → World → Prop) (hc : Calls P f vs w fun e w' => ∃ v', e = .returned v' ∧ R v' w') (hK : ∀ v' w', R v' w' → K (a.put o.dst v') w') :
   if Region.wanted o (yielded ops a.tmps) = true then Oper.wp P o a w K Q else E := by
 have hw : Region.wanted o (yielded ops a.tmps) = true := by simp [Region.wanted, hg]
 rw [if_pos hw]
 obtain ⟨fv, hf⟩ : ∃ fv, a.eval (Operand.func f) = fv := ⟨_, rfl⟩
 have hf2 := hf
 simp only [Act.eval] at hf2
 subst hf2
 unfold Oper.wp
 simp [execOp, hop, resolve, invoke, hx, hf, Deferred.ofValue, callFunc, hF, hF1, hF2, Result.andThen]
 refine hc.mono ?_
 rintro e w' ⟨v', rfl, hr⟩
 exact hK v' w' hr
end Go.Proofs.Ytdpokdcendgfeaa
