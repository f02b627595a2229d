/- Several texts in one: Words for memory, for the walks of this seat: a block that is known whole, rows of a fixed width, a footprint. Nothing here names the program. Plans as lists, and what rule.Check tells of them, as functions. Nothing here names the program. The walks of the smallest functions of rule: from, typeOf, may, kidsOf. Rows of a plan in memory; the walk of slices.Index at rows. The walks of the smallest functions of fold: fixed, num, truth, clamp, asNum, asBool. The walks of fold.harmless and of its closure. The walks of slices.Clone at the types of a plan. Conditions: those of each. -/
import Derived.Below
import Derived.Laws.OwnMore
import Derived.Deep.Draws
import Derived.Laws.Rows
import Derived.OwnWalk
import Derived.Test.YtdpokdcendgfeaaProg
import Derived.WalkKit
import Derived.RegionTactic
import Derived.ChangeAlike
import Derived.BigQuiet
import Derived.Outline
import Derived.Laws.StructEq
import Derived.Laws.Cover3
set_option linter.unusedSimpArgs false
set_option linter.unusedVariables false
set_option maxHeartbeats 80000000
set_option maxRecDepth 100000
namespace Go.Proofs.Ytdpokdcendgfeaa
open Go.RowKit
theorem br_ {B:Nat} {w:World}:Below B w w:=Below.refl _ _
theorem lr_ {n:Nat}:n≤n:=Nat.le_refl _
theorem gs_ {α : Type} {l:List α} {i:Nat} {a:α} (h:l[i]? = some a):∃h:i<l.length,l[i]=a:=List.getElem?_eq_some_iff.1 h
theorem ge_ {α : Type} {l:List α} {i:Nat} (h:i<l.length):l[i]? = some l[i]:=List.getElem?_eq_getElem h
theorem Za {p:Prop} (h:p):Hid p:=h
structure Only (S:Nat→Prop) (w w':World):Prop where
 os:w'.os=w.os
 tape:w'.tape=w.tape
 output:w'.output=w.output
 size:w.heap.size≤w'.heap.size
 block:∀k,k<w.heap.size→¬S k→w'.heap[k]? = w.heap[k]?
section
variable {S T:Nat→Prop} {a b c w w':World}
theorem Only.refl (S:Nat→Prop) (w:World):Only S w w:=⟨rfl,rfl,rfl,lr_,fun _ _ _=>rfl⟩
theorem Only.trans2 (h:Only S a b) (k:Only T b c) (hT:∀i,T i→S i∨a.heap.size≤i):Only S a c :=
 ⟨k.os.trans h.os,k.tape.trans h.tape,k.output.trans h.output,Nat.le_trans h.size k.size,fun i hi hS =>
  (k.block i (Nat.lt_of_lt_of_le hi h.size) (fun ht=>by rcases hT i ht with h1 | h1;exact hS h1;omega)).trans (h.block i hi hS)⟩
theorem Only.trans (h:Only S a b) (k:Only S b c):Only S a c:=h.trans2 k fun _ hi=>.inl hi
theorem Only.mono (h:Only S a b) (hS:∀k,S k→T k∨a.heap.size≤k):Only T a b :=
 ⟨h.os,h.tape,h.output,h.size,fun i hi hT=>h.block i hi (fun hs=>by rcases hS i hs with h1 | h1;exact hT h1;omega)⟩
theorem Only.drew (h:Only S a b):Only S a b.drew:=⟨h.os,h.tape,h.output,h.size,h.block⟩
theorem Only.drewN (h:Only S a b) (n:Nat):Only S a (b.drewN n):=⟨h.os,h.tape,h.output,h.size,h.block⟩
theorem Only.alloc (h:Only S a b) (o:Obj):Only S a (b.alloc o) :=
 ⟨h.os,h.tape,h.output,Nat.le_trans h.size (by simp),fun i hi hS=>(Below.heap_alloc b o i (Nat.lt_of_lt_of_le hi h.size)).trans (h.block i hi hS)⟩
theorem Only.setCell (h:Only S a b) {p:Addr} (hp:S p.block∨a.heap.size≤p.block) (u:Value):Only S a (b.setCell p u) :=
 ⟨h.os,h.tape,h.output,by simpa [World.setCell] using h.size,fun i hi hS=>(Below.heap_setCell b p u i (by
  rintro rfl;rcases hp with hp | hp
  · exact hS hp
  · omega)).trans (h.block i hi hS)⟩
theorem Only.grown (h:Only S a b) {row:Option Nat} (hg:b.grownBy c row) (hr:∀k,row=some k→S k∨a.heap.size≤k):Only S a c :=
 ⟨hg.os.trans h.os,hg.tape.trans h.tape,hg.output.trans h.output,Nat.le_trans h.size hg.size,fun i hi hS =>
  (hg.block i (Nat.lt_of_lt_of_le hi h.size) (fun e=>by rcases hr i e.symm with h1 | h1;exact hS h1;omega)).trans (h.block i hi hS)⟩
theorem Only.below {B:Nat} (h:Only S a b) (hS:∀k,S k→B≤k) (hB:B≤a.heap.size):Below B a b :=
 ⟨h.os,h.tape,h.output,h.size,fun i hi=>h.block i (by omega) (fun hs=>by have:=hS i hs;omega)⟩
theorem Only.of_new (h:Below a.heap.size a b):Only S a b :=
 ⟨h.os,h.tape,h.output,h.size,fun i hi _=>h.block i hi⟩
theorem Only.cell (h:Only S a b) {p:Addr} (hp:p.block<a.heap.size) (hS:¬S p.block):b.cell? p=a.cell? p:=World.cell?_of_block (h.block _ hp hS)
theorem Zc {B:Nat} (h:Below B a w) (n:Nat):Below B a (w.drewN n):=⟨h.os,h.tape,h.output,h.size,h.block⟩
end
def Blk (w:World) (g:Nat) (t:TypeId) (cs:Array Value):Prop:=w.heap[g]? = some (.cells cs t (0,0))
section
variable {S:Nat→Prop} {w w':World} {g:Nat} {t:TypeId} {cs:Array Value}
theorem Blk.lt (h:Blk w g t cs):g<w.heap.size:=by
 rcases Nat.lt_or_ge g w.heap.size with hlt | hge
 · exact hlt
 · unfold Blk at h;rw [Array.getElem?_eq_none hge] at h;cases h
theorem Blk.cell (h:Blk w g t cs) (i:Nat):w.cell? ⟨g,i,none⟩=cs[i]?:=cell_of_row w g i cs t (0,0) h
theorem Blk.frozen (h:Blk w g t cs) (i:Nat):w.frozen? ⟨g,i,none⟩=false:=by
 unfold Blk at h;simp [World.frozen?,h]
theorem Blk.new (w:World) (t:TypeId) (cs:Array Value):Blk (w.alloc (.cells cs t)) w.heap.size t cs:=heap_alloc_new w _
theorem Blk.drew (h:Blk w g t cs):Blk w.drew g t cs:=h
theorem Blk.drewN (h:Blk w g t cs) (n:Nat):Blk (w.drewN n) g t cs:=h
theorem Blk.alloc (h:Blk w g t cs) (o:Obj):Blk (w.alloc o) g t cs:=(Below.heap_alloc w o g h.lt).trans h
theorem Blk.set_ (h:Blk w g t cs) (i:Nat) (u:Value):Blk (w.setCell ⟨g,i,none⟩ u) g t (cs.setIfInBounds i u):=by
 unfold Blk at h ⊢;simp [World.setCell,Array.getElem?_modify,h]
theorem Blk.far (h:Blk w g t cs) {p:Addr} (hp:g≠p.block) (u:Value):Blk (w.setCell p u) g t cs:=(Below.heap_setCell w p u g hp).trans h
theorem Blk.below {B:Nat} (h:Blk w g t cs) (hb:Below B w w') (hg:g<B):Blk w' g t cs:=(hb.block g hg).trans h
theorem Blk.only (h:Blk w g t cs) (hb:Only S w w') (hg:¬S g):Blk w' g t cs:=(hb.block g h.lt hg).trans h
theorem Blk.grown {row:Option Nat} (h:Blk w g t cs) (hb:w.grownBy w' row) (hg:some g≠row):Blk w' g t cs:=(hb.block g h.lt hg).trans h
theorem Blk.ne_ {g':Nat} {t':TypeId} {cs':Array Value} (h:Blk w g t cs) (h':Blk w g' t' cs') (hne:t≠t'):g≠g':=by
 rintro rfl;unfold Blk at h h';rw [h] at h';injection h' with h';injection h' with _ ht;exact hne ht
theorem ZX {base:Nat} {e:TypeId} {size n:Nat} {v:Value} {xs:List Value} (h:w.ownsRow base e size v n xs) (hg:Blk w g t cs) (hne:e≠t):v.ownBlock≠some g:=by
 rcases h.2 with ⟨rfl,_⟩ | ⟨g',cap,cur,rfl,_,hh,_⟩
 · simp [Value.ownBlock]
 · intro he;have:g'=g:=by simpa [Value.ownBlock] using he
   subst this;exact Blk.ne_ (t:=e) hh hg hne rfl
theorem ZaG {base:Nat} {e:TypeId} {size n:Nat} {v:Value} {xs:List Value} (h:w.ownsRow base e size v n xs) (hb:Only S w w') (hS:∀k,v.ownBlock=some k→¬S k):w'.ownsRow base e size v n xs:=by
 refine ⟨h.1,?_⟩;rcases h.2 with hn | ⟨g,cap,cur,rfl,hb',hg,rest⟩
 · exact .inl hn
 · exact .inr ⟨g,cap,cur,rfl,hb',(hb.block g (Array.getElem?_eq_some_iff.1 hg).1 (hS g rfl)).trans hg,rest⟩
theorem ZA {base:Nat} {e:TypeId} {size n:Nat} {v:Value} {xs:List Value} (h:w.ownsRow base e size v n xs) {p:Addr} (hp:v.ownBlock≠some p.block) (u:Value):(w.setCell p u).ownsRow base e size v n xs :=
 ZaG (S:=fun k=>k=p.block) h ((Only.refl (fun k=>k=p.block) w).setCell (.inl rfl) u) (fun k hk e=>hp (by rw [hk,e]))
theorem Zam {base:Nat} {e:TypeId} {size n:Nat} {v:Value} {xs:List Value} (h:w.ownsRow base e size v n xs) (hn:0<n):∃g cap,v=.slice (some ⟨g,0,none⟩) n cap∧n≤cap∧cap≤maxLen:=by
 rcases h.2 with ⟨_,h0⟩ | ⟨g,cap,cur,rfl,_,_,h1,h2,_⟩
 · omega
 · exact ⟨g,cap,rfl,h1,h2⟩
end
def rows (f:Nat→List Value):Nat→List Value
 | 0=>[]
 | n+1=>rows f n++f n
section
variable {f g:Nat→List Value} {k:Nat}
end
def upd {α : Type} (f:Nat→α) (i:Nat) (x:α):Nat→α:=fun j=>if j=i then x else f j
theorem ZbN {α : Type} (f:Nat→α) (i:Nat) (x:α):upd f i x i=x:=by simp [upd]
theorem Zcl {α : Type} (f:Nat→α) {i j:Nat} (x:α) (h:j≠i):upd f i x j=f j:=by simp [upd,h]
structure Ac where
 (k a b c d n:Int)
deriving DecidableEq
structure Vr where
 (init lo hi:Int)
structure Pl where
 gh:List Bool
 vs:List Vr
 ts:List Int
 on:List (List Ac)
 ms:List Ac
def Zp (n lo hi:Int):Bool:=decide (lo≤n)&&decide (n≤hi)
def kidsV (k n:Int):List Int :=
 if k=2 then (if n=3 then [3,1,1] else [3,1]) else if k=3 then [3,1] else if k=4∨k=28 then [2] else if k=5 then [5,2] else if k=25 then [5]
 else if k=26∨k=27∨k=30∨k=31∨k=32∨k=33∨k=35∨k=36 then [2,2] else if k=34 then [4,4] else if k=29 then [3] else if k=37∨k=38 then [3,3] else []
def Zn (k:Int):Int :=
 if k=20∨k=24∨k=29∨k=34∨k=35∨k=36∨k=37∨k=38 then 3 else if 19≤k∧k<39 then 2 else -1
def ZE (what k:Int):Bool :=
 if what=0 then decide (1≤k)&&decide (k≤16) else if what=1 then decide (k=1) else if what=5 then decide (k=17)||decide (k=18) else if what=4 then decide (0≤Zn k) else decide (Zn k=what)
def ghV (g:List Bool) (i:Int):Bool:=g[i.toNat]?.getD false
def qV (g:List Bool) (i:Int):Bool:=Zp i 0 ((g.length:Int) - 1)
def Zu (P:Pl) (x:Ac):Bool :=
 let g:=P.gh;let two:=decide (x.c=0)&&decide (x.d=0);let none_:=decide (x.b=0)&&two;let en:=Zp x.b 0 1&&two
 if x.k=3 then Zp x.a 0 4194304&&none_
 else if x.k=4∨x.k=21 then Zp x.a 0 ((P.vs.length:Int) - 1)&&none_
 else if x.k=5∨x.k=25 then Zp x.a 0 ((P.ts.length:Int) - 1)&&none_
 else if x.k=19 then Zp x.a (-1073741824) 1073741824&&none_
 else if x.k=20 then Zp x.a 0 1&&none_
 else if x.k=22∨x.k=24 then qV g x.a&&none_
 else if x.k=6∨x.k=9∨x.k=10∨x.k=18 then qV g x.a&&en
 else if x.k=7∨x.k=15 then (qV g x.a&&!ghV g x.a)&&en
 else if x.k=16 then (qV g x.a&&ghV g x.a)&&en
 else if x.k=13 then (qV g x.a&&Zp x.b 0 1&&(qV g x.c&&Zp x.d 0 1))&&(ghV g x.a == ghV g x.c)
 else if x.k=14 then (qV g x.a&&Zp x.b 0 1&&(qV g x.c&&Zp x.d 0 1))&&(!ghV g x.a&&ghV g x.c)
 else decide (x.a=0)&&none_
def handV (P:Pl) (l:List Ac) (i:Nat):Nat :=
 let good:=fun (x:Ac)=>decide (x.n=0)&&Zu P x
 match l[i]?,l[i+1]? with
 | some x,some y =>
  if good x&&good y then
   let gh:=ghV P.gh x.a
   if (decide (y.k=10)&&(ghV P.gh y.a == gh))||(decide (y.k=12)&&gh) then 2
   else if y.k≠11∨gh=true then 0
   else match l[i+2]? with
    | some z=>if good z&&(decide (z.k=12)||(decide (z.k=10)&&ghV P.gh z.a)) then 3 else 0
    | none=>0
  else 0
 | _,_=>0
def Zw (l:List Ac) (row:Nat→Int→Option (Nat×Int)) (k:Int):List Int→Nat→Nat→Int→Int→Option (Nat×Int)
 | [],_,i,_,wants=>some (i,wants)
 | w::ws,j,i,kind,wants =>
  match row i (if w=4∧j=1 then Zn kind else w) with
  | none=>none
  | some (e,n)=>Zw l row k ws (j+1) e ((l[i]?.map Ac.k).getD 0) (max wants (if j=1∧19≤k∧k≠37∧k≠38 then n+1 else n))
def Zs (P:Pl) (l:List Ac) (row:Nat→Int→Option (Nat×Int)) (m i:Nat):Option Nat :=
 if _hm:m=0 then some i else
 match l[i]? with
 | none=>none
 | some x =>
  if x.k=9 then
   if _hh:handV P l i=0∨m<handV P l i then none else Zs P l row (m - handV P l i) (i+handV P l i)
  else if x.k=10∨x.k=11∨x.k=12 then none
  else match row i 0 with
   | none=>none
   | some (e,_)=>Zs P l row (m - 1) e
termination_by m
decreasing_by all_goals omega
def Zo (P:Pl) (l:List Ac):Nat→Nat→Int→Option (Nat×Int)
 | 0,_,_=>none
 | f+1,i,what =>
  match l[i]? with
  | none=>none
  | some x =>
   if ZE what x.k&&Zu P x then
    if x.k=1 then (if x.n<0 then none else (Zs P l (Zo P l f) x.n.toNat (i+1)).map (·,0))
    else if x.n≠((kidsV x.k x.n).length:Int) then none
    else match Zw l (Zo P l f) x.k (kidsV x.k x.n) 0 (i+1) 0 0 with
     | none=>none
     | some (e,w)=>if w≤256 then some (e,max w 1) else none
   else none
def Zy (P:Pl) (l:List Ac):Bool:=l.isEmpty||(match Zo P l (l.length+1) 0 1 with | some (e,_)=>decide (l.length≤e) | none=>false)
def Zci (v:Vr):Bool:=decide (v.lo≤v.init)&&decide (v.init≤v.hi)&&decide (-1073741824≤v.lo)&&decide (v.hi≤1073741824)
def Zh (l:List (List Ac)):Nat:=(l.map List.length).sum
def checkV (P:Pl):Nat :=
 if decide (P.gh.length≤16)&&decide (P.vs.length≤16)&&decide (P.ts.length≤4)&&decide (P.on.length=P.gh.length)&&P.vs.all Zci&&P.ts.all (fun t=>Zp t 1 255)&&decide (Zh (P.on++[P.ms])≤131072)&&(P.on++[P.ms]).all (Zy P) then 0 else 71
def Ac.cells (x:Ac):List Value:=[.int .i64 x.k,.int .i64 x.a,.int .i64 x.b,.int .i64 x.c,.int .i64 x.d,.int .i64 x.n]
def Ac.val (x:Ac):Value:=.agg #[.int .i64 x.k,.int .i64 x.a,.int .i64 x.b,.int .i64 x.c,.int .i64 x.d,.int .i64 x.n]
def Zm (l:List Int):List Value:=l.map (.int .i64)
def Src (w:World) (oa:Option Addr) (n:Nat) (cs:List Value):Prop:=0<n→∃ad,oa=some ad∧ad.block<w.heap.size∧∀j v,cs[j]? = some v→w.cell? (ad.add j)=some v
theorem Zl (a:Addr) (j:Nat):(a.add j).block=a.block:=by unfold Addr.add;split <;> rfl
theorem Src.below {w w':World} {oa:Option Addr} {n:Nat} {cs:List Value} (h:Src w oa n cs) (hb:Below w.heap.size w w'):Src w' oa n cs:=fun h0=>by
 obtain ⟨ad,e,hl,hx⟩:=h h0;exact ⟨ad,e,Nat.lt_of_lt_of_le hl hb.size,fun j v hj=>(hb.cell (by rw [Zl];exact hl)).trans (hx j v hj)⟩
theorem ZaM {w:World} {g:Nat} {t:TypeId} {cs:List Value} (n:Nat) (h:Blk w g t cs.toArray):Src w (some ⟨g,0,none⟩) n cs:=fun _=>by
 refine ⟨_,rfl,h.lt,fun j v hj=>?_⟩;have hadd:(⟨g,0,none⟩:Addr).add j=⟨g,j,none⟩:=by unfold Addr.add;split <;> simp_all
 rw [hadd,h.cell];simpa using hj
theorem ZdQ (w:World) (cs:List Value):Src w none 0 cs:=fun h=>absurd h (by decide)
theorem Zdq (w:World) (n lo hi:Int):Calls Try.prog 63 #[.int .i64 n,.int .i64 lo,.int .i64 hi] w fun en w'=>en=.returned (.bool (Zp n lo hi))∧w=w':=by
 unfold Zp;go_enter Try.func63,Try.ntmps63;go_wp2
 all_goals
  go_ret
  first | exact ⟨rfl,rfl⟩ | (refine ⟨?_,rfl⟩;congr 2;simp;omega)
theorem Zhn (w:World) (k:Int):Calls Try.prog 105 #[.int .i64 k] w fun en w'=>en=.returned (.int .i64 (Zn k))∧w=w':=by
 unfold Zn;go_enter Try.func105,Try.ntmps105;go_wp2
 all_goals
  go_ret;refine ⟨?_,rfl⟩;simp only [beq_iff_eq,beq_eq_false_iff_ne,ne_eq] at *;simp [*]
  first | done | omega | (rw [Bool.eq_iff_iff];simp only [Bool.or_eq_true,beq_iff_eq,decide_eq_true_eq];done) | (rw [Bool.eq_iff_iff];simp only [Bool.or_eq_true,beq_iff_eq,decide_eq_true_eq];omega)
theorem ZnB (w:World) (what k:Int):Calls Try.prog 101 #[.int .i64 what,.int .i64 k] w fun en w'=>en=.returned (.bool (ZE what k))∧w=w':=by
 have HT:=fun (W:World)=>Za (Zhn W k)
 unfold ZE;go_enter Try.func101,Try.ntmps101
 go_wp2_with (
  go_at_call 105;refine (HT _).out.mono ?_
  rintro en w1 ⟨rfl,rfl⟩)
 all_goals
  go_ret;refine ⟨?_,rfl⟩;simp only [beq_iff_eq,beq_eq_false_iff_ne,ne_eq] at *;simp [*]
  first | done | omega | (rw [Bool.eq_iff_iff];simp only [Bool.or_eq_true,beq_iff_eq,decide_eq_true_eq];done) | (rw [Bool.eq_iff_iff];simp only [Bool.or_eq_true,beq_iff_eq,decide_eq_true_eq];omega)
theorem f49 : (Try.prog.fieldsOf 49).toList.map (fun f => (f.name == "_", f.type, f.offset)) = [(false, 3, 0), (false, 3, 1), (false, 3, 2), (false, 3, 3), (false, 3, 4), (false, 3, 5)] := by kernel_rfl
theorem u49:Try.prog.underlying 49=some (.struct (Try.prog.fieldsOf 49)):=by kernel_rfl
theorem s49:Try.prog.stoodInHeld 49=false:=by kernel_rfl
theorem Zeu {P:Program} {t:TypeId} {k:IntKind} (hu:P.underlying t=some (.int k)) (xs:Array Value) (o:Nat) (n:Int) (hx:xs[o]? = some (.int .i64 n)) (w:World):(part t xs o).run P w=.ok (.int .i64 n) w:=by
 simp [part,isAgg,run_underlying hu,hx]
theorem ZcA {P:Program} {w:World} {d:Nat} {t:TypeId} {k:IntKind} (hu:P.underlying t=some (.int k)) (xs ys:Array Value):∀(fs:List Field) (X Y:List (Int×Nat)),
 fs.map (fun f => (f.name == "_", f.type, f.offset)) = X.map (fun x => (false, t, x.2)) → X.map Prod.snd = Y.map Prod.snd → (∀ x ∈ X, xs[x.2]? = some (.int .i64 x.1)) → (∀ y ∈ Y, ys[y.2]? = some (.int .i64 y.1)) → (Op.eqFields (d + 1) xs ys fs).run P w = .ok (decide (X = Y)) w
 | [],X,Y,h1,h2,_,_=>by
  cases X with
  | nil=>cases Y with
   | nil=>simp [Op.eqFields]
   | cons=>simp at h2
  | cons=>simp at h1
 | f::fs,[],Y,h1,h2,_,_=>by simp at h1
 | f::fs,x::X,[],h1,h2,_,_=>by simp at h2
 | f::fs,x::X,y::Y,h1,h2,hx,hy=>by
  simp only [List.map_cons,List.cons.injEq,Prod.mk.injEq] at h1 h2;obtain ⟨⟨e1,e2,e3⟩,h1⟩:=h1;obtain ⟨e4,h2⟩:=h2;have ih:=ZcA (w:=w) (d:=d) hu xs ys fs X Y h1 h2 (fun z hz=>hx z (by simp [hz])) (fun z hz=>hy z (by simp [hz]));have a1:=Zeu hu xs x.2 x.1 (hx x (by simp)) w;have a2:=Zeu hu ys y.2 y.1 (hy y (by simp)) w;have e1' : f.name ≠ "_" := by simpa using e1
  unfold Op.eqFields;rw [if_pos e1',e2,e3];rw [←e4] at a2;simp only [Sem.run_bind,a1,a2,Result.andThen_ok,run_equalIn_int w d t .i64 k x.1 y.1 hu]
  by_cases he:x.1=y.1
  · have hxy:x=y:=Prod.ext he e4;subst hxy;simp [ih]
  · have hxy:¬x=y:=fun e=>he (by rw [e])
    simp [he,hxy]
theorem eqA (w:World) (x0 x1 x2 x3 x4 x5 y0 y1 y2 y3 y4 y5:Int):(binOp .eql 49 (.agg #[.int .i64 x0,.int .i64 x1,.int .i64 x2,.int .i64 x3,.int .i64 x4,.int .i64 x5]) (.agg #[.int .i64 y0,.int .i64 y1,.int .i64 y2,.int .i64 y3,.int .i64 y4,.int .i64 y5])).run Try.prog w =
 .ok (.bool (decide ((⟨x0,x1,x2,x3,x4,x5⟩:Ac)=⟨y0,y1,y2,y3,y4,y5⟩))) w:=by
 have h1:=run_equalIn_agg (P:=Try.prog) w 9999 49 #[.int .i64 x0,.int .i64 x1,.int .i64 x2,.int .i64 x3,.int .i64 x4,.int .i64 x5] #[.int .i64 y0,.int .i64 y1,.int .i64 y2,.int .i64 y3,.int .i64 y4,.int .i64 y5] u49 s49;have h2:=ZcA (P:=Try.prog) (w:=w) (d:=9998) (t:=3) (k:=.i64) Try.underlying3 #[.int .i64 x0,.int .i64 x1,.int .i64 x2,.int .i64 x3,.int .i64 x4,.int .i64 x5] #[.int .i64 y0,.int .i64 y1,.int .i64 y2,.int .i64 y3,.int .i64 y4,.int .i64 y5] (Try.prog.fieldsOf 49).toList [(x0,0),(x1,1),(x2,2),(x3,3),(x4,4),(x5,5)] [(y0,0),(y1,1),(y2,2),(y3,3),(y4,4),(y5,5)] f49 rfl (by simp) (by simp);rw [run_eql_struct,h1,h2]
 simp
theorem g49:Try.prog.eqGuardType Try.prog.depth 49=false:=by kernel_rfl
def acs (l:List Ac):List Value:=(l.map Ac.cells).flatten
theorem Zh9:∀(l:List Ac) (i j:Nat) (x:Ac),l[i]? = some x→j<6→(acs l)[i*6+j]? = x.cells[j]?
 | [],i,j,x,h,_=>by simp at h
 | y::l,0,j,x,h,hj=>by
  simp at h;subst h;simp only [acs,List.map_cons,List.flatten_cons,Nat.zero_mul,Nat.zero_add];rw [List.getElem?_append_left (by simp [Ac.cells];omega)]
 | y::l,i+1,j,x,h,hj=>by
  have ih:=Zh9 l i j x (by simpa using h) hj;simp only [acs,List.map_cons,List.flatten_cons] at ih ⊢;rw [List.getElem?_append_right (by simp [Ac.cells];omega)];rw [←ih];congr 1;simp [Ac.cells];omega
theorem ZcP (a:Addr) (m k:Nat):a.add (m+(k+1))=⟨(a.add m).block,(a.add m).off+(k+1),none⟩:=by
 obtain ⟨b,o,e⟩:=a
 cases m <;> simp [Addr.add] <;> omega
theorem add_add (a:Addr) (m k:Nat):(a.add m).add k=a.add (m+k):=by
 obtain ⟨b,o,e⟩:=a
 cases m <;> cases k <;> simp [Addr.add] <;> omega
def ZbM (w:World) (p:Addr) (x:Ac):Prop:=w.cell? p=some (.int .i64 x.k)∧w.cell? ⟨p.block,p.off+1,none⟩=some (.int .i64 x.a)∧w.cell? ⟨p.block,p.off+2,none⟩=some (.int .i64 x.b)∧w.cell? ⟨p.block,p.off+3,none⟩=some (.int .i64 x.c)∧w.cell? ⟨p.block,p.off+4,none⟩=some (.int .i64 x.d)∧w.cell? ⟨p.block,p.off+5,none⟩=some (.int .i64 x.n)
theorem ZbM.below {w w':World} {p:Addr} {x:Ac} (h:ZbM w p x) (hp:p.block<w.heap.size) (hb:Below w.heap.size w w'):ZbM w' p x:=by
 obtain ⟨h0,h1,h2,h3,h4,h5⟩:=h;exact ⟨(hb.cell hp).trans h0,(hb.cell (by exact hp)).trans h1,(hb.cell (by exact hp)).trans h2,(hb.cell (by exact hp)).trans h3,(hb.cell (by exact hp)).trans h4,(hb.cell (by exact hp)).trans h5⟩
theorem Zq {w:World} {oa:Option Addr} {l:List Ac} (h:Src w oa l.length (acs l)) {i:Nat} {x:Ac} (hi:l[i]? = some x):∃ad,oa=some ad∧ad.block<w.heap.size∧ZbM w (ad.add (i*6)) x:=by
 have hl:=(gs_ hi).1;obtain ⟨ad,e,hb,hx⟩:=h (by omega);have hz:∀j v,j<6→x.cells[j]? = some v→w.cell? (ad.add (i*6+j))=some v:=fun j v hj hv=>hx _ _ ((Zh9 l i j x hi hj).trans hv)
 have z0:=hz 0 _ (by omega) rfl;have z1:=hz 1 _ (by omega) rfl;have z2:=hz 2 _ (by omega) rfl;have z3:=hz 3 _ (by omega) rfl;have z4:=hz 4 _ (by omega) rfl;have z5:=hz 5 _ (by omega) rfl;rw [ZcP ad (i*6) 0] at z1;rw [ZcP ad (i*6) 1] at z2;rw [ZcP ad (i*6) 2] at z3;rw [ZcP ad (i*6) 3] at z4;rw [ZcP ad (i*6) 4] at z5;exact ⟨ad,e,hb,z0,z1,z2,z3,z4,z5⟩
theorem Zh8:∀(l:List Ac) (i:Nat),(acs l).drop (i*6)=acs (l.drop i)
 | l,0=>by simp
 | [],i+1=>by simp [acs]
 | y::l,i+1=>by
  have ih:=Zh8 l i;have e:acs (y::l)=y.cells++acs l:=by simp [acs]
  rw [e,List.drop_append,List.drop_of_length_le (by simp [Ac.cells];omega),List.nil_append,List.drop_succ_cons,←ih];congr 1;simp [Ac.cells];omega
theorem Zh6:∀(l:List Ac) (i:Nat),acs (l.take i)=(acs l).take (i*6)
 | l,0=>by simp [acs]
 | [],i+1=>by simp [acs]
 | y::l,i+1=>by
  have ih:=Zh6 l i;have e:acs (y::l)=y.cells++acs l:=by simp [acs]
  have e2:acs ((y::l).take (i+1))=y.cells++acs (l.take i):=by simp [acs]
  rw [e2,e,List.take_append,List.take_of_length_le (show y.cells.length≤(i+1)*6 by show 6≤(i+1)*6;omega),ih];congr 2;show i*6=(i+1)*6 - 6;omega
theorem ZkW {w:World} {ad:Addr} {l:List Ac} (h:Src w (some ad) l.length (acs l)) (i m:Nat) (hm:i+m≤l.length):Src w (some (ad.add (i*6))) m (acs ((l.drop i).take m)):=fun h0=>by
 obtain ⟨ad',e,hb,hx⟩:=h (by omega);injection e with e;subst e;refine ⟨_,rfl,by rw [Zl];exact hb,fun j v hj=>?_⟩;rw [add_add];refine hx _ _ ?_;rw [Zh6,←Zh8,List.getElem?_take] at hj;split at hj
 · rwa [List.getElem?_drop] at hj
 · cases hj
theorem Zll (w:World) (ad:Addr) (l:List Ac) (cp k:Nat) (x:Ac) (h:Src w (some ad) l.length (acs l)) (hk:l[k]? = some x) (hb:∀j y,j<k→l[j]? = some y→y≠x) (hl:l.length≤4194304) :
 Calls Try.prog 173 #[.slice (some ad) l.length cp,x.val] w fun en w'=>en=.returned (.int .i64 (k:Int))∧Below w.heap.size w w':=by
 have HB:=Za hb;have HR:=fun (i:Nat) (y:Ac) (hy:l[i]? = some y)=>Za (Zq h hy)
 have HK:=Za hk;have HKL:=Za (gs_ hk).1;clear hb hk h;obtain ⟨x0,x1,x2,x3,x4,x5⟩:=x;simp only [Ac.val];have HBW:=Za ((Below.refl w.heap.size w).alloc lr_ (.cells #[.int .i64 x0,.int .i64 x1,.int .i64 x2,.int .i64 x3,.int .i64 x4,.int .i64 x5] 49));have HX:=Za (Blk.new w 49 #[.int .i64 x0,.int .i64 x1,.int .i64 x2,.int .i64 x3,.int .i64 x4,.int .i64 x5]);go_enter Try.func173,Try.ntmps173;go_wp2_with fail;go_loopw [8] (fun tx W=>∃i:Nat,tx=.int .i64 (i:Int)∧i≤k∧Below w.heap.size w W∧Blk W w.heap.size 49 #[.int .i64 x0,.int .i64 x1,.int .i64 x2,.int .i64 x3,.int .i64 x4,.int .i64 x5]) (fun tx _=>l.length - (intOf tx).toNat)
 case atStart=>exact ⟨0,rfl,Nat.zero_le _,HBW.out,HX.out⟩
 case round =>
  obtain ⟨i,rfl,hi,hbw,hbx⟩:=hrel;rename World=>W
  have HBW:=Za hbw;have HX:=Za hbx;have hil:i<l.length:=by have:=HKL.out;omega
  have hiI:(i:Int)<(l.length:Int):=by omega
  obtain ⟨y,hy⟩:∃y,l[i]? = some y:=⟨_,ge_ hil⟩;obtain ⟨ad',e,hlt,hrow⟩:=(HR i y hy).out
  cases e
  obtain ⟨r0,r1,r2,r3,r4,r5⟩:=hrow.below (by rw [Zl];exact hlt) (hbw.mono lr_);have c0:W.cell? ⟨w.heap.size,0,none⟩=some (.int .i64 x0):=by rw [hbx.cell];rfl
  have c1:W.cell? ⟨w.heap.size,1,none⟩=some (.int .i64 x1):=by rw [hbx.cell];rfl
  have c2:W.cell? ⟨w.heap.size,2,none⟩=some (.int .i64 x2):=by rw [hbx.cell];rfl
  have c3:W.cell? ⟨w.heap.size,3,none⟩=some (.int .i64 x3):=by rw [hbx.cell];rfl
  have c4:W.cell? ⟨w.heap.size,4,none⟩=some (.int .i64 x4):=by rw [hbx.cell];rfl
  have c5:W.cell? ⟨w.heap.size,5,none⟩=some (.int .i64 x5):=by rw [hbx.cell];rfl
  have HY:=Za hy;clear hbw hbx hlt hrow hy;obtain ⟨y0,y1,y2,y3,y4,y5⟩:=y;simp only at r0 r1 r2 r3 r4 r5;have u1:=IntWalk.i64_in ((i:Int)+1) (by omega);have he:=fun (W:World)=>eqA W x0 x1 x2 x3 x4 x5 y0 y1 y2 y3 y4 y5
  have hg:=g49
  by_cases hik:i=k
  · subst hik
    have hxy:(⟨y0,y1,y2,y3,y4,y5⟩:Ac)=⟨x0,x1,x2,x3,x4,x5⟩:=by
     have:=HY.out;rw [HK.out] at this;injection this with this;exact this.symm
    have hd:decide ((⟨x0,x1,x2,x3,x4,x5⟩:Ac)=⟨y0,y1,y2,y3,y4,y5⟩)=true:=by simp [hxy]
    rw [hd] at he;clear hxy hd;go_wp2_with fail;go_quiet (fail);go_wp2_with fail;go_ret;exact ⟨rfl,Zc HBW.out _⟩
  · have hxy:¬(⟨x0,x1,x2,x3,x4,x5⟩:Ac)=⟨y0,y1,y2,y3,y4,y5⟩:=fun e=>HB.out i _ (by omega) HY.out e.symm
    have hd:decide ((⟨x0,x1,x2,x3,x4,x5⟩:Ac)=⟨y0,y1,y2,y3,y4,y5⟩)=false:=by simpa using hxy
    rw [hd] at he;clear hxy hd;go_wp2_with fail;go_quiet (fail);go_wp2_with fail;go_roundw
    case rel=>exact ⟨i+1,by go_num,by omega,Zc HBW.out _,HX.out⟩
    case measure =>
     simp only [intOf];omega
def Za0 (n:Int):Int:=max (-1073741824) (min 1073741824 n)
theorem ZnA (w:World) (oa:Option Addr) (c:Nat) (l:List Ac) (x:Ac) (n:Int) (h:Src w oa l.length (acs l)) (hx:l[0]? = some x) :
 Calls Try.prog 117 #[.slice oa l.length c,.int .i64 n] w fun en w'=>en=.returned (.bool (decide (x.k=19)&&decide (x.a=n)))∧w'=w:=by
 have hl:=(gs_ hx).1;obtain ⟨ad,rfl,_,q0,q1,_⟩:=Zq h hx;simp only [Nat.zero_mul] at q0 q1;have e0:ad.add 0=ad:=by simp [Addr.add]
 rw [e0] at q0 q1;have hI:(0:Int)<(l.length:Int):=by omega
 clear h hx;go_enter Try.func117,Try.ntmps117
 by_cases hk:x.k=19
 · have hkb:(x.k == 19)=true:=by simp [hk]
   go_wp2_with fail;go_ret;refine ⟨?_,rfl⟩;congr 2;simp [hk];rw [Bool.eq_iff_iff]
   simp
 · have hkb:(x.k == 19)=false:=by simp [hk]
   go_wp2_with fail;go_ret;refine ⟨?_,rfl⟩;congr 2;simp [hk]
theorem Zma (w:World) (oa:Option Addr) (c:Nat) (l:List Ac) (x:Ac) (n:Int) (h:Src w oa l.length (acs l)) (hx:l[0]? = some x) :
 Calls Try.prog 122 #[.slice oa l.length c,.int .i64 n] w fun en w'=>en=.returned (.bool (decide (x.k=20)&&decide (x.a=n)))∧w'=w:=by
 have hl:=(gs_ hx).1;obtain ⟨ad,rfl,_,q0,q1,_⟩:=Zq h hx;simp only [Nat.zero_mul] at q0 q1;have e0:ad.add 0=ad:=by simp [Addr.add]
 rw [e0] at q0 q1;have hI:(0:Int)<(l.length:Int):=by omega
 clear h hx;go_enter Try.func122,Try.ntmps122
 by_cases hk:x.k=20
 · have hkb:(x.k == 20)=true:=by simp [hk]
   go_wp2_with fail;go_ret;refine ⟨?_,rfl⟩;congr 2;simp [hk];rw [Bool.eq_iff_iff]
   simp
 · have hkb:(x.k == 20)=false:=by simp [hk]
   go_wp2_with fail;go_ret;refine ⟨?_,rfl⟩;congr 2;simp [hk]
theorem ZmO (w:World) (oa:Option Addr) (c:Nat) (l:List Ac) (x:Ac) (h:Src w oa l.length (acs l)) (hx:l[0]? = some x) :
 Calls Try.prog 162 #[.slice oa l.length c] w fun en w'=>en=.returned (.bool (decide (x.k=19)||decide (x.k=20)))∧w'=w:=by
 have hl:=(gs_ hx).1;obtain ⟨ad,rfl,_,q0,q1,_⟩:=Zq h hx;simp only [Nat.zero_mul] at q0 q1;have e0:ad.add 0=ad:=by simp [Addr.add]
 rw [e0] at q0 q1;have hI:(0:Int)<(l.length:Int):=by omega
 clear h hx;go_enter Try.func162,Try.ntmps162
 by_cases hk:x.k=19
 · have hkb:(x.k == 19)=true:=by simp [hk]
   go_wp2_with fail;go_ret;refine ⟨?_,rfl⟩;congr 2;simp [hk]
 · have hkb:(x.k == 19)=false:=by simp [hk]
   go_wp2_with fail;go_ret;refine ⟨?_,rfl⟩;congr 2;simp [hk];rw [Bool.eq_iff_iff]
   simp
theorem ZdX (w:World) (n:Int):Calls Try.prog 163 #[.int .i64 n] w fun en w'=>en=.returned (.int .i64 (Za0 n))∧w'=w:=by
 unfold Za0;go_enter Try.func163,Try.ntmps163;go_wp2_with fail
 all_goals
  go_ret;refine ⟨?_,rfl⟩
  first | rfl | (congr 2;omega) | (congr 2;simp;omega)
theorem ZmT (w:World) (n:Int):Calls Try.prog 119 #[.int .i64 n] w fun en w'=>∃oa,en=.returned (.slice oa 1 1)∧Src w' oa 1 (acs [⟨19,n,0,0,0,0⟩])∧(∀ad,oa=some ad→w.heap.size≤ad.block)∧Below w.heap.size w w':=by
 go_enter Try.func119,Try.ntmps119;go_wp2_with fail;go_ret;exact ⟨_,rfl,ZaM (t:=49) 1 (by exact Blk.new w _ _),fun ad e=>by injection e with e;subst e;exact lr_,(Below.refl _ w).alloc lr_ _⟩
def ZK (l:List Ac):Bool:=l.all fun x=>decide (x.k≠25)
theorem Zij (w:World) (x:Ac):Calls Try.prog 167 #[x.val] w fun en w'=>en=.returned (.bool (x.k == 25))∧w'=w.alloc (.cells x.cells.toArray 49):=by
 simp only [Ac.val,Ac.cells];have c0:(w.alloc (.cells #[.int .i64 x.k,.int .i64 x.a,.int .i64 x.b,.int .i64 x.c,.int .i64 x.d,.int .i64 x.n] 49)).cell? ⟨w.heap.size,0,none⟩=some (.int .i64 x.k):=(Blk.new w 49 #[.int .i64 x.k,.int .i64 x.a,.int .i64 x.b,.int .i64 x.c,.int .i64 x.d,.int .i64 x.n]).cell 0;go_enter Try.func167,Try.ntmps167;go_wp2_with fail;go_ret;exact ⟨rfl,rfl⟩
def tagAt (l:List Ac):Int:=match l.findIdx? (fun x=>x.k == 25) with | some i=>(i:Int) | none=>-1
theorem ZiY {l:List Ac} (h:∀(j:Nat) (y:Ac),l[j]? = some y→(y.k == 25)=false):tagAt l = -1:=by
 unfold tagAt
 have:l.findIdx? (fun x=>x.k == 25)=none:=by
  rw [List.findIdx?_eq_none_iff];intro x hx;obtain ⟨j,hj⟩:=List.mem_iff_getElem?.1 hx;exact h j x hj
 rw [this]
theorem ZiX {l:List Ac} {i:Nat} {x:Ac} (hx:l[i]? = some x) (hk:(x.k == 25)=true) (h:∀(j:Nat) (y:Ac),j<i→l[j]? = some y→(y.k == 25)=false):tagAt l=(i:Int):=by
 unfold tagAt;have hi:=(gs_ hx).1
 have:l.findIdx? (fun x=>x.k == 25)=some i:=by
  rw [List.findIdx?_eq_some_iff_getElem];refine ⟨hi,?_,fun j hj=>?_⟩
  · have e:l[i]=x:=(gs_ hx).2;rw [e];exact hk
  · have:=h j l[j] hj (ge_ (by omega));simpa using this
 rw [this]
theorem Zf9 (l:List Ac):ZK l = !decide (0≤tagAt l):=by
 unfold ZK tagAt
 cases h:l.findIdx? (fun x=>x.k == 25) with
 | none =>
  rw [List.findIdx?_eq_none_iff] at h
  simp
  intro x hx;simpa using h x hx
 | some i =>
  rw [List.findIdx?_eq_some_iff_getElem] at h;obtain ⟨hi,hk,_⟩:=h
  simp
  exact ⟨l[i],List.getElem_mem hi,by simpa using hk⟩
theorem Zlk (w:World) (oa:Option Addr) (c:Nat) (l:List Ac) (h:Src w oa l.length (acs l)) (hl:l.length≤4194304) :
 Calls Try.prog 183 #[.slice oa l.length c,.func (.func 167) #[] #[]] w fun en w'=>en=.returned (.int .i64 (tagAt l))∧Below w.heap.size w w':=by
 have HS:=Za h;clear h;go_enter Try.func183,Try.ntmps183;go_wp2_with fail;go_loopw [8] (fun tx W=>∃i:Nat,tx=.int .i64 (i:Int)∧i≤l.length∧(∀(j:Nat) (y:Ac),j<i→l[j]? = some y→(y.k == 25)=false)∧Below w.heap.size w W) (fun tx _=>l.length - (intOf tx).toNat)
 case atStart=>exact ⟨0,rfl,Nat.zero_le _,fun j y hj=>by omega,Below.refl _ _⟩
 case round =>
  obtain ⟨i,rfl,hi,hno,hb⟩:=hrel;rename World=>W
  have HNO:=Za hno;have HB:=Za hb;have hq:=IntWalk.i64_in ((i:Int)+1) (by omega)
  by_cases hil:i<l.length
  · have hiI:(i:Int)<(l.length:Int):=by omega
    obtain ⟨x,hx⟩:∃x,l[i]? = some x:=⟨_,ge_ hil⟩;obtain ⟨ad,e,hab,p0,p1,p2,p3,p4,p5⟩:=Zq (HS.out.below hb) hx;subst e;have HX:=Za hx;have HC:=Za (Zij W x);simp only [Ac.val,Ac.cells] at HC;clear hno hb hx hab
    cases hk:(x.k == 25) with
    | true =>
     rw [hk] at HC;have HF:=Za (ZiX HX.out hk HNO.out);clear hk;go_wp2_with (go_at_call 167;refine HC.out.mono ?_;rintro en w1 ⟨rfl,rfl⟩);go_ret;exact ⟨by rw [HF.out];rfl,HB.out.alloc HB.out.size _⟩
    | false =>
     rw [hk] at HC
     have HNO2:=Za (show ∀(j:Nat) (y:Ac),j<i+1→l[j]? = some y→(y.k == 25)=false from fun j y hj hy=>by
      rcases Nat.lt_or_ge j i with h1 | h1
      · exact HNO.out j y h1 hy
      · obtain rfl:j=i:=by omega
        rw [HX.out] at hy
        cases hy
        exact hk)
     clear hk;go_wp2_with (go_at_call 167;refine HC.out.mono ?_;rintro en w1 ⟨rfl,rfl⟩);go_roundw
     case rel=>exact ⟨i+1,by go_num,by omega,HNO2.out,HB.out.alloc HB.out.size _⟩
     case measure =>
      simp only [intOf];omega
  · have hiI:¬(i:Int)<(l.length:Int):=by omega
    have HF:=Za (ZiY (l:=l) fun j y hy=>HNO.out j y (by have:=(gs_ hy).1;omega) hy);clear hno hb hil;go_wp2_with fail;go_ret;exact ⟨by rw [HF.out];rfl,HB.out⟩
theorem Zin (w:World) (oa:Option Addr) (c:Nat) (l:List Ac) (h:Src w oa l.length (acs l)) (hl:l.length≤4194304) :
 Calls Try.prog 166 #[.slice oa l.length c,.func (.func 167) #[] #[]] w fun en w'=>en=.returned (.bool (decide (0≤tagAt l)))∧Below w.heap.size w w':=by
 have HI:=Za (Zlk w oa c l h hl);clear h;generalize tagAt l=tg at HI;go_enter Try.func166,Try.ntmps166;go_wp2_with (go_at_call 183;refine HI.out.mono ?_;rintro en w1 ⟨rfl,hb⟩;have HB:=Za hb;clear hb);go_ret;exact ⟨rfl,HB.out⟩
theorem Zjo (w:World) (oa:Option Addr) (c:Nat) (l:List Ac) (h:Src w oa l.length (acs l)) (hl:l.length≤4194304) :
 Calls Try.prog 118 #[.slice oa l.length c] w fun en w'=>en=.returned (.bool (ZK l))∧Below w.heap.size w w':=by
 have HI:=Za (Zin w oa c l h hl);have HT:=Za (Zf9 l);have hnot:∀(x:Bool) (w:World),(Op.unary .not (.bool x)).run Try.prog w=.ok (.bool (!x)) w:=fun _ _=>rfl
 clear h;generalize decide (0≤tagAt l)=tg at HI HT;go_enter Try.func118,Try.ntmps118;go_wp2_with (go_at_call 166;refine HI.out.mono ?_;rintro en w1 ⟨rfl,hb⟩;have HB:=Za hb;clear hb);go_ret;exact ⟨by rw [HT.out];rfl,HB.out⟩
theorem ZD {t:TypeId} {z:Value} {s b:Nat} (h:(Try.prog.info? t).map (fun i=>(i.zero,i.size,i.bytes))=some (some z,s,b)):∃i,Try.prog.info? t=some i∧i.zero=some z∧i.size=s∧i.bytes=b:=by
 cases hi:Try.prog.info? t with
 | none=>rw [hi] at h;cases h
 | some i =>
  rw [hi] at h;simp only [Option.map_some,Option.some.injEq,Prod.mk.injEq] at h;exact ⟨i,rfl,h.1,h.2.1,h.2.2⟩
theorem Znk:(Try.prog.info? 4).map (fun i=>(i.zero,i.size,i.bytes))=some (some (.bool false),1,1):=by kernel_rfl
theorem Znb (W:World) (a:Option Addr) (n c:Nat):(binOp .eql 22 (.slice a n c) (.slice none 0 0)).run Try.prog W=.ok (.bool a.isNone) W:=by
 simp only [binOp];simp [run_equal_slice_nil W 22 4 a n c Try.underlying22]
theorem ZlJ (w:World) (oa:Option Addr) (n ca:Nat) (cs:List Value) (h:Src w oa n cs) (hlen:cs.length=n*1) (hone:∀u ∈ cs,u.oneCell'=true) (hl:n≤4194304) :
 Calls Try.prog 96 #[.slice oa n ca] w fun en w'=>∃v',en=.returned v'∧w'.ownsRow w.heap.size 4 1 v' n cs∧Below w.heap.size w w':=by
 obtain ⟨i0,hi,hz0,hz1,hz2⟩:=ZD Znk
 cases oa with
 | none =>
  have h0:n=0:=by
   rcases Nat.eq_zero_or_pos n with h0 | h0
   · exact h0
   · obtain ⟨ad,e,_⟩:=h h0;cases e
  subst h0;have h4:cs=[]:=List.eq_nil_of_length_eq_zero (by omega);subst h4;have hn:=fun W=>Znb W none 0 ca
  simp only [Option.isNone_none] at hn;clear h;go_enter Try.func96,Try.ntmps96;go_wp2;go_ret;exact ⟨_,rfl,World.ownsRow_nil _ _ _ _,Below.refl _ _⟩
 | some a =>
  have hn:=fun W=>Znb W (some a) n ca
  simp only [Option.isNone_some] at hn;have hown:(w.alloc (.cells #[] 4)).ownsRow w.heap.size 4 1 (.slice (some ⟨w.heap.size,0,none⟩) 0 0) 0 []:=World.ownsRow_made w #[] 0 lr_ (by decide) rfl
  have hcs:∀(j:Nat) (u:Value),cs[j]? = some u→(w.alloc (.cells #[] 4)).cell? (a.add j)=some u:=by
   intro j u hj;have hj2:=(gs_ hj).1;obtain ⟨ad,e,hb,hx⟩:=h (by omega)
   cases e
   exact (((Below.refl _ w).alloc lr_ (.cells #[] 4)).cell (by rw [Zl];exact hb)).trans (hx j u hj)
  have HO:=Za hown;have HC:=Za hcs;have HONE:=Za hone;clear h hown hcs hone;go_enter Try.func96,Try.ntmps96
  go_wp2_with (
   at_builtin
   refine wpList_append_own _ rfl (.tmp 5) (.tmp 6) 22 rfl w.heap.size 4 i0 (.bool false) 1 1 Try.underlying22 hi hz0 hz1 hz2 rfl (by decide) _ _ _ rfl HO.out a n ca cs rfl hlen HC.out HONE.out (by unfold maxLen;omega) (by omega) (by simp) ?_;intro v' w2 hown' hgrow hnn;have HO2:=Za hown';have HG:=Za hgrow
   clear hown' hgrow hnn)
  go_ret;refine ⟨_,rfl,by simpa using HO2.out,?_⟩;have h1:Below w.heap.size w (w.alloc (.cells #[] 4)):=(Below.refl _ w).alloc lr_ _;have h2:Below w.heap.size (w.alloc (.cells #[] 4)) w2:=⟨HG.out.os,HG.out.tape,HG.out.output,HG.out.size,fun k hk=>HG.out.block k (by simp;omega) (fun e=>by have h:k=w.heap.size:=Option.some.inj (show some k=some w.heap.size from e);omega)⟩;exact h1.trans h2
theorem Znj:(Try.prog.info? 51).map (fun i=>(i.zero,i.size,i.bytes))=some (some (.agg #[.int .i64 0,.int .i64 0,.int .i64 0]),3,24):=by kernel_rfl
theorem Zm7 (W:World) (a:Option Addr) (n c:Nat):(binOp .eql 23 (.slice a n c) (.slice none 0 0)).run Try.prog W=.ok (.bool a.isNone) W:=by
 simp only [binOp];simp [run_equal_slice_nil W 23 51 a n c Try.underlying23]
theorem ZlG (w:World) (oa:Option Addr) (n ca:Nat) (cs:List Value) (h:Src w oa n cs) (hlen:cs.length=n*3) (hone:∀u ∈ cs,u.oneCell'=true) (hl:n≤4194304) :
 Calls Try.prog 97 #[.slice oa n ca] w fun en w'=>∃v',en=.returned v'∧w'.ownsRow w.heap.size 51 3 v' n cs∧Below w.heap.size w w':=by
 obtain ⟨i0,hi,hz0,hz1,hz2⟩:=ZD Znj
 cases oa with
 | none =>
  have h0:n=0:=by
   rcases Nat.eq_zero_or_pos n with h0 | h0
   · exact h0
   · obtain ⟨ad,e,_⟩:=h h0;cases e
  subst h0;have h4:cs=[]:=List.eq_nil_of_length_eq_zero (by omega);subst h4;have hn:=fun W=>Zm7 W none 0 ca
  simp only [Option.isNone_none] at hn;clear h;go_enter Try.func97,Try.ntmps97;go_wp2;go_ret;exact ⟨_,rfl,World.ownsRow_nil _ _ _ _,Below.refl _ _⟩
 | some a =>
  have hn:=fun W=>Zm7 W (some a) n ca
  simp only [Option.isNone_some] at hn;have hown:(w.alloc (.cells #[] 51)).ownsRow w.heap.size 51 3 (.slice (some ⟨w.heap.size,0,none⟩) 0 0) 0 []:=World.ownsRow_made w #[] 0 lr_ (by decide) rfl
  have hcs:∀(j:Nat) (u:Value),cs[j]? = some u→(w.alloc (.cells #[] 51)).cell? (a.add j)=some u:=by
   intro j u hj;have hj2:=(gs_ hj).1;obtain ⟨ad,e,hb,hx⟩:=h (by omega)
   cases e
   exact (((Below.refl _ w).alloc lr_ (.cells #[] 51)).cell (by rw [Zl];exact hb)).trans (hx j u hj)
  have HO:=Za hown;have HC:=Za hcs;have HONE:=Za hone;clear h hown hcs hone;go_enter Try.func97,Try.ntmps97
  go_wp2_with (
   at_builtin
   refine wpList_append_own _ rfl (.tmp 5) (.tmp 6) 23 rfl w.heap.size 51 i0 (.agg #[.int .i64 0,.int .i64 0,.int .i64 0]) 3 24 Try.underlying23 hi hz0 hz1 hz2 rfl (by decide) _ _ _ rfl HO.out a n ca cs rfl hlen HC.out HONE.out (by unfold maxLen;omega) (by omega) (by simp) ?_;intro v' w2 hown' hgrow hnn;have HO2:=Za hown';have HG:=Za hgrow
   clear hown' hgrow hnn)
  go_ret;refine ⟨_,rfl,by simpa using HO2.out,?_⟩;have h1:Below w.heap.size w (w.alloc (.cells #[] 51)):=(Below.refl _ w).alloc lr_ _;have h2:Below w.heap.size (w.alloc (.cells #[] 51)) w2:=⟨HG.out.os,HG.out.tape,HG.out.output,HG.out.size,fun k hk=>HG.out.block k (by simp;omega) (fun e=>by have h:k=w.heap.size:=Option.some.inj (show some k=some w.heap.size from e);omega)⟩;exact h1.trans h2
theorem Zjk:(Try.prog.info? 3).map (fun i=>(i.zero,i.size,i.bytes))=some (some (.int .i64 0),1,8):=by kernel_rfl
theorem Zlb (W:World) (a:Option Addr) (n c:Nat):(binOp .eql 24 (.slice a n c) (.slice none 0 0)).run Try.prog W=.ok (.bool a.isNone) W:=by
 simp only [binOp];simp [run_equal_slice_nil W 24 3 a n c Try.underlying24]
theorem ZlI (w:World) (oa:Option Addr) (n ca:Nat) (cs:List Value) (h:Src w oa n cs) (hlen:cs.length=n*1) (hone:∀u ∈ cs,u.oneCell'=true) (hl:n≤4194304) :
 Calls Try.prog 98 #[.slice oa n ca] w fun en w'=>∃v',en=.returned v'∧w'.ownsRow w.heap.size 3 1 v' n cs∧Below w.heap.size w w':=by
 obtain ⟨i0,hi,hz0,hz1,hz2⟩:=ZD Zjk
 cases oa with
 | none =>
  have h0:n=0:=by
   rcases Nat.eq_zero_or_pos n with h0 | h0
   · exact h0
   · obtain ⟨ad,e,_⟩:=h h0;cases e
  subst h0;have h4:cs=[]:=List.eq_nil_of_length_eq_zero (by omega);subst h4;have hn:=fun W=>Zlb W none 0 ca
  simp only [Option.isNone_none] at hn;clear h;go_enter Try.func98,Try.ntmps98;go_wp2;go_ret;exact ⟨_,rfl,World.ownsRow_nil _ _ _ _,Below.refl _ _⟩
 | some a =>
  have hn:=fun W=>Zlb W (some a) n ca
  simp only [Option.isNone_some] at hn;have hown:(w.alloc (.cells #[] 3)).ownsRow w.heap.size 3 1 (.slice (some ⟨w.heap.size,0,none⟩) 0 0) 0 []:=World.ownsRow_made w #[] 0 lr_ (by decide) rfl
  have hcs:∀(j:Nat) (u:Value),cs[j]? = some u→(w.alloc (.cells #[] 3)).cell? (a.add j)=some u:=by
   intro j u hj;have hj2:=(gs_ hj).1;obtain ⟨ad,e,hb,hx⟩:=h (by omega)
   cases e
   exact (((Below.refl _ w).alloc lr_ (.cells #[] 3)).cell (by rw [Zl];exact hb)).trans (hx j u hj)
  have HO:=Za hown;have HC:=Za hcs;have HONE:=Za hone;clear h hown hcs hone;go_enter Try.func98,Try.ntmps98
  go_wp2_with (
   at_builtin
   refine wpList_append_own _ rfl (.tmp 5) (.tmp 6) 24 rfl w.heap.size 3 i0 (.int .i64 0) 1 8 Try.underlying24 hi hz0 hz1 hz2 rfl (by decide) _ _ _ rfl HO.out a n ca cs rfl hlen HC.out HONE.out (by unfold maxLen;omega) (by omega) (by simp) ?_;intro v' w2 hown' hgrow hnn;have HO2:=Za hown';have HG:=Za hgrow
   clear hown' hgrow hnn)
  go_ret;refine ⟨_,rfl,by simpa using HO2.out,?_⟩;have h1:Below w.heap.size w (w.alloc (.cells #[] 3)):=(Below.refl _ w).alloc lr_ _;have h2:Below w.heap.size (w.alloc (.cells #[] 3)) w2:=⟨HG.out.os,HG.out.tape,HG.out.output,HG.out.size,fun k hk=>HG.out.block k (by simp;omega) (fun e=>by have h:k=w.heap.size:=Option.some.inj (show some k=some w.heap.size from e);omega)⟩;exact h1.trans h2
theorem Zjl:(Try.prog.info? 49).map (fun i=>(i.zero,i.size,i.bytes))=some (some (.agg #[.int .i64 0,.int .i64 0,.int .i64 0,.int .i64 0,.int .i64 0,.int .i64 0]),6,48):=by kernel_rfl
theorem Znc (W:World) (a:Option Addr) (n c:Nat):(binOp .eql 26 (.slice a n c) (.slice none 0 0)).run Try.prog W=.ok (.bool a.isNone) W:=by
 simp only [binOp];simp [run_equal_slice_nil W 26 49 a n c Try.underlying26]
theorem ZhX (w:World) (oa:Option Addr) (n ca:Nat) (cs:List Value) (h:Src w oa n cs) (hlen:cs.length=n*6) (hone:∀u ∈ cs,u.oneCell'=true) (hl:n≤4194304) :
 Calls Try.prog 99 #[.slice oa n ca] w fun en w'=>∃v',en=.returned v'∧w'.ownsRow w.heap.size 49 6 v' n cs∧Below w.heap.size w w':=by
 obtain ⟨i0,hi,hz0,hz1,hz2⟩:=ZD Zjl
 cases oa with
 | none =>
  have h0:n=0:=by
   rcases Nat.eq_zero_or_pos n with h0 | h0
   · exact h0
   · obtain ⟨ad,e,_⟩:=h h0;cases e
  subst h0;have h4:cs=[]:=List.eq_nil_of_length_eq_zero (by omega);subst h4;have hn:=fun W=>Znc W none 0 ca
  simp only [Option.isNone_none] at hn;clear h;go_enter Try.func99,Try.ntmps99;go_wp2;go_ret;exact ⟨_,rfl,World.ownsRow_nil _ _ _ _,Below.refl _ _⟩
 | some a =>
  have hn:=fun W=>Znc W (some a) n ca
  simp only [Option.isNone_some] at hn;have hown:(w.alloc (.cells #[] 49)).ownsRow w.heap.size 49 6 (.slice (some ⟨w.heap.size,0,none⟩) 0 0) 0 []:=World.ownsRow_made w #[] 0 lr_ (by decide) rfl
  have hcs:∀(j:Nat) (u:Value),cs[j]? = some u→(w.alloc (.cells #[] 49)).cell? (a.add j)=some u:=by
   intro j u hj;have hj2:=(gs_ hj).1;obtain ⟨ad,e,hb,hx⟩:=h (by omega)
   cases e
   exact (((Below.refl _ w).alloc lr_ (.cells #[] 49)).cell (by rw [Zl];exact hb)).trans (hx j u hj)
  have HO:=Za hown;have HC:=Za hcs;have HONE:=Za hone;clear h hown hcs hone;go_enter Try.func99,Try.ntmps99
  go_wp2_with (
   at_builtin
   refine wpList_append_own _ rfl (.tmp 5) (.tmp 6) 26 rfl w.heap.size 49 i0 (.agg #[.int .i64 0,.int .i64 0,.int .i64 0,.int .i64 0,.int .i64 0,.int .i64 0]) 6 48 Try.underlying26 hi hz0 hz1 hz2 rfl (by decide) _ _ _ rfl HO.out a n ca cs rfl hlen HC.out HONE.out (by unfold maxLen;omega) (by omega) (by simp) ?_;intro v' w2 hown' hgrow hnn;have HO2:=Za hown';have HG:=Za hgrow
   clear hown' hgrow hnn)
  go_ret;refine ⟨_,rfl,by simpa using HO2.out,?_⟩;have h1:Below w.heap.size w (w.alloc (.cells #[] 49)):=(Below.refl _ w).alloc lr_ _;have h2:Below w.heap.size (w.alloc (.cells #[] 49)) w2:=⟨HG.out.os,HG.out.tape,HG.out.output,HG.out.size,fun k hk=>HG.out.block k (by simp;omega) (fun e=>by have h:k=w.heap.size:=Option.some.inj (show some k=some w.heap.size from e);omega)⟩;exact h1.trans h2
theorem Zc2:(Try.prog.info? 26).map (fun i=>(i.zero,i.size,i.bytes))=some (some (.slice none 0 0),1,24):=by kernel_rfl
theorem Zm8 (W:World) (a:Option Addr) (n c:Nat):(binOp .eql 25 (.slice a n c) (.slice none 0 0)).run Try.prog W=.ok (.bool a.isNone) W:=by
 simp only [binOp];simp [run_equal_slice_nil W 25 26 a n c Try.underlying25]
theorem ZlH (w:World) (oa:Option Addr) (n ca:Nat) (cs:List Value) (h:Src w oa n cs) (hlen:cs.length=n*1) (hone:∀u ∈ cs,u.oneCell'=true) (hl:n≤4194304) :
 Calls Try.prog 64 #[.slice oa n ca] w fun en w'=>∃v',en=.returned v'∧w'.ownsRow w.heap.size 26 1 v' n cs∧Below w.heap.size w w':=by
 obtain ⟨i0,hi,hz0,hz1,hz2⟩:=ZD Zc2
 cases oa with
 | none =>
  have h0:n=0:=by
   rcases Nat.eq_zero_or_pos n with h0 | h0
   · exact h0
   · obtain ⟨ad,e,_⟩:=h h0;cases e
  subst h0;have h4:cs=[]:=List.eq_nil_of_length_eq_zero (by omega);subst h4;have hn:=fun W=>Zm8 W none 0 ca
  simp only [Option.isNone_none] at hn;clear h;go_enter Try.func64,Try.ntmps64;go_wp2;go_ret;exact ⟨_,rfl,World.ownsRow_nil _ _ _ _,Below.refl _ _⟩
 | some a =>
  have hn:=fun W=>Zm8 W (some a) n ca
  simp only [Option.isNone_some] at hn;have hown:(w.alloc (.cells #[] 26)).ownsRow w.heap.size 26 1 (.slice (some ⟨w.heap.size,0,none⟩) 0 0) 0 []:=World.ownsRow_made w #[] 0 lr_ (by decide) rfl
  have hcs:∀(j:Nat) (u:Value),cs[j]? = some u→(w.alloc (.cells #[] 26)).cell? (a.add j)=some u:=by
   intro j u hj;have hj2:=(gs_ hj).1;obtain ⟨ad,e,hb,hx⟩:=h (by omega)
   cases e
   exact (((Below.refl _ w).alloc lr_ (.cells #[] 26)).cell (by rw [Zl];exact hb)).trans (hx j u hj)
  have HO:=Za hown;have HC:=Za hcs;have HONE:=Za hone;clear h hown hcs hone;go_enter Try.func64,Try.ntmps64
  go_wp2_with (
   at_builtin
   refine wpList_append_own _ rfl (.tmp 5) (.tmp 6) 25 rfl w.heap.size 26 i0 (.slice none 0 0) 1 24 Try.underlying25 hi hz0 hz1 hz2 rfl (by decide) _ _ _ rfl HO.out a n ca cs rfl hlen HC.out HONE.out (by unfold maxLen;omega) (by omega) (by simp) ?_;intro v' w2 hown' hgrow hnn;have HO2:=Za hown';have HG:=Za hgrow
   clear hown' hgrow hnn)
  go_ret;refine ⟨_,rfl,by simpa using HO2.out,?_⟩;have h1:Below w.heap.size w (w.alloc (.cells #[] 26)):=(Below.refl _ w).alloc lr_ _;have h2:Below w.heap.size (w.alloc (.cells #[] 26)) w2:=⟨HG.out.os,HG.out.tape,HG.out.output,HG.out.size,fun k hk=>HG.out.block k (by simp;omega) (fun e=>by have h:k=w.heap.size:=Option.some.inj (show some k=some w.heap.size from e);omega)⟩;exact h1.trans h2
end Go.Proofs.Ytdpokdcendgfeaa
