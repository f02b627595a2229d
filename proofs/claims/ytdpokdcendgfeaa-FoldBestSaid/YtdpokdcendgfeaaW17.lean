/- Several texts in one: The reference's optimiser: harmless, up, same, and its reckoning. The reference's optimiser: same, and what constants are worth. The reference's optimiser: swap, one, none. The reference's optimiser: one, none. The reference's optimiser: sum. Rows appended behind a full row: memory only grows. The reference's optimiser: sum at REq, and sum whole. The reference's optimiser: what expr tells, and two boxes in a world. The reference's optimiser: expr. Plain law: what fold's look at a row tells is what the reference's tells, and what it makes of the rows. The reference's optimiser: branch. Conditions: those of each. -/
import Derived.Test.YtdpokdcendgfeaaW16
import Derived.Test.YtdpokdcendgfeaaW13
import Derived.Test.YtdpokdcendgfeaaW15
set_option linter.unusedSimpArgs false
set_option linter.unusedVariables false
set_option maxHeartbeats 80000000
set_option maxRecDepth 100000
namespace Go.Proofs.Ytdpokdcendgfeaa
open Go.RowKit
def Zbr (l:List Ac) (i e:Nat):Bool:=(List.range (e - i)).all fun j=>decide ((rowL l (i+j)).k≠25)
def upL (l:List Ac) (i:Nat):Nat→Option Nat
 | 0=>none
 | j+1=>if i<endL l j then some j else upL l i j
def upI:Option Nat→Int
 | none=>-1
 | some j=>(j:Int)
def Zbz (k:Int):Bool:=decide (k=28)||(decide (k=26)||(decide (k=27)||(decide (k=30)||(decide (k=31)||(decide (k=32)||(decide (k=33)||(decide (k=34)||(decide (k=35)||(decide (k=36)||decide (k=29))))))))))
def ZlE (a b:Int):Int:=if b=0 then 0 else if a.tmod b≠0∧(decide (a<0) != decide (b<0))=true then a.tdiv b - 1 else a.tdiv b
def ZdN (k a b:Int):Ac :=
 if k=28 then ZaQ (-a) else if k=26 then ZaQ (min a b) else if k=27 then ZaQ (max a b) else if k=30 then ZaQ (Za0 (a*b))
 else if k=31 then ZaQ (ZlE a b) else if k=32 then ZaQ (Za0 (a+b)) else if k=33 then ZaQ (Za0 (a - b)) else if k=29 then ⟨20,1 - a,0,0,0,0⟩ else if k=34 then ZcC (decide (a=b))
 else if k=35 then ZcC (decide (a<b)) else if k=36 then ZcC (decide (a≤b)) else ZaQ 0
def ZbE (l:List Ac) (frm to_:Nat) (r:List Ac):List Ac:=l.take frm++r++l.drop to_
def Zav (l:List Ac) (frm to_:Nat) (r:List Ac) (d:Int):List Ac :=
 match upL l frm frm with
 | none=>ZbE l frm to_ r
 | some p=>(ZbE l frm to_ r).modify p (addN d)
theorem Zcd {a w:World} {B:Nat} (h:Below B a w):Below B a w.drew:=Zc h 1
def isW (l:List Ac) (i:Nat) (k a:Int):Bool:=decide ((rowL l i).k=k)&&decide ((rowL l i).a=a)
def ZF (l:List Ac) (i:Nat):List Ac:=sub l (i,endL l i)
def Zaa (l:List Ac) (i:Nat) (r:List Ac):List Ac:=Zav l i (endL l i) r (1 - 1)
def ZaH (l:List Ac) (i:Nat):List Ac:=Zav l i (endL l i) [] (0 - 1)
def Zhp (l:List Ac) (i a b:Nat):Option (Int×List Ac) :=
 let k:=(rowL l i).k
 if (k=32∧isW l a 19 0=true)∨(k=30∧isW l a 19 1=true) then some (5,Zaa l i (ZF l b))
 else if ((k=32∨k=33)∧isW l b 19 0=true)∨((k=30∨k=31)∧isW l b 19 1=true) then some (5,Zaa l i (ZF l a))
 else if k=30∧((isW l a 19 0=true∧Zbr l b (endL l b)=true)∨(isW l b 19 0=true∧Zbr l a (endL l a)=true)) then some (6,Zaa l i [ZaQ 0])
 else if k=34∧(rowL l a).k=20 then (if (rowL l a).a=1 then some (7,Zaa l i (ZF l b)) else some (7,Zaa l i (⟨29,0,0,0,0,1⟩::ZF l b)))
 else if k=34∧(rowL l b).k=20 then (if (rowL l b).a=1 then some (7,Zaa l i (ZF l a)) else some (7,Zaa l i (⟨29,0,0,0,0,1⟩::ZF l a)))
 else none
structure InBox (w:World) (gb:Nat) (u0 u1:Value) (W:World):Prop where
 b:Below w.heap.size w W
 x0:W.cell? ⟨gb,0,none⟩=some u0
 x1:W.cell? ⟨gb,1,none⟩=some u1
 lt:gb<W.heap.size
theorem InBox.below {w:World} {gb:Nat} {u0 u1:Value} {W W':World} (h:InBox w gb u0 u1 W) (hb:Below W.heap.size W W'):InBox w gb u0 u1 W' :=
 ⟨h.b.trans (hb.mono h.b.size),(hb.cell (p:=⟨gb,0,none⟩) h.lt).trans h.x0,(hb.cell (p:=⟨gb,1,none⟩) h.lt).trans h.x1,Nat.lt_of_lt_of_le h.lt hb.size⟩
theorem InBox.drew {w:World} {gb:Nat} {u0 u1:Value} {W:World} (h:InBox w gb u0 u1 W):InBox w gb u0 u1 W.drew:=h.below (Zcd br_)
section
attribute [local go_sem] par Zah
end
structure InX (w:World) (gb:Nat) (u0 u1:Value) (gx:Nat) (x:Ac) (W:World):Prop where
 i:InBox w gb u0 u1 W
 y0:W.cell? ⟨gx,0,none⟩=some (.int .i64 x.k)
 y1:W.cell? ⟨gx,1,none⟩=some (.int .i64 x.a)
 y2:W.cell? ⟨gx,2,none⟩=some (.int .i64 x.b)
 y3:W.cell? ⟨gx,3,none⟩=some (.int .i64 x.c)
 y4:W.cell? ⟨gx,4,none⟩=some (.int .i64 x.d)
 y5:W.cell? ⟨gx,5,none⟩=some (.int .i64 x.n)
 ltx:gx<W.heap.size
theorem InX.below {w:World} {gb:Nat} {u0 u1:Value} {gx:Nat} {x:Ac} {W W':World} (h:InX w gb u0 u1 gx x W) (hb:Below W.heap.size W W'):InX w gb u0 u1 gx x W' :=
 ⟨h.i.below hb,(hb.cell (p:=⟨gx,0,none⟩) h.ltx).trans h.y0,(hb.cell (p:=⟨gx,1,none⟩) h.ltx).trans h.y1,(hb.cell (p:=⟨gx,2,none⟩) h.ltx).trans h.y2,(hb.cell (p:=⟨gx,3,none⟩) h.ltx).trans h.y3,(hb.cell (p:=⟨gx,4,none⟩) h.ltx).trans h.y4,(hb.cell (p:=⟨gx,5,none⟩) h.ltx).trans h.y5,Nat.lt_of_lt_of_le h.ltx hb.size⟩
theorem InX.drew {w:World} {gb:Nat} {u0 u1:Value} {gx:Nat} {x:Ac} {W:World} (h:InX w gb u0 u1 gx x W):InX w gb u0 u1 gx x W.drew:=h.below (Zcd br_)
def Zd5 (l:List Ac) (i:Nat):Nat:=if (rowL l i).n=2 then ZU l i 1 else ZU l i 0
def Zc8 (l:List Ac) (i:Nat):Option (Int×List Ac) :=
 let k:=(rowL l i).k;let a:=ZU l i 0;let b:=Zd5 l i
 if Zbz k=true∧ZN (rowL l a)=true∧ZN (rowL l b)=true then some (1,Zaa l i [ZdN k (rowL l a).a (rowL l b).a])
 else if k=37∨k=38 then
  (if (rowL l a).k=20 then (if (rowL l a).a=(if k=37 then 1 else 0) then some (2,Zaa l i (ZF l b)) else some (2,Zaa l i (ZF l a)))
  else if (rowL l b).k=20 then (if (rowL l b).a=(if k=37 then 1 else 0) then some (3,Zaa l i (ZF l a)) else if Zbr l a (endL l a)=true then some (3,Zaa l i (ZF l b)) else none)
  else none)
 else if (k=29∨k=28)∧(rowL l a).k=k then some (4,Zaa l i (ZF l (a+1)))
 else Zhp l i a b
section
attribute [local go_sem] par Zah
section
variable (w:World) (ad:Addr) (c ge:Nat) (l:List Ac) (i:Nat) (h:Rs w ad c ge l) (hi:i<l.length) (hl:l.length≤131072) {gb:Nat} {u0 u1:Value} {gx:Nat} {x:Ac} (W:World) (hb:InX w gb u0 u1 gx x W)
include h hi hl hb
end
theorem InX.drewN {w:World} {gb:Nat} {u0 u1:Value} {gx:Nat} {x:Ac} {W:World} (h:InX w gb u0 u1 gx x W) (m:Nat):InX w gb u0 u1 gx x (W.drewN m):=h.below (Zc br_ m)
end
def Zcr (l:List Ac) (i:Nat):Option (Int×List Ac) :=
 let c:=i+1;let one:=ZU l i 1;let two:=ZU l i 2
 if (rowL l c).k=20 then
  (if (rowL l c).a=1 then some (8,Zaa l i (ZF l one)) else if (rowL l i).n=3 then some (8,Zaa l i (ZF l two)) else some (8,ZaH l i))
 else if (rowL l c).k=29 then some (9,Zaa l i (⟨2,0,0,0,0,3⟩::(ZF l (c+1)++(if (rowL l i).n=3 then ZF l two else [⟨1,0,0,0,0,0⟩])++ZF l one)))
 else if (rowL l i).n=3∧(rowL l two).n=0 then some (10,ZaH l two)
 else if (rowL l i).n≠3∧(rowL l one).n=0∧Zbr l c (endL l c)=true then some (11,ZaH l i)
 else if (rowL l one).n≠0∧(rowL l (one+1)).k=2∧ZF l (one+2)=ZF l c then some (12,Zaa l (one+1) (ZF l (ZU l (one+1) 1)))
 else if (rowL l i).n=3∧(rowL l (two+1)).k=2∧ZF l (two+2)=ZF l c then
  (if (rowL l (two+1)).n=3 then some (13,Zaa l (two+1) (ZF l (ZU l (two+1) 2))) else some (13,ZaH l (two+1)))
 else none
def Zad (x y z:Ac):Ac×Nat :=
 if y.k=10 then (⟨13,x.a,x.b,y.a,y.b,0⟩,2) else if y.k=11∧z.k=10 then (⟨14,x.a,x.b,z.a,z.b,0⟩,3) else if y.k=11 then (⟨15,x.a,x.b,0,0,0⟩,3) else (⟨16,x.a,x.b,0,0,0⟩,2)
def ZaA (l:List Ac) (i:Nat):Option (Int×List Ac) :=
 let x:=rowL l i
 if 19≤x.k∧0<x.n∧x.k≠25 then Zc8 l i
 else if x.k=2 then Zcr l i
 else if x.k=3 then
  (if x.a=0∨isW l (i+1) 20 0=true∨(Zbr l (i+1) (endL l (i+1))=true∧(rowL l (ZU l i 1)).n=0) then some (14,ZaH l i)
  else if x.a=1 then some (15,Zaa l i (⟨2,0,0,0,0,2⟩::(ZF l (i+1)++ZF l (ZU l i 1)))) else none)
 else if x.k=4 then (if isW l (i+1) 21 x.a=true then some (16,ZaH l i) else none)
 else if x.k=1∧0<i then
  (if (rowL l (upI (upL l i i)).toNat).k=1 then some (17,Zav l i (endL l i) (sub l (i+1,endL l i)) (x.n - 1)) else none)
 else if x.k=9 then some (18,Zav l i (i+(Zad x (rowL l (i+1)) (rowL l (i+2))).2) [(Zad x (rowL l (i+1)) (rowL l (i+2))).1] (1 - ((Zad x (rowL l (i+1)) (rowL l (i+2))).2:Int)))
 else if x.k=1∧x.n=0 then some (19,[])
 else none
theorem ZlU {l:List Ac} {i e:Nat} {r:List Ac}:Zav l i e r 0=ZbE l i e r:=by
 unfold Zav;split
 · rfl
 · have h:addN 0=id:=by funext x;unfold addN;simp
   rw [h,List.modify_id]
theorem Zdg {l:List Ac} {i p:Nat}:∀j,p<j→i<endL l p→(∀q,p<q→q<j→endL l q≤i)→upL l i j=some p
 | 0,h,_,_=>absurd h (Nat.not_lt_zero _)
 | j+1,h,h1,h2=>by
  unfold upL;rcases Nat.eq_or_lt_of_le (Nat.le_of_lt_succ h) with rfl | h3
  · rw [if_pos h1]
  · rw [if_neg (by have:=h2 j h3 (Nat.lt_succ_self _);omega)];exact Zdg j h3 h1 fun q a b=>h2 q a (by omega)
theorem Zmp (l:List Ac) (f:Fd):ZbA l f=ZbE l f.frm f.to_ (f.inn.getD []):=by unfold ZbA ZbE;simp
theorem ZkC {l:List Ac} (hT:TreeL l) (hs:Z7 l) {f:Fd} (hi:f.frm<l.length):ZY l f=Zav l f.frm f.to_ (f.inn.getD []) (f.parts - f.gone):=by
 unfold ZY;rw [Zmp]
 by_cases h0:f.frm=0
 · rw [if_pos h0];unfold Zav;rw [h0];rfl
 · rw [if_neg h0];obtain ⟨p,h1,h2,h3,h4⟩:=Zew hT hs (by omega) hi;have hu:upL l f.frm f.frm=some p:=Zdg _ h2 h3 h4;unfold Zav;rw [hu,h1];rfl
theorem ZmX {l:List Ac} (hT:TreeL l) (hs:Z7 l) {i:Nat} (h0:0<i) (hi:i<l.length):(upI (upL l i i)).toNat=((Zcx l)[i]?.getD 0).toNat:=by
 obtain ⟨p,h1,h2,h3,h4⟩:=Zew hT hs h0 hi;rw [Zdg _ h2 h3 h4,h1];rfl
theorem ZdB {l:List Ac} {i e:Nat} (h:i≤e) (he:e≤l.length):Zbr l i e=ZK (sub l (i,e)):=by
 unfold Zbr ZK
 have hs:sub l (i,e)=(List.range (e - i)).map fun j=>rowL l (i+j):=by
  apply List.ext_getElem?;intro j;unfold sub;simp only;rw [List.getElem?_take,List.getElem?_map]
  by_cases hj:j<e - i
  · rw [if_pos hj,List.getElem?_drop,List.getElem?_range hj,Option.map_some];exact Z5 (by omega)
  · rw [if_neg hj,List.getElem?_eq_none (l:=List.range (e - i)) (by simp;omega)];rfl
 rw [hs,List.all_map];rfl
section
variable {P:Pl} {l:List Ac}
theorem in_end {f:Nat} {what:Int} {i e:Nat} (h:Wf P l f what i e) {j:Nat} (h1:i≤j) (h2:j<e):endL l j≤e∧j<endL l j:=by
 obtain ⟨f',w',e',a,b⟩:=Zdv _ _ _ _ h j h1 h2;have h3:=Zc6 _ _ _ _ a;rw [Zcq (ZbX a)];exact ⟨b,h3.1⟩
theorem ZeW {f:Nat} {what:Int} {i e:Nat} (R:RowW P l f what i e) (h:(spL l i).length=1):∃f0 w0,spL l i=[(i+1,e)]∧RowW P l f0 w0 (i+1) e∧w0 ∈ Z8 (rowL l i) ((l[i+1]?.map Ac.k).getD 0):=by
 have hks:=R.ks
 match hsp:spL l i,h,hks with
 | [r0],_,hks =>
  match hw:Z8 (rowL l i) ((l[i+1]?.map Ac.k).getD 0),hks with
  | [w0],hks =>
   obtain ⟨h1,h2,h3⟩:=hks;obtain ⟨f',rfl⟩:=Zbe h2;obtain ⟨a,b⟩:=r0;simp only at h1 h2 h3;simp only [ZH] at h3;subst h1 h3;exact ⟨f',w0,rfl,ZQ h2,by simp⟩
  | [],hks=>simp [ZH] at hks
  | _::_::_,hks=>simp [ZH] at hks
theorem Zd3 {f:Nat} {what:Int} {i e:Nat} (R:RowW P l f what i e) (h:(spL l i).length=2):∃m f0 w0 w1,spL l i=[(i+1,m),(m,e)]∧Wf P l (f0+1) w0 (i+1) m∧Wf P l (f0+1) w1 m e∧Z8 (rowL l i) ((l[i+1]?.map Ac.k).getD 0)=[w0,w1]:=by
 have hks:=R.ks
 match hsp:spL l i,h,hks with
 | [r0,r1],_,hks =>
  match hw:Z8 (rowL l i) ((l[i+1]?.map Ac.k).getD 0),hks with
  | [w0,w1],hks =>
   obtain ⟨h1,h2,h3,h4,h5⟩:=hks;obtain ⟨f',rfl⟩:=Zbe h2;obtain ⟨a,b⟩:=r0;obtain ⟨c,d⟩:=r1;simp only at h1 h2 h3 h4 h5;simp only [ZH] at h5;subst h1 h3 h5;exact ⟨c,f',w0,w1,rfl,h2,h4,rfl⟩
  | [],hks=>simp [ZH] at hks
  | [_],hks=>simp [ZH] at hks
  | _::_::_::_,hks=>simp [ZH] at hks
theorem ZfF {f:Nat} {what:Int} {i e:Nat} (R:RowW P l f what i e) (h:(spL l i).length=3):∃m n f0 w0 w1 w2,spL l i=[(i+1,m),(m,n),(n,e)]∧Wf P l (f0+1) w0 (i+1) m∧Wf P l (f0+1) w1 m n∧Wf P l (f0+1) w2 n e∧Z8 (rowL l i) ((l[i+1]?.map Ac.k).getD 0)=[w0,w1,w2]:=by
 have hks:=R.ks
 match hsp:spL l i,h,hks with
 | [r0,r1,r2],_,hks =>
  match hw:Z8 (rowL l i) ((l[i+1]?.map Ac.k).getD 0),hks with
  | [w0,w1,w2],hks =>
   obtain ⟨h1,h2,h3,h4,h5,h6,h7⟩:=hks;obtain ⟨f',rfl⟩:=Zbe h2;obtain ⟨a,b⟩:=r0;obtain ⟨c,d⟩:=r1;obtain ⟨u,v⟩:=r2;simp only at h1 h2 h3 h4 h5 h6 h7;simp only [ZH] at h7;subst h1 h3 h5 h7;exact ⟨c,u,f',w0,w1,w2,rfl,h2,h4,h6,rfl⟩
  | [],hks=>simp [ZH] at hks
  | [_],hks=>simp [ZH] at hks
  | [_,_],hks=>simp [ZH] at hks
  | _::_::_::_::_,hks=>simp [ZH] at hks
theorem Zke {i:Nat} {n:Int}:isW l i 20 n=Zai (rowL l i) n:=rfl
theorem ZmH {i:Nat} {n:Int}:isW l i 19 n=ZaX (rowL l i) n:=rfl
theorem ZeG {a b:Int} (ha:-1073741824≤a∧a≤1073741824):Zca a b=ZlE a b:=by
 unfold Zca ZlE
 by_cases hb:b=0
 · rw [if_pos hb,if_pos hb]
 · rw [if_neg hb,if_neg hb];have h:=Int.natAbs_tdiv_le_natAbs a b;have hc:∀n:Int,-1073741824≤n∧n≤1073741824→Za0 n=n:=fun n h=>by unfold Za0;omega
   apply hc;split
   · next h1 =>
     have hz:=h1.2
     by_cases hm:a.tdiv b = -1073741824
     · exfalso;have ha2:a.natAbs=1073741824:=by omega
       have hb2:a.tdiv b*b+a.tmod b=a:=Int.tdiv_mul_add_tmod a b;have hq:=congrArg Int.natAbs (Int.tdiv_mul_add_tmod a b);have h3:(a.tdiv b).natAbs=a.natAbs / b.natAbs:=Int.natAbs_tdiv a b;rw [hm] at h3;rw [ha2] at h3
       have h5:b.natAbs=1:=by
        rcases Nat.lt_or_ge b.natAbs 2 with q | q
        · have:b.natAbs≠0:=by simpa using hb
          omega
        · have h6:1073741824 / b.natAbs≤1073741824 / 2:=Nat.div_le_div_left q (by decide);have h7:(-1073741824:Int).natAbs=1073741824:=by decide
          omega
       have h8:b=1∨b = -1:=by omega
       rcases h8 with rfl | rfl
       · exact h1.1 (by simp)
       · exact h1.1 (by simp)
     · omega
   · omega
theorem Zfi {k a b:Int} (ha:-1073741824≤a∧a≤1073741824) (h9:k=29→a=0∨a=1):ZI k a b=if Zbz k=true then some (ZdN k a b) else none:=by
 unfold ZI Zbz ZdN
 by_cases h28:k=28
 · subst h28;rw [show Za0 (-a) = -a by unfold Za0;omega]
   simp
 by_cases h26:k=26
 · subst h26;simp
 by_cases h27:k=27
 · subst h27;simp
 by_cases h30:k=30
 · subst h30;simp
 by_cases h31:k=31
 · subst h31;simp [ZeG ha]
 by_cases h32:k=32
 · subst h32;simp
 by_cases h33:k=33
 · subst h33;simp
 by_cases h34:k=34
 · subst h34;simp
 by_cases h35:k=35
 · subst h35;simp
 by_cases h36:k=36
 · subst h36;simp
 by_cases h29:k=29
 · rcases h9 h29 with rfl | rfl
   · subst h29;simp [ZcC]
   · subst h29;simp [ZcC]
 simp [h28,h26,h27,h30,h31,h32,h33,h34,h35,h36,h29]
end
section
attribute [local go_sem] par Zah
structure JO (W:World) (B:Nat) (lv:Value) (nn:Nat) (rows:List Ac) (K:Nat→Value→World→Prop) (S:Nat→Bool) (vs:Nat→Value) (w:World):Prop where
 b:Below B W w
 k:∀i,S i=true→K i (vs i) w
 r:S 6=false→w.ownsRow B 49 6 lv nn (acs rows)
theorem JO.step {W w w':World} {B nn:Nat} {lv:Value} {rows:List Ac} {K:Nat→Value→World→Prop} {S:Nat→Bool} {vs:Nat→Value} {j:Nat} {u:Value} (h:JO W B lv nn rows K S vs w) (hK:StK K) (hj:j≠6) (hb:Below w.heap.size w w') (hu:K j u w') (hB:B≤w.heap.size):JO W B lv nn rows K (upn S j true) (upn vs j u) w':=by
 refine ⟨h.b.trans (hb.mono hB),fun i hi=>?_,fun h6=>?_⟩
 · by_cases e:i=j
   · subst e;rw [Ze];exact hu
   · rw [Zd e] at hi ⊢;exact hK i _ _ _ (h.k i hi) hb
 · rw [Zd (Ne.symm hj)] at h6;exact Zx (h.r h6) hb lr_
def KO (gb B mm:Nat) (rv iv lv bv sv:Value) (n2:Int) (out rows:List Ac):Nat→Value→World→Prop
 | 0,v,_=>v=rv
 | 1,v,_=>v=iv
 | 2,v,_=>v=lv
 | 3,v,_=>v=rv
 | 4,v,_=>v=bv
 | 5,v,_=>v=sv
 | 6,v,w=>w.ownsRow B 49 6 v mm (acs rows)
 | 7,v,w=>w.ownsRow gb 49 6 v out.length (acs out)
 | 8,v,_=>v=.int .i64 n2
 | 9,v,w=>w.ownsRow gb 49 6 v out.length (acs out)
 | _+10,_,_=>True
theorem JO.app {W w w':World} {gb B nn mm:Nat} {lv rv iv lv2 bv sv:Value} {n2:Int} {out rows rows2:List Ac} {S:Nat→Bool} {vs:Nat→Value} {u:Value} (h:JO W B lv nn rows (KO gb B mm rv iv lv2 bv sv n2 out rows2) S vs w) (h7:S 7=false) (h8:S 8=false) (h9:S 9=false) (hb:Below B w w') (hu:w'.ownsRow B 49 6 u mm (acs rows2)):JO W B lv nn rows (KO gb B mm rv iv lv2 bv sv n2 out rows2) (upn S 6 true) (upn vs 6 u) w':=by
 refine ⟨h.b.trans hb,fun i hi=>?_,fun h6=>by rw [Ze] at h6;cases h6⟩
 by_cases e:i=6
 · subst e;rw [Ze];exact hu
 · rw [Zd e] at hi ⊢;have hk:=h.k i hi
   match i,e,hi,hk with
   | 0,_,_,hk | 1,_,_,hk | 2,_,_,hk | 3,_,_,hk | 4,_,_,hk | 5,_,_,hk=>exact hk
   | 7,_,hi,_=>rw [h7] at hi;cases hi
   | 8,_,hi,_=>rw [h8] at hi;cases hi
   | 9,_,hi,_=>rw [h9] at hi;cases hi
   | _+10,_,_,_=>trivial
theorem JO.start {W:World} {B nn:Nat} {lv:Value} {rows:List Ac} {K:Nat→Value→World→Prop} (vs:Nat→Value) (ho:W.ownsRow B 49 6 lv nn (acs rows)) (hB:B≤W.heap.size) (h:∀i v w,10≤i→K i v w):JO W B lv nn rows K (fun i=>decide (10≤i)) vs W.drew :=
 ⟨((Below.refl _ W).mono hB).drew,fun i hi=>h i _ _ (by simpa using hi),fun _=>Zx ho (Zcd br_) lr_⟩
structure RowIn (l:List Ac) (j:Nat):Prop where
 lt:j<l.length
 e:j<endL l j∧endL l j≤l.length
section
variable (w:World) (ad:Addr) (c ge:Nat) (l:List Ac) (i:Nat) (h:Rs w ad c ge l) (hi:RowIn l i) (hl:l.length≤131072) {gb:Nat} {u0 u1:Value} {gx:Nat} {x:Ac} (W:World) (hb:InX w gb u0 u1 gx x W)
include h hi hl hb
end
end
end Go.Proofs.Ytdpokdcendgfeaa
