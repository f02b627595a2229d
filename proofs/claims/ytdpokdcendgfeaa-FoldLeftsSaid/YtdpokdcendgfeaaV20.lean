/- Several texts in one: Plain law: what fold's look at a row tells is what the reference's tells, and what it makes of the rows. Conditions: those of each. -/
import Derived.Test.YtdpokdcendgfeaaV13
import Derived.Test.YtdpokdcendgfeaaV18
set_option linter.unusedSimpArgs false
set_option linter.unusedVariables false
set_option maxHeartbeats 80000000
set_option maxRecDepth 100000
namespace Go.Proofs.Ytdpokdcendgfeaa
open Go.RowKit
def Za4 (l:List Ac) (i:Nat):Option (Int×List Ac) :=
 let c:=i+1;let one:=kidL l i 1;let two:=kidL l i 2
 if (rowL l c).k=20 then
  (if (rowL l c).a=1 then some (8,ZH l i (Ze l one)) else if (rowL l i).n=3 then some (8,ZH l i (Ze l two)) else some (8,Za0 l i))
 else if (rowL l c).k=29 then some (9,ZH l i (⟨2,0,0,0,0,3⟩::(Ze l (c+1)++(if (rowL l i).n=3 then Ze l two else [⟨1,0,0,0,0,0⟩])++Ze l one)))
 else if (rowL l i).n=3∧(rowL l two).n=0 then some (10,Za0 l two)
 else if (rowL l i).n≠3∧(rowL l one).n=0∧Zap l c (endL l c)=true then some (11,Za0 l i)
 else if (rowL l one).n≠0∧(rowL l (one+1)).k=2∧Ze l (one+2)=Ze l c then some (12,ZH l (one+1) (Ze l (kidL l (one+1) 1)))
 else if (rowL l i).n=3∧(rowL l (two+1)).k=2∧Ze l (two+2)=Ze l c then
  (if (rowL l (two+1)).n=3 then some (13,ZH l (two+1) (Ze l (kidL l (two+1) 2))) else some (13,Za0 l (two+1)))
 else none
def ZaG (x y z:Ac):Ac×Nat :=
 if y.k=10 then (⟨13,x.a,x.b,y.a,y.b,0⟩,2) else if y.k=11∧z.k=10 then (⟨14,x.a,x.b,z.a,z.b,0⟩,3) else if y.k=11 then (⟨15,x.a,x.b,0,0,0⟩,3) else (⟨16,x.a,x.b,0,0,0⟩,2)
def ZA (l:List Ac) (i:Nat):Option (Int×List Ac) :=
 let x:=rowL l i
 if 19≤x.k∧0<x.n∧x.k≠25 then Zcn l i
 else if x.k=2 then Za4 l i
 else if x.k=3 then
  (if x.a=0∨isW l (i+1) 20 0=true∨(Zap l (i+1) (endL l (i+1))=true∧(rowL l (kidL l i 1)).n=0) then some (14,Za0 l i)
  else if x.a=1 then some (15,ZH l i (⟨2,0,0,0,0,2⟩::(Ze l (i+1)++Ze l (kidL l i 1)))) else none)
 else if x.k=4 then (if isW l (i+1) 21 x.a=true then some (16,Za0 l i) else none)
 else if x.k=1∧0<i then
  (if (rowL l (upI (upL l i i)).toNat).k=1 then some (17,ZI l i (endL l i) (sub l (i+1,endL l i)) (x.n - 1)) else none)
 else if x.k=9 then some (18,ZI l i (i+(ZaG x (rowL l (i+1)) (rowL l (i+2))).2) [(ZaG x (rowL l (i+1)) (rowL l (i+2))).1] (1 - ((ZaG x (rowL l (i+1)) (rowL l (i+2))).2:Int)))
 else if x.k=1∧x.n=0 then some (19,[])
 else none
theorem Zly {l:List Ac} {i e:Nat} {r:List Ac}:ZI l i e r 0=Za5 l i e r:=by
 unfold ZI;split
 · rfl
 · have h:Zb3 0=id:=by funext x;unfold Zb3;simp
   rw [h,List.modify_id]
theorem Zc6 {l:List Ac} {i p:Nat}:∀j,p<j→i<endL l p→(∀q,p<q→q<j→endL l q≤i)→upL l i j=some p
 | 0,h,_,_=>absurd h (Nat.not_lt_zero _)
 | j+1,h,h1,h2=>by
  unfold upL;rcases Nat.eq_or_lt_of_le (Nat.le_of_lt_succ h) with rfl | h3
  · rw [if_pos h1]
  · rw [if_neg (by have:=h2 j h3 (Nat.lt_succ_self _);omega)];exact Zc6 j h3 h1 fun q a b=>h2 q a (by omega)
theorem Zl1 (l:List Ac) (f:Fd):Zb2 l f=Za5 l f.frm f.to_ (f.inn.getD []):=by unfold Zb2 Za5;simp
theorem Zj3 {l:List Ac} (hT:TreeL l) (hs:ZE l) {f:Fd} (hi:f.frm<l.length):ZaC l f=ZI l f.frm f.to_ (f.inn.getD []) (f.parts - f.gone):=by
 unfold ZaC;rw [Zl1]
 by_cases h0:f.frm=0
 · rw [if_pos h0];unfold ZI;rw [h0];rfl
 · rw [if_neg h0];obtain ⟨p,h1,h2,h3,h4⟩:=Zfw hT hs (by omega) hi;have hu:upL l f.frm f.frm=some p:=Zc6 _ h2 h3 h4;unfold ZI;rw [hu,h1];rfl
theorem Zmy {l:List Ac} (hT:TreeL l) (hs:ZE l) {i:Nat} (h0:0<i) (hi:i<l.length):(upI (upL l i i)).toNat=((Zcl l)[i]?.getD 0).toNat:=by
 obtain ⟨p,h1,h2,h3,h4⟩:=Zfw hT hs h0 hi;rw [Zc6 _ h2 h3 h4,h1];rfl
theorem Zdt {l:List Ac} {i e:Nat} (h:i≤e) (he:e≤l.length):Zap l i e=ZS (sub l (i,e)):=by
 unfold Zap ZS
 have hs:sub l (i,e)=(List.range (e - i)).map fun j=>rowL l (i+j):=by
  apply List.ext_getElem?;intro j;unfold sub;simp only;rw [List.getElem?_take,List.getElem?_map]
  by_cases hj:j<e - i
  · rw [if_pos hj,List.getElem?_drop,List.getElem?_range hj,Option.map_some];exact Zar (by omega)
  · rw [if_neg hj,List.getElem?_eq_none (l:=List.range (e - i)) (by simp;omega)];rfl
 rw [hs,List.all_map];rfl
section
variable {P:Pl} {l:List Ac}
theorem ZjJ {f:Nat} {what:Int} {i e:Nat} (h:Wf P l f what i e) {j:Nat} (h1:i≤j) (h2:j<e):endL l j≤e∧j<endL l j:=by
 obtain ⟨f',w',e',a,b⟩:=ZdU _ _ _ _ h j h1 h2;have h3:=ZcN _ _ _ _ a;rw [Zc1 (Zcr a)];exact ⟨b,h3.1⟩
theorem ZbV {f:Nat} {what:Int} {i e:Nat} (R:RowW P l f what i e) (h:(spL l i).length=1):∃f0 w0,spL l i=[(i+1,e)]∧RowW P l f0 w0 (i+1) e∧w0 ∈ Zaa (rowL l i) ((l[i+1]?.map Ac.k).getD 0):=by
 have hks:=R.ks
 match hsp:spL l i,h,hks with
 | [r0],_,hks =>
  match hw:Zaa (rowL l i) ((l[i+1]?.map Ac.k).getD 0),hks with
  | [w0],hks =>
   obtain ⟨h1,h2,h3⟩:=hks;obtain ⟨f',rfl⟩:=Zbq h2;obtain ⟨a,b⟩:=r0;simp only at h1 h2 h3;simp only [ZL] at h3;subst h1 h3;exact ⟨f',w0,rfl,ZB h2,by simp⟩
  | [],hks=>simp [ZL] at hks
  | _::_::_,hks=>simp [ZL] at hks
theorem ZbN {f:Nat} {what:Int} {i e:Nat} (R:RowW P l f what i e) (h:(spL l i).length=2):∃m f0 w0 w1,spL l i=[(i+1,m),(m,e)]∧Wf P l (f0+1) w0 (i+1) m∧Wf P l (f0+1) w1 m e∧Zaa (rowL l i) ((l[i+1]?.map Ac.k).getD 0)=[w0,w1]:=by
 have hks:=R.ks
 match hsp:spL l i,h,hks with
 | [r0,r1],_,hks =>
  match hw:Zaa (rowL l i) ((l[i+1]?.map Ac.k).getD 0),hks with
  | [w0,w1],hks =>
   obtain ⟨h1,h2,h3,h4,h5⟩:=hks;obtain ⟨f',rfl⟩:=Zbq h2;obtain ⟨a,b⟩:=r0;obtain ⟨c,d⟩:=r1;simp only at h1 h2 h3 h4 h5;simp only [ZL] at h5;subst h1 h3 h5;exact ⟨c,f',w0,w1,rfl,h2,h4,rfl⟩
  | [],hks=>simp [ZL] at hks
  | [_],hks=>simp [ZL] at hks
  | _::_::_::_,hks=>simp [ZL] at hks
theorem ZcO {f:Nat} {what:Int} {i e:Nat} (R:RowW P l f what i e) (h:(spL l i).length=3):∃m n f0 w0 w1 w2,spL l i=[(i+1,m),(m,n),(n,e)]∧Wf P l (f0+1) w0 (i+1) m∧Wf P l (f0+1) w1 m n∧Wf P l (f0+1) w2 n e∧Zaa (rowL l i) ((l[i+1]?.map Ac.k).getD 0)=[w0,w1,w2]:=by
 have hks:=R.ks
 match hsp:spL l i,h,hks with
 | [r0,r1,r2],_,hks =>
  match hw:Zaa (rowL l i) ((l[i+1]?.map Ac.k).getD 0),hks with
  | [w0,w1,w2],hks =>
   obtain ⟨h1,h2,h3,h4,h5,h6,h7⟩:=hks;obtain ⟨f',rfl⟩:=Zbq h2;obtain ⟨a,b⟩:=r0;obtain ⟨c,d⟩:=r1;obtain ⟨u,v⟩:=r2;simp only at h1 h2 h3 h4 h5 h6 h7;simp only [ZL] at h7;subst h1 h3 h5 h7;exact ⟨c,u,f',w0,w1,w2,rfl,h2,h4,h6,rfl⟩
  | [],hks=>simp [ZL] at hks
  | [_],hks=>simp [ZL] at hks
  | [_,_],hks=>simp [ZL] at hks
  | _::_::_::_::_,hks=>simp [ZL] at hks
theorem ZjG {i:Nat} {n:Int}:isW l i 20 n=Zah (rowL l i) n:=rfl
theorem Zmf {i:Nat} {n:Int}:isW l i 19 n=ZaV (rowL l i) n:=rfl
theorem Zj4 {a b:Int} (ha:-1073741824≤a∧a≤1073741824):ZcJ a b=Zea a b:=by
 unfold ZcJ Zea
 by_cases hb:b=0
 · rw [if_pos hb,if_pos hb]
 · rw [if_neg hb,if_neg hb];have h:=Int.natAbs_tdiv_le_natAbs a b;have hc:∀n:Int,-1073741824≤n∧n≤1073741824→ZaA n=n:=fun n h=>by unfold ZaA;omega
   apply hc;split
   · next h1 =>
     have hz:=h1.2
     by_cases hm:a.tdiv b = -1073741824
     · exfalso;have ha2:a.natAbs=1073741824:=by omega
       have hb2:a.tdiv b*b+a.tmod b=a:=Int.tdiv_mul_add_tmod a b;have hq:=congrArg Int.natAbs (Int.tdiv_mul_add_tmod a b);have h3:(a.tdiv b).natAbs=a.natAbs / b.natAbs:=Int.natAbs_tdiv a b;rw [hm] at h3;rw [ha2] at h3
       have h5:b.natAbs=1:=by
        rcases Nat.lt_or_ge b.natAbs 2 with q | q
        · have:b.natAbs≠0:=by simpa using hb
          omega
        · have h6:1073741824 / b.natAbs≤1073741824 / 2:=Nat.div_le_div_left q (by decide);have h7:(-1073741824:Int).natAbs=1073741824:=by decide
          omega
       have h8:b=1∨b = -1:=by omega
       rcases h8 with rfl | rfl
       · exact h1.1 (by simp)
       · exact h1.1 (by simp)
     · omega
   · omega
theorem Ze0 {k a b:Int} (ha:-1073741824≤a∧a≤1073741824) (h9:k=29→a=0∨a=1):ZP k a b=if Zbs k=true then some (Zac k a b) else none:=by
 unfold ZP Zbs Zac
 by_cases h28:k=28
 · subst h28;rw [show ZaA (-a) = -a by unfold ZaA;omega]
   simp
 by_cases h26:k=26
 · subst h26;simp
 by_cases h27:k=27
 · subst h27;simp
 by_cases h30:k=30
 · subst h30;simp
 by_cases h31:k=31
 · subst h31;simp [Zj4 ha]
 by_cases h32:k=32
 · subst h32;simp
 by_cases h33:k=33
 · subst h33;simp
 by_cases h34:k=34
 · subst h34;simp
 by_cases h35:k=35
 · subst h35;simp
 by_cases h36:k=36
 · subst h36;simp
 by_cases h29:k=29
 · rcases h9 h29 with rfl | rfl
   · subst h29;simp [ZaD]
   · subst h29;simp [ZaD]
 simp [h28,h26,h27,h30,h31,h32,h33,h34,h35,h36,h29]
end
end Go.Proofs.Ytdpokdcendgfeaa
