/- Several texts in one: The reference's look at plans, as functions on lists. Nothing here names the program. The reference's look at an event's rows, as functions on lists; it tells what the program's tells. Nothing here names the program. From the reference's look at an event's rows to the program's. Nothing here names the program. From the reference's look at an event to the program's. Nothing here names the program. Conditions: those of each. -/
import Derived.Test.YtdpokdcendgfeaaW3
set_option linter.unusedSimpArgs false
set_option linter.unusedVariables false
set_option maxHeartbeats 80000000
set_option maxRecDepth 100000
namespace Go.Proofs.Ytdpokdcendgfeaa
open Go.RowKit
def opR (P:Pl) (x:Ac):Bool :=
 let q:=Zp x.a 0 ((P.gh.length:Int) - 1)&&Zp x.b 0 1;let rest:=decide (x.c=0)&&decide (x.d=0);let none_:=decide (x.b=0)&&rest
 if x.k=3 then none_&&Zp x.a 0 4194304
 else if x.k=4∨x.k=21 then none_&&Zp x.a 0 ((P.vs.length:Int) - 1)
 else if x.k=5∨x.k=25 then none_&&Zp x.a 0 ((P.ts.length:Int) - 1)
 else if x.k=6∨x.k=9∨x.k=10∨x.k=18 then q&&rest
 else if x.k=7∨x.k=15 then q&&rest&&!ghV P.gh x.a
 else if x.k=16 then q&&rest&&ghV P.gh x.a
 else if x.k=13∨x.k=14 then (if q=false∨Zp x.c 0 ((P.gh.length:Int) - 1)=false∨Zp x.d 0 1=false then false else if x.k=13 then ghV P.gh x.a == ghV P.gh x.c else !ghV P.gh x.a&&ghV P.gh x.c)
 else if x.k=19 then none_&&Zp x.a (-1073741824) 1073741824
 else if x.k=20 then none_&&Zp x.a 0 1
 else if x.k=22∨x.k=24 then none_&&Zp x.a 0 ((P.gh.length:Int) - 1)
 else none_&&decide (x.a=0)
theorem ZdT (P:Pl) (x:Ac):opR P x=Zu P x:=by
 unfold opR Zu qV;obtain ⟨k,a,b,c,d,n⟩:=x;simp only
 by_cases h3:k=3
 · subst h3;simp [Bool.and_comm]
 by_cases h4:k=4∨k=21
 · rw [if_neg h3,if_pos h4,if_neg h3,if_pos h4,Bool.and_comm]
 by_cases h5:k=5∨k=25
 · rw [if_neg h3,if_neg h4,if_pos h5,if_neg h3,if_neg h4,if_pos h5,Bool.and_comm]
 by_cases h19:k=19
 · subst h19;simp [Bool.and_comm]
 by_cases h20:k=20
 · subst h20;simp [Bool.and_comm]
 by_cases h22:k=22∨k=24
 · rcases h22 with rfl | rfl <;> simp [Bool.and_comm]
 by_cases h6:k=6∨k=9∨k=10∨k=18
 · rcases h6 with rfl | rfl | rfl | rfl <;> simp [Bool.and_assoc]
 by_cases h7:k=7∨k=15
 · rcases h7 with rfl | rfl <;> (simp;cases ghV P.gh a <;> simp [Bool.and_assoc])
 by_cases h16:k=16
 · subst h16;simp;cases ghV P.gh a <;> simp [Bool.and_assoc]
 by_cases h13:k=13
 · subst h13;simp
 by_cases h14:k=14
 · subst h14;simp
 have hn:¬(k=13∨k=14):=by omega
 rw [if_neg h3,if_neg h4,if_neg h5,if_neg h6,if_neg h7,if_neg h16,if_neg hn,if_neg h19,if_neg h20,if_neg h22,if_neg h3,if_neg h4,if_neg h5,if_neg h19,if_neg h20,if_neg h22,if_neg h6,if_neg h7,if_neg h16,if_neg h13,if_neg h14,Bool.and_comm]
def ZT (k:Int):Int :=
 if k=19∨k=21∨k=22∨k=23∨k=25∨k=26∨k=27∨k=28∨k=30∨k=31∨k=32∨k=33 then 3 else if k=20∨k=24∨k=29∨k=34∨k=35∨k=36∨k=37∨k=38 then 4 else 0
theorem Zbo (k:Int):ZT k=Zn k+1:=by
 unfold ZT Zn
 by_cases h1:k=20∨k=24∨k=29∨k=34∨k=35∨k=36∨k=37∨k=38
 · rw [if_neg (by omega),if_pos h1,if_pos h1];rfl
 · rw [if_neg h1,if_neg h1]
   by_cases h2:19≤k∧k<39
   · rw [if_pos (by omega),if_pos h2];rfl
   · rw [if_neg (by omega),if_neg h2];rfl
def Zac (k:Int):List Int :=
 if k=2∨k=3 then [4,1] else if k=4∨k=28 then [3] else if k=5 then [5,3] else if k=25 then [5]
 else if k=26∨k=27∨k=30∨k=31∨k=32∨k=33∨k=35∨k=36 then [3,3] else if k=34 then [6,6] else if k=29 then [4] else if k=37∨k=38 then [4,4] else []
def Zz (k n:Int):List Int:=if k=2∧n=3 then [4,1,1] else Zac k
def ZW (k what:Int):Bool :=
 if what=0∨what=1 then decide (k=1) else if what=2 then decide (1≤k)&&decide (k≤16) else if what=5 then decide (k=17)||decide (k=18) else if what=6 then decide (ZT k≠0) else decide (ZT k=what)
def Zau (w:Int):Int:=if w=1∨w=0 then 1 else if w=2 then 0 else if w=3 then 2 else if w=4 then 3 else if w=6 then 4 else 5
theorem ZfI (k w:Int) (hw:w=0∨w=1∨w=2∨w=3∨w=4∨w=5∨w=6):ZW k w=ZE (Zau w) k:=by
 unfold ZW ZE Zau;rw [Zbo]
 have h0:Zn k = -1∨Zn k=2∨Zn k=3:=by
  unfold Zn;split
  · simp
  · split <;> simp
 rcases hw with rfl | rfl | rfl | rfl | rfl | rfl | rfl <;> simp
 · rcases h0 with h | h | h <;> simp [h]
 · rcases h0 with h | h | h <;> simp [h]
 · rcases h0 with h | h | h <;> simp [h]
theorem ZgB (k n:Int):kidsV k n=(Zz k n).map Zau:=by
 unfold kidsV Zz Zac
 by_cases h2:k=2
 · subst h2
   by_cases h3:n=3 <;> simp [h3,Zau]
 · rw [if_neg h2,if_neg (show ¬(k=2∧n=3) from fun h=>h2 h.1)]
   by_cases h3:k=3
   · rw [if_pos h3,if_pos (.inr h3)];rfl
   · rw [if_neg h3,if_neg (show ¬(k=2∨k=3) from fun h=>h.elim h2 h3)]
     by_cases h4:k=4∨k=28
     · rw [if_pos h4,if_pos h4];rfl
     · rw [if_neg h4,if_neg h4]
       by_cases h5:k=5
       · rw [if_pos h5,if_pos h5];rfl
       · rw [if_neg h5,if_neg h5]
         by_cases h25:k=25
         · rw [if_pos h25,if_pos h25];rfl
         · rw [if_neg h25,if_neg h25]
           by_cases h26:k=26∨k=27∨k=30∨k=31∨k=32∨k=33∨k=35∨k=36
           · rw [if_pos h26,if_pos h26];rfl
           · rw [if_neg h26,if_neg h26]
             by_cases h34:k=34
             · rw [if_pos h34,if_pos h34];rfl
             · rw [if_neg h34,if_neg h34]
               by_cases h29:k=29
               · rw [if_pos h29,if_pos h29];rfl
               · rw [if_neg h29,if_neg h29]
                 by_cases h37:k=37∨k=38
                 · rw [if_pos h37,if_pos h37];rfl
                 · rw [if_neg h37,if_neg h37];rfl
def Zbl {α : Type} (g:Nat→List α → α) (len:Nat):Nat→List α
 | 0=>[]
 | k+1=>g (len - (k+1)) (Zbl g len k)::Zbl g len k
section
variable {α : Type} {g:Nat→List α → α} {len:Nat}
theorem Zdt:∀k,(Zbl g len k).length=k
 | 0=>rfl
 | k+1=>by simp [Zbl,Zdt k]
theorem Zem:∀(k i:Nat),i≤k→(Zbl g len k).drop i=Zbl g len (k - i)
 | k,0,_=>rfl
 | 0,i+1,h=>by omega
 | k+1,i+1,h=>by
  simp only [Zbl,List.drop_succ_cons];rw [Zem k i (by omega),Nat.add_sub_add_right]
theorem Zg3 {at_:Nat} (h:at_<len):(Zbl g len len)[at_]? = some (g at_ (Zbl g len (len - (at_+1)))):=by
 have h1:=Zem (g:=g) (len:=len) len at_ (by omega);have h2:((Zbl g len len).drop at_)[0]? = (Zbl g len len)[at_]?:=by rw [List.getElem?_drop,Nat.add_zero]
 rw [←h2,h1];obtain ⟨m,hm⟩:∃m,len - at_=m+1:=⟨len - at_ - 1,by omega⟩;rw [hm];have e1:len - (m+1)=at_:=by omega
 have e2:len - (at_+1)=m:=by omega
 simp only [Zbl,List.getElem?_cons_zero,e1,e2]
theorem Zfk {at_ j:Nat} (h:at_<len) (hj:at_<j):(Zbl g len (len - (at_+1)))[j - (at_+1)]? = (Zbl g len len)[j]?:=by
 rw [←Zem len (at_+1) (by omega),List.getElem?_drop];congr 1;omega
end
def Zr (E:Nat→Nat):Nat→Nat→Nat
 | 0,n=>n
 | m+1,n=>Zr E m (E n)
def Zab (l:List Ac) (j:Nat):Int:=(l[j]?.map Ac.k).getD 0
def ZbH (l:List Ac) (E:Nat→Nat) (at_:Nat):Prop:=∃x,l[at_]? = some x∧0≤x.n∧(∀j,j<x.n.toNat→Zr E j (at_+1)<l.length)∧E at_=Zr E x.n.toNat (at_+1)
def ZG (P:Pl) (x:Ac) (h:Int):Option Int :=
 if x.k=9∧h=0∧ghV P.gh x.a=true then some 2
 else if x.k=9∧h=0 then some 1
 else if x.k=11∧h=1 then some 3
 else if x.k=10∧((h=1∧ghV P.gh x.a=false)∨(1<h∧ghV P.gh x.a=true)) then some 0
 else if x.k=12∧1<h then some 0
 else if (9≤x.k∧x.k≤12)∨h≠0 then none else some h
def Zat (P:Pl) (l:List Ac) (E:Nat→Nat):Nat→Nat→Int→Bool
 | 0,_,h=>decide (h=0)
 | m+1,next,h =>
  match l[next]? with
  | none=>false
  | some x =>
   if ZW x.k 2=false then false
   else if (x.k=9∨x.k=10)∧Zp x.a 0 ((P.gh.length:Int) - 1)=false then false
   else match ZG P x h with
    | none=>false
    | some h'=>Zat P l E m (E next) h'
def ZJ (l:List Ac) (E:Nat→Nat) (at_:Nat):List Int→Nat→Bool
 | [],_=>true
 | w::ws,next=>ZW (Zab l next) w&&(!decide (w=6)||decide (ZT (Zab l next)=ZT (Zab l (at_+1))))&&ZJ l E at_ ws (E next)
def Zbs (P:Pl) (l:List Ac) (E:Nat→Nat) (at_:Nat) (x:Ac):Bool :=
 opR P x&&(if x.k=1 then Zat P l E x.n.toNat (at_+1) 0 else decide (x.n=((Zz x.k x.n).length:Int))&&ZJ l E at_ (Zz x.k x.n) (at_+1))
def Z4 (W:Nat→Int) (E:Nat→Nat) (at_:Nat) (x:Ac):Int :=
 if x.k=25∨x.n=0 then 1 else if x.n=1 then W (at_+1) else max (W (at_+1)) (if x.k=37∨x.k=38 then W (E (at_+1)) else W (E (at_+1))+1)
def ZcE (P:Pl) (l:List Ac) (E:Nat→Nat) (W:Nat→Int) (at_:Nat):Prop:=∃x,l[at_]? = some x∧1≤x.k∧x.k≤38∧Zbs P l E at_ x=true∧(ZT x.k≠0→W at_=Z4 W E at_ x∧W at_≤256)
section
variable {P:Pl} {l:List Ac} {E:Nat→Nat} {W:Nat→Int}
theorem ZhZ (hE:∀j,j<l.length→j<E j):∀(m n:Nat),(∀j,j<m→Zr E j n<l.length)→n+m≤Zr E m n
 | 0,n,_=>lr_
 | m+1,n,h=>by
  have h0:=h 0 (by omega);have h1:=hE n h0;have h2:=ZhZ hE m (E n) (fun j hj=>h (j+1) (by omega));simp only [Zr];omega
theorem ZeQ (hT:∀j,j<l.length→ZbH l E j):∀k j,l.length - j≤k→j<l.length→j<E j
 | 0,j,hk,hj=>by omega
 | k+1,j,hk,hj=>by
  obtain ⟨x,hx,h0,h1,h2⟩:=hT j hj
  have hge:∀(m n:Nat),j<n→(∀i,i<m→Zr E i n<l.length)→n+m≤Zr E m n:=by
   intro m
   induction m with
   | zero=>intro n _ _;exact lr_
   | succ m ih =>
    intro n hn h;have h3:=ZeQ hT k n (by have:=h 0 (by omega);simp only [Zr] at this;omega) (h 0 (by omega));have h4:=ih (E n) (by omega) (fun i hi=>h (i+1) (by omega));simp only [Zr];omega
  have:=hge x.n.toNat (j+1) (by omega) h1;omega
def ZaY (E:Nat→Nat) (N:Nat→Int) (at_:Nat) (x:Ac):Int :=
 match Zz x.k x.n with
 | []=>0
 | [_]=>max 0 (N (at_+1))
 | [_,_]=>max (max 0 (N (at_+1))) (if 19≤x.k∧x.k≠37∧x.k≠38 then N (E (at_+1))+1 else N (E (at_+1)))
 | _=>max (max (max 0 (N (at_+1))) (if 19≤x.k∧x.k≠37∧x.k≠38 then N (E (at_+1))+1 else N (E (at_+1)))) (N (E (E (at_+1))))
def ZlQ (P:Pl) (l:List Ac) (E:Nat→Nat) (N:Nat→Int) (f at_:Nat):Prop:=∀what,ZE what (Zab l at_)=true→Zo P l f at_ what=some (E at_,N at_)
theorem ZdC (k n:Int):Zz k n=[]∨(∃a,Zz k n=[a])∨(∃a b,Zz k n=[a,b])∨(k=2∧Zz k n=[4,1,1]):=by
 unfold Zz Zac
 by_cases h:k=2∧n=3
 · rw [if_pos h];exact .inr (.inr (.inr ⟨h.1,rfl⟩))
 · rw [if_neg h]
   (repeat' split) <;> simp
theorem Zbf {k w:Int} (h:ZW k w=true) (hw:w=0∨w=1∨w=2∨w=3∨w=4∨w=5∨w=6):ZE (Zau w) k=true:=by rw [←ZfI k w hw];exact h
theorem ZcH {k n w:Int} (h:w ∈ Zz k n):w=1∨w=3∨w=4∨w=5∨w=6:=by
 unfold Zz Zac at h
 (repeat' split at h) <;> simp at h <;> omega
theorem Zkb {f at_:Nat} {N:Nat→Int} {k n:Int} (hS:∀c,at_<c→c<l.length→ZlQ P l E N f c) (hE:∀j,j<l.length→j<E j) (hin:∀j,j<(Zz k n).length→Zr E j (at_+1)<l.length) (hst:ZJ l E at_ (Zz k n) (at_+1)=true) {x:Ac} (hxk:x.k=k) (hxn:x.n=n) :
 Zw l (Zo P l f) k ((Zz k n).map Zau) 0 (at_+1) 0 0=some (Zr E (Zz k n).length (at_+1),ZaY E N at_ x):=by
 subst hxk hxn;unfold ZaY;rcases ZdC x.k x.n with hw | ⟨a,hw⟩ | ⟨a,b,hw⟩ | ⟨h2,hw⟩
 · rw [hw];rfl
 · have ha:=ZcH (k:=x.k) (n:=x.n) (w:=a) (by rw [hw];simp);rw [hw] at hst hin ⊢;simp only [ZJ,Bool.and_eq_true] at hst;have h1:=hin 0 (by simp);simp only [Zr] at h1;have hm:=Zbf hst.1.1 (by omega);have h3:=hS (at_+1) (by omega) h1 _ hm;simp only [List.map_cons,List.map_nil,Zw];rw [if_neg (by omega),h3];simp [Zr]
 · have ha:=ZcH (k:=x.k) (n:=x.n) (w:=a) (by rw [hw];simp);have hb:=ZcH (k:=x.k) (n:=x.n) (w:=b) (by rw [hw];simp);rw [hw] at hst hin ⊢;simp only [ZJ,Bool.and_eq_true,Bool.or_eq_true,Bool.not_eq_true',decide_eq_true_eq,decide_eq_false_iff_not] at hst;have h1:=hin 0 (by simp);have h2:=hin 1 (by simp);simp only [Zr] at h1 h2;have hm:=Zbf hst.1.1 (by omega);have h3:=hS (at_+1) (by omega) h1 _ hm;have hgt:=hE _ h1
   have h4:Zo P l f (E (at_+1)) (if Zau b=4∧(1:Nat)=1 then Zn (Zab l (at_+1)) else Zau b)=some (E (E (at_+1)),N (E (at_+1))):=by
    refine hS _ (by omega) h2 _ ?_
    by_cases h6:b=6
    · have h7:Zau b=4:=by rw [h6];rfl
      rw [if_pos ⟨h7,rfl⟩]
      have h8:ZT (Zab l (E (at_+1)))=ZT (Zab l (at_+1)):=by
       rcases hst.2.1.2 with h9 | h9
       · exact absurd h6 h9
       · exact h9
      have h9:=hst.2.1.1;rw [h6] at h9;have h10:ZT (Zab l (E (at_+1)))≠0:=by unfold ZW at h9;simpa using h9
      rw [Zbo,Zbo] at h8;have h11:Zn (Zab l (E (at_+1)))=Zn (Zab l (at_+1)):=by omega
      rw [Zbo] at h10
      have h0:Zn (Zab l (E (at_+1))) = -1∨Zn (Zab l (E (at_+1)))=2∨Zn (Zab l (E (at_+1)))=3:=by
       unfold Zn;split
       · simp
       · split <;> simp
      rw [←h11];unfold ZE;rcases h0 with h0 | h0 | h0
      · omega
      · rw [h0];simp [h0]
      · rw [h0];simp [h0]
    · have h7:¬(Zau b=4∧(1:Nat)=1):=by
       rintro ⟨h7,_⟩;rcases hb with rfl | rfl | rfl | rfl | rfl <;> simp [Zau] at h7 h6
      rw [if_neg h7];exact Zbf hst.2.1.1 (by omega)
   simp only [List.map_cons,List.map_nil,Zw];rw [if_neg (by omega),h3];simp only;have hk:(l[at_+1]?.map Ac.k).getD 0=Zab l (at_+1):=rfl;rw [hk];simp only [and_true,true_and] at h4 ⊢;rw [h4];simp [Zr]
 · rw [hw] at hst hin ⊢;simp only [ZJ,Bool.and_eq_true,Bool.or_eq_true,Bool.not_eq_true',decide_eq_true_eq,decide_eq_false_iff_not] at hst;have h1:=hin 0 (by simp);have h2':=hin 1 (by simp);have h3':=hin 2 (by simp);simp only [Zr] at h1 h2' h3';have hg1:=hE _ h1;have hg2:=hE _ h2';have r1:=hS _ (by omega) h1 _ (Zbf hst.1.1 (by omega));have r2:=hS _ (by omega) h2' _ (Zbf hst.2.1.1 (by omega));have r3:=hS _ (by omega) h3' _ (Zbf hst.2.2.1.1 (by omega));simp only [show Zau 4=3 from rfl,show Zau 1=1 from rfl] at r1 r2 r3;simp only [List.map_cons,List.map_nil,Zw,show Zau 4=3 from rfl,show Zau 1=1 from rfl];rw [if_neg (by omega),r1];simp only;rw [if_neg (by omega),r2];simp only;rw [if_neg (by omega),r3];simp [Zr,h2]
end
section
variable {P:Pl} {l:List Ac} {E:Nat→Nat} {W:Nat→Int}
theorem Zef {j:Nat} {x:Ac} (hT:ZbH l E j) (hR:ZcE P l E W j) (hx:l[j]? = some x) (hk:9≤x.k∧x.k≤12):x.n=0∧Zu P x=true∧E j=j+1:=by
 obtain ⟨y,hy,h0,_,h2⟩:=hT;obtain ⟨z,hz,_,_,h4,_⟩:=hR;rw [hx] at hy hz;injection hy with hy;injection hz with hz;subst hy hz;unfold Zbs at h4;rw [ZdT,Bool.and_eq_true,if_neg (by omega),Bool.and_eq_true,decide_eq_true_eq] at h4
 have hw:Zz x.k x.n=[]:=by
  unfold Zz Zac;rw [if_neg (by omega),if_neg (by omega),if_neg (by omega),if_neg (by omega),if_neg (by omega),if_neg (by omega),if_neg (by omega),if_neg (by omega),if_neg (by omega)]
 rw [hw] at h4;have hn:x.n=0:=h4.2.1;refine ⟨hn,h4.1,?_⟩;rw [h2,hn];rfl
theorem ZcT {x:Ac} {h h':Int} (e:ZG P x h=some h'):(x.k=9∧h=0∧((ghV P.gh x.a=true∧h'=2)∨(ghV P.gh x.a=false∧h'=1)))∨(x.k=11∧h=1∧h'=3)∨(x.k=10∧h'=0∧((h=1∧ghV P.gh x.a=false)∨(1<h∧ghV P.gh x.a=true)))∨(x.k=12∧1<h∧h'=0)∨(¬(9≤x.k∧x.k≤12)∧h=0∧h'=0):=by
 unfold ZG at e;split at e
 · next h1=>injection e with e;exact .inl ⟨h1.1,h1.2.1,.inl ⟨h1.2.2,e.symm⟩⟩
 · next h1 =>
   split at e
   · next h2 =>
     injection e with e;refine .inl ⟨h2.1,h2.2,.inr ⟨?_,e.symm⟩⟩
     cases hg:ghV P.gh x.a with
     | false=>rfl
     | true=>exact absurd ⟨h2.1,h2.2,hg⟩ h1
   · split at e
     · next h3=>injection e with e;exact .inr (.inl ⟨h3.1,h3.2,e.symm⟩)
     · split at e
       · next h4=>injection e with e;exact .inr (.inr (.inl ⟨h4.1,e.symm,h4.2⟩))
       · split at e
         · next h5=>injection e with e;exact .inr (.inr (.inr (.inl ⟨h5.1,h5.2,e.symm⟩)))
         · split at e
           · cases e
           · next h6 =>
             injection e with e
             have h7:h=0:=by
              by_cases h8:h=0
              · exact h8
              · exact absurd (.inr h8) h6
             exact .inr (.inr (.inr (.inr ⟨fun h8=>h6 (.inl h8),h7,by rw [←e];exact h7⟩)))
theorem ZdM {m next:Nat} {h:Int} (hb:Zat P l E (m+1) next h=true):∃x h',l[next]? = some x∧ZW x.k 2=true∧ZG P x h=some h'∧Zat P l E m (E next) h'=true:=by
 unfold Zat at hb
 cases hx:l[next]? with
 | none=>rw [hx] at hb;cases hb
 | some x =>
  rw [hx] at hb;simp only at hb;split at hb
  · cases hb
  · next h1 =>
    split at hb
    · cases hb
    · cases hh:ZG P x h with
      | none=>rw [hh] at hb;cases hb
      | some h' =>
       rw [hh] at hb;exact ⟨x,h',rfl,by simpa using h1,hh,hb⟩
theorem Zc9 {f at_:Nat} {N:Nat→Int} (hS:∀c,at_<c→c<l.length→ZlQ P l E N f c) (hT:∀c,c<l.length→ZbH l E c) (hR:∀c,at_<c→c<l.length→ZcE P l E W c) (hE:∀j,j<l.length→j<E j) :
 ∀(k m next:Nat),m≤k→at_<next→(∀j,j<m→Zr E j next<l.length)→Zat P l E m next 0=true→Zs P l (Zo P l f) m next=some (Zr E m next)
 | _,0,next,_,_,_,_=>Zcu
 | 0,m+1,next,h,_,_,_=>by omega
 | k+1,m+1,next,hk,hgt,hin,hb=>by
  have hlt:next<l.length:=hin 0 (by omega);obtain ⟨x,h',hx,hst,hh,hb'⟩:=ZdM hb;rcases ZcT hh with ⟨h9,_,hg⟩ | ⟨_,h0,_⟩ | ⟨_,_,h0⟩ | ⟨_,h0,_⟩ | ⟨hno,_,h0⟩
  ·
   obtain ⟨n1,v1,E1⟩:=Zef (hT next hlt) (hR next hgt hlt) hx (by omega);rw [E1] at hb'
   cases m with
   | zero =>
    simp only [Zat,decide_eq_true_eq] at hb';rcases hg with ⟨_,h2⟩ | ⟨_,h2⟩ <;> omega
   | succ m =>
    have hlt2:next+1<l.length:=by have:=hin 1 (by omega);simp only [Zr,E1] at this;exact this
    obtain ⟨y,h2,hy,hsty,hhy,hb2⟩:=ZdM hb';have hgood:∀(hky:9≤y.k∧y.k≤12),y.n=0∧Zu P y=true∧E (next+1)=next+1+1:=fun hky=>Zef (hT _ hlt2) (hR _ (by omega) hlt2) hy hky
    have fin2:handV P l next=2→h2=0→E (next+1)=next+1+1→Zs P l (Zo P l f) (m+1+1) next=some (Zr E (m+1+1) next):=by
     intro hv h20 E2;rw [E2,h20] at hb2;rw [ZbF (x:=x) (by omega) hx h9 (by omega) (by omega),hv];have:=Zc9 hS hT hR hE k m (next+2) (by omega) (by omega) (fun j hj=>by have:=hin (j+2) (by omega);simp only [Zr,E1,E2] at this;exact this) hb2;rw [show m+1+1 - 2=m from by omega,this];simp only [Zr,E1,E2]
    rcases hg with ⟨g1,e1⟩ | ⟨g1,e1⟩
    · rcases ZcT hhy with ⟨_,a,_⟩ | ⟨_,a,_⟩ | ⟨k10,a,⟨b,_⟩ | ⟨_,b⟩⟩ | ⟨k12,_,a⟩ | ⟨_,a,_⟩
      · omega
      · omega
      · omega
      · obtain ⟨n2,v2,E2⟩:=hgood (by omega);refine fin2 ?_ a E2;unfold handV;simp only [hx,hy,n1,v1,n2,v2,k10,b,g1]
        simp
      · obtain ⟨n2,v2,E2⟩:=hgood (by omega);refine fin2 ?_ a E2;unfold handV;simp only [hx,hy,n1,v1,n2,v2,k12,g1]
        simp
      · omega
    · rcases ZcT hhy with ⟨_,a,_⟩ | ⟨k11,_,a⟩ | ⟨k10,a,⟨_,b⟩ | ⟨b,_⟩⟩ | ⟨k12,a,_⟩ | ⟨_,a,_⟩
      · omega
      · obtain ⟨n2,v2,E2⟩:=hgood (by omega);rw [E2,a] at hb2
        cases m with
        | zero=>simp [Zat] at hb2
        | succ m =>
         have hlt3:next+1+1<l.length:=by have:=hin 2 (by omega);simp only [Zr,E1,E2] at this;exact this
         obtain ⟨z,h3,hz,hstz,hhz,hb3⟩:=ZdM hb2
         have fin3:handV P l next=3→h3=0→E (next+1+1)=next+1+1+1→Zs P l (Zo P l f) (m+1+1+1) next=some (Zr E (m+1+1+1) next):=by
          intro hv h30 E3;rw [E3,h30] at hb3;rw [ZbF (x:=x) (by omega) hx h9 (by omega) (by omega),hv];have:=Zc9 hS hT hR hE k m (next+3) (by omega) (by omega) (fun j hj=>by have:=hin (j+3) (by omega);simp only [Zr,E1,E2,E3] at this;exact this) hb3;rw [show m+1+1+1 - 3=m from by omega,this];simp only [Zr,E1,E2,E3]
         rcases ZcT hhz with ⟨_,c,_⟩ | ⟨_,c,_⟩ | ⟨c10,c,⟨d,_⟩ | ⟨_,d⟩⟩ | ⟨c12,_,c⟩ | ⟨_,c,_⟩
         · omega
         · omega
         · omega
         · obtain ⟨n3,v3,E3⟩:=Zef (hT _ hlt3) (hR _ (by omega) hlt3) hz (by omega);refine fin3 ?_ c E3;have hz2:l[next+2]? = some z:=hz;unfold handV;simp only [hx,hy,hz2,n1,v1,n2,v2,n3,v3,k11,c10,d,g1]
           simp
         · obtain ⟨n3,v3,E3⟩:=Zef (hT _ hlt3) (hR _ (by omega) hlt3) hz (by omega);refine fin3 ?_ c E3;have hz2:l[next+2]? = some z:=hz;unfold handV;simp only [hx,hy,hz2,n1,v1,n2,v2,n3,v3,k11,c12,g1]
           simp
         · omega
      · obtain ⟨n2,v2,E2⟩:=hgood (by omega);refine fin2 ?_ a E2;unfold handV;simp only [hx,hy,n1,v1,n2,v2,k10,b,g1]
        simp
      · omega
      · omega
      · omega
  · omega
  · rcases h0 with ⟨h0,_⟩ | ⟨h0,_⟩ <;> omega
  · omega
  · subst h0
    have hm:ZE 0 (Zab l next)=true:=by
     have:=Zbf hst (by omega);unfold Zab;rw [hx];exact this
    rw [Zct (x:=x) (by omega) hx (by omega) (by omega) (hS next hgt hlt 0 hm),Nat.add_sub_cancel];have hE1:=hE next hlt;rw [Zc9 hS hT hR hE k m (E next) (by omega) (by omega) (fun j hj=>hin (j+1) (by omega)) hb'];rfl
end
section
variable {P:Pl} {l:List Ac} {E:Nat→Nat} {W N:Nat→Int}
theorem Zaz {k:Int} (h:ZT k≠0):19≤k∧k≤38:=by
 unfold ZT at h
 by_cases h1:k=19∨k=21∨k=22∨k=23∨k=25∨k=26∨k=27∨k=28∨k=30∨k=31∨k=32∨k=33
 · omega
 · rw [if_neg h1] at h
   by_cases h2:k=20∨k=24∨k=29∨k=34∨k=35∨k=36∨k=37∨k=38
   · omega
   · rw [if_neg h2] at h;exact absurd rfl h
theorem ZiV {k:Int} (h:19≤k∧k≤38):ZT k≠0:=by
 rw [Zbo];unfold Zn;split
 · simp
 · rw [if_pos (by omega)];simp
def ZlR (P:Pl) (l:List Ac) (E:Nat→Nat) (W N:Nat→Int) (f c:Nat):Prop:=ZlQ P l E N f c∧0≤N c∧N c≤256∧(Zab l c≠1→1≤N c)∧(ZT (Zab l c)≠0→N c=W c)
theorem ZaB {j:Nat} {x:Ac} (h:l[j]? = some x):Zab l j=x.k:=by unfold Zab;rw [h];rfl
theorem Zli (hN:∀c x,l[c]? = some x→N c=if x.k=1 then 0 else max (ZaY E N c x) 1) {c:Nat} {x:Ac} (hx:l[c]? = some x) (hk:x.k=17∨x.k=18):N c=1:=by
 rw [hN c x hx,if_neg (by omega)]
 have hw:Zz x.k x.n=[]:=by
  unfold Zz Zac;rw [if_neg (by omega),if_neg (by omega),if_neg (by omega),if_neg (by omega),if_neg (by omega),if_neg (by omega),if_neg (by omega),if_neg (by omega),if_neg (by omega)]
 unfold ZaY;rw [hw];rfl
theorem Zes {k n:Int} (h:19≤k∧k≤38):(Zz k n=[]∧k≠25)∨(k=25∧Zz k n=[5])∨(k≠25∧∃a,Zz k n=[a]∧(a=3∨a=4))∨(k≠25∧∃a b,Zz k n=[a,b]∧(a=3∨a=4∨a=6)∧(b=3∨b=4∨b=6)):=by
 unfold Zz Zac;rw [if_neg (by omega),if_neg (by omega)]
 by_cases h4:k=4∨k=28
 · rw [if_pos h4];exact .inr (.inr (.inl ⟨by omega,3,rfl,.inl rfl⟩))
 rw [if_neg h4,if_neg (by omega)]
 by_cases h25:k=25
 · rw [if_pos h25];exact .inr (.inl ⟨h25,rfl⟩)
 rw [if_neg h25]
 by_cases h26:k=26∨k=27∨k=30∨k=31∨k=32∨k=33∨k=35∨k=36
 · rw [if_pos h26];exact .inr (.inr (.inr ⟨h25,3,3,rfl,.inl rfl,.inl rfl⟩))
 rw [if_neg h26]
 by_cases h34:k=34
 · rw [if_pos h34];exact .inr (.inr (.inr ⟨h25,6,6,rfl,.inr (.inr rfl),.inr (.inr rfl)⟩))
 rw [if_neg h34]
 by_cases h29:k=29
 · rw [if_pos h29];exact .inr (.inr (.inl ⟨h25,4,rfl,.inr rfl⟩))
 rw [if_neg h29]
 by_cases h37:k=37∨k=38
 · rw [if_pos h37];exact .inr (.inr (.inr ⟨h25,4,4,rfl,.inr (.inl rfl),.inr (.inl rfl)⟩))
 rw [if_neg h37];exact .inl ⟨rfl,h25⟩
theorem Zbp {k w:Int} (h:ZW k w=true) (hw:w=3∨w=4∨w=6):ZT k≠0:=by
 unfold ZW at h;rcases hw with rfl | rfl | rfl <;> simp at h <;> omega
theorem ZiR (hN:∀c x,l[c]? = some x→N c=if x.k=1 then 0 else max (ZaY E N c x) 1) {f c:Nat} {x:Ac} (hI:∀j,c<j→j<l.length→ZlR P l E W N f j) (hE:∀j,j<l.length→j<E j)
 (hin:∀j,j<(Zz x.k x.n).length→Zr E j (c+1)<l.length) (hn:x.n=((Zz x.k x.n).length:Int)) (hst:ZJ l E c (Zz x.k x.n) (c+1)=true) (hk:1≤x.k∧x.k≤38) (hk1:x.k≠1) (hW:ZT x.k≠0→W c=Z4 W E c x∧W c≤256) :
 max (ZaY E N c x) 1≤256∧ZaY E N c x≤256∧(ZT x.k≠0→max (ZaY E N c x) 1=W c):=by
 by_cases ht:ZT x.k=0
 · have hk18:x.k≤18:=by
    by_cases h:19≤x.k
    · exact absurd ht (ZiV ⟨h,hk.2⟩)
    · omega
   have hle:ZaY E N c x≤256:=by
    unfold ZaY;rcases ZdC x.k x.n with hw | ⟨a,hw⟩ | ⟨a,b,hw⟩ | ⟨_,hw⟩
    · rw [hw];simp
    · rw [hw] at hin ⊢;have h1:=hin 0 (by simp);simp only [Zr] at h1;have:=(hI _ (by omega) h1).2.2.1;simp only;omega
    · rw [hw] at hin ⊢;have h1:=hin 0 (by simp);have h2:=hin 1 (by simp);simp only [Zr] at h1 h2;have g1:=hE _ h1;have:=(hI _ (by omega) h1).2.2.1;have:=(hI _ (by omega) h2).2.2.1;simp only;rw [if_neg (by omega)];omega
    · rw [hw] at hin ⊢;have h1:=hin 0 (by simp);have h2:=hin 1 (by simp);have h3:=hin 2 (by simp);simp only [Zr] at h1 h2 h3;have g1:=hE _ h1;have g2:=hE _ h2;have:=(hI _ (by omega) h1).2.2.1;have:=(hI _ (by omega) h2).2.2.1;have:=(hI _ (by omega) h3).2.2.1;simp only;rw [if_neg (by omega)];omega
   exact ⟨by omega,hle,fun h=>absurd ht h⟩
 · obtain ⟨hWe,hWl⟩:=hW ht;have hr:=Zaz ht
   have hkey:max (ZaY E N c x) 1=W c:=by
    rw [hWe];rcases Zes (n:=x.n) hr with ⟨hw,h25⟩ | ⟨h25,hw⟩ | ⟨h25,a,hw,ha⟩ | ⟨h25,a,b,hw,ha,hb⟩
    · rw [hw] at hn;have hnv:ZaY E N c x=0:=by unfold ZaY;rw [hw]
      have hwv:Z4 W E c x=1:=by unfold Z4;exact if_pos (.inr (by simpa using hn))
      rw [hnv,hwv];rfl
    · rw [hw] at hin hst;have h1:=hin 0 (by simp);simp only [Zr] at h1;simp only [ZJ,Bool.and_eq_true] at hst;have h2:=hst.1.1;obtain ⟨y,hy⟩:∃y,l[c+1]? = some y:=⟨_,ge_ h1⟩;rw [ZaB hy] at h2;have h3:y.k=17∨y.k=18:=by unfold ZW at h2;simpa using h2
      have h4:=Zli hN hy h3;have hnv:ZaY E N c x=max 0 (N (c+1)):=by unfold ZaY;rw [hw]
      have hwv:Z4 W E c x=1:=by unfold Z4;exact if_pos (.inl h25)
      rw [hnv,hwv,h4];rfl
    · rw [hw] at hin hst hn;have h1:=hin 0 (by simp);simp only [Zr] at h1;simp only [ZJ,Bool.and_eq_true] at hst;have h2:=Zbp hst.1.1 (by omega);obtain ⟨_,g0,_,g1,g2⟩:=hI _ (by omega) h1;have g3:=g2 h2;have g4:1≤N (c+1):=g1 (fun e=>by have:=Zaz h2;omega);have hn1:x.n=1:=by simpa using hn
      have hnv:ZaY E N c x=max 0 (N (c+1)):=by unfold ZaY;rw [hw]
      have hwv:Z4 W E c x=W (c+1):=by unfold Z4;rw [if_neg (by omega),if_pos hn1]
      rw [hnv,hwv];omega
    · rw [hw] at hin hst hn;have h1:=hin 0 (by simp);have h1b:=hin 1 (by simp);simp only [Zr] at h1 h1b;have gE:=hE _ h1;simp only [ZJ,Bool.and_eq_true] at hst;have h2:=Zbp hst.1.1 (by omega);have h3:=Zbp hst.2.1.1 (by omega);obtain ⟨_,g0,_,g1,g2⟩:=hI _ (by omega) h1;obtain ⟨_,k0,_,k1,k2⟩:=hI _ (by omega) h1b;have g3:=g2 h2;have k3:=k2 h3;have g4:1≤N (c+1):=g1 (fun e=>by have:=Zaz h2;omega);have hn1:x.n=2:=by simpa using hn
      have hnv:ZaY E N c x=max (max 0 (N (c+1))) (if 19≤x.k∧x.k≠37∧x.k≠38 then N (E (c+1))+1 else N (E (c+1))):=by unfold ZaY;rw [hw]
      have hwv:Z4 W E c x=max (W (c+1)) (if x.k=37∨x.k=38 then W (E (c+1)) else W (E (c+1))+1):=by unfold Z4;rw [if_neg (by omega),if_neg (by omega)]
      rw [hnv,hwv]
      by_cases h37:x.k=37∨x.k=38
      · rw [if_pos h37,if_neg (show ¬(19≤x.k∧x.k≠37∧x.k≠38) by omega)];omega
      · rw [if_neg h37,if_pos (show 19≤x.k∧x.k≠37∧x.k≠38 by omega)];omega
   exact ⟨by omega,by omega,fun _=>hkey⟩
theorem ZhO (hT:∀c,c<l.length→ZbH l E c) (hR:∀c,c<l.length→ZcE P l E W c) (hN:∀c x,l[c]? = some x→N c=if x.k=1 then 0 else max (ZaY E N c x) 1) :
 ∀(k c:Nat),c<l.length→l.length - c≤k→ZlR P l E W N k c
 | 0,c,h1,h2=>by omega
 | k+1,c,hc,hk=>by
  have hE:=fun j hj=>ZeQ hT l.length j (by omega) hj
  have hI:∀j,c<j→j<l.length→ZlR P l E W N k j:=fun j h1 h2=>ZhO hT hR hN k j h2 (by omega)
  obtain ⟨x,hx,n0,hch,hEc⟩:=hT c hc;obtain ⟨x',hx',r1,r2,r3,r4⟩:=hR c hc;rw [hx] at hx';injection hx' with hx';subst hx';have hkc:=ZaB hx;unfold Zbs at r3;rw [ZdT,Bool.and_eq_true] at r3;obtain ⟨hv,r3⟩:=r3
  by_cases hk1:x.k=1
  · rw [if_pos hk1] at r3;have hNc:N c=0:=by rw [hN c x hx,if_pos hk1]
    refine ⟨fun what hm=>?_,by omega,by omega,fun h=>absurd (hkc.trans hk1) h,fun h=>?_⟩
    · rw [hkc] at hm;have hb:=Zc9 (fun c' a b=>(hI c' a b).1) hT (fun c' a b=>hR c' b) hE x.n.toNat x.n.toNat (c+1) lr_ (by omega) hch r3;unfold Zo;rw [hx];simp only [hm,hv,Bool.and_self,if_true];rw [if_pos hk1,if_neg (by omega),hb,hNc,hEc];rfl
    · rw [hkc] at h;have:=Zaz h;omega
  · rw [if_neg hk1,Bool.and_eq_true,decide_eq_true_eq] at r3;obtain ⟨hn,hst⟩:=r3;have hnn:x.n.toNat=(Zz x.k x.n).length:=by omega
    rw [hnn] at hch hEc;obtain ⟨w1,w2,w3⟩:=ZiR hN hI hE hch hn hst ⟨r1,r2⟩ hk1 r4;have hNc:N c=max (ZaY E N c x) 1:=by rw [hN c x hx,if_neg hk1]
    have hks:=Zkb (k:=x.k) (n:=x.n) (fun c' a b=>(hI c' a b).1) hE hch hst (x:=x) rfl rfl;refine ⟨fun what hm=>?_,by omega,by omega,fun _=>by omega,fun h=>?_⟩
    · rw [hkc] at hm;unfold Zo;rw [hx];simp only [hm,hv,Bool.and_self,if_true];rw [if_neg hk1,ZgB,List.length_map,if_neg (by simpa using hn),hks];simp only;rw [if_pos w2,hNc,hEc]
    · rw [hkc] at h;rw [hNc];exact w3 h
end
end Go.Proofs.Ytdpokdcendgfeaa
