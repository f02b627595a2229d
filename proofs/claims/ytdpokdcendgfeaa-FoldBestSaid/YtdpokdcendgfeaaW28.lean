/- Several texts in one: From the program's look at an event's rows to the reference's. Nothing here names the program. From the program's look at an event to the reference's, and both ways. Nothing here names the program. The reference's look at events and plans tells what the program's tells. Nothing here names the program. The walks of the reference's smallest looks: to, Type, kids, stands. The walk of the reference's Ends. Conditions: those of each. -/
import Derived.Test.YtdpokdcendgfeaaW27
import Derived.Test.YtdpokdcendgfeaaW2
import Derived.Test.YtdpokdcendgfeaaW3b
set_option linter.unusedSimpArgs false
set_option linter.unusedVariables false
set_option maxHeartbeats 80000000
set_option maxRecDepth 100000
namespace Go.Proofs.Ytdpokdcendgfeaa
open Go.RowKit
section
variable {P:Pl} {l:List Ac} {E:Nat→Nat} {W:Nat→Int}
theorem Zdl {f i:Nat} {what:Int} {r:Nat×Int} (h:Zo P l f i what=some r):∃x,l[i]? = some x∧ZE what x.k=true∧Zu P x=true:=by
 cases f with
 | zero=>simp [Zo] at h
 | succ f =>
  unfold Zo at h
  cases hx:l[i]? with
  | none=>simp [hx] at h
  | some x =>
   simp only [hx] at h;split at h
   · next hg=>simp only [Bool.and_eq_true] at hg;exact ⟨x,rfl,hg.1,hg.2⟩
   · cases h
theorem ZcN {row:Nat→Int→Option (Nat×Int)} {k w:Int} {ws:List Int} {j i:Nat} {kind wants:Int} {r:Nat×Int} (h:Zw l row k (w::ws) j i kind wants=some r) :
 ∃e n,row i (if w=4∧j=1 then Zn kind else w)=some (e,n)∧Zw l row k ws (j+1) e (Zab l i) (max wants (if j=1∧19≤k∧k≠37∧k≠38 then n+1 else n))=some r:=by
 simp only [Zw] at h
 cases hr:row i (if w=4∧j=1 then Zn kind else w) with
 | none=>rw [hr] at h;cases h
 | some en =>
  obtain ⟨e,n⟩:=en;rw [hr] at h;exact ⟨e,n,rfl,h⟩
theorem Zkk {i:Nat} {x:Ac} (hx:l[i]? = some x) (h:handV P l i≠0):x.n=0∧Zu P x=true∧∃y,l[i+1]? = some y∧y.n=0∧Zu P y=true ∧
 (
  (handV P l i=2∧((y.k=10∧ghV P.gh y.a=ghV P.gh x.a)∨(y.k=12∧ghV P.gh x.a=true))) ∨
  (handV P l i=3∧y.k=11∧ghV P.gh x.a=false∧∃z,l[i+2]? = some z∧z.n=0∧Zu P z=true∧(z.k=12∨(z.k=10∧ghV P.gh z.a=true)))):=by
 unfold handV at h ⊢;simp only [hx] at h ⊢
 cases h1:l[i+1]? with
 | none=>simp [h1] at h
 | some y =>
  simp only [h1] at h ⊢;split at h
  · next hg =>
    rw [if_pos hg];simp only [Bool.and_eq_true,decide_eq_true_eq] at hg;obtain ⟨⟨g1,g2⟩,g3,g4⟩:=hg;refine ⟨g1,g2,y,rfl,g3,g4,?_⟩;split at h
    · next h2 =>
      rw [if_pos h2];simp only [Bool.or_eq_true,Bool.and_eq_true,decide_eq_true_eq,beq_iff_eq] at h2;exact .inl ⟨rfl,h2⟩
    · next h2 =>
      rw [if_neg h2];split at h
      · exact absurd rfl h
      · next h3 =>
        rw [if_neg h3]
        have h3a:y.k=11:=by
         by_cases h9:y.k=11
         · exact h9
         · exact absurd (.inl h9) h3
        have h3b:ghV P.gh x.a=false:=by
         cases h9:ghV P.gh x.a with
         | false=>rfl
         | true=>exact absurd (.inr h9) h3
        cases h4:l[i+2]? with
        | none=>simp [h4] at h
        | some z =>
         simp only [h4] at h ⊢;split at h
         · next h5 =>
           rw [if_pos h5];simp only [Bool.or_eq_true,Bool.and_eq_true,decide_eq_true_eq] at h5;exact .inr ⟨rfl,h3a,h3b,z,rfl,h5.1.1,h5.1.2,h5.2⟩
         · exact absurd rfl h
  · exact absurd rfl h
theorem Zea {x:Ac} (h:Zu P x=true) (hk:x.k=9∨x.k=10):Zp x.a 0 ((P.gh.length:Int) - 1)=true:=by
 rw [←ZdT] at h;unfold opR at h;rw [if_neg (by omega),if_neg (by omega),if_neg (by omega),if_pos (by omega)] at h;simp only [Bool.and_eq_true] at h;exact h.1.1
def ZnN (P:Pl) (l:List Ac) (E:Nat→Nat) (c:Nat):Prop:=ZbH l E c∧∃x,l[c]? = some x∧1≤x.k∧x.k≤38∧Zbs P l E c x=true
theorem ZmK (hE1:∀j x,l[j]? = some x→x.n=0→E j=j+1) {j:Nat} {x:Ac} (hx:l[j]? = some x) (hn:x.n=0) (hv:Zu P x=true) (hk:9≤x.k∧x.k≤12):ZnN P l E j:=by
 refine ⟨⟨x,hx,by omega,fun j hj=>by rw [hn] at hj;simp at hj,by rw [hE1 j x hx hn,hn];rfl⟩,x,hx,by omega,by omega,?_⟩
 have hw:Zz x.k x.n=[]:=by
  unfold Zz Zac;rw [if_neg (by omega),if_neg (by omega),if_neg (by omega),if_neg (by omega),if_neg (by omega),if_neg (by omega),if_neg (by omega),if_neg (by omega),if_neg (by omega)]
 unfold Zbs;rw [ZdT,hv,if_neg (by omega),hw,hn];rfl
theorem Zaf {m next:Nat} {h h':Int} {x:Ac} (hx:l[next]? = some x) (hs:1≤x.k∧x.k≤16) (hq:x.k=9∨x.k=10→Zp x.a 0 ((P.gh.length:Int) - 1)=true) (hh:ZG P x h=some h'):Zat P l E (m+1) next h=Zat P l E m (E next) h':=by
 unfold Zat;rw [hx];simp only;have h1:ZW x.k 2=true:=by unfold ZW;simp [hs.1,hs.2]
 rw [h1,if_neg (by simp),if_neg (by rintro ⟨a,b⟩;rw [hq a] at b;cases b),hh]
 cases m <;> rfl
theorem ZeO {f:Nat} {Q:Nat→Prop} (hrow:∀i e n,Zo P l f i 0=some (e,n)→E i=e∧i<e∧e≤l.length∧∀j,i≤j→j<e→Q j) (hq:∀j x,l[j]? = some x→x.n=0→Zu P x=true→9≤x.k∧x.k≤12→Q j) (hE1:∀j x,l[j]? = some x→x.n=0→E j=j+1) :
 ∀(k m next e:Nat),m≤k→next≤l.length→Zs P l (Zo P l f) m next=some e→Zat P l E m next 0=true∧(∀j,j<m→Zr E j next<l.length)∧Zr E m next=e∧next≤e∧e≤l.length∧∀j,next≤j→j<e→Q j
 | _,0,next,e,_,hn,h=>by
  rw [Zcu] at h;injection h with h;subst h;exact ⟨by simp [Zat],fun j hj=>by omega,rfl,lr_,hn,fun j a b=>by omega⟩
 | 0,m+1,next,e,h,_,_=>by omega
 | k+1,m+1,next,e,hk,hn,h=>by
  cases hx:l[next]? with
  | none=>rw [ZeH (by omega) hx] at h;cases h
  | some x =>
   have hlt:=(gs_ hx).1
   by_cases h9:x.k=9
   · by_cases hh:handV P l next=0∨m+1<handV P l next
     · rw [Zds (by omega) hx h9 hh] at h;cases h
     · have hh0:handV P l next≠0:=fun e=>hh (.inl e)
       have hhm:handV P l next≤m+1:=by
        by_cases h8:handV P l next≤m+1
        · exact h8
        · exact absurd (.inr (by omega)) hh
       rw [ZbF (by omega) hx h9 hh0 hhm] at h;obtain ⟨n1,v1,y,hy,n2,v2,hcase⟩:=Zkk hx hh0;have E1:=hE1 next x hx n1;have E2:=hE1 (next+1) y hy n2;have hly:=(gs_ hy).1;have R1:=hq next x hx n1 v1 (by omega);have hx2:=ZG P x 0;rcases hcase with ⟨hv,hc⟩ | ⟨hv,k11,g1,z,hz,n3,v3,hc⟩
       · rw [hv] at h hhm;obtain ⟨m',rfl⟩:∃m',m=m'+1:=⟨m - 1,by omega⟩;have R2:Q (next+1):=hq (next+1) y hy n2 v2 (by rcases hc with hc | hc <;> omega);obtain ⟨b1,b2,b3,b4,b5,b6⟩:=ZeO hrow hq hE1 k (m'+1+1 - 2) (next+2) e (by omega) (by omega) h;rw [show m'+1+1 - 2=m' from by omega] at b1 b2 b3
         have hb:Zat P l E (m'+1+1) next 0=true:=by
          cases hg:ghV P.gh x.a with
          | true =>
           rw [Zaf (h':=2) hx (by omega) (fun _=>Zea v1 (by omega)) (by unfold ZG;rw [if_pos ⟨h9,rfl,hg⟩]),E1];rw [Zaf (h':=0) hy (by rcases hc with hc | hc <;> omega) (fun h8=>Zea v2 h8) ?_,E2]
           · exact b1
           · unfold ZG;rcases hc with ⟨c1,c2⟩ | ⟨c1,_⟩
             · rw [if_neg (by omega),if_neg (by omega),if_neg (by omega),if_pos ⟨c1,.inr ⟨by decide,by rw [c2];exact hg⟩⟩]
             · rw [if_neg (by omega),if_neg (by omega),if_neg (by omega),if_neg (by omega),if_pos ⟨c1,by decide⟩]
          | false =>
           rw [Zaf (h':=1) hx (by omega) (fun _=>Zea v1 (by omega)) (by unfold ZG;rw [if_neg (by rw [hg];simp),if_pos ⟨h9,rfl⟩]),E1];rw [Zaf (h':=0) hy (by rcases hc with hc | hc <;> omega) (fun h8=>Zea v2 h8) ?_,E2]
           · exact b1
           · unfold ZG;rcases hc with ⟨c1,c2⟩ | ⟨_,c2⟩
             · rw [if_neg (by omega),if_neg (by omega),if_neg (by omega),if_pos ⟨c1,.inl ⟨rfl,by rw [c2];exact hg⟩⟩]
             · rw [hg] at c2;cases c2
         refine ⟨hb,fun j hj=>?_,by simp only [Zr,E1,E2];exact b3,by omega,b5,fun j a b=>?_⟩
         · match j with
           | 0=>exact hlt
           | 1=>simp only [Zr,E1];exact hly
           | j+2=>simp only [Zr,E1,E2];exact b2 j (by omega)
         · by_cases hj:j=next
           · rw [hj];exact R1
           · by_cases hj2:j=next+1
             · rw [hj2];exact R2
             · exact b6 j (by omega) b
       · rw [hv] at h hhm;obtain ⟨m',rfl⟩:∃m',m=m'+2:=⟨m - 2,by omega⟩;have E3:=hE1 (next+2) z hz n3;have hlz:=(gs_ hz).1;have R2:Q (next+1):=hq (next+1) y hy n2 v2 (by omega);have R3:Q (next+2):=hq (next+2) z hz n3 v3 (by rcases hc with hc | hc <;> omega);obtain ⟨b1,b2,b3,b4,b5,b6⟩:=ZeO hrow hq hE1 k (m'+2+1 - 3) (next+3) e (by omega) (by omega) h;rw [show m'+2+1 - 3=m' from by omega] at b1 b2 b3
         have hb:Zat P l E (m'+2+1) next 0=true:=by
          rw [Zaf (h':=1) hx (by omega) (fun _=>Zea v1 (by omega)) (by unfold ZG;rw [if_neg (by rw [g1];simp),if_pos ⟨h9,rfl⟩]),E1];rw [Zaf (h':=3) hy (by omega) (fun h8=>Zea v2 h8) (by unfold ZG;rw [if_neg (by omega),if_neg (by omega),if_pos ⟨k11,rfl⟩]),E2];rw [Zaf (h':=0) hz (by rcases hc with hc | hc <;> omega) (fun h8=>Zea v3 h8) ?_,E3]
          · exact b1
          · unfold ZG;rcases hc with c1 | ⟨c1,c2⟩
            · rw [if_neg (by omega),if_neg (by omega),if_neg (by omega),if_neg (by omega),if_pos ⟨c1,by decide⟩]
            · rw [if_neg (by omega),if_neg (by omega),if_neg (by omega),if_pos ⟨c1,.inr ⟨by decide,c2⟩⟩]
         refine ⟨hb,fun j hj=>?_,by simp only [Zr,E1,E2,E3];exact b3,by omega,b5,fun j a b=>?_⟩
         · match j with
           | 0=>exact hlt
           | 1=>simp only [Zr,E1];exact hly
           | 2=>simp only [Zr,E1,E2];exact hlz
           | j+3=>simp only [Zr,E1,E2,E3];exact b2 j (by omega)
         · by_cases hj:j=next
           · rw [hj];exact R1
           · by_cases hj2:j=next+1
             · rw [hj2];exact R2
             · by_cases hj3:j=next+2
               · rw [hj3];exact R3
               · exact b6 j (by omega) b
   · by_cases hk2:x.k=10∨x.k=11∨x.k=12
     · rw [ZeI (by omega) hx hk2] at h;cases h
     · cases hr:Zo P l f next 0 with
       | none=>rw [ZdL (by omega) hx h9 hk2 hr] at h;cases h
       | some en =>
        obtain ⟨e1,n1⟩:=en;rw [Zct (by omega) hx h9 hk2 hr,Nat.add_sub_cancel] at h;obtain ⟨a1,a2,a3,a4⟩:=hrow _ _ _ hr;obtain ⟨b1,b2,b3,b4,b5,b6⟩:=ZeO hrow hq hE1 k m e1 e (by omega) a3 h;obtain ⟨x',hx',hm,_⟩:=Zdl hr;rw [hx] at hx';injection hx' with hx';subst hx';have hkk:1≤x.k∧x.k≤16:=by unfold ZE at hm;simpa using hm
        refine ⟨?_,fun j hj=>?_,by simp only [Zr,a1];exact b3,by omega,b5,fun j a b=>?_⟩
        · rw [Zaf (h':=0) hx hkk (fun h8=>by omega) (by unfold ZG;rw [if_neg (by omega),if_neg (by omega),if_neg (by omega),if_neg (by omega),if_neg (by omega),if_neg (by omega)]),a1];exact b1
        · match j with
          | 0=>exact hlt
          | j+1=>simp only [Zr,a1];exact b2 j (by omega)
        · by_cases hj:j<e1
          · exact a4 j a hj
          · exact b6 j (by omega) b
end
section
variable {P:Pl} {l:List Ac} {E:Nat→Nat} {W:Nat→Int}
theorem Zj3 {what k:Int} (h:ZE what k=true) (h0:0≤what):1≤k∧k≤38:=by
 unfold ZE at h;have ht:0≤Zn k→19≤k∧k≤38:=fun h1=>Zaz (by rw [Zbo];omega)
 split at h
 · simp at h;omega
 · split at h
   · simp at h;omega
   · split at h
     · simp at h;omega
     · split at h
       · have:=ht (by simpa using h);omega
       · have h2:Zn k=what:=by simpa using h
         have:=ht (by omega);omega
theorem Zjg {k w:Int} (h:ZE (Zau w) k=true) (hw:w=0∨w=1∨w=2∨w=3∨w=4∨w=5∨w=6):ZW k w=true:=by rw [ZfI k w hw];exact h
theorem Zhd (w:Int):0≤Zau w:=by unfold Zau;(repeat' split) <;> omega
theorem ZgA {k n:Int} (h:6≤k∧k≤18):Zz k n=[]:=by
 unfold Zz Zac;rw [if_neg (by omega),if_neg (by omega),if_neg (by omega),if_neg (by omega),if_neg (by omega),if_neg (by omega),if_neg (by omega),if_neg (by omega),if_neg (by omega)]
def Zf5 (l:List Ac) (W:Nat→Int) (i:Nat) (n:Int):Prop:=0≤n∧n≤256∧(Zab l i≠1→1≤n)∧(Zab l i=17∨Zab l i=18→n=1)∧(ZT (Zab l i)≠0→n=W i)
def Zeo (P:Pl) (l:List Ac) (E:Nat→Nat) (W:Nat→Int) (j:Nat):Prop:=ZbH l E j∧ZcE P l E W j
theorem Zki (hE1:∀j x,l[j]? = some x→x.n=0→E j=j+1) {j:Nat} {x:Ac} (hx:l[j]? = some x) (hn:x.n=0) (hv:Zu P x=true) (hk:9≤x.k∧x.k≤12):Zeo P l E W j:=by
 obtain ⟨h1,y,hy,h2,h3,h4⟩:=ZmK hE1 hx hn hv hk;refine ⟨h1,y,hy,h2,h3,h4,fun ht=>?_⟩;rw [hx] at hy;injection hy with hy;subst hy;have:=Zaz ht;omega
def Zgu (P:Pl) (l:List Ac) (E:Nat→Nat) (W:Nat→Int) (f:Nat):Prop:=∀i what e n,0≤what→Zo P l f i what=some (e,n)→(E i=e∧i<e∧e≤l.length)∧Zf5 l W i n∧∀j,i≤j→j<e→Zeo P l E W j
def Zcv (P:Pl) (l:List Ac) (E:Nat→Nat) (W:Nat→Int) (i:Nat) (x:Ac) (e9:Nat) (w9:Int):Prop :=
 ZJ l E i (Zz x.k x.n) (i+1)=true∧(∀j,j<(Zz x.k x.n).length→Zr E j (i+1)<l.length)∧Zr E (Zz x.k x.n).length (i+1)=e9∧(∀j,i+1≤j→j<e9→Zeo P l E W j)∧0≤w9∧(x.k=17∨x.k=18→max w9 1=1)∧(ZT x.k≠0→max w9 1=Z4 W E i x∧(2≤x.n→i<E (i+1)))
theorem Zdd {f:Nat} (hK:Zgu P l E W f) {i e:Nat} {a n:Int} (ha:a=1∨a=3∨a=4∨a=5∨a=6) (hr:Zo P l f i (Zau a)=some (e,n)) :
 E i=e∧i<e∧e≤l.length∧ZW (Zab l i) a=true∧Zf5 l W i n∧∀j,i≤j→j<e→Zeo P l E W j:=by
 obtain ⟨⟨g0,g1,g2⟩,t,t5⟩:=hK _ _ _ _ (Zhd a) hr;obtain ⟨y,hy,hmy,_⟩:=Zdl hr;exact ⟨g0,g1,g2,by rw [ZaB hy];exact Zjg hmy (by omega),t,t5⟩
theorem ZkP {k n a b:Int} (h:Zz k n=[a,b]) (hb:b=6):a=6∧k=34:=by
 subst hb;unfold Zz at h;split at h
 · cases h
 · unfold Zac at h;split at h
   · cases h
   split at h
   · cases h
   split at h
   · cases h
   split at h
   · cases h
   split at h
   · cases h
   split at h
   · next h34=>injection h with h;exact ⟨h.symm,h34⟩
   split at h
   · cases h
   split at h
   · cases h
   · cases h
theorem ZkO {b:Int} (hb:b=1∨b=3∨b=4∨b=5∨b=6) (h:Zau b=4):b=6:=by
 rcases hb with rfl | rfl | rfl | rfl | rfl <;> first | rfl | exact absurd h (by decide)
theorem ZiU (k:Int):Zn k = -1∨Zn k=2∨Zn k=3:=by
 unfold Zn;split
 · simp
 · split <;> simp
theorem Zlh {f:Nat} (hK:Zgu P l E W f) {k m:Int} {i e:Nat} {a b n kind:Int} (hw:Zz k m=[a,b]) (hb:b=1∨b=3∨b=4∨b=5∨b=6) (hst:ZW kind a=true) (hr:Zo P l f i (if Zau b=4∧0+1=1 then Zn kind else Zau b)=some (e,n)) :
 E i=e∧i<e∧e≤l.length∧ZW (Zab l i) b=true∧(b=6→ZT (Zab l i)=ZT kind)∧Zf5 l W i n∧∀j,i≤j→j<e→Zeo P l E W j:=by
 by_cases hb6:b=6
 · obtain ⟨ha,_⟩:=ZkP hw hb6;subst hb6 ha;rw [if_pos ⟨rfl,rfl⟩] at hr;have h10:=Zbp hst (by omega);rw [Zbo] at h10;have h0:=ZiU kind;obtain ⟨⟨g0,g1,g2⟩,t,t5⟩:=hK _ _ _ _ (by omega) hr;obtain ⟨y,hy,hmy,_⟩:=Zdl hr
   have h11:Zn y.k=Zn kind:=by
    unfold ZE at hmy;rcases h0 with h0 | h0 | h0
    · omega
    · rw [h0] at hmy;rw [h0];simpa using hmy
    · rw [h0] at hmy;rw [h0];simpa using hmy
   refine ⟨g0,g1,g2,?_,fun _=>by rw [ZaB hy,Zbo,Zbo,h11],t,t5⟩;rw [ZaB hy];unfold ZW;rw [if_neg (by omega),if_neg (by omega),if_neg (by omega),if_pos rfl,Zbo,h11];exact decide_eq_true h10
 · rw [if_neg (fun h=>hb6 (ZkO hb h.1))] at hr;obtain ⟨g0,g1,g2,g3,g4⟩:=Zdd hK hb hr;exact ⟨g0,g1,g2,g3,fun h=>absurd h hb6,g4⟩
theorem Zl6 {f:Nat} (hK:Zgu P l E W f) {i:Nat} {x:Ac} {a w9:Int} {e9:Nat} (hw:Zz x.k x.n=[a]) (hn:x.n=((Zz x.k x.n).length:Int))
 (hb:Zw l (Zo P l f) x.k ((Zz x.k x.n).map Zau) 0 (i+1) 0 0=some (e9,w9)):Zcv P l E W i x e9 w9:=by
 have ha:=ZcH (k:=x.k) (n:=x.n) (w:=a) (by rw [hw];simp);unfold Zcv;rw [hw] at hb hn ⊢;rw [List.map_cons,List.map_nil] at hb;obtain ⟨e1,n1,hr1,hb⟩:=ZcN hb;rw [if_neg (by omega)] at hr1;rw [if_neg (show ¬((0:Nat)=1∧19≤x.k∧x.k≠37∧x.k≠38) by omega)] at hb;simp only [Zw,Option.some.injEq,Prod.mk.injEq] at hb;obtain ⟨rfl,rfl⟩:=hb;obtain ⟨g0,g1,g2,hst,⟨t0,t1,t2,t3,t4⟩,t5⟩:=Zdd hK ha hr1;have hn1:x.n=1:=by simpa using hn
 refine ⟨?_,?_,g0,t5,by omega,fun h9=>?_,fun h9=>⟨?_,fun h8=>by omega⟩⟩
 · simp only [ZJ,hst,Bool.true_and,Bool.and_true,Bool.or_eq_true,Bool.not_eq_true',decide_eq_true_eq,decide_eq_false_iff_not];exact .inr trivial
 · intro j hj;have:j=0:=by simp only [List.length_cons,List.length_nil] at hj;omega
   subst this;show i+1<l.length;omega
 · rw [ZgA (by omega)] at hw;cases hw
 · rcases Zes (n:=x.n) (Zaz h9) with ⟨hw2,_⟩ | ⟨h25,hw2⟩ | ⟨h25,a',hw2,ha'⟩ | ⟨_,_,_,hw2,_⟩
   · rw [hw] at hw2;cases hw2
   · rw [hw] at hw2;injection hw2 with hw2;subst hw2;have h17:Zab l (i+1)=17∨Zab l (i+1)=18:=by unfold ZW at hst;simpa using hst
     have hn9:=t3 h17;unfold Z4;rw [if_pos (.inl h25),hn9];rfl
   · rw [hw] at hw2;injection hw2 with hw2;subst hw2;have hty:=Zbp hst (by omega);have hn9:=t4 hty;have h1n:=t2 (by have:=Zaz hty;omega);unfold Z4;rw [if_neg (by omega),if_pos hn1];omega
   · rw [hw] at hw2;cases hw2
theorem Zl5 {f:Nat} (hK:Zgu P l E W f) {i:Nat} {x:Ac} {a b w9:Int} {e9:Nat} (hw:Zz x.k x.n=[a,b]) (hn:x.n=((Zz x.k x.n).length:Int))
 (hb:Zw l (Zo P l f) x.k ((Zz x.k x.n).map Zau) 0 (i+1) 0 0=some (e9,w9)):Zcv P l E W i x e9 w9:=by
 have ha:=ZcH (k:=x.k) (n:=x.n) (w:=a) (by rw [hw];simp);have hb9:=ZcH (k:=x.k) (n:=x.n) (w:=b) (by rw [hw];simp);have hw0:=hw;unfold Zcv;rw [hw] at hb hn ⊢;rw [List.map_cons,List.map_cons,List.map_nil] at hb;obtain ⟨e1,n1,hr1,hb⟩:=ZcN hb;rw [if_neg (by omega)] at hr1;rw [if_neg (show ¬((0:Nat)=1∧19≤x.k∧x.k≠37∧x.k≠38) by omega)] at hb;obtain ⟨e2,n2,hr2,hb⟩:=ZcN hb;simp only [Zw,Option.some.injEq,Prod.mk.injEq] at hb;obtain ⟨rfl,rfl⟩:=hb;obtain ⟨g0,g1,g2,hst,⟨t0,t1,t2,t3,t4⟩,t5⟩:=Zdd hK ha hr1;obtain ⟨q0,q1,q2,hst2,hty2,⟨u0,u1,u2,u3,u4⟩,u5⟩:=Zlh hK hw0 hb9 hst hr2;subst g0;have hn2:x.n=2:=by simpa using hn
 refine ⟨?_,?_,q0,fun j c1 c2=>?_,by split <;> omega,fun h9=>?_,fun h9=>⟨?_,fun _=>by omega⟩⟩
 · simp only [ZJ,hst,hst2,Bool.true_and,Bool.and_true,Bool.and_eq_true,Bool.or_eq_true,Bool.not_eq_true',decide_eq_true_eq,decide_eq_false_iff_not];refine ⟨.inr trivial,?_⟩
   by_cases h6:b=6
   · exact .inr (hty2 h6)
   · exact .inl h6
 · intro j hj;simp only [List.length_cons,List.length_nil] at hj
   match j,hj with
   | 0,_=>show i+1<l.length;omega
   | 1,_=>show E (i+1)<l.length;omega
 · by_cases hj:j<E (i+1)
   · exact t5 j c1 hj
   · exact u5 j (by omega) c2
 · rw [ZgA (by omega)] at hw;cases hw
 · rcases Zes (n:=x.n) (Zaz h9) with ⟨hw2,_⟩ | ⟨h25,hw2⟩ | ⟨h25,a',hw2,ha'⟩ | ⟨h25,a',b',hw2,ha',hb'⟩
   · rw [hw] at hw2;cases hw2
   · rw [hw] at hw2;cases hw2
   · rw [hw] at hw2;cases hw2
   · rw [hw] at hw2;injection hw2 with hw2 hw3;injection hw3 with hw3;subst hw2 hw3;have hr9:=Zaz h9;have hty:=Zbp hst (by omega);have htz:=Zbp hst2 (by omega);have hn9:=t4 hty;have h1n:=t2 (by have:=Zaz hty;omega);have hm9:=u4 htz;have hwv:Z4 W E i x=max (W (i+1)) (if x.k=37∨x.k=38 then W (E (i+1)) else W (E (i+1))+1):=by unfold Z4;rw [if_neg (by omega),if_neg (by omega)]
     rw [hwv]
     by_cases h37:x.k=37∨x.k=38
     · rw [if_pos h37,if_neg (show ¬(True∧19≤x.k∧x.k≠37∧x.k≠38) from fun h=>by omega)];omega
     · rw [if_neg h37,if_pos (show True∧19≤x.k∧x.k≠37∧x.k≠38 from ⟨trivial,by omega⟩)];omega
theorem Zl4 {f:Nat} (hK:Zgu P l E W f) {i:Nat} {x:Ac} {w9:Int} {e9:Nat} (hk:x.k=2) (hw:Zz x.k x.n=[4,1,1])
 (hb:Zw l (Zo P l f) x.k ((Zz x.k x.n).map Zau) 0 (i+1) 0 0=some (e9,w9)):Zcv P l E W i x e9 w9:=by
 have ht:ZT x.k=0:=by rw [hk];rfl
 unfold Zcv;rw [hw] at hb ⊢;rw [List.map_cons,List.map_cons,List.map_cons,List.map_nil] at hb;obtain ⟨e1,n1,hr1,hb⟩:=ZcN hb;rw [if_neg (by omega)] at hr1;obtain ⟨e2,n2,hr2,hb⟩:=ZcN hb;rw [if_neg (by decide)] at hr2;obtain ⟨e3,n3,hr3,hb⟩:=ZcN hb;rw [if_neg (by omega)] at hr3;rw [if_neg (by omega),if_neg (by omega),if_neg (by omega)] at hb;simp only [Zw,Option.some.injEq,Prod.mk.injEq] at hb;obtain ⟨rfl,rfl⟩:=hb;obtain ⟨g0,g1,g2,hst,⟨t0,_⟩,t5⟩:=Zdd hK (by omega) hr1;obtain ⟨q0,q1,q2,hst2,⟨u0,_⟩,u5⟩:=Zdd hK (by omega) hr2;obtain ⟨p0,p1,p2,hst3,⟨v0,_⟩,v5⟩:=Zdd hK (by omega) hr3;subst g0;subst q0;refine ⟨?_,?_,p0,fun j c1 c2=>?_,by omega,fun h9=>by omega,fun h9=>absurd ht h9⟩
 · simp only [ZJ,hst,hst2,hst3];rfl
 · intro j hj;simp only [List.length_cons,List.length_nil] at hj
   match j,hj with
   | 0,_=>show i+1<l.length;omega
   | 1,_=>show E (i+1)<l.length;omega
   | 2,_=>show E (E (i+1))<l.length;omega
 · by_cases hj:j<E (i+1)
   · exact t5 j c1 hj
   · by_cases hj2:j<E (E (i+1))
     · exact u5 j (by omega) hj2
     · exact v5 j (by omega) c2
theorem ZmW {f:Nat} (hK:Zgu P l E W f) {i:Nat} {x:Ac} {w9:Int} {e9:Nat} (hn:x.n=((Zz x.k x.n).length:Int))
 (hb:Zw l (Zo P l f) x.k ((Zz x.k x.n).map Zau) 0 (i+1) 0 0=some (e9,w9)):Zcv P l E W i x e9 w9:=by
 rcases ZdC x.k x.n with hw | ⟨a,hw⟩ | ⟨a,b,hw⟩ | ⟨hk2,hw⟩
 · unfold Zcv;rw [hw] at hb hn ⊢;simp only [List.map_nil,Zw,Option.some.injEq,Prod.mk.injEq] at hb;obtain ⟨rfl,rfl⟩:=hb;have hn0:x.n=0:=by simpa using hn
   refine ⟨rfl,fun j hj=>by simp at hj,rfl,fun j a b=>by omega,by omega,fun _=>rfl,fun _=>⟨?_,fun h9=>by omega⟩⟩;unfold Z4;rw [if_pos (.inr hn0)];rfl
 · exact Zl6 hK hw hn hb
 · exact Zl5 hK hw hn hb
 · exact Zl4 hK hk2 hw hb
theorem ZlT (hE1:∀j x,l[j]? = some x→x.n=0→E j=j+1) (hEE:∀f i what e n,Zo P l f i what=some (e,n)→E i=e∧i<e∧e≤l.length)
 (hW:∀c x,l[c]? = some x→ZT x.k≠0→(2≤x.n→c<E (c+1))→W c=Z4 W E c x) :
 ∀(f i:Nat) (what:Int) (e:Nat) (n:Int),0≤what→Zo P l f i what=some (e,n)→Zf5 l W i n∧∀j,i≤j→j<e→Zeo P l E W j
 | 0,i,what,e,n,_,h=>by simp [Zo] at h
 | f+1,i,what,e,n,h0,h=>by
  have ih:=ZlT hE1 hEE hW f;obtain ⟨e0,e1,e2⟩:=hEE _ _ _ _ _ h;obtain ⟨x,hx,hm,hv⟩:=Zdl h;have hkr:=Zj3 hm h0;have hkc:=ZaB hx;unfold Zo at h;rw [hx] at h;simp only [hm,hv,Bool.and_self,if_true] at h
  by_cases hk1:x.k=1
  · rw [if_pos hk1] at h;have ht:ZT x.k=0:=by rw [hk1];rfl
    split at h
    · cases h
    · next hn =>
      cases hb:Zs P l (Zo P l f) x.n.toNat (i+1) with
      | none=>rw [hb] at h;cases h
      | some e9 =>
       rw [hb] at h;simp only [Option.map_some,Option.some.injEq,Prod.mk.injEq] at h;obtain ⟨rfl,rfl⟩:=h
       obtain ⟨b1,b2,b3,b4,b5,b6⟩:=ZeO (Q:=Zeo P l E W) (fun i e n hr=>by
        obtain ⟨c0,c1,c2⟩:=hEE _ _ _ _ _ hr
        exact ⟨c0,c1,c2,(ih _ _ _ _ (Int.le_refl 0) hr).2⟩) (fun j x a b c d=>Zki hE1 a b c d) hE1 x.n.toNat x.n.toNat (i+1) e9 lr_ (by omega) hb
       refine ⟨⟨Int.le_refl _,by decide,fun h9=>absurd (hkc.trans hk1) h9,fun h9=>by rw [hkc] at h9;omega,fun h9=>by rw [hkc] at h9;exact absurd ht h9⟩,fun j hj1 hj2=>?_⟩
       by_cases hj:j=i
       · subst hj;refine ⟨⟨x,hx,by omega,b2,by rw [e0,b3]⟩,x,hx,hkr.1,hkr.2,?_,fun h9=>absurd ht h9⟩;unfold Zbs;rw [ZdT,hv,if_pos hk1,b1];rfl
       · exact b6 j (by omega) hj2
  · rw [if_neg hk1,ZgB,List.length_map] at h;split at h
    · cases h
    · next hn =>
      have hn:x.n=((Zz x.k x.n).length:Int):=by simpa using hn
      have hnn:x.n.toNat=(Zz x.k x.n).length:=by omega
      cases hb:Zw l (Zo P l f) x.k ((Zz x.k x.n).map Zau) 0 (i+1) 0 0 with
      | none=>rw [hb] at h;cases h
      | some en =>
       obtain ⟨e9,w9⟩:=en;rw [hb] at h;simp only at h;split at h
       · next hw256 =>
         simp only [Option.some.injEq,Prod.mk.injEq] at h;obtain ⟨rfl,rfl⟩:=h
         have fin:ZJ l E i (Zz x.k x.n) (i+1)=true→(∀j,j<(Zz x.k x.n).length→Zr E j (i+1)<l.length)→Zr E (Zz x.k x.n).length (i+1)=e9→(∀j,i+1≤j→j<e9→Zeo P l E W j)→0≤w9→(x.k=17∨x.k=18→max w9 1=1)→(ZT x.k≠0→max w9 1=Z4 W E i x∧(2≤x.n→i<E (i+1))) →
          Zf5 l W i (max w9 1)∧∀j,i≤j→j<e9→Zeo P l E W j:=by
          intro f1 f2 f3 f4 f5 f6 f7;refine ⟨⟨by omega,by omega,fun _=>by omega,fun h9=>by rw [hkc] at h9;exact f6 h9,fun h9=>?_⟩,fun j hj1 hj2=>?_⟩
          · rw [hkc] at h9;rw [hW i x hx h9 (f7 h9).2];exact (f7 h9).1
          · by_cases hj:j=i
            · subst hj;refine ⟨⟨x,hx,by omega,by rw [hnn];exact f2,by rw [hnn,e0,f3]⟩,x,hx,hkr.1,hkr.2,?_,fun h9=>?_⟩
              · unfold Zbs;rw [ZdT,hv,if_neg hk1,f1];simp [←hn]
              · have h8:=hW j x hx h9 (f7 h9).2;exact ⟨h8,by rw [h8,←(f7 h9).1];omega⟩
            · exact f4 j (by omega) hj2
         obtain ⟨f1,f2,f3,f4,f5,f6,f7⟩:=ZmW (fun i what e n a b=>⟨hEE _ _ _ _ _ b,ih _ _ _ _ a b⟩) hn hb;exact fin f1 f2 f3 f4 f5 f6 f7
       · cases h
end
section
variable {P:Pl} {l:List Ac}
def endE (l:List Ac) (j:Nat):Nat:=(ZV l j 1).getD (l.length+1)
theorem ZiL {l:List Ac}:∀(k i:Nat) (left:Int) (e:Nat),l.length - i≤k→ZV l i left=some e→i≤e
 | k,i,left,e,hk,h=>by
  by_cases hl:left≤0
  · rw [Zay hl] at h;injection h with h;omega
  · cases hx:l[i]? with
    | none=>rw [ZdI hl hx] at h;cases h
    | some x =>
     have hi:=(gs_ hx).1;rw [Zar hl hx] at h
     match k,hk with
     | 0,hk=>omega
     | k+1,hk =>
      have:=ZiL k (i+1) _ _ (by omega) h;omega
theorem Zde {l:List Ac} {j:Nat} (h:j≤l.length):j≤endE l j:=by
 unfold endE
 cases h1:ZV l j 1 with
 | none=>simp only [Option.getD_none];omega
 | some e=>exact ZiL _ _ _ _ lr_ h1
theorem ZhV {l:List Ac} {j:Nat} (h:l.length≤j):endE l j=l.length+1:=by
 unfold endE;rw [ZdI (by omega) (List.getElem?_eq_none h)];rfl
theorem Ze4 {l:List Ac} {c:Nat} (h:c<l.length):c<endE l (c+1):=by
 rcases Nat.lt_or_ge (c+1) l.length with h1 | h1
 · have:=Zde (l:=l) (j:=c+1) (by omega);omega
 · rw [ZhV h1];omega
theorem ZkB {j:Nat} {x:Ac} (hx:l[j]? = some x) (hn:x.n=0):endE l j=j+1:=by
 unfold endE;rw [Zar (by omega) hx,Zay (by omega)];rfl
def Zf6 (l:List Ac) (at_:Nat):Prop:=∃x,l[at_]? = some x∧0≤x.n∧∀j,j<x.n.toNat→Zr (endE l) j (at_+1)<l.length
theorem Zg1 {b:Nat} {at_:Nat} (hK:∀j,at_<j→j<l.length→∀b:Nat,ZV l j (1+(b:Int))=ZV l (endE l j) b) (hE:∀j,at_<j→j<l.length→j<endE l j) :
 ∀(m n:Nat),at_<n→(∀i,i<m→Zr (endE l) i n<l.length)→ZV l n ((m:Int)+(b:Int))=ZV l (Zr (endE l) m n) b
 | 0,n,_,_=>by simp [Zr]
 | m+1,n,hn,h=>by
  have h0:n<l.length:=h 0 (by omega);have h1:=hK n hn h0 (m+b);have h2:=hE n hn h0;have h3:=Zg1 (b:=b) hK hE m (endE l n) (by omega) (fun i hi=>h (i+1) (by omega));rw [show (((m+1:Nat):Int)+(b:Int))=1+((m+b:Nat):Int) by omega,h1];simp only [Zr];rw [←h3];congr 1 <;> omega
theorem ZgX:∀(k at_:Nat),at_<l.length→l.length - at_≤k→(∀j,at_≤j→j<l.length→Zf6 l j)→(∀b:Nat,ZV l at_ (1+(b:Int))=ZV l (endE l at_) b)∧at_<endE l at_∧ZbH l (endE l) at_
 | 0,at_,h1,h2,_=>by omega
 | k+1,at_,h1,h2,h=>by
  have ih:=fun j (a:at_<j) (b:j<l.length)=>ZgX k j b (by omega) (fun i c d=>h i (by omega) d)
  obtain ⟨x,hx,h0,hc⟩:=h at_ lr_ h1;have hce:=fun b=>Zg1 (l:=l) (at_:=at_) (b:=b) (fun j a b=>(ih j a b).1) (fun j a b=>(ih j a b).2.1) x.n.toNat (at_+1) (by omega) hc
  have hst:∀b:Nat,ZV l at_ (1+(b:Int))=ZV l (Zr (endE l) x.n.toNat (at_+1)) b:=fun b=>by
   rw [Zar (by omega) hx,←hce b];congr 1;omega
  have he:endE l at_=Zr (endE l) x.n.toNat (at_+1):=by
   have h5:=hst 0;rw [Zay (i:=Zr (endE l) x.n.toNat (at_+1)) (by simp)] at h5;unfold endE;rw [show (1:Int)=1+((0:Nat):Int) by simp,h5];rfl
  refine ⟨fun b=>by rw [hst b,he],?_,x,hx,h0,hc,he⟩
  have hge:∀(m n:Nat),at_<n→(∀i,i<m→Zr (endE l) i n<l.length)→n≤Zr (endE l) m n:=by
   intro m
   induction m with
   | zero=>intro n _ _;exact lr_
   | succ m ihm =>
    intro n hn hh;have a1:n<l.length:=hh 0 (by omega);have a2:=(ih n hn a1).2.1;have a3:=ihm (endE l n) (by omega) (fun i hi=>hh (i+1) (by omega));simp only [Zr];omega
  have:=hge x.n.toNat (at_+1) (by omega) hc;omega
theorem Zd4 (hT:∀j,j<l.length→ZbH l (endE l) j) {j:Nat} {x:Ac} (hx:l[j]? = some x):0≤x.n∧x.n≤l.length:=by
 have hj:=(gs_ hx).1;obtain ⟨y,hy,h0,h1,_⟩:=hT j hj;rw [hx] at hy;injection hy with hy;subst hy;refine ⟨h0,?_⟩
 by_cases hn:x.n=0
 · omega
 · have h2:=ZhZ (fun j hj=>ZeQ hT l.length j (by omega) hj) (x.n.toNat - 1) (j+1) (fun i hi=>h1 i (by omega));have h3:=h1 (x.n.toNat - 1) (by omega);omega
theorem Zhg {W W':Nat→Int} {E:Nat→Nat} {c:Nat} {x:Ac} (h1:W (c+1)=W' (c+1)) (h2:W (E (c+1))=W' (E (c+1))):Z4 W E c x=Z4 W' E c x:=by
 unfold Z4;rw [h1,h2]
theorem Zje {N N':Nat→Int} {E:Nat→Nat} {c:Nat} {x:Ac} (h1:N (c+1)=N' (c+1)) (h2:N (E (c+1))=N' (E (c+1))) (h3:N (E (E (c+1)))=N' (E (E (c+1)))):ZaY E N c x=ZaY E N' c x:=by
 unfold ZaY;rw [h1,h2,h3]
def ZiT (l:List Ac) (c:Nat) (ws:List Int):Int:=match l[c]? with | none=>0 | some x=>if ZT x.k=0 then 0 else Z4 (fun j=>(ws[j - (c+1)]?).getD 0) (endE l) c x
def Zal (l:List Ac) (j:Nat):Int:=((Zbl (ZiT l) l.length l.length)[j]?).getD 0
theorem ZcI {c:Nat} {x:Ac} (hx:l[c]? = some x):Zal l c=if ZT x.k=0 then 0 else Z4 (Zal l) (endE l) c x:=by
 have hc:=(gs_ hx).1;have h1:∀j,c<j→((Zbl (ZiT l) l.length (l.length - (c+1)))[j - (c+1)]?).getD 0=Zal l j:=fun j hj=>by rw [Zfk hc hj];rfl
 conv=>lhs;unfold Zal
 rw [Zg3 hc];simp only [Option.getD_some];unfold ZiT;rw [hx];simp only;split
 · rfl
 · exact Zhg (h1 (c+1) (by omega)) (h1 _ (Ze4 hc))
def Zla (l:List Ac) (c:Nat) (ns:List Int):Int:=match l[c]? with | none=>0 | some x=>if x.k=1 then 0 else max (ZaY (endE l) (fun j=>(ns[j - (c+1)]?).getD 0) c x) 1
def ZhC (l:List Ac) (j:Nat):Int:=((Zbl (Zla l) l.length l.length)[j]?).getD 0
theorem ZmA (hT:∀j,j<l.length→ZbH l (endE l) j) {c:Nat} {x:Ac} (hx:l[c]? = some x):ZhC l c=if x.k=1 then 0 else max (ZaY (endE l) (ZhC l) c x) 1:=by
 have hc:=(gs_ hx).1;have h1:∀j,c<j→((Zbl (Zla l) l.length (l.length - (c+1)))[j - (c+1)]?).getD 0=ZhC l j:=fun j hj=>by rw [Zfk hc hj];rfl
 have h2:c<endE l (endE l (c+1)):=by
  have:=Ze4 hc;rcases Nat.lt_or_ge (endE l (c+1)) l.length with h3 | h3
  · have:=ZeQ hT l.length _ (by omega) h3;omega
  · rw [ZhV h3];omega
 conv=>lhs;unfold ZhC
 rw [Zg3 hc];simp only [Option.getD_some];unfold Zla;rw [hx];simp only;split
 · rfl
 · rw [Zje (h1 (c+1) (by omega)) (h1 _ (Ze4 hc)) (h1 _ h2)]
def EvR (P:Pl) (l:List Ac):Prop:=l=[]∨(Zab l 0=1∧endE l 0=l.length∧∀j,j<l.length→ZbH l (endE l) j∧ZcE P l (endE l) (Zal l) j)
theorem Ze3:EvR P l ↔ Zy P l=true:=by
 by_cases h0:l=[]
 · subst h0;exact ⟨fun _=>rfl,fun _=>.inl rfl⟩
 have hlen:0<l.length:=List.length_pos_iff.2 h0;have hem:l.isEmpty=false:=by simpa using h0
 constructor
 · rintro (h | ⟨hk,he,h⟩)
   · exact absurd h h0
   · have hg:=ZhO (fun c hc=>(h c hc).1) (fun c hc=>(h c hc).2) (N:=ZhC l) (fun c x hx=>ZmA (fun c hc=>(h c hc).1) hx) (l.length+1) 0 hlen (by omega);have h1:=hg.1 1 (by rw [hk];rfl);unfold Zy;rw [hem,h1,Bool.false_or];simp only [decide_eq_true_eq,he];exact lr_
 · intro h;unfold Zy at h;rw [hem,Bool.false_or] at h
   cases hr:Zo P l (l.length+1) 0 1 with
   | none=>rw [hr] at h;cases h
   | some en =>
    obtain ⟨e,n⟩:=en;rw [hr] at h;simp only [decide_eq_true_eq] at h
    have hEE:∀f i what e n,Zo P l f i what=some (e,n)→endE l i=e∧i<e∧e≤l.length:=fun f i what e n h=>by
     have h1:=ZcX _ _ _ _ _ h;have h2:=ZbX h1;have h3:=Zc6 _ _ _ _ h1;refine ⟨by unfold endE;rw [h2];rfl,h3.1,h3.2⟩
    have hv:=ZlT (W:=Zal l) (fun j x hx hn=>ZkB hx hn) hEE (fun c x hx ht _=>by rw [ZcI hx,if_neg ht]) _ _ _ _ _ (by omega) hr;obtain ⟨g0,g1,g2⟩:=hEE _ _ _ _ _ hr;obtain ⟨x,hx,hm,_⟩:=Zdl hr;refine .inr ⟨?_,by omega,fun j hj=>hv.2 j (by omega) (by omega)⟩;rw [ZaB hx];unfold ZE at hm;simpa using hm
end
theorem Zcj (w:World) (n lo hi:Int):Calls Try.prog 79 #[.int .i64 n,.int .i64 lo,.int .i64 hi] w fun en w'=>en=.returned (.bool (Zp n lo hi))∧w=w':=by
 unfold Zp;go_enter Try.func79,Try.ntmps79;go_wp2
 all_goals
  go_ret
  first | exact ⟨rfl,rfl⟩ | (refine ⟨?_,rfl⟩;congr 2;simp;omega)
theorem Zcm (w:World) (k:Int):Calls Try.prog 82 #[.int .i64 k] w fun en w'=>en=.returned (.int .i64 (ZT k))∧w=w':=by
 unfold ZT;go_enter Try.func82,Try.ntmps82;go_wp2
 all_goals
  go_ret;refine ⟨?_,rfl⟩;simp only [beq_iff_eq,beq_eq_false_iff_ne,ne_eq] at *;simp [*]
  first | done | omega
theorem Zbm (w:World) (k what:Int):Calls Try.prog 127 #[.int .i64 k,.int .i64 what] w fun en w'=>en=.returned (.bool (ZW k what))∧w=w':=by
 have HT:=fun (W:World)=>Za (Zcm W k)
 unfold ZW;go_enter Try.func127,Try.ntmps127
 go_wp2_with (
  go_at_call 82;refine (HT _).out.mono ?_
  rintro en w1 ⟨rfl,rfl⟩)
 all_goals
  go_ret;refine ⟨?_,rfl⟩;simp only [beq_iff_eq,beq_eq_false_iff_ne,ne_eq] at *;simp [*]
  first | done | omega | (rw [Bool.eq_iff_iff];simp only [Bool.or_eq_true,beq_iff_eq,decide_eq_true_eq];done) | (rw [Bool.eq_iff_iff];simp;omega) | (rw [Bool.eq_iff_iff];simp) | trace_state
theorem ZbR {w W:World} {k:Int} {en:Ending} {g:Nat} {t:TypeId} (L:List Int) (h:Zac k=L) (he:en=.returned (.slice (some ⟨g,0,none⟩) L.length L.length)) (hb:Blk W g t (Zm L).toArray) (hg:w.heap.size≤g) (hB:Below w.heap.size w W) :
 ∃oa,en=.returned (.slice oa (Zac k).length (Zac k).length)∧Src W oa (Zac k).length (Zm (Zac k))∧(∀ad,oa=some ad→w.heap.size≤ad.block)∧Below w.heap.size w W:=by
 subst h;exact ⟨_,he,ZaM _ hb,fun ad e=>by injection e with e;subst e;exact hg,hB⟩
theorem Zlf {w W:World} {k:Int} {en:Ending} (h:Zac k=[]) (he:en=.returned (.slice none 0 0)) (hB:Below w.heap.size w W) :
 ∃oa,en=.returned (.slice oa (Zac k).length (Zac k).length)∧Src W oa (Zac k).length (Zm (Zac k))∧(∀ad,oa=some ad→w.heap.size≤ad.block)∧Below w.heap.size w W:=by
 rw [h];exact ⟨none,he,ZdQ _ _,fun ad e=>(by cases e),hB⟩
theorem ZmG (w:World) (k:Int):Calls Try.prog 126 #[.int .i64 k] w fun en w'=>∃oa,en=.returned (.slice oa (Zac k).length (Zac k).length)∧Src w' oa (Zac k).length (Zm (Zac k))∧(∀ad,oa=some ad→w.heap.size≤ad.block)∧Below w.heap.size w w':=by
 go_enter Try.func126,Try.ntmps126;go_wp2
 all_goals
  go_ret;simp only [beq_iff_eq,beq_eq_false_iff_ne,ne_eq] at *
  first
  | exact ZbR [4,1] (by simp [Zac, *]) rfl (Blk.new w _ _) lr_ ((Below.refl _ w).alloc lr_ _)
  | exact ZbR [3] (by simp [Zac, *]) rfl (Blk.new w _ _) lr_ ((Below.refl _ w).alloc lr_ _)
  | exact ZbR [5,3] (by simp [Zac, *]) rfl (Blk.new w _ _) lr_ ((Below.refl _ w).alloc lr_ _)
  | exact ZbR [5] (by simp [Zac, *]) rfl (Blk.new w _ _) lr_ ((Below.refl _ w).alloc lr_ _)
  | exact ZbR [3,3] (by simp [Zac, *]) rfl (Blk.new w _ _) lr_ ((Below.refl _ w).alloc lr_ _)
  | exact ZbR [6,6] (by simp [Zac, *]) rfl (Blk.new w _ _) lr_ ((Below.refl _ w).alloc lr_ _)
  | exact ZbR [4] (by simp [Zac, *]) rfl (Blk.new w _ _) lr_ ((Below.refl _ w).alloc lr_ _)
  | exact ZbR [4,4] (by simp [Zac, *]) rfl (Blk.new w _ _) lr_ ((Below.refl _ w).alloc lr_ _)
  | exact Zlf (by simp [Zac, *]) rfl (Below.refl _ w)
theorem Z1 {E:Nat→Nat}:∀(m n:Nat),Zr E (m+1) n=E (Zr E m n)
 | 0,n=>rfl
 | m+1,n=>by
  have:=Z1 (E:=E) m (E n);simp only [Zr] at this ⊢;exact this
def Za9 (l:List Ac):Prop:=endE l 0=l.length∧∀j,j<l.length→ZbH l (endE l) j
def Za6 (l:List Ac) (m:Nat):List Int:=(List.range l.length).map fun j=>if m≤j then ((endE l j:Nat):Int) else 0
theorem ZhT (l:List Ac) (m:Nat):(Za6 l m).length=l.length:=by simp [Za6]
theorem Zim (l:List Ac):Za6 l l.length=List.replicate l.length 0:=by
 apply List.ext_getElem?;intro j;simp only [Za6,List.getElem?_map,List.getElem?_replicate]
 by_cases hj:j<l.length
 · rw [List.getElem?_range hj,if_pos hj,Option.map_some,if_neg (by omega)]
 · rw [List.getElem?_eq_none (by simp;omega),if_neg hj];rfl
theorem Zbw {l:List Ac} {m j:Nat} (h1:m≤j) (h2:j<l.length):(Za6 l m)[j]? = some ((endE l j:Nat):Int):=by
 simp only [Za6,List.getElem?_map,List.getElem?_range h2,Option.map_some,if_pos h1]
theorem ZkA {l:List Ac} {m j:Nat} (h1:j<m) (h2:j<l.length):(Za6 l m)[j]? = some 0:=by
 simp only [Za6,List.getElem?_map,List.getElem?_range h2,Option.map_some,if_neg (show ¬m≤j by omega)]
theorem Zkz {l:List Ac} {a:Nat} (h2:a<l.length):(Za6 l (a+1)).set a ((endE l a:Nat):Int)=Za6 l a:=by
 apply List.ext_getElem?;intro j;rw [List.getElem?_set,ZhT]
 by_cases hj:a=j
 · subst hj;rw [if_pos rfl,if_pos h2,Zbw lr_ h2]
 · rw [if_neg hj];simp only [Za6,List.getElem?_map]
   by_cases hl:j<l.length
   · rw [List.getElem?_range hl];simp only [Option.map_some]
     by_cases h:a≤j
     · rw [if_pos (by omega),if_pos h]
     · rw [if_neg (by omega),if_neg h]
   · rw [List.getElem?_eq_none (by simp;omega)];rfl
theorem ZgW {l:List Ac} {a:Nat} (h:∀j,a≤j→j<l.length→Zf6 l j) {j:Nat} (h1:a≤j) (h2:j<l.length):ZbH l (endE l) j :=
 (ZgX l.length j h2 (by omega) (fun i c d=>h i (by omega) d)).2.2
theorem Zle {l:List Ac} {a k:Nat} {x:Ac} (hx:l[a]? = some x) (hk:k<x.n.toNat) (hb:l.length≤Zr (endE l) k (a+1)):¬Za9 l:=fun h=>by
 obtain ⟨y,hy,_,h2,_⟩:=h.2 a (gs_ hx).1;rw [hx] at hy;injection hy with hy;subst hy;have:=h2 k hk;omega
def Zib (w:World) (l:List Ac) (en:Ending) (w':World):Prop:=Below w.heap.size w w'∧((en=.returned (.slice none 0 0)∧¬Za9 l)∨(en=.returned (.slice (some ⟨w.heap.size,0,none⟩) l.length l.length)∧Za9 l∧Blk w' w.heap.size 3 (Zm (Za6 l 0)).toArray))
theorem ZmP (w:World) (ad:Addr) (c:Nat) (l:List Ac) (h:Src w (some ad) l.length (acs l)) (hl:l.length≤1048576) (h0:0<l.length) :
 Calls Try.prog 80 #[.slice (some ad) l.length c] w fun en w'=>Zib w l en w':=by
 have HS:=Za h;have HMK:=Za (ZeB w l.length (by omega));have hmk:=HMK.out;have HB0:=Za ((Below.refl w.heap.size w).alloc lr_ (.cells (Zm (List.replicate l.length 0)).toArray 3));have HK0:=Za (Blk.new w 3 (Zm (List.replicate l.length 0)).toArray);have hL:(0:Int)<(l.length:Int):=by omega
 have u1:=IntWalk.i64_in ((l.length:Int) - 1) (by omega);clear h;go_enter Try.func80,Try.ntmps80;go_wp2_with fail;clear hmk;go_loopw [4] (fun t4 W=>∃m:Nat,t4=.int .i64 ((m:Int) - 1)∧m≤l.length∧(∀j,m≤j→j<l.length→Zf6 l j)∧Blk W w.heap.size 3 (Zm (Za6 l m)).toArray∧Below w.heap.size w W) (fun t4 _=>(intOf t4+1).toNat)
 case atStart=>exact ⟨l.length,rfl,lr_,fun j a b=>by omega,by rw [Zim];exact HK0.out,HB0.out⟩
 case round =>
  obtain ⟨m,rfl,hm,hK,hk,hb⟩:=hrel;rename World=>W
  have HKI:=Za hK;clear hK
  by_cases hm0:m=0
  · subst hm0;have HK:=Za hk;have HB:=Za hb;have c0:=Zae hk (Zbw (m:=0) (j:=0) lr_ h0);obtain ⟨E0,hE0⟩:∃E0:Nat,endE l 0=E0:=⟨_,rfl⟩;rw [hE0] at c0;have HE0:=Za hE0;clear hk hb hE0
    by_cases hEl:E0=l.length
    · subst hEl;go_wp2_with fail;go_ret;exact ⟨HB.out,.inr ⟨rfl,⟨HE0.out,fun j hj=>ZgW HKI.out (Nat.zero_le _) hj⟩,HK.out⟩⟩
    · have hne:¬(E0:Int)=(l.length:Int):=by omega
      go_wp2_with fail;go_ret;exact ⟨HB.out,.inl ⟨rfl,fun h9=>hEl (HE0.out.symm.trans h9.1)⟩⟩
  · obtain ⟨a,rfl⟩:∃a,m=a+1:=⟨m - 1,by omega⟩;obtain ⟨x,hx⟩:∃x,l[a]? = some x:=⟨_,ge_ (by omega)⟩;have HX:=Za hx;have hwa:(((a+1:Nat):Int) - 1)=(a:Int):=by omega
    rw [hwa];have ha0:(0:Int)≤(a:Int):=by omega
    have haL:(a:Int)<(l.length:Int):=by omega
    have u2:=IntWalk.i64_in ((a:Int)+1) (by omega);have HK:=Za hk;have HB:=Za hb;obtain ⟨ad',e',hab,_,_,_,_,_,q5⟩:=Zq (HS.out.below hb) hx
    cases e'
    by_cases hn0:x.n<0
    · have HN:=Za hn0;clear hk hb hab hx hwa hm0;go_wp2_with fail;go_ret;refine ⟨HB.out,.inl ⟨rfl,fun h9=>?_⟩⟩;have:=Zd4 h9.2 HX.out;have:=HN.out;omega
    · by_cases hn1:(l.length:Int)<x.n
      · have HN:=Za hn1;clear hk hb hab hx hwa hm0;go_wp2_with fail;go_ret;refine ⟨HB.out,.inl ⟨rfl,fun h9=>?_⟩⟩;have:=Zd4 h9.2 HX.out;have:=HN.out;omega
      · obtain ⟨N,hN⟩:∃N:Nat,x.n=(N:Int):=⟨x.n.toNat,by omega⟩;have HN:=Za hN;rw [hN] at q5 hn0 hn1;have hfz:=hk.frozen a;have hbk:=hk.lt;clear hab hx hwa hm0 hN hk hb;go_wp2_with fail;go_loopw [5,6] (fun t5 t6 W'=>∃k next:Nat,t5=.int .i64 (next:Int)∧t6=.int .i64 (k:Int)∧k≤N∧a<next∧Hid (Zr (endE l) k (a+1)=next)∧(∀i,i<k→Zr (endE l) i (a+1)<l.length)∧W'=W) (fun _ t6 _=>N - (intOf t6).toNat)
        case atStart=>exact ⟨0,a+1,rfl,rfl,Nat.zero_le _,by omega,Za rfl,fun i hi=>by omega,rfl⟩
        case round =>
         obtain ⟨k,next,rfl,rfl,hkN,hna,HCH,hch,rfl⟩:=hrel;have HC2:=Za hch;have u3:=IntWalk.i64_in ((k:Int)+1) (by omega);clear hch
         by_cases hlt:k<N
         · have hltI:(k:Int)<(N:Int):=by omega
           by_cases hnl:next<l.length
           · have hnI:¬(l.length:Int)≤(next:Int):=by omega
             have hnI2:(next:Int)<(l.length:Int):=by omega
             have hn0':(0:Int)≤(next:Int):=by omega
             have c1:=Zae HK.out (Zbw (l:=l) (m:=a+1) (j:=next) (by omega) hnl);have HGE:=Za (Zde (l:=l) (j:=next) (by omega));obtain ⟨E1,hE1⟩:∃E1:Nat,endE l next=E1:=⟨_,rfl⟩;rw [hE1] at c1;have HE1:=Za hE1;clear hE1;go_wp2_with fail;go_roundw
             case rel =>
              refine ⟨k+1,E1,rfl,by go_num,by omega,?_,Za ?_,fun i hi=>?_,trivial⟩
              · have:=HGE.out;have:=HE1.out;omega
              · rw [Z1,HCH.out,HE1.out]
              · rcases Nat.lt_or_ge i k with h9 | h9
                · exact HC2.out i h9
                · obtain rfl:i=k:=by omega
                  rw [HCH.out];exact hnl
             case measure =>
              simp only [intOf];omega
           · have hnI:(l.length:Int)≤(next:Int):=by omega
             go_wp2_with fail;go_ret;refine ⟨HB.out,.inl ⟨rfl,Zle HX.out (k:=k) ?_ ?_⟩⟩
             · rw [HN.out,Int.toNat_natCast];exact hlt
             · rw [HCH.out];omega
         · have hltI:¬(k:Int)<(N:Int):=by omega
           obtain rfl:k=N:=by omega
           have HKI2:Hid (∀j,a≤j→j<l.length→Zf6 l j):=Za (fun j h1 h2=>by
            rcases Nat.eq_or_lt_of_le h1 with rfl | h3
            · exact ⟨x,HX.out,by rw [HN.out];omega,fun i hi=>HC2.out i (by rw [HN.out,Int.toNat_natCast] at hi;exact hi)⟩
            · exact HKI.out j h3 h2)
           have HEA:Hid (endE l a=next):=Za (by
            obtain ⟨y,hy,_,_,h3⟩:=ZgW HKI2.out lr_ (show a<l.length by omega);rw [HX.out] at hy;injection hy with hy;subst hy
            rw [h3,HN.out,Int.toNat_natCast,HCH.out])
           have HK3:=Za (HK.out.set_ a (.int .i64 (next:Int)));have HB3:=Za (HB.out.setCell (p:=⟨w.heap.size,a,none⟩) lr_ (.int .i64 (next:Int)));have hc0:=Zae HK.out (ZkA (l:=l) (m:=a+1) (j:=a) (by omega) (by omega));have u4:=IntWalk.i64_in ((a:Int) - 1) (by omega);go_wp2_with fail;go_roundw
           case rel =>
            refine ⟨a,rfl,by omega,HKI2.out,?_,HB3.out⟩;have:=HK3.out;have hset:=Zkz (l:=l) (a:=a) (by omega);rw [HEA.out] at hset;rw [ZbS,hset] at this;exact this
           case measure =>
            simp only [intOf];omega
end Go.Proofs.Ytdpokdcendgfeaa
