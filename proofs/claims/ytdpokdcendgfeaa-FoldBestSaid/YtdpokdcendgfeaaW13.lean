/- Several texts in one: The rows of a right event are as fold needs them. Nothing here walks the program. Appends to own rows by an element's type; law 7's LendInts and law 13's lendActs. Law 7's KeptInts and law 13's keptActs, where what was lent is as it was. The walk of fold.events. Conditions: those of each. -/
import Derived.Test.YtdpokdcendgfeaaW12
import Derived.Laws.MakeOwn
set_option linter.unusedSimpArgs false
set_option linter.unusedVariables false
set_option maxHeartbeats 80000000
set_option maxRecDepth 100000
namespace Go.Proofs.Ytdpokdcendgfeaa
open Go.RowKit
section
variable {P:Pl} {l:List Ac}
theorem ZbD {R:Int→Nat→Nat→Prop} (hR:∀w i e,R w i e→i<e):∀(ws:List Int) (i:Nat) (sp:List (Nat×Nat)) (e:Nat),ZH R ws i sp e→sp.length+i≤e
 | [],i,[],e,h=>by
  simp only [ZH] at h
  simp
  omega
 | w::ws,i,r::sp,e,h=>by
  obtain ⟨rfl,h3,h4⟩:=h;have:=hR _ _ _ h3;have:=ZbD hR ws _ sp e h4;simp only [List.length_cons];omega
 | [],i,r::sp,e,h=>by simp [ZH] at h
 | w::ws,i,[],e,h=>by simp [ZH] at h
theorem ZdE {R:Int→Nat→Nat→Prop}:∀(ws:List Int) (i:Nat) (sp:List (Nat×Nat)) (e:Nat),ZH R ws i sp e→∀r ∈ sp,∃w,w ∈ ws∧R w r.1 r.2
 | [],i,[],e,h,r,hr=>by cases hr
 | w::ws,i,q::sp,e,h,r,hr=>by
  obtain ⟨rfl,h3,h4⟩:=h;rcases List.mem_cons.1 hr with rfl | hr
  · exact ⟨w,by simp,h3⟩
  · obtain ⟨w',a,b⟩:=ZdE ws _ sp e h4 r hr;exact ⟨w',by simp [a],b⟩
 | [],i,r::sp,e,h,_,_=>by simp [ZH] at h
 | w::ws,i,[],e,h,_,_=>by simp [ZH] at h
structure RowW (P:Pl) (l:List Ac) (f:Nat) (what:Int) (i e:Nat):Prop where
 x:l[i]? = some (rowL l i)
 may:ZE what (rowL l i).k=true
 num:Zu P (rowL l i)=true
 n0:0≤(rowL l i).n
 n:(rowL l i).k≠1→(rowL l i).n=((kidsV (rowL l i).k (rowL l i).n).length:Int)
 ks:ZH (Wf P l f) (Z8 (rowL l i) ((l[i+1]?.map Ac.k).getD 0)) (i+1) (spL l i) e
 hand:(rowL l i).k=1→∀r ∈ spL l i,(rowL l r.1).k=9→handV P l r.1≠0
 sp:ZR l (rowL l i).n.toNat (i+1)=some (spL l i)
 len:((spL l i).length:Int)=(rowL l i).n
 ee:endL l i=e
 lt:i<e
 le:e≤l.length
theorem ZQ {f:Nat} {what:Int} {i e:Nat} (h:Wf P l (f+1) what i e):RowW P l f what i e:=by
 have hle:=Zc6 _ _ _ _ h;have hend:=ZbX h;obtain ⟨x,sp,hx,h1,h2,h3,h4,h5,h6⟩:=h;have hr:rowL l i=x:=by unfold rowL;rw [hx];rfl
 have hwl:=Zer (x:=x) (k0:=(l[i+1]?.map Ac.k).getD 0) h3 h4
 have hks:=ZfT (l:=l) (R:=Wf P l f) (fun w i e h=>by
  cases f with
  | zero=>exact h.elim
  | succ f=>exact ZbX h) _ _ _ _ h5
 have hn:(Z8 x ((l[i+1]?.map Ac.k).getD 0)).length=x.n.toNat:=by omega
 rw [hn] at hks;have hsp:spL l i=sp:=by unfold spL;rw [hr,hks];rfl
 have hl2:=Zfe _ _ _ _ h5;refine ⟨by rw [hr];exact hx,by rw [hr];exact h1,by rw [hr];exact h2,by rw [hr];exact h3,by rw [hr];exact h4,by rw [hr,hsp];exact h5,fun hk r hm h9=>?_,by rw [hr,hsp];exact hks,by rw [hr,hsp];omega,Zcq hend,hle.1,hle.2⟩;rw [hr] at hk;rw [hsp] at hm;have hin:=ZaJ l _ _ _ hks (by have:=(gs_ hx).1;omega);have hr2:=hin.2 r hm;exact h6 hk r hm _ (Z5 (by omega)) h9
theorem Zbe {f:Nat} {what:Int} {i e:Nat} (h:Wf P l f what i e):∃f',f=f'+1:=by
 cases f with
 | zero=>exact h.elim
 | succ f=>exact ⟨f,rfl⟩
theorem Zhf {f:Nat} {what:Int} {i e:Nat} (R:RowW P l f what i e) (hk:(rowL l i).k≠1):∀w ∈ Z8 (rowL l i) ((l[i+1]?.map Ac.k).getD 0),w=1∨w=2∨w=3∨w=4∨w=5:=by
 intro w hw
 by_cases h34:(rowL l i).k=34
 · have hks:=R.ks;unfold Z8 at hw hks;rw [if_neg hk,if_pos h34] at hw hks;simp only [List.mem_cons,List.not_mem_nil,or_false] at hw;rcases hw with rfl | rfl
   · omega
   · match hsp:spL l i,hks with
     | [],h=>simp [hsp,ZH] at h
     | r::sp,hks =>
      obtain ⟨h1,h2,_⟩:=hks;obtain ⟨f',rfl⟩:=Zbe h2;have R2:=ZQ h2;have hm:=R2.may;rw [h1] at hm;have hx:=R2.x;rw [h1] at hx;rw [hx];simp only [Option.map_some,Option.getD_some];simp only [ZE] at hm;simp at hm;unfold Zn at hm ⊢
      (repeat' split at hm) <;> (repeat' split) <;> simp at*<;> omega
 · unfold Z8 at hw;rw [if_neg hk,if_neg h34] at hw;unfold kidsV at hw
   (repeat' split at hw) <;> simp at hw <;> omega
theorem ZeM:∀(f:Nat) (what:Int) (i e:Nat),Wf P l f what i e→((rowL l i).k=9→handV P l i≠0)→∀j,i≤j→j<e→(rowL l j).k=9→handV P l j≠0
 | 0,what,i,e,h,_,j,_,_,_=>h.elim
 | f+1,what,i,e,h,h9,j,h1,h2,hk=>by
  have R:=ZQ h;rcases Nat.eq_or_lt_of_le h1 with rfl | h3
  · exact h9 hk
  · obtain ⟨w,r,a1,a2,a3,a4,a5⟩:=ZeZ (fun w i e h=>(Zc6 f w i e h).1) _ _ _ _ R.ks j h3 h2;refine ZeM f w r.1 r.2 a2 (fun hr9=>?_) j a3 a4 hk
    by_cases hx1:(rowL l i).k=1
    · exact R.hand hx1 r a1 hr9
    · exfalso;obtain ⟨w2,b1,b2⟩:=ZdE _ _ _ _ R.ks r a1;obtain ⟨f',rfl⟩:=Zbe b2;have hm:=(ZQ b2).may;rw [hr9] at hm;have hw5:=Zhf R hx1 w2 b1;unfold ZE at hm;rcases hw5 with rfl | rfl | rfl | rfl | rfl <;> simp [Zn] at hm
theorem ZbQ {R:Int→Nat→Nat→Prop} (hR:∀w i e,R w i e→i<e):∀(ws:List Int) (i:Nat) (sp:List (Nat×Nat)) (e:Nat),ZH R ws i sp e→∀r ∈ sp,i≤r.1∧r.1<r.2∧r.2≤e
 | [],i,[],e,h,r,hr=>by cases hr
 | w::ws,i,q::sp,e,h,r,hr=>by
  have hc:=ZbD hR _ _ _ _ h;obtain ⟨rfl,h3,h4⟩:=h;have h5:=hR _ _ _ h3;have h6:=ZbD hR _ _ _ _ h4;rcases List.mem_cons.1 hr with rfl | hr
  · exact ⟨lr_,h5,by omega⟩
  · have:=ZbQ hR ws _ sp e h4 r hr;omega
 | [],i,r::sp,e,h,_,_=>by simp [ZH] at h
 | w::ws,i,[],e,h,_,_=>by simp [ZH] at h
theorem ZdP {s t i:Nat} (h1:s≤i) (h2:i<t):(sub l (s,t))[i - s]? = l[i]?:=by
 unfold sub;simp only;rw [List.getElem?_take,if_pos (by omega),List.getElem?_drop];congr 1;omega
theorem ZhU {s t:Nat} (ht:t≤l.length):∀(m i:Nat) (left:Int) (e:Nat),l.length - i=m→ZV l i left=some e→s≤i→i≤l.length→e≤t→ZV (sub l (s,t)) (i - s) left=some (e - s)
 | m,i,left,e,hm,h,hs,hi,he=>by
  by_cases hp:left≤0
  · rw [Zay hp] at h ⊢;injection h with h;rw [h]
  · have hle:=ZcO l _ i left e rfl h hi;have hie:i<e:=hle.2.2 (by omega);obtain ⟨x,hx⟩:∃x,l[i]? = some x:=⟨_,ge_ (by omega)⟩;rw [Zar hp hx] at h;rw [Zar (x:=x) hp (by rw [ZdP hs (by omega)];exact hx),show i - s+1=i+1 - s by omega];exact ZhU ht (l.length - (i+1)) (i+1) _ e rfl h (by omega) (by omega) he
 termination_by m=>m
theorem Zc0 {s t:Nat} (ht:t≤l.length):∀(m k:Nat) (sp:List (Nat×Nat)),ZR l m k=some sp→s≤k→k≤l.length→(∀r ∈ sp,r.2≤t)→ZR (sub l (s,t)) m (k - s)=some (sp.map fun r=>(r.1 - s,r.2 - s))
 | 0,k,sp,h,_,_,_=>by
  simp only [ZR,Option.some.injEq] at h;subst h;rfl
 | m+1,k,sp,h,hs,hk,hr=>by
  unfold ZR at h ⊢
  cases he:ZV l k 1 with
  | none=>rw [he] at h;simp at h
  | some e =>
   rw [he] at h;simp only [Option.map_eq_some_iff] at h;obtain ⟨sp',h1,rfl⟩:=h;have hle:=ZcO l _ k 1 e rfl he hk;have het:=hr (k,e) (by simp);rw [ZhU ht _ k 1 e rfl he hs hk het];simp only;rw [Zc0 ht m e sp' h1 (by omega) hle.2.1 (fun r hr'=>hr r (List.mem_cons_of_mem _ hr'))];rfl
theorem ZjK (hs:Z7 l) (r:Nat×Nat):Z7 (sub l r):=by
 refine ⟨?_,fun x hx=>hs.2 x ?_⟩
 · have:=hs.1;unfold sub;rw [List.length_take,List.length_drop];omega
 · unfold sub at hx;exact List.mem_of_mem_drop (List.mem_of_mem_take hx)
theorem wfR {f:Nat} (w:Int) (i e:Nat) (h:Wf P l f w i e):i<e:=(Zc6 _ _ _ _ h).1
theorem Zh2 {f:Nat} {i e:Nat} (hs:Z7 l) (h:Wf P l f 1 i e):BlkOk (sub l (i,e)) (rowL l i):=by
 obtain ⟨f,rfl⟩:=Zbe h;have R:=ZQ h;have hk:(rowL l i).k=1:=by have:=R.may;simpa [ZE] using this
 refine ⟨by rw [←R.x,←ZdP (Nat.le_refl i) R.lt,Nat.sub_self],ZjK hs _,fun hn=>?_⟩;have hl:=R.len;have hn0:=R.n0
 match hsp:spL l i,R.ks,R.sp,hl with
 | [],_,_,hl=>simp at hl;omega
 | r0::sp,hks,hkS,_ =>
  have hks2:=hks;have hout:=ZbQ wfR _ _ _ _ hks;have hr0:=hout r0 (by simp);rw [show Z8 (rowL l i) ((l[i+1]?.map Ac.k).getD 0)=List.replicate (rowL l i).n.toNat 0 by unfold Z8;rw [if_pos hk]] at hks2;obtain ⟨m,hm⟩:∃m,(rowL l i).n.toNat=m+1:=⟨(rowL l i).n.toNat - 1,by omega⟩;rw [hm,List.replicate_succ] at hks2;obtain ⟨e1,hw,_⟩:=hks2;rw [e1] at hw;obtain ⟨f',rfl⟩:=Zbe hw;have R1:=ZQ hw;have hshift:=Zc0 (l:=l) (s:=i) (t:=e) R.le _ _ _ hkS (by omega) (by have:=R.lt;have:=R.le;omega) (fun r hr=>(hout r hr).2.2);rw [show i+1 - i=1 by omega] at hshift;simp only [List.map_cons] at hshift;refine ⟨rowL l (i+1),(r0.1 - i,r0.2 - i),sp.map fun (r:Nat×Nat)=>(r.1 - i,r.2 - i),?_,hshift,fun hk2=>?_⟩
  · have:=ZdP (l:=l) (s:=i) (t:=e) (i:=i+1) (by omega) (by omega);rw [show i+1 - i=1 by omega] at this;rw [this,R1.x]
  · have hout1:=ZbQ wfR _ _ _ _ R1.ks;have hsh1:=Zc0 (l:=l) (s:=i) (t:=e) R.le _ _ _ R1.sp (by omega) (by have:=R1.lt;have:=R1.le;omega) (fun r hr=>by have:=(hout1 r hr).2.2;omega);rw [show i+1+1 - i=2 by omega] at hsh1;have hn1:=R1.n (by omega);have hl1:=R1.len
    have hkv:(kidsV (rowL l (i+1)).k (rowL l (i+1)).n).length=2∨(kidsV (rowL l (i+1)).k (rowL l (i+1)).n).length=3:=by
     rw [hk2];unfold kidsV;rw [if_pos rfl];split <;> simp
    match hq:spL l (i+1),hout1,hsh1,hl1 with
    | [],_,_,hl1=>simp at hl1;omega
    | [_],_,_,hl1=>simp at hl1;omega
    | q0::q1::sp',hout1,hsh1,hl1 =>
     refine ⟨(q0.1 - i,q0.2 - i),(q1.1 - i,q1.2 - i),sp'.map fun (r:Nat×Nat)=>(r.1 - i,r.2 - i),by simpa using hsh1,?_,fun q hq'=>?_⟩
     · rw [List.length_map];simp only [List.length_cons] at hl1;omega
     · have:q ∈ (q0::q1::sp').map fun (r:Nat×Nat)=>(r.1 - i,r.2 - i):=by simpa using hq'
       obtain ⟨q2,hq2,rfl⟩:=List.mem_map.1 this;have:=(hout1 q2 hq2).2.2;show q2.2 - i≤r0.2 - i;omega
theorem Zln {f:Nat} {what:Int} {i e:Nat} (R:RowW P l f what i e):Zhc ((spL l i).map (sub l)) (hsL l (spL l i)):=by
 have hout:=ZbQ wfR _ _ _ _ R.ks;refine ⟨by simp [hsL],fun j k h e1 e2=>?_⟩;unfold hsL at e2;rw [List.getElem?_map] at e1 e2
 cases hj:(spL l i)[j]? with
 | none=>rw [hj] at e1;simp at e1
 | some r =>
  rw [hj] at e1 e2;simp only [Option.map_some,Option.some.injEq] at e1 e2;subst e1 e2;have h1:=hout r (List.mem_of_getElem? hj);have:=R.le;rw [Zbx h1.2.1];exact Z5 (by omega)
theorem ZhJ {f:Nat} {what:Int} {i e:Nat} (R:RowW P l f what i e) {r:Nat×Nat} (hr:r ∈ spL l i):∃f' w',w' ∈ Z8 (rowL l i) ((l[i+1]?.map Ac.k).getD 0)∧RowW P l f' w' r.1 r.2:=by
 obtain ⟨w,h1,h2⟩:=ZdE _ _ _ _ R.ks r hr;obtain ⟨f',rfl⟩:=Zbe h2;exact ⟨f',w,h1,ZQ h2⟩
theorem Zmj {f:Nat} {what:Int} {i e:Nat} (R:RowW P l f what i e) (hk:16<(rowL l i).k):EOk l i (rowL l i) (spL l i) (hsL l (spL l i)):=by
 have hn:=R.n (by omega);have hl:=R.len;have hlen:(spL l i).length=(kidsV (rowL l i).k (rowL l i).n).length:=by omega
 refine ⟨R.sp,Zln R,?_,fun y hy hfx=>?_,fun h2=>?_,fun h1=>?_,fun r hr y hy h28=>?_⟩
 · rw [hlen];unfold kidsV
   (repeat' split) <;> simp <;> omega
 · unfold hsL at hy;obtain ⟨r,hr,rfl⟩:=List.mem_map.1 hy;obtain ⟨f',w',_,R'⟩:=ZhJ R hr;have hnum:=R'.num;unfold ZN at hfx;simp only [Bool.or_eq_true,decide_eq_true_eq] at hfx;unfold Zu at hnum;rcases hfx with h9 | h9
   · simp [h9,Zp] at hnum;omega
   · simp [h9,Zp] at hnum;omega
 · rw [hlen];rcases h2 with h2 | h2 | h2
   · have:(rowL l i).k=30∨(rowL l i).k=31∨(rowL l i).k=32∨(rowL l i).k=33∨(rowL l i).k=34:=by omega
     rcases this with q | q | q | q | q <;> simp [kidsV,q]
   · simp [kidsV,h2]
   · simp [kidsV,h2]
 · rw [hlen];rcases h1 with q | q <;> simp [kidsV,q]
 · obtain ⟨f',w',_,R'⟩:=ZhJ R hr;have hx:=R'.x;rw [hy] at hx;injection hx with hx;have hn':=R'.n (by rw [←hx];omega);have hl':=R'.len;have hc:=ZbD wfR _ _ _ _ R'.ks
   have:(kidsV (rowL l r.1).k (rowL l r.1).n).length=1:=by
    rw [←hx];rcases h28 with q | q <;> simp [kidsV,q]
   omega
theorem Zmk {f:Nat} {what:Int} {i e:Nat} (R:RowW P l f what i e) (hs:Z7 l) (hl:l.length≤131072) (hh:(rowL l i).k=9→handV P l i≠0) (hk:¬ 16<(rowL l i).k):DOk l i (rowL l i) ((spL l i).map (sub l)) (hsL l (spL l i)):=by
 have hlen:=R.len;have hout:=ZbQ wfR _ _ _ _ R.ks;have hle:=R.le;refine ⟨fun k2=>?_,fun k3=>?_,fun k4=>?_,fun k9=>?_⟩
 · have hn:=R.n (by omega);have hks:=R.ks;rw [show Z8 (rowL l i) ((l[i+1]?.map Ac.k).getD 0)=kidsV (rowL l i).k (rowL l i).n by unfold Z8;rw [if_neg (by omega),if_neg (by omega)]] at hks;have hkv:kidsV (rowL l i).k (rowL l i).n=if (rowL l i).n=3 then [3,1,1] else [3,1]:=by unfold kidsV;rw [if_pos k2]
   have hrw:=Zb4 l _ _ _ R.sp (by have:=R.lt;omega);rw [hkv] at hks hn
   have hneg:∀(r:Nat×Nat),r ∈ spL l i→(rowL l r.1).k=29→2≤(sub l r).length:=fun r hr q=>by
    have h1:=hout r hr;obtain ⟨f',w',_,R'⟩:=ZhJ R hr;have hn':=R'.n (by omega);have hl':=R'.len;have hc:=ZbD wfR _ _ _ _ R'.ks;have:(kidsV (rowL l r.1).k (rowL l r.1).n).length=1:=by simp [kidsV,q]
    rw [ZaL (by omega)];omega
   by_cases h3:(rowL l i).n=3
   · rw [if_pos h3] at hks
     match hsp:spL l i,hks,hout,hrw with
     | [r0,r1,r2],hks,hout,hrw =>
      obtain ⟨_,w0,e1,w1,e2,w2,_⟩:=hks;have o0:=hout r0 (by simp);have o1:=hout r1 (by simp);have o2:=hout r2 (by simp);refine ⟨by rw [Zbx o0.2.1];exact Z5 (by omega),Zh2 hs w1,Zh2 hs w2,hneg r0 (by rw [hsp];simp),?_⟩;simp only [Zh,List.map_cons,List.map_nil,List.sum_cons,List.sum_nil] at hrw;omega
     | [],hks,_,_=>simp [ZH] at hks
     | [_],hks,_,_=>simp [ZH] at hks
     | [_,_],hks,_,_=>simp [ZH] at hks
     | _::_::_::_::_,hks,_,_=>simp [ZH] at hks
   · rw [if_neg h3] at hks
     match hsp:spL l i,hks,hout,hrw with
     | [r0,r1],hks,hout,hrw =>
      obtain ⟨_,w0,e1,w1,_⟩:=hks;have o0:=hout r0 (by simp);have o1:=hout r1 (by simp);refine ⟨by rw [Zbx o0.2.1];exact Z5 (by omega),Zh2 hs w1,hneg r0 (by rw [hsp];simp),?_⟩;simp only [Zh,List.map_cons,List.map_nil,List.sum_cons,List.sum_nil] at hrw;omega
     | [],hks,_,_=>simp [ZH] at hks
     | [_],hks,_,_=>simp [ZH] at hks
     | _::_::_::_,hks,_,_=>simp [ZH] at hks
 · have hn:=R.n (by omega);rw [show kidsV (rowL l i).k (rowL l i).n=[3,1] by simp [kidsV,k3]] at hn
   match hsp:spL l i,hlen,hout with
   | [r0,r1],_,hout =>
    have o0:=hout r0 (by simp);have o1:=hout r1 (by simp);exact ⟨_,_,_,_,rfl,rfl,by rw [Zbx o0.2.1];exact Z5 (by omega),by rw [Zbx o1.2.1];exact Z5 (by omega)⟩
   | [],hlen,_=>simp at hlen hn;omega
   | [_],hlen,_=>simp at hlen hn;omega
   | _::_::_::_,hlen,_=>simp at hlen hn;omega
 · have hn:=R.n (by omega);rw [show kidsV (rowL l i).k (rowL l i).n=[2] by simp [kidsV,k4]] at hn
   match hsp:spL l i,hlen,hout with
   | [r0],_,hout =>
    have o0:=hout r0 (by simp);exact ⟨_,_,rfl,rfl,by rw [Zbx o0.2.1];exact Z5 (by omega)⟩
   | [],hlen,_=>simp at hlen hn;omega
   | _::_::_,hlen,_=>simp at hlen hn;omega
 · have h0:=hh k9;obtain ⟨h1,_⟩:=ZbU h0;rcases h1 with h1 | h1
   · obtain ⟨y,hy,h2⟩:=Ze2 R.x h1;refine ⟨y,hy,fun a b=>?_⟩;unfold Zcg at h2;simp only [Bool.and_eq_true,Bool.or_eq_true,decide_eq_true_eq] at h2;rcases h2.2 with q | q
     · exact absurd q.1 a
     · exact absurd q.1 b
   · obtain ⟨y,z,hy,hz,_⟩:=ZdF R.x h1;exact ⟨y,hy,fun _ _=>⟨z,hz⟩⟩
theorem Zck (h:Zy P l=true) (hl:l.length≤131072):Z7 l:=by
 by_cases h0:l=[]
 · subst h0;exact ⟨by simp,fun x hx=>by cases hx⟩
 · have hw:=ZcG h h0;refine ⟨by omega,fun x hx=>?_⟩;obtain ⟨j,hj⟩:=List.getElem?_of_mem hx;have hjl:=(gs_ hj).1;obtain ⟨f',what',e',h1,_⟩:=Zdv _ _ _ _ hw j (Nat.zero_le _) hjl;obtain ⟨f',rfl⟩:=Zbe h1;have R:=ZQ h1;have hx2:=R.x;rw [hj] at hx2;injection hx2 with hx2;have hc:=ZbD wfR _ _ _ _ R.ks;have:=R.len;have:=R.le;have:=R.n0;rw [hx2];omega
theorem ZlZ (h:Zy P l=true) (hl:l.length≤131072):∀i,i<l.length→LkOk l i:=by
 intro i hi;have hs:=Zck h hl;have h0:l≠[]:=fun e=>by rw [e] at hi;simp at hi
 have hw:=ZcG h h0;obtain ⟨f',what',e',h1,_⟩:=Zdv _ _ _ _ hw i (Nat.zero_le _) hi;obtain ⟨f',rfl⟩:=Zbe h1;have R:=ZQ h1
 have hroot:(rowL l 0).k=9→handV P l 0≠0:=fun q=>by
  have:=(ZQ hw).may;rw [q] at this;simp [ZE] at this
 refine ⟨R.sp,by rw [R.ee];exact ZbX h1,Zmj R,Zmk R hs hl (ZeM _ _ _ _ hw hroot i (Nat.zero_le _) hi),fun hpos=>?_⟩;obtain ⟨p,a,b,_⟩:=Zew (ZeP h) hs hpos hi;exact ⟨p,a,by omega⟩
end
def Zgv (tS tE:TypeId) (sz byt:Nat):Prop:=∃i z,Try.prog.underlying tS=some (.slice tE)∧Try.prog.info? tE=some i∧i.zero=some z∧i.size=sz∧i.bytes=byt∧z.cells.size=sz∧0<sz
theorem elI:Zgv 24 3 1 8:=by
 obtain ⟨i,h1,h2,h3,h4⟩:=ZD Zjk;exact ⟨i,_,Try.underlying24,h1,h2,h3,h4,rfl,by decide⟩
theorem elA:Zgv 26 49 6 48:=by
 obtain ⟨i,h1,h2,h3,h4⟩:=ZD Zjl;exact ⟨i,_,Try.underlying26,h1,h2,h3,h4,rfl,by decide⟩
theorem elB:Zgv 22 4 1 1:=by
 obtain ⟨i,h1,h2,h3,h4⟩:=ZD Znk;exact ⟨i,_,Try.underlying22,h1,h2,h3,h4,rfl,by decide⟩
theorem elV:Zgv 23 51 3 24:=by
 obtain ⟨i,h1,h2,h3,h4⟩:=ZD Znj;exact ⟨i,_,Try.underlying23,h1,h2,h3,h4,rfl,by decide⟩
theorem Ze9 {P:Program} {w:World} (base:Nat) (t ty e:TypeId) (i:TypeInfo) (size:Nat) (ht:P.underlying t=some (.slice e)) (hi:P.info? e=some i)
 (v:Value) (n c:Nat) (xs:List Value) (hown:w.ownsRow base e size v n xs):(Builtin.append_ #[t,t] ty #[v,.slice none 0 c]).run P w=.ok v w:=by
 rcases hown.2 with ⟨rfl,rfl⟩ | ⟨g,cap,cur,rfl,_,_,hnc,_⟩
 · simp [Builtin.append_,run_underlying ht,sizeOf,typeInfo,hi,Builtin.lenOf,Builtin.firstCells]
 · simp [Builtin.append_,run_underlying ht,sizeOf,typeInfo,hi,Builtin.lenOf,Builtin.firstCells,hnc,storeCells]
theorem Zc1 {tS tE:TypeId} {sz byt:Nat} (E:Zgv tS tE sz byt) {w:World} (ty:TypeId) {B n m c:Nat} {v:Value} {oa:Option Addr} {xs ys:List Value} (hown:w.ownsRow B tE sz v n xs) (hsrc:Src w oa m ys) (hl:ys.length=m*sz) (h1:∀u ∈ ys,u.oneCell'=true) (hb:(n+m)*byt≤140737488355328) (h63:n+m≤maxLen) (hB:B≤w.heap.size) :
 ∃v' w',(Builtin.append_ #[tS,tS] ty #[v,.slice oa m c]).run Try.prog w=.ok v' w'∧w'.ownsRow B tE sz v' (n+m) (xs++ys)∧Below B w w'∧(∀g,g<w.heap.size→v.ownBlock≠some g→w'.heap[g]? = w.heap[g]?)∧(v'.ownBlock=v.ownBlock∨v'.ownBlock=some w.heap.size):=by
 obtain ⟨i,z,e1,e2,e3,e4,e5,e6,e7⟩:=E
 cases oa with
 | none =>
  have hm:m=0:=by
   rcases Nat.eq_zero_or_pos m with h0 | h0
   · exact h0
   · obtain ⟨ad,e,_⟩:=hsrc h0
     cases e
  subst hm;have hy:ys=[]:=List.eq_nil_of_length_eq_zero (by omega);subst hy;exact ⟨v,w,Ze9 B tS ty tE i sz e1 e2 v n c xs hown,by simpa using hown,Below.refl _ _,fun g _ _=>rfl,.inl rfl⟩
 | some ad =>
  obtain ⟨v',w',hr,r1,r2,_,r4⟩:=run_append_own_at (P:=Try.prog) w B tS ty tE i z sz byt e1 e2 e3 e4 e5 e6 e7 v n xs hown ad m c ys hl (fun j u hj=>by
   have h0:0<m:=by
    rcases Nat.eq_zero_or_pos m with h0 | h0
    · subst h0;have:=(gs_ hj).1;omega
    · exact h0
   obtain ⟨ad2,e,_,hx⟩:=hsrc h0
   cases e
   exact hx j u hj) h1 h63 hb hB
  exact ⟨v',w',hr,r1,Zan r2 (fun g hg=>(hown.lt g hg).1) hB,fun g h1 h2=>r2.block g h1 (fun e=>h2 e.symm),r4⟩
theorem ZhL (l:List Int):∀u ∈ Zm l,u.oneCell'=true:=fun u hu=>by
 obtain ⟨x,_,rfl⟩:=List.mem_map.1 hu;rfl
theorem ZgY (l:List Int):(Zm l).length=l.length*1:=by simp [Zm]
structure LentR (w:World) (B:Nat) (tE:TypeId) (sz g n cap:Nat) (xs:List Value):Prop where
 o:w.ownsRow B tE sz (.slice (some ⟨g,0,none⟩) (n+1) cap) (n+1) xs
 c:n+1≤cap
 m:cap≤maxLen
theorem ZmD (w:World) (oa:Option Addr) (c:Nat) (l:List Int) (h:Src w oa l.length (Zm l)) (hl:l.length≤262144) :
 Calls Try.prog 49 #[.slice oa l.length c] w fun en w'=>∃g cap,en=.returned (.slice (some ⟨g,0,none⟩) l.length cap)∧LentR w' w.heap.size 3 1 g l.length cap (Zm (l++[-77]))∧Below w.heap.size w w':=by
 obtain ⟨n,hn⟩:∃n,l.length=n:=⟨_,rfl⟩;obtain ⟨i,z,e1,e2,e3,e4,e5,e6,e7⟩:=elI;obtain ⟨wm,hmk,hom,hgm⟩:=run_make_own (P:=Try.prog) w w.heap.size 24 3 i z 1 e1 e2 e3 e4 .i64 .i64 (n+3) (by rw [e5];omega) (by unfold maxLen;omega) lr_;rw [show (((n+3:Nat)):Int)=(n:Int)+3 by omega] at hmk;have hbm:Below w.heap.size w wm:=Zan hgm (fun g hg=>by cases hg) lr_;have hln:(Zm l).length=n*1:=by rw [ZgY,hn]
 have hsr:Src wm oa n (Zm l):=by
  have h9:=h.below hbm;rw [hn] at h9;exact h9
 obtain ⟨v2,w2,hr2,ho2,hb2,_,_⟩:=Zc1 (c:=c) elI 24 hom hsr hln (ZhL l) (by omega) (by unfold maxLen;omega) hbm.size;have hb20:=hbm.trans hb2;have hal:=(Below.refl w.heap.size w2).alloc hb20.size (.cells #[.int .i64 (-77)] 3);have hk3:=Blk.new w2 3 #[.int .i64 (-77)];have ho3:=Zx ho2 ((Below.refl w2.heap.size w2).alloc lr_ (.cells #[.int .i64 (-77)] 3)) lr_;obtain ⟨v4,w4,hr4,ho4,hb4,_,_⟩:=Zc1 (c:=1) elI 24 ho3 (ZaM (cs:=Zm [-77]) 1 hk3) (by rw [ZgY];rfl) (ZhL _) (by omega) (by unfold maxLen;omega) (hb20.trans hal).size;have hb40:=(hb20.trans hal).trans hb4;obtain ⟨g,cap,hv4,hc4,hm4⟩:=Zam ho4 (by omega);subst hv4;rw [show 0+n+1=n+1 by omega] at ho4 hc4 hr4;have HO4:=Za ho4;have HB4:=Za hb40;have HC4:=Za (And.intro hc4 hm4);have hw1:=IntWalk.i64_in ((n:Int)+3) (by omega);have h0:(0:Int)≤(n:Int):=by omega
 have h1:(n:Int)≤(cap:Int):=by omega
 rw [hn];have HR2:=Za hr2;have HR4:=Za hr4;have HAP:=Za (show Zm (l++[-77])=([]++Zm l)++Zm [-77] by simp [Zm]);clear h hl hn ho2 ho3 ho4 hb2 hb4 hb20 hb40 hal hk3 hr2 hr4 hsr hln hom hgm hbm hc4 hm4 e1 e2 e3 e4 e5 e6 e7;go_enter Try.func49,Try.ntmps49
 go_wp2_with (first
  | (at_builtin;refine Lib.wpList_append_run wm rfl (.tmp 6) (.tmp 7) _ _ rfl _ _ rfl rfl v2 w2 HR2.out ?_)
  | (at_builtin;refine Lib.wpList_append_run _ rfl (.tmp 8) (.tmp 9) _ _ rfl _ _ rfl rfl _ w4 HR4.out ?_))
 go_ret;exact ⟨g,cap,rfl,⟨by rw [HAP.out];exact HO4.out,HC4.out.1,HC4.out.2⟩,HB4.out⟩
theorem ZiE (w:World) (oa:Option Addr) (c:Nat) (l:List Ac) (h:Src w oa l.length (acs l)) (hl:l.length≤262144) :
 Calls Try.prog 50 #[.slice oa l.length c] w fun en w'=>∃g cap,en=.returned (.slice (some ⟨g,0,none⟩) l.length cap)∧LentR w' w.heap.size 49 6 g l.length cap (acs (l++[(⟨-77,0,0,0,0,0⟩:Ac)]))∧Below w.heap.size w w':=by
 obtain ⟨n,hn⟩:∃n,l.length=n:=⟨_,rfl⟩;obtain ⟨i,z,e1,e2,e3,e4,e5,e6,e7⟩:=elA;obtain ⟨wm,hmk,hom,hgm⟩:=run_make_own (P:=Try.prog) w w.heap.size 26 49 i z 6 e1 e2 e3 e4 .i64 .i64 (n+3) (by rw [e5];omega) (by unfold maxLen;omega) lr_;rw [show (((n+3:Nat)):Int)=(n:Int)+3 by omega] at hmk;have hbm:Below w.heap.size w wm:=Zan hgm (fun g hg=>by cases hg) lr_;have hln:(acs l).length=n*6:=by rw [ZbG,hn]
 have hsr:Src wm oa n (acs l):=by
  have h9:=h.below hbm;rw [hn] at h9;exact h9
 obtain ⟨v2,w2,hr2,ho2,hb2,_,_⟩:=Zc1 (c:=c) elA 26 hom hsr hln (Zfz l) (by omega) (by unfold maxLen;omega) hbm.size;have hb20:=hbm.trans hb2;have hal:=(Below.refl w.heap.size w2).alloc hb20.size (.cells #[.int .i64 (-77),.int .i64 0,.int .i64 0,.int .i64 0,.int .i64 0,.int .i64 0] 49);have hk3:=Blk.new w2 49 #[.int .i64 (-77),.int .i64 0,.int .i64 0,.int .i64 0,.int .i64 0,.int .i64 0];have ho3:=Zx ho2 ((Below.refl w2.heap.size w2).alloc lr_ (.cells #[.int .i64 (-77),.int .i64 0,.int .i64 0,.int .i64 0,.int .i64 0,.int .i64 0] 49)) lr_;obtain ⟨v4,w4,hr4,ho4,hb4,_,_⟩:=Zc1 (c:=1) elA 26 ho3 (ZaM (cs:=acs [(⟨-77,0,0,0,0,0⟩:Ac)]) 1 hk3) (by rw [ZbG];rfl) (Zfz _) (by omega) (by unfold maxLen;omega) (hb20.trans hal).size;have hb40:=(hb20.trans hal).trans hb4;obtain ⟨g,cap,hv4,hc4,hm4⟩:=Zam ho4 (by omega);subst hv4;rw [show 0+n+1=n+1 by omega] at ho4 hc4 hr4;have HO4:=Za ho4;have HB4:=Za hb40;have HC4:=Za (And.intro hc4 hm4);have hw1:=IntWalk.i64_in ((n:Int)+3) (by omega);have h0:(0:Int)≤(n:Int):=by omega
 have h1:(n:Int)≤(cap:Int):=by omega
 rw [hn];have HR2:=Za hr2;have HR4:=Za hr4;have HAP:=Za (show acs (l++[(⟨-77,0,0,0,0,0⟩:Ac)])=([]++acs l)++acs [(⟨-77,0,0,0,0,0⟩:Ac)] by simp [acs]);clear h hl hn ho2 ho3 ho4 hb2 hb4 hb20 hb40 hal hk3 hr2 hr4 hsr hln hom hgm hbm hc4 hm4 e1 e2 e3 e4 e5 e6 e7;go_enter Try.func50,Try.ntmps50
 go_wp2_with (first
  | (at_builtin;refine Lib.wpList_append_run wm rfl (.tmp 6) (.tmp 7) _ _ rfl _ _ rfl rfl v2 w2 HR2.out ?_)
  | (at_builtin;refine Lib.wpList_append_run _ rfl (.tmp 8) (.tmp 10) _ _ rfl _ _ rfl rfl _ w4 HR4.out ?_))
 go_ret;exact ⟨g,cap,rfl,⟨by rw [HAP.out];exact HO4.out,HC4.out.1,HC4.out.2⟩,HB4.out⟩
theorem LentR.only {w w':World} {B:Nat} {tE:TypeId} {sz g n cap:Nat} {xs:List Value} (h:LentR w B tE sz g n cap xs) {S:Nat→Prop} (ho:Only S w w') (hg:¬S g):LentR w' B tE sz g n cap xs :=
 ⟨ZaG h.o ho (fun k hk=>by injection hk with hk;rw [←hk];exact hg),h.c,h.m⟩
theorem LentR.below {w w':World} {B:Nat} {tE:TypeId} {sz g n cap:Nat} {xs:List Value} (h:LentR w B tE sz g n cap xs) (hb:Below w.heap.size w w'):LentR w' B tE sz g n cap xs:=⟨Zx h.o hb lr_,h.c,h.m⟩
theorem LentR.lt {w:World} {B:Nat} {tE:TypeId} {sz g n cap:Nat} {xs:List Value} (h:LentR w B tE sz g n cap xs):B≤g∧g<w.heap.size:=h.o.lt g rfl
theorem LentR.src {w:World} {B:Nat} {tE:TypeId} {sz g n cap:Nat} {xs ys:List Value} (h:LentR w B tE sz g n cap (xs++ys)) (m:Nat):Src w (some ⟨g,0,none⟩) m xs:=fun _=>by
 obtain ⟨ad,e,h1,h2⟩:=Zak h.o (Nat.succ_pos _);exact ⟨ad,e,h1,fun j v hj=>h2 j v (by rw [List.getElem?_append_left (gs_ hj).1];exact hj)⟩
theorem ZnQ:(Try.prog.info? 88).map (fun i=>(i.zero,i.size,i.bytes))=some (some (.agg #[.int .i64 0,.pointer none]),2,16):=by kernel_rfl
def evL (oo:Option Addr):Nat→List Value
 | 0=>[]
 | i+1=>evL oo i++[.int .i64 (i:Int),.pointer (oo.map (·.add i))]
theorem Zbu (oo:Option Addr):∀n,(evL oo n).length=n*2
 | 0=>rfl
 | n+1=>by rw [evL,List.length_append,Zbu oo n];simp;omega
def evs (oo:Option Addr) (n gp:Nat):List Value:=evL oo n++[.int .i64 (-1),.pointer (some ⟨gp,4,none⟩)]
theorem ZjH (w:World) (t:TypeId) (x y:Value):∀j u,[x,y][j]? = some u→(w.alloc (.cells #[x,y] t)).cell? ((⟨w.heap.size,0,none⟩:Addr).add j)=some u:=by
 intro j u hj
 match j with
 | 0 =>
  simp at hj;subst hj;exact (Blk.new w t #[x,y]).cell 0
 | 1 =>
  simp at hj;subst hj;exact (Blk.new w t #[x,y]).cell 1
 | j+2=>simp at hj
theorem Zfv (w:World) (gp no co:Nat) (oo:Option Addr) (h3:w.cell? ⟨gp,3,none⟩=some (.slice oo no co)) (hg:gp<w.heap.size) (ho:0<no→∃ao,oo=some ao) (hno:no≤131072) :
 Calls Try.prog 51 #[.pointer (some ⟨gp,0,none⟩)] w fun en w'=>∃v,en=.returned v∧w'.ownsRow w.heap.size 88 2 v (no+1) (evs oo no gp)∧Below w.heap.size w w':=by
 obtain ⟨i3,hi3,hz0,hz1,hz2⟩:=ZD ZnQ;have HO0:=Za (World.ownsRow_nil w w.heap.size 88 2);have HNO:=Za hno;have HOO:=Za ho;have H3:=Za h3;have HG:=Za hg;clear ho;go_enter Try.func51,Try.ntmps51;go_wp2_with fail;go_loopw [3,10] (fun t3 t10 W=>∃j:Nat,t10=.int .i64 (j:Int)∧j≤no∧W.ownsRow w.heap.size 88 2 t3 j (evL oo j)∧Below w.heap.size w W) (fun _ t10 _=>no - (intOf t10).toNat)
 case atStart=>exact ⟨0,rfl,Nat.zero_le _,HO0.out,Below.refl _ _⟩
 case round =>
  obtain ⟨j,rfl,hj,how,hb⟩:=hrel;have HOW:=Za how;have HB:=Za hb;have hq:=IntWalk.i64_in ((j:Int)+1) (by omega);have c3:=(hb.cell (p:=⟨gp,3,none⟩) hg).trans h3
  by_cases hjn:j<no
  · have hjI:(j:Int)<(no:Int):=by omega
    have hj0:(0:Int)≤(j:Int):=by omega
    have HJN:=Za hjn;obtain ⟨ao,rfl⟩:=HOO.out (by omega);have HBA:=Za (hb.alloc hb.size (.cells #[.int .i64 (j:Int),.pointer (some (ao.add j))] 88));have HOA:=Za (Zbq (w':=wr.alloc (.cells #[.int .i64 (j:Int),.pointer (some (ao.add j))] 88)) how (fun g hg=>Below.heap_alloc _ _ g (how.lt g hg).2));have HTW:=Za (ZjH wr 88 (.int .i64 (j:Int)) (.pointer (some (ao.add j))));clear how hb hjn;go_wp2_with (at_builtin;refine wpList_append_own_at _ rfl (.tmp 13) (.tmp 22) 83 rfl w.heap.size 88 i3 _ 2 16 Try.underlying83 hi3 hz0 hz1 hz2 rfl (by decide) u3 j (evL (some ao) j) rfl HOA.out ⟨wr.heap.size,0,none⟩ 1 1 [.int .i64 (j:Int),.pointer (some (ao.add j))] rfl rfl HTW.out (by simp [Value.oneCell']) (by unfold maxLen;have:=HNO.out;omega) (by have:=HNO.out;omega) (by have:=HB.out.size;simp;omega) ?_;rintro v3 w3 hown3 hgr3 hnil3 hat3;clear hnil3 hat3;have HO9:=Za hown3;have HG9:=Za hgr3;clear hown3 hgr3);go_roundw
    case rel=>exact ⟨j+1,by go_num,by have:=HJN.out;omega,HO9.out,HBA.out.trans (Zan HG9.out (fun g hg=>(HOA.out.lt g hg).1) HBA.out.size)⟩
    case measure =>
     simp only [intOf];have:=HJN.out;omega
  · have hjI:¬(j:Int)<(no:Int):=by omega
    obtain rfl:j=no:=by omega
    have HBA:=Za (hb.alloc hb.size (.cells #[.int .i64 (-1),.pointer (some ⟨gp,4,none⟩)] 88));have HOA:=Za (Zbq (w':=wr.alloc (.cells #[.int .i64 (-1),.pointer (some ⟨gp,4,none⟩)] 88)) how (fun g hg=>Below.heap_alloc _ _ g (how.lt g hg).2));have HTW:=Za (ZjH wr 88 (.int .i64 (-1)) (.pointer (some ⟨gp,4,none⟩)));clear how hb hjn;go_wp2_with (at_builtin;refine wpList_append_own_at _ rfl (.tmp 25) (.tmp 30) 83 rfl w.heap.size 88 i3 _ 2 16 Try.underlying83 hi3 hz0 hz1 hz2 rfl (by decide) u3 j (evL oo j) rfl HOA.out ⟨wr.heap.size,0,none⟩ 1 1 [.int .i64 (-1),.pointer (some ⟨gp,4,none⟩)] rfl rfl HTW.out (by simp [Value.oneCell']) (by unfold maxLen;have:=HNO.out;omega) (by have:=HNO.out;omega) (by have:=HB.out.size;simp;omega) ?_;rintro v3 w3 hown3 hgr3 hnil3 hat3;clear hnil3 hat3;have HO9:=Za hown3;have HG9:=Za hgr3;clear hown3 hgr3);go_ret;exact ⟨_,rfl,HO9.out,HBA.out.trans (Zan HG9.out (fun g hg=>(HOA.out.lt g hg).1) HBA.out.size)⟩
end Go.Proofs.Ytdpokdcendgfeaa
