/- Several texts in one: The rows of a right event as a tree: spans of rows, their kids. Nothing here names the program. The walks of gen.plain, gen.behind. What gen makes of a plan, as functions on lists. Nothing here names the program. Conditions: those of each. -/
import Derived.Test.YtdpokdcendgfeaaW2
import Derived.Test.YtdpokdcendgfeaaW1
set_option linter.unusedSimpArgs false
set_option linter.unusedVariables false
set_option maxHeartbeats 80000000
set_option maxRecDepth 100000
namespace Go.Proofs.Ytdpokdcendgfeaa
open Go.RowKit
def ZH (R:Int→Nat→Nat→Prop):List Int→Nat→List (Nat×Nat)→Nat→Prop
 | [],i,[],e=>i=e
 | w::ws,i,r::sp,e=>r.1=i∧R w r.1 r.2∧ZH R ws r.2 sp e
 | _,_,_,_=>False
def Z8 (x:Ac) (k0:Int):List Int:=if x.k=1 then List.replicate x.n.toNat 0 else if x.k=34 then [4,Zn k0] else kidsV x.k x.n
def Wf (P:Pl) (l:List Ac):Nat→Int→Nat→Nat→Prop
 | 0,_,_,_=>False
 | f+1,what,i,e=>∃x sp,l[i]? = some x∧ZE what x.k=true∧Zu P x=true∧0≤x.n∧(x.k≠1→x.n=((kidsV x.k x.n).length:Int)) ∧
  ZH (Wf P l f) (Z8 x ((l[i+1]?.map Ac.k).getD 0)) (i+1) sp e∧(x.k=1→∀r ∈ sp,∀y,l[r.1]? = some y→y.k=9→handV P l r.1≠0)
section
variable {P:Pl} {l:List Ac}
theorem Zjq {i:Nat} {x:Ac} (hx:l[i]? = some x) (h:handV P l i≠0):x.n=0∧Zu P x=true∧∀j,0<j→j<handV P l i→∃y,l[i+j]? = some y∧y.n=0∧Zu P y=true∧(y.k=10∨y.k=11∨y.k=12):=by
 unfold handV at h ⊢;simp only [hx] at h ⊢
 cases h1:l[i+1]? with
 | none=>simp [h1] at h
 | some y =>
  simp only [h1] at h ⊢;split at h
  · next hg =>
    rw [if_pos hg];simp only [Bool.and_eq_true,decide_eq_true_eq] at hg;obtain ⟨⟨g1,g2⟩,g3,g4⟩:=hg;refine ⟨g1,g2,?_⟩;split at h
    · next h2 =>
      rw [if_pos h2];simp only [Bool.or_eq_true,Bool.and_eq_true,decide_eq_true_eq] at h2;intro j j0 j1;obtain rfl:j=1:=by omega
      exact ⟨y,h1,g3,g4,by rcases h2 with h2 | h2 <;> omega⟩
    · next h2 =>
      rw [if_neg h2];split at h
      · exact absurd rfl h
      · next h3 =>
        rw [if_neg h3]
        cases h4:l[i+2]? with
        | none=>simp [h4] at h
        | some z =>
         simp only [h4] at h ⊢;split at h
         · next h5 =>
           rw [if_pos h5];simp only [Bool.or_eq_true,Bool.and_eq_true,decide_eq_true_eq] at h5;obtain ⟨⟨z1,z2⟩,z3⟩:=h5;intro j j0 j1;obtain rfl | rfl:j=1∨j=2:=by omega
           · exact ⟨y,h1,g3,g4,by omega⟩
           · exact ⟨z,h4,z1,z2,by rcases z3 with z3 | z3 <;> omega⟩
         · exact absurd rfl h
  · exact absurd rfl h
theorem Zis {f:Nat} {i:Nat} {x:Ac} (hx:l[i]? = some x) (hn:x.n=0) (hv:Zu P x=true) (hk:9≤x.k∧x.k≤12):Wf P l (f+1) 0 i (i+1):=by
 refine ⟨x,[],hx,?_,hv,by omega,fun _=>?_,?_,fun _ r hr=>by cases hr⟩
 · simp [ZE];omega
 · have:kidsV x.k x.n=[]:=by
    unfold kidsV
    repeat rw [if_neg (by omega)]
   rw [this,hn];rfl
 · have:Z8 x ((l[i+1]?.map Ac.k).getD 0)=[]:=by
    unfold Z8;rw [if_neg (by omega),if_neg (by omega)];unfold kidsV
    repeat rw [if_neg (by omega)]
   rw [this];rfl
theorem ZjA {f:Nat} (hrow:∀what i e n,Zo P l f i what=some (e,n)→Wf P l (f+1) what i e):∀(m i e:Nat),Zs P l (Zo P l f) m i=some e →
 ∃sp,ZH (Wf P l (f+1)) (List.replicate m 0) i sp e∧∀r ∈ sp,∀y,l[r.1]? = some y→y.k=9→handV P l r.1≠0:=by
 intro m
 induction m using Nat.strongRecOn with
 | ind m ih =>
  intro i e h;unfold Zs at h
  by_cases hm:m=0
  · simp only [hm,dite_true,Option.some.injEq] at h;subst h hm;exact ⟨[],rfl,fun r hr=>by cases hr⟩
  · simp only [hm,dite_false] at h
    cases hx:l[i]? with
    | none=>simp [hx] at h
    | some x =>
     simp only [hx] at h;split at h
     · next hk =>
       split at h
       · cases h
       · next hh =>
         obtain ⟨h1,h2⟩:=ZbU (P:=P) (l:=l) (i:=i) (by omega);obtain ⟨sp,hk2,hh2⟩:=ih _ (by omega) _ _ h;obtain ⟨a1,a2,a3⟩:=Zjq (P:=P) hx (by omega);have w0:Wf P l (f+1) 0 i (i+1):=Zis hx a1 a2 (by omega)
         have hw:∀j,0<j→j<handV P l i→Wf P l (f+1) 0 (i+j) (i+j+1)∧∀y,l[i+j]? = some y→y.k=9→handV P l (i+j)≠0:=fun j j0 j1=>by
          obtain ⟨y,b1,b2,b3,b4⟩:=a3 j j0 j1;exact ⟨Zis b1 b2 b3 (by omega),fun y' hy' h9=>by rw [b1] at hy';injection hy' with hy';subst hy';omega⟩
         rcases h1 with h1 | h1
         · rw [h1] at hk2 hw hh;obtain ⟨p,hp⟩:∃p,m=p+1+1:=⟨m - 2,by omega⟩;subst hp;have e1:=hw 1 (by omega) (by omega);refine ⟨(i,i+1)::(i+1,i+2)::sp,⟨rfl,w0,rfl,e1.1,by simpa using hk2⟩,?_⟩;intro r hr y hy h9;simp only [List.mem_cons] at hr;rcases hr with rfl | rfl | hr
           · show handV P l i≠0;omega
           · exact e1.2 y hy h9
           · exact hh2 r hr y hy h9
         · rw [h1] at hk2 hw hh;obtain ⟨p,hp⟩:∃p,m=p+1+1+1:=⟨m - 3,by omega⟩;subst hp;have e1:=hw 1 (by omega) (by omega);have e2:=hw 2 (by omega) (by omega);refine ⟨(i,i+1)::(i+1,i+2)::(i+2,i+3)::sp,⟨rfl,w0,rfl,e1.1,rfl,e2.1,by simpa using hk2⟩,?_⟩;intro r hr y hy h9;simp only [List.mem_cons] at hr;rcases hr with rfl | rfl | rfl | hr
           · show handV P l i≠0;omega
           · exact e1.2 y hy h9
           · exact e2.2 y hy h9
           · exact hh2 r hr y hy h9
     · next hk =>
       split at h
       · cases h
       · cases hw:Zo P l f i 0 with
         | none=>simp [hw] at h
         | some en =>
          obtain ⟨e2,n2⟩:=en;simp only [hw] at h;obtain ⟨sp,hk2,hh2⟩:=ih _ (by omega) _ _ h;obtain ⟨p,hp⟩:∃p,m=p+1:=⟨m - 1,by omega⟩;subst hp;refine ⟨(i,e2)::sp,⟨rfl,hrow _ _ _ _ hw,by simpa using hk2⟩,?_⟩;intro r hr y hy h9;simp only [List.mem_cons] at hr;rcases hr with rfl | hr
          · rw [hx] at hy;injection hy with hy;subst hy;exact absurd h9 hk
          · exact hh2 r hr y hy h9
theorem ZgR {f:Nat} (hrow:∀what i e n,Zo P l f i what=some (e,n)→Wf P l (f+1) what i e) (k:Int):∀(ws:List Int) (j i e:Nat) (kind wants n:Int),(∀w ∈ ws,w≠4)→Zw l (Zo P l f) k ws j i kind wants=some (e,n) →
 ∃sp,ZH (Wf P l (f+1)) ws i sp e
 | [],j,i,e,kind,wants,n,_,h=>by
  simp only [Zw,Option.some.injEq,Prod.mk.injEq] at h;exact ⟨[],h.1⟩
 | w::ws,j,i,e,kind,wants,n,h4,h=>by
  simp only [Zw] at h;have hw:w≠4:=h4 w (by simp);rw [if_neg (fun hh=>hw hh.1)] at h
  cases hr:Zo P l f i w with
  | none=>simp [hr] at h
  | some en =>
   obtain ⟨e2,n2⟩:=en;simp only [hr] at h;obtain ⟨sp,hk⟩:=ZgR hrow k ws _ _ _ _ _ _ (fun w' hw'=>h4 w' (by simp [hw'])) h;exact ⟨(i,e2)::sp,rfl,hrow _ _ _ _ hr,hk⟩
theorem Zjh {f:Nat} (hrow:∀what i e n,Zo P l f i what=some (e,n)→Wf P l (f+1) what i e) {k:Int} {i e:Nat} {n:Int} (h:Zw l (Zo P l f) k [4,4] 0 i 0 0=some (e,n)) :
 ∃sp,ZH (Wf P l (f+1)) [4,Zn ((l[i]?.map Ac.k).getD 0)] i sp e:=by
 simp only [Zw] at h;rw [if_neg (by simp)] at h
 cases hr:Zo P l f i 4 with
 | none=>simp [hr] at h
 | some en =>
  obtain ⟨e2,n2⟩:=en;simp only [hr] at h;rw [if_pos (by simp)] at h
  cases hr2:Zo P l f e2 (Zn ((l[i]?.map Ac.k).getD 0)) with
  | none=>simp [hr2] at h
  | some en2 =>
   obtain ⟨e3,n3⟩:=en2;simp only [hr2,Option.some.injEq,Prod.mk.injEq] at h;exact ⟨[(i,e2),(e2,e3)],rfl,hrow _ _ _ _ hr,rfl,hrow _ _ _ _ hr2,h.1⟩
theorem Zji {k n:Int} (h:k≠34):∀w ∈ kidsV k n,w≠4:=by
 intro w hw;unfold kidsV at hw
 (repeat' split at hw) <;> simp at hw <;> omega
theorem ZcX:∀(f:Nat) (what:Int) (i e:Nat) (n:Int),Zo P l f i what=some (e,n)→Wf P l (f+1) what i e
 | 0,what,i,e,n,h=>by simp [Zo] at h
 | f+1,what,i,e,n,h=>by
  have hrow:=ZcX f;unfold Zo at h
  cases hx:l[i]? with
  | none=>simp [hx] at h
  | some x =>
   simp only [hx] at h;split at h
   · next hg =>
     simp only [Bool.and_eq_true] at hg;split at h
     · next hk =>
       split at h
       · cases h
       · next hn =>
         cases hb:Zs P l (Zo P l f) x.n.toNat (i+1) with
         | none=>simp [hb] at h
         | some e2 =>
          simp only [hb,Option.map_some,Option.some.injEq,Prod.mk.injEq] at h;obtain ⟨rfl,_⟩:=h;obtain ⟨sp,h1,h2⟩:=ZjA hrow _ _ _ hb;exact ⟨x,sp,hx,hg.1,hg.2,by omega,fun h9=>absurd hk h9,by unfold Z8;rw [if_pos hk];exact h1,fun _=>h2⟩
     · next hk =>
       split at h
       · cases h
       · next hn =>
         have hn2:x.n=((kidsV x.k x.n).length:Int):=by simpa using hn
         cases hb:Zw l (Zo P l f) x.k (kidsV x.k x.n) 0 (i+1) 0 0 with
         | none=>simp [hb] at h
         | some en =>
          obtain ⟨e2,n2⟩:=en;simp only [hb] at h;split at h
          · simp only [Option.some.injEq,Prod.mk.injEq] at h;obtain ⟨rfl,_⟩:=h
            by_cases h34:x.k=34
            · have hkv:kidsV x.k x.n=[4,4]:=by rw [h34];rfl
              rw [hkv] at hb;obtain ⟨sp,h1⟩:=Zjh hrow hb;exact ⟨x,sp,hx,hg.1,hg.2,by omega,fun _=>hn2,by unfold Z8;rw [if_neg hk,if_pos h34];exact h1,fun h9=>absurd h9 hk⟩
            · obtain ⟨sp,h1⟩:=ZgR hrow x.k _ _ _ _ _ _ _ (Zji h34) hb;exact ⟨x,sp,hx,hg.1,hg.2,by omega,fun _=>hn2,by unfold Z8;rw [if_neg hk,if_neg h34];exact h1,fun h9=>absurd h9 hk⟩
          · cases h
   · cases h
theorem ZiF {R:Int→Nat→Nat→Prop} (hR:∀w i e,R w i e→i<e∧e≤l.length):∀(ws:List Int) (i:Nat) (sp:List (Nat×Nat)) (e:Nat),ZH R ws i sp e→i≤l.length→i≤e∧e≤l.length
 | [],i,[],e,h,hi=>by
  simp only [ZH] at h;omega
 | w::ws,i,r::sp,e,h,hi=>by
  obtain ⟨h1,h2,h3⟩:=h;have:=hR _ _ _ h2;have:=ZiF hR ws _ sp e h3 this.2;omega
 | [],i,r::sp,e,h,_=>by simp [ZH] at h
 | w::ws,i,[],e,h,_=>by simp [ZH] at h
theorem Zc6:∀(f:Nat) (what:Int) (i e:Nat),Wf P l f what i e→i<e∧e≤l.length
 | 0,what,i,e,h=>h.elim
 | f+1,what,i,e,⟨x,sp,hx,_,_,_,_,hk,_⟩=>by
  have:=(gs_ hx).1;have:=ZiF (Zc6 f) _ _ _ _ hk (by omega);omega
theorem Zfe {R:Int→Nat→Nat→Prop}:∀(ws:List Int) (i:Nat) (sp:List (Nat×Nat)) (e:Nat),ZH R ws i sp e→sp.length=ws.length
 | [],i,[],e,h=>rfl
 | w::ws,i,r::sp,e,h=>by simp [Zfe ws _ sp e h.2.2]
 | [],i,r::sp,e,h=>by simp [ZH] at h
 | w::ws,i,[],e,h=>by simp [ZH] at h
theorem Zer {x:Ac} {k0:Int} (h0:0≤x.n) (h1:x.k≠1→x.n=((kidsV x.k x.n).length:Int)):((Z8 x k0).length:Int)=x.n:=by
 unfold Z8;split
 · simp;omega
 · next h2 =>
   split
   · next h3 =>
     rw [h1 h2,h3];rfl
   · exact (h1 h2).symm
theorem ZhI {R:Int→Nat→Nat→Prop} (hR:∀w i e,R w i e→∀b:Nat,ZV l i (1+(b:Int))=ZV l e b):∀(ws:List Int) (i:Nat) (sp:List (Nat×Nat)) (e:Nat),ZH R ws i sp e→∀b:Nat,ZV l i ((ws.length:Int)+(b:Int))=ZV l e b
 | [],i,[],e,h,b=>by
  simp only [ZH] at h;subst h
  simp
 | w::ws,i,r::sp,e,h,b=>by
  obtain ⟨rfl,h2,h3⟩:=h;have h4:=hR _ _ _ h2 (ws.length+b);have h5:=ZhI hR ws _ sp e h3 b;rw [←h5,List.length_cons];rw [show (((ws.length+1:Nat):Int)+(b:Int))=1+((ws.length+b:Nat):Int) by omega,h4];congr 1
 | [],i,r::sp,e,h,_=>by simp [ZH] at h
 | w::ws,i,[],e,h,_=>by simp [ZH] at h
theorem Zhe:∀(f:Nat) (what:Int) (i e:Nat),Wf P l f what i e→∀b:Nat,ZV l i (1+(b:Int))=ZV l e b
 | 0,what,i,e,h,b=>h.elim
 | f+1,what,i,e,⟨x,sp,hx,_,_,h0,hn,hk,_⟩,b=>by
  rw [Zar (by omega) hx];have h1:=ZhI (Zhe f) _ _ _ _ hk b;rw [Zer h0 hn] at h1;rw [←h1];congr 1;omega
theorem ZbX {f:Nat} {what:Int} {i e:Nat} (h:Wf P l f what i e):ZV l i 1=some e:=by
 have h1:=Zhe f what i e h 0;rw [Zay (i:=e) (left:=((0:Nat):Int)) (by simp)] at h1;exact h1
theorem ZfT {R:Int→Nat→Nat→Prop} (hR:∀w i e,R w i e→ZV l i 1=some e):∀(ws:List Int) (i:Nat) (sp:List (Nat×Nat)) (e:Nat),ZH R ws i sp e→ZR l ws.length i=some sp
 | [],i,[],e,h=>rfl
 | w::ws,i,r::sp,e,h=>by
  obtain ⟨rfl,h2,h3⟩:=h;simp only [List.length_cons,ZR,hR _ _ _ h2,ZfT hR ws _ sp e h3,Option.map_some]
 | [],i,r::sp,e,h=>by simp [ZH] at h
 | w::ws,i,[],e,h=>by simp [ZH] at h
theorem ZeZ {R:Int→Nat→Nat→Prop} (hR:∀w i e,R w i e→i<e):∀(ws:List Int) (i:Nat) (sp:List (Nat×Nat)) (e:Nat),ZH R ws i sp e→∀j,i≤j→j<e→∃w r,r ∈ sp∧R w r.1 r.2∧r.1≤j∧j<r.2∧r.2≤e
 | [],i,[],e,h,j,h1,h2=>by
  simp only [ZH] at h;omega
 | w::ws,i,r::sp,e,h,j,h1,h2=>by
  obtain ⟨rfl,h3,h4⟩:=h;rcases Nat.lt_or_ge j r.2 with h5 | h5
  · refine ⟨w,r,by simp,h3,h1,h5,?_⟩;clear h5
    have:∀(ws:List Int) (i:Nat) (sp:List (Nat×Nat)) (e:Nat),ZH R ws i sp e→i≤e:=by
     intro ws
     induction ws with
     | nil =>
      intro i sp e h
      cases sp with
      | nil=>simp only [ZH] at h;omega
      | cons=>simp [ZH] at h
     | cons w ws ih =>
      intro i sp e h
      cases sp with
      | nil=>simp [ZH] at h
      | cons r sp =>
       obtain ⟨rfl,a1,a2⟩:=h;have:=hR _ _ _ a1;have:=ih _ _ _ a2;omega
    exact this _ _ _ _ h4
  · obtain ⟨w',r',a1,a2,a3,a4,a5⟩:=ZeZ hR ws _ sp e h4 j h5 h2;exact ⟨w',r',by simp [a1],a2,a3,a4,a5⟩
 | [],i,r::sp,e,h,j,_,_=>by simp [ZH] at h
 | w::ws,i,[],e,h,j,_,_=>by simp [ZH] at h
theorem Zdv:∀(f:Nat) (what:Int) (i e:Nat),Wf P l f what i e→∀j,i≤j→j<e→∃f' what' e',Wf P l f' what' j e'∧e'≤e
 | 0,what,i,e,h,j,_,_=>h.elim
 | f+1,what,i,e,h,j,h1,h2=>by
  rcases Nat.eq_or_lt_of_le h1 with rfl | h3
  · exact ⟨f+1,what,e,h,lr_⟩
  · obtain ⟨x,sp,hx,_,_,h0,hn,hk,_⟩:=h;obtain ⟨w,r,a1,a2,a3,a4,a5⟩:=ZeZ (fun w i e h=>(Zc6 f w i e h).1) _ _ _ _ hk j h3 h2;obtain ⟨f',what',e',b1,b2⟩:=Zdv f w r.1 r.2 a2 j a3 a4;exact ⟨f',what',e',b1,by omega⟩
theorem ZcG (h:Zy P l=true) (h0:l≠[]):Wf P l (l.length+2) 1 0 l.length:=by
 unfold Zy at h;have h1:l.isEmpty=false:=by simpa using h0
 rw [h1,Bool.false_or] at h
 cases hr:Zo P l (l.length+1) 0 1 with
 | none=>simp [hr] at h
 | some en =>
  obtain ⟨e,n⟩:=en;simp only [hr,decide_eq_true_eq] at h;have h2:=ZcX _ _ _ _ _ hr;have h3:=Zc6 _ _ _ _ h2;obtain rfl:e=l.length:=by omega
  exact h2
end
def ZjS (k:Int):Int×Bool:=if 6≤k∧k≤16 then (k+25,true) else if 19≤k∧k≤22 then (k - 18,true) else if k=23 then (7,true) else if k=24 then (8,true) else (0,false)
def ZmS (k:Int):Int:=if 26≤k∧k≤36 then k - 15 else 28
structure In where
 (o a b c d:Int)
deriving DecidableEq
structure Cd where
 i:In
 row:Nat
 to:Option Nat
def Zd6 (o a b c d:Int) (row:Nat):Cd:=⟨⟨o,a,b,c,d⟩,row,none⟩
def Zed (o:Int) (row to:Nat):Cd:=⟨⟨o,0,0,0,0⟩,row,some to⟩
def ZlY (row:Nat) (y:Ac) (tag x e:Int):Cd:=if y.k=17 then Zd6 x tag 0 0 0 row else Zd6 e y.a y.b tag 0 row
def ZkZ (g:Nat→Nat→List Cd):List Nat→Nat→List Cd
 | [],_=>[]
 | k::ks,c=>g k c++ZkZ g ks (c+(g k c).length)
def ifC (g:Nat→Nat→List Cd) (i:Nat) (k:List Nat) (c:Nat):List Cd :=
 match k with
 | [a,b] =>
  let m:=g a c;let n:=g b (c+m.length+1)
  m++Zed 23 i (c+m.length+1+n.length)::n
 | [a,b,d] =>
  let m:=g a c;let n:=g b (c+m.length+1);let o:=g d (c+m.length+1+n.length+1)
  m++Zed 23 i (c+m.length+1+n.length+1)::(n++Zed 22 i (c+m.length+1+n.length+1+o.length)::o)
 | _=>[]
def ZnC (g:Nat→Nat→List Cd) (i:Nat) (x:Ac) (k:List Nat) (c:Nat):List Cd :=
 match k with
 | [a,b] =>
  let m:=g a (c+2);let n:=g b (c+2+m.length+1);let e:=c+2+m.length+1+n.length+1
  Zd6 24 x.a 0 0 0 i::Zed 25 i e::(m++Zed 26 i e::(n++[Zd6 27 ((c:Int)+1) 0 0 0 i]))
 | _=>[]
def ZnU (g:Nat→Nat→List Cd) (i:Nat) (k:List Nat) (c:Nat):List Cd :=
 match k with
 | [a,b] =>
  let m:=g a c;let n:=g b (c+m.length+1);let f:=c+m.length+1+n.length+1
  m++Zed 23 i f::(n++[Zed 22 i (f+1),Zd6 2 0 0 0 0 i])
 | _=>[]
def orC (g:Nat→Nat→List Cd) (i:Nat) (k:List Nat) (c:Nat):List Cd :=
 match k with
 | [a,b] =>
  let m:=g a c;let f:=c+m.length+1+1+1;let n:=g b f
  m++Zed 23 i f::Zd6 2 1 0 0 0 i::Zed 22 i (f+n.length)::n
 | _=>[]
def ZnF (l:List Ac) (i:Nat) (x:Ac):List Nat:=((ZR l x.n.toNat (i+1)).getD []).map Prod.fst
def Znz (l:List Ac):Nat→Nat→Nat→List Cd
 | 0,_,_=>[]
 | f+1,i,c =>
  match l[i]? with
  | none=>[]
  | some x =>
   if (ZjS x.k).2=true then [Zd6 (ZjS x.k).1 x.a x.b x.c x.d i] else
   let k:=ZnF l i x;let g:=Znz l f
   if x.k=1 then ZkZ g k c
   else if x.k=2 then ifC g i k c
   else if x.k=3 then ZnC g i x k c
   else if x.k=5 then (let m:=g (k[1]?.getD 0) c;m++[ZlY i ((l[k[0]?.getD 0]?).getD ⟨0,0,0,0,0,0⟩) x.a 29 30])
   else if x.k=25 then [ZlY i ((l[k[0]?.getD 0]?).getD ⟨0,0,0,0,0,0⟩) x.a 9 10]
   else if x.k=37 then ZnU g i k c
   else if x.k=38 then orC g i k c
   else (let m:=ZkZ g k c;m++[Zd6 (ZmS x.k) x.a 0 0 0 i])
def Cd.fin (x:Cd):In:=match x.to with | none=>x.i | some t=>{ x.i with a:=(t:Int) }
def evC (l:List Ac):List Cd:=Znz l (l.length+2) 0 0++[Zd6 0 0 0 0 0 0]
def ZnO (at_:Nat) (x:In):In:=if x.o=22∨x.o=23∨x.o=25∨x.o=26∨x.o=27 then { x with a:=x.a+(at_:Int) } else x
structure Mk where
 on:List Int
 cd:List In
 ev:List Int
 rw:List Int
def Mk.add (m:Mk) (n:Int) (l:List Ac):Mk×Int :=
 if l.isEmpty then (m,-1) else ({ m with cd:=m.cd++(evC l).map (fun x=>ZnO m.cd.length x.fin),ev:=m.ev++List.replicate (evC l).length n,rw:=m.rw++(evC l).map (fun x=>(x.row:Int)) },(m.cd.length:Int))
end Go.Proofs.Ytdpokdcendgfeaa
