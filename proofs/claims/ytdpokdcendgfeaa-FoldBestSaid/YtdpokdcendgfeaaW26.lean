/- Several texts in one: Plain law: a look at an expression, said by both. Plain law: a look at a doing, said by both. Plain law: a look at a row, said by both. Plain law: a look at a row and the first look in an event, said by both. Conditions: those of each. -/
import Derived.Test.YtdpokdcendgfeaaW17
set_option linter.unusedSimpArgs false
set_option linter.unusedVariables false
set_option maxHeartbeats 80000000
set_option maxRecDepth 100000
namespace Go.Proofs.Ytdpokdcendgfeaa
open Go.RowKit
section
variable {P:Pl} {l:List Ac}
theorem Ze5 {f:Nat} {what:Int} {i e:Nat} (R:RowW P l f what i e) (h:(rowL l i).k=20):(rowL l i).a=0∨(rowL l i).a=1:=by
 have hn:=R.num;unfold Zu at hn;simp [h,Zp] at hn;omega
theorem Zko {f:Nat} {what:Int} {i e:Nat} (R:RowW P l f what i e) (h:ZN (rowL l i)=true):-1073741824≤(rowL l i).a∧(rowL l i).a≤1073741824:=by
 have hn:=R.num;unfold ZN at h;simp only [Bool.or_eq_true,decide_eq_true_eq] at h;unfold Zu at hn;rcases h with q | q
 · simp [q,Zp] at hn;omega
 · simp [q,Zp] at hn;omega
theorem ZgD {i e:Nat}:(sub l (i,e)).drop 1=sub l (i+1,e):=by
 unfold sub;simp only;rw [List.drop_take,List.drop_drop];congr 1
theorem Zlz {f:Nat} {what:Int} {i e:Nat} (R:RowW P l f what i e) (hk:(rowL l i).k=28∨(rowL l i).k=29) :
 ((Za5 (rowL l i).k ((spL l i).map (sub l)) (hsL l (spL l i))).map fun r=>((r.1:Int),Zaa l i (r.2.getD [])))=Zc8 l i:=by
 have hn:=R.n (by omega);have hl:=R.len;have hk1:(kidsV (rowL l i).k (rowL l i).n).length=1:=by rcases hk with q | q <;> simp [kidsV,q]
 obtain ⟨f0,w0,hsp,R0,hw⟩:=ZeW R (by omega);have hb:Zd5 l i=i+1:=by unfold Zd5;rw [if_neg (by omega)];rfl
 have ha:ZU l i 0=i+1:=rfl;have hfx:=Zko R0;have h20:=Ze5 R0
 have hdeep:(rowL l (i+1)).k=(rowL l i).k→ZF l (i+1+1)=(sub l (i+1,e)).drop 1:=fun q=>by
  have hn':=R0.n (by omega);have hl':=R0.len;have hk1':(kidsV (rowL l (i+1)).k (rowL l (i+1)).n).length=1:=by rw [q];rcases hk with q | q <;> simp [kidsV,q]
  obtain ⟨f1,w1,_,R1,_⟩:=ZeW R0 (by omega);rw [ZgD];unfold ZF;rw [R1.ee]
 have hmay:=R0.may
 have h29:(rowL l i).k=29→ZN (rowL l (i+1))=true→(rowL l (i+1)).a=0∨(rowL l (i+1)).a=1:=fun q hf=>by
  apply h20;unfold Z8 at hw;rw [q] at hw;simp [kidsV] at hw;subst hw;unfold ZN at hf;simp only [Bool.or_eq_true,decide_eq_true_eq] at hf;rcases hf with q | q
  · rw [q] at hmay;simp [ZE,Zn] at hmay
  · exact q
 rw [hsp];unfold Zc8 Za5 hsL;simp only [List.map_cons,List.map_nil,hb,ha];obtain ⟨h0,hh0⟩:∃x,rowL l (i+1)=x:=⟨_,rfl⟩;obtain ⟨k,hkk⟩:∃x,(rowL l i).k=x:=⟨_,rfl⟩;obtain ⟨ka,hka⟩:∃x,sub l (i+1,e)=x:=⟨_,rfl⟩;rw [hh0] at hfx h20 h29 hdeep;rw [hkk] at hk h29 hdeep;rw [hka] at hdeep;rw [hh0,hkk,hka];have hr:Zbz k=true:=by rcases hk with q | q <;> subst q <;> rfl
 have hc:Zas k [h0]=if ZN h0=true then ZI k h0.a h0.a else none:=by unfold Zas;simp [ZdV,Zec]
 rw [hc]
 by_cases hf:ZN h0=true
 · rw [if_pos hf,Zfi (hfx hf) (fun q=>h29 q hf),if_pos hr]
   dsimp only
   rw [if_pos (show Zbz k=true∧ZN h0=true∧ZN h0=true from ⟨hr,hf,hf⟩)];rfl
 · rw [if_neg hf]
   dsimp only
   rw [if_neg (show ¬(Zbz k=true∧ZN h0=true∧ZN h0=true) from fun q=>hf q.2.1),if_neg (show ¬(k=37∨k=38) by omega)]
   by_cases hq:h0.k=k
   · rw [if_pos (show (k=28∨k=29)∧h0.k=k from ⟨hk,hq⟩),if_pos (show (k=29∨k=28)∧h0.k=k from ⟨hk.symm,hq⟩),hdeep hq];rfl
   · rw [if_neg (show ¬((k=28∨k=29)∧h0.k=k) from fun q=>hq q.2),if_neg (show ¬((k=29∨k=28)∧h0.k=k) from fun q=>hq q.2)];unfold Zhp;simp only [hkk];rcases hk with q | q <;> subst q <;> simp
theorem Zly {f:Nat} {what:Int} {i e:Nat} (R:RowW P l f what i e) (hk:(rowL l i).k=26∨(rowL l i).k=27∨(30≤(rowL l i).k∧(rowL l i).k≤38)) :
 ((Za5 (rowL l i).k ((spL l i).map (sub l)) (hsL l (spL l i))).map fun r=>((r.1:Int),Zaa l i (r.2.getD [])))=Zc8 l i:=by
 have hn:=R.n (by omega);have hl:=R.len;obtain ⟨k,hkk⟩:∃x,(rowL l i).k=x:=⟨_,rfl⟩
 have hk2:(kidsV (rowL l i).k (rowL l i).n).length=2:=by
  rw [hkk] at hk ⊢;have:k=26∨k=27∨k=30∨k=31∨k=32∨k=33∨k=34∨k=35∨k=36∨k=37∨k=38:=by omega
  rcases this with q | q | q | q | q | q | q | q | q | q | q <;> subst q <;> simp [kidsV]
 obtain ⟨m,f0,w0,w1,hsp,hw0,hw1,hw⟩:=Zd3 R (by omega);have R0:=ZQ hw0;have R1:=ZQ hw1
 have hb:Zd5 l i=m:=by
  unfold Zd5;rw [if_pos (by omega)];exact R0.ee
 have ha:ZU l i 0=i+1:=rfl;have hta:Zbr l (i+1) (endL l (i+1))=ZK (sub l (i+1,m)):=by rw [R0.ee];exact ZdB (Nat.le_of_lt R0.lt) R0.le
 have htb:Zbr l m (endL l m)=ZK (sub l (m,e)):=by rw [R1.ee];exact ZdB (Nat.le_of_lt R1.lt) R1.le
 have hoa:ZF l (i+1)=sub l (i+1,m):=by unfold ZF;rw [R0.ee]
 have hob:ZF l m=sub l (m,e):=by unfold ZF;rw [R1.ee]
 have hfa:=Zko R0;have h20a:=Ze5 R0;have h20b:=Ze5 R1;rw [hsp];unfold Zc8 Za5 hsL;simp only [List.map_cons,List.map_nil,hb,ha];unfold Zhp;simp only [ZmH,hta,htb,hoa,hob];obtain ⟨h0,hh0⟩:∃x,rowL l (i+1)=x:=⟨_,rfl⟩;obtain ⟨h1,hh1⟩:∃x,rowL l m=x:=⟨_,rfl⟩;obtain ⟨ka,hka⟩:∃x,sub l (i+1,m)=x:=⟨_,rfl⟩;obtain ⟨kb,hkb⟩:∃x,sub l (m,e)=x:=⟨_,rfl⟩;rw [hh0] at hfa h20a;rw [hh1] at h20b;simp only [hh0,hh1,hkk,hka,hkb];rw [hkk] at hk;have hc:Zas k [h0,h1]=if ZN h0=true∧ZN h1=true then ZI k h0.a h1.a else none:=by unfold Zas;simp [ZdV,Zec]
 rw [hc]
 by_cases hao:k=37∨k=38
 · have hr:Zbz k=false:=by rcases hao with q | q <;> subst q <;> rfl
   have hcn:∀a b,ZI k a b=none:=fun a b=>by rcases hao with q | q <;> subst q <;> rfl
   simp only [hcn,ite_self];rw [if_neg (show ¬(Zbz k=true∧ZN h0=true∧ZN h1=true) by rw [hr];simp)];unfold ZaO;simp only [hao,if_true];unfold ZcB Zai
   by_cases q0:h0.k=20
   · rcases h20a q0 with z | z <;> rcases hao with q | q <;> subst q <;> simp [q0,z]
   · by_cases q1:h1.k=20
     · cases ht:ZK ka <;> rcases h20b q1 with z | z <;> rcases hao with q | q <;> subst q <;> simp [q0,q1,z]
     · simp [q0,q1]
 · have hr:Zbz k=true:=by
    have:k=26∨k=27∨k=30∨k=31∨k=32∨k=33∨k=34∨k=35∨k=36:=by omega
    rcases this with q | q | q | q | q | q | q | q | q <;> subst q <;> rfl
   by_cases hf:ZN h0=true∧ZN h1=true
   · rw [if_pos hf,Zfi (hfa hf.1) (fun q=>by omega),if_pos hr]
     dsimp only
     rw [if_pos (show Zbz k=true∧ZN h0=true∧ZN h1=true from ⟨hr,hf⟩)];rfl
   · rw [if_neg hf]
     dsimp only
     rw [if_neg (show ¬(Zbz k=true∧ZN h0=true∧ZN h1=true) from fun q=>hf q.2),if_neg (show ¬((k=29∨k=28)∧h0.k=k) by omega)];unfold ZaO;simp only [hao,if_false];have:k=26∨k=27∨k=30∨k=31∨k=32∨k=33∨k=34∨k=35∨k=36:=by omega
     rcases this with q | q | q | q | q | q | q | q | q
     · subst q;simp
     · subst q;simp
     · subst q
       cases ZaX h0 1 <;> cases ZaX h1 1 <;> cases ZaX h0 0 <;> cases ZaX h1 0 <;> cases ZK ka <;> cases ZK kb <;> simp
     · subst q;cases ZaX h1 1 <;> simp
     · subst q;cases ZaX h0 0 <;> cases ZaX h1 0 <;> simp
     · subst q;cases ZaX h1 0 <;> simp
     · subst q
       by_cases q0:h0.k=20
       · by_cases z:h0.a=1 <;> simp [q0,z,Ac.kid]
       · by_cases q1:h1.k=20
         · by_cases z:h1.a=1 <;> simp [q0,q1,z,Ac.kid]
         · simp [q0,q1]
     · subst q;simp
     · subst q;simp
theorem Zks {f:Nat} {what:Int} {i e:Nat} (R:RowW P l f what i e) (hk:16<(rowL l i).k) :
 ((Za5 (rowL l i).k ((spL l i).map (sub l)) (hsL l (spL l i))).map fun r=>((r.1:Int),Zaa l i (r.2.getD [])))=ZaA l i:=by
 have hn:=R.n (by omega)
 by_cases h1:(rowL l i).k=28∨(rowL l i).k=29
 · have hk1:(kidsV (rowL l i).k (rowL l i).n).length=1:=by rcases h1 with q | q <;> simp [kidsV,q]
   rw [Zlz R h1];unfold ZaA;simp only;rw [if_pos (by omega)]
 · by_cases h2:(rowL l i).k=26∨(rowL l i).k=27∨(30≤(rowL l i).k∧(rowL l i).k≤38)
   · rw [Zly R h2]
     have hk2:(kidsV (rowL l i).k (rowL l i).n).length=2:=by
      obtain ⟨k,hkk⟩:∃x,(rowL l i).k=x:=⟨_,rfl⟩;rw [hkk] at h2 ⊢;have:k=26∨k=27∨k=30∨k=31∨k=32∨k=33∨k=34∨k=35∨k=36∨k=37∨k=38:=by omega
      rcases this with q | q | q | q | q | q | q | q | q | q | q <;> subst q <;> simp [kidsV]
     unfold ZaA;simp only;rw [if_pos (by omega)]
   · have hcn:Zas (rowL l i).k (hsL l (spL l i))=none:=by
      unfold Zas ZI;obtain ⟨k,hkk⟩:∃x,(rowL l i).k=x:=⟨_,rfl⟩;rw [hkk] at h1 h2 ⊢
      by_cases hq:(hsL l (spL l i)).all ZN=true
      · rw [if_pos hq]
        repeat rw [if_neg (by omega)]
      · rw [if_neg hq]
     rw [ZfX (by omega),hcn]
     have hz:¬(19≤(rowL l i).k∧0<(rowL l i).n∧(rowL l i).k≠25):=fun q=>by
      have:kidsV (rowL l i).k (rowL l i).n=[]:=by
       unfold kidsV
       repeat rw [if_neg (by omega)]
      rw [this] at hn;rw [List.length_nil] at hn;omega
     unfold ZaA;simp only;rw [if_neg hz]
     repeat rw [if_neg (by omega)]
     rfl
end
theorem ZeA {A B:List Ac} {x:Ac} {f:Ac→Ac}:(A++x::B).modify A.length f=A++f x::B:=by
 induction A with
 | nil=>rfl
 | cons a A ih=>simp [List.modify_cons,ih]
section
variable {P:Pl} {l:List Ac}
theorem Zfm {i e:Nat} (h:i≤e):l.take e=l.take i++sub l (i,e):=by
 unfold sub;simp only;rw [show e=i+(e - i) by omega,List.take_add,show i+(e - i) - i=e - i by omega]
theorem ZhW {i e:Nat} (h:i≤e):l.drop i=sub l (i,e)++l.drop e:=by
 unfold sub;simp only;have h1:l.drop e=(l.drop i).drop (e - i):=by rw [List.drop_drop];congr 1;omega
 rw [h1,List.take_append_drop]
theorem Zcn {i m e:Nat} (h1:i≤m) (h2:m≤e):sub l (i,e)=sub l (i,m)++sub l (m,e):=Zgq h1 h2
theorem ZeR {i e:Nat} (h1:i<l.length) (h2:i<e):sub l (i,e)=rowL l i::sub l (i+1,e):=Zcb (Z5 h1) h2
theorem Zda {i:Nat}:sub l (i,i)=[]:=by unfold sub;simp
theorem ZdO {m e s t:Nat} (h1:m≤s) (h2:s≤t) (h3:t≤e):sub (sub l (m,e)) (s - m,t - m)=sub l (s,t):=by
 unfold sub;simp only;rw [List.drop_take,List.drop_drop,List.take_take,show m+(s - m)=s by omega,show min (t - m - (s - m)) (e - m - (s - m))=t - s by omega]
theorem ZeD {R:Int→Nat→Nat→Prop} (hR:∀w i e,R w i e→i<e):∀(ws:List Int) (i:Nat) (sp:List (Nat×Nat)) (e:Nat),ZH R ws i sp e→(sp.map (sub l)).flatten=sub l (i,e)
 | [],i,[],e,h=>by
  simp only [ZH] at h;subst h;rw [Zda];rfl
 | w::ws,i,r::sp,e,h=>by
  have hc:=ZbD hR _ _ _ _ h.2.2;obtain ⟨a,b⟩:=r;obtain ⟨h1,h2,h3⟩:=h;simp only at h1 h2 h3 hc;subst h1;have h4:=hR _ _ _ h2;rw [List.map_cons,List.flatten_cons,ZeD hR ws b sp e h3,←Zcn (by omega) (by omega)]
 | [],i,r::sp,e,h=>by simp [ZH] at h
 | w::ws,i,[],e,h=>by simp [ZH] at h
theorem ZfN {f:Nat} {what:Int} {i e:Nat} (R:RowW P l f what i e) (h:(rowL l i).k=1∨(rowL l i).k=2):rowL l i=⟨(rowL l i).k,0,0,0,0,(rowL l i).n⟩:=by
 have hn:=R.num;unfold Zu at hn
 have h2:(rowL l i).a=0∧(rowL l i).b=0∧(rowL l i).c=0∧(rowL l i).d=0:=by
  rcases h with q | q <;> simp [q] at hn <;> omega
 obtain ⟨a,b,c,d⟩:=h2;generalize rowL l i=x at *
 cases x
 simp at a b c d ⊢;exact ⟨a,b,c,d⟩
structure InIf (P:Pl) (l:List Ac) (m e':Nat) (m1 q:Nat) (rest:List (Nat×Nat)):Prop where
 sp:spL l m=(m+1,m1)::rest
 k:(rowL l (m+1)).k=2
 o:m+2<q∧q<m1∧m1≤e'∧e'≤l.length
 flat:(rest.map (sub l)).flatten=sub l (m1,e')
 e1:endL l (m+1)=m1
 e2:endL l (m+2)=q
 kk:ZR (sub l (m,e')) (rowL l (m+1)).n.toNat 2=some ((spL l (m+1)).map fun r=>(r.1 - m,r.2 - m))
 sh:(spL l (m+1)=[(m+2,q),(q,m1)]∧(rowL l (m+1)).n≠3∧endL l q=m1)∨∃q2,q<q2∧q2<m1∧spL l (m+1)=[(m+2,q),(q,q2),(q2,m1)]∧(rowL l (m+1)).n=3∧endL l q=q2∧endL l q2=m1
theorem ZiH {f:Nat} {what:Int} {i e:Nat} (R:RowW P l f what i e) (hk:(rowL l i).k=2):(((rowL l i).n=2∧(spL l i).length=2)∨((rowL l i).n=3∧(spL l i).length=3))∧Z8 (rowL l i) ((l[i+1]?.map Ac.k).getD 0)=if (rowL l i).n=3 then [3,1,1] else [3,1]:=by
 have hn:=R.n (by omega);have hl:=R.len;have hkv:kidsV (rowL l i).k (rowL l i).n=if (rowL l i).n=3 then [3,1,1] else [3,1]:=by unfold kidsV;rw [if_pos hk]
 rw [hkv] at hn;refine ⟨?_,by unfold Z8;rw [if_neg (by omega),if_neg (by omega),hkv]⟩;split at hn
 · simp at hn;omega
 · simp at hn;omega
theorem Zjm {f:Nat} {what:Int} {m e':Nat} (R:RowW P l f what m e') (hk:(rowL l m).k=1) (h0:(rowL l m).n≠0) (h2:(rowL l (m+1)).k=2):∃m1 q rest,InIf P l m e' m1 q rest:=by
 have hks:=R.ks;have hlen:=R.len;have hn0:=R.n0;have hend:endL l m=e':=R.ee
 match hsp:spL l m,hks,hlen with
 | [],_,hlen=>simp at hlen;omega
 | (a,m1)::rest,hks,hlen =>
  match hw:Z8 (rowL l m) ((l[m+1]?.map Ac.k).getD 0),hks with
  | [],hks=>simp [ZH] at hks
  | w::ws,hks =>
   obtain ⟨h1,h3,h4⟩:=hks;simp only at h1 h3 h4;subst h1;obtain ⟨f',rfl⟩:=Zbe h3;have R1:=ZQ h3;have hcnt:=ZbD wfR _ _ _ _ h4;have hfl:=ZeD (l:=l) wfR _ _ _ _ h4;have hle:=R.le;have hout:=ZbQ wfR _ _ _ _ R1.ks;have hsh:=Zc0 (l:=l) (s:=m) (t:=e') R.le _ _ _ R1.sp (by omega) (by have:=R1.lt;have:=R1.le;omega) (fun r hr=>by have:=(hout r hr).2.2;omega);rw [show m+1+1 - m=2 by omega] at hsh;obtain ⟨hi,_⟩:=ZiH R1 h2;rcases hi with ⟨n2,l2⟩ | ⟨n3,l3⟩
   · obtain ⟨q,f0,w0,w1,hsp1,hw0,hw1,_⟩:=Zd3 R1 l2;have A:=ZQ hw0;have B:=ZQ hw1;exact ⟨m1,q,rest,hsp,h2,⟨A.lt,B.lt,by omega,hle⟩,hfl,R1.ee,A.ee,hsh,.inl ⟨hsp1,by omega,B.ee⟩⟩
   · obtain ⟨q,q2,f0,w0,w1,w2,hsp1,hw0,hw1,hw2,_⟩:=ZfF R1 l3;have A:=ZQ hw0;have B:=ZQ hw1;have C:=ZQ hw2;exact ⟨m1,q,rest,hsp,h2,⟨A.lt,by have:=B.lt;have:=C.lt;omega,by omega,hle⟩,hfl,R1.ee,A.ee,hsh,.inr ⟨q2,B.lt,C.lt,hsp1,n3,B.ee,C.ee⟩⟩
theorem Zh3 {f:Nat} {what:Int} {m e':Nat} (R:RowW P l f what m e'):(sub l (m,e'))[0]? = some (rowL l m):=by rw [Zbx R.lt];exact R.x
theorem Zee {m e' m1 q:Nat} {rest:List (Nat×Nat)} (h:InIf P l m e' m1 q rest) (h0:(rowL l m).n≠0):Zbg (sub l (m,e'))=some ((spL l (m+1)).map fun r=>(r.1 - m,r.2 - m)):=by
 have ho:=h.o;have g0:(sub l (m,e'))[0]? = some (rowL l m):=by rw [Zbx (by simp only;omega)];exact Z5 (by omega)
 have g1:(sub l (m,e'))[1]? = some (rowL l (m+1)):=by
  have:=ZdP (l:=l) (s:=m) (t:=e') (i:=m+1) (by omega) (by omega);rw [show m+1 - m=1 by omega] at this;rw [this];exact Z5 (by omega)
 unfold Zbg;rw [g0,g1];simp only;rw [if_neg (fun q=>by rcases q with q | q;exact h0 q;exact q h.k)];exact h.kk
theorem Zjj {f:Nat} {what:Int} {m e':Nat} (R:RowW P l f what m e') (h:(rowL l m).n=0∨(rowL l (m+1)).k≠2):Zbg (sub l (m,e'))=none:=by
 unfold Zbg;rw [Zh3 R];rcases h with h | h
 · cases h1:(sub l (m,e'))[1]? with
   | none=>rfl
   | some b1=>simp only [h,true_or,if_true]
 · cases h1:(sub l (m,e'))[1]? with
   | none=>rfl
   | some b1 =>
    simp only
    have hlt:m+1<e':=by
     have:=(gs_ h1).1;rw [ZaL R.le] at this;omega
    have:=ZdP (l:=l) (s:=m) (t:=e') (i:=m+1) (by omega) hlt;rw [show m+1 - m=1 by omega,h1,Z5 (by have:=R.le;omega)] at this;injection this with this;rw [this,if_pos (.inr h)]
theorem Zhs {f:Nat} {what:Int} {m e':Nat} (R:RowW P l f what m e') (hk:(rowL l m).k=1) (c:List Ac):ZaE (sub l (m,e')) c=decide ((rowL l m).n≠0∧(rowL l (m+1)).k=2∧ZF l (m+2)=c):=by
 unfold ZaE
 by_cases h:(rowL l m).n≠0∧(rowL l (m+1)).k=2
 · obtain ⟨m1,q,rest,hI⟩:=Zjm R hk h.1 h.2;rw [Zee hI h.1];have ho:=hI.o;have hown:ZF l (m+2)=sub l (m+2,q):=by unfold ZF;rw [hI.e2]
   have hsub:=ZdO (l:=l) (m:=m) (e:=e') (s:=m+2) (t:=q) (by omega) (by omega) (by omega);rcases hI.sh with ⟨hs,_⟩ | ⟨q2,_,_,hs,_⟩
   · rw [hs];simp only [List.map_cons];rw [hsub,hown];simp [h]
   · rw [hs];simp only [List.map_cons];rw [hsub,hown];simp [h]
 · rw [Zjj R (by omega)];simp only;symm;rw [decide_eq_false_iff_not];exact fun q=>h ⟨q.1,q.2.1⟩
theorem Znm {m e' m1 q:Nat} {rest:List (Nat×Nat)} (h:InIf P l m e' m1 q rest) (h0:(rowL l m).n≠0):inK (sub l (m,e')) 1=some (ZF l (ZU l (m+1) 1)):=by
 unfold inK;rw [Zee h h0];have ho:=h.o;have hq:ZU l (m+1) 1=q:=h.e2;rw [hq];unfold ZF;rcases h.sh with ⟨hs,_,he⟩ | ⟨q2,h1,h2,hs,_,he,_⟩
 · rw [hs,he];simp only [List.map_cons,List.getElem?_cons_succ,List.getElem?_cons_zero,Option.map_some];rw [ZdO (by omega) (by omega) (by omega)]
 · rw [hs,he];simp only [List.map_cons,List.getElem?_cons_succ,List.getElem?_cons_zero,Option.map_some];rw [ZdO (by omega) (by omega) (by omega)]
theorem Znl {m e' m1 q:Nat} {rest:List (Nat×Nat)} (h:InIf P l m e' m1 q rest) (h0:(rowL l m).n≠0):inK (sub l (m,e')) 2=if (rowL l (m+1)).n=3 then some (ZF l (ZU l (m+1) 2)) else none:=by
 unfold inK;rw [Zee h h0];have ho:=h.o;have hq:ZU l (m+1) 1=q:=h.e2;have hq2:ZU l (m+1) 2=endL l q:=by show endL l (ZU l (m+1) 1)=_;rw [hq]
 rw [hq2];rcases h.sh with ⟨hs,hn,he⟩ | ⟨q2,h1,h2,hs,hn,he,he2⟩
 · rw [hs,if_neg hn];rfl
 · rw [hs,he,if_pos hn];unfold ZF;rw [he2];simp only [List.map_cons,List.getElem?_cons_succ,List.getElem?_cons_zero,Option.map_some];rw [ZdO (by omega) (by omega) (by omega)]
theorem ZmZ {f:Nat} {what:Int} {m e' m1 q:Nat} {rest:List (Nat×Nat)} (R:RowW P l f what m e') (h:InIf P l m e' m1 q rest):(Zt (sub l (m,e'))).length=rest.length∧(Zt (sub l (m,e'))).flatten=sub l (m1,e'):=by
 have hout:=ZbQ wfR _ _ _ _ R.ks;have hsh:=Zc0 (l:=l) (s:=m) (t:=e') R.le _ _ _ R.sp (by omega) (by have:=R.lt;have:=R.le;omega) (fun r hr=>(hout r hr).2.2);rw [show m+1 - m=1 by omega,h.sp,List.map_cons] at hsh;unfold Zt;rw [Zh3 R];simp only [hsh]
 have hmap:(rest.map fun (r:Nat×Nat)=>(r.1 - m,r.2 - m)).map (sub (sub l (m,e')))=rest.map (sub l):=by
  rw [List.map_map];apply List.map_congr_left;intro r hr;have h1:=hout r (by rw [h.sp];simp [hr]);exact ZdO (by omega) (by omega) (by omega)
 rw [hmap];exact ⟨by simp,h.flat⟩
theorem Zgz {f:Nat} {what:Int} {m e' m1 q:Nat} {rest:List (Nat×Nat)} (R:RowW P l f what m e') (hk:(rowL l m).k=1) (h:InIf P l m e' m1 q rest) (o:Option (List Ac)) :
 Zi (Zt (sub l (m,e'))) o=addN (if o=none then -1 else 0) (rowL l m)::(o.getD []++sub l (m1,e')):=by
 obtain ⟨h1,h2⟩:=ZmZ R h;have hz:=ZfN R (.inl hk);have hlen:=R.len;rw [h.sp] at hlen;simp only [List.length_cons] at hlen;rw [hk] at hz;have hn:(rowL l m).n=(rest.length:Int)+1:=by omega
 rw [hn] at hz;rw [hz];unfold Zi
 cases o with
 | none =>
  simp only [Zgg,List.nil_append,h1,h2,Option.getD_none,if_true];simp [Ac.kid,addN];omega
 | some r =>
  simp only [Zgg,List.cons_append,List.nil_append,List.length_cons,h1,List.flatten_cons,h2,Option.getD_some];simp [Ac.kid,addN]
end
section
variable {P:Pl} {l:List Ac}
theorem ZjG {s j e:Nat} (h1:s<j) (h2:j<endL l s) (h3:∀q,s<q→q<j→endL l q≤j):upL l j j=some s:=Zdg _ h1 h2 h3
theorem ZkE {i e j j1:Nat} {r A B:List Ac} (h1:i≤j) (h2:j1≤e) (hA:A=sub l (i,j)) (hB:B=sub l (j1,e)):ZbE l i e (A++r++B)=ZbE l j j1 r:=by
 unfold ZbE;rw [Zfm h1,ZhW h2,hA,hB];simp only [List.append_assoc]
theorem Zdo {i e:Nat} (h:endL l i=e):ZF l i=sub l (i,e):=by unfold ZF;rw [h]
theorem Zb0 {i e:Nat} {r:List Ac} (h:endL l i=e):Zaa l i r=ZbE l i e r:=by
 unfold Zaa;rw [h,show (1:Int) - 1=0 by decide,ZlU]
theorem ZhD {s j j1:Nat} (h1:s<j) (h2:j<endL l s) (h3:∀q,s<q→q<j→endL l q≤j) (he:endL l j=j1):ZaH l j=(ZbE l j j1 []).modify s (addN (-1)):=by
 unfold ZaH Zav;rw [ZjG (e:=0) h1 h2 h3,he];rfl
theorem ZhK {x:Ac} {n:Nat} (h:x.n=(n:Int)):x.kid n=x:=by
 cases x
 simp only [Ac.kid] at h ⊢;rw [h]
theorem Zio {f:Nat} {what:Int} {i e:Nat} (R:RowW P l f what i e) (hk:(rowL l i).k=2) :
 ((brV (rowL l i) ((spL l i).map (sub l)) (hsL l (spL l i))).map fun r=>((r.1:Int),Zav l i e (r.2.getD []) ((if r.2=none then 0 else 1) - 1)))=Zcr l i:=by
 obtain ⟨hsh,hwn⟩:=ZiH R hk;have hle:=R.le;have hx:=ZfN R (.inr hk);rw [hk] at hx
 have hsw:∀o:Option (List Ac),Zav l i e (o.getD []) ((if o=none then 0 else 1) - 1)=(match o with | some r=>Zaa l i r | none=>ZaH l i):=fun o=>by
  cases o with
  | none =>
   simp only [Option.getD_none,if_true];unfold ZaH;rw [R.ee]
  | some r =>
   simp only [Option.getD_some];unfold Zaa;rw [R.ee]
   simp
 simp only [hsw]
 have main:∀(m e' f0:Nat) (ob:Option (List Ac)) (b0:Ac) (B:List Ac),Wf P l (f0+1) 3 (i+1) m→Wf P l (f0+1) 1 m e'→ZU l i 1=m→B=sub l (e',e)→e'≤e →
  ((ob=none∧(rowL l i).n=2∧e'=e)∨(∃p2,ob=some (sub l (p2,e))∧(rowL l i).n=3∧p2=e'∧b0=rowL l p2∧Wf P l (f0+1) 1 p2 e∧ZU l i 2=p2)) →
  ((Z3 (rowL l i) (sub l (i+1,m)) (sub l (m,e')) ob (rowL l (i+1)) (rowL l m) b0).map fun r=>((r.1:Int),(match r.2 with | some r=>Zaa l i r | none=>ZaH l i)))=Zcr l i:=by
  intro m e' f0 ob b0 B hw0 hw1 hk1 hB hee hob;have R0:=ZQ hw0;have R1:=ZQ hw1
  have hm1:(rowL l m).k=1:=by
   have:=R1.may;simpa [ZE] using this
  have h20:=Ze5 R0;have hc:ZF l (i+1)=sub l (i+1,m):=Zdo R0.ee;have ha:ZF l m=sub l (m,e'):=Zdo R1.ee;have hta:Zbr l (i+1) (endL l (i+1))=ZK (sub l (i+1,m)):=by rw [R0.ee];exact ZdB (Nat.le_of_lt R0.lt) R0.le
  have hdrop:(rowL l (i+1)).k=29→(sub l (i+1,m)).drop 1=ZF l (i+1+1):=fun q=>by
   have hn':=R0.n (by omega);have hl':=R0.len;have hk1':(kidsV (rowL l (i+1)).k (rowL l (i+1)).n).length=1:=by rw [q];simp [kidsV]
   obtain ⟨f1,w1,_,R2,_⟩:=ZeW R0 (by omega);rw [ZgD,Zdo R2.ee]
  have hrow:∀(a:Nat),i<a→a≤e→sub l (i,a)=rowL l i::sub l (i+1,a):=fun a h1 h2=>ZeR (by omega) h1
  have hm_lt:=R1.lt;have hi_lt:=R0.lt
  have h12:(rowL l m).n≠0→(rowL l (m+1)).k=2→Zaa l i ((rowL l i)::(sub l (i+1,m)++Zi (Zt (sub l (m,e'))) (inK (sub l (m,e')) 1))++B)=Zaa l (m+1) (ZF l (ZU l (m+1) 1)):=fun hn h2=>by
   obtain ⟨m1,q,rest,hI⟩:=Zjm R1 hm1 hn h2;have ho:=hI.o;rw [Znm hI hn,Zgz R1 hm1 hI,Zb0 R.ee,Zb0 hI.e1];rw [←ZkE (i:=i) (e:=e) (j:=m+1) (j1:=m1) (r:=ZF l (ZU l (m+1) 1)) (A:=sub l (i,m+1)) (B:=sub l (m1,e)) (by omega) (by omega) rfl rfl];congr 1
   rw [hrow (m+1) (by omega) (by omega),Zcn (i:=i+1) (m:=m) (e:=m+1) (by omega) (by omega),ZeR (i:=m) (e:=m+1) (by omega) (by omega),Zda,
    Zcn (i:=m1) (m:=e') (e:=e) (by omega) (by omega),hB]
   simp [addN]
  unfold Z3 Zcr;simp only [hk1];rw [show Zai (rowL l (i+1)) 1=(decide ((rowL l (i+1)).k=20)&&decide ((rowL l (i+1)).a=1)) from rfl,show Zai (rowL l (i+1)) 0=(decide ((rowL l (i+1)).k=20)&&decide ((rowL l (i+1)).a=0)) from rfl,hta]
  by_cases k20:(rowL l (i+1)).k=20
  · rcases h20 k20 with z | z
    · rcases hob with ⟨rfl,hn,rfl⟩ | ⟨p2,rfl,hn,rfl,rfl,hw2,hk2⟩
      · simp [k20,z,hn]
      · simp [k20,z,hn,hk2,Zdo (ZQ hw2).ee]
    · simp [k20,z,ha]
  · by_cases k29:(rowL l (i+1)).k=29
    · rcases hob with ⟨rfl,hn,rfl⟩ | ⟨p2,rfl,hn,rfl,rfl,hw2,hk2⟩
      · simp [k29,hn,hdrop k29,ha,Ac.kid];rw [hx]
      · simp [k29,hn,hk2,hdrop k29,ha,Ac.kid,Zdo (ZQ hw2).ee];rw [hx]
    · simp only [k20,k29,decide_false,Bool.false_and,if_false,Bool.false_eq_true];rcases hob with ⟨rfl,hn,rfl⟩ | ⟨p2,rfl,hn,rfl,rfl,hw2,hk2⟩
      · have hB0:B=[]:=by rw [hB,Zda]
        have hxk:(rowL l i).kid 2=rowL l i:=ZhK hn;simp only [hn,Zhs R1 hm1,hc]
        by_cases q11:(rowL l m).n=0∧ZK (sub l (i+1,m))=true
        · simp [q11]
        · by_cases q12:(rowL l m).n≠0∧(rowL l (m+1)).k=2∧ZF l (m+2)=sub l (i+1,m)
          · have h9:=h12 q12.1 q12.2.1;rw [hB0,List.append_nil] at h9;simp only [q11,q12,if_false,if_true];simp only [hxk,List.flatten_cons,List.flatten_nil,List.append_nil];simp [q12.1,q12.2.1,q12.2.2,h9]
          · have q12b:decide ((rowL l m).n≠0∧(rowL l (m+1)).k=2∧ZF l (m+2)=sub l (i+1,m))=false:=by simpa using q12
            simp only [q12b,if_neg q11];rw [if_neg (show ¬((2:Int)=3∧(rowL l (ZU l i 2)).n=0) by omega),if_neg (show ¬((2:Int)≠3∧(rowL l m).n=0∧ZK (sub l (i+1,m))=true) from fun q=>q11 q.2),if_neg q12,if_neg (show ¬((2:Int)=3∧(rowL l (ZU l i 2+1)).k=2∧ZF l (ZU l i 2+2)=sub l (i+1,m)) by omega)]
            simp
      · have R2:=ZQ hw2
        have hm2:(rowL l p2).k=1:=by
         have:=R2.may;simpa [ZE] using this
        have hxk:(rowL l i).kid 3=rowL l i:=ZhK hn;have hp2lt:=R2.lt
        have hin0:∀q,i<q→q<p2→endL l q≤p2:=fun q h1 h2=>by
         rcases Nat.lt_or_ge q m with h3 | h3
         · have:=(in_end hw0 (j:=q) (by omega) h3).1;omega
         · exact (in_end hw1 h3 h2).1
        simp only [hn,hk2,Zhs R1 hm1,Zhs R2 hm2,hc]
        by_cases q10:(rowL l p2).n=0
        · have h10:Zaa l i ((rowL l i).kid 2::(sub l (i+1,m)++sub l (m,p2)))=ZaH l p2:=by
           rw [Zb0 R.ee,ZhD (s:=i) (by omega) (by rw [R.ee];omega) hin0 R2.ee];unfold ZbE;rw [Zfm (i:=i) (e:=p2) (by omega),hrow p2 (by omega) (by omega),Zcn (i:=i+1) (m:=m) (e:=p2) (by omega) (by omega)];have hlen:(l.take i).length=i:=by rw [List.length_take];omega
           have hmod:=ZeA (A:=l.take i) (B:=(sub l (i+1,m)++sub l (m,p2))++[]++l.drop e) (x:=rowL l i) (f:=addN (-1));rw [hlen] at hmod;have hadd:addN (-1) (rowL l i)=(rowL l i).kid 2:=by rw [hx,hn];rfl
           rw [hadd] at hmod;simp only [List.append_assoc,List.cons_append,List.nil_append] at hmod ⊢;rw [hmod]
          simp [q10,h10]
        · by_cases q12:(rowL l m).n≠0∧(rowL l (m+1)).k=2∧ZF l (m+2)=sub l (i+1,m)
          · have h9:=h12 q12.1 q12.2.1;rw [hB] at h9;simp only [hxk];simp at h9;simp [q10,q12.1,q12.2.1,q12.2.2,h9]
          · have q12b:decide ((rowL l m).n≠0∧(rowL l (m+1)).k=2∧ZF l (m+2)=sub l (i+1,m))=false:=by simpa using q12
            by_cases q13:(rowL l (p2+1)).k=2∧ZF l (p2+2)=sub l (i+1,m)
            · have q13b:decide ((rowL l p2).n≠0∧(rowL l (p2+1)).k=2∧ZF l (p2+2)=sub l (i+1,m))=true:=by simp [q10,q13]
              obtain ⟨m1,q,rest,hI⟩:=Zjm R2 hm2 q10 q13.1;have ho:=hI.o
              have h13:Zaa l i (rowL l i::(sub l (i+1,m)++(sub l (m,p2)++Zi (Zt (sub l (p2,e))) (inK (sub l (p2,e)) 2))))=if (rowL l (p2+1)).n=3 then Zaa l (p2+1) (ZF l (ZU l (p2+1) 2)) else ZaH l (p2+1):=by
               rw [Znl hI q10,Zgz R2 hm2 hI,Zb0 R.ee]
               by_cases n3:(rowL l (p2+1)).n=3
               · rw [if_pos n3,if_pos n3,Zb0 hI.e1];rw [←ZkE (i:=i) (e:=e) (j:=p2+1) (j1:=m1) (r:=ZF l (ZU l (p2+1) 2)) (A:=sub l (i,p2+1)) (B:=sub l (m1,e)) (by omega) (by omega) rfl rfl];congr 1;rw [hrow (p2+1) (by omega) (by omega),Zcn (i:=i+1) (m:=m) (e:=p2+1) (by omega) (by omega),Zcn (i:=m) (m:=p2) (e:=p2+1) (by omega) (by omega),ZeR (i:=p2) (e:=p2+1) (by omega) (by omega),Zda];simp [addN]
               · rw [if_neg n3,if_neg n3,ZhD (s:=p2) (by omega) (by rw [R2.ee];omega) (fun q h1 h2=>by omega) hI.e1];unfold ZbE;rw [Zfm (i:=i) (e:=p2+1) (by omega),hrow (p2+1) (by omega) (by omega),Zcn (i:=i+1) (m:=m) (e:=p2+1) (by omega) (by omega),Zcn (i:=m) (m:=p2) (e:=p2+1) (by omega) (by omega),ZeR (i:=p2) (e:=p2+1) (by omega) (by omega),Zda,ZhW (i:=m1) (e:=e) (by omega)]
                 have hlen:(l.take i++(rowL l i::(sub l (i+1,m)++sub l (m,p2)))).length=p2:=by
                  rw [List.length_append,List.length_cons,List.length_append,List.length_take,ZaL (by show m≤_;omega),ZaL (by show p2≤_;omega)];simp only;omega
                 have hmod:=ZeA (A:=l.take i++(rowL l i::(sub l (i+1,m)++sub l (m,p2)))) (B:=sub l (m1,e)++l.drop e) (x:=rowL l p2) (f:=addN (-1));rw [hlen] at hmod;simp only [List.append_assoc,List.cons_append,List.nil_append,if_true,Option.getD_none] at hmod ⊢;rw [hmod]
              simp only [hxk];rw [if_neg q10,if_neg (show ¬(decide ((rowL l m).n≠0∧(rowL l (m+1)).k=2∧ZF l (m+2)=sub l (i+1,m))=true) by rw [q12b];simp),if_pos q13b];rw [if_neg (show ¬(True∧(rowL l p2).n=0) from fun q=>q10 q.2)];rw [if_neg (fun q=>absurd rfl q.1),if_neg q12,if_pos ⟨trivial,q13⟩];simp only [List.flatten_cons,List.flatten_nil,List.append_nil,Option.map_some];rw [h13];split <;> rfl
            · have q13b:decide ((rowL l p2).n≠0∧(rowL l (p2+1)).k=2∧ZF l (p2+2)=sub l (i+1,m))=false:=by
               simp only [decide_eq_false_iff_not];exact fun q=>q13 q.2
              rw [if_neg q10,if_neg (show ¬(decide ((rowL l m).n≠0∧(rowL l (m+1)).k=2∧ZF l (m+2)=sub l (i+1,m))=true) by rw [q12b];simp),if_neg (show ¬(decide ((rowL l p2).n≠0∧(rowL l (p2+1)).k=2∧ZF l (p2+2)=sub l (i+1,m))=true) by rw [q13b];simp)];rw [if_neg (show ¬(True∧(rowL l p2).n=0) from fun q=>q10 q.2)];rw [if_neg (fun q=>absurd rfl q.1),if_neg q12,if_neg (show ¬(True∧(rowL l (p2+1)).k=2∧ZF l (p2+2)=sub l (i+1,m)) from fun q=>q13 q.2)];rfl
 rcases hsh with ⟨n2,l2⟩ | ⟨n3,l3⟩
 · obtain ⟨m,f0,w0,w1,hsp,hw0,hw1,hw⟩:=Zd3 R l2;rw [hwn,if_neg (by omega)] at hw;injection hw with e0 hw;injection hw with e1 hw;subst e0 e1;rw [hsp];exact main m e f0 none (rowL l m) [] hw0 hw1 (ZQ hw0).ee Zda.symm lr_ (.inl ⟨rfl,n2,rfl⟩)
 · obtain ⟨m,p2,f0,w0,w1,w2,hsp,hw0,hw1,hw2,hw⟩:=ZfF R l3;rw [hwn,if_pos n3] at hw;injection hw with e0 hw;injection hw with e1 hw;injection hw with e2 hw;subst e0 e1 e2;rw [hsp];have hk1:ZU l i 1=m:=(ZQ hw0).ee
   have hk2:ZU l i 2=p2:=by
    show endL l (ZU l i 1)=p2;rw [hk1];exact (ZQ hw1).ee
   exact main m p2 f0 (some (sub l (p2,e))) (rowL l p2) (sub l (p2,e)) hw0 hw1 hk1 rfl (Nat.le_of_lt (ZQ hw2).lt) (.inr ⟨p2,rfl,n3,rfl,rfl,hw2,hk2⟩)
end
section
variable {P:Pl} {l:List Ac}
theorem ZgS {i:Nat} (hk:(rowL l i).k=4):ZaA l i=if isW l (i+1) 21 (rowL l i).a=true then some (16,ZaH l i) else none:=by
 unfold ZaA;simp only;rw [if_neg (by omega),if_neg (by omega),if_neg (by omega),if_pos hk]
theorem Zfd {i:Nat} (hk:(rowL l i).k=1) (h0:0<i):ZaA l i=if (rowL l (upI (upL l i i)).toNat).k=1 then some (17,Zav l i (endL l i) (sub l (i+1,endL l i)) ((rowL l i).n - 1)) else none:=by
 unfold ZaA;simp only;rw [if_neg (by omega),if_neg (by omega),if_neg (by omega),if_neg (by omega),if_pos ⟨hk,h0⟩]
theorem ZfR (hk:(rowL l 0).k=1):ZaA l 0=if (rowL l 0).n=0 then some (19,[]) else none:=by
 unfold ZaA;simp only;rw [if_neg (by omega),if_neg (by omega),if_neg (by omega),if_neg (by omega),if_neg (by omega),if_neg (by omega)]
 by_cases q:(rowL l 0).n=0
 · rw [if_pos ⟨hk,q⟩,if_pos q]
 · rw [if_neg (fun h=>q h.2),if_neg q]
theorem ZfQ {i:Nat} (hk:(rowL l i).k=9):ZaA l i=some (18,Zav l i (i+(Zad (rowL l i) (rowL l (i+1)) (rowL l (i+2))).2) [(Zad (rowL l i) (rowL l (i+1)) (rowL l (i+2))).1] (1 - ((Zad (rowL l i) (rowL l (i+1)) (rowL l (i+2))).2:Int))):=by
 unfold ZaA;simp only;rw [if_neg (by omega),if_neg (by omega),if_neg (by omega),if_neg (by omega),if_neg (by omega),if_pos hk]
theorem ZgT {i:Nat} (h:¬ 16<(rowL l i).k) (h2:(rowL l i).k≠2) (h3:(rowL l i).k≠3) (h4:(rowL l i).k≠4) (h1:(rowL l i).k≠1) (h9:(rowL l i).k≠9):ZaA l i=none:=by
 unfold ZaA;simp only;rw [if_neg (by omega),if_neg (by omega),if_neg (by omega),if_neg (by omega),if_neg (by omega),if_neg (by omega),if_neg (by omega)]
theorem Zj7 {f:Nat} {what:Int} {i e:Nat} (R:RowW P l f what i e) (hk:(rowL l i).k=3) :
 ((ZbK i e (rowL l i) ((spL l i).map (sub l)) (hsL l (spL l i))).map fun f=>((f.what:Int),Zav l f.frm f.to_ (f.inn.getD []) (f.parts - f.gone)))=ZaA l i:=by
 have hn:=R.n (by omega);have hl:=R.len;rw [show kidsV (rowL l i).k (rowL l i).n=[3,1] by simp [kidsV,hk]] at hn;obtain ⟨m,f0,w0,w1,hsp,hw0,hw1,_⟩:=Zd3 R (by simp at hn;omega);have R0:=ZQ hw0;have R1:=ZQ hw1;have hk1:ZU l i 1=m:=R0.ee;have hta:Zbr l (i+1) (endL l (i+1))=ZK (sub l (i+1,m)):=by rw [R0.ee];exact ZdB (Nat.le_of_lt R0.lt) R0.le
 have h14:Zav l i e [] (0 - 1)=ZaH l i:=by unfold ZaH;rw [R.ee]
 rw [hsp];unfold ZaA;simp only;rw [if_neg (by omega),if_neg (by omega),if_pos hk];unfold ZbK hsL;simp only [List.map_cons,List.map_nil,hk1,hta,Zke]
 by_cases q:(rowL l i).a=0∨Zai (rowL l (i+1)) 0=true∨(ZK (sub l (i+1,m))=true∧(rowL l m).n=0)
 · rw [if_pos q,if_pos q];simp only [Option.map_some,Option.getD_none,h14];rfl
 · rw [if_neg q,if_neg q]
   by_cases q1:(rowL l i).a=1
   · rw [if_pos q1,if_pos q1,Zdo R0.ee,Zdo R1.ee];simp only [Option.map_some,Option.getD_some];unfold Zaa;rw [R.ee];simp [Ac.kid]
   · rw [if_neg q1,if_neg q1];rfl
theorem ZkY {f:Nat} {what:Int} {i e:Nat} (R:RowW P l f what i e) (hk:(rowL l i).k=4) :
 ((if (hsL l (spL l i)).head? = some ⟨21,(rowL l i).a,0,0,0,0⟩ then some (⟨16,i,e,none,0,1⟩:Fd) else none).map fun f=>((f.what:Int),Zav l f.frm f.to_ (f.inn.getD []) (f.parts - f.gone)))=ZaA l i:=by
 have hn:=R.n (by omega);have hl:=R.len;rw [show kidsV (rowL l i).k (rowL l i).n=[2] by simp [kidsV,hk]] at hn;obtain ⟨f0,w0,hsp,R0,_⟩:=ZeW R (by simp at hn;omega);have h14:Zav l i e [] (0 - 1)=ZaH l i:=by unfold ZaH;rw [R.ee]
 have heq:((rowL l (i+1))=⟨21,(rowL l i).a,0,0,0,0⟩) ↔ isW l (i+1) 21 (rowL l i).a=true:=by
  unfold isW;constructor
  · intro h;rw [h]
    simp
  · intro h;simp only [Bool.and_eq_true,decide_eq_true_eq] at h;have hm:=R0.num;unfold Zu at hm;simp [h.1,Zp] at hm;have hn0:=R0.n (by omega);rw [show kidsV (rowL l (i+1)).k (rowL l (i+1)).n=[] by simp [kidsV,h.1]] at hn0;simp at hn0;generalize rowL l (i+1)=y at *
    cases y
    simp at h hm hn0 ⊢;omega
 rw [hsp,ZgS hk];unfold hsL;simp only [List.map_cons,List.map_nil,List.head?_cons,Option.some.injEq]
 by_cases q:isW l (i+1) 21 (rowL l i).a=true
 · rw [if_pos (heq.2 q),if_pos q];simp only [Option.map_some,Option.getD_none,h14];rfl
 · rw [if_neg (fun h=>q (heq.1 h)),if_neg q];rfl
theorem Zkh {x y z:Ac} (h:y.k=10∨y.k=12∨(y.k=11∧(z.k=12∨z.k=10))):handF x y z=Zad x y z:=by
 unfold handF Zad;rcases h with h | h | ⟨h,h2 | h2⟩ <;> simp [h, *]
theorem Zka (hev:Zy P l=true) (hl:l.length≤131072) {i:Nat} (hi:i<l.length):((Zaw l i).map fun f=>((f.what:Int),ZY l f))=ZaA l i∧∀f,Zaw l i=some f→f.frm=i:=by
 have hs:=Zck hev hl;have hT:=ZeP hev;have h0:l≠[]:=fun e=>by rw [e] at hi;simp at hi
 have hw:=ZcG hev h0;obtain ⟨f',what',e',h1,_⟩:=Zdv _ _ _ _ hw i (Nat.zero_le _) hi;obtain ⟨f',rfl⟩:=Zbe h1;have R:=ZQ h1
 have hroot:(rowL l 0).k=9→handV P l 0≠0:=fun q=>by
  have:=(ZQ hw).may;rw [q] at this;simp [ZE] at this
 have hh:=ZeM _ _ _ _ hw hroot i (Nat.zero_le _) hi
 have hfrm:∀f,Zaw l i=some f→f.frm=i:=fun f hf=>by
  unfold Zaw at hf;split at hf
  · simp only [Option.map_eq_some_iff] at hf;obtain ⟨r,_,rfl⟩:=hf;rfl
  · split at hf
    · next f2 hd =>
      injection hf with hf;subst hf;unfold Zaj at hd;split at hd
      · simp only [Option.map_eq_some_iff] at hd;obtain ⟨r,_,rfl⟩:=hd;rfl
      · split at hd
        · unfold ZbK at hd;split at hd
          · split at hd
            · injection hd with hd;rw [←hd]
            · split at hd
              · injection hd with hd;rw [←hd]
              · cases hd
          · cases hd
        · split at hd
          · split at hd
            · injection hd with hd;rw [←hd]
            · cases hd
          · split at hd
            · split at hd
              · injection hd with hd;rw [←hd]
              · cases hd
            · split at hd
              · injection hd with hd;rw [←hd]
              · cases hd
    · split at hf
      · next q =>
        injection hf with hf;rw [←hf];exact q.1.symm
      · cases hf
 refine ⟨?_,hfrm⟩
 have hdone:((Zaw l i).map fun f=>((f.what:Int),ZY l f))=(Zaw l i).map fun f=>((f.what:Int),Zav l f.frm f.to_ (f.inn.getD []) (f.parts - f.gone)):=by
  cases hla:Zaw l i with
  | none=>rfl
  | some f =>
   have:=hfrm f hla;simp only [Option.map_some];rw [ZkC hT hs (by omega)]
 rw [hdone];unfold Zaw
 by_cases k16:16<(rowL l i).k
 · rw [if_pos k16,←Zks R k16]
   cases Za5 (rowL l i).k ((spL l i).map (sub l)) (hsL l (spL l i)) with
   | none=>rfl
   | some r =>
    simp only [Option.map_some];unfold Zaa;rfl
 · rw [if_neg k16]
   have hz:¬(i=0∧(rowL l 0).n=0)∨(rowL l i).k=1:=by
    by_cases q:i=0
    · right;subst q;have:=(ZQ hw).may;simpa [ZE] using this
    · exact .inl (fun h=>q h.1)
   have hne:(rowL l i).k≠1→¬(i=0∧(rowL l 0).n=0):=fun q=>hz.resolve_right q
   unfold Zaj;rw [show endL l i=e' from R.ee]
   by_cases k2:(rowL l i).k=2
   · rw [if_pos k2];have hb:=Zio R k2;rw [if_neg (hne (by omega))];have hlw:ZaA l i=Zcr l i:=by unfold ZaA;simp only;rw [if_neg (by omega),if_pos k2]
     rw [hlw,←hb]
     cases brV (rowL l i) ((spL l i).map (sub l)) (hsL l (spL l i)) with
     | none=>rfl
     | some r=>rfl
   · rw [if_neg k2]
     by_cases k3:(rowL l i).k=3
     · rw [if_pos k3,if_neg (hne (by omega)),←Zj7 R k3]
       cases ZbK i e' (rowL l i) ((spL l i).map (sub l)) (hsL l (spL l i)) with
       | none=>rfl
       | some r=>rfl
     · rw [if_neg k3]
       by_cases k4:(rowL l i).k=4
       · rw [if_pos k4,if_neg (hne (by omega)),←ZkY R k4]
         by_cases q:(hsL l (spL l i)).head? = some ⟨21,(rowL l i).a,0,0,0,0⟩
         · rw [if_pos q]
         · rw [if_neg q]
       · rw [if_neg k4]
         by_cases k1:(rowL l i).k=1
         · rw [if_pos k1];have hflat:=ZeD (l:=l) wfR _ _ _ _ R.ks;have hlen:=R.len
           by_cases q0:0<i
           · rw [Zfd k1 q0];have hup:=ZmX hT hs q0 hi;rw [if_neg (show ¬(i=0∧(rowL l 0).n=0) by omega),hup];unfold ZbT;rw [show decide (0<i)=true by simpa using q0,Bool.true_and]
             by_cases q:(rowL l ((Zcx l)[i]?.getD 0).toNat).k=1
             · rw [if_pos (by simpa using q),if_pos q];simp only [Option.map_some,Option.getD_some,hflat,List.length_map,hlen];rw [show endL l i=e' from R.ee];rfl
             · rw [if_neg (by simpa using q),if_neg q];rfl
           · have hi0:i=0:=by omega
             subst hi0;rw [ZfR k1];have hinb:ZbT l 0=false:=rfl;rw [hinb,if_neg (by simp)];simp only
             by_cases q:(rowL l 0).n=0
             · rw [if_pos (show (True∧(rowL l 0).n=0) from ⟨trivial,q⟩),if_pos q];simp only [Option.map_some,Option.getD_none]
               have he1:e'=l.length:=by
                have h9:=(ZQ hw).ee;rw [R.ee] at h9;exact h9
               have hl1:e'=1:=by
                have hks:=R.ks;have hl0:=R.len
                match hsp:spL l 0,hks,hl0 with
                | [],hks,_ =>
                 match hw2:Z8 (rowL l 0) ((l[0+1]?.map Ac.k).getD 0),hks with
                 | [],hks=>simp only [ZH] at hks;omega
                 | _::_,hks=>simp [ZH] at hks
                | _::_,_,hl0=>simp at hl0;omega
               have hsw:Zav l 0 1 [] (0 - 0)=[]:=by
                rw [show (0:Int) - 0=0 by decide,ZlU];unfold ZbE;rw [List.drop_of_length_le (by omega)];rfl
               exact congrArg some (Prod.ext rfl hsw)
             · rw [if_neg (show ¬(True∧(rowL l 0).n=0) from fun h=>q h.2),if_neg q];rfl
         · rw [if_neg k1]
           by_cases k9:(rowL l i).k=9
           · rw [if_pos k9,if_neg (hne k1)];have h0:=hh k9;obtain ⟨h1,_⟩:=ZbU h0
             have hyz:∃y,l[i+1]? = some y∧(y.k=10∨y.k=12∨(y.k=11∧∃z,l[i+2]? = some z∧(z.k=12∨z.k=10))):=by
              rcases h1 with h1 | h1
              · obtain ⟨y,hy,h2⟩:=Ze2 R.x h1;refine ⟨y,hy,?_⟩;unfold Zcg at h2;simp only [Bool.and_eq_true,Bool.or_eq_true,decide_eq_true_eq] at h2;rcases h2.2 with q | q
                · exact .inl q.1
                · exact .inr (.inl q.1)
              · obtain ⟨y,z,hy,hz,h2⟩:=ZdF R.x h1;refine ⟨y,hy,.inr (.inr ⟨?_,z,hz,?_⟩)⟩
                · unfold Zcf at h2;simp only [Bool.and_eq_true,Bool.or_eq_true,decide_eq_true_eq] at h2;exact h2.1.2.1
                · unfold Zcf at h2;simp only [Bool.and_eq_true,Bool.or_eq_true,decide_eq_true_eq] at h2;rcases h2.2.2 with q | q
                  · exact .inl q
                  · exact .inr q.1
             obtain ⟨y,hy,hq⟩:=hyz
             have hfw:handF (rowL l i) (l[i+1]?.getD (rowL l i)) (l[i+2]?.getD (rowL l i))=Zad (rowL l i) (rowL l (i+1)) (rowL l (i+2)):=by
              have hy2:rowL l (i+1)=y:=by unfold rowL;rw [hy];rfl
              rw [hy,hy2];simp only [Option.getD_some];rcases hq with q | q | ⟨q,z,hz,q2⟩
              · unfold handF Zad;simp [q]
              · unfold handF Zad;simp [q]
              · have hz2:rowL l (i+2)=z:=by unfold rowL;rw [hz];rfl
                rw [hz,hz2];simp only [Option.getD_some];exact Zkh (.inr (.inr ⟨q,q2⟩))
             rw [hfw,ZfQ k9];rfl
           · rw [if_neg k9,if_neg (hne k1),ZgT k16 k2 k3 k4 k1 k9];rfl
end
end Go.Proofs.Ytdpokdcendgfeaa
