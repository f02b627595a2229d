/- Several texts in one: Plain law: a look at an expression, said by both. Plain law: a look at a doing, said by both. Plain law: a look at a row, said by both. Plain law: a look at a row and the first look in an event, said by both. Conditions: those of each. -/
import Derived.Test.YtdpokdcendgfeaaV20
set_option linter.unusedSimpArgs false
set_option linter.unusedVariables false
set_option maxHeartbeats 80000000
set_option maxRecDepth 100000
namespace Go.Proofs.Ytdpokdcendgfeaa
open Go.RowKit
section
variable {P:Pl} {l:List Ac}
theorem ZeQ {f:Nat} {what:Int} {i e:Nat} (R:RowW P l f what i e) (h:(rowL l i).k=20):(rowL l i).a=0∨(rowL l i).a=1:=by
 have hn:=R.num;unfold ZU at hn;simp [h,Zs] at hn;omega
theorem ZdO {f:Nat} {what:Int} {i e:Nat} (R:RowW P l f what i e) (h:ZT (rowL l i)=true):-1073741824≤(rowL l i).a∧(rowL l i).a≤1073741824:=by
 have hn:=R.num;unfold ZT at h;simp only [Bool.or_eq_true,decide_eq_true_eq] at h;unfold ZU at hn;rcases h with q | q
 · simp [q,Zs] at hn;omega
 · simp [q,Zs] at hn;omega
theorem Zgh {i e:Nat}:(sub l (i,e)).drop 1=sub l (i+1,e):=by
 unfold sub;simp only;rw [List.drop_take,List.drop_drop];congr 1
theorem Zk5 {f:Nat} {what:Int} {i e:Nat} (R:RowW P l f what i e) (hk:(rowL l i).k=28∨(rowL l i).k=29) :
 ((Za3 (rowL l i).k ((spL l i).map (sub l)) (hsL l (spL l i))).map fun r=>((r.1:Int),ZH l i (r.2.getD [])))=Zcn l i:=by
 have hn:=R.n (by omega);have hl:=R.len;have hk1:(kidsV (rowL l i).k (rowL l i).n).length=1:=by rcases hk with q | q <;> simp [kidsV,q]
 obtain ⟨f0,w0,hsp,R0,hw⟩:=ZbV R (by omega);have hb:ZdD l i=i+1:=by unfold ZdD;rw [if_neg (by omega)];rfl
 have ha:kidL l i 0=i+1:=rfl;have hfx:=ZdO R0;have h20:=ZeQ R0
 have hdeep:(rowL l (i+1)).k=(rowL l i).k→Ze l (i+1+1)=(sub l (i+1,e)).drop 1:=fun q=>by
  have hn':=R0.n (by omega);have hl':=R0.len;have hk1':(kidsV (rowL l (i+1)).k (rowL l (i+1)).n).length=1:=by rw [q];rcases hk with q | q <;> simp [kidsV,q]
  obtain ⟨f1,w1,_,R1,_⟩:=ZbV R0 (by omega);rw [Zgh];unfold Ze;rw [R1.ee]
 have hmay:=R0.may
 have h29:(rowL l i).k=29→ZT (rowL l (i+1))=true→(rowL l (i+1)).a=0∨(rowL l (i+1)).a=1:=fun q hf=>by
  apply h20;unfold Zaa at hw;rw [q] at hw;simp [kidsV] at hw;subst hw;unfold ZT at hf;simp only [Bool.or_eq_true,decide_eq_true_eq] at hf;rcases hf with q | q
  · rw [q] at hmay;simp [Zao,Z2] at hmay
  · exact q
 rw [hsp];unfold Zcn Za3 hsL;simp only [List.map_cons,List.map_nil,hb,ha];obtain ⟨h0,hh0⟩:∃x,rowL l (i+1)=x:=⟨_,rfl⟩;obtain ⟨k,hkk⟩:∃x,(rowL l i).k=x:=⟨_,rfl⟩;obtain ⟨ka,hka⟩:∃x,sub l (i+1,e)=x:=⟨_,rfl⟩;rw [hh0] at hfx h20 h29 hdeep;rw [hkk] at hk h29 hdeep;rw [hka] at hdeep;rw [hh0,hkk,hka];have hr:Zbs k=true:=by rcases hk with q | q <;> subst q <;> rfl
 have hc:Zau k [h0]=if ZT h0=true then ZP k h0.a h0.a else none:=by unfold Zau;simp [ZdP,Zd3]
 rw [hc]
 by_cases hf:ZT h0=true
 · rw [if_pos hf,Ze0 (hfx hf) (fun q=>h29 q hf),if_pos hr]
   dsimp only
   rw [if_pos (show Zbs k=true∧ZT h0=true∧ZT h0=true from ⟨hr,hf,hf⟩)];rfl
 · rw [if_neg hf]
   dsimp only
   rw [if_neg (show ¬(Zbs k=true∧ZT h0=true∧ZT h0=true) from fun q=>hf q.2.1),if_neg (show ¬(k=37∨k=38) by omega)]
   by_cases hq:h0.k=k
   · rw [if_pos (show (k=28∨k=29)∧h0.k=k from ⟨hk,hq⟩),if_pos (show (k=29∨k=28)∧h0.k=k from ⟨hk.symm,hq⟩),hdeep hq];rfl
   · rw [if_neg (show ¬((k=28∨k=29)∧h0.k=k) from fun q=>hq q.2),if_neg (show ¬((k=29∨k=28)∧h0.k=k) from fun q=>hq q.2)];unfold ZdX;simp only [hkk];rcases hk with q | q <;> subst q <;> simp
theorem Zk4 {f:Nat} {what:Int} {i e:Nat} (R:RowW P l f what i e) (hk:(rowL l i).k=26∨(rowL l i).k=27∨(30≤(rowL l i).k∧(rowL l i).k≤38)) :
 ((Za3 (rowL l i).k ((spL l i).map (sub l)) (hsL l (spL l i))).map fun r=>((r.1:Int),ZH l i (r.2.getD [])))=Zcn l i:=by
 have hn:=R.n (by omega);have hl:=R.len;obtain ⟨k,hkk⟩:∃x,(rowL l i).k=x:=⟨_,rfl⟩
 have hk2:(kidsV (rowL l i).k (rowL l i).n).length=2:=by
  rw [hkk] at hk ⊢;have:k=26∨k=27∨k=30∨k=31∨k=32∨k=33∨k=34∨k=35∨k=36∨k=37∨k=38:=by omega
  rcases this with q | q | q | q | q | q | q | q | q | q | q <;> subst q <;> simp [kidsV]
 obtain ⟨m,f0,w0,w1,hsp,hw0,hw1,hw⟩:=ZbN R (by omega);have R0:=ZB hw0;have R1:=ZB hw1
 have hb:ZdD l i=m:=by
  unfold ZdD;rw [if_pos (by omega)];exact R0.ee
 have ha:kidL l i 0=i+1:=rfl;have hta:Zap l (i+1) (endL l (i+1))=ZS (sub l (i+1,m)):=by rw [R0.ee];exact Zdt (Nat.le_of_lt R0.lt) R0.le
 have htb:Zap l m (endL l m)=ZS (sub l (m,e)):=by rw [R1.ee];exact Zdt (Nat.le_of_lt R1.lt) R1.le
 have hoa:Ze l (i+1)=sub l (i+1,m):=by unfold Ze;rw [R0.ee]
 have hob:Ze l m=sub l (m,e):=by unfold Ze;rw [R1.ee]
 have hfa:=ZdO R0;have h20a:=ZeQ R0;have h20b:=ZeQ R1;rw [hsp];unfold Zcn Za3 hsL;simp only [List.map_cons,List.map_nil,hb,ha];unfold ZdX;simp only [Zmf,hta,htb,hoa,hob];obtain ⟨h0,hh0⟩:∃x,rowL l (i+1)=x:=⟨_,rfl⟩;obtain ⟨h1,hh1⟩:∃x,rowL l m=x:=⟨_,rfl⟩;obtain ⟨ka,hka⟩:∃x,sub l (i+1,m)=x:=⟨_,rfl⟩;obtain ⟨kb,hkb⟩:∃x,sub l (m,e)=x:=⟨_,rfl⟩;rw [hh0] at hfa h20a;rw [hh1] at h20b;simp only [hh0,hh1,hkk,hka,hkb];rw [hkk] at hk;have hc:Zau k [h0,h1]=if ZT h0=true∧ZT h1=true then ZP k h0.a h1.a else none:=by unfold Zau;simp [ZdP,Zd3]
 rw [hc]
 by_cases hao:k=37∨k=38
 · have hr:Zbs k=false:=by rcases hao with q | q <;> subst q <;> rfl
   have hcn:∀a b,ZP k a b=none:=fun a b=>by rcases hao with q | q <;> subst q <;> rfl
   simp only [hcn,ite_self];rw [if_neg (show ¬(Zbs k=true∧ZT h0=true∧ZT h1=true) by rw [hr];simp)];unfold ZaM;simp only [hao,if_true];unfold Zcp Zah
   by_cases q0:h0.k=20
   · rcases h20a q0 with z | z <;> rcases hao with q | q <;> subst q <;> simp [q0,z]
   · by_cases q1:h1.k=20
     · cases ht:ZS ka <;> rcases h20b q1 with z | z <;> rcases hao with q | q <;> subst q <;> simp [q0,q1,z]
     · simp [q0,q1]
 · have hr:Zbs k=true:=by
    have:k=26∨k=27∨k=30∨k=31∨k=32∨k=33∨k=34∨k=35∨k=36:=by omega
    rcases this with q | q | q | q | q | q | q | q | q <;> subst q <;> rfl
   by_cases hf:ZT h0=true∧ZT h1=true
   · rw [if_pos hf,Ze0 (hfa hf.1) (fun q=>by omega),if_pos hr]
     dsimp only
     rw [if_pos (show Zbs k=true∧ZT h0=true∧ZT h1=true from ⟨hr,hf⟩)];rfl
   · rw [if_neg hf]
     dsimp only
     rw [if_neg (show ¬(Zbs k=true∧ZT h0=true∧ZT h1=true) from fun q=>hf q.2),if_neg (show ¬((k=29∨k=28)∧h0.k=k) by omega)];unfold ZaM;simp only [hao,if_false];have:k=26∨k=27∨k=30∨k=31∨k=32∨k=33∨k=34∨k=35∨k=36:=by omega
     rcases this with q | q | q | q | q | q | q | q | q
     · subst q;simp
     · subst q;simp
     · subst q
       cases ZaV h0 1 <;> cases ZaV h1 1 <;> cases ZaV h0 0 <;> cases ZaV h1 0 <;> cases ZS ka <;> cases ZS kb <;> simp
     · subst q;cases ZaV h1 1 <;> simp
     · subst q;cases ZaV h0 0 <;> cases ZaV h1 0 <;> simp
     · subst q;cases ZaV h1 0 <;> simp
     · subst q
       by_cases q0:h0.k=20
       · by_cases z:h0.a=1 <;> simp [q0,z,Ac.kid]
       · by_cases q1:h1.k=20
         · by_cases z:h1.a=1 <;> simp [q0,q1,z,Ac.kid]
         · simp [q0,q1]
     · subst q;simp
     · subst q;simp
theorem ZjU {f:Nat} {what:Int} {i e:Nat} (R:RowW P l f what i e) (hk:16<(rowL l i).k) :
 ((Za3 (rowL l i).k ((spL l i).map (sub l)) (hsL l (spL l i))).map fun r=>((r.1:Int),ZH l i (r.2.getD [])))=ZA l i:=by
 have hn:=R.n (by omega)
 by_cases h1:(rowL l i).k=28∨(rowL l i).k=29
 · have hk1:(kidsV (rowL l i).k (rowL l i).n).length=1:=by rcases h1 with q | q <;> simp [kidsV,q]
   rw [Zk5 R h1];unfold ZA;simp only;rw [if_pos (by omega)]
 · by_cases h2:(rowL l i).k=26∨(rowL l i).k=27∨(30≤(rowL l i).k∧(rowL l i).k≤38)
   · rw [Zk4 R h2]
     have hk2:(kidsV (rowL l i).k (rowL l i).n).length=2:=by
      obtain ⟨k,hkk⟩:∃x,(rowL l i).k=x:=⟨_,rfl⟩;rw [hkk] at h2 ⊢;have:k=26∨k=27∨k=30∨k=31∨k=32∨k=33∨k=34∨k=35∨k=36∨k=37∨k=38:=by omega
      rcases this with q | q | q | q | q | q | q | q | q | q | q <;> subst q <;> simp [kidsV]
     unfold ZA;simp only;rw [if_pos (by omega)]
   · have hcn:Zau (rowL l i).k (hsL l (spL l i))=none:=by
      unfold Zau ZP;obtain ⟨k,hkk⟩:∃x,(rowL l i).k=x:=⟨_,rfl⟩;rw [hkk] at h1 h2 ⊢
      by_cases hq:(hsL l (spL l i)).all ZT=true
      · rw [if_pos hq]
        repeat rw [if_neg (by omega)]
      · rw [if_neg hq]
     rw [ZfB (by omega),hcn]
     have hz:¬(19≤(rowL l i).k∧0<(rowL l i).n∧(rowL l i).k≠25):=fun q=>by
      have:kidsV (rowL l i).k (rowL l i).n=[]:=by
       unfold kidsV
       repeat rw [if_neg (by omega)]
      rw [this] at hn;rw [List.length_nil] at hn;omega
     unfold ZA;simp only;rw [if_neg hz]
     repeat rw [if_neg (by omega)]
     rfl
end
theorem Zgn {A B:List Ac} {x:Ac} {f:Ac→Ac}:(A++x::B).modify A.length f=A++f x::B:=by
 induction A with
 | nil=>rfl
 | cons a A ih=>simp [List.modify_cons,ih]
section
variable {P:Pl} {l:List Ac}
theorem Ze6 {i e:Nat} (h:i≤e):l.take e=l.take i++sub l (i,e):=by
 unfold sub;simp only;rw [show e=i+(e - i) by omega,List.take_add,show i+(e - i) - i=e - i by omega]
theorem Zhn {i e:Nat} (h:i≤e):l.drop i=sub l (i,e)++l.drop e:=by
 unfold sub;simp only;have h1:l.drop e=(l.drop i).drop (e - i):=by rw [List.drop_drop];congr 1;omega
 rw [h1,List.take_append_drop]
theorem Zce {i m e:Nat} (h1:i≤m) (h2:m≤e):sub l (i,e)=sub l (i,m)++sub l (m,e):=Zmp h1 h2
theorem ZeF {i e:Nat} (h1:i<l.length) (h2:i<e):sub l (i,e)=rowL l i::sub l (i+1,e):=Znf (Zar h1) h2
theorem ZcX {i:Nat}:sub l (i,i)=[]:=by unfold sub;simp
theorem ZdF {m e s t:Nat} (h1:m≤s) (h2:s≤t) (h3:t≤e):sub (sub l (m,e)) (s - m,t - m)=sub l (s,t):=by
 unfold sub;simp only;rw [List.drop_take,List.drop_drop,List.take_take,show m+(s - m)=s by omega,show min (t - m - (s - m)) (e - m - (s - m))=t - s by omega]
theorem Zev {R:Int→Nat→Nat→Prop} (hR:∀w i e,R w i e→i<e):∀(ws:List Int) (i:Nat) (sp:List (Nat×Nat)) (e:Nat),ZL R ws i sp e→(sp.map (sub l)).flatten=sub l (i,e)
 | [],i,[],e,h=>by
  simp only [ZL] at h;subst h;rw [ZcX];rfl
 | w::ws,i,r::sp,e,h=>by
  have hc:=ZbG hR _ _ _ _ h.2.2;obtain ⟨a,b⟩:=r;obtain ⟨h1,h2,h3⟩:=h;simp only at h1 h2 h3 hc;subst h1;have h4:=hR _ _ _ h2;rw [List.map_cons,List.flatten_cons,Zev hR ws b sp e h3,←Zce (by omega) (by omega)]
 | [],i,r::sp,e,h=>by simp [ZL] at h
 | w::ws,i,[],e,h=>by simp [ZL] at h
theorem Zfu {f:Nat} {what:Int} {i e:Nat} (R:RowW P l f what i e) (h:(rowL l i).k=1∨(rowL l i).k=2):rowL l i=⟨(rowL l i).k,0,0,0,0,(rowL l i).n⟩:=by
 have hn:=R.num;unfold ZU at hn
 have h2:(rowL l i).a=0∧(rowL l i).b=0∧(rowL l i).c=0∧(rowL l i).d=0:=by
  rcases h with q | q <;> simp [q] at hn <;> omega
 obtain ⟨a,b,c,d⟩:=h2;generalize rowL l i=x at *
 cases x
 simp at a b c d ⊢;exact ⟨a,b,c,d⟩
structure InIf (P:Pl) (l:List Ac) (m e':Nat) (m1 q:Nat) (rest:List (Nat×Nat)):Prop where
 sp:spL l m=(m+1,m1)::rest
 k:(rowL l (m+1)).k=2
 o:m+2<q∧q<m1∧m1≤e'∧e'≤l.length
 flat:(rest.map (sub l)).flatten=sub l (m1,e')
 e1:endL l (m+1)=m1
 e2:endL l (m+2)=q
 kk:ZZ (sub l (m,e')) (rowL l (m+1)).n.toNat 2=some ((spL l (m+1)).map fun r=>(r.1 - m,r.2 - m))
 sh:(spL l (m+1)=[(m+2,q),(q,m1)]∧(rowL l (m+1)).n≠3∧endL l q=m1)∨∃q2,q<q2∧q2<m1∧spL l (m+1)=[(m+2,q),(q,q2),(q2,m1)]∧(rowL l (m+1)).n=3∧endL l q=q2∧endL l q2=m1
theorem ZeL {f:Nat} {what:Int} {i e:Nat} (R:RowW P l f what i e) (hk:(rowL l i).k=2):(((rowL l i).n=2∧(spL l i).length=2)∨((rowL l i).n=3∧(spL l i).length=3))∧Zaa (rowL l i) ((l[i+1]?.map Ac.k).getD 0)=if (rowL l i).n=3 then [3,1,1] else [3,1]:=by
 have hn:=R.n (by omega);have hl:=R.len;have hkv:kidsV (rowL l i).k (rowL l i).n=if (rowL l i).n=3 then [3,1,1] else [3,1]:=by unfold kidsV;rw [if_pos hk]
 rw [hkv] at hn;refine ⟨?_,by unfold Zaa;rw [if_neg (by omega),if_neg (by omega),hkv]⟩;split at hn
 · simp at hn;omega
 · simp at hn;omega
theorem ZiS {f:Nat} {what:Int} {m e':Nat} (R:RowW P l f what m e') (hk:(rowL l m).k=1) (h0:(rowL l m).n≠0) (h2:(rowL l (m+1)).k=2):∃m1 q rest,InIf P l m e' m1 q rest:=by
 have hks:=R.ks;have hlen:=R.len;have hn0:=R.n0;have hend:endL l m=e':=R.ee
 match hsp:spL l m,hks,hlen with
 | [],_,hlen=>simp at hlen;omega
 | (a,m1)::rest,hks,hlen =>
  match hw:Zaa (rowL l m) ((l[m+1]?.map Ac.k).getD 0),hks with
  | [],hks=>simp [ZL] at hks
  | w::ws,hks =>
   obtain ⟨h1,h3,h4⟩:=hks;simp only at h1 h3 h4;subst h1;obtain ⟨f',rfl⟩:=Zbq h3;have R1:=ZB h3;have hcnt:=ZbG wfR _ _ _ _ h4;have hfl:=Zev (l:=l) wfR _ _ _ _ h4;have hle:=R.le;have hout:=Zcb wfR _ _ _ _ R1.ks;have hsh:=ZcH (l:=l) (s:=m) (t:=e') R.le _ _ _ R1.sp (by omega) (by have:=R1.lt;have:=R1.le;omega) (fun r hr=>by have:=(hout r hr).2.2;omega);rw [show m+1+1 - m=2 by omega] at hsh;obtain ⟨hi,_⟩:=ZeL R1 h2;rcases hi with ⟨n2,l2⟩ | ⟨n3,l3⟩
   · obtain ⟨q,f0,w0,w1,hsp1,hw0,hw1,_⟩:=ZbN R1 l2;have A:=ZB hw0;have B:=ZB hw1;exact ⟨m1,q,rest,hsp,h2,⟨A.lt,B.lt,by omega,hle⟩,hfl,R1.ee,A.ee,hsh,.inl ⟨hsp1,by omega,B.ee⟩⟩
   · obtain ⟨q,q2,f0,w0,w1,w2,hsp1,hw0,hw1,hw2,_⟩:=ZcO R1 l3;have A:=ZB hw0;have B:=ZB hw1;have C:=ZB hw2;exact ⟨m1,q,rest,hsp,h2,⟨A.lt,by have:=B.lt;have:=C.lt;omega,by omega,hle⟩,hfl,R1.ee,A.ee,hsh,.inr ⟨q2,B.lt,C.lt,hsp1,n3,B.ee,C.ee⟩⟩
theorem Zhu {f:Nat} {what:Int} {m e':Nat} (R:RowW P l f what m e'):(sub l (m,e'))[0]? = some (rowL l m):=by rw [ZbD R.lt];exact R.x
theorem Zd5 {m e' m1 q:Nat} {rest:List (Nat×Nat)} (h:InIf P l m e' m1 q rest) (h0:(rowL l m).n≠0):Zbi (sub l (m,e'))=some ((spL l (m+1)).map fun r=>(r.1 - m,r.2 - m)):=by
 have ho:=h.o;have g0:(sub l (m,e'))[0]? = some (rowL l m):=by rw [ZbD (by simp only;omega)];exact Zar (by omega)
 have g1:(sub l (m,e'))[1]? = some (rowL l (m+1)):=by
  have:=ZdG (l:=l) (s:=m) (t:=e') (i:=m+1) (by omega) (by omega);rw [show m+1 - m=1 by omega] at this;rw [this];exact Zar (by omega)
 unfold Zbi;rw [g0,g1];simp only;rw [if_neg (fun q=>by rcases q with q | q;exact h0 q;exact q h.k)];exact h.kk
theorem ZiQ {f:Nat} {what:Int} {m e':Nat} (R:RowW P l f what m e') (h:(rowL l m).n=0∨(rowL l (m+1)).k≠2):Zbi (sub l (m,e'))=none:=by
 unfold Zbi;rw [Zhu R];rcases h with h | h
 · cases h1:(sub l (m,e'))[1]? with
   | none=>rfl
   | some b1=>simp only [h,true_or,if_true]
 · cases h1:(sub l (m,e'))[1]? with
   | none=>rfl
   | some b1 =>
    simp only
    have hlt:m+1<e':=by
     have:=(gs_ h1).1;rw [ZaE R.le] at this;omega
    have:=ZdG (l:=l) (s:=m) (t:=e') (i:=m+1) (by omega) hlt;rw [show m+1 - m=1 by omega,h1,Zar (by have:=R.le;omega)] at this;injection this with this;rw [this,if_pos (.inr h)]
theorem ZgX {f:Nat} {what:Int} {m e':Nat} (R:RowW P l f what m e') (hk:(rowL l m).k=1) (c:List Ac):ZaI (sub l (m,e')) c=decide ((rowL l m).n≠0∧(rowL l (m+1)).k=2∧Ze l (m+2)=c):=by
 unfold ZaI
 by_cases h:(rowL l m).n≠0∧(rowL l (m+1)).k=2
 · obtain ⟨m1,q,rest,hI⟩:=ZiS R hk h.1 h.2;rw [Zd5 hI h.1];have ho:=hI.o;have hown:Ze l (m+2)=sub l (m+2,q):=by unfold Ze;rw [hI.e2]
   have hsub:=ZdF (l:=l) (m:=m) (e:=e') (s:=m+2) (t:=q) (by omega) (by omega) (by omega);rcases hI.sh with ⟨hs,_⟩ | ⟨q2,_,_,hs,_⟩
   · rw [hs];simp only [List.map_cons];rw [hsub,hown];simp [h]
   · rw [hs];simp only [List.map_cons];rw [hsub,hown];simp [h]
 · rw [ZiQ R (by omega)];simp only;symm;rw [decide_eq_false_iff_not];exact fun q=>h ⟨q.1,q.2.1⟩
theorem Zm2 {m e' m1 q:Nat} {rest:List (Nat×Nat)} (h:InIf P l m e' m1 q rest) (h0:(rowL l m).n≠0):inK (sub l (m,e')) 1=some (Ze l (kidL l (m+1) 1)):=by
 unfold inK;rw [Zd5 h h0];have ho:=h.o;have hq:kidL l (m+1) 1=q:=h.e2;rw [hq];unfold Ze;rcases h.sh with ⟨hs,_,he⟩ | ⟨q2,h1,h2,hs,_,he,_⟩
 · rw [hs,he];simp only [List.map_cons,List.getElem?_cons_succ,List.getElem?_cons_zero,Option.map_some];rw [ZdF (by omega) (by omega) (by omega)]
 · rw [hs,he];simp only [List.map_cons,List.getElem?_cons_succ,List.getElem?_cons_zero,Option.map_some];rw [ZdF (by omega) (by omega) (by omega)]
theorem Zm1 {m e' m1 q:Nat} {rest:List (Nat×Nat)} (h:InIf P l m e' m1 q rest) (h0:(rowL l m).n≠0):inK (sub l (m,e')) 2=if (rowL l (m+1)).n=3 then some (Ze l (kidL l (m+1) 2)) else none:=by
 unfold inK;rw [Zd5 h h0];have ho:=h.o;have hq:kidL l (m+1) 1=q:=h.e2;have hq2:kidL l (m+1) 2=endL l q:=by show endL l (kidL l (m+1) 1)=_;rw [hq]
 rw [hq2];rcases h.sh with ⟨hs,hn,he⟩ | ⟨q2,h1,h2,hs,hn,he,he2⟩
 · rw [hs,if_neg hn];rfl
 · rw [hs,he,if_pos hn];unfold Ze;rw [he2];simp only [List.map_cons,List.getElem?_cons_succ,List.getElem?_cons_zero,Option.map_some];rw [ZdF (by omega) (by omega) (by omega)]
theorem ZmC {f:Nat} {what:Int} {m e' m1 q:Nat} {rest:List (Nat×Nat)} (R:RowW P l f what m e') (h:InIf P l m e' m1 q rest):(Zu (sub l (m,e'))).length=rest.length∧(Zu (sub l (m,e'))).flatten=sub l (m1,e'):=by
 have hout:=Zcb wfR _ _ _ _ R.ks;have hsh:=ZcH (l:=l) (s:=m) (t:=e') R.le _ _ _ R.sp (by omega) (by have:=R.lt;have:=R.le;omega) (fun r hr=>(hout r hr).2.2);rw [show m+1 - m=1 by omega,h.sp,List.map_cons] at hsh;unfold Zu;rw [Zhu R];simp only [hsh]
 have hmap:(rest.map fun (r:Nat×Nat)=>(r.1 - m,r.2 - m)).map (sub (sub l (m,e')))=rest.map (sub l):=by
  rw [List.map_map];apply List.map_congr_left;intro r hr;have h1:=hout r (by rw [h.sp];simp [hr]);exact ZdF (by omega) (by omega) (by omega)
 rw [hmap];exact ⟨by simp,h.flat⟩
theorem Zgd {f:Nat} {what:Int} {m e' m1 q:Nat} {rest:List (Nat×Nat)} (R:RowW P l f what m e') (hk:(rowL l m).k=1) (h:InIf P l m e' m1 q rest) (o:Option (List Ac)) :
 Zh (Zu (sub l (m,e'))) o=Zb3 (if o=none then -1 else 0) (rowL l m)::(o.getD []++sub l (m1,e')):=by
 obtain ⟨h1,h2⟩:=ZmC R h;have hz:=Zfu R (.inl hk);have hlen:=R.len;rw [h.sp] at hlen;simp only [List.length_cons] at hlen;rw [hk] at hz;have hn:(rowL l m).n=(rest.length:Int)+1:=by omega
 rw [hn] at hz;rw [hz];unfold Zh
 cases o with
 | none =>
  simp only [Zf0,List.nil_append,h1,h2,Option.getD_none,if_true];simp [Ac.kid,Zb3];omega
 | some r =>
  simp only [Zf0,List.cons_append,List.nil_append,List.length_cons,h1,List.flatten_cons,h2,Option.getD_some];simp [Ac.kid,Zb3]
end
section
variable {P:Pl} {l:List Ac}
theorem Zmz {s j e:Nat} (h1:s<j) (h2:j<endL l s) (h3:∀q,s<q→q<j→endL l q≤j):upL l j j=some s:=Zc6 _ h1 h2 h3
theorem Zj5 {i e j j1:Nat} {r A B:List Ac} (h1:i≤j) (h2:j1≤e) (hA:A=sub l (i,j)) (hB:B=sub l (j1,e)):Za5 l i e (A++r++B)=Za5 l j j1 r:=by
 unfold Za5;rw [Ze6 h1,Zhn h2,hA,hB];simp only [List.append_assoc]
theorem Zdd {i e:Nat} (h:endL l i=e):Ze l i=sub l (i,e):=by unfold Ze;rw [h]
theorem ZdL {i e:Nat} {r:List Ac} (h:endL l i=e):ZH l i r=Za5 l i e r:=by
 unfold ZH;rw [h,show (1:Int) - 1=0 by decide,Zly]
theorem Zg5 {s j j1:Nat} (h1:s<j) (h2:j<endL l s) (h3:∀q,s<q→q<j→endL l q≤j) (he:endL l j=j1):Za0 l j=(Za5 l j j1 []).modify s (Zb3 (-1)):=by
 unfold Za0 ZI;rw [Zmz (e:=0) h1 h2 h3,he];rfl
theorem Zha {x:Ac} {n:Nat} (h:x.n=(n:Int)):x.kid n=x:=by
 cases x
 simp only [Ac.kid] at h ⊢;rw [h]
theorem ZhS {f:Nat} {what:Int} {i e:Nat} (R:RowW P l f what i e) (hk:(rowL l i).k=2) :
 ((brV (rowL l i) ((spL l i).map (sub l)) (hsL l (spL l i))).map fun r=>((r.1:Int),ZI l i e (r.2.getD []) ((if r.2=none then 0 else 1) - 1)))=Za4 l i:=by
 obtain ⟨hsh,hwn⟩:=ZeL R hk;have hle:=R.le;have hx:=Zfu R (.inr hk);rw [hk] at hx
 have hsw:∀o:Option (List Ac),ZI l i e (o.getD []) ((if o=none then 0 else 1) - 1)=(match o with | some r=>ZH l i r | none=>Za0 l i):=fun o=>by
  cases o with
  | none =>
   simp only [Option.getD_none,if_true];unfold Za0;rw [R.ee]
  | some r =>
   simp only [Option.getD_some];unfold ZH;rw [R.ee]
   simp
 simp only [hsw]
 have main:∀(m e' f0:Nat) (ob:Option (List Ac)) (b0:Ac) (B:List Ac),Wf P l (f0+1) 3 (i+1) m→Wf P l (f0+1) 1 m e'→kidL l i 1=m→B=sub l (e',e)→e'≤e →
  ((ob=none∧(rowL l i).n=2∧e'=e)∨(∃p2,ob=some (sub l (p2,e))∧(rowL l i).n=3∧p2=e'∧b0=rowL l p2∧Wf P l (f0+1) 1 p2 e∧kidL l i 2=p2)) →
  ((Z6 (rowL l i) (sub l (i+1,m)) (sub l (m,e')) ob (rowL l (i+1)) (rowL l m) b0).map fun r=>((r.1:Int),(match r.2 with | some r=>ZH l i r | none=>Za0 l i)))=Za4 l i:=by
  intro m e' f0 ob b0 B hw0 hw1 hk1 hB hee hob;have R0:=ZB hw0;have R1:=ZB hw1
  have hm1:(rowL l m).k=1:=by
   have:=R1.may;simpa [Zao] using this
  have h20:=ZeQ R0;have hc:Ze l (i+1)=sub l (i+1,m):=Zdd R0.ee;have ha:Ze l m=sub l (m,e'):=Zdd R1.ee;have hta:Zap l (i+1) (endL l (i+1))=ZS (sub l (i+1,m)):=by rw [R0.ee];exact Zdt (Nat.le_of_lt R0.lt) R0.le
  have hdrop:(rowL l (i+1)).k=29→(sub l (i+1,m)).drop 1=Ze l (i+1+1):=fun q=>by
   have hn':=R0.n (by omega);have hl':=R0.len;have hk1':(kidsV (rowL l (i+1)).k (rowL l (i+1)).n).length=1:=by rw [q];simp [kidsV]
   obtain ⟨f1,w1,_,R2,_⟩:=ZbV R0 (by omega);rw [Zgh,Zdd R2.ee]
  have hrow:∀(a:Nat),i<a→a≤e→sub l (i,a)=rowL l i::sub l (i+1,a):=fun a h1 h2=>ZeF (by omega) h1
  have hm_lt:=R1.lt;have hi_lt:=R0.lt
  have h12:(rowL l m).n≠0→(rowL l (m+1)).k=2→ZH l i ((rowL l i)::(sub l (i+1,m)++Zh (Zu (sub l (m,e'))) (inK (sub l (m,e')) 1))++B)=ZH l (m+1) (Ze l (kidL l (m+1) 1)):=fun hn h2=>by
   obtain ⟨m1,q,rest,hI⟩:=ZiS R1 hm1 hn h2;have ho:=hI.o;rw [Zm2 hI hn,Zgd R1 hm1 hI,ZdL R.ee,ZdL hI.e1];rw [←Zj5 (i:=i) (e:=e) (j:=m+1) (j1:=m1) (r:=Ze l (kidL l (m+1) 1)) (A:=sub l (i,m+1)) (B:=sub l (m1,e)) (by omega) (by omega) rfl rfl];congr 1
   rw [hrow (m+1) (by omega) (by omega),Zce (i:=i+1) (m:=m) (e:=m+1) (by omega) (by omega),ZeF (i:=m) (e:=m+1) (by omega) (by omega),ZcX,
    Zce (i:=m1) (m:=e') (e:=e) (by omega) (by omega),hB]
   simp [Zb3]
  unfold Z6 Za4;simp only [hk1];rw [show Zah (rowL l (i+1)) 1=(decide ((rowL l (i+1)).k=20)&&decide ((rowL l (i+1)).a=1)) from rfl,show Zah (rowL l (i+1)) 0=(decide ((rowL l (i+1)).k=20)&&decide ((rowL l (i+1)).a=0)) from rfl,hta]
  by_cases k20:(rowL l (i+1)).k=20
  · rcases h20 k20 with z | z
    · rcases hob with ⟨rfl,hn,rfl⟩ | ⟨p2,rfl,hn,rfl,rfl,hw2,hk2⟩
      · simp [k20,z,hn]
      · simp [k20,z,hn,hk2,Zdd (ZB hw2).ee]
    · simp [k20,z,ha]
  · by_cases k29:(rowL l (i+1)).k=29
    · rcases hob with ⟨rfl,hn,rfl⟩ | ⟨p2,rfl,hn,rfl,rfl,hw2,hk2⟩
      · simp [k29,hn,hdrop k29,ha,Ac.kid];rw [hx]
      · simp [k29,hn,hk2,hdrop k29,ha,Ac.kid,Zdd (ZB hw2).ee];rw [hx]
    · simp only [k20,k29,decide_false,Bool.false_and,if_false,Bool.false_eq_true];rcases hob with ⟨rfl,hn,rfl⟩ | ⟨p2,rfl,hn,rfl,rfl,hw2,hk2⟩
      · have hB0:B=[]:=by rw [hB,ZcX]
        have hxk:(rowL l i).kid 2=rowL l i:=Zha hn;simp only [hn,ZgX R1 hm1,hc]
        by_cases q11:(rowL l m).n=0∧ZS (sub l (i+1,m))=true
        · simp [q11]
        · by_cases q12:(rowL l m).n≠0∧(rowL l (m+1)).k=2∧Ze l (m+2)=sub l (i+1,m)
          · have h9:=h12 q12.1 q12.2.1;rw [hB0,List.append_nil] at h9;simp only [q11,q12,if_false,if_true];simp only [hxk,List.flatten_cons,List.flatten_nil,List.append_nil];simp [q12.1,q12.2.1,q12.2.2,h9]
          · have q12b:decide ((rowL l m).n≠0∧(rowL l (m+1)).k=2∧Ze l (m+2)=sub l (i+1,m))=false:=by simpa using q12
            simp only [q12b,if_neg q11];rw [if_neg (show ¬((2:Int)=3∧(rowL l (kidL l i 2)).n=0) by omega),if_neg (show ¬((2:Int)≠3∧(rowL l m).n=0∧ZS (sub l (i+1,m))=true) from fun q=>q11 q.2),if_neg q12,if_neg (show ¬((2:Int)=3∧(rowL l (kidL l i 2+1)).k=2∧Ze l (kidL l i 2+2)=sub l (i+1,m)) by omega)]
            simp
      · have R2:=ZB hw2
        have hm2:(rowL l p2).k=1:=by
         have:=R2.may;simpa [Zao] using this
        have hxk:(rowL l i).kid 3=rowL l i:=Zha hn;have hp2lt:=R2.lt
        have hin0:∀q,i<q→q<p2→endL l q≤p2:=fun q h1 h2=>by
         rcases Nat.lt_or_ge q m with h3 | h3
         · have:=(ZjJ hw0 (j:=q) (by omega) h3).1;omega
         · exact (ZjJ hw1 h3 h2).1
        simp only [hn,hk2,ZgX R1 hm1,ZgX R2 hm2,hc]
        by_cases q10:(rowL l p2).n=0
        · have h10:ZH l i ((rowL l i).kid 2::(sub l (i+1,m)++sub l (m,p2)))=Za0 l p2:=by
           rw [ZdL R.ee,Zg5 (s:=i) (by omega) (by rw [R.ee];omega) hin0 R2.ee];unfold Za5;rw [Ze6 (i:=i) (e:=p2) (by omega),hrow p2 (by omega) (by omega),Zce (i:=i+1) (m:=m) (e:=p2) (by omega) (by omega)];have hlen:(l.take i).length=i:=by rw [List.length_take];omega
           have hmod:=Zgn (A:=l.take i) (B:=(sub l (i+1,m)++sub l (m,p2))++[]++l.drop e) (x:=rowL l i) (f:=Zb3 (-1));rw [hlen] at hmod;have hadd:Zb3 (-1) (rowL l i)=(rowL l i).kid 2:=by rw [hx,hn];rfl
           rw [hadd] at hmod;simp only [List.append_assoc,List.cons_append,List.nil_append] at hmod ⊢;rw [hmod]
          simp [q10,h10]
        · by_cases q12:(rowL l m).n≠0∧(rowL l (m+1)).k=2∧Ze l (m+2)=sub l (i+1,m)
          · have h9:=h12 q12.1 q12.2.1;rw [hB] at h9;simp only [hxk];simp at h9;simp [q10,q12.1,q12.2.1,q12.2.2,h9]
          · have q12b:decide ((rowL l m).n≠0∧(rowL l (m+1)).k=2∧Ze l (m+2)=sub l (i+1,m))=false:=by simpa using q12
            by_cases q13:(rowL l (p2+1)).k=2∧Ze l (p2+2)=sub l (i+1,m)
            · have q13b:decide ((rowL l p2).n≠0∧(rowL l (p2+1)).k=2∧Ze l (p2+2)=sub l (i+1,m))=true:=by simp [q10,q13]
              obtain ⟨m1,q,rest,hI⟩:=ZiS R2 hm2 q10 q13.1;have ho:=hI.o
              have h13:ZH l i (rowL l i::(sub l (i+1,m)++(sub l (m,p2)++Zh (Zu (sub l (p2,e))) (inK (sub l (p2,e)) 2))))=if (rowL l (p2+1)).n=3 then ZH l (p2+1) (Ze l (kidL l (p2+1) 2)) else Za0 l (p2+1):=by
               rw [Zm1 hI q10,Zgd R2 hm2 hI,ZdL R.ee]
               by_cases n3:(rowL l (p2+1)).n=3
               · rw [if_pos n3,if_pos n3,ZdL hI.e1];rw [←Zj5 (i:=i) (e:=e) (j:=p2+1) (j1:=m1) (r:=Ze l (kidL l (p2+1) 2)) (A:=sub l (i,p2+1)) (B:=sub l (m1,e)) (by omega) (by omega) rfl rfl];congr 1;rw [hrow (p2+1) (by omega) (by omega),Zce (i:=i+1) (m:=m) (e:=p2+1) (by omega) (by omega),Zce (i:=m) (m:=p2) (e:=p2+1) (by omega) (by omega),ZeF (i:=p2) (e:=p2+1) (by omega) (by omega),ZcX];simp [Zb3]
               · rw [if_neg n3,if_neg n3,Zg5 (s:=p2) (by omega) (by rw [R2.ee];omega) (fun q h1 h2=>by omega) hI.e1];unfold Za5;rw [Ze6 (i:=i) (e:=p2+1) (by omega),hrow (p2+1) (by omega) (by omega),Zce (i:=i+1) (m:=m) (e:=p2+1) (by omega) (by omega),Zce (i:=m) (m:=p2) (e:=p2+1) (by omega) (by omega),ZeF (i:=p2) (e:=p2+1) (by omega) (by omega),ZcX,Zhn (i:=m1) (e:=e) (by omega)]
                 have hlen:(l.take i++(rowL l i::(sub l (i+1,m)++sub l (m,p2)))).length=p2:=by
                  rw [List.length_append,List.length_cons,List.length_append,List.length_take,ZaE (by show m≤_;omega),ZaE (by show p2≤_;omega)];simp only;omega
                 have hmod:=Zgn (A:=l.take i++(rowL l i::(sub l (i+1,m)++sub l (m,p2)))) (B:=sub l (m1,e)++l.drop e) (x:=rowL l p2) (f:=Zb3 (-1));rw [hlen] at hmod;simp only [List.append_assoc,List.cons_append,List.nil_append,if_true,Option.getD_none] at hmod ⊢;rw [hmod]
              simp only [hxk];rw [if_neg q10,if_neg (show ¬(decide ((rowL l m).n≠0∧(rowL l (m+1)).k=2∧Ze l (m+2)=sub l (i+1,m))=true) by rw [q12b];simp),if_pos q13b];rw [if_neg (show ¬(True∧(rowL l p2).n=0) from fun q=>q10 q.2)];rw [if_neg (fun q=>absurd rfl q.1),if_neg q12,if_pos ⟨trivial,q13⟩];simp only [List.flatten_cons,List.flatten_nil,List.append_nil,Option.map_some];rw [h13];split <;> rfl
            · have q13b:decide ((rowL l p2).n≠0∧(rowL l (p2+1)).k=2∧Ze l (p2+2)=sub l (i+1,m))=false:=by
               simp only [decide_eq_false_iff_not];exact fun q=>q13 q.2
              rw [if_neg q10,if_neg (show ¬(decide ((rowL l m).n≠0∧(rowL l (m+1)).k=2∧Ze l (m+2)=sub l (i+1,m))=true) by rw [q12b];simp),if_neg (show ¬(decide ((rowL l p2).n≠0∧(rowL l (p2+1)).k=2∧Ze l (p2+2)=sub l (i+1,m))=true) by rw [q13b];simp)];rw [if_neg (show ¬(True∧(rowL l p2).n=0) from fun q=>q10 q.2)];rw [if_neg (fun q=>absurd rfl q.1),if_neg q12,if_neg (show ¬(True∧(rowL l (p2+1)).k=2∧Ze l (p2+2)=sub l (i+1,m)) from fun q=>q13 q.2)];rfl
 rcases hsh with ⟨n2,l2⟩ | ⟨n3,l3⟩
 · obtain ⟨m,f0,w0,w1,hsp,hw0,hw1,hw⟩:=ZbN R l2;rw [hwn,if_neg (by omega)] at hw;injection hw with e0 hw;injection hw with e1 hw;subst e0 e1;rw [hsp];exact main m e f0 none (rowL l m) [] hw0 hw1 (ZB hw0).ee ZcX.symm lr_ (.inl ⟨rfl,n2,rfl⟩)
 · obtain ⟨m,p2,f0,w0,w1,w2,hsp,hw0,hw1,hw2,hw⟩:=ZcO R l3;rw [hwn,if_pos n3] at hw;injection hw with e0 hw;injection hw with e1 hw;injection hw with e2 hw;subst e0 e1 e2;rw [hsp];have hk1:kidL l i 1=m:=(ZB hw0).ee
   have hk2:kidL l i 2=p2:=by
    show endL l (kidL l i 1)=p2;rw [hk1];exact (ZB hw1).ee
   exact main m p2 f0 (some (sub l (p2,e))) (rowL l p2) (sub l (p2,e)) hw0 hw1 hk1 rfl (Nat.le_of_lt (ZB hw2).lt) (.inr ⟨p2,rfl,n3,rfl,rfl,hw2,hk2⟩)
end
section
variable {P:Pl} {l:List Ac}
theorem Zjw {i:Nat} (hk:(rowL l i).k=4):ZA l i=if isW l (i+1) 21 (rowL l i).a=true then some (16,Za0 l i) else none:=by
 unfold ZA;simp only;rw [if_neg (by omega),if_neg (by omega),if_neg (by omega),if_pos hk]
theorem ZhJ {i:Nat} (hk:(rowL l i).k=1) (h0:0<i):ZA l i=if (rowL l (upI (upL l i i)).toNat).k=1 then some (17,ZI l i (endL l i) (sub l (i+1,endL l i)) ((rowL l i).n - 1)) else none:=by
 unfold ZA;simp only;rw [if_neg (by omega),if_neg (by omega),if_neg (by omega),if_neg (by omega),if_pos ⟨hk,h0⟩]
theorem ZiJ (hk:(rowL l 0).k=1):ZA l 0=if (rowL l 0).n=0 then some (19,[]) else none:=by
 unfold ZA;simp only;rw [if_neg (by omega),if_neg (by omega),if_neg (by omega),if_neg (by omega),if_neg (by omega),if_neg (by omega)]
 by_cases q:(rowL l 0).n=0
 · rw [if_pos ⟨hk,q⟩,if_pos q]
 · rw [if_neg (fun h=>q h.2),if_neg q]
theorem ZiI {i:Nat} (hk:(rowL l i).k=9):ZA l i=some (18,ZI l i (i+(ZaG (rowL l i) (rowL l (i+1)) (rowL l (i+2))).2) [(ZaG (rowL l i) (rowL l (i+1)) (rowL l (i+2))).1] (1 - ((ZaG (rowL l i) (rowL l (i+1)) (rowL l (i+2))).2:Int))):=by
 unfold ZA;simp only;rw [if_neg (by omega),if_neg (by omega),if_neg (by omega),if_neg (by omega),if_neg (by omega),if_pos hk]
theorem Zjx {i:Nat} (h:¬ 16<(rowL l i).k) (h2:(rowL l i).k≠2) (h3:(rowL l i).k≠3) (h4:(rowL l i).k≠4) (h1:(rowL l i).k≠1) (h9:(rowL l i).k≠9):ZA l i=none:=by
 unfold ZA;simp only;rw [if_neg (by omega),if_neg (by omega),if_neg (by omega),if_neg (by omega),if_neg (by omega),if_neg (by omega),if_neg (by omega)]
theorem Zju {f:Nat} {what:Int} {i e:Nat} (R:RowW P l f what i e) (hk:(rowL l i).k=3) :
 ((ZbW i e (rowL l i) ((spL l i).map (sub l)) (hsL l (spL l i))).map fun f=>((f.what:Int),ZI l f.frm f.to_ (f.inn.getD []) (f.parts - f.gone)))=ZA l i:=by
 have hn:=R.n (by omega);have hl:=R.len;rw [show kidsV (rowL l i).k (rowL l i).n=[3,1] by simp [kidsV,hk]] at hn;obtain ⟨m,f0,w0,w1,hsp,hw0,hw1,_⟩:=ZbN R (by simp at hn;omega);have R0:=ZB hw0;have R1:=ZB hw1;have hk1:kidL l i 1=m:=R0.ee;have hta:Zap l (i+1) (endL l (i+1))=ZS (sub l (i+1,m)):=by rw [R0.ee];exact Zdt (Nat.le_of_lt R0.lt) R0.le
 have h14:ZI l i e [] (0 - 1)=Za0 l i:=by unfold Za0;rw [R.ee]
 rw [hsp];unfold ZA;simp only;rw [if_neg (by omega),if_neg (by omega),if_pos hk];unfold ZbW hsL;simp only [List.map_cons,List.map_nil,hk1,hta,ZjG]
 by_cases q:(rowL l i).a=0∨Zah (rowL l (i+1)) 0=true∨(ZS (sub l (i+1,m))=true∧(rowL l m).n=0)
 · rw [if_pos q,if_pos q];simp only [Option.map_some,Option.getD_none,h14];rfl
 · rw [if_neg q,if_neg q]
   by_cases q1:(rowL l i).a=1
   · rw [if_pos q1,if_pos q1,Zdd R0.ee,Zdd R1.ee];simp only [Option.map_some,Option.getD_some];unfold ZH;rw [R.ee];simp [Ac.kid]
   · rw [if_neg q1,if_neg q1];rfl
theorem Zkv {f:Nat} {what:Int} {i e:Nat} (R:RowW P l f what i e) (hk:(rowL l i).k=4) :
 ((if (hsL l (spL l i)).head? = some ⟨21,(rowL l i).a,0,0,0,0⟩ then some (⟨16,i,e,none,0,1⟩:Fd) else none).map fun f=>((f.what:Int),ZI l f.frm f.to_ (f.inn.getD []) (f.parts - f.gone)))=ZA l i:=by
 have hn:=R.n (by omega);have hl:=R.len;rw [show kidsV (rowL l i).k (rowL l i).n=[2] by simp [kidsV,hk]] at hn;obtain ⟨f0,w0,hsp,R0,_⟩:=ZbV R (by simp at hn;omega);have h14:ZI l i e [] (0 - 1)=Za0 l i:=by unfold Za0;rw [R.ee]
 have heq:((rowL l (i+1))=⟨21,(rowL l i).a,0,0,0,0⟩) ↔ isW l (i+1) 21 (rowL l i).a=true:=by
  unfold isW;constructor
  · intro h;rw [h]
    simp
  · intro h;simp only [Bool.and_eq_true,decide_eq_true_eq] at h;have hm:=R0.num;unfold ZU at hm;simp [h.1,Zs] at hm;have hn0:=R0.n (by omega);rw [show kidsV (rowL l (i+1)).k (rowL l (i+1)).n=[] by simp [kidsV,h.1]] at hn0;simp at hn0;generalize rowL l (i+1)=y at *
    cases y
    simp at h hm hn0 ⊢;omega
 rw [hsp,Zjw hk];unfold hsL;simp only [List.map_cons,List.map_nil,List.head?_cons,Option.some.injEq]
 by_cases q:isW l (i+1) 21 (rowL l i).a=true
 · rw [if_pos (heq.2 q),if_pos q];simp only [Option.map_some,Option.getD_none,h14];rfl
 · rw [if_neg (fun h=>q (heq.1 h)),if_neg q];rfl
theorem ZjL {x y z:Ac} (h:y.k=10∨y.k=12∨(y.k=11∧(z.k=12∨z.k=10))):handF x y z=ZaG x y z:=by
 unfold handF ZaG;rcases h with h | h | ⟨h,h2 | h2⟩ <;> simp [h, *]
theorem Zjv (hev:ZO P l=true) (hl:l.length≤131072) {i:Nat} (hi:i<l.length):((Zaz l i).map fun f=>((f.what:Int),ZaC l f))=ZA l i∧∀f,Zaz l i=some f→f.frm=i:=by
 have hs:=Zdi hev hl;have hT:=ZeD hev;have h0:l≠[]:=fun e=>by rw [e] at hi;simp at hi
 have hw:=Zc4 hev h0;obtain ⟨f',what',e',h1,_⟩:=ZdU _ _ _ _ hw i (Nat.zero_le _) hi;obtain ⟨f',rfl⟩:=Zbq h1;have R:=ZB h1
 have hroot:(rowL l 0).k=9→handV P l 0≠0:=fun q=>by
  have:=(ZB hw).may;rw [q] at this;simp [Zao] at this
 have hh:=ZeB _ _ _ _ hw hroot i (Nat.zero_le _) hi
 have hfrm:∀f,Zaz l i=some f→f.frm=i:=fun f hf=>by
  unfold Zaz at hf;split at hf
  · simp only [Option.map_eq_some_iff] at hf;obtain ⟨r,_,rfl⟩:=hf;rfl
  · split at hf
    · next f2 hd =>
      injection hf with hf;subst hf;unfold Zal at hd;split at hd
      · simp only [Option.map_eq_some_iff] at hd;obtain ⟨r,_,rfl⟩:=hd;rfl
      · split at hd
        · unfold ZbW at hd;split at hd
          · split at hd
            · injection hd with hd;rw [←hd]
            · split at hd
              · injection hd with hd;rw [←hd]
              · cases hd
          · cases hd
        · split at hd
          · split at hd
            · injection hd with hd;rw [←hd]
            · cases hd
          · split at hd
            · split at hd
              · injection hd with hd;rw [←hd]
              · cases hd
            · split at hd
              · injection hd with hd;rw [←hd]
              · cases hd
    · split at hf
      · next q =>
        injection hf with hf;rw [←hf];exact q.1.symm
      · cases hf
 refine ⟨?_,hfrm⟩
 have hdone:((Zaz l i).map fun f=>((f.what:Int),ZaC l f))=(Zaz l i).map fun f=>((f.what:Int),ZI l f.frm f.to_ (f.inn.getD []) (f.parts - f.gone)):=by
  cases hla:Zaz l i with
  | none=>rfl
  | some f =>
   have:=hfrm f hla;simp only [Option.map_some];rw [Zj3 hT hs (by omega)]
 rw [hdone];unfold Zaz
 by_cases k16:16<(rowL l i).k
 · rw [if_pos k16,←ZjU R k16]
   cases Za3 (rowL l i).k ((spL l i).map (sub l)) (hsL l (spL l i)) with
   | none=>rfl
   | some r =>
    simp only [Option.map_some];unfold ZH;rfl
 · rw [if_neg k16]
   have hz:¬(i=0∧(rowL l 0).n=0)∨(rowL l i).k=1:=by
    by_cases q:i=0
    · right;subst q;have:=(ZB hw).may;simpa [Zao] using this
    · exact .inl (fun h=>q h.1)
   have hne:(rowL l i).k≠1→¬(i=0∧(rowL l 0).n=0):=fun q=>hz.resolve_right q
   unfold Zal;rw [show endL l i=e' from R.ee]
   by_cases k2:(rowL l i).k=2
   · rw [if_pos k2];have hb:=ZhS R k2;rw [if_neg (hne (by omega))];have hlw:ZA l i=Za4 l i:=by unfold ZA;simp only;rw [if_neg (by omega),if_pos k2]
     rw [hlw,←hb]
     cases brV (rowL l i) ((spL l i).map (sub l)) (hsL l (spL l i)) with
     | none=>rfl
     | some r=>rfl
   · rw [if_neg k2]
     by_cases k3:(rowL l i).k=3
     · rw [if_pos k3,if_neg (hne (by omega)),←Zju R k3]
       cases ZbW i e' (rowL l i) ((spL l i).map (sub l)) (hsL l (spL l i)) with
       | none=>rfl
       | some r=>rfl
     · rw [if_neg k3]
       by_cases k4:(rowL l i).k=4
       · rw [if_pos k4,if_neg (hne (by omega)),←Zkv R k4]
         by_cases q:(hsL l (spL l i)).head? = some ⟨21,(rowL l i).a,0,0,0,0⟩
         · rw [if_pos q]
         · rw [if_neg q]
       · rw [if_neg k4]
         by_cases k1:(rowL l i).k=1
         · rw [if_pos k1];have hflat:=Zev (l:=l) wfR _ _ _ _ R.ks;have hlen:=R.len
           by_cases q0:0<i
           · rw [ZhJ k1 q0];have hup:=Zmy hT hs q0 hi;rw [if_neg (show ¬(i=0∧(rowL l 0).n=0) by omega),hup];unfold ZbT;rw [show decide (0<i)=true by simpa using q0,Bool.true_and]
             by_cases q:(rowL l ((Zcl l)[i]?.getD 0).toNat).k=1
             · rw [if_pos (by simpa using q),if_pos q];simp only [Option.map_some,Option.getD_some,hflat,List.length_map,hlen];rw [show endL l i=e' from R.ee];rfl
             · rw [if_neg (by simpa using q),if_neg q];rfl
           · have hi0:i=0:=by omega
             subst hi0;rw [ZiJ k1];have hinb:ZbT l 0=false:=rfl;rw [hinb,if_neg (by simp)];simp only
             by_cases q:(rowL l 0).n=0
             · rw [if_pos (show (True∧(rowL l 0).n=0) from ⟨trivial,q⟩),if_pos q];simp only [Option.map_some,Option.getD_none]
               have he1:e'=l.length:=by
                have h9:=(ZB hw).ee;rw [R.ee] at h9;exact h9
               have hl1:e'=1:=by
                have hks:=R.ks;have hl0:=R.len
                match hsp:spL l 0,hks,hl0 with
                | [],hks,_ =>
                 match hw2:Zaa (rowL l 0) ((l[0+1]?.map Ac.k).getD 0),hks with
                 | [],hks=>simp only [ZL] at hks;omega
                 | _::_,hks=>simp [ZL] at hks
                | _::_,_,hl0=>simp at hl0;omega
               have hsw:ZI l 0 1 [] (0 - 0)=[]:=by
                rw [show (0:Int) - 0=0 by decide,Zly];unfold Za5;rw [List.drop_of_length_le (by omega)];rfl
               exact congrArg some (Prod.ext rfl hsw)
             · rw [if_neg (show ¬(True∧(rowL l 0).n=0) from fun h=>q h.2),if_neg q];rfl
         · rw [if_neg k1]
           by_cases k9:(rowL l i).k=9
           · rw [if_pos k9,if_neg (hne k1)];have h0:=hh k9;obtain ⟨h1,_⟩:=Zcc h0
             have hyz:∃y,l[i+1]? = some y∧(y.k=10∨y.k=12∨(y.k=11∧∃z,l[i+2]? = some z∧(z.k=12∨z.k=10))):=by
              rcases h1 with h1 | h1
              · obtain ⟨y,hy,h2⟩:=Zf4 R.x h1;refine ⟨y,hy,?_⟩;unfold ZeO at h2;simp only [Bool.and_eq_true,Bool.or_eq_true,decide_eq_true_eq] at h2;rcases h2.2 with q | q
                · exact .inl q.1
                · exact .inr (.inl q.1)
              · obtain ⟨y,z,hy,hz,h2⟩:=Zex R.x h1;refine ⟨y,hy,.inr (.inr ⟨?_,z,hz,?_⟩)⟩
                · unfold ZeN at h2;simp only [Bool.and_eq_true,Bool.or_eq_true,decide_eq_true_eq] at h2;exact h2.1.2.1
                · unfold ZeN at h2;simp only [Bool.and_eq_true,Bool.or_eq_true,decide_eq_true_eq] at h2;rcases h2.2.2 with q | q
                  · exact .inl q
                  · exact .inr q.1
             obtain ⟨y,hy,hq⟩:=hyz
             have hfw:handF (rowL l i) (l[i+1]?.getD (rowL l i)) (l[i+2]?.getD (rowL l i))=ZaG (rowL l i) (rowL l (i+1)) (rowL l (i+2)):=by
              have hy2:rowL l (i+1)=y:=by unfold rowL;rw [hy];rfl
              rw [hy,hy2];simp only [Option.getD_some];rcases hq with q | q | ⟨q,z,hz,q2⟩
              · unfold handF ZaG;simp [q]
              · unfold handF ZaG;simp [q]
              · have hz2:rowL l (i+2)=z:=by unfold rowL;rw [hz];rfl
                rw [hz,hz2];simp only [Option.getD_some];exact ZjL (.inr (.inr ⟨q,q2⟩))
             rw [hfw,ZiI k9];rfl
           · rw [if_neg k9,if_neg (hne k1),Zjx k16 k2 k3 k4 k1 k9];rfl
end
theorem Zd7 {α β : Type} {f g:α → Option β}:∀(l:List α),(∀x ∈ l,f x=g x)→l.findSome? f=l.findSome? g
 | [],_=>rfl
 | x::l,h=>by
  rw [List.findSome?_cons,List.findSome?_cons,h x (by simp),Zd7 l (fun y hy=>h y (by simp [hy]))]
def ZcT (l:List Ac):Option (Nat×Int×List Ac):=(List.range l.length).findSome? fun i=>(ZA l i).map fun r=>(i,r.1,r.2)
theorem ZjA {P:Pl} {l:List Ac} (hev:ZO P l=true) (hl:l.length≤131072):((ZaO l).map fun f=>(f.frm,(f.what:Int),ZaC l f))=ZcT l:=by
 unfold ZaO ZcT;rw [List.map_findSome?];apply Zd7;intro i hi;have hi2:i<l.length:=List.mem_range.1 hi;obtain ⟨h1,h2⟩:=Zjv hev hl hi2;show (Zaz l i).map _=_;rw [←h1]
 cases hla:Zaz l i with
 | none=>rfl
 | some f =>
  simp only [Option.map_some];rw [h2 f hla]
end Go.Proofs.Ytdpokdcendgfeaa
