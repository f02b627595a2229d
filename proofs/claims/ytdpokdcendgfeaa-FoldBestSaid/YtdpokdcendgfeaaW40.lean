/- Several texts in one: Plain law: each thing that is left, done, leaves a right event, and a smaller one: doings, and the whole. Plain law: each right event comes to an end, and to which. Conditions: those of each. -/
import Derived.Test.YtdpokdcendgfeaaW39
import Derived.Test.YtdpokdcendgfeaaW31
set_option linter.unusedSimpArgs false
set_option linter.unusedVariables false
set_option maxHeartbeats 80000000
set_option maxRecDepth 100000
namespace Go.Proofs.Ytdpokdcendgfeaa
open Go.RowKit
section
variable {P:Pl} {L:List Ac}
theorem At.in_end {i:Nat} {K:List Ac} {v w:Int} (h:At L i K) (hk:Okx P v K w) {j:Nat} (h1:i≤j) (h2:j<i+K.length):endL L j≤i+K.length:=by
 obtain ⟨f,hw⟩:=h.wf hk;exact (Go.Proofs.Ytdpokdcendgfeaa.in_end hw h1 h2).1
theorem At.le {i:Nat} {K:List Ac} (h:At L i K):i+K.length≤L.length:=by
 obtain ⟨X,Y,e,hi⟩:=h;rw [e];simp <;> omega
theorem Zcz {r K:List Ac} {y z:Ac} {a b:List Ac} (e1:r=y::a) (e2:K=z::b) (hy:1≤y.k∧y.k≤8) (hz:1≤z.k∧z.k≤8):Zf8 r K:=fun y' z' h1 h2=>by
 rw [e1] at h1;rw [e2] at h2;simp only [List.getElem?_cons_zero,Option.some.injEq] at h1 h2;subst h1 h2;refine ⟨?_,fun _=>by omega⟩;unfold Zn;rw [if_neg (by omega),if_neg (by omega),if_neg (by omega),if_neg (by omega)]
theorem Ze0 {q:Nat} {x:Ac} {l1:List Ac} {what' w':Int} (hat:At L q (x::l1)) (hK:Okx P what' (x::l1) w') (hk:x.k=2) :
 ∃c kc a ka n0 n1 l2,l1=(c::kc)++((a::ka)++l2)∧Okx P 3 (c::kc) n0∧Okx P 1 (a::ka) n1∧n0≤256∧n1≤256∧max n0 1≤w'∧max n1 1≤w'∧a.k=1∧(x.n=2∨x.n=3) ∧
  (x.n≠3→l2=[])∧(x.n=3→∃b kb n2,l2=b::kb∧Okx P 1 (b::kb) n2∧n2≤256∧max n2 1≤w'∧b.k=1):=by
 obtain ⟨x',l',e,hm,hnum,h3⟩:=Zbt hK;injection e with e1 e2;subst e1 e2;rcases h3 with ⟨k1,_⟩ | ⟨_,hlen,w0,hkk,hw0,hw⟩
 · omega
 have hb1:∀ {y:Ac} {l:List Ac} {n:Int},Okx P 1 (y::l) n→y.k=1:=fun h=>by
  have:=(ZbY h).2;simpa [ZE] using this
 by_cases h3:x.n=3
 · have hkv:kidsV x.k x.n=[3,1,1]:=by rw [hk,h3];rfl
   rw [hkv] at hkk;obtain ⟨c,kc,a,ka,b,kb,n0,n1,n2,rfl,h0,h1,h2,l0,l1,l2⟩:=ZjY (by decide) hkk;exact ⟨c,kc,a,ka,n0,n1,b::kb,rfl,h0,h1,by omega,by omega,by omega,by omega,hb1 h1,.inr h3,fun h=>absurd h3 h,fun _=>⟨b,kb,n2,rfl,h2,by omega,by omega,hb1 h2⟩⟩
 · have hkv:kidsV x.k x.n=[3,1]:=by rw [hk];unfold kidsV;rw [if_pos rfl,if_neg h3]
   rw [hkv] at hkk hlen;simp only [List.length_cons,List.length_nil] at hlen;obtain ⟨c,kc,a,ka,n0,n1,rfl,h0,h1,l0,l1⟩:=Zgh hkk;rw [if_neg (by decide)] at h1;exact ⟨c,kc,a,ka,n0,n1,[],by simp,h0,h1,by omega,by omega,by omega,by omega,hb1 h1,.inl (by omega),fun _=>rfl,fun h=>absurd h h3⟩
theorem ZhM {q:Nat} {x a:Ac} {l1 ka:List Ac} {what' w' n:Int} (hK:Okx P what' (x::l1) w') (hat:At L q (x::l1)) (hk:x.k=2) (ha:Okx P 1 (a::ka) n) (hn:n≤w') (hak:a.k=1) (hmu:mu (a::ka)<mu (x::l1)) (hlen:ka.length≤l1.length) :
 Gv P L q (x::l1) what' w' (Zaa L q (a::ka)):=by
 have hm:=(ZbY hK).2;exact ⟨a::ka,n,Zb0 (hat.end_ hK).1,Zdp ha rfl (Zj4 hm (by omega) (by omega)),hn,Zcz rfl rfl (by omega) (by omega),hmu,by simpa using hlen⟩
theorem ZiB {c a:Ac} {kc ka:List Ac} {v n0 n1:Int} (hv:ZE v 2=true) (h0:Okx P 3 (c::kc) n0) (h1:Okx P 1 (a::ka) n1) (l0:n0≤256) (l1:n1≤256):Okx P v ((⟨2,0,0,0,0,2⟩:Ac)::((c::kc)++(a::ka))) (max (max (max 0 n0) n1) 1) :=
 Zdc (x:=⟨2,0,0,0,0,2⟩) hv (by rfl) (by decide) (by rfl) (Zmx (by decide) (by decide) h0 h1) (by omega)
theorem ZiA {c a b:Ac} {kc ka kb:List Ac} {v n0 n1 n2:Int} (hv:ZE v 2=true) (h0:Okx P 3 (c::kc) n0) (h1:Okx P 1 (a::ka) n1) (h2:Okx P 1 (b::kb) n2) (l0:n0≤256) (l1:n1≤256) (l2:n2≤256):Okx P v ((⟨2,0,0,0,0,3⟩:Ac)::((c::kc)++((a::ka)++(b::kb)))) (max (max (max (max 0 n0) n1) n2) 1) :=
 Zdc (x:=⟨2,0,0,0,0,3⟩) hv (by rfl) (by decide) (by rfl) (Zmw (by decide) (by decide) h0 h1 h2) (by omega)
theorem ZiG {w:Int} (hok:Okx P 1 L w) {q:Nat} (hk:(rowL L q).k=2):ZcF P L (Zaa L q (ZF L (ZU L q 1))):=by
 have hq:q<L.length:=by
  rcases Nat.lt_or_ge q L.length with h | h
  · exact h
  · exfalso;have:rowL L q=⟨0,0,0,0,0,0⟩:=by unfold rowL;rw [List.getElem?_eq_none h];rfl
    rw [this] at hk;exact absurd hk (by decide)
 refine ZcL hok hq (fun y hy=>by
  rw [Z5 hq] at hy;injection hy with hy;rw [←hy]
  omega) (fun K what' w' hat hK=>?_)
 obtain ⟨x,l1,rfl,_⟩:=ZaC hK;have hx:=hat.row.1;rw [hx] at hk;obtain ⟨c,kc,a,ka,n0,n1,l2,rfl,h0,h1,_,_,hw0,hw1,ha,_⟩:=Ze0 hat hK hk;have hat0:At L (q+1) (c::kc):=At.kid hat;have hat1:At L (q+1+(c::kc).length) (a::ka):=At.kid2 hat;have hkid:ZU L q 1=q+1+(c::kc).length:=(hat0.end_ h0).1;rw [hkid,(hat1.end_ h1).2];refine ZhM hK hat hk h1 (by omega) ha ?_ ?_
 · rw [ZL x,Z9,Z9];omega
 · simp <;> omega
theorem ZiI {w:Int} (hok:Okx P 1 L w) {q:Nat} (hk:(rowL L q).k=2) (hn:(rowL L q).n=3):ZcF P L (Zaa L q (ZF L (ZU L q 2))):=by
 have hq:q<L.length:=by
  rcases Nat.lt_or_ge q L.length with h | h
  · exact h
  · exfalso;have:rowL L q=⟨0,0,0,0,0,0⟩:=by unfold rowL;rw [List.getElem?_eq_none h];rfl
    rw [this] at hk;exact absurd hk (by decide)
 refine ZcL hok hq (fun y hy=>by
  rw [Z5 hq] at hy;injection hy with hy;rw [←hy]
  omega) (fun K what' w' hat hK=>?_)
 obtain ⟨x,l1,rfl,_⟩:=ZaC hK;have hx:=hat.row.1;rw [hx] at hk hn;obtain ⟨c,kc,a,ka,n0,n1,l2,rfl,h0,h1,_,_,hw0,hw1,ha,_,_,h3⟩:=Ze0 hat hK hk;obtain ⟨b,kb,n2,rfl,h2,_,hw2,hb⟩:=h3 hn;have hat0:At L (q+1) (c::kc):=At.kid hat;have hat1:At L (q+1+(c::kc).length) (a::ka):=At.kid2 hat
 have hat2:At L (q+1+(c::kc).length+(a::ka).length) (b::kb):=by
  have:=At.in_ (L:=L) (i:=q) (A:=x::((c::kc)++(a::ka))) (K:=b::kb) (C:=[]) (by simpa using hat);rw [show q+1+(c::kc).length+(a::ka).length=q+(x::((c::kc)++(a::ka))).length by simp <;> omega];exact this
 have hkid:ZU L q 2=q+1+(c::kc).length+(a::ka).length:=by
  show endL L (endL L (q+1))=_;rw [(hat0.end_ h0).1,(hat1.end_ h1).1]
 rw [hkid,(hat2.end_ h2).2];refine ZhM hK hat hk h2 (by omega) hb ?_ ?_
 · rw [ZL x,Z9,Z9];omega
 · simp <;> omega
theorem ZiD {a b c w:Int} (h0:a≤w) (h1:b≤w) (h2:c≤w) (h:1≤w):max (max (max (max 0 a) b) c) 1≤w:=by omega
theorem Zip {w:Int} (hok:Okx P 1 L w) (hs:Z7 L) {q:Nat} (hq:q<L.length) (hk:(rowL L q).k=2) {n:Int} {L':List Ac} (h:Zcr L q=some (n,L')):ZcF P L L':=by
 have hnq:∀y,L[q]? = some y→¬(9≤y.k∧y.k≤12):=fun y hy=>by
  rw [Z5 hq] at hy;injection hy with hy;rw [←hy];omega
 unfold Zcr at h;simp only at h
 by_cases c1:(rowL L (q+1)).k=20
 · rw [if_pos c1] at h
   by_cases d1:(rowL L (q+1)).a=1
   · rw [if_pos d1] at h;injection h with h;injection h with _ h5;exact h5▸ZiG hok hk
   · rw [if_neg d1] at h
     by_cases d2:(rowL L q).n=3
     · rw [if_pos d2] at h;injection h with h;injection h with _ h5;exact h5▸ZiI hok hk d2
     · rw [if_neg d2] at h;injection h with h;injection h with _ h5;exact h5▸ZcZ hok hs hq (by omega) (by omega)
 rw [if_neg c1] at h
 by_cases c2:(rowL L (q+1)).k=29
 · rw [if_pos c2] at h;injection h with h;injection h with _ h5;rw [←h5];refine ZcL hok hq hnq (fun K what' w' hat hK=>?_);obtain ⟨x,l1,rfl,_⟩:=ZaC hK;have hx:=hat.row.1;rw [hx] at hk ⊢;have hm:=(ZbY hK).2;rw [hk] at hm;obtain ⟨c,kc,a,ka,n0,n1,l2,rfl,h0,h1,l0,l1,hw0,hw1,ha,hn,hn2,hn3⟩:=Ze0 hat hK hk;have hat0:At L (q+1) (c::kc):=At.kid hat;have hat1:At L (q+1+(c::kc).length) (a::ka):=At.kid2 hat;rw [hat0.row.1] at c2;obtain ⟨c',l',e,hm2,hnum2,h3⟩:=Zbt h0;injection e with e1 e2;subst e1 e2;rcases h3 with ⟨k1,_⟩ | ⟨_,hlen2,w1,hkk2,hw1',hw2⟩
   · omega
   rw [show kidsV c.k c.n=[3] by rw [c2];rfl] at hkk2;obtain ⟨z,kz,m2,rfl,hz,hle2⟩:=Zgi hkk2;have hatz:At L (q+1+1) (z::kz):=At.kid (C:=[]) (by simpa using hat0);have hkid1:ZU L q 1=q+1+(c::z::kz).length:=(hat0.end_ h0).1;rw [(hatz.end_ hz).2,hkid1,(hat1.end_ h1).2,Zb0 (hat.end_ hK).1]
   by_cases d3:x.n=3
   · obtain ⟨b,kb,n2,rfl,h2,l2,hw2',hb⟩:=hn3 d3;clear hn2 hn3
     have hat2:At L (q+1+(c::z::kz).length+(a::ka).length) (b::kb):=by
      have:=At.in_ (L:=L) (i:=q) (A:=x::((c::z::kz)++(a::ka))) (K:=b::kb) (C:=[]) (by simpa using hat);rw [show q+1+(c::z::kz).length+(a::ka).length=q+(x::((c::z::kz)++(a::ka))).length by simp <;> omega];exact this
     have hkid2:ZU L q 2=q+1+(c::z::kz).length+(a::ka).length:=by
      show endL L (endL L (q+1))=_;rw [(hat0.end_ h0).1,(hat1.end_ h1).1]
     rw [if_pos d3,hkid2,(hat2.end_ h2).2];have hm2:m2≤w':=by omega
     have hm3:n2≤w'∧n1≤w'∧1≤w':=by omega
     have hm5:m2≤256:=by omega
     refine ⟨_,max (max (max (max 0 m2) n2) n1) 1,rfl,?_,ZiD hm2 hm3.1 hm3.2.1 hm3.2.2,Zcz rfl rfl (by decide) (by omega),?_,?_⟩
     · have:=ZiA (P:=P) hm hz h2 h1 hm5 l2 l1;simpa using this
     · have e9:((z::kz)++(b::kb)++(a::ka))=(z::kz)++((b::kb)++(a::ka)):=by simp
       have e8:mu (c::z::kz)=mu (z::kz)+2+1:=by rw [ZL c,if_pos (.inl c2)]
       rw [e9,ZL,ZL x,Z9,Z9,Z9,Z9,e8,if_neg (by decide)];omega
     · simp <;> omega
   · have hl2:=hn2 d3;clear hn2 hn3;subst hl2;rw [if_neg d3];have hnil:Okx P 1 [(⟨1,0,0,0,0,0⟩:Ac)] 0:=Zez (m:=0) (by rfl) (by rfl) (by rfl) (by rfl) .nil;have hm2:m2≤w':=by omega
     have hm3:n1≤w'∧1≤w':=by omega
     have hm5:m2≤256:=by omega
     refine ⟨_,max (max (max (max 0 m2) 0) n1) 1,rfl,?_,ZiD hm2 (by omega) hm3.1 hm3.2,Zcz rfl rfl (by decide) (by omega),?_,?_⟩
     · have:=ZiA (P:=P) hm hz hnil h1 hm5 (by decide) l1;simpa using this
     · have e9:((z::kz)++[(⟨1,0,0,0,0,0⟩:Ac)]++(a::ka))=(z::kz)++([(⟨1,0,0,0,0,0⟩:Ac)]++(a::ka)):=by simp
       have e8:mu (c::z::kz)=mu (z::kz)+2+1:=by rw [ZL c,if_pos (.inl c2)]
       have e7:mu [(⟨1,0,0,0,0,0⟩:Ac)]=2:=rfl;rw [e9,ZL,ZL x,Z9,Z9,Z9,Z9,e8,e7,ZdU,if_neg (by decide)];omega
     · simp <;> omega
 rw [if_neg c2] at h
 by_cases c3:(rowL L q).n=3∧(rowL L (ZU L q 2)).n=0
 · rw [if_pos c3] at h;injection h with h;injection h with _ h5;rw [←h5];refine ZcL hok hq hnq (fun K what' w' hat hK=>?_);obtain ⟨x,l1,rfl,_⟩:=ZaC hK;have hx:=hat.row.1;rw [hx] at hk c3;have hm:=(ZbY hK).2;have hnx:=(ZbY hK).1;obtain ⟨c,kc,a,ka,n0,n1,l2,rfl,h0,h1,l0,l1,hw0,hw1,ha,hn,hn2,hn3⟩:=Ze0 hat hK hk;obtain ⟨b,kb,n2,rfl,h2,l2,hw2',hb⟩:=hn3 c3.1;clear hn2 hn3;have hat0:At L (q+1) (c::kc):=At.kid hat;have hat1:At L (q+1+(c::kc).length) (a::ka):=At.kid2 hat
   have hat2:At L (q+1+(c::kc).length+(a::ka).length) (b::kb):=by
    have:=At.in_ (L:=L) (i:=q) (A:=x::((c::kc)++(a::ka))) (K:=b::kb) (C:=[]) (by simpa using hat);rw [show q+1+(c::kc).length+(a::ka).length=q+(x::((c::kc)++(a::ka))).length by simp <;> omega];exact this
   have hkid2:ZU L q 2=q+1+(c::kc).length+(a::ka).length:=by
    show endL L (endL L (q+1))=_;rw [(hat0.end_ h0).1,(hat1.end_ h1).1]
   obtain ⟨s,hse⟩:∃s,q+1+(c::kc).length+(a::ka).length=s:=⟨_,rfl⟩;rw [hkid2];rw [hse] at hat2 ⊢
   have hup:upL L s s=some q:=ZjG (e:=s) (by omega) (by
    have:=(hat.end_ hK).1;rw [this];simp only [List.length_cons,List.length_append] at hse ⊢
    omega) (fun j h6 h7=>by
     rcases Nat.lt_or_ge j (q+1+(c::kc).length) with h8 | h8
     · have:=hat0.in_end h0 (show q+1≤j by omega) h8;omega
     · have:=hat1.in_end h1 h8 (by omega)
       omega)
   obtain ⟨X,Y,e,hX⟩:=hat
   have hcutL:ZaH L s=ZbE L q (q+(x::((c::kc)++((a::ka)++(b::kb)))).length) (addN (-1) x::((c::kc)++(a::ka))):=by
    unfold ZaH;rw [(hat2.end_ h2).1];have h9:=Zdh (L:=L) (A:=X) (B:=(c::kc)++(a::ka)) (K:=b::kb) (S:=Y) (x:=x) (q:=s) (r:=[]) (d:=0 - 1) (by rw [e];simp) (by rw [hX];exact hup) (by rw [hX,←hse];simp;omega);rw [h9];have h10:=Zgp (A:=X) (K:=x::((c::kc)++((a::ka)++(b::kb)))) (C:=Y) (r:=addN (-1) x::((c::kc)++(a::ka)));rw [←e,hX] at h10;rw [h10]
    simp
   have hxe:addN (-1) x=⟨2,0,0,0,0,2⟩:=by
    unfold Zu at hnx;simp [hk,Zp] at hnx;obtain ⟨xk,xa,xb,xc,xd,xn⟩:=x;simp only at hk hnx c3;unfold addN;simp only [Ac.mk.injEq];omega
   refine ⟨_,_,hcutL,by rw [hxe];exact ZiB (by rw [←hk];exact hm) h0 h1 l0 l1,by omega,Zcz rfl rfl (by rw [hxe];decide) (by omega),?_,?_⟩
   · rw [ZL,ZL x,Z9,Z9,Z9,ZL b,if_neg (by rw [hxe];decide)];omega
   · simp <;> omega
 rw [if_neg c3] at h
 by_cases c4:(rowL L q).n≠3∧(rowL L (ZU L q 1)).n=0∧Zbr L (q+1) (endL L (q+1))=true
 · rw [if_pos c4] at h;injection h with h;injection h with _ h5;exact h5▸ZcZ hok hs hq (by omega) (by omega)
 rw [if_neg c4] at h
 by_cases c5:(rowL L (ZU L q 1)).n≠0∧(rowL L (ZU L q 1+1)).k=2∧ZF L (ZU L q 1+2)=ZF L (q+1)
 · rw [if_pos c5] at h;injection h with h;injection h with _ h5;exact h5▸ZiG hok c5.2.1
 rw [if_neg c5] at h
 by_cases c6:(rowL L q).n=3∧(rowL L (ZU L q 2+1)).k=2∧ZF L (ZU L q 2+2)=ZF L (q+1)
 · rw [if_pos c6] at h
   by_cases d6:(rowL L (ZU L q 2+1)).n=3
   · rw [if_pos d6] at h;injection h with h;injection h with _ h5;exact h5▸ZiI hok c6.2.1 d6
   · rw [if_neg d6] at h;injection h with h;injection h with _ h5
     have hq2:ZU L q 2+1<L.length:=by
      rcases Nat.lt_or_ge (ZU L q 2+1) L.length with h | h
      · exact h
      · exfalso;have:rowL L (ZU L q 2+1)=⟨0,0,0,0,0,0⟩:=by unfold rowL;rw [List.getElem?_eq_none h];rfl
        rw [this] at c6;exact absurd c6.2.1 (by decide)
     exact h5▸ZcZ hok hs hq2 (by omega) (by omega)
 rw [if_neg c6] at h
 cases h
theorem Zj6 {w:Int} (hok:Okx P 1 L w) {q:Nat} (hq:q<L.length) (hk:(rowL L q).k=3):ZcF P L (Zaa L q (⟨2,0,0,0,0,2⟩::(ZF L (q+1)++ZF L (ZU L q 1)))):=by
 refine ZcL hok hq (fun y hy=>by
  rw [Z5 hq] at hy;injection hy with hy;rw [←hy]
  omega) (fun K what' w' hat hK=>?_)
 obtain ⟨x',l',rfl,hm,hnum,h3⟩:=Zbt hK;have hx:=hat.row.1;rw [hx] at hk;rcases h3 with ⟨k1,_⟩ | ⟨_,hlen,w0,hkk,hw0,hw⟩
 · omega
 rw [show kidsV x'.k x'.n=[3,1] by rw [hk];rfl] at hkk;obtain ⟨c,kc,a,ka,n0,n1,rfl,h0,h1,l0,l1⟩:=Zgh hkk;rw [if_neg (by decide)] at h1;have hat0:At L (q+1) (c::kc):=At.kid hat;have hat1:At L (q+1+(c::kc).length) (a::ka):=At.kid2 (C:=[]) (by simpa using hat);have hkid1:ZU L q 1=q+1+(c::kc).length:=(hat0.end_ h0).1;rw [(hat0.end_ h0).2,hkid1,(hat1.end_ h1).2,Zb0 (hat.end_ hK).1];refine ⟨_,_,rfl,ZiB (Zj4 hm (by omega) (by omega)) h0 h1 (by omega) (by omega),by omega,Zcz rfl rfl (by decide) (by omega),?_,?_⟩
 · rw [ZL,ZL x',if_neg (by decide),if_pos (.inr hk)];omega
 · simp
theorem Zj8 {w:Int} (hok:Okx P 1 L w) (hs:Z7 L) {i:Nat} (hi:i<L.length) {n:Int} {L':List Ac} (h:ZaA L i=some (n,L')):(L'=[]∧0<L.length)∨ZcF P L L':=by
 have hi0:(rowL L i).k≠1→0<i:=fun h1=>by
  rcases Nat.eq_zero_or_pos i with rfl | h0
  · exfalso;obtain ⟨y,l1,e,h2,_⟩:=ZaC hok;have:rowL L 0=y:=by unfold rowL;rw [e];rfl
    rw [this] at h1;exact h1 (by simpa [ZE] using h2)
  · exact h0
 by_cases k1:(rowL L i).k=1
 · rcases Nat.eq_zero_or_pos i with rfl | h0
   · rw [ZfR k1] at h
     by_cases hn:(rowL L 0).n=0
     · rw [if_pos hn] at h;injection h with h;injection h with _ h5;exact .inl ⟨h5.symm,hi⟩
     · rw [if_neg hn] at h
       cases h
   · rw [Zfd k1 h0] at h
     by_cases hp:(rowL L (upI (upL L i i)).toNat).k=1
     · rw [if_pos hp] at h;injection h with h;injection h with _ h5;exact .inr (h5▸Zie hok hs h0 hi k1 hp)
     · rw [if_neg hp] at h
       cases h
 have h0:=hi0 k1;right
 by_cases k9:(rowL L i).k=9
 · rw [ZfQ k9] at h;injection h with h;injection h with _ h5;exact h5▸Zkj hok hs h0 hi k9
 by_cases k4:(rowL L i).k=4
 · rw [ZgS k4] at h
   by_cases hp:isW L (i+1) 21 (rowL L i).a=true
   · rw [if_pos hp] at h;injection h with h;injection h with _ h5;exact h5▸ZcZ hok hs hi (by omega) (by omega)
   · rw [if_neg hp] at h
     cases h
 by_cases k2:(rowL L i).k=2
 · have hlw:ZaA L i=Zcr L i:=by unfold ZaA;simp only;rw [if_neg (by omega),if_pos k2]
   rw [hlw] at h;exact Zip hok hs hi k2 h
 by_cases k3:(rowL L i).k=3
 · unfold ZaA at h;simp only at h;rw [if_neg (by omega),if_neg k2,if_pos k3] at h
   by_cases d1:(rowL L i).a=0∨isW L (i+1) 20 0=true∨(Zbr L (i+1) (endL L (i+1))=true∧(rowL L (ZU L i 1)).n=0)
   · rw [if_pos d1] at h;injection h with h;injection h with _ h5;exact h5▸ZcZ hok hs hi (by omega) (by omega)
   · rw [if_neg d1] at h
     by_cases d2:(rowL L i).a=1
     · rw [if_pos d2] at h;injection h with h;injection h with _ h5;exact h5▸Zj6 hok hi k3
     · rw [if_neg d2] at h
       cases h
 by_cases k16:16<(rowL L i).k
 · unfold ZaA at h;simp only at h
   by_cases c:19≤(rowL L i).k∧0<(rowL L i).n∧(rowL L i).k≠25
   · rw [if_pos c] at h
     have hnq:∀y,L[i]? = some y→¬(9≤y.k∧y.k≤12):=fun y hy=>by
      rw [Z5 hi] at hy;injection hy with hy;rw [←hy];omega
     refine ZcL hok hi hnq (fun K what' w' hat hK=>?_);obtain ⟨x,l1,rfl,hm,hnum,h3⟩:=Zbt hK;have hx:=hat.row.1;rw [hx] at c;rcases h3 with ⟨q,_⟩ | ⟨_,hlen,_⟩
     · omega
     have hkinds:(x.k=28∨x.k=29)∨(x.k=26∨x.k=27∨(30≤x.k∧x.k≤38)):=by
      by_cases hk:(x.k=28∨x.k=29)∨(x.k=26∨x.k=27∨(30≤x.k∧x.k≤38))
      · exact hk
      · exfalso
        have:kidsV x.k x.n=[]:=by
         unfold kidsV
         repeat rw [if_neg (by omega)]
        rw [this] at hlen;simp at hlen;omega
     rcases hkinds with hk | hk
     · exact Zju hat hK hk h
     · exact Zjt hat hK hk h
   · rw [if_neg c,if_neg k2,if_neg k3,if_neg k4,if_neg (by omega),if_neg k9,if_neg (by omega)] at h
     cases h
 · rw [ZgT k16 k2 k3 k4 k1 k9] at h
   cases h
end
section
variable {P:Pl} {l:List Ac}
theorem ZgQ {l:List Ac} (h:0<l.length):0<mu l:=by have:=Zj1 l;omega
theorem ZcU (hev:Zy P l=true) (hl:l.length≤131072) {f:Fd} (hf:Z6 l=some f):Zy P (ZY l f)=true∧mu (ZY l f)<mu l∧(ZY l f).length≤l.length∧f.frm<l.length:=by
 unfold Z6 at hf;obtain ⟨i,hi,hla⟩:=List.exists_of_findSome?_eq_some hf;have hil:i<l.length:=List.mem_range.1 hi;have h0:l≠[]:=fun e=>by rw [e] at hil;simp at hil
 obtain ⟨w,hok⟩:=Zkw hev h0;have hs:=Zck hev hl;obtain ⟨h1,h2⟩:=Zka hev hl hil;rw [hla] at h1;simp only [Option.map_some] at h1;have hfi:=h2 f hla;rcases Zj8 hok hs hil h1.symm with ⟨h3,h4⟩ | ⟨⟨w',h3⟩,h4,h5⟩
 · rw [h3];exact ⟨rfl,ZgQ h4,Nat.zero_le _,by omega⟩
 · exact ⟨(ZgM h3).1,h4,h5,by omega⟩
theorem Zj9 (hev:Zy P l=true) (hl:l.length≤131072) {i:Nat} (hi:i<l.length) {f:Fd} (h:Zaw l i=some f):f.frm=i∧f.frm<f.to_∧f.to_≤l.length∧(0≤f.parts∧f.parts≤131072)∧(0≤f.gone∧f.gone≤3):=by
 have hs:=Zck hev hl;have h0:l≠[]:=fun e=>by rw [e] at hi;simp at hi
 have hw:=ZcG hev h0;obtain ⟨f',what',e',h1,_⟩:=Zdv _ _ _ _ hw i (Nat.zero_le _) hi;obtain ⟨f',rfl⟩:=Zbe h1;have R:=ZQ h1
 have hroot:(rowL l 0).k=9→handV P l 0≠0:=fun q=>by
  have:=(ZQ hw).may;rw [q] at this;simp [ZE] at this
 have hh:=ZeM _ _ _ _ hw hroot i (Nat.zero_le _) hi;have he:=R.ee;have hlt:=R.lt;have hle:=R.le;unfold Zaw at h;rw [he] at h;split at h
 · simp only [Option.map_eq_some_iff] at h;obtain ⟨r,_,rfl⟩:=h;exact ⟨rfl,hlt,hle,by simp,by simp⟩
 · split at h
   · next f2 hd =>
     injection h with h;subst h;unfold Zaj at hd;split at hd
     · simp only [Option.map_eq_some_iff] at hd;obtain ⟨r,_,rfl⟩:=hd;refine ⟨rfl,hlt,hle,?_,by simp⟩;simp only;split <;> simp
     · split at hd
       · unfold ZbK at hd;split at hd
         · split at hd
           · injection hd with hd;rw [←hd];exact ⟨rfl,hlt,hle,by simp,by simp⟩
           · split at hd
             · injection hd with hd;rw [←hd];exact ⟨rfl,hlt,hle,by simp,by simp⟩
             · cases hd
         · cases hd
       · split at hd
         · split at hd
           · injection hd with hd;rw [←hd];exact ⟨rfl,hlt,hle,by simp,by simp⟩
           · cases hd
         · split at hd
           · split at hd
             · injection hd with hd;rw [←hd];refine ⟨rfl,hlt,hle,?_,by simp⟩;have hc:=ZbD wfR _ _ _ _ R.ks;simp only [List.length_map];omega
             · cases hd
           · split at hd
             · next k9 =>
               injection hd with hd;rw [←hd];have h5:=hh k9;obtain ⟨h6,h7⟩:=ZbU h5
               have hyz:∃n,(handF (rowL l i) (l[i+1]?.getD (rowL l i)) (l[i+2]?.getD (rowL l i))).2=n∧n=handV P l i:=by
                rcases h6 with h6 | h6
                · obtain ⟨y,hy,h2⟩:=Ze2 R.x h6;refine ⟨_,rfl,?_⟩;rw [h6,hy];unfold Zcg at h2;simp only [Bool.and_eq_true,Bool.or_eq_true,decide_eq_true_eq] at h2;unfold handF;rcases h2.2 with q | q <;> simp [q.1]
                · obtain ⟨y,z,hy,hz,h2⟩:=ZdF R.x h6;refine ⟨_,rfl,?_⟩;rw [h6,hy,hz];unfold Zcf at h2;simp only [Bool.and_eq_true,Bool.or_eq_true,decide_eq_true_eq] at h2;unfold handF;rcases h2.2.2 with q | q
                  · simp [q,h2.1.2.1]
                  · simp [q.1,h2.1.2.1]
               obtain ⟨n,hn1,hn2⟩:=hyz;refine ⟨rfl,?_,?_,by simp,?_⟩
               · show i<i+_;rw [hn1];omega
               · show i+_≤_;rw [hn1];omega
               · show 0≤(((handF (rowL l i) (l[i+1]?.getD (rowL l i)) (l[i+2]?.getD (rowL l i))).2:Nat):Int)∧_≤_;rw [hn1];show (0:Int)≤(n:Int)∧(n:Int)≤3;omega
             · cases hd
   · split at h
     · next q =>
       injection h with h;rw [←h];refine ⟨q.1.symm,Nat.zero_lt_one,by show 1≤_;omega,by simp,by simp⟩
     · cases h
theorem ZiM (hev:Zy P l=true) (hl:l.length≤131072) {f:Fd} (hf:Z6 l=some f):DnOk l f:=by
 obtain ⟨_,_,hlen,_⟩:=ZcU hev hl hf;unfold Z6 at hf;obtain ⟨i,hi,hla⟩:=List.exists_of_findSome?_eq_some hf;have hil:i<l.length:=List.mem_range.1 hi;obtain ⟨h1,h2,h3,h4,h5⟩:=Zj9 hev hl hil hla;have hs:=Zck hev hl;refine ⟨h2,h3,fun h0=>?_,?_,by omega⟩
 · obtain ⟨p,a,b,_⟩:=Zew (ZeP hev) hs h0 (by omega);exact ⟨p,a,b⟩
 · have hpl:(ZbA l f).length=(ZY l f).length:=by
    unfold ZY;split
    · rfl
    · rw [List.length_modify]
   have:(ZbA l f).length=f.frm+(f.inn.getD []).length+(l.length - f.to_):=by
    unfold ZbA;simp <;> omega
   omega
theorem ZdW (hev:Zy P l=true) (hl:l.length≤131072):EvOk l:=⟨Zck hev hl,hl,ZlZ hev hl⟩
theorem Zm1:∀(m:Nat) (l:List Ac),mu l≤m→Zy P l=true→l.length≤131072→∃n l',RunTo n l l'∧Zy P l'=true∧l'.length≤l.length∧Z6 l'=none:=by
 intro m
 induction m with
 | zero =>
  intro l hm hev hl
  have h0:l=[]:=by
   rcases Nat.eq_zero_or_pos l.length with h | h
   · exact List.eq_nil_of_length_eq_zero h
   · have:=ZgQ h;omega
  subst h0;exact ⟨0,[],.stop (ZdW hev hl) rfl,hev,lr_,rfl⟩
 | succ m ih =>
  intro l hm hev hl
  cases hf:Z6 l with
  | none=>exact ⟨0,l,.stop (ZdW hev hl) hf,hev,lr_,hf⟩
  | some f =>
   obtain ⟨h1,h2,h3,_⟩:=ZcU hev hl hf;obtain ⟨n,l',h4,h5,h6,h7⟩:=ih (ZY l f) (by omega) h1 (by omega);exact ⟨n+1,l',.step (ZdW hev hl) hf (ZiM hev hl hf) h4,h5,by omega,h7⟩
theorem Zme {n n':Nat} {l a b:List Ac} (h:RunTo n l a):RunTo n' l b→n=n'∧a=b:=by
 induction h generalizing n' with
 | stop _ h1 =>
  intro h2
  cases h2 with
  | stop _ _=>exact ⟨rfl,rfl⟩
  | step _ h3 _ _=>rw [h1] at h3;cases h3
 | step _ h1 _ _ ih =>
  intro h2
  cases h2 with
  | stop _ h3=>rw [h1] at h3;cases h3
  | step _ h3 _ h4 =>
   rw [h1] at h3;injection h3 with h3;subst h3;obtain ⟨e1,e2⟩:=ih h4;exact ⟨by rw [e1],e2⟩
end
end Go.Proofs.Ytdpokdcendgfeaa
