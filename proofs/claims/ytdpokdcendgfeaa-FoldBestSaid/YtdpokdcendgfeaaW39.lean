/- Several texts in one: Plain law: each thing that is left, done, leaves a right event, and a smaller one. Conditions: those of each. -/
import Derived.Test.YtdpokdcendgfeaaW38
set_option linter.unusedSimpArgs false
set_option linter.unusedVariables false
set_option maxHeartbeats 80000000
set_option maxRecDepth 100000
namespace Go.Proofs.Ytdpokdcendgfeaa
open Go.RowKit
section
variable {P:Pl} {L:List Ac}
theorem Zgi {R:Int→List Ac→Int→Prop} {k v w:Int} {l:List Ac} (h:OkK R k [v] 0 0 0 l w):∃y k1 n,l=y::k1∧R v (y::k1) n∧n≤w:=by
 cases h with
 | @cons _ _ _ _ _ n _ y l1 l2 h1 h2 =>
  rw [if_neg (by omega)] at h1
  cases h2 with
  | nil=>exact ⟨y,l1,n,by simp,h1,by omega⟩
theorem Zgh {R:Int→List Ac→Int→Prop} {k v0 v1 w:Int} {l:List Ac} (h:OkK R k [v0,v1] 0 0 0 l w):∃y0 k0 y1 k1 n0 n1,l=(y0::k0)++(y1::k1)∧R v0 (y0::k0) n0∧R (if v1=4 then Zn y0.k else v1) (y1::k1) n1∧n0≤w∧n1≤w:=by
 cases h with
 | @cons _ _ _ _ _ n _ y l1 l2 h1 h2 =>
  rw [if_neg (by omega)] at h1
  cases h2 with
  | @cons _ _ _ _ _ n' _ y' l1' l2' h1' h2' =>
   cases h2' with
   | nil =>
    refine ⟨y,l1,y',l1',n,n',by simp,h1,?_,?_,?_⟩
    · by_cases q:v1=4
      · rw [if_pos ⟨q,rfl⟩] at h1';rw [if_pos q];exact h1'
      · rw [if_neg (fun h=>q h.1)] at h1';rw [if_neg q];exact h1'
    · rw [if_neg (by omega)];omega
    · split <;> omega
theorem ZjY {R:Int→List Ac→Int→Prop} {k v0 v1 v2 w:Int} {l:List Ac} (h4:v1≠4) (h:OkK R k [v0,v1,v2] 0 0 0 l w):∃y0 k0 y1 k1 y2 k2 n0 n1 n2,l=(y0::k0)++((y1::k1)++(y2::k2))∧R v0 (y0::k0) n0∧R v1 (y1::k1) n1∧R v2 (y2::k2) n2∧n0≤w∧n1≤w∧n2≤w:=by
 cases h with
 | @cons _ _ _ _ _ n _ y l1 l2 h1 h2 =>
  rw [if_neg (by omega)] at h1
  cases h2 with
  | @cons _ _ _ _ _ n' _ y' l1' l2' h1' h2' =>
   rw [if_neg (fun h=>h4 h.1)] at h1'
   cases h2' with
   | @cons _ _ _ _ _ n3 _ y3 l3 l4 h3 h5 =>
    rw [if_neg (by omega)] at h3
    cases h5 with
    | nil =>
     refine ⟨y,l1,y',l1',y3,l3,n,n',n3,by simp,h1,h1',h3,?_,?_,?_⟩
     · (repeat' split) <;> omega
     · (repeat' split) <;> omega
     · (repeat' split) <;> omega
theorem Zmx {R:Int→List Ac→Int→Prop} {k v0 v1 n0 n1:Int} {y0 y1:Ac} {k0 k1:List Ac} (hk:k<19) (h4:v1≠4) (h0:R v0 (y0::k0) n0) (h1:R v1 (y1::k1) n1):OkK R k [v0,v1] 0 0 0 ((y0::k0)++(y1::k1)) (max (max 0 n0) n1):=by
 have a:OkK R k [v1] 1 y0.k (max 0 n0) ((y1::k1)++[]) (max (max 0 n0) n1):=by
  have:=OkK.cons (R:=R) (k:=k) (v:=v1) (vs:=[]) (j:=1) (kind:=y0.k) (wants:=max 0 n0) (n:=n1) (w:=max (max 0 n0) n1) (y:=y1) (l1:=k1) (l2:=[]) (by rw [if_neg (fun h=>h4 h.1)];exact h1) (by rw [if_neg (by omega)];exact .nil);exact this
 have:=OkK.cons (R:=R) (k:=k) (v:=v0) (vs:=[v1]) (j:=0) (kind:=0) (wants:=0) (n:=n0) (w:=max (max 0 n0) n1) (y:=y0) (l1:=k0) (l2:=(y1::k1)++[]) (by rw [if_neg (by omega)];exact h0) (by rw [if_neg (by omega)];exact a);simpa using this
theorem Zmy {R:Int→List Ac→Int→Prop} {k v0 n0:Int} {y0:Ac} {k0:List Ac} (h0:R v0 (y0::k0) n0):OkK R k [v0] 0 0 0 (y0::k0) (max 0 n0):=by
 have:=OkK.cons (R:=R) (k:=k) (v:=v0) (vs:=[]) (j:=0) (kind:=0) (wants:=0) (n:=n0) (w:=max 0 n0) (y:=y0) (l1:=k0) (l2:=[]) (by rw [if_neg (by omega)];exact h0) (by rw [if_neg (by omega)];exact .nil);simpa using this
theorem Zmw {R:Int→List Ac→Int→Prop} {k v0 v1 v2 n0 n1 n2:Int} {y0 y1 y2:Ac} {k0 k1 k2:List Ac} (hk:k<19) (h4:v1≠4) (h0:R v0 (y0::k0) n0) (h1:R v1 (y1::k1) n1) (h2:R v2 (y2::k2) n2):OkK R k [v0,v1,v2] 0 0 0 ((y0::k0)++((y1::k1)++(y2::k2))) (max (max (max 0 n0) n1) n2):=by
 have b:OkK R k [v2] 2 y1.k (max (max 0 n0) n1) ((y2::k2)++[]) (max (max (max 0 n0) n1) n2) :=
  OkK.cons (R:=R) (k:=k) (v:=v2) (vs:=[]) (j:=2) (kind:=y1.k) (wants:=max (max 0 n0) n1) (n:=n2) (w:=max (max (max 0 n0) n1) n2) (y:=y2) (l1:=k2) (l2:=[]) (by rw [if_neg (by omega)];exact h2) (by rw [if_neg (by omega)];exact .nil)
 have a:OkK R k [v1,v2] 1 y0.k (max 0 n0) ((y1::k1)++((y2::k2)++[])) (max (max (max 0 n0) n1) n2) :=
  OkK.cons (R:=R) (k:=k) (v:=v1) (vs:=[v2]) (j:=1) (kind:=y0.k) (wants:=max 0 n0) (n:=n1) (w:=max (max (max 0 n0) n1) n2) (y:=y1) (l1:=k1) (l2:=(y2::k2)++[]) (by rw [if_neg (fun h=>h4 h.1)];exact h1) (by rw [if_neg (by omega)];exact b)
 have:=OkK.cons (R:=R) (k:=k) (v:=v0) (vs:=[v1,v2]) (j:=0) (kind:=0) (wants:=0) (n:=n0) (w:=max (max (max 0 n0) n1) n2) (y:=y0) (l1:=k0) (l2:=(y1::k1)++((y2::k2)++[])) (by rw [if_neg (by omega)];exact h0) (by rw [if_neg (by omega)];exact a);simpa using this
def Gv (P:Pl) (L:List Ac) (q:Nat) (K:List Ac) (what' w':Int) (L':List Ac):Prop:=∃r wr,L'=ZbE L q (q+K.length) r∧Okx P what' r wr∧wr≤w'∧Zf8 r K∧mu r<mu K∧r.length≤K.length
theorem Zj2 {v k k':Int} (h:ZE v k=true) (hk:18<k) (ht:Zn k'=Zn k):ZE v k'=true:=by
 unfold ZE at h ⊢
 by_cases h0:v=0
 · rw [if_pos h0] at h;simp at h;omega
 · rw [if_neg h0] at h ⊢
   by_cases h1:v=1
   · rw [if_pos h1] at h;simp at h;omega
   · rw [if_neg h1] at h ⊢
     by_cases h5:v=5
     · rw [if_pos h5] at h;simp at h;omega
     · rw [if_neg h5] at h ⊢;rw [ht];exact h
theorem Zj4 {v k k':Int} (h:ZE v k=true) (hk:2≤k∧k≤16) (hk':1≤k'∧k'≤16):ZE v k'=true:=by
 have t1:Zn k = -1:=by unfold Zn;rw [if_neg (by omega),if_neg (by omega)]
 have t2:Zn k' = -1:=by unfold Zn;rw [if_neg (by omega),if_neg (by omega)]
 unfold ZE at h ⊢
 by_cases h0:v=0
 · rw [if_pos h0];simp <;> omega
 · rw [if_neg h0] at h ⊢
   by_cases h1:v=1
   · rw [if_pos h1] at h;simp at h;omega
   · rw [if_neg h1] at h ⊢
     by_cases h5:v=5
     · rw [if_pos h5] at h;simp at h;omega
     · rw [if_neg h5] at h ⊢;rw [t2];rw [t1] at h;exact h
theorem Zl8 {k:Int} (h:0≤Zn k):19≤k:=by
 unfold Zn at h
 by_cases q:k=20∨k=24∨k=29∨k=34∨k=35∨k=36∨k=37∨k=38
 · omega
 · rw [if_neg q] at h
   by_cases q2:19≤k∧k<39
   · omega
   · rw [if_neg q2] at h;omega
theorem Zj1 (l:List Ac):2*l.length≤mu l:=by unfold mu;omega
theorem ZeF {q:Nat} {x y:Ac} {l1 k1:List Ac} {what' w' v n:Int} (hK:Okx P what' (x::l1) w') (hat:At L q (x::l1)) (hr:Okx P v (y::k1) n) (hx:18<x.k) (ht:Zn y.k=Zn x.k) (h0:0≤Zn x.k) (hn:n≤w')
 (hmu:mu (y::k1)<mu (x::l1)) (hlen:k1.length≤l1.length):Gv P L q (x::l1) what' w' (Zaa L q (y::k1)):=by
 obtain ⟨x',l',e,hm,_⟩:=ZaC hK;injection e with e1 _;subst e1;have h19:=Zl8 (k:=y.k) (by omega);refine ⟨y::k1,n,Zb0 (hat.end_ hK).1,Zdp hr rfl (Zj2 hm hx ht),hn,fun a b ha hb=>?_,hmu,by simpa using hlen⟩;simp only [List.getElem?_cons_zero,Option.some.injEq] at ha hb;subst ha hb;exact ⟨ht,fun _=>by omega⟩
def ZeL (y:Ac):Prop:=y.b=0∧y.c=0∧y.d=0∧y.n=0∧((y.k=19 ∧ -1073741824≤y.a∧y.a≤1073741824)∨(y.k=20∧0≤y.a∧y.a≤1))
theorem ZmE {y:Ac} {v:Int} (h:ZeL y) (hm:ZE v y.k=true):Okx P v [y] 1:=by
 obtain ⟨h1,h2,h3,h4,h5⟩:=h;have hk:y.k=19∨y.k=20:=by omega
 have hkv:kidsV y.k y.n=[]:=by unfold kidsV;repeat rw [if_neg (by omega)]
 have hnum:Zu P y=true:=by
  unfold Zu;rcases h5 with ⟨q,a,b⟩ | ⟨q,a,b⟩
  · simp [q,Zp,h1,h2,h3];omega
  · simp [q,Zp,h1,h2,h3];omega
 have:=Zdc (P:=P) (what:=v) (x:=y) (l1:=[]) (w0:=0) hm hnum (by omega) (by rw [hkv,h4];rfl) (by rw [hkv];exact .nil) (by decide);exact this
theorem Zgm {q:Nat} {x y:Ac} {l1:List Ac} {what' w':Int} (hK:Okx P what' (x::l1) w') (hat:At L q (x::l1)) (hx:18<x.k) (hy:ZeL y) (ht:Zn y.k=Zn x.k) (hl:l1≠[]):Gv P L q (x::l1) what' w' (Zaa L q [y]):=by
 obtain ⟨x',l',e,hm,_⟩:=ZaC hK;injection e with e1 _;subst e1;have hyk:y.k=19∨y.k=20:=by have:=hy.2.2.2.2;omega
 have hl1:1≤l1.length:=by
  rcases Nat.eq_zero_or_pos l1.length with h | h
  · exact absurd (List.eq_nil_of_length_eq_zero h) hl
  · exact h
 refine ZeF hK hat (ZmE (P:=P) (v:=what') hy (Zj2 hm hx ht)) hx ht ?_ (Zmv hK (by omega)) ?_ (by simp)
 · rw [←ht];rcases hyk with h | h <;> rw [h] <;> decide
 · rw [ZL,ZL,ZdU,if_neg (by omega)];have:=Zj1 l1;split <;> omega
theorem ZbV (n:Int):-1073741824≤Za0 n∧Za0 n≤1073741824:=by unfold Za0;omega
theorem ZfC {k a b:Int} (ha:-1073741824≤a∧a≤1073741824) (hb:-1073741824≤b∧b≤1073741824) (hk:Zbz k=true) (h9:k=29→a=0∨a=1):ZeL (ZdN k a b)∧Zn (ZdN k a b).k=Zn k:=by
 have hbool:∀c:Bool,ZeL (ZcC c):=fun c=>⟨rfl,rfl,rfl,rfl,.inr ⟨rfl,by cases c <;> decide,by cases c <;> decide⟩⟩
 have hnum:∀n:Int,-1073741824≤n→n≤1073741824→ZeL (ZaQ n):=fun n h1 h2=>⟨rfl,rfl,rfl,rfl,.inl ⟨rfl,h1,h2⟩⟩
 unfold Zbz at hk;simp only [Bool.or_eq_true,decide_eq_true_eq] at hk;unfold ZdN;rcases hk with rfl | rfl | rfl | rfl | rfl | rfl | rfl | rfl | rfl | rfl | rfl
 · exact ⟨hnum _ (by omega) (by omega),rfl⟩
 · exact ⟨hnum _ (by omega) (by omega),rfl⟩
 · exact ⟨hnum _ (by omega) (by omega),rfl⟩
 · exact ⟨hnum _ (ZbV _).1 (ZbV _).2,rfl⟩
 · refine ⟨hnum _ ?_ ?_,rfl⟩
   · rw [←ZeG ha];unfold Zca;split
     · decide
     · exact (ZbV _).1
   · rw [←ZeG ha];unfold Zca;split
     · decide
     · exact (ZbV _).2
 · exact ⟨hnum _ (ZbV _).1 (ZbV _).2,rfl⟩
 · exact ⟨hnum _ (ZbV _).1 (ZbV _).2,rfl⟩
 · exact ⟨hbool _,rfl⟩
 · exact ⟨hbool _,rfl⟩
 · exact ⟨hbool _,rfl⟩
 · rcases h9 rfl with rfl | rfl
   · exact ⟨⟨rfl,rfl,rfl,rfl,.inr ⟨rfl,by show (0:Int)≤1 - 0;decide,by show (1:Int) - 0≤1;decide⟩⟩,rfl⟩
   · exact ⟨⟨rfl,rfl,rfl,rfl,.inr ⟨rfl,by show (0:Int)≤1 - 1;decide,by show (1:Int) - 1≤1;decide⟩⟩,rfl⟩
theorem Zfu {y:Ac} (hn:Zu P y=true) (hf:ZN y=true):(-1073741824≤y.a∧y.a≤1073741824)∧(y.k=20→y.a=0∨y.a=1)∧(y.k=19∨y.k=20):=by
 unfold ZN at hf;simp only [Bool.or_eq_true,decide_eq_true_eq] at hf;unfold Zu at hn;rcases hf with h | h
 · simp [h,Zp] at hn;omega
 · simp [h,Zp] at hn;omega
theorem ZbY {y:Ac} {l:List Ac} {v w:Int} (h:Okx P v (y::l) w):Zu P y=true∧ZE v y.k=true:=by
 obtain ⟨y',l',e,h1,h2,_⟩:=ZaC h;injection e with e1 _;subst e1;exact ⟨h2,h1⟩
theorem Zju {q:Nat} {x:Ac} {l1:List Ac} {what' w':Int} (hat:At L q (x::l1)) (hK:Okx P what' (x::l1) w') {n:Int} {L':List Ac} (hone:x.k=28∨x.k=29) (h:Zc8 L q=some (n,L')):Gv P L q (x::l1) what' w' L':=by
 obtain ⟨x',l',e,hm,hnum,h3⟩:=Zbt hK;injection e with e1 e2;subst e1 e2;rcases h3 with ⟨k1,_⟩ | ⟨_,hlen,w0,hkk,hw0,hw⟩
 · omega
 have hkv:kidsV x.k x.n=[if x.k=28 then 2 else 3]:=by
  rcases hone with h | h
  · rw [h];rfl
  · rw [h];rfl
 rw [hkv] at hkk hlen;simp only [List.length_cons,List.length_nil] at hlen;obtain ⟨y,k1,m,rfl,hy,hle⟩:=Zgi hkk;have hat1:At L (q+1) (y::k1):=At.kid (C:=[]) (by simpa using hat);obtain ⟨hnx,hmy⟩:=ZbY hy;have hx1:=hat.row.1;have hy1:=hat1.row.1;have hb:Zd5 L q=q+1:=by unfold Zd5;rw [hx1,if_neg (by omega)];rfl
 have h0:0≤Zn x.k:=by rcases hone with h | h <;> rw [h] <;> decide
 have hty:Zn y.k=Zn x.k:=by
  rcases hone with h | h
  · rw [h] at hmy ⊢;show Zn y.k=2;simpa [ZE] using hmy
  · rw [h] at hmy ⊢;show Zn y.k=3;simpa [ZE] using hmy
 unfold Zc8 at h;simp only [hx1,hb,hy1,show ZU L q 0=q+1 from rfl] at h
 by_cases c1:Zbz x.k=true∧ZN y=true∧ZN y=true
 · rw [if_pos c1] at h;injection h with h;injection h with _ h5;rw [←h5];obtain ⟨f1,f2,f3⟩:=Zfu hnx c1.2.1
   obtain ⟨l1,l2⟩:=ZfC f1 f1 c1.1 (fun h29=>by
    rcases f3 with h | h
    · rw [h,h29] at hty;exact absurd hty (by decide)
    · exact f2 h)
   exact Zgm hK hat (by omega) l1 l2 (by simp)
 · rw [if_neg c1,if_neg (by omega)] at h
   by_cases c2:(x.k=29∨x.k=28)∧y.k=x.k
   · rw [if_pos c2] at h;injection h with h;injection h with _ h5;obtain ⟨y',l',e,hm2,hnum2,h3⟩:=Zbt hy;injection e with e1 e2;subst e1 e2;rcases h3 with ⟨k1,_⟩ | ⟨_,hlen2,w1,hkk2,hw1,hw2⟩
     · omega
     have hkv2:kidsV y.k y.n=[if x.k=28 then 2 else 3]:=by
      rw [c2.2];rcases hone with h | h
      · rw [h];rfl
      · rw [h];rfl
     rw [hkv2] at hkk2;obtain ⟨z,k2,m2,rfl,hz,hle2⟩:=Zgi hkk2;have hat2:At L (q+1+1) (z::k2):=At.kid (C:=[]) (by simpa using hat1);rw [(hat2.end_ hz).2] at h5;rw [←h5];have hmz:=(ZbY hz).2;refine ZeF hK hat hz (by omega) ?_ h0 (by omega) ?_ (by simp <;> omega)
     · rcases hone with h | h
       · rw [h] at hmz ⊢;show Zn z.k=2;simpa [ZE] using hmz
       · rw [h] at hmz ⊢;show Zn z.k=3;simpa [ZE] using hmz
     · rw [ZL x,ZL y];omega
   · rw [if_neg c2] at h;unfold Zhp at h;simp only [hx1,hy1] at h;rw [if_neg (by omega),if_neg (by omega),if_neg (by omega),if_neg (by omega),if_neg (by omega)] at h
     cases h
theorem Zjt {q:Nat} {x:Ac} {l1:List Ac} {what' w':Int} (hat:At L q (x::l1)) (hK:Okx P what' (x::l1) w') {n:Int} {L':List Ac} (htwo:x.k=26∨x.k=27∨(30≤x.k∧x.k≤38)) (h:Zc8 L q=some (n,L')):Gv P L q (x::l1) what' w' L':=by
 obtain ⟨x',l',e,hm,hnum,h3⟩:=Zbt hK;injection e with e1 e2;subst e1 e2;rcases h3 with ⟨k1,_⟩ | ⟨_,hlen,w0,hkk,hw0,hw⟩
 · omega
 obtain ⟨v,hkv,hv⟩:∃v:Int,kidsV x.k x.n=[v,v]∧((x.k=34∧v=4)∨((x.k=37∨x.k=38)∧v=3)∨((x.k=26∨x.k=27∨x.k=30∨x.k=31∨x.k=32∨x.k=33∨x.k=35∨x.k=36)∧v=2)):=by
  have:x.k=26∨x.k=27∨x.k=30∨x.k=31∨x.k=32∨x.k=33∨x.k=34∨x.k=35∨x.k=36∨x.k=37∨x.k=38:=by omega
  rcases this with h | h | h | h | h | h | h | h | h | h | h <;> rw [h]
  · exact ⟨2,rfl,by omega⟩
  · exact ⟨2,rfl,by omega⟩
  · exact ⟨2,rfl,by omega⟩
  · exact ⟨2,rfl,by omega⟩
  · exact ⟨2,rfl,by omega⟩
  · exact ⟨2,rfl,by omega⟩
  · exact ⟨4,rfl,by omega⟩
  · exact ⟨2,rfl,by omega⟩
  · exact ⟨2,rfl,by omega⟩
  · exact ⟨3,rfl,by omega⟩
  · exact ⟨3,rfl,by omega⟩
 rw [hkv] at hkk hlen;simp only [List.length_cons,List.length_nil] at hlen;obtain ⟨y,k0,z,k1,n0,n1,rfl,hy,hz,hle0,hle1⟩:=Zgh hkk;have hat0:At L (q+1) (y::k0):=At.kid (C:=z::k1) hat;have hat1:At L (q+1+(y::k0).length) (z::k1):=At.kid2 (C:=[]) (by simpa using hat);obtain ⟨hny,hmy⟩:=ZbY hy;obtain ⟨hnz,hmz⟩:=ZbY hz;have hx1:=hat.row.1;have hy1:=hat0.row.1;have hz1:=hat1.row.1;obtain ⟨hye,hyo⟩:=hat0.end_ hy;obtain ⟨hze,hzo⟩:=hat1.end_ hz
 have hb:Zd5 L q=q+1+(y::k0).length:=by
  unfold Zd5;rw [hx1,if_pos (by omega)];exact hye
 have hgy:∀v',Okx P v' (y::k0) n0→Zn y.k=Zn x.k→0≤Zn x.k→Gv P L q (x::((y::k0)++(z::k1))) what' w' (Zaa L q (y::k0)):=fun v' hv' ht h0 =>
  ZeF hK hat hv' (by omega) ht h0 (by omega) (by
   rw [ZL x,Z9]
   omega) (by simp <;> omega)
 have hgz:∀v',Okx P v' (z::k1) n1→Zn z.k=Zn x.k→0≤Zn x.k→Gv P L q (x::((y::k0)++(z::k1))) what' w' (Zaa L q (z::k1)):=fun v' hv' ht h0 =>
  ZeF hK hat hv' (by omega) ht h0 (by omega) (by
   rw [ZL x,Z9]
   omega) (by simp <;> omega)
 have hty2:v=2→Zn y.k=2∧Zn z.k=2:=fun h2=>by
  rw [h2] at hmy hmz;exact ⟨by simpa [ZE] using hmy,by simpa [ZE] using hmz⟩
 have hty3:v=3→Zn y.k=3∧Zn z.k=3:=fun h2=>by
  rw [h2] at hmy hmz;exact ⟨by simpa [ZE] using hmy,by simpa [ZE] using hmz⟩
 have hty4:v=4→Zn z.k=Zn y.k:=fun h2=>by
  rw [h2,if_pos rfl] at hmz;rw [h2] at hmy;have h0:0≤Zn y.k:=by simpa [ZE] using hmy
  have h23:Zn y.k=2∨Zn y.k=3:=by
   unfold Zn at h0 ⊢;split
   · exact .inr rfl
   · next h=>rw [if_neg h] at h0;split <;> simp_all
  rcases h23 with h | h
  · rw [h] at hmz ⊢;simpa [ZE] using hmz
  · rw [h] at hmz ⊢;simpa [ZE] using hmz
 unfold Zc8 at h;simp only [hx1,hb,hy1,hz1,show ZU L q 0=q+1 from rfl,hyo,hzo] at h
 by_cases c1:Zbz x.k=true∧ZN y=true∧ZN z=true
 · rw [if_pos c1] at h;injection h with h;injection h with _ h5;rw [←h5];obtain ⟨f1,f2,f3⟩:=Zfu hny c1.2.1;obtain ⟨g1,g2,g3⟩:=Zfu hnz c1.2.2;obtain ⟨l1,l2⟩:=ZfC f1 g1 c1.1 (fun h29=>by omega);exact Zgm hK hat (by omega) l1 l2 (by simp)
 rw [if_neg c1] at h
 by_cases c37:x.k=37∨x.k=38
 · rw [if_pos c37] at h;have ht3:Zn x.k=3:=by rcases c37 with q | q <;> rw [q] <;> rfl
   obtain ⟨ty,tz⟩:=hty3 (by omega);have gy:=hgy _ hy (by omega) (by omega);have gz:=hgz _ hz (by omega) (by omega)
   by_cases d1:y.k=20
   · rw [if_pos d1] at h
     by_cases d2:y.a=(if x.k=37 then 1 else 0)
     · rw [if_pos d2] at h;injection h with h;injection h with _ h5;exact h5▸gz
     · rw [if_neg d2] at h;injection h with h;injection h with _ h5;exact h5▸gy
   · rw [if_neg d1] at h
     by_cases d3:z.k=20
     · rw [if_pos d3] at h
       by_cases d2:z.a=(if x.k=37 then 1 else 0)
       · rw [if_pos d2] at h;injection h with h;injection h with _ h5;exact h5▸gy
       · rw [if_neg d2] at h
         by_cases d4:Zbr L (q+1) (endL L (q+1))=true
         · rw [if_pos d4] at h;injection h with h;injection h with _ h5;exact h5▸gz
         · rw [if_neg d4] at h
           cases h
     · rw [if_neg d3] at h
       cases h
 rw [if_neg c37,if_neg (by omega)] at h;unfold Zhp at h;simp only [hx1,hy1,hz1,hyo,hzo] at h
 by_cases e1:(x.k=32∧isW L (q+1) 19 0=true)∨(x.k=30∧isW L (q+1) 19 1=true)
 · rw [if_pos e1] at h;injection h with h;injection h with _ h5;have hx3:x.k=32∨x.k=30:=by rcases e1 with q | q <;> omega
   have ht2:Zn x.k=2:=by rcases hx3 with q | q <;> rw [q] <;> rfl
   exact h5▸hgz _ hz (by rw [(hty2 (by omega)).2,ht2]) (by omega)
 rw [if_neg e1] at h
 by_cases e2:((x.k=32∨x.k=33)∧isW L (q+1+(y::k0).length) 19 0=true)∨((x.k=30∨x.k=31)∧isW L (q+1+(y::k0).length) 19 1=true)
 · rw [if_pos e2] at h;injection h with h;injection h with _ h5;have hx3:x.k=32∨x.k=33∨x.k=30∨x.k=31:=by rcases e2 with q | q <;> omega
   have ht2:Zn x.k=2:=by rcases hx3 with q | q | q | q <;> rw [q] <;> rfl
   exact h5▸hgy _ hy (by rw [(hty2 (by omega)).1,ht2]) (by omega)
 rw [if_neg e2] at h
 by_cases e3:x.k=30∧((isW L (q+1) 19 0=true∧Zbr L (q+1+(y::k0).length) (endL L (q+1+(y::k0).length))=true)∨(isW L (q+1+(y::k0).length) 19 0=true∧Zbr L (q+1) (endL L (q+1))=true))
 · rw [if_pos e3] at h;injection h with h;injection h with _ h5;exact h5▸Zgm hK hat (by omega) ⟨rfl,rfl,rfl,rfl,.inl ⟨rfl,by decide,by decide⟩⟩ (by rw [e3.1];rfl) (by simp)
 rw [if_neg e3] at h
 have hnot:∀(u:Ac) (ku:List Ac) (nu:Int),Okx P 3 (u::ku) nu→nu≤w0→mu (u::ku)+2≤mu ((y::k0)++(z::k1))→(u::ku).length+1≤((y::k0)++(z::k1)).length→x.k=34→Gv P L q (x::((y::k0)++(z::k1))) what' w' (Zaa L q (⟨29,0,0,0,0,1⟩::(u::ku))):=fun u ku nu hu hnu hmu hlen2 h34=>by
  have hn29:Okx P 3 ((⟨29,0,0,0,0,1⟩:Ac)::(u::ku)) (max (max 0 nu) 1):=Zdc (by rfl) (by rfl) (by decide) (by rfl) (Zmy hu) (by omega);refine ZeF hK hat hn29 (by omega) (by rw [h34];rfl) (by rw [h34];decide) (by omega) ?_ (by simp only [List.length_cons,List.length_append] at hlen2 ⊢;omega);rw [ZL,ZL x,if_pos (.inl rfl),if_neg (by omega)];omega
 by_cases e4:x.k=34∧y.k=20
 · rw [if_pos e4] at h;have tz:Zn z.k=3:=by rw [hty4 (by omega),e4.2];rfl
   by_cases d:y.a=1
   · rw [if_pos d] at h;injection h with h;injection h with _ h5;exact h5▸hgz _ hz (by rw [tz,e4.1];rfl) (by rw [e4.1];decide)
   · rw [if_neg d] at h;injection h with h;injection h with _ h5;refine h5▸hnot z k1 n1 (Zdp hz rfl (by simp [ZE,tz])) hle1 ?_ ?_ e4.1
     · rw [Z9,ZL y];omega
     · simp
 rw [if_neg e4] at h
 by_cases e5:x.k=34∧z.k=20
 · rw [if_pos e5] at h;have ty:Zn y.k=3:=by rw [←hty4 (by omega),e5.2];rfl
   by_cases d:z.a=1
   · rw [if_pos d] at h;injection h with h;injection h with _ h5;exact h5▸hgy _ hy (by rw [ty,e5.1];rfl) (by rw [e5.1];decide)
   · rw [if_neg d] at h;injection h with h;injection h with _ h5;refine h5▸hnot y k0 n0 (Zdp hy rfl (by simp [ZE,ty])) hle0 ?_ ?_ e5.1
     · rw [Z9,ZL z];omega
     · simp
 rw [if_neg e5] at h
 cases h
end
end Go.Proofs.Ytdpokdcendgfeaa
