/- Several texts in one: Plain law: rows that are right stay right where one of them gives way to another; how great an event is. Plain law: one row of right rows gives way to another, or to nothing. Conditions: those of each. -/
import Derived.Test.YtdpokdcendgfeaaW26
set_option linter.unusedSimpArgs false
set_option linter.unusedVariables false
set_option maxHeartbeats 80000000
set_option maxRecDepth 100000
namespace Go.Proofs.Ytdpokdcendgfeaa
open Go.RowKit
section
variable {P:Pl}
theorem OkB.monoL {R R':Int→List Ac→Int→Prop} {m:Nat} {l:List Ac} (hb:OkB P R m l):(∀a b c,b.length≤l.length→R a b c→R' a b c)→OkB P R' m l:=by
 induction hb with
 | nil=>exact fun _=>.nil
 | two h1 h2 _ ih=>exact fun h=>.two h1 h2 (ih fun a b c hl=>h a b c (by simp <;> omega))
 | three h1 h2 _ ih=>exact fun h=>.three h1 h2 (ih fun a b c hl=>h a b c (by simp <;> omega))
 | row h1 h2 _ ih=>exact fun h=>.row (h _ _ _ (by simp <;> omega) h1) h2 (ih fun a b c hl=>h a b c (by simp <;> omega))
theorem OkK.monoL {R R':Int→List Ac→Int→Prop} {k:Int} {vs:List Int} {j:Nat} {kind wants w:Int} {l:List Ac} (hb:OkK R k vs j kind wants l w):(∀a b c,b.length≤l.length→R a b c→R' a b c)→OkK R' k vs j kind wants l w:=by
 induction hb with
 | nil=>exact fun _=>.nil
 | cons h1 _ ih=>exact fun h=>.cons (h _ _ _ (by simp <;> omega) h1) (ih fun a b c hl=>h a b c (by simp <;> omega))
theorem Ok.len:∀(f:Nat) {what:Int} {l:List Ac} {w:Int},Ok P f what l w→Ok P l.length what l w
 | 0,_,_,_,h=>h.elim
 | f+1,what,l,w,⟨x,l1,e,h1,h2,h3⟩=>by
  subst e;have hm:∀a b c,b.length≤l1.length→Ok P f a b c→Ok P l1.length a b c:=fun a b c hl h=>(Ok.len f h).le hl
  show Ok P (l1.length+1) what (x::l1) w;refine ⟨x,l1,rfl,h1,h2,?_⟩;rcases h3 with ⟨a,b,c,d⟩ | ⟨a,b,w0,c,d⟩
  · exact .inl ⟨a,b,c.monoL hm,d⟩
  · exact .inr ⟨a,b,w0,c.monoL hm,d⟩
def Okx (P:Pl) (what:Int) (l:List Ac) (w:Int):Prop:=∃f,Ok P f what l w
theorem Zey {what:Int} {l:List Ac} {w:Int} {n:Nat} (h:Okx P what l w) (hn:l.length≤n):Ok P n what l w:=by
 obtain ⟨f,h⟩:=h;exact (h.len f).le hn
theorem Zez {what:Int} {x:Ac} {l1:List Ac} {m:Nat} (h1:ZE what x.k=true) (h2:Zu P x=true) (hk:x.k=1) (hn:x.n=(m:Int)) (hb:OkB P (Okx P) m l1):Okx P what (x::l1) 0 :=
 ⟨l1.length+1,x,l1,rfl,h1,h2,.inl ⟨hk,by omega,by rw [hn,Int.toNat_natCast];exact hb.monoL (fun a b c hl h=>Zey h hl),rfl⟩⟩
theorem Zdc {what w0:Int} {x:Ac} {l1:List Ac} (h1:ZE what x.k=true) (h2:Zu P x=true) (hk:x.k≠1) (hn:x.n=((kidsV x.k x.n).length:Int)) (hb:OkK (Okx P) x.k (kidsV x.k x.n) 0 0 0 l1 w0) (hw:w0≤256):Okx P what (x::l1) (max w0 1) :=
 ⟨l1.length+1,x,l1,rfl,h1,h2,.inr ⟨hk,hn,w0,hb.monoL (fun a b c hl h=>Zey h hl),hw,rfl⟩⟩
theorem Zbt {what:Int} {l:List Ac} {w:Int} (h:Okx P what l w):∃x l1,l=x::l1∧ZE what x.k=true∧Zu P x=true ∧
 ((x.k=1∧(∃m:Nat,x.n=(m:Int)∧OkB P (Okx P) m l1)∧w=0)∨(x.k≠1∧x.n=((kidsV x.k x.n).length:Int)∧∃w0,OkK (Okx P) x.k (kidsV x.k x.n) 0 0 0 l1 w0∧w0≤256∧w=max w0 1)):=by
 obtain ⟨f,h⟩:=h
 cases f with
 | zero=>exact h.elim
 | succ f =>
  obtain ⟨x,l1,e,h1,h2,h3⟩:=h;refine ⟨x,l1,e,h1,h2,?_⟩;rcases h3 with ⟨a,b,c,d⟩ | ⟨a,b,w0,c,d⟩
  · exact .inl ⟨a,⟨x.n.toNat,by omega,c.mono (fun _ _ _ h=>⟨f,h⟩)⟩,d⟩
  · exact .inr ⟨a,b,w0,c.mono (fun _ _ _ h=>⟨f,h⟩),d⟩
theorem Zdp {a b:Int} {l:List Ac} {w:Int} {y:Ac} {l1:List Ac} (h:Okx P a l w) (e:l=y::l1) (hm:ZE b y.k=true):Okx P b l w:=by
 obtain ⟨f,h⟩:=h
 cases f with
 | zero=>exact h.elim
 | succ f =>
  obtain ⟨x,l2,e2,h1,h2,h3⟩:=h;rw [e] at e2;injection e2 with e3 e4;subst e3 e4;exact ⟨f+1,y,l1,e,hm,h2,h3⟩
theorem ZaC {a:Int} {l:List Ac} {w:Int} (h:Okx P a l w):∃y l1,l=y::l1∧ZE a y.k=true∧Zu P y=true∧0≤w:=by
 obtain ⟨x,l1,e,h1,h2,h3⟩:=Zbt h;refine ⟨x,l1,e,h1,h2,?_⟩;rcases h3 with ⟨_,_,h⟩ | ⟨_,_,_,_,_,h⟩ <;> omega
theorem Zmv {a:Int} {y:Ac} {l1:List Ac} {w:Int} (h:Okx P a (y::l1) w) (hk:y.k≠1):1≤w:=by
 obtain ⟨x,l2,e,h1,h2,h3⟩:=Zbt h;injection e with e1 e2;subst e1;rcases h3 with ⟨q,_⟩ | ⟨_,_,_,_,_,h⟩
 · exact absurd q hk
 · omega
theorem OkB.append {R:Int→List Ac→Int→Prop} {m n:Nat} {a b:List Ac} (h:OkB P R m a) (h2:OkB P R n b):OkB P R (m+n) (a++b):=by
 induction h with
 | nil=>simpa using h2
 | @two x y m l h3 h4 _ ih =>
  rw [show m+2+n=(m+n)+2 by omega];exact .two h3 h4 ih
 | @three x y z m l h3 h4 _ ih =>
  rw [show m+3+n=(m+n)+3 by omega];exact .three h3 h4 ih
 | @row x m l1 l2 w h3 h4 _ ih =>
  rw [show m+1+n=(m+n)+1 by omega];have e:x::(l1++l2)++b=x::(l1++(l2++b)):=by simp
  rw [e];exact .row h3 h4 ih
theorem OkB.split {R:Int→List Ac→Int→Prop} {m:Nat} {l:List Ac} (h:OkB P R m l):∀q:Nat,q<l.length→(∀A K C w,l=A++K++C→R 0 K w→A.length<q→A.length+K.length≤q)→(∀y,l[q]? = some y→y.k≠10∧y.k≠11∧y.k≠12) →
 ∃m1 m2 l1 l2,l=l1++l2∧l1.length=q∧m=m1+m2∧OkB P R m1 l1∧OkB P R m2 l2:=by
 induction h with
 | nil=>exact fun q hq=>absurd hq (Nat.not_lt_zero _)
 | @two x y m l h1 h2 hb ih =>
  intro q hq hst hk
  match q,hq,hst,hk with
  | 0,_,_,_=>exact ⟨0,m+2,[],x::y::l,rfl,rfl,by omega,.nil,.two h1 h2 hb⟩
  | 1,_,_,hk =>
   exfalso;have:=hk y rfl;unfold Zcg at h2;simp only [Bool.and_eq_true,Bool.or_eq_true,decide_eq_true_eq] at h2;rcases h2.2 with q | q <;> omega
  | q+2,hq,hst,hk =>
   obtain ⟨m1,m2,l1,l2,e1,e2,e3,e4,e5⟩:=ih q (by simpa using hq) (fun A K C w e hr hlt=>by
    have:=hst (x::y::A) K C w (by rw [e];simp) hr (by simp <;> omega);simp at this
    omega) (fun y' hy=>hk y' (by simpa using hy))
   exact ⟨m1+2,m2,x::y::l1,l2,by rw [e1];simp,by simp [e2],by omega,.two h1 h2 e4,e5⟩
 | @three x y z m l h1 h2 hb ih =>
  intro q hq hst hk;have h3:=h2;unfold Zcf at h3;simp only [Bool.and_eq_true,Bool.or_eq_true,decide_eq_true_eq] at h3
  match q,hq,hst,hk with
  | 0,_,_,_=>exact ⟨0,m+3,[],x::y::z::l,rfl,rfl,by omega,.nil,.three h1 h2 hb⟩
  | 1,_,_,hk =>
   exfalso;have:=hk y rfl;exact this.2.1 h3.1.2.1
  | 2,_,_,hk =>
   exfalso;have:=hk z rfl;rcases h3.2.2 with q | q
   · exact this.2.2 q
   · exact this.1 q.1
  | q+3,hq,hst,hk =>
   obtain ⟨m1,m2,l1,l2,e1,e2,e3,e4,e5⟩:=ih q (by simpa using hq) (fun A K C w e hr hlt=>by
    have:=hst (x::y::z::A) K C w (by rw [e];simp) hr (by simp <;> omega);simp at this
    omega) (fun y' hy=>hk y' (by simpa using hy))
   exact ⟨m1+3,m2,x::y::z::l1,l2,by rw [e1];simp,by simp [e2],by omega,.three h1 h2 e4,e5⟩
 | @row x m l1 l2 w h1 h2 hb ih =>
  intro q hq hst hk;rcases Nat.eq_zero_or_pos q with rfl | h0
  · exact ⟨0,m+1,[],x::(l1++l2),rfl,rfl,by omega,.nil,.row h1 h2 hb⟩
  · have hle:=hst [] (x::l1) l2 w (by simp) h1 (by simpa using h0);simp only [List.length_nil,List.length_cons,Nat.zero_add] at hle;obtain ⟨p,rfl⟩:∃p,q=(l1.length+1)+p:=⟨q - (l1.length+1),by omega⟩
    obtain ⟨m1,m2,k1,k2,e1,e2,e3,e4,e5⟩:=ih p (by simp at hq;omega) (fun A K C w' e hr hlt=>by
     have:=hst (x::l1++A) K C w' (by rw [e];simp) hr (by simp <;> omega);simp at this
     omega) (fun y' hy=>hk y' (by
      rw [show (x::(l1++l2))=(x::l1)++l2 by simp,List.getElem?_append_right (by simp <;> omega)];rw [←hy];congr 1
      simp <;> omega))
    exact ⟨m1+1,m2,x::(l1++k1),k2,by rw [e1];simp,by simp <;> omega,by omega,.row h1 h2 e4,e5⟩
def Zf8 (N K:List Ac):Prop:=∀y z,N[0]? = some y→K[0]? = some z→Zn y.k=Zn z.k∧(¬(9≤z.k∧z.k≤12)→¬(9≤y.k∧y.k≤12))
theorem OkK.congr {R:Int→List Ac→Int→Prop} {k:Int} {vs:List Int} {j:Nat} {kind wants w:Int} {l:List Ac} (h:OkK R k vs j kind wants l w):∀(kind' wants':Int),Zn kind'=Zn kind→wants'≤wants→∃w',w'≤w∧OkK R k vs j kind' wants' l w':=by
 induction h with
 | nil=>exact fun kind' wants' _ hw=>⟨wants',hw,.nil⟩
 | @cons v vs j kind wants n w y l1 l2 h1 _ ih =>
  intro kind' wants' ht hw;obtain ⟨w',h2,h3⟩:=ih y.k (max wants' (if j=1∧19≤k∧k≠37∧k≠38 then n+1 else n)) rfl (by omega);refine ⟨w',h2,.cons (n:=n) ?_ h3⟩;rw [ht];exact h1
def Zf7 (P:Pl) (F:List Ac→Prop) (w':Int) (what':Int) (K:List Ac):Prop:=∀N wN,Okx P what' N wN→wN≤w'→Zf8 N K→F N
theorem Znp {f:Nat} (ih:∀ {what:Int} {L:List Ac} {w:Int},Ok P f what L w→∀q,q<L.length→(∀y,L[q]? = some y→¬(9≤y.k∧y.k≤12)) →
 ∃A K C what' w',L=A++K++C∧A.length=q∧Okx P what' K w'∧Zf7 P (fun N=>(∃w'',Okx P what (A++N++C) w''∧w''≤w)∧(0<q→(A++N++C)[0]? = L[0]?)) w' what' K)
 {m:Nat} {L:List Ac} (h:OkB P (Ok P f) m L):∀q,q<L.length→(∀y,L[q]? = some y→¬(9≤y.k∧y.k≤12)) →
  ∃A K C what' w',L=A++K++C∧A.length=q∧Okx P what' K w'∧Zf7 P (fun N=>OkB P (Okx P) m (A++N++C)) w' what' K:=by
 have hup:∀ {m:Nat} {l:List Ac},OkB P (Ok P f) m l→OkB P (Okx P) m l:=fun h=>h.mono (fun _ _ _ h=>⟨f,h⟩)
 induction h with
 | nil=>exact fun q hq=>absurd hq (Nat.not_lt_zero _)
 | @two x y m l h1 h2 hb ihb =>
  intro q hq hk;have h3:=h2;unfold Zcg at h3;simp only [Bool.and_eq_true,Bool.or_eq_true,decide_eq_true_eq] at h3
  match q,hq,hk with
  | 0,_,hk=>exact absurd (hk x rfl) (by omega)
  | 1,_,hk=>exact absurd (hk y rfl) (by rcases h3.2 with q | q <;> omega)
  | q+2,hq,hk =>
   obtain ⟨A,K,C,what',w',e1,e2,e3,e4⟩:=ihb q (by simpa using hq) (fun y' hy=>hk y' (by simpa using hy))
   exact ⟨x::y::A,K,C,what',w',by rw [e1];simp,by simp [e2],e3,fun N wN a b c=>by
    have:=OkB.two h1 h2 (e4 N wN a b c)
    simpa using this⟩
 | @three x y z m l h1 h2 hb ihb =>
  intro q hq hk;have h3:=h2;unfold Zcf at h3;simp only [Bool.and_eq_true,Bool.or_eq_true,decide_eq_true_eq] at h3
  match q,hq,hk with
  | 0,_,hk=>exact absurd (hk x rfl) (by omega)
  | 1,_,hk=>exact absurd (hk y rfl) (by have:=h3.1.2.1;omega)
  | 2,_,hk=>exact absurd (hk z rfl) (by rcases h3.2.2 with q | q <;> omega)
  | q+3,hq,hk =>
   obtain ⟨A,K,C,what',w',e1,e2,e3,e4⟩:=ihb q (by simpa using hq) (fun y' hy=>hk y' (by simpa using hy))
   exact ⟨x::y::z::A,K,C,what',w',by rw [e1];simp,by simp [e2],e3,fun N wN a b c=>by
    have:=OkB.three h1 h2 (e4 N wN a b c)
    simpa using this⟩
 | @row x m l1 l2 w h1 h2 hb ihb =>
  intro q hq hk
  by_cases hin:q<(x::l1).length
  · have hL:x::(l1++l2)=(x::l1)++l2:=by simp
    obtain ⟨A,K,C,what',w',e1,e2,e3,e4⟩:=ih h1 q hin (fun y' hy=>hk y' (by rw [hL,List.getElem?_append_left hin];exact hy));refine ⟨A,K,C++l2,what',w',by rw [hL,e1];simp,e2,e3,fun N wN a b c=>?_⟩;obtain ⟨⟨w'',d1,d2⟩,d3⟩:=e4 N wN a b c;obtain ⟨y,k1,e5,_⟩:=ZaC d1
    have hy:¬(9≤y.k∧y.k≤12):=by
     rcases Nat.eq_zero_or_pos q with h0 | h0
     · have hA:A=[]:=List.eq_nil_of_length_eq_zero (by omega);subst hA;simp only [List.nil_append] at e1 e5;obtain ⟨z,k3,e7,_⟩:=ZaC a;obtain ⟨z2,k4,e8,_⟩:=ZaC e3
       have q1:N[0]? = some y:=by
        rw [e7] at e5 ⊢;simp only [List.cons_append] at e5;injection e5 with e5;rw [e5];rfl
       have q2:K[0]? = some x:=by
        rw [e8] at e1 ⊢;simp only [List.cons_append] at e1;injection e1 with e1;rw [e1];rfl
       exact (c y x q1 q2).2 h2
     · have:=d3 h0;rw [e5] at this;simp only [List.getElem?_cons_zero,Option.some.injEq] at this;rw [this];exact h2
    have e6:A++N++(C++l2)=y::(k1++l2):=by
     rw [←List.append_assoc,e5];rfl
    rw [e6];rw [e5] at d1
    exact .row (Zdp d1 rfl (by
     obtain ⟨z,k3,e7,e8,_⟩:=ZaC d1;injection e7 with e7;rw [e7]
     exact e8)) hy (hup hb)
  · obtain ⟨p,rfl⟩:∃p,q=(l1.length+1)+p:=⟨q - (l1.length+1),by simp at hin;omega⟩
    obtain ⟨A,K,C,what',w',e1,e2,e3,e4⟩:=ihb p (by simp at hq;omega) (fun y' hy=>hk y' (by
     rw [show (x::(l1++l2))=(x::l1)++l2 by simp,List.getElem?_append_right (by simp <;> omega),←hy];congr 1
     simp <;> omega))
    refine ⟨x::(l1++A),K,C,what',w',by rw [e1];simp,by simp <;> omega,e3,fun N wN a b c=>?_⟩;have:=OkB.row (⟨f,h1⟩:Okx P 0 (x::l1) w) h2 (e4 N wN a b c);simpa using this
theorem Zno {f:Nat} (ih:∀ {what:Int} {L:List Ac} {w:Int},Ok P f what L w→∀q,q<L.length→(∀y,L[q]? = some y→¬(9≤y.k∧y.k≤12)) →
 ∃A K C what' w',L=A++K++C∧A.length=q∧Okx P what' K w'∧Zf7 P (fun N=>(∃w'',Okx P what (A++N++C) w''∧w''≤w)∧(0<q→(A++N++C)[0]? = L[0]?)) w' what' K)
 {k:Int} {vs:List Int} {j:Nat} {kind wants w:Int} {L:List Ac} (h:OkK (Ok P f) k vs j kind wants L w):∀q,q<L.length→(∀y,L[q]? = some y→¬(9≤y.k∧y.k≤12)) →
  ∃A K C what' w',L=A++K++C∧A.length=q∧Okx P what' K w'∧Zf7 P (fun N=>∃w'',w''≤w∧OkK (Okx P) k vs j kind wants (A++N++C) w'') w' what' K:=by
 have hup:∀ {vs:List Int} {j:Nat} {kind wants w:Int} {L:List Ac},OkK (Ok P f) k vs j kind wants L w→OkK (Okx P) k vs j kind wants L w:=fun h=>h.mono (fun _ _ _ h=>⟨f,h⟩)
 induction h with
 | nil=>exact fun q hq=>absurd hq (Nat.not_lt_zero _)
 | @cons v vs j kind wants n w x l1 l2 h1 hb ihb =>
  intro q hq hk
  by_cases hin:q<(x::l1).length
  · have hL:x::(l1++l2)=(x::l1)++l2:=by simp
    obtain ⟨A,K,C,what',w',e1,e2,e3,e4⟩:=ih h1 q hin (fun y' hy=>hk y' (by rw [hL,List.getElem?_append_left hin];exact hy));refine ⟨A,K,C++l2,what',w',by rw [hL,e1];simp,e2,e3,fun N wN a b c=>?_⟩;obtain ⟨⟨w'',d1,d2⟩,d3⟩:=e4 N wN a b c;obtain ⟨y,k1,e5,_⟩:=ZaC d1
    have hy:Zn y.k=Zn x.k:=by
     rcases Nat.eq_zero_or_pos q with h0 | h0
     · have hA:A=[]:=List.eq_nil_of_length_eq_zero (by omega);subst hA;simp only [List.nil_append] at e1 e5;obtain ⟨z,k3,e7,_⟩:=ZaC a;obtain ⟨z2,k4,e8,_⟩:=ZaC e3
       have q1:N[0]? = some y:=by
        rw [e7] at e5 ⊢;simp only [List.cons_append] at e5;injection e5 with e5;rw [e5];rfl
       have q2:K[0]? = some x:=by
        rw [e8] at e1 ⊢;simp only [List.cons_append] at e1;injection e1 with e1;rw [e1];rfl
       exact (c y x q1 q2).1
     · have:=d3 h0;rw [e5] at this;simp only [List.getElem?_cons_zero,Option.some.injEq] at this;rw [this]
    obtain ⟨w3,hw3,hk3⟩:=(hup hb).congr y.k (max wants (if j=1∧19≤k∧k≠37∧k≠38 then w''+1 else w'')) hy (by split <;> omega)
    have e6:A++N++(C++l2)=y::(k1++l2):=by
     rw [←List.append_assoc,e5];rfl
    rw [e6];rw [e5] at d1;exact ⟨w3,hw3,.cons d1 hk3⟩
  · obtain ⟨p,rfl⟩:∃p,q=(l1.length+1)+p:=⟨q - (l1.length+1),by simp at hin;omega⟩
    obtain ⟨A,K,C,what',w',e1,e2,e3,e4⟩:=ihb p (by simp at hq;omega) (fun y' hy=>hk y' (by
     rw [show (x::(l1++l2))=(x::l1)++l2 by simp,List.getElem?_append_right (by simp <;> omega),←hy];congr 1
     simp <;> omega))
    refine ⟨x::(l1++A),K,C,what',w',by rw [e1];simp,by simp <;> omega,e3,fun N wN a b c=>?_⟩;obtain ⟨w'',d1,d2⟩:=e4 N wN a b c;have:=OkK.cons (⟨f,h1⟩:Okx P _ (x::l1) n) d2;exact ⟨w'',d1,by simpa using this⟩
theorem Zlm:∀(f:Nat) {what:Int} {L:List Ac} {w:Int},Ok P f what L w→∀q,q<L.length→(∀y,L[q]? = some y→¬(9≤y.k∧y.k≤12)) →
 ∃A K C what' w',L=A++K++C∧A.length=q∧Okx P what' K w'∧Zf7 P (fun N=>(∃w'',Okx P what (A++N++C) w''∧w''≤w)∧(0<q→(A++N++C)[0]? = L[0]?)) w' what' K
 | 0,_,_,_,h,_,_,_=>h.elim
 | f+1,what,L,w,h,0,hq,hk=>by
  refine ⟨[],L,[],what,w,by simp,rfl,⟨f+1,h⟩,fun N wN a b c=>⟨⟨wN,by simpa using a,b⟩,fun h0=>absurd h0 (Nat.lt_irrefl _)⟩⟩
 | f+1,what,L,w,⟨x,l1,e,h1,h2,h3⟩,q+1,hq,hk=>by
  subst e;have ih:=fun {what:Int} {L:List Ac} {w:Int}=>Zlm f (what:=what) (L:=L) (w:=w)
  have hq2:q<l1.length:=by simpa using hq
  have hk2:∀y,l1[q]? = some y→¬(9≤y.k∧y.k≤12):=fun y hy=>hk y (by simpa using hy)
  rcases h3 with ⟨hx,hn,hb,hw⟩ | ⟨hx,hn,w0,hb,hle,hw⟩
  · obtain ⟨A,K,C,what',w',e1,e2,e3,e4⟩:=Znp ih hb q hq2 hk2;refine ⟨x::A,K,C,what',w',by rw [e1];simp,by simp [e2],e3,fun N wN a b c=>⟨⟨0,?_,by omega⟩,fun _=>by simp⟩⟩;have:=Zez (what:=what) h1 h2 hx (m:=x.n.toNat) (by omega) (e4 N wN a b c);simpa using this
  · obtain ⟨A,K,C,what',w',e1,e2,e3,e4⟩:=Zno ih hb q hq2 hk2;refine ⟨x::A,K,C,what',w',by rw [e1];simp,by simp [e2],e3,fun N wN a b c=>?_⟩;obtain ⟨w'',d1,d2⟩:=e4 N wN a b c;refine ⟨⟨max w'' 1,?_,by omega⟩,fun _=>by simp⟩;have:=Zdc (what:=what) h1 h2 hx hn d2 (by omega);simpa using this
def At (L:List Ac) (i:Nat) (K:List Ac):Prop:=∃X Y,L=X++K++Y∧X.length=i
theorem At.in_ {L:List Ac} {i:Nat} {A K C:List Ac} (h:At L i (A++K++C)):At L (i+A.length) K:=by
 obtain ⟨X,Y,e,h⟩:=h;exact ⟨X++A,C++Y,by rw [e];simp,by simp [h]⟩
theorem At.kid {L:List Ac} {i:Nat} {x:Ac} {K C:List Ac} (h:At L i (x::(K++C))):At L (i+1) K:=by
 have:At L (i+[x].length) K:=At.in_ (A:=[x]) (K:=K) (C:=C) (by simpa using h);exact this
theorem At.kid2 {L:List Ac} {i:Nat} {x:Ac} {K K2 C:List Ac} (h:At L i (x::(K++(K2++C)))):At L (i+1+K.length) K2:=by
 have:At L (i+(x::K).length) K2:=At.in_ (A:=x::K) (K:=K2) (C:=C) (by simpa using h);rw [show i+1+K.length=i+(x::K).length by simp <;> omega];exact this
theorem At.row {L:List Ac} {i:Nat} {y:Ac} {k:List Ac} (h:At L i (y::k)):rowL L i=y∧L[i]? = some y:=by
 obtain ⟨X,Y,e,h⟩:=h;have:L[i]? = some y:=by rw [e,←h];exact Zcp
 exact ⟨by unfold rowL;rw [this];rfl,this⟩
theorem At.sub_ {L:List Ac} {i:Nat} {K:List Ac} (h:At L i K):sub L (i,i+K.length)=K:=by
 obtain ⟨X,Y,e,h⟩:=h;unfold sub;rw [e,←h]
 simp
theorem At.end_ {L:List Ac} {i:Nat} {K:List Ac} {v w:Int} (h:At L i K) (hk:Okx P v K w):endL L i=i+K.length∧ZF L i=K:=by
 obtain ⟨X,Y,e,hi⟩:=h;have h1:=ZfP _ (Zey hk lr_) X Y;have h2:=ZbX (ZcX _ _ _ _ _ h1);rw [←e,hi] at h2;have h3:endL L i=i+K.length:=Zcq h2;exact ⟨h3,by unfold ZF;rw [h3];exact At.sub_ ⟨X,Y,e,hi⟩⟩
def mu (l:List Ac):Nat:=2*l.length+l.countP (fun x=>decide (x.k=29)||decide (x.k=3))
theorem Z9 (a b:List Ac):mu (a++b)=mu a+mu b:=by
 unfold mu;rw [List.length_append,List.countP_append];omega
theorem ZL (x:Ac) (l:List Ac):mu (x::l)=mu l+2+(if x.k=29∨x.k=3 then 1 else 0):=by
 unfold mu;rw [List.length_cons,List.countP_cons]
 by_cases h:x.k=29∨x.k=3
 · rw [if_pos h,if_pos (by simpa using h)];omega
 · rw [if_neg h,if_neg (by simpa using h)];omega
theorem ZdU:mu []=0:=rfl
end
section
variable {P:Pl} {L:List Ac}
theorem ZgM {w:Int} (h:Okx P 1 L w):Zy P L=true∧L≠[]:=by
 obtain ⟨y,l1,e,_⟩:=ZaC h;have h0:L≠[]:=by rw [e];simp
 exact ⟨(ZhR h0).2 ⟨w,Zey h (Nat.le_succ _)⟩,h0⟩
theorem Zkw (h:Zy P L=true) (h0:L≠[]):∃w,Okx P 1 L w:=by
 obtain ⟨w,h⟩:=(ZhR h0).1 h;exact ⟨w,_,h⟩
def ZcF (P:Pl) (L L':List Ac):Prop:=(∃w',Okx P 1 L' w')∧mu L'<mu L∧L'.length≤L.length
theorem Zgp {A K C r:List Ac}:ZbE (A++K++C) A.length (A.length+K.length) r=A++r++C:=by
 unfold ZbE;congr 1
 · simp
 · rw [←List.length_append,List.drop_left]
theorem ZcL {w:Int} {q:Nat} {L':List Ac} (hok:Okx P 1 L w) (hq:q<L.length) (hk:∀y,L[q]? = some y→¬(9≤y.k∧y.k≤12))
 (h:∀K what' w',At L q K→Okx P what' K w'→∃r wr,L'=ZbE L q (q+K.length) r∧Okx P what' r wr∧wr≤w'∧Zf8 r K∧mu r<mu K∧r.length≤K.length):ZcF P L L':=by
 obtain ⟨f,hf⟩:=hok;obtain ⟨A,K,C,what',w',e,hA,hK,hF⟩:=Zlm f hf q hq hk;obtain ⟨r,wr,h1,h2,h3,h4,h5,h6⟩:=h K what' w' ⟨A,C,e,hA⟩ hK;obtain ⟨⟨w'',h7,_⟩,_⟩:=hF r wr h2 h3 h4;subst hA;have h8:L'=A++r++C:=by rw [h1,e];exact Zgp
 rw [h8];refine ⟨⟨w'',h7⟩,?_,?_⟩
 · rw [e,Z9,Z9,Z9,Z9];omega
 · rw [e];simp only [List.length_append];omega
theorem Zgk {d:Int} {x:Ac} {l:List Ac}:mu (addN d x::l)=mu (x::l):=by rw [ZL,ZL];rfl
theorem Zdh {A B K S:List Ac} {x:Ac} {q:Nat} {r:List Ac} {d:Int} (hL:L=A++(x::(B++(K++S)))) (hp:upL L q q=some A.length) (hq:q=A.length+1+B.length):Zav L q (q+K.length) r d=A++(addN d x::(B++(r++S))):=by
 unfold Zav;rw [hp]
 have h1:ZbE L q (q+K.length) r=A++(x::(B++(r++S))):=by
  have e:L=(A++x::B)++K++S:=by rw [hL];simp
  have hq2:q=(A++x::B).length:=by rw [hq];simp;omega
  rw [hq2,e,Zgp]
  simp
 rw [h1];exact ZeA
theorem At.wf {i:Nat} {K:List Ac} {v w:Int} (h:At L i K) (hk:Okx P v K w):∃f,Wf P L f v i (i+K.length):=by
 obtain ⟨X,Y,e,hi⟩:=h;have h1:=ZfP _ (Zey hk lr_) X Y;have h2:=ZcX _ _ _ _ _ h1;rw [←e,hi] at h2;exact ⟨_,h2⟩
theorem Zfx {w:Int} (hok:Okx P 1 L w) (hs:Z7 L) {q p:Nat} (h0:0<q) (hq:q<L.length) (hp:p<q) (hup:upL L q q=some p) (hpe:q<endL L p) (hpn:∀j,p<j→j<q→endL L j≤q) (hk:(rowL L p).k=1) (hkq:∀y,L[q]? = some y→y.k≠10∧y.k≠11∧y.k≠12) :
 ∃A x B S C,∃m2:Nat,L=A++(x::(B++(S++C)))∧A.length=p∧q=A.length+1+B.length∧0<S.length∧OkB P (Okx P) m2 S∧(∀S' m',OkB P (Okx P) m' S'→∃w'',Okx P 1 (A++(addN ((m':Int) - m2) x::(B++(S'++C)))) w''):=by
 obtain ⟨f,hf⟩:=hok
 obtain ⟨A,K,C,what',w',e,hA,hK,hF⟩:=Zlm f hf p (by omega) (fun y hy=>by
  have:rowL L p=y:=by unfold rowL;rw [hy];rfl
  rw [this] at hk
  omega)
 have hat:At L p K:=⟨A,C,e,hA⟩;obtain ⟨x,l1,e1,h1,h2,h3⟩:=Zbt hK;have hx:rowL L p=x:=(At.row (k:=l1) (e1▸hat)).1;rw [hx] at hk;rcases h3 with ⟨_,⟨m,hm,hB⟩,hw0⟩ | ⟨h9,_⟩
 · have hend:=(hat.end_ hK).1;rw [hend,e1] at hpe;simp only [List.length_cons] at hpe;obtain ⟨q',hq'⟩:∃q',q=p+1+q':=⟨q - (p+1),by omega⟩
   have hlq:L[q]? = l1[q']?:=by
    rw [e,e1,hq',←hA,List.append_assoc,List.getElem?_append_right (by omega),List.getElem?_append_left (by simp <;> omega)];rw [show A.length+1+q' - A.length=q'+1 by omega];rfl
   obtain ⟨m1,m2,B,S,e2,e3,e4,h4,h5⟩:=hB.split q' (by omega) (fun A' K' C' w2 e2 hR hlt=>by
    have hat2:At L (p+1+A'.length) K':=by
     have:=At.in_ (L:=L) (i:=p) (A:=x::A') (K:=K') (C:=C') (by rw [e1,e2] at hat;simpa using hat);rw [show p+1+A'.length=p+(x::A').length by simp <;> omega];exact this
    have h6:=hpn (p+1+A'.length) (by omega) (by omega);rw [(hat2.end_ hR).1] at h6
    omega) (fun y hy=>hkq y (by rw [hlq];exact hy))
   refine ⟨A,x,B,S,C,m2,by rw [e,e1,e2];simp,hA,by omega,?_,h5,fun S' m' hS=>?_⟩
   · have:=congrArg List.length e2;rw [List.length_append] at this;omega
   · have hblk:Okx P what' (addN ((m':Int) - m2) x::(B++S')) 0:=by
      refine Zez (m:=m1+m') h1 ?_ hk ?_ (h4.append hS)
      · have hn:Zu P (addN ((m':Int) - m2) x)=Zu P x:=rfl;rw [hn];exact h2
      · show x.n+((m':Int) - m2)=((m1+m':Nat):Int);omega
     obtain ⟨⟨w'',h7,_⟩,_⟩:=hF _ _ hblk (by omega) (fun y z hy hz=>by
      rw [e1] at hz;simp only [List.getElem?_cons_zero,Option.some.injEq] at hy hz;subst hy hz
      exact ⟨rfl,fun h=>h⟩)
     refine ⟨w'',?_⟩;have e5:A++(addN ((m':Int) - m2) x::(B++S'))++C=A++(addN ((m':Int) - m2) x::(B++(S'++C))):=by simp
     rw [←e5];exact h7
 · exact absurd hk h9
theorem Zfw {w:Int} (hok:Okx P 1 L w) (hs:Z7 L) {q:Nat} (h0:0<q) (hq:q<L.length):∃p,p<q∧upL L q q=some p∧q<endL L p∧(∀j,p<j→j<q→endL L j≤q)∧(2≤(rowL L q).k→(rowL L q).k≤16→(rowL L p).k=1):=by
 obtain ⟨hev,hne⟩:=ZgM hok;obtain ⟨p,h1,h2,h3,h4⟩:=Zew (ZeP hev) hs h0 hq;refine ⟨p,h2,Zdg _ h2 h3 h4,h3,h4,fun a b=>?_⟩;have hw:=ZcG hev hne;obtain ⟨f,what,e,h5,h6⟩:=Zdv _ _ _ _ hw p (Nat.zero_le _) (by omega);obtain ⟨f,rfl⟩:=Zbe h5;have R:=ZQ h5;have hee:=R.ee;obtain ⟨w1,r,h7,h8,h9,h10,h11⟩:=ZeZ wfR _ _ _ _ R.ks q (by omega) (by omega)
 have hr:r.1=q:=by
  rcases Nat.eq_or_lt_of_le h9 with h | h
  · exact h
  · exfalso;have ho:=ZbQ wfR _ _ _ _ R.ks r h7;have:=h4 r.1 (by omega) h;rw [Zcq (ZbX h8)] at this;omega
 by_cases hk:(rowL L p).k=1
 · exact hk
 · exfalso;obtain ⟨w2,b1,b2⟩:=ZdE _ _ _ _ R.ks r h7;obtain ⟨f',rfl⟩:=Zbe b2;have hm:=(ZQ b2).may;rw [hr] at hm;have hw5:=Zhf R hk w2 b1;have ht:Zn (rowL L q).k = -1:=by unfold Zn;rw [if_neg (by omega),if_neg (by omega)]
   unfold ZE at hm;rcases hw5 with rfl | rfl | rfl | rfl | rfl <;> simp [ht] at hm <;> omega
theorem ZcZ {w:Int} (hok:Okx P 1 L w) (hs:Z7 L) {q:Nat} (hq:q<L.length) (hk:2≤(rowL L q).k) (hk2:(rowL L q).k≤8):ZcF P L (ZaH L q):=by
 have h0:0<q:=by
  rcases Nat.eq_zero_or_pos q with rfl | h
  · exfalso;obtain ⟨y,l1,e,h1,_⟩:=ZaC hok;have:rowL L 0=y:=by unfold rowL;rw [e];rfl
    rw [this] at hk;have:y.k=1:=by simpa [ZE] using h1
    omega
  · exact h
 obtain ⟨p,h1,h2,h3,h4,h5⟩:=Zfw hok hs h0 hq;have hrow:=Z5 hq
 obtain ⟨A,x,B,S,C,m2,e,hA,hqe,hS,hB,hF⟩:=Zfx hok hs h0 hq h1 h2 h3 h4 (h5 hk (by omega)) (fun y hy=>by
  rw [hrow] at hy;injection hy with hy;rw [←hy]
  omega)
 have hSq:L[q]? = S[0]?:=by
  rw [e,hqe,List.getElem?_append_right (by omega),show A.length+1+B.length - A.length=B.length+1 by omega,List.getElem?_cons_succ,List.getElem?_append_right lr_,Nat.sub_self,List.getElem?_append_left hS]
 cases hB with
 | nil=>simp at hS
 | @two x9 y9 m l h9 _ _ =>
  rw [hrow] at hSq;simp only [List.getElem?_cons_zero,Option.some.injEq] at hSq;rw [hSq] at hk2;omega
 | @three x9 y9 z9 m l h9 _ _ =>
  rw [hrow] at hSq;simp only [List.getElem?_cons_zero,Option.some.injEq] at hSq;rw [hSq] at hk2;omega
 | @row y m k1 S2 wy hy hny hb =>
  obtain ⟨w'',h7⟩:=hF S2 m hb;have hat:At L q (y::k1):=⟨A++x::B,S2++C,by rw [e];simp,by simp <;> omega⟩;have hend:=(hat.end_ hy).1
  have hn:ZaH L q=A++(addN (-1) x::(B++(S2++C))):=by
   unfold ZaH;rw [hend];have:=Zdh (L:=L) (A:=A) (B:=B) (K:=y::k1) (S:=S2++C) (x:=x) (q:=q) (r:=[]) (d:=0 - 1) (by rw [e];simp) (by rw [hA];exact h2) hqe;rw [this];rfl
  rw [show ((m:Nat):Int) - ((m+1:Nat):Int) = -1 by omega] at h7;rw [hn];refine ⟨⟨w'',h7⟩,?_,?_⟩
  · rw [e];rw [Z9,Zgk];simp only [Z9,ZL,ZdU];omega
  · rw [e];simp <;> omega
theorem Zie {w:Int} (hok:Okx P 1 L w) (hs:Z7 L) {q:Nat} (h0:0<q) (hq:q<L.length) (hk:(rowL L q).k=1) (hpk:(rowL L (upI (upL L q q)).toNat).k=1):ZcF P L (Zav L q (endL L q) (sub L (q+1,endL L q)) ((rowL L q).n - 1)):=by
 obtain ⟨p,h1,h2,h3,h4,_⟩:=Zfw hok hs h0 hq;have hrow:=Z5 hq;rw [h2] at hpk;have hpk2:(rowL L p).k=1:=hpk
 obtain ⟨A,x,B,S,C,m2,e,hA,hqe,hS,hB,hF⟩:=Zfx hok hs h0 hq h1 h2 h3 h4 hpk2 (fun y hy=>by
  rw [hrow] at hy;injection hy with hy;rw [←hy]
  omega)
 have hSq:L[q]? = S[0]?:=by
  rw [e,hqe,List.getElem?_append_right (by omega),show A.length+1+B.length - A.length=B.length+1 by omega,List.getElem?_cons_succ,List.getElem?_append_right lr_,Nat.sub_self,List.getElem?_append_left hS]
 cases hB with
 | nil=>simp at hS
 | @two x9 y9 m l h9 _ _ =>
  rw [hrow] at hSq;simp only [List.getElem?_cons_zero,Option.some.injEq] at hSq;rw [hSq] at hk;omega
 | @three x9 y9 z9 m l h9 _ _ =>
  rw [hrow] at hSq;simp only [List.getElem?_cons_zero,Option.some.injEq] at hSq;rw [hSq] at hk;omega
 | @row y m k1 S2 wy hy hny hb =>
  rw [hrow] at hSq;simp only [List.getElem?_cons_zero,Option.some.injEq] at hSq;have hat:At L q (y::k1):=⟨A++x::B,S2++C,by rw [e];simp,by simp <;> omega⟩;have hend:=(hat.end_ hy).1;have hat1:At L (q+1) k1:=At.kid (C:=[]) (by simpa using hat)
  have hsub:sub L (q+1,endL L q)=k1:=by
   rw [hend,show q+(y::k1).length=q+1+k1.length by simp <;> omega];exact hat1.sub_
  obtain ⟨x',l2,e5,_,_,h6⟩:=Zbt hy;injection e5 with e6 e7;subst e6 e7;rw [hSq] at hk;rcases h6 with ⟨_,⟨n,hn,hbn⟩,_⟩ | ⟨h9,_⟩
  · obtain ⟨w'',h7⟩:=hF (k1++S2) (n+m) (hbn.append hb)
    have hn2:Zav L q (endL L q) (sub L (q+1,endL L q)) ((rowL L q).n - 1)=A++(addN ((n:Int) - 1) x::(B++(k1++(S2++C)))):=by
     rw [hsub,hend,hSq,hn];exact Zdh (L:=L) (A:=A) (B:=B) (K:=y::k1) (S:=S2++C) (x:=x) (q:=q) (r:=k1) (d:=(n:Int) - 1) (by rw [e];simp) (by rw [hA];exact h2) hqe
    rw [show ((n+m:Nat):Int) - ((m+1:Nat):Int)=(n:Int) - 1 by omega] at h7;rw [hn2];refine ⟨⟨w'',by simpa using h7⟩,?_,?_⟩
    · rw [e];rw [Z9,Zgk];simp only [Z9,ZL,ZdU];omega
    · rw [e];simp <;> omega
  · exact absurd hk h9
theorem ZhQ {z:Ac} (h1:13≤z.k∧z.k≤16) (h2:Zu P z=true) (h3:z.n=0):Okx P 0 [z] 1:=by
 have hkv:kidsV z.k z.n=[]:=by unfold kidsV;repeat rw [if_neg (by omega)]
 have:=Zdc (P:=P) (what:=0) (x:=z) (l1:=[]) (w0:=0) (by simp [ZE];omega) h2 (by omega) (by rw [hkv,h3];rfl) (by rw [hkv];exact .nil) (by decide);exact this
theorem Zlu {x y z:Ac} (hx:x.k=9) (h:Zcg P x y=true):Zu P (Zad x y z).1=true∧(13≤(Zad x y z).1.k∧(Zad x y z).1.k≤16)∧(Zad x y z).1.n=0∧(Zad x y z).2=2:=by
 unfold Zcg Zbv at h;simp only [Bool.and_eq_true,Bool.or_eq_true,decide_eq_true_eq] at h;obtain ⟨⟨⟨_,hnx⟩,_,hny⟩,h3⟩:=h;unfold Zu at hnx;simp only [hx] at hnx;rcases h3 with ⟨hy,hg⟩ | ⟨hy,hg⟩
 · unfold Zu at hny;simp only [hy] at hny;unfold Zad;rw [if_pos hy];simp [Zu,Zp,qV] at hnx hny ⊢
   simp_all
 · unfold Zad;rw [if_neg (by omega),if_neg (by omega),if_neg (by omega)];simp [Zu,Zp,qV] at hnx ⊢
   simp_all
theorem Zlt {x y z:Ac} (hx:x.k=9) (h:Zcf P x y z=true):Zu P (Zad x y z).1=true∧(13≤(Zad x y z).1.k∧(Zad x y z).1.k≤16)∧(Zad x y z).1.n=0∧(Zad x y z).2=3:=by
 unfold Zcf Zbv at h;simp only [Bool.and_eq_true,Bool.or_eq_true,decide_eq_true_eq,Bool.not_eq_true'] at h;obtain ⟨⟨⟨⟨_,hnx⟩,_,hny⟩,hy,hg⟩,⟨_,hnz⟩,h3⟩:=h;unfold Zu at hnx;simp only [hx] at hnx;rcases h3 with hz | ⟨hz,hgz⟩
 · unfold Zad;rw [if_neg (by omega),if_neg (by omega),if_pos hy];simp [Zu,Zp,qV] at hnx ⊢
   simp_all
 · unfold Zu at hnz;simp only [hz] at hnz;unfold Zad;rw [if_neg (by omega),if_pos ⟨hy,hz⟩];simp [Zu,Zp,qV] at hnx hnz ⊢
   simp_all
theorem Zkj {w:Int} (hok:Okx P 1 L w) (hs:Z7 L) {q:Nat} (h0:0<q) (hq:q<L.length) (hk:(rowL L q).k=9) :
 ZcF P L (Zav L q (q+(Zad (rowL L q) (rowL L (q+1)) (rowL L (q+2))).2) [(Zad (rowL L q) (rowL L (q+1)) (rowL L (q+2))).1] (1 - ((Zad (rowL L q) (rowL L (q+1)) (rowL L (q+2))).2:Int))):=by
 obtain ⟨p,h1,h2,h3,h4,h5⟩:=Zfw hok hs h0 hq;have hrow:=Z5 hq
 obtain ⟨A,x,B,S,C,m2,e,hA,hqe,hS,hB,hF⟩:=Zfx hok hs h0 hq h1 h2 h3 h4 (h5 (by omega) (by omega)) (fun y hy=>by
  rw [hrow] at hy;injection hy with hy;rw [←hy]
  omega)
 have hSq:∀j,j<S.length→L[q+j]? = S[j]?:=fun j hj=>by
  rw [e,hqe,List.getElem?_append_right (by omega),show A.length+1+B.length+j - A.length=B.length+j+1 by omega,List.getElem?_cons_succ,List.getElem?_append_right (by omega),show B.length+j - B.length=j by omega,List.getElem?_append_left hj]
 have hmu:∀ {K r:List Ac} {S2:List Ac} {d:Int},S=K++S2→mu r<mu K→mu (A++(addN d x::(B++(r++(S2++C)))))<mu L:=fun {K r S2 d} e2 hlt=>by
  rw [e,e2];rw [Z9,Zgk];simp only [Z9,ZL,ZdU];omega
 have hm1:∀z:Ac,13≤z.k∧z.k≤16→mu [z]=2:=fun z hz=>by
  rw [ZL,ZdU,if_neg (by omega)]
 cases hB with
 | nil=>simp at hS
 | @row y m k1 S2 wy hy hny hb =>
  have:=hSq 0 (by simp);rw [Nat.add_zero,hrow] at this;simp only [List.getElem?_cons_zero,Option.some.injEq] at this;rw [this] at hk;omega
 | @two x9 y9 m l h9 hh hb =>
  have e0:=hSq 0 (by simp);have e1:=hSq 1 (by simp);simp only [Nat.add_zero,List.getElem?_cons_zero,List.getElem?_cons_succ] at e0 e1;have r0:rowL L q=x9:=by unfold rowL;rw [e0];rfl
  have r1:rowL L (q+1)=y9:=by unfold rowL;rw [e1];rfl
  rw [r0,r1];obtain ⟨n1,n2,n3,n4⟩:=Zlu (z:=rowL L (q+2)) h9 hh;obtain ⟨w'',h7⟩:=hF ([(Zad x9 y9 (rowL L (q+2))).1]++l) (m+1) (.row (ZhQ n2 n1 n3) (by omega) hb);rw [n4]
  have hn:Zav L q (q+2) [(Zad x9 y9 (rowL L (q+2))).1] (1 - ((2:Nat):Int))=A++(addN (-1) x::(B++([(Zad x9 y9 (rowL L (q+2))).1]++(l++C)))) :=
   Zdh (L:=L) (A:=A) (B:=B) (K:=[x9,y9]) (S:=l++C) (x:=x) (q:=q) (d:=-1) (by rw [e];simp) (by rw [hA];exact h2) hqe
  rw [hn];rw [show ((m+1:Nat):Int) - ((m+2:Nat):Int) = -1 by omega] at h7;refine ⟨⟨w'',by simpa using h7⟩,hmu (K:=[x9,y9]) rfl (by rw [hm1 _ n2,ZL,ZL];omega),by rw [e];simp <;> omega⟩
 | @three x9 y9 z9 m l h9 hh hb =>
  have e0:=hSq 0 (by simp);have e1:=hSq 1 (by simp);have e2:=hSq 2 (by simp);simp only [Nat.add_zero,List.getElem?_cons_zero,List.getElem?_cons_succ] at e0 e1 e2;have r0:rowL L q=x9:=by unfold rowL;rw [e0];rfl
  have r1:rowL L (q+1)=y9:=by unfold rowL;rw [e1];rfl
  have r2:rowL L (q+2)=z9:=by unfold rowL;rw [e2];rfl
  rw [r0,r1,r2];obtain ⟨n1,n2,n3,n4⟩:=Zlt h9 hh;obtain ⟨w'',h7⟩:=hF ([(Zad x9 y9 z9).1]++l) (m+1) (.row (ZhQ n2 n1 n3) (by omega) hb);rw [n4]
  have hn:Zav L q (q+3) [(Zad x9 y9 z9).1] (1 - ((3:Nat):Int))=A++(addN (-2) x::(B++([(Zad x9 y9 z9).1]++(l++C)))) :=
   Zdh (L:=L) (A:=A) (B:=B) (K:=[x9,y9,z9]) (S:=l++C) (x:=x) (q:=q) (d:=-2) (by rw [e];simp) (by rw [hA];exact h2) hqe
  rw [hn];rw [show ((m+1:Nat):Int) - ((m+3:Nat):Int) = -2 by omega] at h7;refine ⟨⟨w'',by simpa using h7⟩,hmu (K:=[x9,y9,z9]) rfl (by rw [hm1 _ n2,ZL,ZL,ZL];omega),by rw [e];simp <;> omega⟩
end
end Go.Proofs.Ytdpokdcendgfeaa
