/- Several texts in one: The walk of fold.Run. Conditions: those of each. -/
import Derived.Test.YtdpokdcendgfeaaW16
import Derived.Test.YtdpokdcendgfeaaW45
import Derived.Deep.CutBlock
import Derived.Deep.LoopGhost
set_option linter.unusedSimpArgs false
set_option linter.unusedVariables false
set_option maxHeartbeats 80000000
set_option maxRecDepth 100000
namespace Go.Proofs.Ytdpokdcendgfeaa
open Go.RowKit
section
attribute [local go_sem] par Zah
inductive RunTo:Nat→List Ac→List Ac→Prop
 | stop {l:List Ac}:EvOk l→Z6 l=none→RunTo 0 l l
 | step {n:Nat} {l l':List Ac} {f:Fd}:EvOk l→Z6 l=some f→DnOk l f→RunTo n (ZY l f) l'→RunTo (n+1) l l'
theorem RunTo.ok {n:Nat} {l l':List Ac} (h:RunTo n l l'):EvOk l:=by
 cases h with
 | stop h _=>exact h
 | step h _ _ _=>exact h
structure JE (m:Nat) (W:World) (K:Nat→Value→World→Prop) (F:World→Prop) (S:Nat→Bool) (vs:Nat→Value) (w:World):Prop where
 j:S m=false→JG W K S vs w
 f:S m=true→F w
section
variable {m:Nat} {W w w':World} {K:Nat→Value→World→Prop} {F:World→Prop} {S:Nat→Bool} {vs:Nat→Value}
theorem JE.b (h:JE m W K F S vs w) (h18:S m=false):Below W.heap.size W w:=(h.j h18).b
theorem JE.k (h:JE m W K F S vs w) (h18:S m=false) (i:Nat) (hi:S i=true):K i (vs i) w:=(h.j h18).k i hi
theorem JE.start (vs:Nat→Value) (h:∀i v w,m+1≤i→K i v w):JE m W K F (fun i=>decide (m+1≤i)) vs W.drew :=
 ⟨fun _=>JG.start vs h,fun e=>by simp at e;omega⟩
theorem JE.step {j:Nat} {u:Value} (h:JE m W K F S vs w) (hj:j≠m) (hK:StK K) (h18:S m=false) (hb:Below w.heap.size w w') (hu:K j u w'):JE m W K F (upn S j true) (upn vs j u) w' :=
 ⟨fun _=>(h.j h18).step hK hb hu,fun e=>by rw [Zd (Ne.symm hj),h18] at e;cases e⟩
theorem JE.last {u:Value} (hF:F w'):JE m W K F (upn S m true) (upn vs m u) w' :=
 ⟨fun e=>(by rw [Ze] at e;cases e),fun _=>hF⟩
end
structure RS (W:World) (B gp:Nat) (P:Pl) (L:Nat→List Ac) (og ov ot om:Option Addr) (cg cv ct cm go co:Nat) (oo:Option Addr) (us:List Value):Prop where
 g:W.ownsRow B 4 1 (.slice og P.gh.length cg) P.gh.length (ZZ P.gh)
 v:W.ownsRow B 51 3 (.slice ov P.vs.length cv) P.vs.length (vrs P.vs)
 t:W.ownsRow B 3 1 (.slice ot P.ts.length ct) P.ts.length (Zm P.ts)
 o:W.ownsRow B 26 1 (.slice oo P.on.length co) P.on.length us
 oe:0<P.on.length→oo=some ⟨go,0,none⟩
 u:∀i,i<P.on.length→∃u,us[i]? = some u∧W.ownsRow B 49 6 u (L i).length (acs (L i))
 m:W.ownsRow B 49 6 (.slice om (L P.on.length).length cm) (L P.on.length).length (acs (L P.on.length))
 b:Blk W gp 28 #[.slice og P.gh.length cg,.slice ov P.vs.length cv,.slice ot P.ts.length ct,.slice oo P.on.length co,.slice om (L P.on.length).length cm]
 l:gp<B
section
variable {W W':World} {B gp:Nat} {P:Pl} {L:Nat→List Ac} {og ov ot om:Option Addr} {cg cv ct cm go co:Nat} {oo:Option Addr} {us:List Value}
theorem RS.below (h:RS W B gp P L og ov ot om cg cv ct cm go co oo us) (hb:Below W.heap.size W W'):RS W' B gp P L og ov ot om cg cv ct cm go co oo us :=
 ⟨Zx h.g hb lr_,Zx h.v hb lr_,Zx h.t hb lr_,Zx h.o hb lr_,h.oe,fun i hi=>by
  obtain ⟨u,h1,h2⟩:=h.u i hi
  exact ⟨u,h1,Zx h2 hb lr_⟩,Zx h.m hb lr_,h.b.below hb h.b.lt,h.l⟩
theorem Zbn {t:TypeId} {sz n g:Nat} {v:Value} {xs:List Value} (h:W.ownsRow B t sz v n xs) (hg:g<B):v.ownBlock≠some g:=fun e=>by
 have:=(h.lt g e).1;omega
theorem RS.out (h:RS W B gp P L og ov ot om cg cv ct cm go co oo us) {p:Addr} (hp:p.block<B) (hne:p.block≠gp) (u:Value):RS (W.setCell p u) B gp P L og ov ot om cg cv ct cm go co oo us :=
 ⟨ZA h.g (Zbn h.g hp) u,ZA h.v (Zbn h.v hp) u,ZA h.t (Zbn h.t hp) u,ZA h.o (Zbn h.o hp) u,h.oe,fun i hi=>by
  obtain ⟨x,h1,h2⟩:=h.u i hi
  exact ⟨x,h1,ZA h2 (Zbn h2 hp) u⟩,ZA h.m (Zbn h.m hp) u,h.b.far (Ne.symm hne) u,h.l⟩
theorem RS.get (h:RS W B gp P L og ov ot om cg cv ct cm go co oo us) {k:Nat} (hk:k≤P.on.length):∃p oa c,evQ oo P.on.length gp k=some p∧p.block<W.heap.size∧W.frozen? p=false∧W.cell? p=some (.slice oa (L k).length c)∧W.ownsRow B 49 6 (.slice oa (L k).length c) (L k).length (acs (L k))∧p=(if k<P.on.length then ⟨go,k,none⟩ else ⟨gp,4,none⟩):=by
 unfold evQ
 by_cases h1:k<P.on.length
 · rw [if_pos h1,if_pos h1];have ho:=h.oe (by omega);obtain ⟨u,h2,h3⟩:=h.u k h1;obtain ⟨oa,c,e⟩:=Zg h3;have ho2:=h.o;rw [ho] at ho2 ⊢;refine ⟨(⟨go,0,none⟩:Addr).add k,oa,c,rfl,?_,?_,?_,by rw [←e];exact h3,?_⟩
   · rw [Zl];exact (h.o.lt go (by rw [ho];rfl)).2
   · rw [show (⟨go,0,none⟩:Addr).add k=⟨go,k,none⟩ by cases k <;> simp [Addr.add]];exact ho2.frozenAt k
   · rw [show (⟨go,0,none⟩:Addr).add k=⟨go,k,none⟩ by cases k <;> simp [Addr.add],←e];exact ZdS ho2 k u h2
   · cases k <;> simp [Addr.add]
 · obtain rfl:k=P.on.length:=by omega
   rw [if_neg h1,if_neg h1];exact ⟨_,om,cm,rfl,h.b.lt,h.b.frozen 4,h.b.cell 4,h.m,rfl⟩
theorem ZkS {α : Type} (f:Nat→α) (i:Nat):upd f i (f i)=f:=by
 funext j;unfold upd;split
 · next e=>rw [e]
 · rfl
theorem RS.put (h:RS W B gp P L og ov ot om cg cv ct cm go co oo us) {k:Nat} (hk:k≤P.on.length) {l:List Ac} {oa:Option Addr} {c:Nat} (hl:W.ownsRow B 49 6 (.slice oa l.length c) l.length (acs l)) :
 ∃om' cm' us',RS (W.setCell (if k<P.on.length then ⟨go,k,none⟩ else ⟨gp,4,none⟩) (.slice oa l.length c)) B gp P (upd L k l) og ov ot om' cg cv ct cm' go co oo us':=by
 by_cases h1:k<P.on.length
 · rw [if_pos h1];have ho:=h.oe (by omega);have ho2:=h.o;rw [ho] at ho2
   obtain ⟨g',cap,cur,e,hb,hgg,_⟩:∃g' cap cur,(Value.slice (some ⟨go,0,none⟩) P.on.length co)=.slice (some ⟨g',0,none⟩) P.on.length cap∧B≤g'∧W.heap[g']? = some (.cells cur 26 (0,0))∧True:=by
    rcases ho2.2 with ⟨e,_⟩ | ⟨g',cap,cur,e,hb,hgg,_⟩
    · simp at e
    · exact ⟨g',cap,cur,e,hb,hgg,trivial⟩
   simp only [Value.slice.injEq,Option.some.injEq,Addr.mk.injEq,and_true,true_and] at e;obtain ⟨rfl,rfl⟩:=e;have hblk:Blk W go 26 cur:=hgg;have hgp:=h.l;have hst:=(World.ownsRow.stored ho2 k (.slice oa l.length c)).1;have hul:us.length=P.on.length:=by have:=h.o.1;omega
   refine ⟨om,cm,us.set k (.slice oa l.length c),ZA h.g (ZX h.g hblk (by decide)) _,ZA h.v (ZX h.v hblk (by decide)) _,ZA h.t (ZX h.t hblk (by decide)) _,by rw [ho];exact hst,h.oe,fun i hi=>?_,?_,?_,h.l⟩
   · by_cases e:i=k
     · subst e;exact ⟨_,List.getElem?_set_self (by omega),by rw [ZbN];exact ZA hl (ZX hl hblk (by decide)) _⟩
     · obtain ⟨u,h2,h3⟩:=h.u i hi;exact ⟨u,by rw [List.getElem?_set_ne (Ne.symm e)];exact h2,by rw [Zcl _ _ e];exact ZA h3 (ZX h3 hblk (by decide)) _⟩
   · rw [Zcl _ _ (by omega)];exact ZA h.m (ZX h.m hblk (by decide)) _
   · rw [Zcl _ _ (by omega)];exact h.b.far (p:=⟨go,k,none⟩) (by show gp≠go;omega) _
 · obtain rfl:k=P.on.length:=by omega
   rw [if_neg h1];have hgp:=h.l;refine ⟨oa,c,us,ZA h.g (Zbn h.g hgp) _,ZA h.v (Zbn h.v hgp) _,ZA h.t (Zbn h.t hgp) _,ZA h.o (Zbn h.o hgp) _,h.oe,fun i hi=>?_,?_,?_,h.l⟩
   · obtain ⟨u,h2,h3⟩:=h.u i hi;exact ⟨u,h2,by rw [Zcl _ _ (by omega)];exact ZA h3 (Zbn h3 hgp) _⟩
   · rw [ZbN];exact ZA hl (Zbn hl hgp) _
   · rw [ZbN];have h9:=h.b.set_ 4 (.slice oa l.length c);exact h9
end
def RSx (W:World) (B gp:Nat) (P:Pl) (L:Nat→List Ac) (og ov ot:Option Addr) (cg cv ct go co:Nat) (oo:Option Addr):Prop:=∃om cm us,RS W B gp P L og ov ot om cg cv ct cm go co oo us
def FB (W:World) (gd:Nat) (b:Bool):Option Fd→Prop
 | none=>b=false∧∃m0 m1 m2 oa n c m4 m5,Blk W gd 90 #[.int .i64 m0,.int .i64 m1,.int .i64 m2,.slice oa n c,.int .i64 m4,.int .i64 m5]
 | some f=>b=true∧∃oa n c,Blk W gd 90 #[.int .i64 (f.what:Int),.int .i64 (f.frm:Int),.int .i64 (f.to_:Int),.slice oa n c,.int .i64 f.parts,.int .i64 f.gone]∧Rin W (.slice oa n c) f.inn
def K28 (g6:Nat) (p:Addr) (lv fv:Value) (B:Nat) (l':List Ac):Nat→Value→World→Prop
 | 0,v,_=>v=.pointer (some ⟨g6,1,none⟩)
 | 1,v,_=>v=.pointer (some p)
 | 2,v,_=>v=.pointer (some ⟨g6,1,none⟩)
 | 3,v,_=>v=.pointer (some p)
 | 4,v,_=>v=.pointer (some p)
 | 5,v,_=>v=lv
 | 6,v,_=>v=fv
 | 7,v,w=>∃oa c,v=.slice oa l'.length c∧w.ownsRow B 49 6 v l'.length (acs l')
 | 8,v,_=>v=.pointer (some p)
 | _,_,_=>True
theorem Zbj (g6:Nat) (p:Addr) (lv fv:Value) (B:Nat) (l':List Ac):StK (K28 g6 p lv fv B l'):=fun i v w w' h hb=>by
 match i with
 | 0 | 1 | 2 | 3 | 4 | 5 | 6 | 8=>exact h
 | 7 =>
  obtain ⟨oa,c,h1,h2⟩:=h;exact ⟨oa,c,h1,Zx h2 hb lr_⟩
 | _+9=>trivial
theorem Zgn {W:World} {en:Ending} {o:Option Fd} (h:Zep W en o):∃a0 a1 a2 oa n c a4 a5 b,en=.returned (.tuple #[.agg #[.int .i64 a0,.int .i64 a1,.int .i64 a2,.slice oa n c,.int .i64 a4,.int .i64 a5],.bool b]) ∧
 ∀(W':World) (gd:Nat),(∀v r,Rin W v r→Rin W' v r)→Blk W' gd 90 #[.int .i64 a0,.int .i64 a1,.int .i64 a2,.slice oa n c,.int .i64 a4,.int .i64 a5]→FB W' gd b o:=by
 cases o with
 | none =>
  obtain ⟨m0,m1,m2,oa,n,c,m4,m5,e⟩:=h;exact ⟨m0,m1,m2,oa,n,c,m4,m5,false,e,fun W' gd _ hg=>⟨rfl,m0,m1,m2,oa,n,c,m4,m5,hg⟩⟩
 | some f =>
  obtain ⟨v,e,u,e2,hr⟩:=h;obtain ⟨oa,n,c,e3⟩:=Zdm hr;subst e2 e3;exact ⟨_,_,_,oa,n,c,_,_,true,e,fun W' gd hb hg=>⟨rfl,oa,n,c,hg,hb _ _ hr⟩⟩
theorem Zkx {P:Pl} {i:Nat} {l:List Ac} (h:P.on[i]? = some l):evP P i=l:=by
 unfold evP;rw [List.getElem?_append_left (gs_ h).1,h];rfl
theorem Zky {P:Pl}:evP P P.on.length=P.ms:=by
 unfold evP;rw [List.getElem?_append_right lr_,Nat.sub_self];rfl
theorem Zhw {W:World} {B gp:Nat} {P:Pl} {og ov ot oo om:Option Addr} {cg cv ct co cm:Nat} {us:List Value} {u0 u1 u2 u3 u4:Value} (hg:W.ownsRow B 4 1 (.slice og P.gh.length cg) P.gh.length (ZZ P.gh)) (hv:W.ownsRow B 51 3 (.slice ov P.vs.length cv) P.vs.length (vrs P.vs)) (ht:W.ownsRow B 3 1 (.slice ot P.ts.length ct) P.ts.length (Zm P.ts))
 (ho:W.ownsRow B 26 1 (.slice oo P.on.length co) P.on.length us) (hu:∀(i:Nat) (l:List Ac),P.on[i]? = some l→∃u,us[i]? = some u∧W.ownsRow B 49 6 u l.length (acs l)) (hm:W.ownsRow B 49 6 (.slice om P.ms.length cm) P.ms.length (acs P.ms)) (hb:Blk W gp 28 #[u0,u1,u2,u3,u4]) (hl:gp<B) :
 ∃go,RS (((((W.setCell ⟨gp,0,none⟩ (.slice og P.gh.length cg)).setCell ⟨gp,1,none⟩ (.slice ov P.vs.length cv)).setCell ⟨gp,2,none⟩ (.slice ot P.ts.length ct)).setCell ⟨gp,3,none⟩ (.slice oo P.on.length co)).setCell ⟨gp,4,none⟩ (.slice om P.ms.length cm)) B gp P (evP P) og ov ot om cg cv ct cm go co oo us:=by
 have hgo:∃go,0<P.on.length→oo=some ⟨go,0,none⟩:=by
  by_cases h0:0<P.on.length
  · obtain ⟨g,cap,e,_⟩:=Zam ho h0;injection e with e1 e2 e3;exact ⟨g,fun _=>e1⟩
  · exact ⟨0,fun h=>absurd h h0⟩
 obtain ⟨go,hgo⟩:=hgo
 have h5:∀ {t:TypeId} {sz n:Nat} {v:Value} {xs:List Value},W.ownsRow B t sz v n xs→(((((W.setCell ⟨gp,0,none⟩ (.slice og P.gh.length cg)).setCell ⟨gp,1,none⟩ (.slice ov P.vs.length cv)).setCell ⟨gp,2,none⟩ (.slice ot P.ts.length ct)).setCell ⟨gp,3,none⟩ (.slice oo P.on.length co)).setCell ⟨gp,4,none⟩ (.slice om P.ms.length cm)).ownsRow B t sz v n xs:=fun h=>by
  have hn:=Zbn h hl;exact ZA (p:=⟨gp,4,none⟩) (ZA (p:=⟨gp,3,none⟩) (ZA (p:=⟨gp,2,none⟩) (ZA (p:=⟨gp,1,none⟩) (ZA (p:=⟨gp,0,none⟩) h hn _) hn _) hn _) hn _) hn _
 refine ⟨go,h5 hg,h5 hv,h5 ht,h5 ho,hgo,fun i hi=>?_,by rw [Zky];exact h5 hm,?_,hl⟩
 · obtain ⟨l,hl9⟩:∃l,P.on[i]? = some l:=⟨_,ge_ hi⟩;obtain ⟨u,h1,h2⟩:=hu i l hl9;exact ⟨u,h1,by rw [Zkx hl9];exact h5 h2⟩
 · rw [Zky];have h9:=((((hb.set_ 0 (.slice og P.gh.length cg)).set_ 1 (.slice ov P.vs.length cv)).set_ 2 (.slice ot P.ts.length ct)).set_ 3 (.slice oo P.on.length co)).set_ 4 (.slice om P.ms.length cm);exact h9
def ZcQ (w w':World) (en:Ending) (P:Pl) (R:Nat→List Ac):Prop :=
 if checkV P=0 then ∃(g v t o m:Value) (us:List Value),en=.returned (.tuple #[.agg #[g,v,t,o,m],.int .i64 0])∧w'.ownsRow w.heap.size 4 1 g P.gh.length (ZZ P.gh)∧w'.ownsRow w.heap.size 51 3 v P.vs.length (vrs P.vs)∧w'.ownsRow w.heap.size 3 1 t P.ts.length (Zm P.ts) ∧
  w'.ownsRow w.heap.size 26 1 o P.on.length us∧(∀i,i<P.on.length→∃u,us[i]? = some u∧w'.ownsRow w.heap.size 49 6 u (R i).length (acs (R i)))∧w'.ownsRow w.heap.size 49 6 m (R P.on.length).length (acs (R P.on.length))
 else en=.returned (.tuple #[.agg #[.slice none 0 0,.slice none 0 0,.slice none 0 0,.slice none 0 0,.slice none 0 0],.int .i64 71])
def LkR (P:Pl) (R:Nat→List Ac) (k:Nat):Nat→List Ac:=fun i=>if i<k then R i else evP P i
theorem Zld {P:Pl} {R:Nat→List Ac} {k:Nat}:upd (LkR P R k) k (R k)=LkR P R (k+1):=by
 funext i;unfold upd LkR
 by_cases h:i=k
 · subst h;rw [if_pos rfl,if_pos (Nat.lt_succ_self _)]
 · rw [if_neg h]
   by_cases h2:i<k
   · rw [if_pos h2,if_pos (by omega)]
   · rw [if_neg h2,if_neg (by omega)]
theorem Zlc {P:Pl} {R:Nat→List Ac} {k:Nat}:upd (LkR P R k) k (evP P k)=LkR P R k:=by
 have h:LkR P R k k=evP P k:=by unfold LkR;rw [if_neg (Nat.lt_irrefl _)]
 rw [←h];exact ZkS _ _
theorem ZaR {W:World} {g:Nat} {t:TypeId} {a b c d e:Value} (h:Blk W g t #[a,b,c,d,e]):W.cell? ⟨g,0,none⟩=some a∧W.cell? ⟨g,1,none⟩=some b∧W.cell? ⟨g,2,none⟩=some c∧W.cell? ⟨g,3,none⟩=some d∧W.cell? ⟨g,4,none⟩=some e∧g<W.heap.size :=
 ⟨by rw [h.cell];rfl,by rw [h.cell];rfl,by rw [h.cell];rfl,by rw [h.cell];rfl,by rw [h.cell];rfl,h.lt⟩
theorem Zgs {P:Pl} (h:¬checkV P=0):checkV P=71:=by
 unfold checkV at h ⊢;split
 · next h2=>rw [if_pos h2] at h;exact absurd rfl h
 · rfl
theorem Zh4 {W:World} {g gp:Nat} {t:TypeId} {cs:Array Value} {v0 v1 v2 v3 v4:Value} (h:Blk W g t cs) (hne:g≠gp):Blk (((((W.setCell ⟨gp,0,none⟩ v0).setCell ⟨gp,1,none⟩ v1).setCell ⟨gp,2,none⟩ v2).setCell ⟨gp,3,none⟩ v3).setCell ⟨gp,4,none⟩ v4) g t cs :=
 ((((h.far (p:=⟨gp,0,none⟩) hne v0).far (p:=⟨gp,1,none⟩) hne v1).far (p:=⟨gp,2,none⟩) hne v2).far (p:=⟨gp,3,none⟩) hne v3).far (p:=⟨gp,4,none⟩) hne v4
theorem ZcD {a W:World} {B gp:Nat} {v0 v1 v2 v3 v4:Value} (h:Below B a W) (hg:B≤gp):Below B a (((((W.setCell ⟨gp,0,none⟩ v0).setCell ⟨gp,1,none⟩ v1).setCell ⟨gp,2,none⟩ v2).setCell ⟨gp,3,none⟩ v3).setCell ⟨gp,4,none⟩ v4) :=
 Zf (Zf (Zf (Zf (Zf h hg) hg) hg) hg) hg
structure RunI (w W:World) (gp gr B Be no ge ce NE:Nat) (P:Pl) (L:Nat→List Ac) (og ov ot:Option Addr) (cg cv ct go co:Nat) (oo:Option Addr):Prop where
 s:RSx W B gp P L og ov ot cg cv ct go co oo
 e:W.ownsRow Be 88 2 (.slice (some ⟨ge,0,none⟩) NE ce) NE (evs oo no gp)
 r:Blk W gr 28 #[.slice none 0 0,.slice none 0 0,.slice none 0 0,.slice none 0 0,.slice none 0 0]
 b:Below gp w W
 z:Be≤W.heap.size
section
variable {w W W':World} {gp gr B Be no ge ce NE:Nat} {P:Pl} {L:Nat→List Ac} {og ov ot:Option Addr} {cg cv ct go co:Nat} {oo:Option Addr}
theorem RunI.below (h:RunI w W gp gr B Be no ge ce NE P L og ov ot cg cv ct go co oo) (hb:Below W.heap.size W W') (hg:gp≤W.heap.size):RunI w W' gp gr B Be no ge ce NE P L og ov ot cg cv ct go co oo:=by
 obtain ⟨⟨om,cm,us,h1⟩,h2,h3,h4,h5⟩:=h;exact ⟨⟨om,cm,us,h1.below hb⟩,Zx h2 hb lr_,h3.below hb h3.lt,h4.trans (hb.mono hg),Nat.le_trans h5 hb.size⟩
theorem RunI.gpl (h:RunI w W gp gr B Be no ge ce NE P L og ov ot cg cv ct go co oo):gp≤W.heap.size:=by
 obtain ⟨⟨om,cm,us,h1⟩,_⟩:=h;exact Nat.le_of_lt h1.b.lt
theorem RunI.only (h:RunI w W gp gr B Be no ge ce NE P L og ov ot cg cv ct go co oo) {gd:Nat} {cs:Array Value} (hd:Blk W gd 90 cs) (ho:Only (fun k=>k=gd) W W') (hg:gp≤gd):RunI w W' gp gr B Be no ge ce NE P L og ov ot cg cv ct go co oo:=by
 obtain ⟨⟨om,cm,us,h1⟩,h2,h3,h4,h5⟩:=h;have hn:∀ {t:TypeId} {b sz n:Nat} {v:Value} {xs:List Value},W.ownsRow b t sz v n xs→t≠90→W'.ownsRow b t sz v n xs:=fun h hne=>ZaG h ho (fun k hk e=>ZX h hd hne (by rw [←e];exact hk))
 refine ⟨⟨om,cm,us,⟨hn h1.g (by decide),hn h1.v (by decide),hn h1.t (by decide),hn h1.o (by decide),h1.oe,fun i hi=>?_,hn h1.m (by decide),h1.b.only ho (Blk.ne_ h1.b hd (by decide)),h1.l⟩⟩,hn h2 (by decide),h3.only ho (Blk.ne_ h3 hd (by decide)),?_,Nat.le_trans h5 ho.size⟩
 · obtain ⟨u,a,b⟩:=h1.u i hi;exact ⟨u,a,hn b (by decide)⟩
 · exact h4.trans (ho.below (B:=gp) (fun k hk=>by rw [hk];exact hg) (Nat.le_of_lt h1.b.lt))
theorem RunI.put (h:RunI w W gp gr B Be no ge ce NE P L og ov ot cg cv ct go co oo) {k:Nat} (hk:k≤P.on.length) {p:Addr} (hp:p=(if k<P.on.length then ⟨go,k,none⟩ else ⟨gp,4,none⟩)) (hpe:p.block<Be) (hpg:gp≤p.block) (hpr:gr≠p.block) {l:List Ac} {oa:Option Addr} {c:Nat} (hl:W.ownsRow B 49 6 (.slice oa l.length c) l.length (acs l)) :
 RunI w (W.setCell p (.slice oa l.length c)) gp gr B Be no ge ce NE P (upd L k l) og ov ot cg cv ct go co oo:=by
 obtain ⟨⟨om,cm,us,h1⟩,h2,h3,h4,h5⟩:=h;obtain ⟨om',cm',us',h6⟩:=h1.put hk hl;rw [←hp] at h6;refine ⟨⟨om',cm',us',h6⟩,ZA h2 (fun e=>by have h9:Be≤p.block:=(h2.lt _ e).1;omega) _,h3.far hpr _,Zf h4 hpg,by simpa [World.setCell] using h5⟩
theorem RunI.get (h:RunI w W gp gr B Be no ge ce NE P L og ov ot cg cv ct go co oo) {k:Nat} (hk:k≤P.on.length):∃p oa c,evQ oo P.on.length gp k=some p∧p.block<W.heap.size∧W.frozen? p=false∧W.cell? p=some (.slice oa (L k).length c)∧W.ownsRow B 49 6 (.slice oa (L k).length c) (L k).length (acs (L k))∧p=(if k<P.on.length then ⟨go,k,none⟩ else ⟨gp,4,none⟩):=by
 obtain ⟨⟨om,cm,us,h1⟩,_⟩:=h;exact h1.get hk
theorem Zex {t:TypeId} {b n c:Nat} {oa:Option Addr} {l:List Ac} (h:W.ownsRow b t 6 (.slice oa n c) n (acs l)):n=l.length∧Src W oa l.length (acs l)∧l.length≤c∧c≤maxLen:=by
 have hl:l.length=n:=by have:=h.1;rw [ZbG] at this;omega
 subst hl;refine ⟨rfl,Zak h,ZeV h,?_⟩;rcases h.2 with ⟨e,_⟩ | ⟨g',cap,cur,e,_,_,_,h2,_⟩
 · injection e with _ _ e;subst e;decide
 · injection e with _ _ e;subst e;exact h2
end
theorem RunTo.next {n:Nat} {l l':List Ac} {f:Fd} (h:RunTo n l l') (hf:Z6 l=some f):∃m,n=m+1∧EvOk l∧DnOk l f∧RunTo m (ZY l f) l':=by
 cases h with
 | stop _ h9=>rw [hf] at h9;cases h9
 | step h1 h2 h3 h4 =>
  rw [hf] at h2;injection h2 with h2;subst h2;exact ⟨_,rfl,h1,h3,h4⟩
theorem ZhE {l:List Ac} {f:Fd} (h:Z6 l=some f):0<l.length:=by
 rcases Nat.eq_zero_or_pos l.length with h0 | h0
 · have:=List.eq_nil_of_length_eq_zero h0;subst this
   cases h
 · exact h0
theorem Zl7 {α : Type} (f:Nat→α) (i:Nat) (x y:α):upd (upd f i x) i y=upd f i y:=by
 funext j;unfold upd;split <;> rfl
theorem Zap {W:World} {B gr sz n:Nat} {t:TypeId} {v:Value} {xs:List Value} {v0 v1 v2 v3 v4:Value} (h:W.ownsRow B t sz v n xs) (hg:gr<B):(((((W.setCell ⟨gr,0,none⟩ v0).setCell ⟨gr,1,none⟩ v1).setCell ⟨gr,2,none⟩ v2).setCell ⟨gr,3,none⟩ v3).setCell ⟨gr,4,none⟩ v4).ownsRow B t sz v n xs:=by
 have hn:=Zbn h hg;exact ZA (p:=⟨gr,4,none⟩) (ZA (p:=⟨gr,3,none⟩) (ZA (p:=⟨gr,2,none⟩) (ZA (p:=⟨gr,1,none⟩) (ZA (p:=⟨gr,0,none⟩) h hn _) hn _) hn _) hn _) hn _
theorem Zmd {W:World} {g:Nat} {t:TypeId} {u0 u1 u2 u3 u4 u5:Value} (h:Blk W g t #[u0,u1,u2,u3,u4,u5]) (v0 v1 v2 v3 v4 v5:Value):Blk ((((((W.setCell ⟨g,0,none⟩ v0).setCell ⟨g,1,none⟩ v1).setCell ⟨g,2,none⟩ v2).setCell ⟨g,3,none⟩ v3).setCell ⟨g,4,none⟩ v4).setCell ⟨g,5,none⟩ v5) g t #[v0,v1,v2,v3,v4,v5]:=by
 have h9:=(((((h.set_ 0 v0).set_ 1 v1).set_ 2 v2).set_ 3 v3).set_ 4 v4).set_ 5 v5;exact h9
theorem Zi1 (w:World) (q:PlV) (P:Pl) (rs:List (Option Addr×Nat)) (h:PlMem w q P rs) (hbig:∀l ∈ P.on++[P.ms],l.length≤4398046511104) (R:Nat→List Ac) (N:Nat→Nat)
 (hok:checkV P=0→(P.gh.length≤16∧P.vs.length≤16∧P.ts.length≤4∧P.on.length≤16∧∀l ∈ P.on++[P.ms],l.length≤131072)∧∀k,k≤P.on.length→RunTo (N k) (evP P k) (R k)) :
 Calls Try.prog 33 #[q.val] w fun en w'=>ZcQ w w' en P R∧Below w.heap.size w w':=by
 have HB0:=Za (((Below.refl w.heap.size w).alloc lr_ (.cells #[.slice q.ga q.gl q.gc,.slice q.va q.vl q.vc,.slice q.ta q.tl q.tc,.slice q.oa q.ol q.oc,.slice q.ma q.ml q.mc] 28)).alloc (by simp) (.cells #[.slice none 0 0,.slice none 0 0,.slice none 0 0,.slice none 0 0,.slice none 0 0] 28));have HP0:=Za (show Blk ((w.alloc (.cells #[.slice q.ga q.gl q.gc,.slice q.va q.vl q.vc,.slice q.ta q.tl q.tc,.slice q.oa q.ol q.oc,.slice q.ma q.ml q.mc] 28)).alloc (.cells #[.slice none 0 0,.slice none 0 0,.slice none 0 0,.slice none 0 0,.slice none 0 0] 28)) w.heap.size 28 #[.slice q.ga q.gl q.gc,.slice q.va q.vl q.vc,.slice q.ta q.tl q.tc,.slice q.oa q.ol q.oc,.slice q.ma q.ml q.mc] from (Blk.new w 28 #[.slice q.ga q.gl q.gc,.slice q.va q.vl q.vc,.slice q.ta q.tl q.tc,.slice q.oa q.ol q.oc,.slice q.ma q.ml q.mc]).alloc _);have HR0:=Za (show Blk ((w.alloc (.cells #[.slice q.ga q.gl q.gc,.slice q.va q.vl q.vc,.slice q.ta q.tl q.tc,.slice q.oa q.ol q.oc,.slice q.ma q.ml q.mc] 28)).alloc (.cells #[.slice none 0 0,.slice none 0 0,.slice none 0 0,.slice none 0 0,.slice none 0 0] 28)) (w.heap.size+1) 28 #[.slice none 0 0,.slice none 0 0,.slice none 0 0,.slice none 0 0,.slice none 0 0] from by have h9:=Blk.new (w.alloc (.cells #[.slice q.ga q.gl q.gc,.slice q.va q.vl q.vc,.slice q.ta q.tl q.tc,.slice q.oa q.ol q.oc,.slice q.ma q.ml q.mc] 28)) 28 #[.slice none 0 0,.slice none 0 0,.slice none 0 0,.slice none 0 0,.slice none 0 0];rwa [show (w.alloc (.cells #[.slice q.ga q.gl q.gc,.slice q.va q.vl q.vc,.slice q.ta q.tl q.tc,.slice q.oa q.ol q.oc,.slice q.ma q.ml q.mc] 28)).heap.size=w.heap.size+1 by simp] at h9);have HM:=Za (h.below HB0.out);have HOK:=Za hok;have HRES:=Za (show Try.f33.results=#[.cell 2 28,.tmp 3] by rfl);have hck:=Zgr ((w.alloc (.cells #[.slice q.ga q.gl q.gc,.slice q.va q.vl q.vc,.slice q.ta q.tl q.tc,.slice q.oa q.ol q.oc,.slice q.ma q.ml q.mc] 28)).alloc (.cells #[.slice none 0 0,.slice none 0 0,.slice none 0 0,.slice none 0 0,.slice none 0 0] 28)) q P rs HM.out hbig;simp only [PlV.val] at hck ⊢;have HCK:=Za hck;have HOL:=Za h.ol;clear h hck hok hbig;go_enter Try.func33,Try.ntmps33;go_upto_region 1 with fail;generalize ((w.alloc (.cells #[.slice q.ga q.gl q.gc,.slice q.va q.vl q.vc,.slice q.ta q.tl q.tc,.slice q.oa q.ol q.oc,.slice q.ma q.ml q.mc] 28)).alloc (.cells #[.slice none 0 0,.slice none 0 0,.slice none 0 0,.slice none 0 0,.slice none 0 0] 28))=W1 at HB0 HP0 HR0 HM HCK ⊢;obtain ⟨gp,hgp⟩:∃g,w.heap.size=g:=⟨_,rfl⟩;obtain ⟨gr,hgr⟩:∃g,w.heap.size+1=g:=⟨_,rfl⟩;rw [hgr] at HR0;rw [hgp] at HP0 hgr;simp only [hgr,hgp];have HG:=Za hgp;have HGR:=Za hgr;clear hgp hgr;have hgl:=HP0.out.lt;have b0:W1.cell? ⟨gp,0,none⟩=_:=HP0.out.cell 0;have b1:W1.cell? ⟨gp,1,none⟩=_:=HP0.out.cell 1;have b2:W1.cell? ⟨gp,2,none⟩=_:=HP0.out.cell 2;have b3:W1.cell? ⟨gp,3,none⟩=_:=HP0.out.cell 3;have b4:W1.cell? ⟨gp,4,none⟩=_:=HP0.out.cell 4;simp only [List.getElem?_toArray,List.getElem?_cons_succ,List.getElem?_cons_zero] at b0 b1 b2 b3 b4;have HNE:=Za (show gr≠gp∧gp≠gr by have:=HGR.out;omega)
 by_cases hc0:checkV P=0
 · have hcb:((checkV P:Int) != 0)=false:=by simp [hc0]
   obtain ⟨⟨k1,k2,k3,k4,k5⟩,hrt⟩:=HOK.out hc0;have HRT:=Za hrt;have HC0:=Za hc0;have HTW:=Za (fun (W:World) (hb:Below W1.heap.size W1 W)=>ZjI P W q rs (HM.out.below hb) k1 k2 k3 k4 k5);simp only [PlV.val] at HTW;have HK4:=Za k4;clear hc0 hrt k1 k2 k3 k4 k5;go_upto_region 4 with (go_at_call 37;with_reducible refine HCK.out.mono ?_;rintro en W2 ⟨rfl,hb2⟩;have HB2:=Za hb2;clear hb2);have HTW2:=Za (HTW.out W2 HB2.out);have HP2:=Za (HP0.out.below HB2.out HP0.out.lt);have c0:=(HB2.out.cell (p:=⟨gp,0,none⟩) hgl).trans b0;have c1:=(HB2.out.cell (p:=⟨gp,1,none⟩) hgl).trans b1;have c2:=(HB2.out.cell (p:=⟨gp,2,none⟩) hgl).trans b2;have c3:=(HB2.out.cell (p:=⟨gp,3,none⟩) hgl).trans b3;have c4:=(HB2.out.cell (p:=⟨gp,4,none⟩) hgl).trans b4;clear b0 b1 b2 b3 b4;go_upto_region 5 with (go_at_call 60;with_reducible refine HTW2.out.mono ?_;rintro en W3 ⟨vg,vv,vt,vo,vm,us,rfl,eg,ev,et,eo,eu,em,hb3⟩;obtain ⟨og,cg,e1⟩:=Zg eg;obtain ⟨ov,cv,e2⟩:=Zg ev;obtain ⟨ot,ct,e3⟩:=Zg et;obtain ⟨oo,co,e4⟩:=Zg eo;obtain ⟨om,cm,e5⟩:=Zg em;subst e1 e2 e3 e4 e5;have HP3:=Za (HP2.out.below hb3 HP2.out.lt);have HB3:=Za hb3;have HRS0:=Za (Zhw eg ev et eo eu em HP3.out HP2.out.lt);clear eg ev et eo eu em hb3 c0 c1 c2 c3 c4;obtain ⟨c0,c1,c2,c3,c4,_⟩:=ZaR HP3.out;have z0:=HP3.out.frozen 0;have z1:=HP3.out.frozen 1;have z2:=HP3.out.frozen 2;have z3:=HP3.out.frozen 3;have z4:=HP3.out.frozen 4);obtain ⟨go,hrs⟩:=HRS0.out;have HRS:=Za hrs;have HR4:=Za (Zh4 (gp:=gp) (v0:=.slice og P.gh.length cg) (v1:=.slice ov P.vs.length cv) (v2:=.slice ot P.ts.length ct) (v3:=.slice oo P.on.length co) (v4:=.slice om P.ms.length cm) ((HR0.out.below HB2.out HR0.out.lt).below HB3.out (HR0.out.below HB2.out HR0.out.lt).lt) HNE.out.1);have HB4:=Za (ZcD (gp:=gp) (v0:=.slice og P.gh.length cg) (v1:=.slice ov P.vs.length cv) (v2:=.slice ot P.ts.length ct) (v3:=.slice oo P.on.length co) (v4:=.slice om P.ms.length cm) (show Below gp w W3 by rw [←HG.out];exact HB0.out.trans ((HB2.out.trans (HB3.out.mono HB2.out.size)).mono HB0.out.size)) (Nat.le_refl gp));have HBB:=Za (show gp<W2.heap.size∧gr<W2.heap.size∧gp≤W2.heap.size from ⟨HP2.out.lt,(HR0.out.below HB2.out HR0.out.lt).lt,Nat.le_of_lt HP2.out.lt⟩);have HBZ:=Za (show W2.heap.size≤(((((W3.setCell ⟨gp,0,none⟩ (.slice og P.gh.length cg)).setCell ⟨gp,1,none⟩ (.slice ov P.vs.length cv)).setCell ⟨gp,2,none⟩ (.slice ot P.ts.length ct)).setCell ⟨gp,3,none⟩ (.slice oo P.on.length co)).setCell ⟨gp,4,none⟩ (.slice om P.ms.length cm)).heap.size by simp [World.setCell];exact HB3.out.size);clear hrs c0 c1 c2 c3 c4 z0 z1 z2 z3 z4 HRS0;generalize (((((W3.setCell ⟨gp,0,none⟩ (.slice og P.gh.length cg)).setCell ⟨gp,1,none⟩ (.slice ov P.vs.length cv)).setCell ⟨gp,2,none⟩ (.slice ot P.ts.length ct)).setCell ⟨gp,3,none⟩ (.slice oo P.on.length co)).setCell ⟨gp,4,none⟩ (.slice om P.ms.length cm))=W4 at HRS HR4 HB4 HBZ ⊢;obtain ⟨B,hB⟩:∃B,W2.heap.size=B:=⟨_,rfl⟩;rw [hB] at HRS HBB HBZ;clear hB;obtain ⟨no,hnn⟩:∃n,P.on.length=n:=⟨_,rfl⟩;have HNN:=Za hnn;have hb3:=HRS.out.b.cell 3;simp only [List.getElem?_toArray,List.getElem?_cons_succ,List.getElem?_cons_zero] at hb3;rw [hnn] at hb3;have hno:no≤131072:=by have:=HK4.out;omega
   have HNO:=Za hno;have hev:=Zfv W4 gp no co oo hb3 HRS.out.b.lt (fun h0=>⟨_,HRS.out.oe (by rw [HNN.out];exact h0)⟩) hno;obtain ⟨NE,hNE⟩:∃n,no+1=n:=⟨_,rfl⟩;have HNE2:=Za hNE;rw [hNE] at hev;have HEV:=Za hev;have HGO:=Za (show 0<no→go<W4.heap.size from fun h0=>(HRS.out.o.lt go (by rw [HRS.out.oe (by rw [HNN.out];exact h0)];rfl)).2);clear hb3 hno hev hnn hNE;go_upto_region 6 with (go_at_call 51;with_reducible refine HEV.out.mono ?_;rintro en W5 ⟨v5,rfl,ho5,hb5⟩;obtain ⟨ge,ce,e5,hce,hcm5⟩:=Zam ho5 (by have:=HNE2.out;omega);subst e5;have HO5:=Za ho5;have HB5:=Za hb5;clear ho5 hb5);obtain ⟨Be,hBe⟩:∃b,W4.heap.size=b:=⟨_,rfl⟩;have HI0:=Za (show RunI w W5 gp gr B Be no ge ce NE P (LkR P R 0) og ov ot cg cv ct go co oo from ⟨⟨_,_,_,by have h9:=HRS.out.below HB5.out;have e:LkR P R 0=evP P:=(by funext i;unfold LkR;rw [if_neg (Nat.not_lt_zero i)]);rw [e];exact h9⟩,by rw [←hBe];exact HO5.out,HR4.out.below HB5.out HR4.out.lt,HB4.out.trans (HB5.out.mono (by have:=HRS.out.b.lt;omega)),by rw [←hBe];exact HB5.out.size⟩);rw [hBe] at HGO;have HGB:=Za (show gp<Be∧gr<Be∧B≤Be from ⟨by rw [←hBe];exact HRS.out.b.lt,by rw [←hBe];exact HR4.out.lt,by rw [←hBe];exact HBZ.out⟩);clear hBe;go_loopw [19] (fun t19 W=>∃k:Nat,t19=.int .i64 (k:Int)∧k≤NE∧RunI w W gp gr B Be no ge ce NE P (LkR P R k) og ov ot cg cv ct go co oo) (fun t19 _=>NE - (intOf t19).toNat)
   case atStart=>exact ⟨0,rfl,Nat.zero_le _,HI0.out⟩
   case round =>
    obtain ⟨k,rfl,hk,hi⟩:=hrel;have HI:=Za hi;clear hi;have hq:=IntWalk.i64_in ((k:Int)+1) (by have:=HNO.out;have:=HNE2.out;omega);obtain ⟨wo,hwo⟩:∃wo:World,wo=wr:=⟨_,rfl⟩;subst hwo
    by_cases hkn:k<NE
    · have hkI:(k:Int)<(NE:Int):=by omega
      have hk0:(0:Int)≤(k:Int):=by omega
      have HKN:=Za (show k<NE∧k≤P.on.length by have:=HNE2.out;have:=HNN.out;omega);obtain ⟨adq,e9,hgb,hcells⟩:=Zak HI.out.e (by omega);injection e9 with e9;subst e9;obtain ⟨g0,g1⟩:=Zgo oo no gp k (by have:=HNE2.out;omega);have c0:=hcells _ _ g0;have c1:=hcells _ _ g1;rw [show (⟨ge,0,none⟩:Addr).add (k*2)=⟨ge,k*2,none⟩ by cases k <;> simp [Addr.add]] at c0;rw [show (⟨ge,0,none⟩:Addr).add (k*2+1)=⟨ge,k*2+1,none⟩ by simp [Addr.add]] at c1;obtain ⟨p,oa,c,hp,hpb,hpf,hpc,hpo,hpe⟩:=HI.out.get HKN.out.2;rw [HNN.out] at hp;rw [hp] at c1;have hL:LkR P R k k=evP P k:=by unfold LkR;rw [if_neg (Nat.lt_irrefl _)]
      rw [hL] at hpc hpo
      have hpl:p.block<Be∧gp≤p.block∧gr≠p.block:=by
       have h1:=HGB.out;have h2:=HNE.out;rw [hpe,HNN.out];split
       · next h0 =>
         have h3:=HGO.out (by omega);have h4:=HBB.out;have hge:B≤go:=(by obtain ⟨⟨om9,cm9,us9,h9⟩,_⟩:=HI.out;exact (h9.o.lt go (by rw [h9.oe (by rw [HNN.out];omega)];rfl)).1);show go<Be∧gp≤go∧gr≠go;omega
       · show gp<Be∧gp≤gp∧gr≠gp;omega
      have HPL:=Za hpl;have HPE:=Za hpe;have HRTK:=Za (HRT.out k HKN.out.2);obtain ⟨n9,hn9⟩:∃n:Int,(if k<no then (k:Int) else -1)=n:=⟨_,rfl⟩;rw [hn9] at c0;obtain ⟨NL,hNL⟩:∃n,(evP P k).length=n:=⟨_,rfl⟩;have HBX:=Za ((Below.refl wo.heap.size wo).alloc lr_ (.cells #[.int .i64 n9,.pointer (some p)] 88));obtain ⟨_,hsr,hlc,hlm⟩:=Zex hpo;have hevk:=HRTK.out.ok;have hle:=ZfS (wo.alloc (.cells #[.int .i64 n9,.pointer (some p)] 88)) oa c (evP P k) (hsr.below HBX.out) hlc hlm hevk.s hevk.le hevk.k;rw [hNL] at hle hpc;have HLE:=Za hle;have hpc2:=(HBX.out.cell (p:=p) hpb).trans hpc;have hbx0:(wo.alloc (.cells #[.int .i64 n9,.pointer (some p)] 88)).cell? ⟨wo.heap.size,1,none⟩=some (.pointer (some p)):=(Blk.new wo 88 #[.int .i64 n9,.pointer (some p)]).cell 1;have HBX0:=Za (Blk.new wo 88 #[.int .i64 n9,.pointer (some p)]);have HI6:=Za (HI.out.below HBX.out HI.out.gpl);clear hkn hgb hcells g0 g1 hp hsr hlc hlm hevk hn9 hNL hle hL hpl hpe hpo hpc;go_upto_block 2 with (go_at_call 52;with_reducible refine HLE.out.mono ?_;rintro en W7 ⟨hr7,hb7⟩;obtain ⟨a0,a1,a2,oa7,n7,c7,a4,a5,b7,e7,hfb⟩:=Zgn hr7;subst e7;have HFB0:=Za hfb;have HB7:=Za hb7;have HI7:=Za (HI6.out.below hb7 HI6.out.gpl);have HX7:=Za (HBX0.out.below hb7 HBX0.out.lt);clear hr7 hb7 hfb);have hbe:=HI7.out.z;have HCE:=Za (show RunI w (W7.alloc (.cells #[.int .i64 a0,.int .i64 a1,.int .i64 a2,.slice oa7 n7 c7,.int .i64 a4,.int .i64 a5] 90)) gp gr B Be no ge ce NE P (LkR P R k) og ov ot cg cv ct go co oo from HI7.out.below ((Below.refl _ W7).alloc lr_ _) HI7.out.gpl);have HX8:=Za (HX7.out.alloc (.cells #[.int .i64 a0,.int .i64 a1,.int .i64 a2,.slice oa7 n7 c7,.int .i64 a4,.int .i64 a5] 90));have HFB:=Za (HFB0.out (W7.alloc (.cells #[.int .i64 a0,.int .i64 a1,.int .i64 a2,.slice oa7 n7 c7,.int .i64 a4,.int .i64 a5] 90)) W7.heap.size (fun v r hr=>hr.below ((Below.refl _ W7).alloc lr_ _)) (Blk.new W7 90 _));obtain ⟨g6,hg6⟩:∃g,wo.heap.size=g:=⟨_,rfl⟩;rw [hg6] at HX8;simp only [hg6];have HG6:=Za (show Be≤g6 by rw [←hg6];exact HI.out.z);obtain ⟨gd0,hgd0⟩:∃g,W7.heap.size=g:=⟨_,rfl⟩;rw [hgd0] at HFB hbe;simp only [hgd0];have HGD:=Za hbe;generalize W7.alloc (.cells #[.int .i64 a0,.int .i64 a1,.int .i64 a2,.slice oa7 n7 c7,.int .i64 a4,.int .i64 a5] 90)=W8 at HCE HX8 HFB ⊢;clear HX7 HI7 HB7 HFB0 HBX0 HI6 HBX HLE hpc2 hbx0 hpb hpf c0 c1 hg6 hgd0 hbe HI;go_wp2_with fail;go_loopg [7,8] (N k) (fun n t7 t8 W=>∃(l:List Ac) (gd:Nat) (b:Bool),t7=.pointer (some ⟨gd,0,none⟩)∧t8=.bool b∧RunTo n l (R k)∧RunI w W gp gr B Be no ge ce NE P (upd (LkR P R k) k l) og ov ot cg cv ct go co oo∧Blk W g6 88 #[.int .i64 n9,.pointer (some p)]∧FB W gd b (Z6 l)∧Be≤gd)
      case atStart=>exact ⟨evP P k,gd0,b7,rfl,rfl,HRTK.out,by rw [Zlc];exact HCE.out,HX8.out,HFB.out,HGD.out⟩
      case round =>
       obtain ⟨l,gd,b,rfl,rfl,hrt,hi,hx,hfb,hgd⟩:=hrel;have HI:=Za hi;have HX:=Za hx;have HGD2:=Za hgd;have HRT2:=Za hrt;have HFB2:=Za hfb;clear hi hx hgd hrt hfb HCE HX8 HFB HGD HRTK
       cases hlf:Z6 l with
       | none =>
        rw [hlf] at HFB2;have hb9:=HFB2.out.1;subst hb9;have HLE:=Za (show l=R k by cases HRT2.out with | stop _ _=>rfl | step _ h9 _ _=>rw [hlf] at h9;cases h9);clear hlf;go_wp2_with fail;go_roundw
        case rel=>exact ⟨k+1,by go_num,by have:=HKN.out;omega,by have h9:=HI.out;rw [HLE.out,Zld] at h9;exact h9⟩
        case measure =>
         simp only [intOf];have:=HKN.out;omega
       | some f =>
        rw [hlf] at HFB2;obtain ⟨hb9,oaf,nf,cf,hbd,hrin⟩:=HFB2.out;subst hb9;obtain ⟨m9,hm9,hevl,hdn,hrt2⟩:=HRT2.out.next hlf;have hlpos:=ZhE hlf;obtain ⟨p2,oa,c,hp2,hpb,hpf,hpc,hpo,hpe⟩:=HI.out.get HKN.out.2;rw [ZbN] at hpc hpo;have hpp:p2=p:=by rw [hpe,HPE.out]
        subst hpp;obtain ⟨gl,cl,e8,hcl,hclm⟩:=Zam hpo hlpos;injection e8 with e8a e8b e8c;subst e8a;subst e8c;have hro0:=Zex hpo;have HRO:=Za (Ro.mk hro0.2.1 hro0.2.2.1 hro0.2.2.2);have HM9:=Za hm9;have HRT3:=Za hrt2;have HBD:=Za hbd;have HRIN:=Za hrin;have HZ:=Za (show B≤wr.heap.size from Nat.le_trans HGB.out.2.2 HI.out.z);have HDN:=Za (fun (W:World) (hb:Below wr.heap.size wr W)=>ZkD W ⟨gl,0,none⟩ c l f (.agg #[.int .i64 (f.what:Int),.int .i64 (f.frm:Int),.int .i64 (f.to_:Int),.slice oaf nf cf,.int .i64 f.parts,.int .i64 f.gone]) (HRO.out.below hb) hevl.s hevl.le ⟨_,rfl,HRIN.out.below hb⟩ hdn);obtain ⟨LN,hLN⟩:∃n,l.length=n:=⟨_,rfl⟩;rw [hLN] at HDN hpc;have c6:wr.cell? ⟨g6,1,none⟩=some (.pointer (some p2)):=HX.out.cell 1;have hg6l:=HX.out.lt;obtain ⟨d0,d1,d2,d3,d4,d5,hgdl⟩:=Zk hbd;have HPB:=Za hpb;have HPC:=Za hpc;have HPL2:=Za HPL.out;clear hm9 hevl hdn hrt2 hlpos hp2 hpb hpf hpo hpe hro0 hLN hbd hrin hlf hcl hclm HRT2 HFB2 HRO hpc;go_upto_region 11 with fail;refine ZB (JE 9 wr (K28 g6 p2 (.slice (some ⟨gl,0,none⟩) LN c) (.agg #[.int .i64 (f.what:Int),.int .i64 (f.frm:Int),.int .i64 (f.to_:Int),.slice oaf nf cf,.int .i64 f.parts,.int .i64 f.gone]) B (ZY l f)) (fun w9=>∃(W:World) (oa:Option Addr) (c:Nat),Below wr.heap.size wr W∧W.ownsRow B 49 6 (.slice oa (ZY l f).length c) (ZY l f).length (acs (ZY l f))∧w9=W.setCell p2 (.slice oa (ZY l f).length c))) [[],[0],[],[2],[2,3],[2,3,4],[],[2,3,4,5,6],[0,1,2,3,4,5,6,7],[0,1,2,3,4,5,6,7,8]] (by kernel_rfl) (by kernel_rfl) (fun vs=>JE.start vs (fun i v w hi=>by match i,hi with | _+10,_=>trivial)) (fun vs=>?_);refine Zb rfl (fun S w9 hS hA hD hJ R hR=>?_) (fun K hK=>?_)
        · have h9:S 9=false:=hD 9 (by decide) (by decide);have hbj:=hJ.b h9;go_simp;exact hR _ _ (hJ.step (by decide) (Zbj _ _ _ _ _ _) h9 br_ rfl)
        go_simp;refine hK _ ?_;clear hK K;refine Zb rfl (fun S w9 hS hA hD hJ R hR=>?_) (fun K hK=>?_)
        · have h9:S 9=false:=hD 9 (by decide) (by decide);have hbj:=hJ.b h9;have k0:vs 0=_:=hJ.k h9 0 (hA 0 (by decide));have z0:=(hbj.cell (p:=⟨g6,1,none⟩) hg6l).trans c6;simp only [k0];go_simp;exact hR _ _ (hJ.step (by decide) (Zbj _ _ _ _ _ _) h9 br_ rfl)
        go_simp;refine hK _ ?_;clear hK K;refine Zb rfl (fun S w9 hS hA hD hJ R hR=>?_) (fun K hK=>?_)
        · have h9:S 9=false:=hD 9 (by decide) (by decide);have hbj:=hJ.b h9;go_simp;exact hR _ _ (hJ.step (by decide) (Zbj _ _ _ _ _ _) h9 br_ rfl)
        go_simp;refine hK _ ?_;clear hK K;refine Zb rfl (fun S w9 hS hA hD hJ R hR=>?_) (fun K hK=>?_)
        · have h9:S 9=false:=hD 9 (by decide) (by decide);have hbj:=hJ.b h9;have k2:vs 2=_:=hJ.k h9 2 (hA 2 (by decide));have z0:=(hbj.cell (p:=⟨g6,1,none⟩) hg6l).trans c6;simp only [k2];go_simp;exact hR _ _ (hJ.step (by decide) (Zbj _ _ _ _ _ _) h9 br_ rfl)
        go_simp;refine hK _ ?_;clear hK K;refine Zb rfl (fun S w9 hS hA hD hJ R hR=>?_) (fun K hK=>?_)
        · have h9:S 9=false:=hD 9 (by decide) (by decide);have hbj:=hJ.b h9;have k3:vs 3=_:=hJ.k h9 3 (hA 3 (by decide));simp only [k3];go_simp;exact hR _ _ (hJ.step (by decide) (Zbj _ _ _ _ _ _) h9 br_ rfl)
        go_simp;refine hK _ ?_;clear hK K;refine Zb rfl (fun S w9 hS hA hD hJ R hR=>?_) (fun K hK=>?_)
        · have h9:S 9=false:=hD 9 (by decide) (by decide);have hbj:=hJ.b h9;have k4:vs 4=_:=hJ.k h9 4 (hA 4 (by decide));have z0:=(hbj.cell (p:=p2) HPB.out).trans HPC.out;simp only [k4];go_simp;exact hR _ _ (hJ.step (by decide) (Zbj _ _ _ _ _ _) h9 br_ rfl)
        go_simp;refine hK _ ?_;clear hK K;refine Zb rfl (fun S w9 hS hA hD hJ R hR=>?_) (fun K hK=>?_)
        · have h9:S 9=false:=hD 9 (by decide) (by decide);have hbj:=hJ.b h9;have z0:=(hbj.cell (p:=⟨gd,0,none⟩) hgdl).trans d0;have z1:=(hbj.cell (p:=⟨gd,1,none⟩) hgdl).trans d1;have z2:=(hbj.cell (p:=⟨gd,2,none⟩) hgdl).trans d2;have z3:=(hbj.cell (p:=⟨gd,3,none⟩) hgdl).trans d3;have z4:=(hbj.cell (p:=⟨gd,4,none⟩) hgdl).trans d4;have z5:=(hbj.cell (p:=⟨gd,5,none⟩) hgdl).trans d5;go_simp;exact hR _ _ (hJ.step (by decide) (Zbj _ _ _ _ _ _) h9 br_ rfl)
        go_simp;refine hK _ ?_;clear hK K;refine Zb rfl (fun S w9 hS hA hD hJ R hR=>?_) (fun K hK=>?_)
        · have h9:S 9=false:=hD 9 (by decide) (by decide);have hbj:=hJ.b h9;have k5:vs 5=_:=hJ.k h9 5 (hA 5 (by decide));have k6:vs 6=_:=hJ.k h9 6 (hA 6 (by decide));have hfin:=(HDN.out w9 hbj).mono (fun en w'' hh=>show ∃u,en=.returned u∧R u w'' from (by obtain ⟨u,e1,e2,e3⟩:=hh;obtain ⟨oa9,c9,e4⟩:=Zg e2;exact ⟨u,e1,hR _ _ (hJ.step (by decide) (Zbj _ _ _ _ _ _) h9 e3 ⟨oa9,c9,e4,Zv e2 (Nat.le_trans HZ.out hbj.size)⟩)⟩));refine ZbZ 61 #[.tmp 45,.tmp 46] #[26,90] (by rfl) Try.f61 Try.func61 (by decide) (by unfold Try.f61;simp) #[.slice (some ⟨gl,0,none⟩) LN c,(.agg #[.int .i64 (f.what:Int),.int .i64 (f.frm:Int),.int .i64 (f.to_:Int),.slice oaf nf cf,.int .i64 f.parts,.int .i64 f.gone])] ?_ hfin;simp [Act.eval,Act.put,k5,k6]
        go_simp;refine hK _ ?_;clear hK K;refine Zb rfl (fun S w9 hS hA hD hJ R hR=>?_) (fun K hK=>?_)
        · have h9:S 9=false:=hD 9 (by decide) (by decide);have hbj:=hJ.b h9;have k1:vs 1=_:=hJ.k h9 1 (hA 1 (by decide));simp only [k1];go_simp;exact hR _ _ (hJ.step (by decide) (Zbj _ _ _ _ _ _) h9 br_ rfl)
        go_simp;refine hK _ ?_;clear hK K;refine Zb rfl (fun S w9 hS hA hD hJ R hR=>?_) (fun K hK=>?_)
        · have h9:S 9=false:=hS;have hbj:=hJ.b h9;have k8:vs 8=_:=hJ.k h9 8 (hA 8 (by decide));obtain ⟨oa9,c9,k7,how9⟩:=hJ.k h9 7 (hA 7 (by decide));rw [k7] at how9;have hfin:=hR undef _ (JE.last (m:=9) ⟨w9,oa9,c9,hbj,how9,rfl⟩);obtain ⟨p3,oa3,c3,_,_,hpf3,hpc3,_,hpe3⟩:=(HI.out.below hbj HI.out.gpl).get HKN.out.2;have hpp:p3=p2:=by rw [hpe3,HPE.out]
          subst hpp;clear hpe3;simp only [k7,k8];go_simp;exact hfin
        go_simp;refine hK _ ?_;clear hK K;refine Z2 (fun W9 hJ=>?_);obtain ⟨W8b,oa9,c9,hb8,how8,hw9⟩:=hJ.f rfl;clear hJ;have hI9:=(HI.out.below hb8 HI.out.gpl).put HKN.out.2 HPE.out HPL.out.1 HPL.out.2.1 HPL.out.2.2 how8;rw [Zl7] at hI9;have hX9:=(HX.out.below hb8 HX.out.lt).far (p:=p2) (by have:=HPL.out.1;have:=HG6.out;omega) (.slice oa9 (ZY l f).length c9);have hD9:=(HBD.out.below hb8 HBD.out.lt).far (p:=p2) (by have:=HPL.out.1;have:=HGD2.out;omega) (.slice oa9 (ZY l f).length c9);rw [←hw9] at hI9 hX9 hD9;have HI9:=Za hI9;have HX9:=Za hX9;have HD9:=Za hD9;clear hb8 how8 hw9 hI9 hX9 hD9 d0 d1 d2 d3 d4 d5 hgdl c6 hg6l;obtain ⟨d0,d1,d2,d3,d4,d5,hgdl⟩:=Zk HD9.out;go_upto_region 10 with fail;clear d0 d1 d2 d3 d4 d5 hgdl;have HI10:=Za (HI9.out.below ((Below.refl _ W9).alloc lr_ (.cells #[.int .i64 (f.what:Int),.int .i64 (f.frm:Int),.int .i64 (f.to_:Int),.slice oaf nf cf,.int .i64 f.parts,.int .i64 f.gone] 90)) HI9.out.gpl);have HX10:=Za (HX9.out.alloc (.cells #[.int .i64 (f.what:Int),.int .i64 (f.frm:Int),.int .i64 (f.to_:Int),.slice oaf nf cf,.int .i64 f.parts,.int .i64 f.gone] 90));have HD10:=Za (Blk.new W9 90 #[.int .i64 (f.what:Int),.int .i64 (f.frm:Int),.int .i64 (f.to_:Int),.slice oaf nf cf,.int .i64 f.parts,.int .i64 f.gone]);have HG10:=Za (show Be≤W9.heap.size∧g6<W9.heap.size from ⟨HI9.out.z,HX9.out.lt⟩);generalize W9.alloc (.cells #[.int .i64 (f.what:Int),.int .i64 (f.frm:Int),.int .i64 (f.to_:Int),.slice oaf nf cf,.int .i64 f.parts,.int .i64 f.gone] 90)=W10 at HI10 HX10 HD10 ⊢;obtain ⟨gd2,hgd2⟩:∃g,W9.heap.size=g:=⟨_,rfl⟩;rw [hgd2] at HD10 HG10;simp only [hgd2];clear hgd2;obtain ⟨p3,oa3,c3,_,hpb3,hpf3,hpc3,hpo3,hpe3⟩:=HI10.out.get HKN.out.2;have hpp:p3=p2:=by rw [hpe3,HPE.out]
        subst hpp;clear hpe3 hpf3 hpb3;rw [ZbN] at hpc3 hpo3;have hro3:=Zex hpo3;have hev3:=HRT3.out.ok;have hle3:=ZfS W10 oa3 c3 (ZY l f) hro3.2.1 hro3.2.2.1 hro3.2.2.2 hev3.s hev3.le hev3.k;obtain ⟨LD,hLD⟩:∃n,(ZY l f).length=n:=⟨_,rfl⟩;rw [hLD] at hle3 hpc3;have HLE3:=Za hle3;have c6:W10.cell? ⟨g6,1,none⟩=some (.pointer (some p3)):=HX10.out.cell 1;clear hle3 hro3 hev3 hpo3 hLD;go_wp2_with (go_at_call 52;with_reducible refine HLE3.out.mono ?_;rintro en W11 ⟨hr7,hb7⟩;obtain ⟨a0,a1,a2,oa7,n7,c7,a4,a5,b7,e7,hfb⟩:=Zgn hr7;subst e7;have HFB3:=Za hfb;have HI11:=Za (HI10.out.below hb7 HI10.out.gpl);have HX11:=Za (HX10.out.below hb7 HX10.out.lt);have HD11:=Za (HD10.out.below hb7 HD10.out.lt);clear hr7 hb7 hfb;obtain ⟨d0,d1,d2,d3,d4,d5,hgdl⟩:=Zk HD11.out;have z0:=HD11.out.frozen 0;have z1:=HD11.out.frozen 1;have z2:=HD11.out.frozen 2;have z3:=HD11.out.frozen 3;have z4:=HD11.out.frozen 4;have z5:=HD11.out.frozen 5);go_roundg m9
        case measure=>rw [HM9.out];exact Nat.lt_succ_self _
        case rel=>exact ⟨ZY l f,gd2,b7,rfl,rfl,HRT3.out,HI11.out.only HD11.out ZcJ (by have:=HGB.out;have:=HG10.out;omega),HX11.out.only ZcJ (by have:=HG10.out;omega),HFB3.out _ _ (fun v r hr=>Zdy hr HD11.out ZcJ) (Zmd HD11.out _ _ _ _ _ _),HG10.out.1⟩
    · have hkI:¬(k:Int)<(NE:Int):=by omega
      obtain ⟨om9,cm9,us9,hrs9⟩:=HI.out.s;have HRS9:=Za hrs9;have HLK:=Za (show ∀i,i≤P.on.length→LkR P R k i=R i from fun i hi=>by unfold LkR;rw [if_pos (by have:=HNE2.out;have:=HNN.out;omega)]);obtain ⟨y0,y1,y2,y3,y4,_⟩:=ZaR hrs9.b;obtain ⟨s0,s1,s2,s3,s4,_⟩:=ZaR HI.out.r;have sf0:=HI.out.r.frozen 0;have sf1:=HI.out.r.frozen 1;have sf2:=HI.out.r.frozen 2;have sf3:=HI.out.r.frozen 3;have sf4:=HI.out.r.frozen 4;have hn1:=HNE.out.1;have hn2:=HNE.out.2;rw [HNN.out] at y3 y4;obtain ⟨NM,hNM⟩:∃n,(LkR P R k no).length=n:=⟨_,rfl⟩;rw [hNM] at y4;have HNM:=Za hNM;clear hrs9 hNM hkn;go_wp2_with fail;refine bodyPost_ret (v:=.tuple #[.agg #[.slice og P.gh.length cg,.slice ov P.vs.length cv,.slice ot P.ts.length ct,.slice oo no co,.slice om9 NM cm9],.int .i64 0]) ?_ rfl ?_
      · simp only [results,HRES.out];go_simp
      have hgrB:gr<B:=HBB.out.2.1;have hdown:w.heap.size≤B:=by rw [HG.out];exact HBB.out.2.2
      have hms:=HRS9.out.m;rw [HNN.out,HNM.out,HLK.out no (by rw [HNN.out];exact lr_)] at hms;have hms2:NM=(R no).length:=by rw [←HNM.out,HLK.out no (by rw [HNN.out];exact lr_)]
      refine ⟨?_,?_⟩
      · unfold ZcQ;rw [if_pos HC0.out];refine ⟨_,_,_,_,_,us9,rfl,Zv (Zap HRS9.out.g hgrB) hdown,Zv (Zap HRS9.out.v hgrB) hdown,Zv (Zap HRS9.out.t hgrB) hdown,?_,fun i hi=>?_,?_⟩
        · have h9:=Zv (Zap (v0:=.slice og P.gh.length cg) (v1:=.slice ov P.vs.length cv) (v2:=.slice ot P.ts.length ct) (v3:=.slice oo no co) (v4:=.slice om9 NM cm9) HRS9.out.o hgrB) hdown;rw [HNN.out] at h9 ⊢;exact h9
        · obtain ⟨u,h1,h2⟩:=HRS9.out.u i hi;rw [HLK.out i (Nat.le_of_lt hi)] at h2;exact ⟨u,h1,Zv (Zap h2 hgrB) hdown⟩
        · rw [HNN.out,←hms2];exact Zv (Zap hms hgrB) hdown
      · have h9:=HI.out.b;rw [HG.out];exact ZcD h9 (by have:=HGR.out;omega)
 · have hcb:((checkV P:Int) != 0)=true:=by simp;omega
   have HE:=Za (show (checkV P:Int)=71 by rw [Zgs hc0];rfl);have HC0:=Za hc0;clear hc0;go_upto_region 3 with (go_at_call 37;with_reducible refine HCK.out.mono ?_;rintro en W2 ⟨rfl,hb2⟩;have HB2:=Za hb2;clear hb2);have HR2:=Za (HR0.out.below HB2.out HR0.out.lt);obtain ⟨s0,s1,s2,s3,s4,hs_⟩:=ZaR HR2.out;have sf0:=HR2.out.frozen 0;have sf1:=HR2.out.frozen 1;have sf2:=HR2.out.frozen 2;have sf3:=HR2.out.frozen 3;have sf4:=HR2.out.frozen 4;go_wp2_with fail;refine bodyPost_ret (v:=.tuple #[.agg #[.slice none 0 0,.slice none 0 0,.slice none 0 0,.slice none 0 0,.slice none 0 0],.int .i64 (checkV P:Int)]) ?_ rfl ?_
   · simp only [results,HRES.out];go_simp
   refine ⟨by unfold ZcQ;rw [if_neg HC0.out,HE.out],?_⟩;have hb9:Below gp w W2:=by rw [←HG.out];exact HB0.out.trans (HB2.out.mono HB0.out.size)
   rw [HG.out];exact Zf (Zf (Zf (Zf (Zf hb9 (by show gp≤gr;have:=HGR.out;omega)) (by show gp≤gr;have:=HGR.out;omega)) (by show gp≤gr;have:=HGR.out;omega)) (by show gp≤gr;have:=HGR.out;omega)) (by show gp≤gr;have:=HGR.out;omega)
end
end Go.Proofs.Ytdpokdcendgfeaa
