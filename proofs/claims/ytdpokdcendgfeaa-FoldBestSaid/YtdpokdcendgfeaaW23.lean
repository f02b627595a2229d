/- Several texts in one: The walk of law 13's Lend. Conditions: those of each. -/
import Derived.Test.YtdpokdcendgfeaaW22
set_option linter.unusedSimpArgs false
set_option linter.unusedVariables false
set_option maxHeartbeats 80000000
set_option maxRecDepth 100000
namespace Go.Proofs.Ytdpokdcendgfeaa
open Go.RowKit
section
attribute [local go_sem] par Zah
theorem LentR.blk {w w':World} {B:Nat} {tE t:TypeId} {sz n cap g gq:Nat} {xs:List Value} {cs:Array Value} (h:LentR w B tE sz g n cap xs) (ho:Only (fun k=>k=gq) w w') (hg:Blk w gq t cs) (ht:tE≠t):LentR w' B tE sz g n cap xs :=
 h.only ho (fun q=>ZX h.o hg ht (by rw [←q];rfl))
theorem LentR.down {w:World} {B B':Nat} {tE:TypeId} {sz n cap g:Nat} {xs:List Value} (h:LentR w B tE sz g n cap xs) (hb:B'≤B):LentR w B' tE sz g n cap xs:=⟨Zv h.o hb,h.c,h.m⟩
theorem vrs_one (l:List Vr):∀u ∈ vrs l,u.oneCell'=true:=fun u hu=>by
 unfold vrs at hu;obtain ⟨x,hx,hux⟩:=List.mem_flatten.1 hu;obtain ⟨v,_,rfl⟩:=List.mem_map.1 hx;simp [Vr.cells] at hux;rcases hux with rfl | rfl | rfl <;> rfl
theorem ZkR (l:List Vr):(vrs l).length=l.length*3:=by
 induction l with
 | nil=>rfl
 | cons x l ih=>simp [vrs,Vr.cells] at ih ⊢;omega
theorem Zjz (l:List Bool):(ZZ l).length=l.length*1:=by simp [ZZ]
theorem bools_one (l:List Bool):∀u ∈ ZZ l,u.oneCell'=true:=fun u hu=>by
 obtain ⟨x,_,rfl⟩:=List.mem_map.1 hu;rfl
def ZaV (B:Nat) (tE:TypeId) (sz n:Nat) (xs:List Value) (v:Value) (w:World):Prop:=∃g c,v=.slice (some ⟨g,0,none⟩) n c∧LentR w B tE sz g n c xs
theorem ZaV.below {B:Nat} {tE:TypeId} {sz n:Nat} {xs:List Value} {v:Value} {w w':World} (h:ZaV B tE sz n xs v w) (hb:Below w.heap.size w w'):ZaV B tE sz n xs v w':=by
 obtain ⟨g,c,e,h1⟩:=h;exact ⟨g,c,e,h1.below hb⟩
theorem ZaV.down {B B':Nat} {tE:TypeId} {sz n:Nat} {xs:List Value} {v:Value} {w:World} (h:ZaV B tE sz n xs v w) (hb:B'≤B):ZaV B' tE sz n xs v w:=by
 obtain ⟨g,c,e,h1⟩:=h;exact ⟨g,c,e,Zv h1.o hb,h1.c,h1.m⟩
theorem ZaV.blk {B:Nat} {tE t:TypeId} {sz n g:Nat} {xs:List Value} {v:Value} {w w':World} {cs:Array Value} (h:ZaV B tE sz n xs v w) (ho:Only (fun k=>k=g) w w') (hg:Blk w g t cs) (ht:tE≠t):ZaV B tE sz n xs v w':=by
 obtain ⟨g2,c,e,h1⟩:=h
 exact ⟨g2,c,e,h1.only ho (fun q=>by
  have h2:=ZX h1.o hg ht
  exact h2 (by rw [←q];rfl))⟩
def K41 (W:World) (pp:Nat) (v1 v4:Value) (nt nm:Nat) (xt xm:List Value) (vs:Nat→Value):Nat→World→Prop
 | 0,_=>vs 0=.pointer (some ⟨pp,2,none⟩)
 | 1,_=>vs 1=v1
 | 2,w=>ZaV W.heap.size 3 1 nt xt (vs 2) w
 | 3,_=>vs 3=.pointer (some ⟨pp,4,none⟩)
 | 4,_=>vs 4=v4
 | 5,w=>ZaV W.heap.size 49 6 nm xm (vs 5) w
 | 6,_=>vs 6=.agg #[.slice none 0 0,.slice none 0 0,vs 2,.slice none 0 0,vs 5]
 | 7,w=>∃g,vs 7=.pointer (some ⟨g,0,none⟩)∧W.heap.size≤g∧∃a0 a1 a2 a3 a4,Blk w g 28 #[a0,a1,a2,a3,a4]
 | 8,w=>∃g,vs 7=.pointer (some ⟨g,0,none⟩)∧W.heap.size≤g∧Blk w g 28 #[.slice none 0 0,.slice none 0 0,vs 2,.slice none 0 0,vs 5]
 | _,_=>True
theorem K41.keep {W w w':World} {pp:Nat} {v1 v4:Value} {nt nm:Nat} {xt xm:List Value} {vs:Nat→Value} {i j:Nat} {u:Value} (h:K41 W pp v1 v4 nt nm xt xm vs i w) (hb:Below w.heap.size w w') (hij:i≠j) (h6:i=6→j≠2∧j≠5) (h8:i≠8):K41 W pp v1 v4 nt nm xt xm (upn vs j u) i w':=by
 match i,h with
 | 0,h=>exact (Zd hij).trans h
 | 1,h=>exact (Zd hij).trans h
 | 2,h =>
  show ZaV _ _ _ _ _ (upn vs j u 2) w';rw [Zd hij];exact ZaV.below h hb
 | 3,h=>exact (Zd hij).trans h
 | 4,h=>exact (Zd hij).trans h
 | 5,h =>
  show ZaV _ _ _ _ _ (upn vs j u 5) w';rw [Zd hij];exact ZaV.below h hb
 | 6,h =>
  show upn vs j u 6=.agg #[.slice none 0 0,.slice none 0 0,upn vs j u 2,.slice none 0 0,upn vs j u 5];rw [Zd hij,Zd (Ne.symm (h6 rfl).1),Zd (Ne.symm (h6 rfl).2)];exact h
 | 7,h =>
  obtain ⟨g,e,h1,a0,a1,a2,a3,a4,h2⟩:=h;exact ⟨g,(Zd hij).trans e,h1,a0,a1,a2,a3,a4,h2.below hb h2.lt⟩
 | 8,_=>exact absurd rfl h8
 | _+9,_=>trivial
theorem ZfO {w:World} {g:Nat} {a0 a1 a2 a3 a4:Value} (h:Blk w g 28 #[a0,a1,a2,a3,a4]) (u0 u1 u2 u3 u4:Value) :
 Blk (((((w.setCell ⟨g,0,none⟩ u0).setCell ⟨g,1,none⟩ u1).setCell ⟨g,2,none⟩ u2).setCell ⟨g,3,none⟩ u3).setCell ⟨g,4,none⟩ u4) g 28 #[u0,u1,u2,u3,u4] ∧
 Only (fun k=>k=g) w (((((w.setCell ⟨g,0,none⟩ u0).setCell ⟨g,1,none⟩ u1).setCell ⟨g,2,none⟩ u2).setCell ⟨g,3,none⟩ u3).setCell ⟨g,4,none⟩ u4):=by
 refine ⟨?_,ZS (ZS (ZS (ZS (ZS (Only.refl _ w) rfl) rfl) rfl) rfl) rfl⟩;have h9:=((((h.set_ 0 u0).set_ 1 u1).set_ 2 u2).set_ 3 u3).set_ 4 u4;exact h9
theorem K41.store {W w:World} {pp:Nat} {v1 v4:Value} {nt nm:Nat} {xt xm:List Value} {S:Nat→Bool} {vs:Nat→Value} (h:JV W (K41 W pp v1 v4 nt nm xt xm) S vs w) (hS:∀i,i<8→S i=true) :
 ∃g,vs 7=.pointer (some ⟨g,0,none⟩)∧(∃a0 a1 a2 a3 a4,Blk w g 28 #[a0,a1,a2,a3,a4]) ∧
  JV W (K41 W pp v1 v4 nt nm xt xm) (upn S 8 true) (upn vs 8 undef) (((((w.setCell ⟨g,0,none⟩ (.slice none 0 0)).setCell ⟨g,1,none⟩ (.slice none 0 0)).setCell ⟨g,2,none⟩ (vs 2)).setCell ⟨g,3,none⟩ (.slice none 0 0)).setCell ⟨g,4,none⟩ (vs 5)):=by
 obtain ⟨g,k7,hg,a0,a1,a2,a3,a4,hblk⟩:=h.k 7 (hS 7 (by decide));have hst:=ZfO hblk (.slice none 0 0) (.slice none 0 0) (vs 2) (.slice none 0 0) (vs 5);refine ⟨g,k7,⟨_,_,_,_,_,hblk⟩,h.step (j:=8) (u:=undef) (h.b.trans (hst.2.below (fun k hk=>by rw [hk];exact hg) h.b.size)) (fun i hij hi hk=>?_) ⟨g,(Zd (by decide)).trans k7,hg,by rw [Zd (by decide),Zd (by decide)];exact hst.1⟩⟩
 match i,hk with
 | 0,hk=>exact (Zd hij).trans hk
 | 1,hk=>exact (Zd hij).trans hk
 | 2,hk =>
  show ZaV _ _ _ _ _ (upn vs 8 undef 2) _;rw [Zd hij];exact ZaV.blk hk hst.2 hblk (by decide)
 | 3,hk=>exact (Zd hij).trans hk
 | 4,hk=>exact (Zd hij).trans hk
 | 5,hk =>
  show ZaV _ _ _ _ _ (upn vs 8 undef 5) _;rw [Zd hij];exact ZaV.blk hk hst.2 hblk (by decide)
 | 6,hk=>exact hk
 | 7,hk=>exact ⟨g,(Zd hij).trans k7,hg,_,_,_,_,_,hst.1⟩
 | 8,_=>exact absurd rfl hij
 | _+9,_=>trivial
structure LpSt (W:World) (B:Nat) (P:Pl) (gm go no i:Nat) (es:List Nat) (us:List Value):Prop where
 o:W.ownsRow B 26 1 (.slice (some ⟨go,0,none⟩) no (no+3)) no us
 l:es.length=i
 r:∀(j:Nat) (l:List Ac),P.on[j]? = some l→j<i→∃e c,es[j]? = some e∧us[j]? = some (.slice (some ⟨e,0,none⟩) l.length c)∧LentR W B 49 6 e l.length c (acs (l++[⟨-77,0,0,0,0,0⟩]))
 ne:∀(j k e:Nat),es[j]? = some e→es[k]? = some e→j=k
 nm:∀e ∈ es,e≠gm
 lt:∀e ∈ es,e<W.heap.size
theorem LpSt.next {W w':World} {B gm go no i e c:Nat} {P:Pl} {es:List Nat} {us:List Value} {l:List Ac} (h:LpSt W B P gm go no i es us) (hgm:gm<W.heap.size) (hl:P.on[i]? = some l) (hi:i<no) (hb:Below W.heap.size W w') (hB:B≤W.heap.size) (hr:LentR w' W.heap.size 49 6 e l.length c (acs (l++[⟨-77,0,0,0,0,0⟩]))) :
 LpSt (w'.setCell ⟨go,i,none⟩ (.slice (some ⟨e,0,none⟩) l.length c)) B P gm go no (i+1) (es++[e]) (us.set i (.slice (some ⟨e,0,none⟩) l.length c)):=by
 have ho:=Zx h.o hb lr_;have he:=hr.lt;have hon:Only (fun k=>k=go) w' (w'.setCell ⟨go,i,none⟩ (.slice (some ⟨e,0,none⟩) l.length c)):=ZS (Only.refl _ _) rfl;have hge:∀ {B2 e2 n2 c2:Nat} {xs2:List Value},LentR w' B2 49 6 e2 n2 c2 xs2→¬e2=go:=fun h2 q=>ZbC h2.o ho (by decide) _ rfl (by rw [q];rfl)
 have husl:us.length=no:=by have:=ho.1;omega
 refine ⟨(World.ownsRow.stored ho i _).1,by rw [List.length_append,h.l];rfl,fun j l' hj hlt=>?_,fun j k e' a b=>?_,fun e' hm=>?_,fun e' hm=>?_⟩
 · by_cases hji:j=i
   · subst hji;rw [hl] at hj;injection hj with hj;subst hj;exact ⟨e,c,by rw [List.getElem?_append_right (by rw [h.l];exact lr_),h.l,Nat.sub_self];rfl,by rw [List.getElem?_set];simp [husl,hi],(hr.down hB).only hon (hge hr)⟩
   · obtain ⟨e',c',a,b,d⟩:=h.r j l' hj (by omega);exact ⟨e',c',by rw [List.getElem?_append_left (gs_ a).1];exact a,by rw [List.getElem?_set,if_neg (by omega)];exact b,(d.below hb).only hon (hge (d.below hb))⟩
 · have hcase:∀q e',(es++[e])[q]? = some e'→(es[q]? = some e'∧e'<W.heap.size)∨(q=i∧e'=e):=fun q e' hq=>by
    by_cases hq2:q<es.length
    · rw [List.getElem?_append_left hq2] at hq;exact .inl ⟨hq,h.lt _ (List.mem_of_getElem? hq)⟩
    · rw [List.getElem?_append_right (by omega)] at hq;have hq3:=(gs_ hq).1;simp at hq3;have:q - es.length=0:=by omega
      rw [this] at hq;injection hq with hq;exact .inr ⟨by have:=h.l;omega,hq.symm⟩
   rcases hcase j e' a with ⟨a1,a2⟩ | ⟨a1,a2⟩ <;> rcases hcase k e' b with ⟨b1,b2⟩ | ⟨b1,b2⟩
   · exact h.ne j k e' a1 b1
   · omega
   · omega
   · omega
 · rcases List.mem_append.1 hm with hm | hm
   · exact h.nm _ hm
   · simp at hm;omega
 · show e'<(w'.setCell _ _).heap.size;have hs:w'.heap.size≤(w'.setCell ⟨go,i,none⟩ (.slice (some ⟨e,0,none⟩) l.length c)).heap.size:=hon.size;rcases List.mem_append.1 hm with hm | hm
   · have:=h.lt _ hm;have:=hb.size;omega
   · simp at hm;omega
theorem Zm4 {w:World} {q:PlV} {P:Pl} {rs:List (Option Addr×Nat)} (h:PlMem w q P rs) {i:Nat} {l:List Ac} (hi:P.on[i]? = some l):∃oa c,Src w oa l.length (acs l)∧∃ad,q.oa=some ad∧ad.block<w.heap.size∧w.cell? (ad.add i)=some (.slice oa l.length c):=by
 have hil:=(gs_ hi).1;have hrl:=h.e.1;simp only [List.length_append,List.length_cons,List.length_nil] at hrl;obtain ⟨⟨oa,c⟩,hr⟩:∃r,rs[i]? = some r:=⟨_,ge_ (by omega)⟩;have h1:=h.e.2 i oa c l (by rw [List.getElem?_append_left (by omega)];exact hr) (by rw [List.getElem?_append_left hil];exact hi);obtain ⟨ad,e,h2,h3⟩:=h.o (by omega);exact ⟨oa,c,h1.1,ad,e,h2,h3 i _ (ZaS rs P.on i _ _ hr hi)⟩
structure LentQ (w:World) (B gg gv gt go gm cg cv ct co cm:Nat) (es:List Nat) (us:List Value) (P:Pl):Prop where
 g:LentR w B 4 1 gg P.gh.length cg (ZZ P.gh++[.bool true])
 v:LentR w B 51 3 gv P.vs.length cv (vrs P.vs++[.int .i64 (-77),.int .i64 0,.int .i64 0])
 t:LentR w B 3 1 gt P.ts.length ct (Zm (P.ts++[-77]))
 m:LentR w B 49 6 gm P.ms.length cm (acs (P.ms++[⟨-77,0,0,0,0,0⟩]))
 o:w.ownsRow B 26 1 (.slice (some ⟨go,0,none⟩) P.on.length co) P.on.length us
 l:es.length=P.on.length
 r:∀(j:Nat) (l:List Ac),P.on[j]? = some l→∃e c,es[j]? = some e∧us[j]? = some (.slice (some ⟨e,0,none⟩) l.length c)∧LentR w B 49 6 e l.length c (acs (l++[⟨-77,0,0,0,0,0⟩]))
 ne:∀(j k e:Nat),es[j]? = some e→es[k]? = some e→j=k
 nm:∀e ∈ es,e≠gm
def K44 (gp gq n:Nat) (sv:Value) (vs:Nat→Value):Nat→Prop
 | 0=>vs 0=.pointer (some ⟨gp,3,none⟩)
 | 1=>vs 1=sv
 | 2=>vs 2=.int .i64 (n:Int)
 | 3=>vs 3=.int .i64 ((n:Int)+3)
 | 5=>vs 5=.pointer (some ⟨gp,3,none⟩)
 | 6=>vs 6=sv
 | 7=>vs 7=.int .i64 (n:Int)
 | 9=>vs 9=.pointer (some ⟨gq,3,none⟩)
 | _=>True
theorem K44.keep {gp gq n:Nat} {sv:Value} {vs:Nat→Value} {i j:Nat} {u:Value} (h:K44 gp gq n sv vs i) (hij:i≠j):K44 gp gq n sv (upn vs j u) i:=by
 match i,h with
 | 0,h | 1,h | 2,h | 3,h | 5,h | 6,h | 7,h | 9,h=>exact (Zd hij).trans h
 | 4,_ | 8,_=>trivial
 | _+10,_=>trivial
theorem Zif {o:Oper} {a:Act} {w:World} {R:Value→World→Prop} (s x:Operand) (t t2:TypeId) (hop:o.op=Op.call { callee:=Callee.builtin Builtin.append,args:=#[s,x],argTypes:=#[t,t2] })
 (v vx:Value) (hs:a.eval s=v) (hx:a.eval x=vx) {u:Value} {w':World} (hrun:(Builtin.append_ #[t,t2] o.type #[v,vx]).run Try.prog w=.ok u w') (hR:R u w'):par Try.prog o a w R:=by
 unfold par;simp [execOp,hop,Go.resolve,invoke,builtin,hs,hx,hrun,Result.andThen,Zah];exact hR
def K42 (gp gq fld n:Nat) (sv:Value) (vs:Nat→Value):Nat→Prop
 | 0=>vs 0=.pointer (some ⟨gp,fld,none⟩)
 | 1=>vs 1=sv
 | 2=>vs 2=.int .i64 (n:Int)
 | 3=>vs 3=.int .i64 ((n:Int)+3)
 | 5=>vs 5=.pointer (some ⟨gp,fld,none⟩)
 | 6=>vs 6=sv
 | 10=>vs 10=.pointer (some ⟨gp,fld,none⟩)
 | 11=>vs 11=sv
 | 12=>vs 12=.int .i64 (n:Int)
 | 13=>∃g c,vs 9=.slice (some ⟨g,0,none⟩) (n+1) c∧vs 13=.slice (some ⟨g,0,none⟩) n c
 | 14=>vs 14=.pointer (some ⟨gq,fld,none⟩)
 | _=>True
theorem K42.keep {gp gq fld n:Nat} {sv:Value} {vs:Nat→Value} {i j:Nat} {u:Value} (h:K42 gp gq fld n sv vs i) (hij:i≠j) (h9:i=13→j≠9):K42 gp gq fld n sv (upn vs j u) i:=by
 match i,h with
 | 0,h=>exact (Zd hij).trans h
 | 1,h=>exact (Zd hij).trans h
 | 2,h=>exact (Zd hij).trans h
 | 3,h=>exact (Zd hij).trans h
 | 4,_=>trivial
 | 5,h=>exact (Zd hij).trans h
 | 6,h=>exact (Zd hij).trans h
 | 7,_=>trivial
 | 8,_=>trivial
 | 9,_=>trivial
 | 10,h=>exact (Zd hij).trans h
 | 11,h=>exact (Zd hij).trans h
 | 12,h=>exact (Zd hij).trans h
 | 13,h =>
  obtain ⟨g,c,e1,e2⟩:=h;exact ⟨g,c,(Zd (Ne.symm (h9 rfl))).trans e1,(Zd hij).trans e2⟩
 | 14,h=>exact (Zd hij).trans h
 | 15,_=>trivial
 | _+16,_=>trivial
def K43 (gp gq fld n:Nat) (sv:Value) (vs:Nat→Value):Nat→Prop
 | 0=>vs 0=.pointer (some ⟨gp,fld,none⟩)
 | 1=>vs 1=sv
 | 2=>vs 2=.int .i64 (n:Int)
 | 3=>vs 3=.int .i64 ((n:Int)+3)
 | 5=>vs 5=.pointer (some ⟨gp,fld,none⟩)
 | 6=>vs 6=sv
 | 8=>vs 8=.agg #[.int .i64 (-77),.int .i64 0,.int .i64 0]
 | 11=>vs 11=.pointer (some ⟨gp,fld,none⟩)
 | 12=>vs 12=sv
 | 13=>vs 13=.int .i64 (n:Int)
 | 14=>∃g c,vs 10=.slice (some ⟨g,0,none⟩) (n+1) c∧vs 14=.slice (some ⟨g,0,none⟩) n c
 | 15=>vs 15=.pointer (some ⟨gq,fld,none⟩)
 | _=>True
theorem K43.keep {gp gq fld n:Nat} {sv:Value} {vs:Nat→Value} {i j:Nat} {u:Value} (h:K43 gp gq fld n sv vs i) (hij:i≠j) (h9:i=14→j≠10):K43 gp gq fld n sv (upn vs j u) i:=by
 match i,h with
 | 0,h=>exact (Zd hij).trans h
 | 1,h=>exact (Zd hij).trans h
 | 2,h=>exact (Zd hij).trans h
 | 3,h=>exact (Zd hij).trans h
 | 4,_=>trivial
 | 5,h=>exact (Zd hij).trans h
 | 6,h=>exact (Zd hij).trans h
 | 7,_=>trivial
 | 8,h=>exact (Zd hij).trans h
 | 9,_=>trivial
 | 10,_=>trivial
 | 11,h=>exact (Zd hij).trans h
 | 12,h=>exact (Zd hij).trans h
 | 13,h=>exact (Zd hij).trans h
 | 14,h =>
  obtain ⟨g,c,e1,e2⟩:=h;exact ⟨g,c,(Zd (Ne.symm (h9 rfl))).trans e1,(Zd hij).trans e2⟩
 | 15,h=>exact (Zd hij).trans h
 | 16,_=>trivial
 | _+17,_=>trivial
theorem ZhA {B g n c sz:Nat} {W:World} {xs:List Value} {t:TypeId} (h:W.ownsRow B t sz (.slice (some ⟨g,0,none⟩) n c) n xs) (i:Nat) (x:Value) (hx:xs[i]? = some x):W.cell? ⟨g,i,none⟩=some x:=by
 have hn:0<n:=by
  rcases Nat.eq_zero_or_pos n with q | q
  · subst q;have h1:=h.1;have:=(gs_ hx).1;omega
  · exact q
 obtain ⟨ad,e,_,h2⟩:=Zak h hn;injection e with e;subst e;have h3:=h2 i x hx;rwa [show (⟨g,0,none⟩:Addr).add i=⟨g,i,none⟩ by unfold Addr.add;split <;> simp_all] at h3
theorem ZM {W:World} {g:Nat} {t:TypeId} {a b c d e:Value} (h:Blk W g t #[a,b,c,d,e]):W.cell? ⟨g,0,none⟩=some a∧W.cell? ⟨g,1,none⟩=some b∧W.cell? ⟨g,2,none⟩=some c∧W.cell? ⟨g,3,none⟩=some d∧W.cell? ⟨g,4,none⟩=some e∧g<W.heap.size :=
 ⟨by rw [h.cell];rfl,by rw [h.cell];rfl,by rw [h.cell];rfl,by rw [h.cell];rfl,by rw [h.cell];rfl,h.lt⟩
theorem ZmC (w:World) (q:PlV) (P:Pl) (rs:List (Option Addr×Nat)) (h:PlMem w q P rs) (hsz:P.gh.length≤100∧P.vs.length≤100∧P.ts.length≤100∧P.on.length≤100) (hrow:∀l ∈ P.on++[P.ms],l.length≤262144) :
 Calls Try.prog 27 #[q.val] w fun en w'=>∃gg gv gt go gm cg cv ct co cm es us,en=.returned (.agg #[.slice (some ⟨gg,0,none⟩) P.gh.length cg,.slice (some ⟨gv,0,none⟩) P.vs.length cv,.slice (some ⟨gt,0,none⟩) P.ts.length ct,.slice (some ⟨go,0,none⟩) P.on.length co,.slice (some ⟨gm,0,none⟩) P.ms.length cm])∧LentQ w' w.heap.size gg gv gt go gm cg cv ct co cm es us P∧Below w.heap.size w w':=by
 have HRES:=Za (show Try.f27.results=#[.cell 2 28] by rfl);have HM:=Za h;have HROW:=Za hrow;obtain ⟨e1,e2,e3,e4,e5,_,_,_,_,_,_⟩:=h;obtain ⟨ga,va,ta,oa,ma,gl,gc,vl,vc,tl,tc,ol,oc,ml,mc⟩:=q;simp only at e1 e2 e3 e4 e5;subst e1 e2 e3 e4 e5;simp only [PlV.val];have HTS:=Za (show Src w ta P.ts.length (Zm P.ts) from HM.out.t);have HMS:=Za (show Src w ma P.ms.length (acs P.ms) from (HM.out.e.2 P.on.length ma mc P.ms (by rw [List.getElem?_append_right (by have:=HM.out.e.1;simp at this;omega)];have:=HM.out.e.1;simp at this;simp [this]) (by rw [List.getElem?_append_right lr_];simp)).1);have hml:=hrow P.ms (by simp);obtain ⟨XT,hXT⟩:∃X,Zm (P.ts++[-77])=X:=⟨_,rfl⟩;obtain ⟨XM,hXM⟩:∃X,acs (P.ms++[⟨-77,0,0,0,0,0⟩])=X:=⟨_,rfl⟩;have HLI0:=fun (W:World) (hb:Below w.heap.size w W)=>ZmD W ta tc P.ts (HTS.out.below hb) (by omega)
 have HLA0:=fun (W:World) (hb:Below w.heap.size w W)=>ZiE W ma mc P.ms (HMS.out.below hb) (by omega)
 rw [hXT] at HLI0;rw [hXM] at HLA0;obtain ⟨ng,hng⟩:∃n,P.gh.length=n:=⟨_,rfl⟩;obtain ⟨nv,hnv⟩:∃n,P.vs.length=n:=⟨_,rfl⟩;obtain ⟨nt,hnt⟩:∃n,P.ts.length=n:=⟨_,rfl⟩;obtain ⟨no,hno⟩:∃n,P.on.length=n:=⟨_,rfl⟩;obtain ⟨nm,hnm⟩:∃n,P.ms.length=n:=⟨_,rfl⟩;rw [hng,hnv,hnt,hno] at hsz;rw [hnt] at HLI0;rw [hnm] at HLA0 hml;rw [hng,hnv,hnt,hno,hnm];have HNG:=Za hng;have HNV:=Za hnv;have HNT:=Za hnt;have HNO:=Za hno;have HNM:=Za hnm;have HXT:=Za hXT;have HXM:=Za hXM;have HLI1:=Za HLI0;have HLA1:=Za HLA0;have HB1:=Za ((Below.refl w.heap.size w).alloc lr_ (.cells #[.slice ga ng gc,.slice va nv vc,.slice ta nt tc,.slice oa no oc,.slice ma nm mc] 28));have HP1:=Za (Blk.new w 28 #[.slice ga ng gc,.slice va nv vc,.slice ta nt tc,.slice oa no oc,.slice ma nm mc]);obtain ⟨hs1,hs2,hs3,hs4⟩:=hsz;clear hng hnv hnt hno hnm hXT hXM HLI0 HLA0 hrow;go_enter Try.func27,Try.ntmps27;go_upto_region 1 with fail;have hsz1:(w.alloc (.cells #[.slice ga ng gc,.slice va nv vc,.slice ta nt tc,.slice oa no oc,.slice ma nm mc] 28)).heap.size=w.heap.size+1:=Array.size_push _;generalize w.alloc (.cells #[.slice ga ng gc,.slice va nv vc,.slice ta nt tc,.slice oa no oc,.slice ma nm mc] 28)=W1 at HB1 HP1 hsz1 ⊢;obtain ⟨gp,hgp⟩:∃g,w.heap.size=g:=⟨_,rfl⟩;rw [hgp] at HP1 hsz1
 try simp only [hgp]
 have HG:=Za hgp;clear hgp;have HB2:=Za (HB1.out.alloc HB1.out.size (.cells #[.slice none 0 0,.slice none 0 0,.slice none 0 0,.slice none 0 0,.slice none 0 0] 28));have HP2:=Za (HP1.out.alloc (.cells #[.slice none 0 0,.slice none 0 0,.slice none 0 0,.slice none 0 0,.slice none 0 0] 28));have HR2:=Za (Blk.new W1 28 #[.slice none 0 0,.slice none 0 0,.slice none 0 0,.slice none 0 0,.slice none 0 0]);generalize W1.alloc (.cells #[.slice none 0 0,.slice none 0 0,.slice none 0 0,.slice none 0 0,.slice none 0 0] 28)=W2 at HB2 HP2 HR2 ⊢;obtain ⟨g2,hg2⟩:∃g,gp+1=g:=⟨_,rfl⟩;rw [hsz1,hg2] at HR2
 try simp only [hsz1]
 simp only [hg2];have HG2:=Za hg2;clear hg2 hsz1;have HPX:=Za (fun (W:World) (hb:Below W2.heap.size W2 W)=>And.intro (show W.cell? ⟨gp,2,none⟩=some (.slice ta nt tc) from (ZM (HP2.out.below hb HP2.out.lt)).2.2.1) (show W.cell? ⟨gp,4,none⟩=some (.slice ma nm mc) from (ZM (HP2.out.below hb HP2.out.lt)).2.2.2.2.1));have HLI:=Za (fun (W:World) (hb:Below W2.heap.size W2 W)=>HLI1.out W (HB2.out.trans (hb.mono HB2.out.size)));have HLA:=Za (fun (W:World) (hb:Below W2.heap.size W2 W)=>HLA1.out W (HB2.out.trans (hb.mono HB2.out.size)));refine ZB (JV W2 (K41 W2 gp (.slice ta nt tc) (.slice ma nm mc) nt nm XT XM)) [[],[0],[0,1],[],[3],[3,4],[0,1,2,3,4,5],[],[0,1,2,3,4,5,6,7]] (by kernel_rfl) (by kernel_rfl) (fun vs=>JV.start vs (fun vs i w hi=>by match i,hi with | _+9,_=>trivial)) (fun vs=>?_);refine Zb rfl (fun S w9 hS hA hD hJ R hR=>?_) (fun K hK=>?_)
 · go_simp;exact hR _ _ (hJ.step hJ.b (fun i hij hi hk=>K41.keep hk br_ hij (fun e=>by subst e;exact ⟨by decide,by decide⟩) (fun e=>by subst e;have h8:=hD 8 (by decide) (by decide);rw [h8] at hi;cases hi)) Ze)
 go_simp;refine hK _ ?_;clear hK K;refine Zb rfl (fun S w9 hS hA hD hJ R hR=>?_) (fun K hK=>?_)
 · have k0:vs 0=_:=hJ.k 0 (hA 0 (by decide));have z0:=(HPX.out w9 hJ.b).1;simp only [k0];go_simp;exact hR _ _ (hJ.step hJ.b (fun i hij hi hk=>K41.keep hk br_ hij (fun e=>by subst e;exact ⟨by decide,by decide⟩) (fun e=>by subst e;have h8:=hD 8 (by decide) (by decide);rw [h8] at hi;cases hi)) Ze)
 go_simp;refine hK _ ?_;clear hK K;refine Zb rfl (fun S w9 hS hA hD hJ R hR=>?_) (fun K hK=>?_)
 · have k1:vs 1=_:=hJ.k 1 (hA 1 (by decide));have hfin:=(HLI.out w9 hJ.b).mono (fun en w'' hh=>show ∃u,en=.returned u∧R u w'' from (by obtain ⟨g,cap,e1,e2,e3⟩:=hh;exact ⟨_,e1,hR _ _ (hJ.step (hJ.b.trans (e3.mono hJ.b.size)) (fun i hij hi hk=>K41.keep hk (e3) hij (fun e=>by subst e;have h6:=hD 6 (by decide) (by decide);rw [h6] at hi;cases hi) (fun e=>by subst e;have h8:=hD 8 (by decide) (by decide);rw [h8] at hi;cases hi)) (by show ZaV _ _ _ _ _ (upn vs 2 _ 2) _;rw [Ze];exact ⟨g,cap,rfl,Zv e2.o hJ.b.size,e2.c,e2.m⟩))⟩));refine ZbZ 49 #[.tmp 6] #[24] (by rfl) Try.f49 Try.func49 (by decide) (by unfold Try.f49;simp) #[.slice ta nt tc] ?_ hfin;simp [Act.eval,Act.put,k1]
 go_simp;refine hK _ ?_;clear hK K;refine Zb rfl (fun S w9 hS hA hD hJ R hR=>?_) (fun K hK=>?_)
 · go_simp;exact hR _ _ (hJ.step hJ.b (fun i hij hi hk=>K41.keep hk br_ hij (fun e=>by subst e;exact ⟨by decide,by decide⟩) (fun e=>by subst e;have h8:=hD 8 (by decide) (by decide);rw [h8] at hi;cases hi)) Ze)
 go_simp;refine hK _ ?_;clear hK K;refine Zb rfl (fun S w9 hS hA hD hJ R hR=>?_) (fun K hK=>?_)
 · have k3:vs 3=_:=hJ.k 3 (hA 3 (by decide));have z0:=(HPX.out w9 hJ.b).2;simp only [k3];go_simp;exact hR _ _ (hJ.step hJ.b (fun i hij hi hk=>K41.keep hk br_ hij (fun e=>by subst e;exact ⟨by decide,by decide⟩) (fun e=>by subst e;have h8:=hD 8 (by decide) (by decide);rw [h8] at hi;cases hi)) Ze)
 go_simp;refine hK _ ?_;clear hK K;refine Zb rfl (fun S w9 hS hA hD hJ R hR=>?_) (fun K hK=>?_)
 · have k4:vs 4=_:=hJ.k 4 (hA 4 (by decide));have hfin:=(HLA.out w9 hJ.b).mono (fun en w'' hh=>show ∃u,en=.returned u∧R u w'' from (by obtain ⟨g,cap,e1,e2,e3⟩:=hh;exact ⟨_,e1,hR _ _ (hJ.step (hJ.b.trans (e3.mono hJ.b.size)) (fun i hij hi hk=>K41.keep hk (e3) hij (fun e=>by subst e;have h6:=hD 6 (by decide) (by decide);rw [h6] at hi;cases hi) (fun e=>by subst e;have h8:=hD 8 (by decide) (by decide);rw [h8] at hi;cases hi)) (by show ZaV _ _ _ _ _ (upn vs 5 _ 5) _;rw [Ze];exact ⟨g,cap,rfl,Zv e2.o hJ.b.size,e2.c,e2.m⟩))⟩));refine ZbZ 50 #[.tmp 9] #[26] (by rfl) Try.f50 Try.func50 (by decide) (by unfold Try.f50;simp) #[.slice ma nm mc] ?_ hfin;simp [Act.eval,Act.put,k4]
 go_simp;refine hK _ ?_;clear hK K;refine Zb rfl (fun S w9 hS hA hD hJ R hR=>?_) (fun K hK=>?_)
 · obtain ⟨g2,c2,k2,_⟩:=hJ.k 2 (hA 2 (by decide));obtain ⟨g5,c5,k5,_⟩:=hJ.k 5 (hA 5 (by decide));have hfin:=hR (.agg #[.slice none 0 0,.slice none 0 0,vs 2,.slice none 0 0,vs 5]) _ (hJ.step (j:=6) hJ.b (fun i hij hi hk=>K41.keep hk br_ hij (fun e=>by subst e;exact ⟨by decide,by decide⟩) (fun e=>by subst e;have h8:=hD 8 (by decide) (by decide);rw [h8] at hi;cases hi)) (by show upn vs 6 _ 6=.agg #[.slice none 0 0,.slice none 0 0,upn vs 6 _ 2,.slice none 0 0,upn vs 6 _ 5];rw [Ze,Zd (by decide),Zd (by decide)]));rw [k2,k5] at hfin;simp only [k2,k5];go_simp;exact hfin
 go_simp;refine hK _ ?_;clear hK K;refine Zb rfl (fun S w9 hS hA hD hJ R hR=>?_) (fun K hK=>?_)
 · go_simp;exact hR _ _ (hJ.step (hJ.b.alloc hJ.b.size _) (fun i hij hi hk=>K41.keep hk ((Below.refl _ w9).alloc lr_ _) hij (fun e=>by subst e;exact ⟨by decide,by decide⟩) (fun e=>by subst e;have h8:=hD 8 (by decide) (by decide);rw [h8] at hi;cases hi)) ⟨w9.heap.size,Ze,hJ.b.size,_,_,_,_,_,Blk.new w9 28 _⟩)
 go_simp;refine hK _ ?_;clear hK K;refine Zb rfl (fun S w9 hS hA hD hJ R hR=>?_) (fun K hK=>?_)
 · have k6:vs 6=_:=hJ.k 6 (hA 6 (by decide));obtain ⟨g2,c2,k2,_⟩:=hJ.k 2 (hA 2 (by decide));obtain ⟨g5,c5,k5,_⟩:=hJ.k 5 (hA 5 (by decide));obtain ⟨g,k7,⟨a0,a1,a2,a3,a4,hblk⟩,hfin⟩:=K41.store hJ (fun i hi=>hA i (by match i,hi with | 0,_ | 1,_ | 2,_ | 3,_ | 4,_ | 5,_ | 6,_ | 7,_=>decide));obtain ⟨z0,z1,z2,z3,z4,_⟩:=ZM hblk;have f0:=hblk.frozen 0;have f1:=hblk.frozen 1;have f2:=hblk.frozen 2;have f3:=hblk.frozen 3;have f4:=hblk.frozen 4;have hf2:=hR _ _ hfin;rw [k2,k5] at hf2;rw [k2,k5] at k6;simp only [k6,k7];go_simp;exact hf2
 go_simp;refine hK _ ?_;clear hK K;refine Z2 (fun W3 hJ=>?_);obtain ⟨gq,k7,hgq,hbq⟩:=hJ.k 8 rfl;obtain ⟨gt,ct,k2,hlt⟩:=hJ.k 2 rfl;obtain ⟨gm,cm,k5,hlm⟩:=hJ.k 5 rfl;rw [k2,k5] at hbq;have HB3:=Za hJ.b;have HBQ:=Za hbq;have HLT:=Za hlt;have HLM:=Za hlm;have HGQ:=Za hgq;clear hJ hbq hgq hlt hlm;simp only [k7];clear k7 k2 k5;obtain ⟨XG,hXG⟩:∃X,ZZ P.gh=X:=⟨_,rfl⟩;have HXG:=Za hXG;have HGC:=Za (fun (W:World) (hb:Below W3.heap.size W3 W)=>show W.cell? ⟨gp,0,none⟩=some (.slice ga ng gc) from (ZM ((HP2.out.below HB3.out HP2.out.lt).below hb (HP2.out.below HB3.out HP2.out.lt).lt)).1);have HGCS:=Za (fun (W:World) (hb:Below W3.heap.size W3 W)=>show Src W ga ng (ZZ P.gh) from (by have h9:=HM.out.g.below ((HB2.out.trans (HB3.out.mono HB2.out.size)).trans (hb.mono (HB2.out.trans (HB3.out.mono HB2.out.size)).size));rw [HNG.out] at h9;exact h9));have HBQC:=Za (fun (W:World) (hb:Below W3.heap.size W3 W)=>HBQ.out.below hb HBQ.out.lt);have HGCL:=Za (show (ZZ P.gh).length=ng*1 by rw [Zjz,HNG.out]);clear hXG;have u1:=IntWalk.i64_in ((ng:Int)+3) (by omega);go_upto_region 2 with fail;refine ZB (JR W3 4 1 ng (ZZ P.gh) [.bool true] 4 7 8 9 15 (K42 gp gq 0 ng (.slice ga ng gc)) (fun w=>∃w0 g c,w=w0.setCell ⟨gq,0,none⟩ (.slice (some ⟨g,0,none⟩) ng c)∧LentR w0 W3.heap.size 4 1 g ng c ((ZZ P.gh)++[.bool true])∧Below W3.heap.size W3 w0)) [[],[0],[0,1],[0,1,2],[0,1,2,3],[],[5],[0,1,2,3,4,5,6],[],[0,1,2,3,4,5,6,7,8],[],[10],[10,11],[0,1,2,3,4,5,6,7,8,9,10,11,12],[],[0,1,2,3,4,5,6,7,8,9,10,11,12,13,14]] (by kernel_rfl) (by kernel_rfl) (fun vs=>⟨fun _=>RowSt.start,fun i hi=>(by have h9:16≤i:=(by simpa using hi);match i,h9 with | _+16,_=>trivial),fun h=>(by cases h)⟩) (fun vs=>?_);refine Zb rfl (fun S w9 hS hA hD hJ R hR=>?_) (fun K hK=>?_)
 · go_simp;exact hR _ _ (hJ.read (by decide) (fun i hij hi hk=>K42.keep hk hij (fun e=>by subst e;decide)) Ze)
 go_simp;refine hK _ ?_;clear hK K;refine Zb rfl (fun S w9 hS hA hD hJ R hR=>?_) (fun K hK=>?_)
 · have hL:S 15=false:=hD 15 (by decide) (by decide);have hrow:=hJ.r hL;have k0:vs 0=_:=hJ.k 0 (hA 0 (by decide));have z0:=HGC.out w9 hrow.b;simp only [k0];go_simp;exact hR _ _ (hJ.read (by decide) (fun i hij hi hk=>K42.keep hk hij (fun e=>by subst e;decide)) Ze)
 go_simp;refine hK _ ?_;clear hK K;refine Zb rfl (fun S w9 hS hA hD hJ R hR=>?_) (fun K hK=>?_)
 · have k1:vs 1=_:=hJ.k 1 (hA 1 (by decide));simp only [k1];go_simp;exact hR _ _ (hJ.read (by decide) (fun i hij hi hk=>K42.keep hk hij (fun e=>by subst e;decide)) Ze)
 go_simp;refine hK _ ?_;clear hK K;refine Zb rfl (fun S w9 hS hA hD hJ R hR=>?_) (fun K hK=>?_)
 · have k2:vs 2=_:=hJ.k 2 (hA 2 (by decide));simp only [k2];go_simp;exact hR _ _ (hJ.read (by decide) (fun i hij hi hk=>K42.keep hk hij (fun e=>by subst e;decide)) Ze)
 go_simp;refine hK _ ?_;clear hK K;refine Zb rfl (fun S w9 hS hA hD hJ R hR=>?_) (fun K hK=>?_)
 · have hL:S 15=false:=hD 15 (by decide) (by decide);have hrow:=hJ.r hL;have k3:vs 3=_:=hJ.k 3 (hA 3 (by decide));have s1:S 7=false:=hD 7 (by decide) (by decide);have s4:S 9=false:=hD 9 (by decide) (by decide);obtain ⟨i0,z0,e1,e2,e3,e4,e5,e6,e7⟩:=elB;obtain ⟨wm,hmk,hom,hgm⟩:=run_make_own (P:=Try.prog) w9 W3.heap.size 22 4 i0 z0 1 e1 e2 e3 e4 .i64 .i64 (ng+3) (by rw [e5];omega) (by unfold maxLen;omega) hrow.b.size;rw [show (((ng+3:Nat)):Int)=(ng:Int)+3 by omega] at hmk;rw [hS,s1,s4] at hrow;have hfin:=hR _ _ (hJ.row (j:=4) (by decide) hL (fun i hij hi hk=>K42.keep hk hij (fun e=>by subst e;decide)) trivial (by rw [Ze,Zd (by decide),Zd (by decide),Zd (by decide),Ze,Zd (by decide),Zd (by decide),Zd (by decide),s1,s4];exact hrow.make hom rfl (Zan hgm (fun g hg=>by cases hg) lr_)));clear hrow hom hgm e1 e2 e3 e4 e5 e6 e7;simp only [k3];go_simp;exact hfin
 go_simp;refine hK _ ?_;clear hK K;refine Zb rfl (fun S w9 hS hA hD hJ R hR=>?_) (fun K hK=>?_)
 · go_simp;exact hR _ _ (hJ.read (by decide) (fun i hij hi hk=>K42.keep hk hij (fun e=>by subst e;decide)) Ze)
 go_simp;refine hK _ ?_;clear hK K;refine Zb rfl (fun S w9 hS hA hD hJ R hR=>?_) (fun K hK=>?_)
 · have hL:S 15=false:=hD 15 (by decide) (by decide);have hrow:=hJ.r hL;have k5:vs 5=_:=hJ.k 5 (hA 5 (by decide));have z0:=HGC.out w9 hrow.b;simp only [k5];go_simp;exact hR _ _ (hJ.read (by decide) (fun i hij hi hk=>K42.keep hk hij (fun e=>by subst e;decide)) Ze)
 go_simp;refine hK _ ?_;clear hK K;refine Zb rfl (fun S w9 hS hA hD hJ R hR=>?_) (fun K hK=>?_)
 · have hL:S 15=false:=hD 15 (by decide) (by decide);have hrow:=hJ.r hL;have k6:vs 6=_:=hJ.k 6 (hA 6 (by decide));have s0:S 4=true:=hA 4 (by decide);have s4:S 9=false:=hD 9 (by decide) (by decide);rw [hS,s0,s4] at hrow;obtain ⟨v2,w2,hr2,ho2,hb2,hk2,hu2⟩:=Zc1 (c:=gc) elB 22 (hrow.m0 rfl rfl) ((HGCS.out w9 hrow.b)) HGCL.out (bools_one _) (by omega) (by unfold maxLen;omega) hrow.b.size;rw [Nat.zero_add] at ho2;have hfin:=hR _ _ (hJ.row (j:=7) (by decide) hL (fun i hij hi hk=>K42.keep hk hij (fun e=>by subst e;decide)) trivial (by rw [Ze,Zd (by decide),Zd (by decide),Zd (by decide),Ze,Zd (by decide),Zd (by decide),Zd (by decide),s0,s4];exact hrow.fill (by simpa using ho2) hb2 hk2 hu2));exact Zaq (.tmp 16) (.tmp 18) 22 (by rfl) _ _ (by simp [Act.eval,Act.put]) (by simp [Act.eval,Act.put,k6]) hr2 hfin
 go_simp;refine hK _ ?_;clear hK K;refine Zb rfl (fun S w9 hS hA hD hJ R hR=>?_) (fun K hK=>?_)
 · have hL:S 15=false:=hD 15 (by decide) (by decide);have hrow:=hJ.r hL;have s4:S 9=false:=hD 9 (by decide) (by decide);rw [hS,s4] at hrow;have hfin:=hR _ _ (hJ.row (j:=8) (by decide) hL (fun i hij hi hk=>K42.keep hk hij (fun e=>by subst e;decide)) trivial (by rw [Ze,Zd (by decide),Zd (by decide),Zd (by decide),Ze,Zd (by decide),Zd (by decide),Zd (by decide),s4];exact hrow.lay rfl ((Below.refl _ w9).alloc lr_ (.cells #[.bool true] 4)) (Blk.new w9 4 #[.bool true]).lt (ZaM 1 (Blk.new w9 4 #[.bool true]))));go_simp;exact hfin
 go_simp;refine hK _ ?_;clear hK K;refine Zb rfl (fun S w9 hS hA hD hJ R hR=>?_) (fun K hK=>?_)
 · have hL:S 15=false:=hD 15 (by decide) (by decide);have hrow:=hJ.r hL;have s0:S 4=true:=hA 4 (by decide);have s1:S 7=true:=hA 7 (by decide);have s3:S 8=true:=hA 8 (by decide);rw [hS,s0,s1,s3] at hrow;obtain ⟨gb,kb,hgb,hsb,_,_⟩:=hrow.bb rfl rfl;obtain ⟨v2,w2,hr2,ho2,hb2,_,_⟩:=Zc1 (c:=1) elB 22 (hrow.m1 rfl rfl) hsb rfl (by intro u hu;simp at hu;rcases hu with rfl | rfl | rfl <;> rfl) (by omega) (by unfold maxLen;omega) hrow.b.size;have hfin:=hR _ _ (hJ.row (j:=9) (by decide) hL (fun i hij hi hk=>K42.keep hk hij (fun e=>by subst e;have h6:=hD 13 (by decide) (by decide);rw [h6] at hi;cases hi)) trivial (by rw [Ze,Zd (by decide),Zd (by decide),Zd (by decide),Ze,Zd (by decide),Zd (by decide),Zd (by decide),s0,s1,s3];exact hrow.mark ho2 hb2));exact Zaq (.tmp 19) (.tmp 20) 22 (by rfl) _ _ (by simp [Act.eval,Act.put]) (by simp [Act.eval,Act.put,kb]) hr2 hfin
 go_simp;refine hK _ ?_;clear hK K;refine Zb rfl (fun S w9 hS hA hD hJ R hR=>?_) (fun K hK=>?_)
 · go_simp;exact hR _ _ (hJ.read (by decide) (fun i hij hi hk=>K42.keep hk hij (fun e=>by subst e;decide)) Ze)
 go_simp;refine hK _ ?_;clear hK K;refine Zb rfl (fun S w9 hS hA hD hJ R hR=>?_) (fun K hK=>?_)
 · have hL:S 15=false:=hD 15 (by decide) (by decide);have hrow:=hJ.r hL;have k10:vs 10=_:=hJ.k 10 (hA 10 (by decide));have z0:=HGC.out w9 hrow.b;simp only [k10];go_simp;exact hR _ _ (hJ.read (by decide) (fun i hij hi hk=>K42.keep hk hij (fun e=>by subst e;decide)) Ze)
 go_simp;refine hK _ ?_;clear hK K;refine Zb rfl (fun S w9 hS hA hD hJ R hR=>?_) (fun K hK=>?_)
 · have k11:vs 11=_:=hJ.k 11 (hA 11 (by decide));simp only [k11];go_simp;exact hR _ _ (hJ.read (by decide) (fun i hij hi hk=>K42.keep hk hij (fun e=>by subst e;decide)) Ze)
 go_simp;refine hK _ ?_;clear hK K;refine Zb rfl (fun S w9 hS hA hD hJ R hR=>?_) (fun K hK=>?_)
 · have hL:S 15=false:=hD 15 (by decide) (by decide);have hrow:=hJ.r hL;have k12:vs 12=_:=hJ.k 12 (hA 12 (by decide));have s4:S 9=true:=hA 9 (by decide);obtain ⟨g,c,kf,hc,hm⟩:=Zam (hrow.m2 s4) (Nat.succ_pos _);have hh1:(ng:Int)≤(c:Int):=by omega
   have hh0:(0:Int)≤(ng:Int):=by omega
   have hfin:=hR (.slice (some ⟨g,0,none⟩) ng c) _ (hJ.read (j:=13) (by decide) (fun i hij hi hk=>K42.keep hk hij (fun e=>by subst e;decide)) ⟨g,c,(Zd (by decide)).trans kf,Ze⟩);clear hrow;simp only [k12,kf];go_simp;exact hfin
 go_simp;refine hK _ ?_;clear hK K;refine Zb rfl (fun S w9 hS hA hD hJ R hR=>?_) (fun K hK=>?_)
 · go_simp;exact hR _ _ (hJ.read (by decide) (fun i hij hi hk=>K42.keep hk hij (fun e=>by subst e;decide)) Ze)
 go_simp;refine hK _ ?_;clear hK K;refine Zb rfl (fun S w9 hS hA hD hJ R hR=>?_) (fun K hK=>?_)
 · have hL:S 15=false:=hS;have hrow:=hJ.r hL;have k14:vs 14=_:=hJ.k 14 (hA 14 (by decide));obtain ⟨g,c,kf,kg⟩:=hJ.k 13 (hA 13 (by decide));have s4:S 9=true:=hA 9 (by decide);have ho:=hrow.m2 s4;rw [kf] at ho;obtain ⟨g9,c9,e9,hc,hm⟩:=Zam ho (Nat.succ_pos _)
   cases e9
   have z0:=(HBQC.out w9 hrow.b).cell 0;have f0:=(HBQC.out w9 hrow.b).frozen 0;have hfin:=hR undef _ (hJ.last (u:=undef) (fun i hij hi hk=>K42.keep hk hij (fun e=>by subst e;decide)) trivial ⟨w9,g,c,rfl,⟨ho,hc,hm⟩,hrow.b⟩);clear hrow ho;simp only [k14,kg];go_simp;exact hfin
 go_simp;refine hK _ ?_;clear hK K;refine Z2 (fun W4 hJ=>?_);obtain ⟨w0,gg,cg,hw,hlr,hb⟩:=hJ.f rfl;clear hJ;have hq0:=HBQ.out.below hb HBQ.out.lt;have ho0:Only (fun k=>k=gq) w0 W4:=by rw [hw];exact ZS (Only.refl _ _) rfl
 have hq4:Blk W4 gq 28 #[.slice (some ⟨gg,0,none⟩) ng cg,.slice none 0 0,.slice (some ⟨gt,0,none⟩) nt ct,.slice none 0 0,.slice (some ⟨gm,0,none⟩) nm cm]:=by rw [hw];exact hq0.set_ 0 _
 have hHLT:=(HLT.out.below hb).blk ho0 hq0 (by decide);have hHLM:=(HLM.out.below hb).blk ho0 hq0 (by decide);have hHLG:=(hlr.blk ho0 hq0 (by decide)).down (B':=W2.heap.size) HB3.out.size;have hb4:Below W2.heap.size W2 W4:=by rw [hw];exact Zf (HB3.out.trans (hb.mono HB3.out.size)) HGQ.out
 clear HBQ HB3 HLT HLM;have HBQ:=Za hq4;have HB3:=Za hb4;have HLT:=Za hHLT;have HLM:=Za hHLM;have HLG:=Za hHLG;clear hq0 ho0 hq4 hb4 hb hlr hw hHLT hHLM hHLG;clear HGC HGCS HGCL HBQC;have HGC:=Za (fun (W:World) (hb:Below W4.heap.size W4 W)=>show W.cell? ⟨gp,1,none⟩=some (.slice va nv vc) from (ZM ((HP2.out.below HB3.out HP2.out.lt).below hb (HP2.out.below HB3.out HP2.out.lt).lt)).2.1);have HGCS:=Za (fun (W:World) (hb:Below W4.heap.size W4 W)=>show Src W va nv (vrs P.vs) from (by have h9:=HM.out.v.below ((HB2.out.trans (HB3.out.mono HB2.out.size)).trans (hb.mono (HB2.out.trans (HB3.out.mono HB2.out.size)).size));rw [HNV.out] at h9;exact h9));have HBQC:=Za (fun (W:World) (hb:Below W4.heap.size W4 W)=>HBQ.out.below hb HBQ.out.lt);have HGCL:=Za (show (vrs P.vs).length=nv*3 by rw [ZkR,HNV.out]);have u2:=IntWalk.i64_in ((nv:Int)+3) (by omega);go_upto_region 3 with fail;refine ZB (JR W4 51 3 nv (vrs P.vs) [.int .i64 (-77),.int .i64 0,.int .i64 0] 4 7 9 10 16 (K43 gp gq 1 nv (.slice va nv vc)) (fun w=>∃w0 g c,w=w0.setCell ⟨gq,1,none⟩ (.slice (some ⟨g,0,none⟩) nv c)∧LentR w0 W4.heap.size 51 3 g nv c ((vrs P.vs)++[.int .i64 (-77),.int .i64 0,.int .i64 0])∧Below W4.heap.size W4 w0)) [[],[0],[0,1],[0,1,2],[0,1,2,3],[],[5],[0,1,2,3,4,5,6],[],[8],[0,1,2,3,4,5,6,7,8,9],[],[11],[11,12],[0,1,2,3,4,5,6,7,8,9,10,11,12,13],[],[0,1,2,3,4,5,6,7,8,9,10,11,12,13,14,15]] (by kernel_rfl) (by kernel_rfl) (fun vs=>⟨fun _=>RowSt.start,fun i hi=>(by have h9:17≤i:=(by simpa using hi);match i,h9 with | _+17,_=>trivial),fun h=>(by cases h)⟩) (fun vs=>?_);refine Zb rfl (fun S w9 hS hA hD hJ R hR=>?_) (fun K hK=>?_)
 · go_simp;exact hR _ _ (hJ.read (by decide) (fun i hij hi hk=>K43.keep hk hij (fun e=>by subst e;decide)) Ze)
 go_simp;refine hK _ ?_;clear hK K;refine Zb rfl (fun S w9 hS hA hD hJ R hR=>?_) (fun K hK=>?_)
 · have hL:S 16=false:=hD 16 (by decide) (by decide);have hrow:=hJ.r hL;have k0:vs 0=_:=hJ.k 0 (hA 0 (by decide));have z0:=HGC.out w9 hrow.b;simp only [k0];go_simp;exact hR _ _ (hJ.read (by decide) (fun i hij hi hk=>K43.keep hk hij (fun e=>by subst e;decide)) Ze)
 go_simp;refine hK _ ?_;clear hK K;refine Zb rfl (fun S w9 hS hA hD hJ R hR=>?_) (fun K hK=>?_)
 · have k1:vs 1=_:=hJ.k 1 (hA 1 (by decide));simp only [k1];go_simp;exact hR _ _ (hJ.read (by decide) (fun i hij hi hk=>K43.keep hk hij (fun e=>by subst e;decide)) Ze)
 go_simp;refine hK _ ?_;clear hK K;refine Zb rfl (fun S w9 hS hA hD hJ R hR=>?_) (fun K hK=>?_)
 · have k2:vs 2=_:=hJ.k 2 (hA 2 (by decide));simp only [k2];go_simp;exact hR _ _ (hJ.read (by decide) (fun i hij hi hk=>K43.keep hk hij (fun e=>by subst e;decide)) Ze)
 go_simp;refine hK _ ?_;clear hK K;refine Zb rfl (fun S w9 hS hA hD hJ R hR=>?_) (fun K hK=>?_)
 · have hL:S 16=false:=hD 16 (by decide) (by decide);have hrow:=hJ.r hL;have k3:vs 3=_:=hJ.k 3 (hA 3 (by decide));have s1:S 7=false:=hD 7 (by decide) (by decide);have s4:S 10=false:=hD 10 (by decide) (by decide);obtain ⟨i0,z0,e1,e2,e3,e4,e5,e6,e7⟩:=elV;obtain ⟨wm,hmk,hom,hgm⟩:=run_make_own (P:=Try.prog) w9 W4.heap.size 23 51 i0 z0 3 e1 e2 e3 e4 .i64 .i64 (nv+3) (by rw [e5];omega) (by unfold maxLen;omega) hrow.b.size;rw [show (((nv+3:Nat)):Int)=(nv:Int)+3 by omega] at hmk;rw [hS,s1,s4] at hrow;have hfin:=hR _ _ (hJ.row (j:=4) (by decide) hL (fun i hij hi hk=>K43.keep hk hij (fun e=>by subst e;decide)) trivial (by rw [Ze,Zd (by decide),Zd (by decide),Zd (by decide),Ze,Zd (by decide),Zd (by decide),Zd (by decide),s1,s4];exact hrow.make hom rfl (Zan hgm (fun g hg=>by cases hg) lr_)));clear hrow hom hgm e1 e2 e3 e4 e5 e6 e7;simp only [k3];go_simp;exact hfin
 go_simp;refine hK _ ?_;clear hK K;refine Zb rfl (fun S w9 hS hA hD hJ R hR=>?_) (fun K hK=>?_)
 · go_simp;exact hR _ _ (hJ.read (by decide) (fun i hij hi hk=>K43.keep hk hij (fun e=>by subst e;decide)) Ze)
 go_simp;refine hK _ ?_;clear hK K;refine Zb rfl (fun S w9 hS hA hD hJ R hR=>?_) (fun K hK=>?_)
 · have hL:S 16=false:=hD 16 (by decide) (by decide);have hrow:=hJ.r hL;have k5:vs 5=_:=hJ.k 5 (hA 5 (by decide));have z0:=HGC.out w9 hrow.b;simp only [k5];go_simp;exact hR _ _ (hJ.read (by decide) (fun i hij hi hk=>K43.keep hk hij (fun e=>by subst e;decide)) Ze)
 go_simp;refine hK _ ?_;clear hK K;refine Zb rfl (fun S w9 hS hA hD hJ R hR=>?_) (fun K hK=>?_)
 · have hL:S 16=false:=hD 16 (by decide) (by decide);have hrow:=hJ.r hL;have k6:vs 6=_:=hJ.k 6 (hA 6 (by decide));have s0:S 4=true:=hA 4 (by decide);have s4:S 10=false:=hD 10 (by decide) (by decide);rw [hS,s0,s4] at hrow;obtain ⟨v2,w2,hr2,ho2,hb2,hk2,hu2⟩:=Zc1 (c:=vc) elV 23 (hrow.m0 rfl rfl) ((HGCS.out w9 hrow.b)) HGCL.out (vrs_one _) (by omega) (by unfold maxLen;omega) hrow.b.size;rw [Nat.zero_add] at ho2;have hfin:=hR _ _ (hJ.row (j:=7) (by decide) hL (fun i hij hi hk=>K43.keep hk hij (fun e=>by subst e;decide)) trivial (by rw [Ze,Zd (by decide),Zd (by decide),Zd (by decide),Ze,Zd (by decide),Zd (by decide),Zd (by decide),s0,s4];exact hrow.fill (by simpa using ho2) hb2 hk2 hu2));exact Zaq (.tmp 31) (.tmp 33) 23 (by rfl) _ _ (by simp [Act.eval,Act.put]) (by simp [Act.eval,Act.put,k6]) hr2 hfin
 go_simp;refine hK _ ?_;clear hK K;refine Zb rfl (fun S w9 hS hA hD hJ R hR=>?_) (fun K hK=>?_)
 · go_simp;exact hR _ _ (hJ.read (by decide) (fun i hij hi hk=>K43.keep hk hij (fun e=>by subst e;decide)) Ze)
 go_simp;refine hK _ ?_;clear hK K;refine Zb rfl (fun S w9 hS hA hD hJ R hR=>?_) (fun K hK=>?_)
 · have hL:S 16=false:=hD 16 (by decide) (by decide);have hrow:=hJ.r hL;have k8:vs 8=_:=hJ.k 8 (hA 8 (by decide));have s4:S 10=false:=hD 10 (by decide) (by decide);rw [hS,s4] at hrow;have hfin:=hR _ _ (hJ.row (j:=9) (by decide) hL (fun i hij hi hk=>K43.keep hk hij (fun e=>by subst e;decide)) trivial (by rw [Ze,Zd (by decide),Zd (by decide),Zd (by decide),Ze,Zd (by decide),Zd (by decide),Zd (by decide),s4];exact hrow.lay rfl ((Below.refl _ w9).alloc lr_ (.cells #[.int .i64 (-77),.int .i64 0,.int .i64 0] 51)) (Blk.new w9 51 #[.int .i64 (-77),.int .i64 0,.int .i64 0]).lt (ZaM 1 (Blk.new w9 51 #[.int .i64 (-77),.int .i64 0,.int .i64 0]))));simp only [k8];go_simp;exact hfin
 go_simp;refine hK _ ?_;clear hK K;refine Zb rfl (fun S w9 hS hA hD hJ R hR=>?_) (fun K hK=>?_)
 · have hL:S 16=false:=hD 16 (by decide) (by decide);have hrow:=hJ.r hL;have s0:S 4=true:=hA 4 (by decide);have s1:S 7=true:=hA 7 (by decide);have s3:S 9=true:=hA 9 (by decide);rw [hS,s0,s1,s3] at hrow;obtain ⟨gb,kb,hgb,hsb,_,_⟩:=hrow.bb rfl rfl;obtain ⟨v2,w2,hr2,ho2,hb2,_,_⟩:=Zc1 (c:=1) elV 23 (hrow.m1 rfl rfl) hsb rfl (by intro u hu;simp at hu;rcases hu with rfl | rfl | rfl <;> rfl) (by omega) (by unfold maxLen;omega) hrow.b.size;have hfin:=hR _ _ (hJ.row (j:=10) (by decide) hL (fun i hij hi hk=>K43.keep hk hij (fun e=>by subst e;have h6:=hD 14 (by decide) (by decide);rw [h6] at hi;cases hi)) trivial (by rw [Ze,Zd (by decide),Zd (by decide),Zd (by decide),Ze,Zd (by decide),Zd (by decide),Zd (by decide),s0,s1,s3];exact hrow.mark ho2 hb2));exact Zaq (.tmp 34) (.tmp 36) 23 (by rfl) _ _ (by simp [Act.eval,Act.put]) (by simp [Act.eval,Act.put,kb]) hr2 hfin
 go_simp;refine hK _ ?_;clear hK K;refine Zb rfl (fun S w9 hS hA hD hJ R hR=>?_) (fun K hK=>?_)
 · go_simp;exact hR _ _ (hJ.read (by decide) (fun i hij hi hk=>K43.keep hk hij (fun e=>by subst e;decide)) Ze)
 go_simp;refine hK _ ?_;clear hK K;refine Zb rfl (fun S w9 hS hA hD hJ R hR=>?_) (fun K hK=>?_)
 · have hL:S 16=false:=hD 16 (by decide) (by decide);have hrow:=hJ.r hL;have k11:vs 11=_:=hJ.k 11 (hA 11 (by decide));have z0:=HGC.out w9 hrow.b;simp only [k11];go_simp;exact hR _ _ (hJ.read (by decide) (fun i hij hi hk=>K43.keep hk hij (fun e=>by subst e;decide)) Ze)
 go_simp;refine hK _ ?_;clear hK K;refine Zb rfl (fun S w9 hS hA hD hJ R hR=>?_) (fun K hK=>?_)
 · have k12:vs 12=_:=hJ.k 12 (hA 12 (by decide));simp only [k12];go_simp;exact hR _ _ (hJ.read (by decide) (fun i hij hi hk=>K43.keep hk hij (fun e=>by subst e;decide)) Ze)
 go_simp;refine hK _ ?_;clear hK K;refine Zb rfl (fun S w9 hS hA hD hJ R hR=>?_) (fun K hK=>?_)
 · have hL:S 16=false:=hD 16 (by decide) (by decide);have hrow:=hJ.r hL;have k13:vs 13=_:=hJ.k 13 (hA 13 (by decide));have s4:S 10=true:=hA 10 (by decide);obtain ⟨g,c,kf,hc,hm⟩:=Zam (hrow.m2 s4) (Nat.succ_pos _);have hh1:(nv:Int)≤(c:Int):=by omega
   have hh0:(0:Int)≤(nv:Int):=by omega
   have hfin:=hR (.slice (some ⟨g,0,none⟩) nv c) _ (hJ.read (j:=14) (by decide) (fun i hij hi hk=>K43.keep hk hij (fun e=>by subst e;decide)) ⟨g,c,(Zd (by decide)).trans kf,Ze⟩);clear hrow;simp only [k13,kf];go_simp;exact hfin
 go_simp;refine hK _ ?_;clear hK K;refine Zb rfl (fun S w9 hS hA hD hJ R hR=>?_) (fun K hK=>?_)
 · go_simp;exact hR _ _ (hJ.read (by decide) (fun i hij hi hk=>K43.keep hk hij (fun e=>by subst e;decide)) Ze)
 go_simp;refine hK _ ?_;clear hK K;refine Zb rfl (fun S w9 hS hA hD hJ R hR=>?_) (fun K hK=>?_)
 · have hL:S 16=false:=hS;have hrow:=hJ.r hL;have k15:vs 15=_:=hJ.k 15 (hA 15 (by decide));obtain ⟨g,c,kf,kg⟩:=hJ.k 14 (hA 14 (by decide));have s4:S 10=true:=hA 10 (by decide);have ho:=hrow.m2 s4;rw [kf] at ho;obtain ⟨g9,c9,e9,hc,hm⟩:=Zam ho (Nat.succ_pos _)
   cases e9
   have z0:=(HBQC.out w9 hrow.b).cell 1;have f0:=(HBQC.out w9 hrow.b).frozen 1;have hfin:=hR undef _ (hJ.last (u:=undef) (fun i hij hi hk=>K43.keep hk hij (fun e=>by subst e;decide)) trivial ⟨w9,g,c,rfl,⟨ho,hc,hm⟩,hrow.b⟩);clear hrow ho;simp only [k15,kg];go_simp;exact hfin
 go_simp;refine hK _ ?_;clear hK K;refine Z2 (fun W5 hJ=>?_);obtain ⟨w0,gv,cv,hw,hlr,hb⟩:=hJ.f rfl;clear hJ;have hq0:=HBQ.out.below hb HBQ.out.lt;have ho0:Only (fun k=>k=gq) w0 W5:=by rw [hw];exact ZS (Only.refl _ _) rfl
 have hq4:Blk W5 gq 28 #[.slice (some ⟨gg,0,none⟩) ng cg,.slice (some ⟨gv,0,none⟩) nv cv,.slice (some ⟨gt,0,none⟩) nt ct,.slice none 0 0,.slice (some ⟨gm,0,none⟩) nm cm]:=by rw [hw];exact hq0.set_ 1 _
 have hHLT:=(HLT.out.below hb).blk ho0 hq0 (by decide);have hHLM:=(HLM.out.below hb).blk ho0 hq0 (by decide);have hHLG:=(HLG.out.below hb).blk ho0 hq0 (by decide);have hHLV:=(hlr.blk ho0 hq0 (by decide)).down (B':=W2.heap.size) HB3.out.size;have hb4:Below W2.heap.size W2 W5:=by rw [hw];exact Zf (HB3.out.trans (hb.mono HB3.out.size)) HGQ.out
 clear HBQ HB3 HLT HLM HLG;have HBQ:=Za hq4;have HB3:=Za hb4;have HLT:=Za hHLT;have HLM:=Za hHLM;have HLG:=Za hHLG;have HLV:=Za hHLV;clear hq0 ho0 hq4 hb4 hb hlr hw hHLT hHLM hHLG hHLV;clear HGC HGCS HGCL HBQC;have HOC:=Za (fun (W:World) (hb:Below W5.heap.size W5 W)=>show W.cell? ⟨gp,3,none⟩=some (.slice oa no oc) from (ZM ((HP2.out.below HB3.out HP2.out.lt).below hb (HP2.out.below HB3.out HP2.out.lt).lt)).2.2.2.1);have HBQC:=Za (fun (W:World) (hb:Below W5.heap.size W5 W)=>HBQ.out.below hb HBQ.out.lt);have u3:=IntWalk.i64_in ((no:Int)+3) (by omega);go_upto_region 4 with fail;refine ZB (JZ W5 no (K44 gp gq no (.slice oa no oc)) (fun w=>∃w0 g,w=w0.setCell ⟨gq,3,none⟩ (.slice (some ⟨g,0,none⟩) no (no+3))∧w0.ownsRow W5.heap.size 26 1 (.slice (some ⟨g,0,none⟩) no (no+3)) no (List.replicate no (.slice none 0 0))∧Below W5.heap.size W5 w0)) [[],[0],[0,1],[0,1,2],[0,1,2,3],[],[5],[5,6],[0,1,2,3,4,5,6,7],[],[0,1,2,3,4,5,6,7,8,9]] (by kernel_rfl) (by kernel_rfl) (fun vs=>⟨fun _=>(Below.refl _ W5).drew,fun h=>(by cases h),fun h=>(by cases h),fun i hi=>(by have h9:11≤i:=(by simpa using hi);match i,h9 with | _+11,_=>trivial),fun h=>(by cases h)⟩) (fun vs=>?_);refine Zb rfl (fun S w9 hS hA hD hJ R hR=>?_) (fun K hK=>?_)
 · go_simp;exact hR _ _ (hJ.read (by decide) (fun i hij hi hk=>K44.keep hk hij) Ze)
 go_simp;refine hK _ ?_;clear hK K;refine Zb rfl (fun S w9 hS hA hD hJ R hR=>?_) (fun K hK=>?_)
 · have hL:S 10=false:=hD 10 (by decide) (by decide);have k0:vs 0=_:=hJ.k 0 (hA 0 (by decide));have z0:=HOC.out w9 (hJ.b hL);simp only [k0];go_simp;exact hR _ _ (hJ.read (by decide) (fun i hij hi hk=>K44.keep hk hij) Ze)
 go_simp;refine hK _ ?_;clear hK K;refine Zb rfl (fun S w9 hS hA hD hJ R hR=>?_) (fun K hK=>?_)
 · have k1:vs 1=_:=hJ.k 1 (hA 1 (by decide));simp only [k1];go_simp;exact hR _ _ (hJ.read (by decide) (fun i hij hi hk=>K44.keep hk hij) Ze)
 go_simp;refine hK _ ?_;clear hK K;refine Zb rfl (fun S w9 hS hA hD hJ R hR=>?_) (fun K hK=>?_)
 · have k2:vs 2=_:=hJ.k 2 (hA 2 (by decide));simp only [k2];go_simp;exact hR _ _ (hJ.read (by decide) (fun i hij hi hk=>K44.keep hk hij) Ze)
 go_simp;refine hK _ ?_;clear hK K;refine Zb rfl (fun S w9 hS hA hD hJ R hR=>?_) (fun K hK=>?_)
 · have hL:S 10=false:=hD 10 (by decide) (by decide);have k3:vs 3=_:=hJ.k 3 (hA 3 (by decide));have s8:S 8=false:=hD 8 (by decide) (by decide);have hbw:=hJ.b hL;obtain ⟨i0,e1,e2,e3,e4⟩:=ZD Zc2;obtain ⟨wm,hmk,hom,hgm⟩:=run_make_own (P:=Try.prog) w9 W5.heap.size 25 26 i0 _ 1 Try.underlying25 e1 e2 e3 .i64 .i64 (no+3) (by rw [e4];omega) (by unfold maxLen;omega) hbw.size;rw [show (((no+3:Nat)):Int)=(no:Int)+3 by omega] at hmk;have hfin:=hR _ _ (hJ.make s8 hL (Zan hgm (fun g hg=>by cases hg) lr_) hom (fun i hij hi hk=>K44.keep hk hij) trivial);clear hom hgm e1 e2 e3 e4 hbw;simp only [k3];go_simp;exact hfin
 go_simp;refine hK _ ?_;clear hK K;refine Zb rfl (fun S w9 hS hA hD hJ R hR=>?_) (fun K hK=>?_)
 · go_simp;exact hR _ _ (hJ.read (by decide) (fun i hij hi hk=>K44.keep hk hij) Ze)
 go_simp;refine hK _ ?_;clear hK K;refine Zb rfl (fun S w9 hS hA hD hJ R hR=>?_) (fun K hK=>?_)
 · have hL:S 10=false:=hD 10 (by decide) (by decide);have k5:vs 5=_:=hJ.k 5 (hA 5 (by decide));have z0:=HOC.out w9 (hJ.b hL);simp only [k5];go_simp;exact hR _ _ (hJ.read (by decide) (fun i hij hi hk=>K44.keep hk hij) Ze)
 go_simp;refine hK _ ?_;clear hK K;refine Zb rfl (fun S w9 hS hA hD hJ R hR=>?_) (fun K hK=>?_)
 · have k6:vs 6=_:=hJ.k 6 (hA 6 (by decide));simp only [k6];go_simp;exact hR _ _ (hJ.read (by decide) (fun i hij hi hk=>K44.keep hk hij) Ze)
 go_simp;refine hK _ ?_;clear hK K;refine Zb rfl (fun S w9 hS hA hD hJ R hR=>?_) (fun K hK=>?_)
 · have hL:S 10=false:=hD 10 (by decide) (by decide);have k7:vs 7=_:=hJ.k 7 (hA 7 (by decide));obtain ⟨g,k4,ho⟩:=hJ.m0 (hA 4 (by decide)) hS;obtain ⟨w2,hr2,ho2,hb2⟩:=ZkJ (n:=no) 25 ho (by omega) (by omega);have hfin:=hR _ _ (hJ.fill hL hb2 ho2 (fun i hij hi hk=>K44.keep hk hij) trivial);exact Zif (.tmp 47) (.tmp 50) 25 3 (by rfl) _ _ (by simp [Act.eval,Act.put,k4]) (by simp [Act.eval,Act.put,k7]) hr2 hfin
 go_simp;refine hK _ ?_;clear hK K;refine Zb rfl (fun S w9 hS hA hD hJ R hR=>?_) (fun K hK=>?_)
 · go_simp;exact hR _ _ (hJ.read (by decide) (fun i hij hi hk=>K44.keep hk hij) Ze)
 go_simp;refine hK _ ?_;clear hK K;refine Zb rfl (fun S w9 hS hA hD hJ R hR=>?_) (fun K hK=>?_)
 · have hL:S 10=false:=hS;have k9:vs 9=_:=hJ.k 9 (hA 9 (by decide));obtain ⟨g,k8,ho⟩:=hJ.m1 (hA 8 (by decide)) hL;have hbw:=hJ.b hL;have z0:=(HBQC.out w9 hbw).cell 3;have f0:=(HBQC.out w9 hbw).frozen 3;have hfin:=hR undef _ (hJ.last (u:=undef) (fun i hij hi hk=>K44.keep hk hij) trivial (hA 8 (by decide)) ⟨w9,g,rfl,ho,hbw⟩);clear ho hbw;simp only [k9,k8];go_simp;exact hfin
 go_simp;refine hK _ ?_;clear hK K;refine Z2 (fun W6 hJ=>?_);obtain ⟨w0,go,hw,hor,hb⟩:=hJ.f rfl;clear hJ;have hq0:=HBQ.out.below hb HBQ.out.lt;have ho0:Only (fun k=>k=gq) w0 W6:=by rw [hw];exact ZS (Only.refl _ _) rfl
 have hq4:Blk W6 gq 28 #[.slice (some ⟨gg,0,none⟩) ng cg,.slice (some ⟨gv,0,none⟩) nv cv,.slice (some ⟨gt,0,none⟩) nt ct,.slice (some ⟨go,0,none⟩) no (no+3),.slice (some ⟨gm,0,none⟩) nm cm]:=by rw [hw];exact hq0.set_ 3 _
 have hHLT:=(HLT.out.below hb).blk ho0 hq0 (by decide);have hHLM:=(HLM.out.below hb).blk ho0 hq0 (by decide);have hHLG:=(HLG.out.below hb).blk ho0 hq0 (by decide);have hHLV:=(HLV.out.below hb).blk ho0 hq0 (by decide);have hoo:=Zv (ZaG hor ho0 (fun k hk q=>ZX hor hq0 (by decide) (by rw [←q];exact hk))) (base':=W2.heap.size) HB3.out.size;have hb4:Below W2.heap.size W2 W6:=by rw [hw];exact Zf (HB3.out.trans (hb.mono HB3.out.size)) HGQ.out
 clear HBQ HB3 HLT HLM HLG HLV;have HBQ:=Za hq4;have HB3:=Za hb4;have HOO:=Za hoo;have HLT:=Za hHLT;have HLM:=Za hHLM;have HLG:=Za hHLG;have HLV:=Za hHLV;clear hq0 ho0 hq4 hb4 hb hor hw hoo hHLT hHLM hHLG hHLV;have HGO:=Za (HOO.out.lt go rfl);have HPP:=Za (HP2.out.below HB3.out HP2.out.lt);have HGPL:=Za HP2.out.lt;have HS0:=Za (show LpSt W6 W2.heap.size P gm go no 0 [] (List.replicate no (.slice none 0 0)) from ⟨HOO.out,rfl,fun j l _ h=>absurd h (Nat.not_lt_zero _),fun j k e h=>(by cases h),fun e h=>(by cases h),fun e h=>(by cases h)⟩);clear HOC HBQC;go_wp2_with fail;go_loopw [4] (fun t4 W=>∃(i:Nat) (es:List Nat) (us:List Value),t4=.int .i64 (i:Int)∧i≤no∧Only (fun k=>k=go) W6 W∧LpSt W W2.heap.size P gm go no i es us) (fun t4 _=>no - (intOf t4).toNat)
 case atStart=>exact ⟨0,[],_,rfl,Nat.zero_le _,Only.refl _ _,HS0.out⟩
 case round =>
  obtain ⟨i,es,us,rfl,hi,ho,hs⟩:=hrel;have HO:=Za ho;have HS:=Za hs;have u5:=IntWalk.i64_in ((i:Int)+1) (by omega);have hi0:(0:Int)≤(i:Int):=by omega
  have hgq:¬gq=go:=fun q=>ZX HOO.out HBQ.out (by decide) (by rw [q];rfl)
  have hgp:¬gp=go:=by have:=HGO.out.1;have:=HGPL.out;omega
  have hbq:=HBQ.out.only ho hgq;have hpp:=HPP.out.only ho hgp;obtain ⟨-,-,-,z3,-,hql⟩:=ZM hbq;obtain ⟨-,-,-,y3,-,hpl⟩:=ZM hpp;have HBQR:=Za hbq;have HBW:=Za (show Below w.heap.size w wr from (HB2.out.trans (HB3.out.mono HB2.out.size)).trans (ho.below (fun k hk=>(by rw [hk];have:=HGO.out.1;have:=HB2.out.size;omega)) (HB2.out.trans (HB3.out.mono HB2.out.size)).size));clear ho hs hbq hpp hgq hgp
  by_cases hlt:i<no
  · have hltI:(i:Int)<(no:Int):=by omega
    have HIL:=Za hlt;obtain ⟨l,hl⟩:∃l,P.on[i]? = some l:=⟨_,ge_ (by rw [HNO.out];exact hlt)⟩;obtain ⟨oe,ce,hse,ado,hado,hab,hcell⟩:=Zm4 (HM.out.below HBW.out) hl;simp only at hado;subst hado;have hll:=HROW.out l (List.mem_append_left _ (List.mem_of_getElem? hl));have HL:=Za hl;have hla:=ZiE wr.drew oe ce l (hse.below (Zcd br_)) hll;obtain ⟨nl,hnl⟩:∃n,l.length=n:=⟨_,rfl⟩;have HNL:=Za hnl;rw [hnl] at hla hcell;have HLAr:=Za hla;clear hla hse hl hll hnl hlt;go_upto_region 8 with fail;go_region_with (go_at_call 50;(with_reducible refine HLAr.out.mono ?_);rintro en w9 ⟨e,cap,rfl,hlr,hb9⟩;have HLR:=Za hlr;have HB9:=Za (show Below wr.heap.size wr w9 from (Zcd (Below.refl _ wr)).trans (hb9.mono lr_));have z9:=(ZM (HBQR.out.below HB9.out HBQR.out.lt)).2.2.2.1;have ho9:=Zx HS.out.o HB9.out lr_;obtain ⟨uu,huu⟩:∃u,us[i]? = some u:=⟨_,ge_ (by have h9:=ho9.1;have:=HIL.out;omega)⟩;have c9:=ZhA ho9 i uu huu;have f9:=ho9.frozenAt i;clear hlr hb9 ho9 huu)
    all_goals (go_wp2_with fail)
    all_goals
     go_roundw
     case rel =>
      have hn:=HS.out.next (l:=l) (by have:=HLM.out.lt;have:=HO.out.size;omega) HL.out HIL.out HB9.out (by have:=HB3.out.size;have:=HO.out.size;omega) (by rw [HNL.out];exact HLR.out);rw [HNL.out] at hn;exact ⟨i+1,_,_,by go_num,by have:=HIL.out;omega,ZS (HO.out.trans2 (Only.of_new HB9.out) (fun _ h=>.inl h)) rfl,hn⟩
     case measure =>
      simp only [intOf];have:=HIL.out;omega
  · have hltI:¬(i:Int)<(no:Int):=by omega
    obtain rfl:i=no:=by omega
    clear hlt hi;have hg2l:=HR2.out.lt;have hgb:=HGO.out.1;have hr9:=(HR2.out.below HB3.out hg2l).only HO.out (by omega);have HR9:=Za hr9;obtain ⟨c0,c1,c2,c3,c4,-⟩:=ZM hr9;have f0:=hr9.frozen 0;have f1:=hr9.frozen 1;have f2:=hr9.frozen 2;have f3:=hr9.frozen 3;have f4:=hr9.frozen 4;obtain ⟨x0,x1,x2,x3,x4,-⟩:=ZM HBQR.out;clear hr9 hgb;go_wp2_with fail;refine bodyPost_ret (v:=.agg #[.slice (some ⟨gg,0,none⟩) ng cg,.slice (some ⟨gv,0,none⟩) nv cv,.slice (some ⟨gt,0,none⟩) nt ct,.slice (some ⟨go,0,none⟩) i (i+3),.slice (some ⟨gm,0,none⟩) nm cm]) ?_ rfl ?_
    · simp only [results,HRES.out];go_simp
    · have hst:=ZfO HR9.out (.slice (some ⟨gg,0,none⟩) ng cg) (.slice (some ⟨gv,0,none⟩) nv cv) (.slice (some ⟨gt,0,none⟩) nt ct) (.slice (some ⟨go,0,none⟩) i (i+3)) (.slice (some ⟨gm,0,none⟩) nm cm);have hw2:=HB2.out.size;have hno:=HS.out.o.lt go rfl;have hgo:∀ {tE:TypeId} {sz g n c:Nat} {xs:List Value},tE≠26→LentR W6 W2.heap.size tE sz g n c xs→LentR wr W2.heap.size tE sz g n c xs:=fun ht h=>h.only HO.out (fun q=>ZbC h.o HOO.out ht _ rfl (by rw [q];rfl))
      have hfin:∀ {tE:TypeId} {sz g n c:Nat} {xs:List Value},LentR wr W2.heap.size tE sz g n c xs→LentR _ w.heap.size tE sz g n c xs:=fun h=>(h.only hst.2 (fun q=>by have:=h.lt;omega)).down hw2
      refine ⟨gg,gv,gt,go,gm,cg,cv,ct,i+3,cm,rfl,⟨es,us,⟨?_,?_,?_,?_,?_,?_,?_,HS.out.ne,HS.out.nm⟩⟩,?_⟩
      · rw [HNG.out];exact hfin (hgo (by decide) HLG.out)
      · rw [HNV.out];exact hfin (hgo (by decide) HLV.out)
      · rw [HNT.out,HXT.out];exact hfin (hgo (by decide) HLT.out)
      · rw [HNM.out,HXM.out];exact hfin (hgo (by decide) HLM.out)
      · rw [HNO.out];exact Zv (ZaG HS.out.o hst.2 (fun k hk q=>by have e:some go=some k:=hk;injection e with e;have h1:=hno.1;have h2:k=g2:=q;omega)) hw2
      · rw [HS.out.l,HNO.out]
      · intro j l hj;obtain ⟨e,c,a,b,d⟩:=HS.out.r j l hj (by have:=(gs_ hj).1;have:=HNO.out;omega);exact ⟨e,c,a,b,hfin d⟩
      · have hgw:w.heap.size≤g2:=by rw [←HG2.out,HG.out];omega
        exact HBW.out.trans ((hst.2.below (fun k hk=>by rw [hk];exact hgw) HBW.out.size))
end
end Go.Proofs.Ytdpokdcendgfeaa
