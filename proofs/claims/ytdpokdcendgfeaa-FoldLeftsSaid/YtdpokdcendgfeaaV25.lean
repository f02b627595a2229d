/- Several texts in one: The reference's optimiser: hand, look. Conditions: those of each. -/
import Derived.Test.YtdpokdcendgfeaaV21
set_option linter.unusedSimpArgs false
set_option linter.unusedVariables false
set_option maxHeartbeats 80000000
set_option maxRecDepth 100000
namespace Go.Proofs.Ytdpokdcendgfeaa
open Go.RowKit
section
attribute [local go_sem] par Zan
theorem Zdv {l:List Ac} {i p:Nat} (hk:(rowL l i).k=1) (h0:0<i) (hu:upL l i i=some p) (h1:(rowL l p).k=1):ZA l i=some (17,ZI l i (endL l i) (sub l (i+1,endL l i)) ((rowL l i).n - 1)):=by
 unfold ZA;simp only;rw [if_neg (by omega),if_neg (by omega),if_neg (by omega),if_neg (by omega),if_pos ⟨hk,h0⟩,hu];exact if_pos h1
theorem Zf1 {l:List Ac} {i p:Nat} (hk:(rowL l i).k=1) (h0:0<i) (hu:upL l i i=some p) (h1:(rowL l p).k≠1):ZA l i=none:=by
 unfold ZA;simp only;rw [if_neg (by omega),if_neg (by omega),if_neg (by omega),if_neg (by omega),if_pos ⟨hk,h0⟩,hu];exact if_neg h1
theorem ZeI (W:World) (o:Obj) (y:Ac):Src ((W.alloc o).alloc (.cells #[.int .i64 y.k,.int .i64 y.a,.int .i64 y.b,.int .i64 y.c,.int .i64 y.d,.int .i64 y.n] 49)) (some ⟨W.heap.size+1,0,none⟩) 1 (acs [y]):=by
 have h:=(ZbO (W.alloc o) y).s;have e:(W.alloc o).heap.size=W.heap.size+1:=Array.size_push _;rw [e] at h;exact h
theorem InBox.alloc {w:World} {gb:Nat} {u0 u1:Value} {W:World} (h:InBox w gb u0 u1 W) (o:Obj):InBox w gb u0 u1 (W.alloc o):=h.below ((Below.refl _ W).alloc lr_ o)
theorem ZiW (w:World) (ad:Addr) (c ge:Nat) (l:List Ac) (i:Nat) (h:Rs w ad c ge l) (hi:RowIn l i) (hy:i+1<l.length) (hz:i+2<l.length∨(rowL l (i+1)).k≠11) (ht:i+2≤l.length) (hl:l.length≤131072) (hs:ZE l) (hk:(rowL l (i+1)).k=10) :
 Calls Try.prog 95 #[rsv ad l.length c ge,.int .i64 (i:Int)] w fun en w'=>∃u,en=.returned (.tuple #[.int .i64 18,u])∧w'.ownsRow w.heap.size 49 6 u (ZI l i (i+2) [⟨13,(rowL l i).a,(rowL l i).b,(rowL l (i+1)).a,(rowL l (i+1)).b,0⟩] (1 - 2)).length (acs (ZI l i (i+2) [⟨13,(rowL l i).a,(rowL l i).b,(rowL l (i+1)).a,(rowL l (i+1)).b,0⟩] (1 - 2)))∧Below w.heap.size w w':=by
 have hq0:=fun (W:World) (h8:Below w.heap.size w W)=>(Zx (h.below h8) hi.lt).1
 have hq1:=fun (W:World) (h8:Below w.heap.size w W)=>(Zx (h.below h8) hy).1
 have hq2:=fun (W:World) (h8:Below w.heap.size w W) (h9:i+2<l.length)=>And.intro (Zx (h.below h8) h9).1 (Zx (h.below h8) h9).2.2
 have hc:=h.r.n;have hgl:=h.e.lt;have hil:=hi.lt;obtain ⟨gx0,hgx0⟩:∃g,w.heap.size=g:=⟨_,rfl⟩;have HSW:=Za (fun (y:Ac) (oi:Option Addr) (W:World) (h8:InBox w gx0 (.slice (some ad) l.length c) (.slice (some ⟨ge,0,none⟩) l.length l.length) W) (h9:Src W oi 1 (acs [y]))=>(Zcu W ad c ge l i (i+2) oi 1 1 [y] 2 1 (h.below h8.b) hi.lt ⟨by omega,ht⟩ hl hs rfl h9 (by simp) (by decide)).mono (R':=fun en w'=>∃u,en=.returned u∧w'.ownsRow gx0 49 6 u (ZI l i (i+2) [y] (1 - 2)).length (acs (ZI l i (i+2) [y] (1 - 2)))∧Below w.heap.size w w') (by rintro en w' ⟨u,e1,e2,e3⟩;exact ⟨u,e1,Zr e2 (by rw [←hgx0];exact h8.b.size),h8.b.trans (e3.mono h8.b.size)⟩));rw [show ((i+2:Nat):Int)=(i:Int)+2 by omega] at HSW;obtain ⟨x,hx⟩:∃x,rowL l i=x:=⟨_,rfl⟩;obtain ⟨y,hyy⟩:∃x,rowL l (i+1)=x:=⟨_,rfl⟩;obtain ⟨z,hzz⟩:∃x,rowL l (i+2)=x:=⟨_,rfl⟩;rw [hx] at hq0;rw [hyy] at hq1
 try rw [hyy] at hz
 try rw [hyy] at hk
 try rw [hyy] at hk2
 try rw [hzz] at hk2
 try simp only [hyy]
 try simp only [hzz]
 simp only [hzz] at hq2;rw [hx];obtain ⟨N,hN⟩:∃n,l.length=n:=⟨_,rfl⟩;have HB:=Za ((Below.refl w.heap.size w).alloc lr_ (.cells #[.slice (some ad) N c,.slice (some ⟨ge,0,none⟩) N N] 97));have HX:=Za (Blk.new w 97 #[.slice (some ad) N c,.slice (some ⟨ge,0,none⟩) N N]);unfold rsv at *;rw [hN] at hc hil hy hz hl HSW hq2;rw [hN];have hb10:(y.k == 10)=true:=by simp [hk]
 clear hk hz;have h1a:(0:Int)≤(i:Int):=by omega
 have h2a:(i:Int)<(N:Int):=by omega
 have h3a:(0:Int)≤(i:Int)+1:=by omega
 have h4a:(i:Int)+1<(N:Int):=by omega
 have hw1:=IntWalk.i64_in ((i:Int)+1) (by omega);have hw2:=IntWalk.i64_in ((i:Int)+2) (by omega);have hw3:=IntWalk.i64_in ((i:Int)+3) (by omega);have HQ0:=Za hq0;have HQ1:=Za hq1;have HQ2:=Za hq2;clear h hN hs hq0 hq1 hq2 hx hi hyy hzz ht;go_enter Try.func95,Try.ntmps95;go_upto_region 1 with fail;rw [hgx0] at HX;have HIN:=Za (show InBox w gx0 (.slice (some ad) N c) (.slice (some ⟨ge,0,none⟩) N N) (w.alloc (.cells #[.slice (some ad) N c,.slice (some ⟨ge,0,none⟩) N N] 97)) from ⟨HB.out,HX.out.cell 0,HX.out.cell 1,HX.out.lt⟩);generalize (w.alloc (.cells #[.slice (some ad) N c,.slice (some ⟨ge,0,none⟩) N N] 97))=W1 at HB HX HIN ⊢
 try simp only [hgx0]
 have HG:=Za hgx0;clear hgx0;have x0:=HIN.out.x0;have x1:=HIN.out.x1;obtain ⟨q0,q1,q2,q3,q4,q5⟩:=HQ0.out W1 HIN.out.b;go_upto_region 2 with fail;have HI2:=Za (HIN.out.alloc (.cells #[.int .i64 x.k,.int .i64 x.a,.int .i64 x.b,.int .i64 x.c,.int .i64 x.d,.int .i64 x.n] 49));have HX2:=Za (Blk.new W1 49 #[.int .i64 x.k,.int .i64 x.a,.int .i64 x.b,.int .i64 x.c,.int .i64 x.d,.int .i64 x.n]);generalize W1.alloc (.cells #[.int .i64 x.k,.int .i64 x.a,.int .i64 x.b,.int .i64 x.c,.int .i64 x.d,.int .i64 x.n] 49)=W2 at HI2 HX2 ⊢;obtain ⟨g2,hg2⟩:∃g,W1.heap.size=g:=⟨_,rfl⟩;rw [hg2] at HX2;simp only [hg2];clear hg2 x0 x1 q0 q1 q2 q3 q4 q5;have x0:=HI2.out.x0;have x1:=HI2.out.x1;obtain ⟨q0,q1,q2,q3,q4,q5⟩:=HQ1.out W2 HI2.out.b;go_upto_region 3 with fail;have HI3:=Za (HI2.out.alloc (.cells #[.int .i64 y.k,.int .i64 y.a,.int .i64 y.b,.int .i64 y.c,.int .i64 y.d,.int .i64 y.n] 49));have HX3:=Za (HX2.out.below ((Below.refl _ W2).alloc lr_ (.cells #[.int .i64 y.k,.int .i64 y.a,.int .i64 y.b,.int .i64 y.c,.int .i64 y.d,.int .i64 y.n] 49)) HX2.out.lt);have HY3:=Za (Blk.new W2 49 #[.int .i64 y.k,.int .i64 y.a,.int .i64 y.b,.int .i64 y.c,.int .i64 y.d,.int .i64 y.n]);generalize W2.alloc (.cells #[.int .i64 y.k,.int .i64 y.a,.int .i64 y.b,.int .i64 y.c,.int .i64 y.d,.int .i64 y.n] 49)=W3 at HI3 HX3 HY3 ⊢;obtain ⟨g3,hg3⟩:∃g,W2.heap.size=g:=⟨_,rfl⟩;rw [hg3] at HY3;simp only [hg3];clear hg3 x0 x1 q0 q1 q2 q3 q4 q5;have x0:=HI3.out.x0;have x1:=HI3.out.x1;have a0:W3.cell? ⟨g2,0,none⟩=some (.int .i64 x.k):=HX3.out.cell 0;have a1:W3.cell? ⟨g2,1,none⟩=some (.int .i64 x.a):=HX3.out.cell 1;have a2:W3.cell? ⟨g2,2,none⟩=some (.int .i64 x.b):=HX3.out.cell 2;have b0:W3.cell? ⟨g3,0,none⟩=some (.int .i64 y.k):=HY3.out.cell 0;have b1:W3.cell? ⟨g3,1,none⟩=some (.int .i64 y.a):=HY3.out.cell 1;have b2:W3.cell? ⟨g3,2,none⟩=some (.int .i64 y.b):=HY3.out.cell 2;have hl2:=HX3.out.lt;have hl3:=HY3.out.lt;have hl1:=HI3.out.lt;go_wp2_with (go_at_call 94;with_reducible refine (HSW.out ⟨13,x.a,x.b,y.a,y.b,0⟩ _ _ ((HI3.out.alloc _).alloc _) (ZeI _ _ ⟨13,x.a,x.b,y.a,y.b,0⟩)).mono ?_;rintro en w9 ⟨u9,rfl,ho9,hb9⟩;have HO9:=Za ho9;have HB9:=Za hb9;clear ho9 hb9);go_ret2;exact ⟨_,rfl,by rw [HG.out];exact HO9.out,HB9.out⟩
theorem ZhN (w:World) (ad:Addr) (c ge:Nat) (l:List Ac) (i:Nat) (h:Rs w ad c ge l) (hi:RowIn l i) (hy:i+1<l.length) (hz:i+2<l.length∨(rowL l (i+1)).k≠11) (ht:i+3≤l.length) (hl:l.length≤131072) (hs:ZE l) (hk:(rowL l (i+1)).k=11) (hk2:(rowL l (i+2)).k=10) :
 Calls Try.prog 95 #[rsv ad l.length c ge,.int .i64 (i:Int)] w fun en w'=>∃u,en=.returned (.tuple #[.int .i64 18,u])∧w'.ownsRow w.heap.size 49 6 u (ZI l i (i+3) [⟨14,(rowL l i).a,(rowL l i).b,(rowL l (i+2)).a,(rowL l (i+2)).b,0⟩] (1 - 3)).length (acs (ZI l i (i+3) [⟨14,(rowL l i).a,(rowL l i).b,(rowL l (i+2)).a,(rowL l (i+2)).b,0⟩] (1 - 3)))∧Below w.heap.size w w':=by
 have hq0:=fun (W:World) (h8:Below w.heap.size w W)=>(Zx (h.below h8) hi.lt).1
 have hq1:=fun (W:World) (h8:Below w.heap.size w W)=>(Zx (h.below h8) hy).1
 have hq2:=fun (W:World) (h8:Below w.heap.size w W) (h9:i+2<l.length)=>And.intro (Zx (h.below h8) h9).1 (Zx (h.below h8) h9).2.2
 have hc:=h.r.n;have hgl:=h.e.lt;have hil:=hi.lt;obtain ⟨gx0,hgx0⟩:∃g,w.heap.size=g:=⟨_,rfl⟩;have HSW:=Za (fun (y:Ac) (oi:Option Addr) (W:World) (h8:InBox w gx0 (.slice (some ad) l.length c) (.slice (some ⟨ge,0,none⟩) l.length l.length) W) (h9:Src W oi 1 (acs [y]))=>(Zcu W ad c ge l i (i+3) oi 1 1 [y] 3 1 (h.below h8.b) hi.lt ⟨by omega,ht⟩ hl hs rfl h9 (by simp) (by decide)).mono (R':=fun en w'=>∃u,en=.returned u∧w'.ownsRow gx0 49 6 u (ZI l i (i+3) [y] (1 - 3)).length (acs (ZI l i (i+3) [y] (1 - 3)))∧Below w.heap.size w w') (by rintro en w' ⟨u,e1,e2,e3⟩;exact ⟨u,e1,Zr e2 (by rw [←hgx0];exact h8.b.size),h8.b.trans (e3.mono h8.b.size)⟩));rw [show ((i+3:Nat):Int)=(i:Int)+3 by omega] at HSW;obtain ⟨x,hx⟩:∃x,rowL l i=x:=⟨_,rfl⟩;obtain ⟨y,hyy⟩:∃x,rowL l (i+1)=x:=⟨_,rfl⟩;obtain ⟨z,hzz⟩:∃x,rowL l (i+2)=x:=⟨_,rfl⟩;rw [hx] at hq0;rw [hyy] at hq1
 try rw [hyy] at hz
 try rw [hyy] at hk
 try rw [hyy] at hk2
 try rw [hzz] at hk2
 try simp only [hyy]
 try simp only [hzz]
 simp only [hzz] at hq2;rw [hx];obtain ⟨N,hN⟩:∃n,l.length=n:=⟨_,rfl⟩;have HB:=Za ((Below.refl w.heap.size w).alloc lr_ (.cells #[.slice (some ad) N c,.slice (some ⟨ge,0,none⟩) N N] 97));have HX:=Za (Blk.new w 97 #[.slice (some ad) N c,.slice (some ⟨ge,0,none⟩) N N]);unfold rsv at *;rw [hN] at hc hil hy hz hl HSW hq2;rw [hN];have hb10:(y.k == 10)=false:=by simp [hk]
 have hb11:(y.k == 11)=true:=by simp [hk]
 have hb2:(z.k == 10)=true:=by simp [hk2]
 have hz2:i+2<N:=by omega
 have HZ2:=Za hz2;have h5a:(0:Int)≤(i:Int)+2:=by omega
 have h6a:(i:Int)+2<(N:Int):=by omega
 clear hk hk2 hz;have h1a:(0:Int)≤(i:Int):=by omega
 have h2a:(i:Int)<(N:Int):=by omega
 have h3a:(0:Int)≤(i:Int)+1:=by omega
 have h4a:(i:Int)+1<(N:Int):=by omega
 have hw1:=IntWalk.i64_in ((i:Int)+1) (by omega);have hw2:=IntWalk.i64_in ((i:Int)+2) (by omega);have hw3:=IntWalk.i64_in ((i:Int)+3) (by omega);have HQ0:=Za hq0;have HQ1:=Za hq1;have HQ2:=Za hq2;clear h hN hs hq0 hq1 hq2 hx hi hyy hzz ht;go_enter Try.func95,Try.ntmps95;go_upto_region 1 with fail;rw [hgx0] at HX;have HIN:=Za (show InBox w gx0 (.slice (some ad) N c) (.slice (some ⟨ge,0,none⟩) N N) (w.alloc (.cells #[.slice (some ad) N c,.slice (some ⟨ge,0,none⟩) N N] 97)) from ⟨HB.out,HX.out.cell 0,HX.out.cell 1,HX.out.lt⟩);generalize (w.alloc (.cells #[.slice (some ad) N c,.slice (some ⟨ge,0,none⟩) N N] 97))=W1 at HB HX HIN ⊢
 try simp only [hgx0]
 have HG:=Za hgx0;clear hgx0;have x0:=HIN.out.x0;have x1:=HIN.out.x1;obtain ⟨q0,q1,q2,q3,q4,q5⟩:=HQ0.out W1 HIN.out.b;go_upto_region 2 with fail;have HI2:=Za (HIN.out.alloc (.cells #[.int .i64 x.k,.int .i64 x.a,.int .i64 x.b,.int .i64 x.c,.int .i64 x.d,.int .i64 x.n] 49));have HX2:=Za (Blk.new W1 49 #[.int .i64 x.k,.int .i64 x.a,.int .i64 x.b,.int .i64 x.c,.int .i64 x.d,.int .i64 x.n]);generalize W1.alloc (.cells #[.int .i64 x.k,.int .i64 x.a,.int .i64 x.b,.int .i64 x.c,.int .i64 x.d,.int .i64 x.n] 49)=W2 at HI2 HX2 ⊢;obtain ⟨g2,hg2⟩:∃g,W1.heap.size=g:=⟨_,rfl⟩;rw [hg2] at HX2;simp only [hg2];clear hg2 x0 x1 q0 q1 q2 q3 q4 q5;have x0:=HI2.out.x0;have x1:=HI2.out.x1;obtain ⟨q0,q1,q2,q3,q4,q5⟩:=HQ1.out W2 HI2.out.b;go_upto_region 3 with fail;have HI3:=Za (HI2.out.alloc (.cells #[.int .i64 y.k,.int .i64 y.a,.int .i64 y.b,.int .i64 y.c,.int .i64 y.d,.int .i64 y.n] 49));have HX3:=Za (HX2.out.below ((Below.refl _ W2).alloc lr_ (.cells #[.int .i64 y.k,.int .i64 y.a,.int .i64 y.b,.int .i64 y.c,.int .i64 y.d,.int .i64 y.n] 49)) HX2.out.lt);have HY3:=Za (Blk.new W2 49 #[.int .i64 y.k,.int .i64 y.a,.int .i64 y.b,.int .i64 y.c,.int .i64 y.d,.int .i64 y.n]);generalize W2.alloc (.cells #[.int .i64 y.k,.int .i64 y.a,.int .i64 y.b,.int .i64 y.c,.int .i64 y.d,.int .i64 y.n] 49)=W3 at HI3 HX3 HY3 ⊢;obtain ⟨g3,hg3⟩:∃g,W2.heap.size=g:=⟨_,rfl⟩;rw [hg3] at HY3;simp only [hg3];clear hg3 x0 x1 q0 q1 q2 q3 q4 q5;have x0:=HI3.out.x0;have x1:=HI3.out.x1;have a0:W3.cell? ⟨g2,0,none⟩=some (.int .i64 x.k):=HX3.out.cell 0;have a1:W3.cell? ⟨g2,1,none⟩=some (.int .i64 x.a):=HX3.out.cell 1;have a2:W3.cell? ⟨g2,2,none⟩=some (.int .i64 x.b):=HX3.out.cell 2;have b0:W3.cell? ⟨g3,0,none⟩=some (.int .i64 y.k):=HY3.out.cell 0;have b1:W3.cell? ⟨g3,1,none⟩=some (.int .i64 y.a):=HY3.out.cell 1;have b2:W3.cell? ⟨g3,2,none⟩=some (.int .i64 y.b):=HY3.out.cell 2;have hl2:=HX3.out.lt;have hl3:=HY3.out.lt;have hl1:=HI3.out.lt;obtain ⟨⟨r0,r1,r2,r3,r4,r5⟩,hab3⟩:=HQ2.out W3 HI3.out.b HZ2.out;go_upto_region 8 with fail;go_region;go_wp2_with (go_at_call 94;with_reducible refine (HSW.out ⟨14,x.a,x.b,z.a,z.b,0⟩ _ _ ((HI3.out.alloc _).alloc _).drew ((ZeI _ _ ⟨14,x.a,x.b,z.a,z.b,0⟩).below (Zbc br_))).mono ?_;rintro en w9 ⟨u9,rfl,ho9,hb9⟩;have HO9:=Za ho9;have HB9:=Za hb9;clear ho9 hb9);go_ret2;exact ⟨_,rfl,by rw [HG.out];exact HO9.out,HB9.out⟩
theorem ZhO (w:World) (ad:Addr) (c ge:Nat) (l:List Ac) (i:Nat) (h:Rs w ad c ge l) (hi:RowIn l i) (hy:i+1<l.length) (hz:i+2<l.length∨(rowL l (i+1)).k≠11) (ht:i+3≤l.length) (hl:l.length≤131072) (hs:ZE l) (hk:(rowL l (i+1)).k=11) (hk2:(rowL l (i+2)).k≠10) :
 Calls Try.prog 95 #[rsv ad l.length c ge,.int .i64 (i:Int)] w fun en w'=>∃u,en=.returned (.tuple #[.int .i64 18,u])∧w'.ownsRow w.heap.size 49 6 u (ZI l i (i+3) [⟨15,(rowL l i).a,(rowL l i).b,0,0,0⟩] (1 - 3)).length (acs (ZI l i (i+3) [⟨15,(rowL l i).a,(rowL l i).b,0,0,0⟩] (1 - 3)))∧Below w.heap.size w w':=by
 have hq0:=fun (W:World) (h8:Below w.heap.size w W)=>(Zx (h.below h8) hi.lt).1
 have hq1:=fun (W:World) (h8:Below w.heap.size w W)=>(Zx (h.below h8) hy).1
 have hq2:=fun (W:World) (h8:Below w.heap.size w W) (h9:i+2<l.length)=>And.intro (Zx (h.below h8) h9).1 (Zx (h.below h8) h9).2.2
 have hc:=h.r.n;have hgl:=h.e.lt;have hil:=hi.lt;obtain ⟨gx0,hgx0⟩:∃g,w.heap.size=g:=⟨_,rfl⟩;have HSW:=Za (fun (y:Ac) (oi:Option Addr) (W:World) (h8:InBox w gx0 (.slice (some ad) l.length c) (.slice (some ⟨ge,0,none⟩) l.length l.length) W) (h9:Src W oi 1 (acs [y]))=>(Zcu W ad c ge l i (i+3) oi 1 1 [y] 3 1 (h.below h8.b) hi.lt ⟨by omega,ht⟩ hl hs rfl h9 (by simp) (by decide)).mono (R':=fun en w'=>∃u,en=.returned u∧w'.ownsRow gx0 49 6 u (ZI l i (i+3) [y] (1 - 3)).length (acs (ZI l i (i+3) [y] (1 - 3)))∧Below w.heap.size w w') (by rintro en w' ⟨u,e1,e2,e3⟩;exact ⟨u,e1,Zr e2 (by rw [←hgx0];exact h8.b.size),h8.b.trans (e3.mono h8.b.size)⟩));rw [show ((i+3:Nat):Int)=(i:Int)+3 by omega] at HSW;obtain ⟨x,hx⟩:∃x,rowL l i=x:=⟨_,rfl⟩;obtain ⟨y,hyy⟩:∃x,rowL l (i+1)=x:=⟨_,rfl⟩;obtain ⟨z,hzz⟩:∃x,rowL l (i+2)=x:=⟨_,rfl⟩;rw [hx] at hq0;rw [hyy] at hq1
 try rw [hyy] at hz
 try rw [hyy] at hk
 try rw [hyy] at hk2
 try rw [hzz] at hk2
 try simp only [hyy]
 try simp only [hzz]
 simp only [hzz] at hq2;rw [hx];obtain ⟨N,hN⟩:∃n,l.length=n:=⟨_,rfl⟩;have HB:=Za ((Below.refl w.heap.size w).alloc lr_ (.cells #[.slice (some ad) N c,.slice (some ⟨ge,0,none⟩) N N] 97));have HX:=Za (Blk.new w 97 #[.slice (some ad) N c,.slice (some ⟨ge,0,none⟩) N N]);unfold rsv at *;rw [hN] at hc hil hy hz hl HSW hq2;rw [hN];have hb10:(y.k == 10)=false:=by simp [hk]
 have hb11:(y.k == 11)=true:=by simp [hk]
 have hb2:(z.k == 10)=false:=by simp [hk2]
 have hz2:i+2<N:=by omega
 have HZ2:=Za hz2;have h5a:(0:Int)≤(i:Int)+2:=by omega
 have h6a:(i:Int)+2<(N:Int):=by omega
 clear hk hk2 hz;have h1a:(0:Int)≤(i:Int):=by omega
 have h2a:(i:Int)<(N:Int):=by omega
 have h3a:(0:Int)≤(i:Int)+1:=by omega
 have h4a:(i:Int)+1<(N:Int):=by omega
 have hw1:=IntWalk.i64_in ((i:Int)+1) (by omega);have hw2:=IntWalk.i64_in ((i:Int)+2) (by omega);have hw3:=IntWalk.i64_in ((i:Int)+3) (by omega);have HQ0:=Za hq0;have HQ1:=Za hq1;have HQ2:=Za hq2;clear h hN hs hq0 hq1 hq2 hx hi hyy hzz ht;go_enter Try.func95,Try.ntmps95;go_upto_region 1 with fail;rw [hgx0] at HX;have HIN:=Za (show InBox w gx0 (.slice (some ad) N c) (.slice (some ⟨ge,0,none⟩) N N) (w.alloc (.cells #[.slice (some ad) N c,.slice (some ⟨ge,0,none⟩) N N] 97)) from ⟨HB.out,HX.out.cell 0,HX.out.cell 1,HX.out.lt⟩);generalize (w.alloc (.cells #[.slice (some ad) N c,.slice (some ⟨ge,0,none⟩) N N] 97))=W1 at HB HX HIN ⊢
 try simp only [hgx0]
 have HG:=Za hgx0;clear hgx0;have x0:=HIN.out.x0;have x1:=HIN.out.x1;obtain ⟨q0,q1,q2,q3,q4,q5⟩:=HQ0.out W1 HIN.out.b;go_upto_region 2 with fail;have HI2:=Za (HIN.out.alloc (.cells #[.int .i64 x.k,.int .i64 x.a,.int .i64 x.b,.int .i64 x.c,.int .i64 x.d,.int .i64 x.n] 49));have HX2:=Za (Blk.new W1 49 #[.int .i64 x.k,.int .i64 x.a,.int .i64 x.b,.int .i64 x.c,.int .i64 x.d,.int .i64 x.n]);generalize W1.alloc (.cells #[.int .i64 x.k,.int .i64 x.a,.int .i64 x.b,.int .i64 x.c,.int .i64 x.d,.int .i64 x.n] 49)=W2 at HI2 HX2 ⊢;obtain ⟨g2,hg2⟩:∃g,W1.heap.size=g:=⟨_,rfl⟩;rw [hg2] at HX2;simp only [hg2];clear hg2 x0 x1 q0 q1 q2 q3 q4 q5;have x0:=HI2.out.x0;have x1:=HI2.out.x1;obtain ⟨q0,q1,q2,q3,q4,q5⟩:=HQ1.out W2 HI2.out.b;go_upto_region 3 with fail;have HI3:=Za (HI2.out.alloc (.cells #[.int .i64 y.k,.int .i64 y.a,.int .i64 y.b,.int .i64 y.c,.int .i64 y.d,.int .i64 y.n] 49));have HX3:=Za (HX2.out.below ((Below.refl _ W2).alloc lr_ (.cells #[.int .i64 y.k,.int .i64 y.a,.int .i64 y.b,.int .i64 y.c,.int .i64 y.d,.int .i64 y.n] 49)) HX2.out.lt);have HY3:=Za (Blk.new W2 49 #[.int .i64 y.k,.int .i64 y.a,.int .i64 y.b,.int .i64 y.c,.int .i64 y.d,.int .i64 y.n]);generalize W2.alloc (.cells #[.int .i64 y.k,.int .i64 y.a,.int .i64 y.b,.int .i64 y.c,.int .i64 y.d,.int .i64 y.n] 49)=W3 at HI3 HX3 HY3 ⊢;obtain ⟨g3,hg3⟩:∃g,W2.heap.size=g:=⟨_,rfl⟩;rw [hg3] at HY3;simp only [hg3];clear hg3 x0 x1 q0 q1 q2 q3 q4 q5;have x0:=HI3.out.x0;have x1:=HI3.out.x1;have a0:W3.cell? ⟨g2,0,none⟩=some (.int .i64 x.k):=HX3.out.cell 0;have a1:W3.cell? ⟨g2,1,none⟩=some (.int .i64 x.a):=HX3.out.cell 1;have a2:W3.cell? ⟨g2,2,none⟩=some (.int .i64 x.b):=HX3.out.cell 2;have b0:W3.cell? ⟨g3,0,none⟩=some (.int .i64 y.k):=HY3.out.cell 0;have b1:W3.cell? ⟨g3,1,none⟩=some (.int .i64 y.a):=HY3.out.cell 1;have b2:W3.cell? ⟨g3,2,none⟩=some (.int .i64 y.b):=HY3.out.cell 2;have hl2:=HX3.out.lt;have hl3:=HY3.out.lt;have hl1:=HI3.out.lt;obtain ⟨⟨r0,r1,r2,r3,r4,r5⟩,hab3⟩:=HQ2.out W3 HI3.out.b HZ2.out;go_wp2_with (go_at_call 94;with_reducible refine (HSW.out ⟨15,x.a,x.b,0,0,0⟩ _ _ ((HI3.out.alloc _).alloc _) (ZeI _ _ ⟨15,x.a,x.b,0,0,0⟩)).mono ?_;rintro en w9 ⟨u9,rfl,ho9,hb9⟩;have HO9:=Za ho9;have HB9:=Za hb9;clear ho9 hb9);go_ret2;exact ⟨_,rfl,by rw [HG.out];exact HO9.out,HB9.out⟩
theorem ZiX (w:World) (ad:Addr) (c ge:Nat) (l:List Ac) (i:Nat) (h:Rs w ad c ge l) (hi:RowIn l i) (hy:i+1<l.length) (hz:i+2<l.length∨(rowL l (i+1)).k≠11) (ht:i+2≤l.length) (hl:l.length≤131072) (hs:ZE l) (hk:(rowL l (i+1)).k≠10) (hk2:(rowL l (i+1)).k≠11) :
 Calls Try.prog 95 #[rsv ad l.length c ge,.int .i64 (i:Int)] w fun en w'=>∃u,en=.returned (.tuple #[.int .i64 18,u])∧w'.ownsRow w.heap.size 49 6 u (ZI l i (i+2) [⟨16,(rowL l i).a,(rowL l i).b,0,0,0⟩] (1 - 2)).length (acs (ZI l i (i+2) [⟨16,(rowL l i).a,(rowL l i).b,0,0,0⟩] (1 - 2)))∧Below w.heap.size w w':=by
 have hq0:=fun (W:World) (h8:Below w.heap.size w W)=>(Zx (h.below h8) hi.lt).1
 have hq1:=fun (W:World) (h8:Below w.heap.size w W)=>(Zx (h.below h8) hy).1
 have hq2:=fun (W:World) (h8:Below w.heap.size w W) (h9:i+2<l.length)=>And.intro (Zx (h.below h8) h9).1 (Zx (h.below h8) h9).2.2
 have hc:=h.r.n;have hgl:=h.e.lt;have hil:=hi.lt;obtain ⟨gx0,hgx0⟩:∃g,w.heap.size=g:=⟨_,rfl⟩;have HSW:=Za (fun (y:Ac) (oi:Option Addr) (W:World) (h8:InBox w gx0 (.slice (some ad) l.length c) (.slice (some ⟨ge,0,none⟩) l.length l.length) W) (h9:Src W oi 1 (acs [y]))=>(Zcu W ad c ge l i (i+2) oi 1 1 [y] 2 1 (h.below h8.b) hi.lt ⟨by omega,ht⟩ hl hs rfl h9 (by simp) (by decide)).mono (R':=fun en w'=>∃u,en=.returned u∧w'.ownsRow gx0 49 6 u (ZI l i (i+2) [y] (1 - 2)).length (acs (ZI l i (i+2) [y] (1 - 2)))∧Below w.heap.size w w') (by rintro en w' ⟨u,e1,e2,e3⟩;exact ⟨u,e1,Zr e2 (by rw [←hgx0];exact h8.b.size),h8.b.trans (e3.mono h8.b.size)⟩));rw [show ((i+2:Nat):Int)=(i:Int)+2 by omega] at HSW;obtain ⟨x,hx⟩:∃x,rowL l i=x:=⟨_,rfl⟩;obtain ⟨y,hyy⟩:∃x,rowL l (i+1)=x:=⟨_,rfl⟩;obtain ⟨z,hzz⟩:∃x,rowL l (i+2)=x:=⟨_,rfl⟩;rw [hx] at hq0;rw [hyy] at hq1
 try rw [hyy] at hz
 try rw [hyy] at hk
 try rw [hyy] at hk2
 try rw [hzz] at hk2
 try simp only [hyy]
 try simp only [hzz]
 simp only [hzz] at hq2;rw [hx];obtain ⟨N,hN⟩:∃n,l.length=n:=⟨_,rfl⟩;have HB:=Za ((Below.refl w.heap.size w).alloc lr_ (.cells #[.slice (some ad) N c,.slice (some ⟨ge,0,none⟩) N N] 97));have HX:=Za (Blk.new w 97 #[.slice (some ad) N c,.slice (some ⟨ge,0,none⟩) N N]);unfold rsv at *;rw [hN] at hc hil hy hz hl HSW hq2;rw [hN];have hb10:(y.k == 10)=false:=by simp [hk]
 have hb11:(y.k == 11)=false:=by simp [hk2]
 clear hk hk2 hz;have h1a:(0:Int)≤(i:Int):=by omega
 have h2a:(i:Int)<(N:Int):=by omega
 have h3a:(0:Int)≤(i:Int)+1:=by omega
 have h4a:(i:Int)+1<(N:Int):=by omega
 have hw1:=IntWalk.i64_in ((i:Int)+1) (by omega);have hw2:=IntWalk.i64_in ((i:Int)+2) (by omega);have hw3:=IntWalk.i64_in ((i:Int)+3) (by omega);have HQ0:=Za hq0;have HQ1:=Za hq1;have HQ2:=Za hq2;clear h hN hs hq0 hq1 hq2 hx hi hyy hzz ht;go_enter Try.func95,Try.ntmps95;go_upto_region 1 with fail;rw [hgx0] at HX;have HIN:=Za (show InBox w gx0 (.slice (some ad) N c) (.slice (some ⟨ge,0,none⟩) N N) (w.alloc (.cells #[.slice (some ad) N c,.slice (some ⟨ge,0,none⟩) N N] 97)) from ⟨HB.out,HX.out.cell 0,HX.out.cell 1,HX.out.lt⟩);generalize (w.alloc (.cells #[.slice (some ad) N c,.slice (some ⟨ge,0,none⟩) N N] 97))=W1 at HB HX HIN ⊢
 try simp only [hgx0]
 have HG:=Za hgx0;clear hgx0;have x0:=HIN.out.x0;have x1:=HIN.out.x1;obtain ⟨q0,q1,q2,q3,q4,q5⟩:=HQ0.out W1 HIN.out.b;go_upto_region 2 with fail;have HI2:=Za (HIN.out.alloc (.cells #[.int .i64 x.k,.int .i64 x.a,.int .i64 x.b,.int .i64 x.c,.int .i64 x.d,.int .i64 x.n] 49));have HX2:=Za (Blk.new W1 49 #[.int .i64 x.k,.int .i64 x.a,.int .i64 x.b,.int .i64 x.c,.int .i64 x.d,.int .i64 x.n]);generalize W1.alloc (.cells #[.int .i64 x.k,.int .i64 x.a,.int .i64 x.b,.int .i64 x.c,.int .i64 x.d,.int .i64 x.n] 49)=W2 at HI2 HX2 ⊢;obtain ⟨g2,hg2⟩:∃g,W1.heap.size=g:=⟨_,rfl⟩;rw [hg2] at HX2;simp only [hg2];clear hg2 x0 x1 q0 q1 q2 q3 q4 q5;have x0:=HI2.out.x0;have x1:=HI2.out.x1;obtain ⟨q0,q1,q2,q3,q4,q5⟩:=HQ1.out W2 HI2.out.b;go_upto_region 3 with fail;have HI3:=Za (HI2.out.alloc (.cells #[.int .i64 y.k,.int .i64 y.a,.int .i64 y.b,.int .i64 y.c,.int .i64 y.d,.int .i64 y.n] 49));have HX3:=Za (HX2.out.below ((Below.refl _ W2).alloc lr_ (.cells #[.int .i64 y.k,.int .i64 y.a,.int .i64 y.b,.int .i64 y.c,.int .i64 y.d,.int .i64 y.n] 49)) HX2.out.lt);have HY3:=Za (Blk.new W2 49 #[.int .i64 y.k,.int .i64 y.a,.int .i64 y.b,.int .i64 y.c,.int .i64 y.d,.int .i64 y.n]);generalize W2.alloc (.cells #[.int .i64 y.k,.int .i64 y.a,.int .i64 y.b,.int .i64 y.c,.int .i64 y.d,.int .i64 y.n] 49)=W3 at HI3 HX3 HY3 ⊢;obtain ⟨g3,hg3⟩:∃g,W2.heap.size=g:=⟨_,rfl⟩;rw [hg3] at HY3;simp only [hg3];clear hg3 x0 x1 q0 q1 q2 q3 q4 q5;have x0:=HI3.out.x0;have x1:=HI3.out.x1;have a0:W3.cell? ⟨g2,0,none⟩=some (.int .i64 x.k):=HX3.out.cell 0;have a1:W3.cell? ⟨g2,1,none⟩=some (.int .i64 x.a):=HX3.out.cell 1;have a2:W3.cell? ⟨g2,2,none⟩=some (.int .i64 x.b):=HX3.out.cell 2;have b0:W3.cell? ⟨g3,0,none⟩=some (.int .i64 y.k):=HY3.out.cell 0;have b1:W3.cell? ⟨g3,1,none⟩=some (.int .i64 y.a):=HY3.out.cell 1;have b2:W3.cell? ⟨g3,2,none⟩=some (.int .i64 y.b):=HY3.out.cell 2;have hl2:=HX3.out.lt;have hl3:=HY3.out.lt;have hl1:=HI3.out.lt;go_wp2_with (go_at_call 94;with_reducible refine (HSW.out ⟨16,x.a,x.b,0,0,0⟩ _ _ ((HI3.out.alloc _).alloc _) (ZeI _ _ ⟨16,x.a,x.b,0,0,0⟩)).mono ?_;rintro en w9 ⟨u9,rfl,ho9,hb9⟩;have HO9:=Za ho9;have HB9:=Za hb9;clear ho9 hb9);go_ret2;exact ⟨_,rfl,by rw [HG.out];exact HO9.out,HB9.out⟩
theorem ZfP {w:World} {gb:Nat} {u0 u1:Value} {gx:Nat} {x:Ac} {W w':World} (hb:InX w gb u0 u1 gx x W) {en:Ending} {V:Option (Int×List Ac)} (h1:Zbo W w' en V):∃n u,en=.returned (.tuple #[.int .i64 n,u])∧Zbo w w' (.returned (.tuple #[.int .i64 n,u])) V:=by
 cases V with
 | none =>
  obtain ⟨rfl,h2⟩:=h1;exact ⟨_,_,rfl,rfl,hb.i.b.trans (h2.mono hb.i.b.size)⟩
 | some r =>
  obtain ⟨n,r⟩:=r;obtain ⟨u,rfl,h2,h3⟩:=h1;exact ⟨_,_,rfl,u,rfl,Zr h2 hb.i.b.size,hb.i.b.trans (h3.mono hb.i.b.size)⟩
theorem ZiN (w:World) (ad:Addr) (c ge:Nat) (l:List Ac) (i:Nat) (h:Rs w ad c ge l) (hi:RowIn l i) (hl:l.length≤131072) (hs:ZE l) (hk:19≤(rowL l i).k∧0<(rowL l i).n∧(rowL l i).k≠25) (hsub:∀W,Below w.heap.size w W→Calls Try.prog 84 #[rsv ad l.length c ge,.int .i64 (i:Int)] W fun en w'=>Zbo W w' en (Zcn l i)) :
 Calls Try.prog 59 #[rsv ad l.length c ge,.int .i64 (i:Int)] w fun en w'=>Zbo w w' en (ZA l i):=by
 have hq0:=fun (W:World) (h8:Below w.heap.size w W)=>(Zx (h.below h8) hi.lt).1
 have hqe:=fun (W:World) (h8:Below w.heap.size w W)=>(Zx (h.below h8) hi.lt).2.1
 have hc:=h.r.n;have hcm:=h.r.m;have hgl:=h.e.lt;have hil:=hi.lt;have hie:=hi.e;obtain ⟨V,hV⟩:∃V,ZA l i=V:=⟨_,rfl⟩;rw [hV];obtain ⟨gx0,hgx0⟩:∃g,w.heap.size=g:=⟨_,rfl⟩;obtain ⟨x,hx⟩:∃x,rowL l i=x:=⟨_,rfl⟩;have HVU0:=Za hV;rw [hx] at hq0;have HSB:=Za (fun (gx:Nat) (W:World) (h8:InX w gx0 (.slice (some ad) l.length c) (.slice (some ⟨ge,0,none⟩) l.length l.length) gx x W)=>(hsub W h8.i.b).mono fun en w' h9=>ZfP h8 h9)
 try simp only [hx] at hk
 try simp only [hx] at hk5
 try simp only [hx] at hin
 try simp only [hx] at HSB
 try simp only [hx] at HIS
 try simp only [hx] at HTT
 try simp only [hx] at HSW
 try simp only [hx] at HBV
 obtain ⟨N,hN⟩:∃n,l.length=n:=⟨_,rfl⟩;have HB:=Za ((Below.refl w.heap.size w).alloc lr_ (.cells #[.slice (some ad) N c,.slice (some ⟨ge,0,none⟩) N N] 97));have HX:=Za (Blk.new w 97 #[.slice (some ad) N c,.slice (some ⟨ge,0,none⟩) N N]);unfold rsv at *;rw [hN] at hc hil hie HSB;rw [hN];have h1a:(0:Int)≤(i:Int):=by omega
 have h2a:(i:Int)<(N:Int):=by omega
 have hw1:=IntWalk.i64_in ((i:Int)+1) (by omega);obtain ⟨hk1,hk2,hk3⟩:=hk;have hb25:(x.k != 25)=true:=by simp [hk3]
 have HK:=Za (And.intro hk1 (And.intro hk2 hk3));have hk2b:x.n > 0:=hk2;clear hsub hk3;have HQ0:=Za hq0;have HQE:=Za hqe;have HNN:=Za hN;have HXX:=Za hx;have HIE:=Za hie;have HS:=Za h;clear h hN hs hq0 hqe hx hi hV hie;go_enter Try.func59,Try.ntmps59;go_upto_region 1 with fail;rw [hgx0] at HX;have HIN:=Za (show InBox w gx0 (.slice (some ad) N c) (.slice (some ⟨ge,0,none⟩) N N) (w.alloc (.cells #[.slice (some ad) N c,.slice (some ⟨ge,0,none⟩) N N] 97)) from ⟨HB.out,HX.out.cell 0,HX.out.cell 1,HX.out.lt⟩);generalize (w.alloc (.cells #[.slice (some ad) N c,.slice (some ⟨ge,0,none⟩) N N] 97))=W1 at HB HX HIN ⊢
 try simp only [hgx0]
 have HG:=Za hgx0;clear hgx0;have x0:=HIN.out.x0;have x1:=HIN.out.x1;obtain ⟨q0,q1,q2,q3,q4,q5⟩:=HQ0.out W1 HIN.out.b;go_upto_region 2 with fail;have HJ:=Za (show InX w gx0 (.slice (some ad) N c) (.slice (some ⟨ge,0,none⟩) N N) W1.heap.size x (W1.alloc (.cells #[.int .i64 x.k,.int .i64 x.a,.int .i64 x.b,.int .i64 x.c,.int .i64 x.d,.int .i64 x.n] 49)) from ZbA HIN.out);generalize W1.alloc (.cells #[.int .i64 x.k,.int .i64 x.a,.int .i64 x.b,.int .i64 x.c,.int .i64 x.d,.int .i64 x.n] 49)=W2 at HJ ⊢;obtain ⟨gx,hgx⟩:∃g,W1.heap.size=g:=⟨_,rfl⟩;rw [hgx] at HJ
 try simp only [hgx]
 clear hgx x0 x1 q0 q1 q2 q3 q4 q5;have x0:=HJ.out.i.x0;have x1:=HJ.out.i.x1;have y0:=HJ.out.y0;have y1:=HJ.out.y1;have y5:=HJ.out.y5;go_wp2_with (go_at_call 84;with_reducible refine (HSB.out _ _ HJ.out).mono ?_;rintro en w8 ⟨n8,u8,rfl,h8⟩;have HT8:=Za h8;clear h8);go_ret2;have e:=HVU0.out;unfold ZA at e;simp only [HXX.out] at e;rw [if_pos HK.out] at e;rw [←e];exact HT8.out
theorem ZkJ (w:World) (ad:Addr) (c ge:Nat) (l:List Ac) (i:Nat) (h:Rs w ad c ge l) (hi:RowIn l i) (hl:l.length≤131072) (hs:ZE l) (hk:(rowL l i).k=2) (hsub:∀W,Below w.heap.size w W→Calls Try.prog 85 #[rsv ad l.length c ge,.int .i64 (i:Int)] W fun en w'=>Zbo W w' en (Za4 l i)) :
 Calls Try.prog 59 #[rsv ad l.length c ge,.int .i64 (i:Int)] w fun en w'=>Zbo w w' en (ZA l i):=by
 have hq0:=fun (W:World) (h8:Below w.heap.size w W)=>(Zx (h.below h8) hi.lt).1
 have hqe:=fun (W:World) (h8:Below w.heap.size w W)=>(Zx (h.below h8) hi.lt).2.1
 have hc:=h.r.n;have hcm:=h.r.m;have hgl:=h.e.lt;have hil:=hi.lt;have hie:=hi.e;obtain ⟨V,hV⟩:∃V,ZA l i=V:=⟨_,rfl⟩;rw [hV];obtain ⟨gx0,hgx0⟩:∃g,w.heap.size=g:=⟨_,rfl⟩;obtain ⟨x,hx⟩:∃x,rowL l i=x:=⟨_,rfl⟩;have HVU0:=Za hV;rw [hx] at hq0;have HSB:=Za (fun (gx:Nat) (W:World) (h8:InX w gx0 (.slice (some ad) l.length c) (.slice (some ⟨ge,0,none⟩) l.length l.length) gx x W)=>(hsub W h8.i.b).mono fun en w' h9=>ZfP h8 h9)
 try simp only [hx] at hk
 try simp only [hx] at hk5
 try simp only [hx] at hin
 try simp only [hx] at HSB
 try simp only [hx] at HIS
 try simp only [hx] at HTT
 try simp only [hx] at HSW
 try simp only [hx] at HBV
 obtain ⟨N,hN⟩:∃n,l.length=n:=⟨_,rfl⟩;have HB:=Za ((Below.refl w.heap.size w).alloc lr_ (.cells #[.slice (some ad) N c,.slice (some ⟨ge,0,none⟩) N N] 97));have HX:=Za (Blk.new w 97 #[.slice (some ad) N c,.slice (some ⟨ge,0,none⟩) N N]);unfold rsv at *;rw [hN] at hc hil hie HSB;rw [hN];have h1a:(0:Int)≤(i:Int):=by omega
 have h2a:(i:Int)<(N:Int):=by omega
 have hw1:=IntWalk.i64_in ((i:Int)+1) (by omega);have hb2:(x.k == 2)=true:=by simp [hk]
 have hb3:(x.k == 3)=false:=by simp [hk]
 have hb4:(x.k == 4)=false:=by simp [hk]
 have hb1:(x.k == 1)=false:=by simp [hk]
 have hb9:(x.k == 9)=false:=by simp [hk]
 have hb19:¬(19:Int)≤x.k:=by omega
 have HK:=Za hk;clear hsub hk;have HQ0:=Za hq0;have HQE:=Za hqe;have HNN:=Za hN;have HXX:=Za hx;have HIE:=Za hie;have HS:=Za h;clear h hN hs hq0 hqe hx hi hV hie;go_enter Try.func59,Try.ntmps59;go_upto_region 1 with fail;rw [hgx0] at HX;have HIN:=Za (show InBox w gx0 (.slice (some ad) N c) (.slice (some ⟨ge,0,none⟩) N N) (w.alloc (.cells #[.slice (some ad) N c,.slice (some ⟨ge,0,none⟩) N N] 97)) from ⟨HB.out,HX.out.cell 0,HX.out.cell 1,HX.out.lt⟩);generalize (w.alloc (.cells #[.slice (some ad) N c,.slice (some ⟨ge,0,none⟩) N N] 97))=W1 at HB HX HIN ⊢
 try simp only [hgx0]
 have HG:=Za hgx0;clear hgx0;have x0:=HIN.out.x0;have x1:=HIN.out.x1;obtain ⟨q0,q1,q2,q3,q4,q5⟩:=HQ0.out W1 HIN.out.b;go_upto_region 2 with fail;have HJ:=Za (show InX w gx0 (.slice (some ad) N c) (.slice (some ⟨ge,0,none⟩) N N) W1.heap.size x (W1.alloc (.cells #[.int .i64 x.k,.int .i64 x.a,.int .i64 x.b,.int .i64 x.c,.int .i64 x.d,.int .i64 x.n] 49)) from ZbA HIN.out);generalize W1.alloc (.cells #[.int .i64 x.k,.int .i64 x.a,.int .i64 x.b,.int .i64 x.c,.int .i64 x.d,.int .i64 x.n] 49)=W2 at HJ ⊢;obtain ⟨gx,hgx⟩:∃g,W1.heap.size=g:=⟨_,rfl⟩;rw [hgx] at HJ
 try simp only [hgx]
 clear hgx x0 x1 q0 q1 q2 q3 q4 q5;have x0:=HJ.out.i.x0;have x1:=HJ.out.i.x1;have y0:=HJ.out.y0;have y1:=HJ.out.y1;have y5:=HJ.out.y5;go_wp2_with (go_at_call 85;with_reducible refine (HSB.out _ _ HJ.out).mono ?_;rintro en w8 ⟨n8,u8,rfl,h8⟩;have HT8:=Za h8;clear h8);go_ret2;have e:=HVU0.out;unfold ZA at e;simp only [HXX.out] at e;rw [if_neg (by have:=HK.out;omega),if_pos HK.out] at e;rw [←e];exact HT8.out
theorem ZiK (w:World) (ad:Addr) (c ge:Nat) (l:List Ac) (i:Nat) (h:Rs w ad c ge l) (hi:RowIn l i) (hl:l.length≤131072) (hs:ZE l) (hk:(rowL l i).k=9) (hsub:∀W,Below w.heap.size w W→Calls Try.prog 95 #[rsv ad l.length c ge,.int .i64 (i:Int)] W fun en w'=>Zbo W w' en (some (18,ZI l i (i+(ZaG (rowL l i) (rowL l (i+1)) (rowL l (i+2))).2) [(ZaG (rowL l i) (rowL l (i+1)) (rowL l (i+2))).1] (1 - ((ZaG (rowL l i) (rowL l (i+1)) (rowL l (i+2))).2:Int))))) :
 Calls Try.prog 59 #[rsv ad l.length c ge,.int .i64 (i:Int)] w fun en w'=>Zbo w w' en (ZA l i):=by
 have hq0:=fun (W:World) (h8:Below w.heap.size w W)=>(Zx (h.below h8) hi.lt).1
 have hqe:=fun (W:World) (h8:Below w.heap.size w W)=>(Zx (h.below h8) hi.lt).2.1
 have hc:=h.r.n;have hcm:=h.r.m;have hgl:=h.e.lt;have hil:=hi.lt;have hie:=hi.e;obtain ⟨V,hV⟩:∃V,ZA l i=V:=⟨_,rfl⟩;rw [hV];obtain ⟨gx0,hgx0⟩:∃g,w.heap.size=g:=⟨_,rfl⟩;obtain ⟨x,hx⟩:∃x,rowL l i=x:=⟨_,rfl⟩;have HVU0:=Za hV;rw [hx] at hq0;have HSB:=Za (fun (gx:Nat) (W:World) (h8:InX w gx0 (.slice (some ad) l.length c) (.slice (some ⟨ge,0,none⟩) l.length l.length) gx x W)=>(hsub W h8.i.b).mono fun en w' h9=>ZfP h8 h9)
 try simp only [hx] at hk
 try simp only [hx] at hk5
 try simp only [hx] at hin
 try simp only [hx] at HSB
 try simp only [hx] at HIS
 try simp only [hx] at HTT
 try simp only [hx] at HSW
 try simp only [hx] at HBV
 obtain ⟨N,hN⟩:∃n,l.length=n:=⟨_,rfl⟩;have HB:=Za ((Below.refl w.heap.size w).alloc lr_ (.cells #[.slice (some ad) N c,.slice (some ⟨ge,0,none⟩) N N] 97));have HX:=Za (Blk.new w 97 #[.slice (some ad) N c,.slice (some ⟨ge,0,none⟩) N N]);unfold rsv at *;rw [hN] at hc hil hie HSB;rw [hN];have h1a:(0:Int)≤(i:Int):=by omega
 have h2a:(i:Int)<(N:Int):=by omega
 have hw1:=IntWalk.i64_in ((i:Int)+1) (by omega);have hb2:(x.k == 2)=false:=by simp [hk]
 have hb3:(x.k == 3)=false:=by simp [hk]
 have hb4:(x.k == 4)=false:=by simp [hk]
 have hb1:(x.k == 1)=false:=by simp [hk]
 have hb9:(x.k == 9)=true:=by simp [hk]
 have hb19:¬(19:Int)≤x.k:=by omega
 have HK:=Za hk;clear hsub hk;have HQ0:=Za hq0;have HQE:=Za hqe;have HNN:=Za hN;have HXX:=Za hx;have HIE:=Za hie;have HS:=Za h;clear h hN hs hq0 hqe hx hi hV hie;go_enter Try.func59,Try.ntmps59;go_upto_region 1 with fail;rw [hgx0] at HX;have HIN:=Za (show InBox w gx0 (.slice (some ad) N c) (.slice (some ⟨ge,0,none⟩) N N) (w.alloc (.cells #[.slice (some ad) N c,.slice (some ⟨ge,0,none⟩) N N] 97)) from ⟨HB.out,HX.out.cell 0,HX.out.cell 1,HX.out.lt⟩);generalize (w.alloc (.cells #[.slice (some ad) N c,.slice (some ⟨ge,0,none⟩) N N] 97))=W1 at HB HX HIN ⊢
 try simp only [hgx0]
 have HG:=Za hgx0;clear hgx0;have x0:=HIN.out.x0;have x1:=HIN.out.x1;obtain ⟨q0,q1,q2,q3,q4,q5⟩:=HQ0.out W1 HIN.out.b;go_upto_region 2 with fail;have HJ:=Za (show InX w gx0 (.slice (some ad) N c) (.slice (some ⟨ge,0,none⟩) N N) W1.heap.size x (W1.alloc (.cells #[.int .i64 x.k,.int .i64 x.a,.int .i64 x.b,.int .i64 x.c,.int .i64 x.d,.int .i64 x.n] 49)) from ZbA HIN.out);generalize W1.alloc (.cells #[.int .i64 x.k,.int .i64 x.a,.int .i64 x.b,.int .i64 x.c,.int .i64 x.d,.int .i64 x.n] 49)=W2 at HJ ⊢;obtain ⟨gx,hgx⟩:∃g,W1.heap.size=g:=⟨_,rfl⟩;rw [hgx] at HJ
 try simp only [hgx]
 clear hgx x0 x1 q0 q1 q2 q3 q4 q5;have x0:=HJ.out.i.x0;have x1:=HJ.out.i.x1;have y0:=HJ.out.y0;have y1:=HJ.out.y1;have y5:=HJ.out.y5;go_wp2_with (go_at_call 95;with_reducible refine (HSB.out _ _ HJ.out).mono ?_;rintro en w8 ⟨n8,u8,rfl,h8⟩;have HT8:=Za h8;clear h8);go_ret2;have e:=HVU0.out;unfold ZA at e;simp only [HXX.out] at e;have hk:=HK.out;rw [if_neg (by omega),if_neg (by omega),if_neg (by omega),if_neg (by omega),if_neg (by omega),if_pos hk] at e;rw [←e];exact HT8.out
theorem Zjz (w:World) (ad:Addr) (c ge:Nat) (l:List Ac) (i:Nat) (h:Rs w ad c ge l) (hi:RowIn l i) (hl:l.length≤131072) (hs:ZE l) (hk:¬(19≤(rowL l i).k∧0<(rowL l i).n∧(rowL l i).k≠25)) (hk5:(rowL l i).k≠2∧(rowL l i).k≠3∧(rowL l i).k≠4∧(rowL l i).k≠1∧(rowL l i).k≠9) :
 Calls Try.prog 59 #[rsv ad l.length c ge,.int .i64 (i:Int)] w fun en w'=>Zbo w w' en (ZA l i):=by
 have hq0:=fun (W:World) (h8:Below w.heap.size w W)=>(Zx (h.below h8) hi.lt).1
 have hqe:=fun (W:World) (h8:Below w.heap.size w W)=>(Zx (h.below h8) hi.lt).2.1
 have hc:=h.r.n;have hcm:=h.r.m;have hgl:=h.e.lt;have hil:=hi.lt;have hie:=hi.e;obtain ⟨V,hV⟩:∃V,ZA l i=V:=⟨_,rfl⟩;rw [hV];obtain ⟨gx0,hgx0⟩:∃g,w.heap.size=g:=⟨_,rfl⟩;obtain ⟨x,hx⟩:∃x,rowL l i=x:=⟨_,rfl⟩;have HVU0:=Za hV;rw [hx] at hq0
 try simp only [hx] at hk
 try simp only [hx] at hk5
 try simp only [hx] at hin
 try simp only [hx] at HSB
 try simp only [hx] at HIS
 try simp only [hx] at HTT
 try simp only [hx] at HSW
 try simp only [hx] at HBV
 obtain ⟨N,hN⟩:∃n,l.length=n:=⟨_,rfl⟩;have HB:=Za ((Below.refl w.heap.size w).alloc lr_ (.cells #[.slice (some ad) N c,.slice (some ⟨ge,0,none⟩) N N] 97));have HX:=Za (Blk.new w 97 #[.slice (some ad) N c,.slice (some ⟨ge,0,none⟩) N N]);unfold rsv at *;rw [hN] at hc hil hie;rw [hN];have h1a:(0:Int)≤(i:Int):=by omega
 have h2a:(i:Int)<(N:Int):=by omega
 have hw1:=IntWalk.i64_in ((i:Int)+1) (by omega);have HK:=Za (And.intro hk hk5);obtain ⟨n2,n3,n4,n1,n9⟩:=hk5;have hb2:(x.k == 2)=false:=by simp [n2]
 have hb3:(x.k == 3)=false:=by simp [n3]
 have hb4:(x.k == 4)=false:=by simp [n4]
 have hb1:(x.k == 1)=false:=by simp [n1]
 have hb9:(x.k == 9)=false:=by simp [n9]
 clear n2 n3 n4 n1 n9;have hkc:¬(19:Int)≤x.k∨((19:Int)≤x.k∧¬x.n > 0)∨((19:Int)≤x.k∧x.n > 0∧(x.k != 25)=false):=by simp only [bne_eq_false_iff_eq];omega
 clear hk;have HQ0:=Za hq0;have HQE:=Za hqe;have HNN:=Za hN;have HXX:=Za hx;have HIE:=Za hie;have HS:=Za h;clear h hN hs hq0 hqe hx hi hV hie;go_enter Try.func59,Try.ntmps59;go_upto_region 1 with fail;rw [hgx0] at HX;have HIN:=Za (show InBox w gx0 (.slice (some ad) N c) (.slice (some ⟨ge,0,none⟩) N N) (w.alloc (.cells #[.slice (some ad) N c,.slice (some ⟨ge,0,none⟩) N N] 97)) from ⟨HB.out,HX.out.cell 0,HX.out.cell 1,HX.out.lt⟩);generalize (w.alloc (.cells #[.slice (some ad) N c,.slice (some ⟨ge,0,none⟩) N N] 97))=W1 at HB HX HIN ⊢
 try simp only [hgx0]
 have HG:=Za hgx0;clear hgx0;have x0:=HIN.out.x0;have x1:=HIN.out.x1;obtain ⟨q0,q1,q2,q3,q4,q5⟩:=HQ0.out W1 HIN.out.b;go_upto_region 2 with fail;have HJ:=Za (show InX w gx0 (.slice (some ad) N c) (.slice (some ⟨ge,0,none⟩) N N) W1.heap.size x (W1.alloc (.cells #[.int .i64 x.k,.int .i64 x.a,.int .i64 x.b,.int .i64 x.c,.int .i64 x.d,.int .i64 x.n] 49)) from ZbA HIN.out);generalize W1.alloc (.cells #[.int .i64 x.k,.int .i64 x.a,.int .i64 x.b,.int .i64 x.c,.int .i64 x.d,.int .i64 x.n] 49)=W2 at HJ ⊢;obtain ⟨gx,hgx⟩:∃g,W1.heap.size=g:=⟨_,rfl⟩;rw [hgx] at HJ
 try simp only [hgx]
 clear hgx x0 x1 q0 q1 q2 q3 q4 q5;have x0:=HJ.out.i.x0;have x1:=HJ.out.i.x1;have y0:=HJ.out.y0;have y1:=HJ.out.y1;have y5:=HJ.out.y5;rcases hkc with h19 | ⟨h19,hn0⟩ | ⟨h19,hn0,h25⟩
 all_goals (go_wp2_with fail)
 all_goals go_ret2
 all_goals (have e:=HVU0.out;unfold ZA at e;simp only [HXX.out] at e;have hk:=HK.out;rw [if_neg hk.1,if_neg hk.2.1,if_neg hk.2.2.1,if_neg hk.2.2.2.1,if_neg (fun q=>hk.2.2.2.2.1 q.1),if_neg hk.2.2.2.2.2,if_neg (fun q=>hk.2.2.2.2.1 q.1)] at e;rw [←e];exact ⟨rfl,HJ.out.i.b⟩)
theorem Zjy (w:World) (ad:Addr) (c ge:Nat) (l:List Ac) (i:Nat) (h:Rs w ad c ge l) (hi:RowIn l i) (hl:l.length≤131072) (hs:ZE l) (hk:(rowL l i).k=4) (hic:RowIn l (i+1)) :
 Calls Try.prog 59 #[rsv ad l.length c ge,.int .i64 (i:Int)] w fun en w'=>Zbo w w' en (ZA l i):=by
 have hq0:=fun (W:World) (h8:Below w.heap.size w W)=>(Zx (h.below h8) hi.lt).1
 have hqe:=fun (W:World) (h8:Below w.heap.size w W)=>(Zx (h.below h8) hi.lt).2.1
 have hc:=h.r.n;have hcm:=h.r.m;have hgl:=h.e.lt;have hil:=hi.lt;have hie:=hi.e;obtain ⟨V,hV⟩:∃V,ZA l i=V:=⟨_,rfl⟩;rw [hV];obtain ⟨gx0,hgx0⟩:∃g,w.heap.size=g:=⟨_,rfl⟩;obtain ⟨x,hx⟩:∃x,rowL l i=x:=⟨_,rfl⟩;have HVU0:=Za hV;rw [hx] at hq0;obtain ⟨t,ht⟩:∃t,isW l (i+1) 21 (rowL l i).a=t:=⟨_,rfl⟩;have HIS:=Za (fun (gx:Nat) (W:World) (h8:InX w gx0 (.slice (some ad) l.length c) (.slice (some ⟨ge,0,none⟩) l.length l.length) gx x W)=>ZlC w ad c ge l (i+1) h hic.lt hl W h8 21 (rowL l i).a ht);have HTT:=Za ht;have HNO:=Za (fun (gx:Nat) (W:World) (h8:InX w gx0 (.slice (some ad) l.length c) (.slice (some ⟨ge,0,none⟩) l.length l.length) gx x W)=>ZcZ w ad c ge l i h hi hl W h8 hs);simp only [hx] at HIS HTT
 try simp only [hx] at hk
 try simp only [hx] at hk5
 try simp only [hx] at hin
 try simp only [hx] at HSB
 try simp only [hx] at HIS
 try simp only [hx] at HTT
 try simp only [hx] at HSW
 try simp only [hx] at HBV
 obtain ⟨N,hN⟩:∃n,l.length=n:=⟨_,rfl⟩;have HB:=Za ((Below.refl w.heap.size w).alloc lr_ (.cells #[.slice (some ad) N c,.slice (some ⟨ge,0,none⟩) N N] 97));have HX:=Za (Blk.new w 97 #[.slice (some ad) N c,.slice (some ⟨ge,0,none⟩) N N]);unfold rsv at *;rw [hN] at hc hil hie HIS HNO;rw [hN];have h1a:(0:Int)≤(i:Int):=by omega
 have h2a:(i:Int)<(N:Int):=by omega
 have hw1:=IntWalk.i64_in ((i:Int)+1) (by omega);have hb2:(x.k == 2)=false:=by simp [hk]
 have hb3:(x.k == 3)=false:=by simp [hk]
 have hb4:(x.k == 4)=true:=by simp [hk]
 have hb1:(x.k == 1)=false:=by simp [hk]
 have hb9:(x.k == 9)=false:=by simp [hk]
 have hb19:¬(19:Int)≤x.k:=by omega
 have HK:=Za hk;rw [show (((i+1:Nat)):Int)=(i:Int)+1 by omega] at HIS;clear hk hic ht;have HQ0:=Za hq0;have HQE:=Za hqe;have HNN:=Za hN;have HXX:=Za hx;have HIE:=Za hie;have HS:=Za h;clear h hN hs hq0 hqe hx hi hV hie;go_enter Try.func59,Try.ntmps59;go_upto_region 1 with fail;rw [hgx0] at HX;have HIN:=Za (show InBox w gx0 (.slice (some ad) N c) (.slice (some ⟨ge,0,none⟩) N N) (w.alloc (.cells #[.slice (some ad) N c,.slice (some ⟨ge,0,none⟩) N N] 97)) from ⟨HB.out,HX.out.cell 0,HX.out.cell 1,HX.out.lt⟩);generalize (w.alloc (.cells #[.slice (some ad) N c,.slice (some ⟨ge,0,none⟩) N N] 97))=W1 at HB HX HIN ⊢
 try simp only [hgx0]
 have HG:=Za hgx0;clear hgx0;have x0:=HIN.out.x0;have x1:=HIN.out.x1;obtain ⟨q0,q1,q2,q3,q4,q5⟩:=HQ0.out W1 HIN.out.b;go_upto_region 2 with fail;have HJ:=Za (show InX w gx0 (.slice (some ad) N c) (.slice (some ⟨ge,0,none⟩) N N) W1.heap.size x (W1.alloc (.cells #[.int .i64 x.k,.int .i64 x.a,.int .i64 x.b,.int .i64 x.c,.int .i64 x.d,.int .i64 x.n] 49)) from ZbA HIN.out);generalize W1.alloc (.cells #[.int .i64 x.k,.int .i64 x.a,.int .i64 x.b,.int .i64 x.c,.int .i64 x.d,.int .i64 x.n] 49)=W2 at HJ ⊢;obtain ⟨gx,hgx⟩:∃g,W1.heap.size=g:=⟨_,rfl⟩;rw [hgx] at HJ
 try simp only [hgx]
 clear hgx x0 x1 q0 q1 q2 q3 q4 q5;have x0:=HJ.out.i.x0;have x1:=HJ.out.i.x1;have y0:=HJ.out.y0;have y1:=HJ.out.y1;have y5:=HJ.out.y5
 cases t with
 | true =>
  go_upto_region 17 with (go_at_call 87;with_reducible refine (HIS.out _ _ HJ.out).mono ?_;rintro en w5 ⟨rfl,hI5⟩;have HI5:=Za hI5;have x50:=hI5.i.x0;have x51:=hI5.i.x1;have y51:=hI5.y1;clear hI5);go_wp2_with (go_at_call 90;with_reducible refine (HNO.out _ _ HI5.out).mono ?_;rintro en w9 ⟨u9,rfl,ho9,hb9⟩;have HO9:=Za ho9;have HB9:=Za hb9;clear ho9 hb9);go_ret2;have e:=HVU0.out;unfold ZA at e;simp only [HXX.out] at e;have hk:=HK.out;rw [if_neg (by omega),if_neg (by omega),if_neg (by omega),if_pos hk,if_pos HTT.out] at e;rw [←e];exact ⟨_,rfl,HO9.out,HB9.out⟩
 | false =>
  go_wp2_with (go_at_call 87;with_reducible refine (HIS.out _ _ HJ.out).mono ?_;rintro en w5 ⟨rfl,hI5⟩;have HI5:=Za hI5;have x50:=hI5.i.x0;have x51:=hI5.i.x1;have y51:=hI5.y1;clear hI5);go_ret2;have e:=HVU0.out;unfold ZA at e;simp only [HXX.out] at e;have hk:=HK.out;rw [if_neg (by omega),if_neg (by omega),if_neg (by omega),if_pos hk,if_neg (by rw [HTT.out];simp)] at e;rw [←e];exact ⟨rfl,HI5.out.i.b⟩
theorem ZiL (w:World) (ad:Addr) (c ge:Nat) (l:List Ac) (i:Nat) (h:Rs w ad c ge l) (hi:RowIn l i) (hl:l.length≤131072) (hs:ZE l) (hk:(rowL l i).k=1) (hz:i=0) :
 Calls Try.prog 59 #[rsv ad l.length c ge,.int .i64 (i:Int)] w fun en w'=>Zbo w w' en (ZA l i):=by
 have hq0:=fun (W:World) (h8:Below w.heap.size w W)=>(Zx (h.below h8) hi.lt).1
 have hqe:=fun (W:World) (h8:Below w.heap.size w W)=>(Zx (h.below h8) hi.lt).2.1
 have hc:=h.r.n;have hcm:=h.r.m;have hgl:=h.e.lt;have hil:=hi.lt;have hie:=hi.e;obtain ⟨V,hV⟩:∃V,ZA l i=V:=⟨_,rfl⟩;rw [hV];obtain ⟨gx0,hgx0⟩:∃g,w.heap.size=g:=⟨_,rfl⟩;obtain ⟨x,hx⟩:∃x,rowL l i=x:=⟨_,rfl⟩;have HVU0:=Za hV;rw [hx] at hq0
 try simp only [hx] at hk
 try simp only [hx] at hk5
 try simp only [hx] at hin
 try simp only [hx] at HSB
 try simp only [hx] at HIS
 try simp only [hx] at HTT
 try simp only [hx] at HSW
 try simp only [hx] at HBV
 obtain ⟨N,hN⟩:∃n,l.length=n:=⟨_,rfl⟩;have HB:=Za ((Below.refl w.heap.size w).alloc lr_ (.cells #[.slice (some ad) N c,.slice (some ⟨ge,0,none⟩) N N] 97));have HX:=Za (Blk.new w 97 #[.slice (some ad) N c,.slice (some ⟨ge,0,none⟩) N N]);unfold rsv at *;rw [hN] at hc hil hie;rw [hN];have h1a:(0:Int)≤(i:Int):=by omega
 have h2a:(i:Int)<(N:Int):=by omega
 have hw1:=IntWalk.i64_in ((i:Int)+1) (by omega);have hb2:(x.k == 2)=false:=by simp [hk]
 have hb3:(x.k == 3)=false:=by simp [hk]
 have hb4:(x.k == 4)=false:=by simp [hk]
 have hb1:(x.k == 1)=true:=by simp [hk]
 have hb9:(x.k == 9)=false:=by simp [hk]
 have hb19:¬(19:Int)≤x.k:=by omega
 have HK:=Za hk;have HZ:=Za hz;have hng:¬(i:Int) > 0:=by omega
 clear hk hz;have HQ0:=Za hq0;have HQE:=Za hqe;have HNN:=Za hN;have HXX:=Za hx;have HIE:=Za hie;have HS:=Za h;clear h hN hs hq0 hqe hx hi hV hie;go_enter Try.func59,Try.ntmps59;go_upto_region 1 with fail;rw [hgx0] at HX;have HIN:=Za (show InBox w gx0 (.slice (some ad) N c) (.slice (some ⟨ge,0,none⟩) N N) (w.alloc (.cells #[.slice (some ad) N c,.slice (some ⟨ge,0,none⟩) N N] 97)) from ⟨HB.out,HX.out.cell 0,HX.out.cell 1,HX.out.lt⟩);generalize (w.alloc (.cells #[.slice (some ad) N c,.slice (some ⟨ge,0,none⟩) N N] 97))=W1 at HB HX HIN ⊢
 try simp only [hgx0]
 have HG:=Za hgx0;clear hgx0;have x0:=HIN.out.x0;have x1:=HIN.out.x1;obtain ⟨q0,q1,q2,q3,q4,q5⟩:=HQ0.out W1 HIN.out.b;go_upto_region 2 with fail;have HJ:=Za (show InX w gx0 (.slice (some ad) N c) (.slice (some ⟨ge,0,none⟩) N N) W1.heap.size x (W1.alloc (.cells #[.int .i64 x.k,.int .i64 x.a,.int .i64 x.b,.int .i64 x.c,.int .i64 x.d,.int .i64 x.n] 49)) from ZbA HIN.out);generalize W1.alloc (.cells #[.int .i64 x.k,.int .i64 x.a,.int .i64 x.b,.int .i64 x.c,.int .i64 x.d,.int .i64 x.n] 49)=W2 at HJ ⊢;obtain ⟨gx,hgx⟩:∃g,W1.heap.size=g:=⟨_,rfl⟩;rw [hgx] at HJ
 try simp only [hgx]
 clear hgx x0 x1 q0 q1 q2 q3 q4 q5;have x0:=HJ.out.i.x0;have x1:=HJ.out.i.x1;have y0:=HJ.out.y0;have y1:=HJ.out.y1;have y5:=HJ.out.y5
 by_cases hn:x.n=0
 · have hnb:(x.n == 0)=true:=by simp [hn]
   have HN:=Za hn;clear hn;go_wp2_with fail;go_ret2;have e:=HVU0.out;unfold ZA at e;simp only [HXX.out] at e;have hk:=HK.out;have hn:=HN.out;have hz:=HZ.out;rw [if_neg (by omega),if_neg (by omega),if_neg (by omega),if_neg (by omega),if_neg (by omega),if_neg (by omega),if_pos ⟨hk,hn⟩] at e;rw [←e];exact ⟨_,rfl,World.ownsRow_nil _ _ _ _,HJ.out.i.b⟩
 · have hnb:(x.n == 0)=false:=by simp [hn]
   have HN:=Za hn;clear hn;go_wp2_with fail;go_ret2;have e:=HVU0.out;unfold ZA at e;simp only [HXX.out] at e;have hk:=HK.out;have hn:=HN.out;have hz:=HZ.out;rw [if_neg (by omega),if_neg (by omega),if_neg (by omega),if_neg (by omega),if_neg (by omega),if_neg (by omega),if_neg (fun q=>hn q.2)] at e;rw [←e];exact ⟨rfl,HJ.out.i.b⟩
theorem ZhK (w:World) (ad:Addr) (c ge:Nat) (l:List Ac) (i:Nat) (h:Rs w ad c ge l) (hi:RowIn l i) (hl:l.length≤131072) (hs:ZE l) (hk:(rowL l i).k=1) (p:Nat) (hup:upL l i i=some p) (hp:p<l.length) (hpos:0<i) (hin:(rowL l i).n≤200000∧0≤(rowL l i).n) :
 Calls Try.prog 59 #[rsv ad l.length c ge,.int .i64 (i:Int)] w fun en w'=>Zbo w w' en (ZA l i):=by
 have hq0:=fun (W:World) (h8:Below w.heap.size w W)=>(Zx (h.below h8) hi.lt).1
 have hqe:=fun (W:World) (h8:Below w.heap.size w W)=>(Zx (h.below h8) hi.lt).2.1
 have hc:=h.r.n;have hcm:=h.r.m;have hgl:=h.e.lt;have hil:=hi.lt;have hie:=hi.e;obtain ⟨V,hV⟩:∃V,ZA l i=V:=⟨_,rfl⟩;rw [hV];obtain ⟨gx0,hgx0⟩:∃g,w.heap.size=g:=⟨_,rfl⟩;obtain ⟨x,hx⟩:∃x,rowL l i=x:=⟨_,rfl⟩;have HVU0:=Za hV;rw [hx] at hq0;have HUP:=Za (fun (W:World) (h8:Below w.heap.size w W)=>(Zlx W ad c ge l i (h.below h8) hi.lt hl).mono (R':=fun en w'=>en=.returned (.int .i64 (p:Int))∧Below W.heap.size W w') (by rw [hup];exact fun en w' h9=>h9));have HQP:=Za (fun (W:World) (h8:Below w.heap.size w W)=>(Zx (h.below h8) hp).1.1);have HUPV:=Za hup;obtain ⟨E,hE⟩:∃e,endL l i=e:=⟨_,rfl⟩;have HEE:=Za hE;have hsrc:=fun (W:World) (h8:Below w.heap.size w W)=>Zbe (r:=(i+1,E)) ((h.below h8).r.s) (by rw [←hE];exact hi.e.1) (by rw [←hE];exact hi.e.2)
 have hsl:(sub l (i+1,E)).length=E - (i+1):=ZaE (by rw [←hE];exact hi.e.2);have HSL:=Za hsl;have HSW:=Za (fun (oi:Option Addr) (ni ci:Nat) (hn:(sub l (i+1,E)).length=ni) (W:World) (h8:Below w.heap.size w W) (hr:Src W oi (sub l (i+1,E)).length (acs (sub l (i+1,E))))=>(Zcu W ad c ge l i E oi ni ci (sub l (i+1,E)) 1 (rowL l i).n (h.below h8) hi.lt (by rw [←hE];exact hi.e) hl hs hn hr (by rw [hsl,←hE];have:=hi.e.2;omega) (by omega)).mono (R':=fun en w'=>∃u,en=.returned u∧w'.ownsRow gx0 49 6 u (ZI l i E (sub l (i+1,E)) ((rowL l i).n - 1)).length (acs (ZI l i E (sub l (i+1,E)) ((rowL l i).n - 1)))∧Below w.heap.size w w') (by rintro en w' ⟨u,e1,e2,e3⟩;exact ⟨u,e1,Zr e2 (by rw [←hgx0];exact h8.size),h8.trans (e3.mono h8.size)⟩));have HSR:=Za hsrc;rw [hE] at hqe hie;clear hup hE hsrc hsl
 try simp only [hx] at hk
 try simp only [hx] at hk5
 try simp only [hx] at hin
 try simp only [hx] at HSB
 try simp only [hx] at HIS
 try simp only [hx] at HTT
 try simp only [hx] at HSW
 try simp only [hx] at HBV
 obtain ⟨N,hN⟩:∃n,l.length=n:=⟨_,rfl⟩;have HB:=Za ((Below.refl w.heap.size w).alloc lr_ (.cells #[.slice (some ad) N c,.slice (some ⟨ge,0,none⟩) N N] 97));have HX:=Za (Blk.new w 97 #[.slice (some ad) N c,.slice (some ⟨ge,0,none⟩) N N]);unfold rsv at *;rw [hN] at hc hil hie hp HUP HSW;rw [hN];have h1a:(0:Int)≤(i:Int):=by omega
 have h2a:(i:Int)<(N:Int):=by omega
 have hw1:=IntWalk.i64_in ((i:Int)+1) (by omega);have hb2:(x.k == 2)=false:=by simp [hk]
 have hb3:(x.k == 3)=false:=by simp [hk]
 have hb4:(x.k == 4)=false:=by simp [hk]
 have hb1:(x.k == 1)=true:=by simp [hk]
 have hb9:(x.k == 9)=false:=by simp [hk]
 have hb19:¬(19:Int)≤x.k:=by omega
 have HK:=Za hk;have HP0:=Za hpos;have hgt:(i:Int) > 0:=by omega
 have hp0:(0:Int)≤(p:Int):=by omega
 have hp1:(p:Int)<(N:Int):=by omega
 have hE0:(i:Int)+1≤(E:Int):=by omega
 have hE1:(E:Int)≤(c:Int):=by omega
 have hE2:(0:Int)≤(i:Int)+1:=by omega
 clear hk hin hpos;have HQ0:=Za hq0;have HQE:=Za hqe;have HNN:=Za hN;have HXX:=Za hx;have HIE:=Za hie;have HS:=Za h;clear h hN hs hq0 hqe hx hi hV hie;go_enter Try.func59,Try.ntmps59;go_upto_region 1 with fail;rw [hgx0] at HX;have HIN:=Za (show InBox w gx0 (.slice (some ad) N c) (.slice (some ⟨ge,0,none⟩) N N) (w.alloc (.cells #[.slice (some ad) N c,.slice (some ⟨ge,0,none⟩) N N] 97)) from ⟨HB.out,HX.out.cell 0,HX.out.cell 1,HX.out.lt⟩);generalize (w.alloc (.cells #[.slice (some ad) N c,.slice (some ⟨ge,0,none⟩) N N] 97))=W1 at HB HX HIN ⊢
 try simp only [hgx0]
 have HG:=Za hgx0;clear hgx0;have x0:=HIN.out.x0;have x1:=HIN.out.x1;obtain ⟨q0,q1,q2,q3,q4,q5⟩:=HQ0.out W1 HIN.out.b;go_upto_region 2 with fail;have HJ:=Za (show InX w gx0 (.slice (some ad) N c) (.slice (some ⟨ge,0,none⟩) N N) W1.heap.size x (W1.alloc (.cells #[.int .i64 x.k,.int .i64 x.a,.int .i64 x.b,.int .i64 x.c,.int .i64 x.d,.int .i64 x.n] 49)) from ZbA HIN.out);generalize W1.alloc (.cells #[.int .i64 x.k,.int .i64 x.a,.int .i64 x.b,.int .i64 x.c,.int .i64 x.d,.int .i64 x.n] 49)=W2 at HJ ⊢;obtain ⟨gx,hgx⟩:∃g,W1.heap.size=g:=⟨_,rfl⟩;rw [hgx] at HJ
 try simp only [hgx]
 clear hgx x0 x1 q0 q1 q2 q3 q4 q5;have x0:=HJ.out.i.x0;have x1:=HJ.out.i.x1;have y0:=HJ.out.y0;have y1:=HJ.out.y1;have y5:=HJ.out.y5;go_upto_region 19 with fail;have hgr:=fun (z:Grown W2)=>HJ.out.below z.b
 have g0:=fun (z:Grown W2)=>(hgr z).i.x0
 have g1:=fun (z:Grown W2)=>(hgr z).i.x1
 have hqp:=fun (z:Grown W2)=>HQP.out z.v (hgr z).i.b
 have HU:=Za (fun (z:Grown W2)=>HUP.out z.v (hgr z).i.b);clear hgr
 by_cases hk1:(rowL l p).k=1
 · have HK1:=Za hk1;simp only [hk1] at hqp;clear hk1;refine ZG br_ (by kernel_rfl) (by kernel_rfl) ?_
   repeat (go_big_quiet_step ((go_at_call 93;exact ZK (HU.out _))))
   refine wpQuiet_nil ?_;intro w10 hw10;obtain ⟨⟨w10,hb10⟩,rfl⟩:=hw10;have HGE:=Za (HJ.out.below hb10);clear g0 g1 hqp hb10 HU x0 x1 y0 y1 y5;have x0:=HGE.out.i.x0;have x1:=HGE.out.i.x1;have y5:=HGE.out.y5;have qe:=HQE.out _ HGE.out.i.b
   by_cases hci:c=i+1
   · have hce:E=i+1:=by omega
     have HCE:=Za hce;subst hci;have hE1b:(E:Int)≤(i:Int)+1:=by omega
     clear hce;have HSE:=Za (show (sub l (i+1,E)).length=0 by rw [HSL.out];have:=HCE.out;omega);go_upto_region 20 with fail;have HR9:=Za (show Src w10.drew (some ad) (sub l (i+1,E)).length (acs (sub l (i+1,E))) from fun h0=>absurd h0 (by rw [HSE.out];omega));go_still_tail 19,(by kernel_rfl);change wpList _ _ _ _ _ w10.drew;go_wp2_with fail;go_at_call 94;with_reducible refine (HSW.out (some ad) (E - (i+1)) 0 HSL.out _ HGE.out.i.b.drew HR9.out).mono ?_
     rintro en w9 ⟨u9,rfl,ho9,hb9⟩;have HO9:=Za ho9;have HB9:=Za hb9;clear ho9 hb9;go_wp2_with fail;go_ret2;have e:=HVU0.out;rw [Zdv (by rw [HXX.out];exact HK.out) HP0.out HUPV.out HK1.out,HEE.out,HXX.out] at e;rw [←e];exact ⟨_,rfl,by rw [HG.out];exact HO9.out,HB9.out⟩
   · skip;go_upto_region 20 with fail;have HR9:=Za (HSR.out w10.drew HGE.out.i.b.drew);clear HSR;go_still_tail 19,(by kernel_rfl);change wpList _ _ _ _ _ w10.drew;go_wp2_with fail;go_at_call 94;with_reducible refine (HSW.out _ _ _ HSL.out _ HGE.out.i.b.drew HR9.out).mono ?_
     rintro en w9 ⟨u9,rfl,ho9,hb9⟩;have HO9:=Za ho9;have HB9:=Za hb9;clear ho9 hb9;go_wp2_with fail;go_ret2;have e:=HVU0.out;rw [Zdv (by rw [HXX.out];exact HK.out) HP0.out HUPV.out HK1.out,HEE.out,HXX.out] at e;rw [←e];exact ⟨_,rfl,by rw [HG.out];exact HO9.out,HB9.out⟩
 · have HK1:=Za hk1;obtain ⟨KP,hKP⟩:∃v,(rowL l p).k=v:=⟨_,rfl⟩;simp only [hKP] at hqp;rw [hKP] at hk1;have hkpb:(KP == 1)=false:=by simp [hk1]
   clear hKP hk1;refine ZG br_ (by kernel_rfl) (by kernel_rfl) ?_
   repeat (go_big_quiet_step ((go_at_call 93;exact ZK (HU.out _))))
   refine wpQuiet_nil ?_;intro w10 hw10;obtain ⟨⟨w10,hb10⟩,rfl⟩:=hw10;have HGE:=Za (HJ.out.below hb10);clear g0 g1 hqp hb10 HU x0 x1 y0 y1 y5;have y0:=HGE.out.y0;have y5:=HGE.out.y5;go_wp2_with fail;go_ret2;have e:=HVU0.out;rw [Zf1 (by rw [HXX.out];exact HK.out) HP0.out HUPV.out HK1.out] at e;rw [←e];exact ⟨rfl,HGE.out.i.b⟩
theorem ZiM (w:World) (ad:Addr) (c ge:Nat) (l:List Ac) (i:Nat) (h:Rs w ad c ge l) (hi:RowIn l i) (hl:l.length≤131072) (hs:ZE l) (hk:(rowL l i).k=3) (hic:RowIn l (i+1)) (m:Nat) (hm0:kidL l i 1=m) (hm:RowIn l m) (hsz:(endL l (i+1) - (i+1))+(endL l m - m)≤131072) :
 Calls Try.prog 59 #[rsv ad l.length c ge,.int .i64 (i:Int)] w fun en w'=>Zbo w w' en (ZA l i):=by
 have hq0:=fun (W:World) (h8:Below w.heap.size w W)=>(Zx (h.below h8) hi.lt).1
 have hqe:=fun (W:World) (h8:Below w.heap.size w W)=>(Zx (h.below h8) hi.lt).2.1
 have hc:=h.r.n;have hcm:=h.r.m;have hgl:=h.e.lt;have hil:=hi.lt;have hie:=hi.e;obtain ⟨V,hV⟩:∃V,ZA l i=V:=⟨_,rfl⟩;rw [hV];obtain ⟨gx0,hgx0⟩:∃g,w.heap.size=g:=⟨_,rfl⟩;obtain ⟨x,hx⟩:∃x,rowL l i=x:=⟨_,rfl⟩;have HVU0:=Za hV;rw [hx] at hq0;obtain ⟨z0,hz0⟩:∃t,isW l (i+1) 20 0=t:=⟨_,rfl⟩;obtain ⟨tc,htc⟩:∃t,Zap l (i+1) (endL l (i+1))=t:=⟨_,rfl⟩;obtain ⟨em,hem⟩:∃t,decide ((rowL l m).n=0)=t:=⟨_,rfl⟩;have HKD:=Za (fun (gx:Nat) (W:World) (h8:InX w gx0 (.slice (some ad) l.length c) (.slice (some ⟨ge,0,none⟩) l.length l.length) gx x W)=>ZdN w ad c ge l i h hi.lt hl W h8 1 (fun j hj=>by (obtain rfl:j=0:=(by omega));exact hic.lt) (by decide) hm0);rw [show ((1:Nat):Int)=1 from rfl] at HKD;have HIS:=Za (fun (gx:Nat) (W:World) (h8:InX w gx0 (.slice (some ad) l.length c) (.slice (some ⟨ge,0,none⟩) l.length l.length) gx x W)=>ZlC w ad c ge l (i+1) h hic.lt hl W h8 20 0 hz0);have HTC:=Za (fun (gx:Nat) (W:World) (h8:InX w gx0 (.slice (some ad) l.length c) (.slice (some ⟨ge,0,none⟩) l.length l.length) gx x W)=>ZcD w ad c ge l (i+1) h hic.lt hl W h8 hic.e htc);have HEM:=Za (fun (gx:Nat) (W:World) (h8:InX w gx0 (.slice (some ad) l.length c) (.slice (some ⟨ge,0,none⟩) l.length l.length) gx x W)=>Zd9 w ad c ge l m h hm.lt hl W h8 hem);have HNO:=Za (fun (gx:Nat) (W:World) (h8:InX w gx0 (.slice (some ad) l.length c) (.slice (some ⟨ge,0,none⟩) l.length l.length) gx x W)=>ZcZ w ad c ge l i h hi hl W h8 hs);have HYC:=Za (fun (gx:Nat) (W:World) (h8:InX w gx0 (.slice (some ad) l.length c) (.slice (some ⟨ge,0,none⟩) l.length l.length) gx x W)=>Zbk w ad c ge l (i+1) h hic hl W h8);have HYM:=Za (fun (gx:Nat) (W:World) (h8:InX w gx0 (.slice (some ad) l.length c) (.slice (some ⟨ge,0,none⟩) l.length l.length) gx x W)=>Zbk w ad c ge l m h hm hl W h8);have HSC:=Za (fun (gx:Nat) (W:World) (h8:InX w gx0 (.slice (some ad) l.length c) (.slice (some ⟨ge,0,none⟩) l.length l.length) gx x W)=>Zca w ad c ge l (i+1) h hic hl W h8);have HSM:=Za (fun (gx:Nat) (W:World) (h8:InX w gx0 (.slice (some ad) l.length c) (.slice (some ⟨ge,0,none⟩) l.length l.length) gx x W)=>Zca w ad c ge l m h hm hl W h8);have HLC:=Za (Zak hic.e);have HLM:=Za (Zak hm.e);have HONE:=Za (fun (oi:Option Addr) (ni ci:Nat) (r:List Ac) (hn:r.length=ni) (hrl:r.length≤131076) (gx:Nat) (W:World) (h8:InX w gx0 (.slice (some ad) l.length c) (.slice (some ⟨ge,0,none⟩) l.length l.length) gx x W) (h9:Src W oi r.length (acs r))=>Zg3 w ad c ge l i h hi hl W h8 oi ni ci r hn hrl hs (B:=gx0) (by rw [←hgx0];exact h8.i.b.size) h9);have HBND:=Za hsz;have HBV:=Za (show (decide ((rowL l i).a=0)||(z0||(tc&&em)))=decide ((rowL l i).a=0∨isW l (i+1) 20 0=true∨(Zap l (i+1) (endL l (i+1))=true∧(rowL l m).n=0)) by rw [hz0,htc,←hem];cases z0 <;> cases tc <;> simp);have HM0:=Za hm0;have hml:=hm.lt;clear hz0 htc hem hm0 hm hsz
 try simp only [hx] at hk
 try simp only [hx] at hk5
 try simp only [hx] at hin
 try simp only [hx] at HSB
 try simp only [hx] at HIS
 try simp only [hx] at HTT
 try simp only [hx] at HSW
 try simp only [hx] at HBV
 obtain ⟨N,hN⟩:∃n,l.length=n:=⟨_,rfl⟩;have HB:=Za ((Below.refl w.heap.size w).alloc lr_ (.cells #[.slice (some ad) N c,.slice (some ⟨ge,0,none⟩) N N] 97));have HX:=Za (Blk.new w 97 #[.slice (some ad) N c,.slice (some ⟨ge,0,none⟩) N N]);unfold rsv at *;rw [hN] at hc hil hie hml HKD HIS HTC HEM HNO HYC HYM HSC HSM HONE;rw [hN];have h1a:(0:Int)≤(i:Int):=by omega
 have h2a:(i:Int)<(N:Int):=by omega
 have hw1:=IntWalk.i64_in ((i:Int)+1) (by omega);have hb2:(x.k == 2)=false:=by simp [hk]
 have hb3:(x.k == 3)=true:=by simp [hk]
 have hb4:(x.k == 4)=false:=by simp [hk]
 have hb1:(x.k == 1)=false:=by simp [hk]
 have hb9:(x.k == 9)=false:=by simp [hk]
 have hb19:¬(19:Int)≤x.k:=by omega
 have HK:=Za hk;rw [show (((i+1:Nat)):Int)=(i:Int)+1 by omega] at HIS HTC HYC;clear hk hic;have HQ0:=Za hq0;have HQE:=Za hqe;have HNN:=Za hN;have HXX:=Za hx;have HIE:=Za hie;have HS:=Za h;clear h hN hs hq0 hqe hx hi hV hie;go_enter Try.func59,Try.ntmps59;go_upto_region 1 with fail;rw [hgx0] at HX;have HIN:=Za (show InBox w gx0 (.slice (some ad) N c) (.slice (some ⟨ge,0,none⟩) N N) (w.alloc (.cells #[.slice (some ad) N c,.slice (some ⟨ge,0,none⟩) N N] 97)) from ⟨HB.out,HX.out.cell 0,HX.out.cell 1,HX.out.lt⟩);generalize (w.alloc (.cells #[.slice (some ad) N c,.slice (some ⟨ge,0,none⟩) N N] 97))=W1 at HB HX HIN ⊢
 try simp only [hgx0]
 have HG:=Za hgx0;clear hgx0;have x0:=HIN.out.x0;have x1:=HIN.out.x1;obtain ⟨q0,q1,q2,q3,q4,q5⟩:=HQ0.out W1 HIN.out.b;go_upto_region 2 with fail;have HJ:=Za (show InX w gx0 (.slice (some ad) N c) (.slice (some ⟨ge,0,none⟩) N N) W1.heap.size x (W1.alloc (.cells #[.int .i64 x.k,.int .i64 x.a,.int .i64 x.b,.int .i64 x.c,.int .i64 x.d,.int .i64 x.n] 49)) from ZbA HIN.out);generalize W1.alloc (.cells #[.int .i64 x.k,.int .i64 x.a,.int .i64 x.b,.int .i64 x.c,.int .i64 x.d,.int .i64 x.n] 49)=W2 at HJ ⊢;obtain ⟨gx,hgx⟩:∃g,W1.heap.size=g:=⟨_,rfl⟩;rw [hgx] at HJ
 try simp only [hgx]
 clear hgx x0 x1 q0 q1 q2 q3 q4 q5;have x0:=HJ.out.i.x0;have x1:=HJ.out.i.x1;have y0:=HJ.out.y0;have y1:=HJ.out.y1;have y5:=HJ.out.y5;go_upto_region 9 with (go_at_call 86;with_reducible refine (HKD.out _ _ HJ.out).mono ?_;rintro en w5 ⟨rfl,hI5⟩;have HI5:=Za hI5;have x50:=hI5.i.x0;have x51:=hI5.i.x1;have y51:=hI5.y1;clear hI5);go_cut [69] (fun t69 W=>t69=.bool (decide (x.a=0)||(z0||(tc&&em)))∧InX w gx0 (.slice (some ad) N c) (.slice (some ⟨ge,0,none⟩) N N) gx x W)
 case first =>
  clear HBV HVU0
  by_cases ha:x.a=0
  · have hab:(x.a == 0)=true:=by simp [ha]
    have had:decide (x.a=0)=true:=by simp [ha]
    have HAD:=Za had;clear ha had;go_wp2_with fail;go_meet
    case rel=>exact ⟨by rw [HAD.out];rfl,HI5.out⟩
  · have hab:(x.a == 0)=false:=by simp [ha]
    have had:decide (x.a=0)=false:=by simp [ha]
    have HAD:=Za had;clear ha had
    cases z0 with
    | true =>
     go_wp2_with (go_at_call 87;with_reducible refine (HIS.out _ _ HI5.out).mono ?_;rintro en w6 ⟨rfl,hI6⟩;have HI6:=Za hI6;have x60:=hI6.i.x0;have x61:=hI6.i.x1;have y61:=hI6.y1;clear hI6);go_meet
     case rel=>exact ⟨by rw [HAD.out];rfl,HI6.out⟩
    | false =>
     cases tc with
     | true =>
      cases em
      all_goals skip
      all_goals go_wp2_with (first | (go_at_call 87;with_reducible refine (HIS.out _ _ HI5.out).mono ?_;rintro en w6 ⟨rfl,hI6⟩;have HI6:=Za hI6;have x60:=hI6.i.x0;have x61:=hI6.i.x1;have y61:=hI6.y1;clear hI6) | (go_at_call 88;with_reducible refine (HTC.out _ _ HI6.out).mono ?_;rintro en w7 ⟨rfl,hI7⟩;have HI7:=Za hI7;have x70:=hI7.i.x0;have x71:=hI7.i.x1;have y71:=hI7.y1;clear hI7) | (go_at_call 89;with_reducible refine (HEM.out _ _ HI7.out).mono ?_;rintro en w8 ⟨rfl,hI8⟩;have HI8:=Za hI8;have x80:=hI8.i.x0;have x81:=hI8.i.x1;have y81:=hI8.y1;clear hI8))
      all_goals go_meet
      all_goals exact ⟨by rw [HAD.out];rfl,HI8.out⟩
     | false =>
      go_wp2_with (first | (go_at_call 87;with_reducible refine (HIS.out _ _ HI5.out).mono ?_;rintro en w6 ⟨rfl,hI6⟩;have HI6:=Za hI6;have x60:=hI6.i.x0;have x61:=hI6.i.x1;have y61:=hI6.y1;clear hI6) | (go_at_call 88;with_reducible refine (HTC.out _ _ HI6.out).mono ?_;rintro en w7 ⟨rfl,hI7⟩;have HI7:=Za hI7;have x70:=hI7.i.x0;have x71:=hI7.i.x1;have y71:=hI7.y1;clear hI7));go_meet
      case rel=>exact ⟨by rw [HAD.out];rfl,HI7.out⟩
 case rest =>
  obtain ⟨rfl,hIc⟩:=hcut;have HIC:=Za hIc;clear hIc x0 x1 y0 y1 y5 x50 x51 y51;have x0:=HIC.out.i.x0;have x1:=HIC.out.i.x1;have y1:=HIC.out.y1;rw [HBV.out]
  by_cases hbig:x.a=0∨isW l (i+1) 20 0=true∨(Zap l (i+1) (endL l (i+1))=true∧(rowL l m).n=0)
  · have HBG:=Za hbig;rw [show decide (x.a=0∨isW l (i+1) 20 0=true∨(Zap l (i+1) (endL l (i+1))=true∧(rowL l m).n=0))=true by simpa using hbig];clear hbig;go_wp2_with (go_at_call 90;with_reducible refine (HNO.out _ _ HIC.out).mono ?_;rintro en w9 ⟨u9,rfl,ho9,hb9⟩;have HO9:=Za ho9;have HB9:=Za hb9;clear ho9 hb9);go_ret2;have e:=HVU0.out;unfold ZA at e;simp only [HXX.out] at e;have hk:=HK.out;rw [if_neg (by omega),if_neg (by omega),if_pos hk,HM0.out,if_pos HBG.out] at e;rw [←e];exact ⟨_,rfl,HO9.out,HB9.out⟩
  · have HBF:=Za hbig;rw [show decide (x.a=0∨isW l (i+1) 20 0=true∨(Zap l (i+1) (endL l (i+1))=true∧(rowL l m).n=0))=false by simpa using hbig];clear hbig
    by_cases ha:x.a=1
    · have HA1:=Za ha;have hab:(x.a == 1)=true:=by simp [ha]
      clear ha;have hws:=HIC.out;go_upto_region 13 with fail;have HO0:=Za (ZfY wc ⟨2,0,0,0,0,2⟩);have HBW0:=Za ((Below.refl wc.heap.size wc).alloc lr_ (.cells #[.int .i64 2,.int .i64 0,.int .i64 0,.int .i64 0,.int .i64 0,.int .i64 2] 49));generalize wc.alloc (.cells #[.int .i64 2,.int .i64 0,.int .i64 0,.int .i64 0,.int .i64 0,.int .i64 2] 49)=W5 at HO0 HBW0 ⊢;obtain ⟨B,hB⟩:∃b,wc.heap.size=b:=⟨_,rfl⟩;have HKEEP:=Za (show ∀W,Below B wc W→InX w gx0 (.slice (some ad) N c) (.slice (some ⟨ge,0,none⟩) N N) gx x W∧B≤W.heap.size from fun W hb=>⟨HIC.out.below (by rw [hB];exact hb),by rw [←hB];exact hb.size⟩);rw [hB] at HO0 HBW0;simp only [hB];clear hB hws;have hk0:=HKEEP.out _ HBW0.out;have HJ5:=Za hk0.1;have z0:=hk0.1.i.x0;have z1:=hk0.1.i.x1;clear hk0 x0 x1 y1;go_upto_region 14 with (first | (go_at_call 91;with_reducible refine (HYC.out _ _ HJ5.out).mono ?_;rintro en w12 ⟨rfl,hb12⟩;have HBW12:=Za (HBW0.out.trans (hb12.mono (HKEEP.out _ HBW0.out).2));have hk12:=HKEEP.out _ HBW12.out;have HJ12:=Za hk12.1;have z120:=hk12.1.i.x0;have z121:=hk12.1.i.x1;have HO12:=Za (Zq HO0.out hb12 lr_);have HSZ12:=Za hk12.2;clear hb12 hk12) | (at_builtin;refine ZbH rfl (.tmp 78) (.tmp 81) rfl rfl HO12.out rfl HLC.out (HSC.out _ _ HJ12.out) (by have:=HBND.out;omega) HSZ12.out ?_;intro v13 w13 ho13 hb13;have HO13:=Za ho13;have HBW13:=Za (HBW12.out.trans hb13);have hk13:=HKEEP.out _ HBW13.out;have HJ13:=Za hk13.1;have z130:=hk13.1.i.x0;have z131:=hk13.1.i.x1;clear ho13 hb13 hk13));obtain ⟨lo,lc,hlv⟩:=Zw HO13.out;subst hlv;obtain ⟨nn,hnn⟩:∃n,1+(endL l (i+1) - (i+1))=n:=⟨_,rfl⟩;rw [hnn] at HO13 ⊢;clear hnn;have hrl:(([⟨2,0,0,0,0,2⟩]:List Ac)++Ze l (i+1)).length=nn:=by have h9:=HO13.out.1;rw [Z5] at h9;omega
      have HRN:=Za hrl;clear hrl;have HRL:=Za (show (([⟨2,0,0,0,0,2⟩]:List Ac)++Ze l (i+1)).length≤131076 - (endL l m - m)∧(([⟨2,0,0,0,0,2⟩]:List Ac)++Ze l (i+1)).length≤131076 by simp only [List.length_append,List.length_cons,List.length_nil,HLC.out];have:=HBND.out;omega);refine Zl (JO w13 B (.slice lo nn lc) nn (([⟨2,0,0,0,0,2⟩]:List Ac)++Ze l (i+1)) (KO gx0 B (nn+(endL l m - m)) (.agg #[.slice (some ad) N c,.slice (some ⟨ge,0,none⟩) N N]) (.int .i64 (i:Int)) (.slice lo nn lc) (.int .i64 (m:Int)) (.slice (some (ad.add (m*6))) (endL l m - m) (c - m)) 15 (ZH l i (([⟨2,0,0,0,0,2⟩]:List Ac)++Ze l (i+1)++Ze l m)) (([⟨2,0,0,0,0,2⟩]:List Ac)++Ze l (i+1)++Ze l m))) [[],[],[],[],[],[3,4],[2,3,4,5],[0,1,2,3,4,5,6],[0,1,2,3,4,5,6,7],[0,1,2,3,4,5,6,7,8]] (by kernel_rfl) (by kernel_rfl) (fun vs=>JO.start vs HO13.out (HKEEP.out _ HBW13.out).2 (fun i v w hi=>by match i,hi with | _+10,_=>trivial)) (fun vs=>?_);refine Zb rfl (fun S w9 hS hA hD hJ R hR=>?_) (fun K hK=>?_)
      · have hs9:=(HKEEP.out _ (HBW13.out.trans hJ.b)).2;have HZ9:=(HKEEP.out _ (HBW13.out.trans hJ.b)).1;have z0:=HZ9.i.x0;have z1:=HZ9.i.x1;go_simp;exact hR _ _ (hJ.step (ZaR _ _ _ _ _ _ _ _ _ _ _) (by decide) br_ rfl hs9)
      go_simp;refine hK _ ?_;clear hK K;refine Zb rfl (fun S w9 hS hA hD hJ R hR=>?_) (fun K hK=>?_)
      · have hs9:=(HKEEP.out _ (HBW13.out.trans hJ.b)).2;go_simp;exact hR _ _ (hJ.step (ZaR _ _ _ _ _ _ _ _ _ _ _) (by decide) br_ rfl hs9)
      go_simp;refine hK _ ?_;clear hK K;refine Zb rfl (fun S w9 hS hA hD hJ R hR=>?_) (fun K hK=>?_)
      · have hs9:=(HKEEP.out _ (HBW13.out.trans hJ.b)).2;go_simp;exact hR _ _ (hJ.step (ZaR _ _ _ _ _ _ _ _ _ _ _) (by decide) br_ rfl hs9)
      go_simp;refine hK _ ?_;clear hK K;refine Zb rfl (fun S w9 hS hA hD hJ R hR=>?_) (fun K hK=>?_)
      · have hs9:=(HKEEP.out _ (HBW13.out.trans hJ.b)).2;have HZ9:=(HKEEP.out _ (HBW13.out.trans hJ.b)).1;have z0:=HZ9.i.x0;have z1:=HZ9.i.x1;go_simp;exact hR _ _ (hJ.step (ZaR _ _ _ _ _ _ _ _ _ _ _) (by decide) br_ rfl hs9)
      go_simp;refine hK _ ?_;clear hK K;refine Zb rfl (fun S w9 hS hA hD hJ R hR=>?_) (fun K hK=>?_)
      · have hs9:=(HKEEP.out _ (HBW13.out.trans hJ.b)).2;go_simp;exact hR _ _ (hJ.step (ZaR _ _ _ _ _ _ _ _ _ _ _) (by decide) br_ rfl hs9)
      go_simp;refine hK _ ?_;clear hK K;refine Zb rfl (fun S w9 hS hA hD hJ R hR=>?_) (fun K hK=>?_)
      · have hs9:=(HKEEP.out _ (HBW13.out.trans hJ.b)).2;have HZ9:=(HKEEP.out _ (HBW13.out.trans hJ.b)).1;have k3:vs 3=_:=hJ.k 3 (hA 3 (by decide));have k4:vs 4=_:=hJ.k 4 (hA 4 (by decide));refine pc_ Zby (kc_ (HYM.out gx w9 HZ9) fun _ hb=>hR _ _ (hJ.step (ZaR _ _ _ _ _ _ _ _ _ _ _) (by decide) hb rfl hs9)) rfl ?_;simp [Act.eval,Act.put,k3,k4]
      go_simp;refine hK _ ?_;clear hK K;refine Zb rfl (fun S w9 hS hA hD hJ R hR=>?_) (fun K hK=>?_)
      · have hs9:=(HKEEP.out _ (HBW13.out.trans hJ.b)).2;have HZ9:=(HKEEP.out _ (HBW13.out.trans hJ.b)).1;have k2:vs 2=_:=hJ.k 2 (hA 2 (by decide));have k5:vs 5=_:=hJ.k 5 (hA 5 (by decide));have hsz9:=(HKEEP.out _ (HBW13.out.trans hJ.b)).2;obtain ⟨v8,w8,hrun,ho8,hb8⟩:=Zf6 (c:=c - m) 26 (hJ.r hS) (HSM.out gx w9 HZ9) HLM.out (by have:=HBND.out;have:=HRL.out;have:=HRN.out;omega) hsz9;have hfin:=hR _ _ (hJ.app (hD 7 (by decide) (by decide)) (hD 8 (by decide) (by decide)) (hD 9 (by decide) (by decide)) hb8 ho8);exact Zay (.tmp 85) (.tmp 88) 26 (by rfl) _ _ (by simp [Act.eval,Act.put,k2]) (by simp [Act.eval,Act.put,k5]) hrun hfin
      go_simp;refine hK _ ?_;clear hK K;refine Zb rfl (fun S w9 hS hA hD hJ R hR=>?_) (fun K hK=>?_)
      · have hs9:=(HKEEP.out _ (HBW13.out.trans hJ.b)).2;have HZ9:=(HKEEP.out _ (HBW13.out.trans hJ.b)).1;have k0:vs 0=_:=hJ.k 0 (hA 0 (by decide));have k1:vs 1=_:=hJ.k 1 (hA 1 (by decide));have k6:w9.ownsRow B 49 6 (vs 6) _ (acs (([⟨2,0,0,0,0,2⟩]:List Ac)++Ze l (i+1)++Ze l m)):=hJ.k 6 (hA 6 (by decide));obtain ⟨oo,co,hoo⟩:=Zw k6;rw [hoo] at k6;refine pc_ Zbn (kd_ (HONE.out oo (nn+(endL l m - m)) co (([⟨2,0,0,0,0,2⟩]:List Ac)++Ze l (i+1)++Ze l m) (by have h9:=k6.1;rw [Z5] at h9;omega) (by have:=HBND.out;have:=HRL.out;rw [List.length_append,HLM.out];omega) gx w9 HZ9 (Zaq (Zfc k6))) fun u _ e2 e3=>hR _ _ (hJ.step (ZaR _ _ _ _ _ _ _ _ _ _ _) (by decide) e3 e2 hs9)) rfl ?_;simp [Act.eval,Act.put,k0,k1,hoo]
      go_simp;refine hK _ ?_;clear hK K;refine Zb rfl (fun S w9 hS hA hD hJ R hR=>?_) (fun K hK=>?_)
      · have hs9:=(HKEEP.out _ (HBW13.out.trans hJ.b)).2;go_simp;exact hR _ _ (hJ.step (ZaR _ _ _ _ _ _ _ _ _ _ _) (by decide) br_ rfl hs9)
      go_simp;refine hK _ ?_;clear hK K;refine Zb rfl (fun S w9 hS hA hD hJ R hR=>?_) (fun K hK=>?_)
      · have hs9:=(HKEEP.out _ (HBW13.out.trans hJ.b)).2;have k7:w9.ownsRow gx0 49 6 (vs 7) _ (acs _):=hJ.k 7 (hA 7 (by decide));go_simp;exact hR _ _ (hJ.step (ZaR _ _ _ _ _ _ _ _ _ _ _) (by decide) br_ k7 hs9)
      go_simp;refine hK _ ?_;clear hK K;refine Zv (fun w7 hJ=>?_);have k8:vs 8=_:=hJ.k 8 rfl;have k9:w7.ownsRow gx0 49 6 (vs 9) _ (acs _):=hJ.k 9 rfl;have HJB:=Za hJ.b;have HK9r:=Za k9;clear hJ k9;simp only [k8];clear k8;go_wp2_with fail;go_ret2;have e:=HVU0.out;unfold ZA at e;simp only [HXX.out] at e;have hk:=HK.out;rw [if_neg (by omega),if_neg (by omega),if_pos hk,HM0.out,if_neg HBF.out,if_pos HA1.out] at e;rw [←e];exact ⟨_,rfl,by rw [HG.out];simpa using HK9r.out,(HKEEP.out _ (HBW13.out.trans HJB.out)).1.i.b⟩
    · have HA1:=Za ha;have hab:(x.a == 1)=false:=by simp [ha]
      clear ha;go_wp2_with fail;go_ret2;have e:=HVU0.out;unfold ZA at e;simp only [HXX.out] at e;have hk:=HK.out;rw [if_neg (by omega),if_neg (by omega),if_pos hk,HM0.out,if_neg HBF.out,if_neg HA1.out] at e;rw [←e];exact ⟨rfl,HIC.out.i.b⟩
end
end Go.Proofs.Ytdpokdcendgfeaa
