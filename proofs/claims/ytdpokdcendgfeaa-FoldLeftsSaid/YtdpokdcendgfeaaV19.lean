/- Several texts in one: The reference's optimiser: expr. Conditions: those of each. -/
import Derived.Test.YtdpokdcendgfeaaV18
set_option linter.unusedSimpArgs false
set_option linter.unusedVariables false
set_option maxHeartbeats 80000000
set_option maxRecDepth 100000
namespace Go.Proofs.Ytdpokdcendgfeaa
open Go.RowKit
section
attribute [local go_sem] par Zan
section
variable (w:World) (ad:Addr) (c ge:Nat) (l:List Ac) (i:Nat) (h:Rs w ad c ge l) (hi:i<l.length) (hl:l.length≤131072) {gb:Nat} {u0 u1:Value} {gx:Nat} {x:Ac} (W:World) (hb:InX w gb u0 u1 gx x W)
include h hi hl hb
theorem ZdN (k:Nat) (hk:∀j,j<k→kidL l i j<l.length) (hk2:k≤2) {t:Nat} (ht:kidL l i k=t) :
 Calls Try.prog 86 #[rsv ad l.length c ge,.int .i64 (i:Int),.int .i64 (k:Int)] W fun en w'=>en=.returned (.int .i64 (t:Int))∧InX w gb u0 u1 gx x w' :=
 (ZjF W ad c ge l i k (h.below hb.i.b) hi hk hk2 hl).mono fun en w' h1=>⟨by rw [h1.1,ht],hb.below h1.2⟩
theorem Zhf {t:Bool} (ht:ZT (rowL l i)=t) :
 Calls Try.prog 129 #[rsv ad l.length c ge,.int .i64 (i:Int)] W fun en w'=>en=.returned (.bool t)∧InX w gb u0 u1 gx x w' :=
 (Zk2 W ad c ge l i (h.below hb.i.b) hi hl).mono fun en w' h1=>⟨by rw [h1.1,ht],hb.below h1.2⟩
theorem Zd9 {t:Bool} (ht:decide ((rowL l i).n=0)=t) :
 Calls Try.prog 89 #[rsv ad l.length c ge,.int .i64 (i:Int)] W fun en w'=>en=.returned (.bool t)∧InX w gb u0 u1 gx x w' :=
 (Zhm W ad c ge l i (h.below hb.i.b) hi hl).mono fun en w' h1=>⟨by rw [h1.1,ht],hb.below h1.2⟩
theorem ZlC (k a:Int) {t:Bool} (ht:isW l i k a=t) :
 Calls Try.prog 87 #[rsv ad l.length c ge,.int .i64 (i:Int),.int .i64 k,.int .i64 a] W fun en w'=>en=.returned (.bool t)∧InX w gb u0 u1 gx x w' :=
 (ZlD W ad c ge l i k a (h.below hb.i.b) hi hl).mono fun en w' h1=>⟨by rw [h1.1,←ht];rfl,hb.below h1.2⟩
theorem ZcD (he:i<endL l i∧endL l i≤l.length) {t:Bool} (ht:Zap l i (endL l i)=t) :
 Calls Try.prog 88 #[rsv ad l.length c ge,.int .i64 (i:Int)] W fun en w'=>en=.returned (.bool t)∧InX w gb u0 u1 gx x w' :=
 (ZeY W ad c ge l i (h.below hb.i.b) hi ⟨Nat.le_of_lt he.1,he.2⟩ hl).mono fun en w' h1=>⟨by rw [h1.1,←ht],hb.below h1.2⟩
theorem ZdS (he:i<endL l i∧endL l i≤l.length) :
 Calls Try.prog 91 #[rsv ad l.length c ge,.int .i64 (i:Int)] W fun en w'=>en=.returned (.slice (some (ad.add (i*6))) (endL l i - i) (c - i))∧InX w gb u0 u1 gx x w' :=
 (Zez W ad c ge l i (h.below hb.i.b) hi he hl).mono fun en w' h1=>⟨h1.1,hb.below h1.2⟩
theorem Zii (he:i<endL l i∧endL l i≤l.length) :
 Calls Try.prog 91 #[rsv ad l.length c ge,.int .i64 (i:Int)] W fun en w'=>en=.returned (.slice (some (ad.add (i*6))) (endL l i - i) (c - i))∧Below W.heap.size W w' :=
 Zez W ad c ge l i (h.below hb.i.b) hi he hl
theorem Zgl (b:Nat) (he:i<endL l i∧endL l i≤l.length) (hb1:b<l.length) (hbe:b<endL l b∧endL l b≤l.length) (hs:ZE l) {B:Nat} (hB:B≤W.heap.size) :
 Calls Try.prog 92 #[rsv ad l.length c ge,.int .i64 (i:Int),.slice (some (ad.add (b*6))) (endL l b - b) (c - b)] W fun en w'=>∃u,en=.returned u∧w'.ownsRow B 49 6 u (ZH l i (Ze l b)).length (acs (ZH l i (Ze l b)))∧Below W.heap.size W w' :=
 (ZdM W ad c ge l i _ _ _ _ (h.below hb.i.b) hi he hl hs (Zak hbe) (Zbe (r:=(b,endL l b)) ((h.below hb.i.b).r.s) (Nat.le_of_lt hbe.1) hbe.2) (by rw [Zak hbe];omega)).mono fun en w' h1=>by
  obtain ⟨u,e1,e2,e3⟩:=h1;exact ⟨u,e1,Zr e2 hB,e3⟩
theorem Zfe (b:Nat) (he:i<endL l i∧endL l i≤l.length) (hb1:b<l.length) (hbe:b<endL l b∧endL l b≤l.length) (hs:ZE l) :
 Calls Try.prog 92 #[rsv ad l.length c ge,.int .i64 (i:Int),.slice (some (ad.add (b*6))) (endL l b - b) (c - b)] W fun en w'=>∃u,en=.returned u∧w'.ownsRow w.heap.size 49 6 u (ZH l i (Ze l b)).length (acs (ZH l i (Ze l b)))∧Below w.heap.size w w' :=
 Zff w ad c ge l i b h hi he hb1 hbe hl hs W hb.i
theorem ZmD (a b:Nat) (he:i<endL l i∧endL l i≤l.length) (ha:a<l.length) (hae:a<endL l a∧endL l a≤l.length) (hb1:b<l.length) (hbe:b<endL l b∧endL l b≤l.length) (hs:ZE l) :
 Calls Try.prog 132 #[rsv ad l.length c ge,.int .i64 (i:Int),.int .i64 (a:Int),.int .i64 (b:Int)] W fun en w'=>∃n u,en=.returned (.tuple #[.int .i64 n,u])∧Zbo w w' (.returned (.tuple #[.int .i64 n,u])) (ZdX l i a b) :=
 (ZmE W ad c ge l i a b (h.below hb.i.b) hi he ha hae hb1 hbe hl hs).mono fun en w' h1=>by
  cases hv:ZdX l i a b with
  | none =>
   rw [hv] at h1;obtain ⟨rfl,h2⟩:=h1;exact ⟨_,_,rfl,rfl,hb.i.b.trans (h2.mono hb.i.b.size)⟩
  | some r =>
   rw [hv] at h1;obtain ⟨n,r⟩:=r;obtain ⟨u,rfl,h2,h3⟩:=h1;exact ⟨_,_,rfl,u,rfl,Zr h2 hb.i.b.size,hb.i.b.trans (h3.mono hb.i.b.size)⟩
end
theorem InX.drewN {w:World} {gb:Nat} {u0 u1:Value} {gx:Nat} {x:Ac} {W:World} (h:InX w gb u0 u1 gx x W) (m:Nat):InX w gb u0 u1 gx x (W.drewN m):=h.below (Zc br_ m)
def KA6 (gb:Nat) (rv iv pv sv:Value) (n2:Int) (out:List Ac):Nat→Value→World→Prop
 | 0,v,_=>v=rv
 | 1,v,_=>v=iv
 | 2,v,_=>v=rv
 | 3,v,_=>v=pv
 | 4,v,_=>v=sv
 | 5,v,w=>w.ownsRow gb 49 6 v out.length (acs out)
 | 6,v,_=>v=.int .i64 n2
 | 7,v,w=>w.ownsRow gb 49 6 v out.length (acs out)
 | _+8,_,_=>True
theorem Zz (gb:Nat) (rv iv pv sv:Value) (n2:Int) (out:List Ac):StK (KA6 gb rv iv pv sv n2 out):=fun i v w w' h hb=>by
 match i with
 | 0 | 1 | 2 | 3 | 4 | 6=>exact h
 | 5 | 7=>exact Zq h hb lr_
 | _+8=>trivial
def KS7 (gb gx:Nat) (rv iv sv av bv:Value) (xk xa xb:Int) (pa pb:Addr) (y:Ac) (out:List Ac):Nat→Value→World→Prop
 | 0,v,_=>v=rv
 | 1,v,_=>v=iv
 | 2,v,_=>v=.pointer (some ⟨gx,0,none⟩)
 | 3,v,_=>v=.int .i64 xk
 | 4,v,_=>v=.pointer (some ⟨gb,0,none⟩)
 | 5,v,_=>v=sv
 | 6,v,_=>v=av
 | 7,v,_=>v=.pointer (some pa)
 | 8,v,_=>v=.pointer (some ⟨pa.block,pa.off+1,none⟩)
 | 9,v,_=>v=.int .i64 xa
 | 10,v,_=>v=.pointer (some ⟨gb,0,none⟩)
 | 11,v,_=>v=sv
 | 12,v,_=>v=bv
 | 13,v,_=>v=.pointer (some pb)
 | 14,v,_=>v=.pointer (some ⟨pb.block,pb.off+1,none⟩)
 | 15,v,_=>v=.int .i64 xb
 | 16,v,_=>v=y.val
 | 17,v,w=>∃g,v=.slice (some ⟨g,0,none⟩) 1 1∧Src w (some ⟨g,0,none⟩) 1 (acs [y])
 | 18,v,w=>w.ownsRow gb 49 6 v out.length (acs out)
 | 19,v,_=>v=.int .i64 1
 | 20,v,w=>w.ownsRow gb 49 6 v out.length (acs out)
 | _+21,_,_=>True
theorem Zbw (gb gx:Nat) (rv iv sv av bv:Value) (xk xa xb:Int) (pa pb:Addr) (y:Ac) (out:List Ac):StK (KS7 gb gx rv iv sv av bv xk xa xb pa pb y out):=fun i v w w' h hb=>by
 match i with
 | 0 | 1 | 2 | 3 | 4 | 5 | 6 | 7 | 8 | 9 | 10 | 11 | 12 | 13 | 14 | 15 | 16 | 19=>exact h
 | 17 =>
  obtain ⟨g,e,hs⟩:=h;exact ⟨g,e,hs.below hb⟩
 | 18 | 20=>exact Zq h hb lr_
 | _+21=>trivial
theorem ZbA {w:World} {gb:Nat} {u0 u1:Value} {x:Ac} {W:World} (h:InBox w gb u0 u1 W):InX w gb u0 u1 W.heap.size x (W.alloc (.cells #[.int .i64 x.k,.int .i64 x.a,.int .i64 x.b,.int .i64 x.c,.int .i64 x.d,.int .i64 x.n] 49)) :=
 have hb:=Blk.new W 49 #[.int .i64 x.k,.int .i64 x.a,.int .i64 x.b,.int .i64 x.c,.int .i64 x.d,.int .i64 x.n]
 ⟨h.below ((Below.refl _ W).alloc lr_ _),hb.cell 0,hb.cell 1,hb.cell 2,hb.cell 3,hb.cell 4,hb.cell 5,hb.lt⟩
theorem Zia (w:World) (ad:Addr) (c ge:Nat) (l:List Ac) (i a b:Nat) (h:Rs w ad c ge l) (hi:i<l.length) (he:i<endL l i∧endL l i≤l.length) (ha0:kidL l i 0=a) (hb0:ZdD l i=b) (ha:a<l.length) (hae:a<endL l a∧endL l a≤l.length) (hb:b<l.length) (hbe:b<endL l b∧endL l b≤l.length) (hl:l.length≤131072) (hs:ZE l)
 (hd:((rowL l i).k=29∨(rowL l i).k=28)→(rowL l a).k=(rowL l i).k→a+1<l.length∧a+1<endL l (a+1)∧endL l (a+1)≤l.length) (hbd:ZT (rowL l a)=true→ZT (rowL l b)=true→(-1073741824≤(rowL l a).a∧(rowL l a).a≤1073741824)∧(-1073741824≤(rowL l b).a∧(rowL l b).a≤1073741824)) :
 Calls Try.prog 84 #[rsv ad l.length c ge,.int .i64 (i:Int)] w fun en w'=>Zbo w w' en (Zcn l i):=by
 have HRS:=Za h;have hq0:=fun (W:World) (h8:Below w.heap.size w W)=>(Zx (h.below h8) hi).1
 have HQA:=Za (fun (W:World) (h8:Below w.heap.size w W)=>(Zx (h.below h8) ha).1);have HQB:=Za (fun (W:World) (h8:Below w.heap.size w W)=>(Zx (h.below h8) hb).1);have hc:=h.r.n;have hgl:=h.e.lt;have hsz:=h.r.m;obtain ⟨V,hV⟩:∃V,Zcn l i=V:=⟨_,rfl⟩;rw [hV];have hvu:=hV;unfold Zcn at hvu;simp only [ha0,hb0] at hvu;obtain ⟨gx0,hgx0⟩:∃g,w.heap.size=g:=⟨_,rfl⟩;have hbs:ZdD l i=(if (rowL l i).n=2 then kidL l i 1 else a):=by unfold ZdD;rw [ha0]
 rw [hb0] at hbs
 have hk1l:∀j,j<1→kidL l i j<l.length:=fun j hj=>by
  obtain rfl:j=0:=by omega
  rw [ha0];exact ha
 obtain ⟨x,hx⟩:∃x,rowL l i=x:=⟨_,rfl⟩;rw [hx] at hq0 hvu hd hbs;obtain ⟨fa,hfa⟩:∃t,ZT (rowL l a)=t:=⟨_,rfl⟩;obtain ⟨fb,hfb⟩:∃t,ZT (rowL l b)=t:=⟨_,rfl⟩;obtain ⟨ta,hta⟩:∃t,Zap l a (endL l a)=t:=⟨_,rfl⟩;obtain ⟨r,hr⟩:∃t,Zbs x.k=t:=⟨_,rfl⟩;rw [hfa,hfb,hta,hr] at hvu;rw [hfa,hfb] at hbd;have HVU:=Za hvu;have HBD:=Za hbd;have HD:=Za hd;have HRK:=Za hr;have HKA:=Za (fun (gx:Nat) (W:World) (h8:InX w gx0 (.slice (some ad) l.length c) (.slice (some ⟨ge,0,none⟩) l.length l.length) gx x W)=>ZdN w ad c ge l i h hi hl W h8 0 (fun j hj=>absurd hj (Nat.not_lt_zero _)) (by decide) ha0);have HKB:=Za (fun (t:Nat) (ht:kidL l i 1=t) (gx:Nat) (W:World) (h8:InX w gx0 (.slice (some ad) l.length c) (.slice (some ⟨ge,0,none⟩) l.length l.length) gx x W)=>ZdN w ad c ge l i h hi hl W h8 1 hk1l (by decide) ht);rw [show ((0:Nat):Int)=0 from rfl] at HKA;rw [show ((1:Nat):Int)=1 from rfl] at HKB;have HFA:=Za (fun (gx:Nat) (W:World) (h8:InX w gx0 (.slice (some ad) l.length c) (.slice (some ⟨ge,0,none⟩) l.length l.length) gx x W)=>Zhf w ad c ge l a h ha hl W h8 hfa);have HFB:=Za (fun (gx:Nat) (W:World) (h8:InX w gx0 (.slice (some ad) l.length c) (.slice (some ⟨ge,0,none⟩) l.length l.length) gx x W)=>Zhf w ad c ge l b h hb hl W h8 hfb);have HTA:=Za (fun (gx:Nat) (W:World) (h8:InX w gx0 (.slice (some ad) l.length c) (.slice (some ⟨ge,0,none⟩) l.length l.length) gx x W)=>ZcD w ad c ge l a h ha hl W h8 hae hta);have HAA:=Za (fun (gx:Nat) (W:World) (h8:InX w gx0 (.slice (some ad) l.length c) (.slice (some ⟨ge,0,none⟩) l.length l.length) gx x W)=>ZdS w ad c ge l a h ha hl W h8 hae);have HAB:=Za (fun (gx:Nat) (W:World) (h8:InX w gx0 (.slice (some ad) l.length c) (.slice (some ⟨ge,0,none⟩) l.length l.length) gx x W)=>ZdS w ad c ge l b h hb hl W h8 hbe);have HAD:=Za (fun (hq:a+1<l.length∧a+1<endL l (a+1)∧endL l (a+1)≤l.length) (gx:Nat) (W:World) (h8:InX w gx0 (.slice (some ad) l.length c) (.slice (some ⟨ge,0,none⟩) l.length l.length) gx x W)=>ZdS w ad c ge l (a+1) h hq.1 hl W h8 hq.2);have HYA:=Za (fun (gx:Nat) (W:World) (h8:InX w gx0 (.slice (some ad) l.length c) (.slice (some ⟨ge,0,none⟩) l.length l.length) gx x W)=>Zii w ad c ge l a h ha hl W h8 hae);have HYB:=Za (fun (gx:Nat) (W:World) (h8:InX w gx0 (.slice (some ad) l.length c) (.slice (some ⟨ge,0,none⟩) l.length l.length) gx x W)=>Zii w ad c ge l b h hb hl W h8 hbe);have HZA:=Za (fun (gx:Nat) (W:World) (h8:InX w gx0 (.slice (some ad) l.length c) (.slice (some ⟨ge,0,none⟩) l.length l.length) gx x W)=>Zgl w ad c ge l i h hi hl W h8 a he ha hae hs (B:=gx0) (by rw [←hgx0];exact h8.i.b.size));have HZB:=Za (fun (gx:Nat) (W:World) (h8:InX w gx0 (.slice (some ad) l.length c) (.slice (some ⟨ge,0,none⟩) l.length l.length) gx x W)=>Zgl w ad c ge l i h hi hl W h8 b he hb hbe hs (B:=gx0) (by rw [←hgx0];exact h8.i.b.size));have HOA:=Za (fun (gx:Nat) (W:World) (h8:InX w gx0 (.slice (some ad) l.length c) (.slice (some ⟨ge,0,none⟩) l.length l.length) gx x W)=>Zfe w ad c ge l i h hi hl W h8 a he ha hae hs);have HOB:=Za (fun (gx:Nat) (W:World) (h8:InX w gx0 (.slice (some ad) l.length c) (.slice (some ⟨ge,0,none⟩) l.length l.length) gx x W)=>Zfe w ad c ge l i h hi hl W h8 b he hb hbe hs);have HOD:=Za (fun (hq:a+1<l.length∧a+1<endL l (a+1)∧endL l (a+1)≤l.length) (gx:Nat) (W:World) (h8:InX w gx0 (.slice (some ad) l.length c) (.slice (some ⟨ge,0,none⟩) l.length l.length) gx x W)=>Zfe w ad c ge l i h hi hl W h8 (a+1) he hq.1 hq.2 hs);have HSM:=Za (fun (gx:Nat) (W:World) (h8:InX w gx0 (.slice (some ad) l.length c) (.slice (some ⟨ge,0,none⟩) l.length l.length) gx x W)=>ZmD w ad c ge l i h hi hl W h8 a b he ha hae hb hbe hs);have HZ:=Za (fun (y:Ac) (oi:Option Addr) (gx:Nat) (W:World) (h8:InX w gx0 (.slice (some ad) l.length c) (.slice (some ⟨ge,0,none⟩) l.length l.length) gx x W) (h9:Src W oi 1 (acs [y]))=>(ZdM W ad c ge l i oi 1 1 [y] (h.below h8.i.b) hi he hl hs rfl h9 (by simp)).mono (R':=fun en w'=>∃u,en=.returned u∧w'.ownsRow gx0 49 6 u (ZH l i [y]).length (acs (ZH l i [y]))∧Below W.heap.size W w') (by rintro en w' ⟨u,e1,e2,e3⟩;exact ⟨u,e1,Zr e2 (by rw [←hgx0];exact h8.i.b.size),e3⟩));have HRE:=Za (fun (W:World)=>Zl0 W x.k);rw [hr] at HRE;have HWO:=Za (fun (h1:fa=true) (h2:fb=true) (h3:r=true) (W:World)=>Zkj W x.k (rowL l a).a (rowL l b).a (hbd h1 h2).1 (hbd h1 h2).2 (by rw [hr];exact h3));have HTR:=Za (fun (W:World) (t:Bool)=>ZgV W t);clear hV hfa hfb hta hr hbd hd hvu hk1l;obtain ⟨N,hN⟩:∃n,l.length=n:=⟨_,rfl⟩;have HB:=Za ((Below.refl w.heap.size w).alloc lr_ (.cells #[.slice (some ad) N c,.slice (some ⟨ge,0,none⟩) N N] 97));have HX:=Za (Blk.new w 97 #[.slice (some ad) N c,.slice (some ⟨ge,0,none⟩) N N]);unfold rsv at *;rw [hN] at hc hi ha hb HD HKA HKB HFA HFB HTA HAA HAB HAD HOA HOB HOD HSM HZ HYA HYB HZA HZB;rw [hN];have h1:(0:Int)≤(i:Int):=by omega
 have h2:(i:Int)<(N:Int):=by omega
 have h3:(0:Int)≤(a:Int):=by omega
 have h4:(a:Int)<(N:Int):=by omega
 have h5:(0:Int)≤(b:Int):=by omega
 have h6:(b:Int)<(N:Int):=by omega
 have HQ0:=Za hq0;have HBS:=Za hbs;have HXX:=Za hx;have HHB:=Za hb0;have HHA:=Za ha0;clear h hN hs hq0 hbs hx hb0 ha0;go_enter Try.func84,Try.ntmps84;go_upto_region 1 with fail;rw [hgx0] at HX;have HIN:=Za (show InBox w gx0 (.slice (some ad) N c) (.slice (some ⟨ge,0,none⟩) N N) (w.alloc (.cells #[.slice (some ad) N c,.slice (some ⟨ge,0,none⟩) N N] 97)) from ⟨HB.out,HX.out.cell 0,HX.out.cell 1,HX.out.lt⟩);generalize (w.alloc (.cells #[.slice (some ad) N c,.slice (some ⟨ge,0,none⟩) N N] 97))=W1 at HB HX HIN ⊢
 try simp only [hgx0]
 have HG:=Za hgx0;clear hgx0;have x0:=HIN.out.x0;have x1:=HIN.out.x1;obtain ⟨q0,q1,q2,q3,q4,q5⟩:=HQ0.out W1 HIN.out.b;go_upto_region 2 with fail;have HJ:=Za (show InX w gx0 (.slice (some ad) N c) (.slice (some ⟨ge,0,none⟩) N N) W1.heap.size x (W1.alloc (.cells #[.int .i64 x.k,.int .i64 x.a,.int .i64 x.b,.int .i64 x.c,.int .i64 x.d,.int .i64 x.n] 49)) from ZbA HIN.out);generalize W1.alloc (.cells #[.int .i64 x.k,.int .i64 x.a,.int .i64 x.b,.int .i64 x.c,.int .i64 x.d,.int .i64 x.n] 49)=W2 at HJ ⊢;obtain ⟨gx,hgx⟩:∃g,W1.heap.size=g:=⟨_,rfl⟩;rw [hgx] at HJ;simp only [hgx];clear hgx x0 x1 q0 q1 q2 q3 q4 q5;have x0:=HJ.out.i.x0;have x1:=HJ.out.i.x1;have y0:=HJ.out.y0;have y5:=HJ.out.y5;go_upto_region 4 with (go_at_call 86;with_reducible refine (HKA.out _ _ HJ.out).mono ?_;rintro en w3 ⟨rfl,hI3⟩;have HI3:=Za hI3;have x30:=hI3.i.x0;have x31:=hI3.i.x1;have y30:=hI3.y0;have y35:=hI3.y5;clear hI3);clear x0 x1 y0 y5;go_upto_if 21 with fail;go_cut [8] (fun t8 W=>t8=.int .i64 (b:Int)∧InX w gx0 (.slice (some ad) N c) (.slice (some ⟨ge,0,none⟩) N N) gx x W)
 case first =>
  by_cases hn2:x.n=2
  · have hn2b:(x.n == 2)=true:=by simp [hn2]
    have hb1:=HBS.out;rw [if_pos hn2] at hb1;have HKB1:=Za (HKB.out b hb1.symm);clear hb1 hn2;go_wp2_with (go_at_call 86;with_reducible refine (HKB1.out _ _ HI3.out).mono ?_;rintro en w4 ⟨rfl,hI4⟩;have HI4:=Za hI4;clear hI4);go_meet
    case rel=>exact ⟨rfl,HI4.out⟩
  · have hn2b:(x.n == 2)=false:=by simp [hn2]
    have hb1:=HBS.out;rw [if_neg hn2] at hb1;have HB1:=Za hb1;clear hn2 hb1;go_wp2_with fail;go_meet
    case rel=>exact ⟨by rw [HB1.out],HI3.out⟩
 case rest =>
  obtain ⟨rfl,hIc⟩:=hcut;have HIC:=Za hIc;clear hIc x30 x31 y30 y35 HI3;have x0:=HIC.out.i.x0;have x1:=HIC.out.i.x1;have y0:=HIC.out.y0;go_upto_region 6 with fail;go_cut [37] (fun t37 W=>t37=.bool (r&&(fa&&fb))∧InX w gx0 (.slice (some ad) N c) (.slice (some ⟨ge,0,none⟩) N N) gx x W)
  case first =>
   clear HVU HWO
   cases r with
   | true =>
    cases fa with
    | true =>
     cases fb with
     | true =>
      go_wp2_with (first | (go_at_call 128;with_reducible refine (HRE.out _).mono ?_;rintro en w9 ⟨rfl,rfl⟩) | (go_at_call 129;with_reducible refine (HFA.out _ _ HIC.out).mono ?_;rintro en w5 ⟨rfl,hI5⟩;have HI5:=Za hI5;have x50:=hI5.i.x0;have x51:=hI5.i.x1;have y50:=hI5.y0;clear hI5) | (go_at_call 129;with_reducible refine (HFB.out _ _ HI5.out).mono ?_;rintro en w6 ⟨rfl,hI6⟩;have HI6:=Za hI6;have x60:=hI6.i.x0;have x61:=hI6.i.x1;have y60:=hI6.y0;clear hI6));go_meet
      case rel=>exact ⟨rfl,HI6.out⟩
     | false =>
      go_wp2_with (first | (go_at_call 128;with_reducible refine (HRE.out _).mono ?_;rintro en w9 ⟨rfl,rfl⟩) | (go_at_call 129;with_reducible refine (HFA.out _ _ HIC.out).mono ?_;rintro en w5 ⟨rfl,hI5⟩;have HI5:=Za hI5;have x50:=hI5.i.x0;have x51:=hI5.i.x1;have y50:=hI5.y0;clear hI5) | (go_at_call 129;with_reducible refine (HFB.out _ _ HI5.out).mono ?_;rintro en w6 ⟨rfl,hI6⟩;have HI6:=Za hI6;have x60:=hI6.i.x0;have x61:=hI6.i.x1;have y60:=hI6.y0;clear hI6));go_meet
      case rel=>exact ⟨rfl,HI6.out⟩
    | false =>
     go_wp2_with (first | (go_at_call 128;with_reducible refine (HRE.out _).mono ?_;rintro en w9 ⟨rfl,rfl⟩) | (go_at_call 129;with_reducible refine (HFA.out _ _ HIC.out).mono ?_;rintro en w5 ⟨rfl,hI5⟩;have HI5:=Za hI5;have x50:=hI5.i.x0;have x51:=hI5.i.x1;have y50:=hI5.y0;clear hI5));go_meet
     case rel=>exact ⟨rfl,HI5.out⟩
   | false =>
    go_wp2_with (first | (go_at_call 128;with_reducible refine (HRE.out _).mono ?_;rintro en w9 ⟨rfl,rfl⟩));go_meet
    case rel=>exact ⟨rfl,HIC.out⟩
  case rest =>
   obtain ⟨rfl,hIc⟩:=hcut;have HI6:=Za hIc;clear hIc x0 x1 y0 HIC
   by_cases hall:r=true∧fa=true∧fb=true
   · obtain ⟨rfl,rfl,rfl⟩:=hall;go_upto_region 7 with fail;have HW1:=Za (HWO.out rfl rfl rfl);obtain ⟨ya,hya⟩:∃v,(rowL l a).a=v:=⟨_,rfl⟩;obtain ⟨yb,hyb⟩:∃v,(rowL l b).a=v:=⟨_,rfl⟩;have HQA1:=Za (fun (W:World) (h8:Below w.heap.size w W)=>(HQA.out W h8).2.1);have HQB1:=Za (fun (W:World) (h8:Below w.heap.size w W)=>(HQB.out W h8).2.1);have hvx:=HVU.out;simp only [hya,hyb] at hvx;simp at hvx;rw [hya] at HQA1;rw [hyb] at HQB1;rw [hya,hyb] at HW1;have HVX:=Za hvx;clear hya hyb hvx;refine Zl (JG wc (KS7 gx0 gx (.agg #[.slice (some ad) N c,.slice (some ⟨ge,0,none⟩) N N]) (.int .i64 (i:Int)) (.slice (some ad) N c) (.int .i64 (a:Int)) (.int .i64 (b:Int)) x.k ya yb (ad.add (a*6)) (ad.add (b*6)) (Zac x.k ya yb) (ZH l i [Zac x.k ya yb]))) [[],[],[],[2],[],[4],[],[4,5,6],[4,5,6,7],[4,5,6,7,8],[],[10],[],[10,11,12],[10,11,12,13],[10,11,12,13,14],[2,3,4,5,6,7,8,9,10,11,12,13,14,15],[2,3,4,5,6,7,8,9,10,11,12,13,14,15,16],[0,1,2,3,4,5,6,7,8,9,10,11,12,13,14,15,16,17],[0,1,2,3,4,5,6,7,8,9,10,11,12,13,14,15,16,17,18],[0,1,2,3,4,5,6,7,8,9,10,11,12,13,14,15,16,17,18,19]] (by kernel_rfl) (by kernel_rfl) (fun vs=>JG.start vs (fun i v w hi=>by match i,hi with | _+21,_=>trivial)) (fun vs=>?_);refine Zb rfl (fun S w9 hS hA hD hJ R hR=>?_) (fun K hK=>?_)
     · have HZ9:=HI6.out.below hJ.b;have z0:=HZ9.i.x0;have z1:=HZ9.i.x1;go_simp;exact hR _ _ (hJ.step (Zbw _ _ _ _ _ _ _ _ _ _ _ _ _ _) br_ rfl)
     go_simp;refine hK _ ?_;clear hK K;refine Zb rfl (fun S w9 hS hA hD hJ R hR=>?_) (fun K hK=>?_)
     · go_simp;exact hR _ _ (hJ.step (Zbw _ _ _ _ _ _ _ _ _ _ _ _ _ _) br_ rfl)
     go_simp;refine hK _ ?_;clear hK K;refine Zb rfl (fun S w9 hS hA hD hJ R hR=>?_) (fun K hK=>?_)
     · go_simp;exact hR _ _ (hJ.step (Zbw _ _ _ _ _ _ _ _ _ _ _ _ _ _) br_ rfl)
     go_simp;refine hK _ ?_;clear hK K;refine Zb rfl (fun S w9 hS hA hD hJ R hR=>?_) (fun K hK=>?_)
     · have HZ9:=HI6.out.below hJ.b;have z0:=HZ9.y0;have k2:vs 2=_:=hJ.k 2 (hA 2 (by decide));go_simp;exact hR _ _ (hJ.step (Zbw _ _ _ _ _ _ _ _ _ _ _ _ _ _) br_ rfl)
     go_simp;refine hK _ ?_;clear hK K;refine Zb rfl (fun S w9 hS hA hD hJ R hR=>?_) (fun K hK=>?_)
     · go_simp;exact hR _ _ (hJ.step (Zbw _ _ _ _ _ _ _ _ _ _ _ _ _ _) br_ rfl)
     go_simp;refine hK _ ?_;clear hK K;refine Zb rfl (fun S w9 hS hA hD hJ R hR=>?_) (fun K hK=>?_)
     · have HZ9:=HI6.out.below hJ.b;have z0:=HZ9.i.x0;have z1:=HZ9.i.x1;have k4:vs 4=_:=hJ.k 4 (hA 4 (by decide));go_simp;exact hR _ _ (hJ.step (Zbw _ _ _ _ _ _ _ _ _ _ _ _ _ _) br_ rfl)
     go_simp;refine hK _ ?_;clear hK K;refine Zb rfl (fun S w9 hS hA hD hJ R hR=>?_) (fun K hK=>?_)
     · go_simp;exact hR _ _ (hJ.step (Zbw _ _ _ _ _ _ _ _ _ _ _ _ _ _) br_ rfl)
     go_simp;refine hK _ ?_;clear hK K;refine Zb rfl (fun S w9 hS hA hD hJ R hR=>?_) (fun K hK=>?_)
     · have k5:vs 5=_:=hJ.k 5 (hA 5 (by decide));have k6:vs 6=_:=hJ.k 6 (hA 6 (by decide));go_simp;exact hR _ _ (hJ.step (Zbw _ _ _ _ _ _ _ _ _ _ _ _ _ _) br_ rfl)
     go_simp;refine hK _ ?_;clear hK K;refine Zb rfl (fun S w9 hS hA hD hJ R hR=>?_) (fun K hK=>?_)
     · have k7:vs 7=_:=hJ.k 7 (hA 7 (by decide));go_simp;exact hR _ _ (hJ.step (Zbw _ _ _ _ _ _ _ _ _ _ _ _ _ _) br_ rfl)
     go_simp;refine hK _ ?_;clear hK K;refine Zb rfl (fun S w9 hS hA hD hJ R hR=>?_) (fun K hK=>?_)
     · have HZ9:=HI6.out.below hJ.b;have k8:vs 8=_:=hJ.k 8 (hA 8 (by decide));have z0:=HQA1.out w9 HZ9.i.b;go_simp;exact hR _ _ (hJ.step (Zbw _ _ _ _ _ _ _ _ _ _ _ _ _ _) br_ rfl)
     go_simp;refine hK _ ?_;clear hK K;refine Zb rfl (fun S w9 hS hA hD hJ R hR=>?_) (fun K hK=>?_)
     · go_simp;exact hR _ _ (hJ.step (Zbw _ _ _ _ _ _ _ _ _ _ _ _ _ _) br_ rfl)
     go_simp;refine hK _ ?_;clear hK K;refine Zb rfl (fun S w9 hS hA hD hJ R hR=>?_) (fun K hK=>?_)
     · have HZ9:=HI6.out.below hJ.b;have z0:=HZ9.i.x0;have z1:=HZ9.i.x1;have k10:vs 10=_:=hJ.k 10 (hA 10 (by decide));go_simp;exact hR _ _ (hJ.step (Zbw _ _ _ _ _ _ _ _ _ _ _ _ _ _) br_ rfl)
     go_simp;refine hK _ ?_;clear hK K;refine Zb rfl (fun S w9 hS hA hD hJ R hR=>?_) (fun K hK=>?_)
     · go_simp;exact hR _ _ (hJ.step (Zbw _ _ _ _ _ _ _ _ _ _ _ _ _ _) br_ rfl)
     go_simp;refine hK _ ?_;clear hK K;refine Zb rfl (fun S w9 hS hA hD hJ R hR=>?_) (fun K hK=>?_)
     · have k11:vs 11=_:=hJ.k 11 (hA 11 (by decide));have k12:vs 12=_:=hJ.k 12 (hA 12 (by decide));go_simp;exact hR _ _ (hJ.step (Zbw _ _ _ _ _ _ _ _ _ _ _ _ _ _) br_ rfl)
     go_simp;refine hK _ ?_;clear hK K;refine Zb rfl (fun S w9 hS hA hD hJ R hR=>?_) (fun K hK=>?_)
     · have k13:vs 13=_:=hJ.k 13 (hA 13 (by decide));go_simp;exact hR _ _ (hJ.step (Zbw _ _ _ _ _ _ _ _ _ _ _ _ _ _) br_ rfl)
     go_simp;refine hK _ ?_;clear hK K;refine Zb rfl (fun S w9 hS hA hD hJ R hR=>?_) (fun K hK=>?_)
     · have HZ9:=HI6.out.below hJ.b;have k14:vs 14=_:=hJ.k 14 (hA 14 (by decide));have z0:=HQB1.out w9 HZ9.i.b;go_simp;exact hR _ _ (hJ.step (Zbw _ _ _ _ _ _ _ _ _ _ _ _ _ _) br_ rfl)
     go_simp;refine hK _ ?_;clear hK K;refine Zb rfl (fun S w9 hS hA hD hJ R hR=>?_) (fun K hK=>?_)
     · have k3:vs 3=_:=hJ.k 3 (hA 3 (by decide));have k9:vs 9=_:=hJ.k 9 (hA 9 (by decide));have k15:vs 15=_:=hJ.k 15 (hA 15 (by decide));refine pc_ Znw (kc_ (HW1.out w9) fun _ hb=>hR _ _ (hJ.step (Zbw _ _ _ _ _ _ _ _ _ _ _ _ _ _) hb rfl)) rfl ?_;simp [Act.eval,Act.put,k3,k9,k15]
     go_simp;refine hK _ ?_;clear hK K;refine Zb rfl (fun S w9 hS hA hD hJ R hR=>?_) (fun K hK=>?_)
     · have k16:vs 16=_:=hJ.k 16 (hA 16 (by decide));have hfin:=hR _ _ (hJ.step (j:=17) (Zbw _ _ _ _ _ _ _ _ _ _ _ _ _ _) ((Below.refl _ w9).alloc lr_ (.cells #[.int .i64 (Zac x.k ya yb).k,.int .i64 (Zac x.k ya yb).a,.int .i64 (Zac x.k ya yb).b,.int .i64 (Zac x.k ya yb).c,.int .i64 (Zac x.k ya yb).d,.int .i64 (Zac x.k ya yb).n] 49)) ⟨w9.heap.size,rfl,(ZbO w9 (Zac x.k ya yb)).s⟩);unfold Ac.val at k16;go_simp;exact hfin
     go_simp;refine hK _ ?_;clear hK K;refine Zb rfl (fun S w9 hS hA hD hJ R hR=>?_) (fun K hK=>?_)
     · have k0:vs 0=_:=hJ.k 0 (hA 0 (by decide));have k1:vs 1=_:=hJ.k 1 (hA 1 (by decide));obtain ⟨g6,k17,hs6⟩:=hJ.k 17 (hA 17 (by decide));refine pc_ Zbn (kd_ (HZ.out _ (some ⟨g6,0,none⟩) _ w9 (HI6.out.below hJ.b) hs6) fun u _ e2 e3=>hR _ _ (hJ.step (Zbw _ _ _ _ _ _ _ _ _ _ _ _ _ _) e3 e2)) rfl ?_;simp [Act.eval,Act.put,k0,k1,k17]
     go_simp;refine hK _ ?_;clear hK K;refine Zb rfl (fun S w9 hS hA hD hJ R hR=>?_) (fun K hK=>?_)
     · go_simp;exact hR _ _ (hJ.step (Zbw _ _ _ _ _ _ _ _ _ _ _ _ _ _) br_ rfl)
     go_simp;refine hK _ ?_;clear hK K;refine Zb rfl (fun S w9 hS hA hD hJ R hR=>?_) (fun K hK=>?_)
     · have k18:w9.ownsRow gx0 49 6 (vs 18) _ (acs _):=hJ.k 18 (hA 18 (by decide));go_simp;exact hR _ _ (hJ.step (Zbw _ _ _ _ _ _ _ _ _ _ _ _ _ _) br_ k18)
     go_simp;refine hK _ ?_;clear hK K;refine Zv (fun w7 hJ=>?_);have k19:vs 19=_:=hJ.k 19 rfl;have k20:w7.ownsRow gx0 49 6 (vs 20) _ (acs _):=hJ.k 20 rfl;have HJB:=Za hJ.b;have HK20:=Za k20;clear hJ k20;simp only [k19];clear k19;go_wp2_with fail;go_ret2;rw [←HVX.out];exact ⟨_,rfl,by rw [HG.out];exact HK20.out,(HI6.out.below HJB.out).i.b⟩
   · have hqf:(r&&(fa&&fb))=false:=by cases r <;> cases fa <;> cases fb <;> simp at hall ⊢
     rw [hqf];have HNA:=Za hall;have hv2:=HVU.out;rw [if_neg hall] at hv2;clear HVU hall;have HVU:=Za hv2;clear hv2 hqf;go_upto_region 8 with fail;have HS:=HI6;have x0:=HS.out.i.x0;have x1:=HS.out.i.x1;have y0:=HS.out.y0;obtain ⟨qa0,qa1,-,-,-,-⟩:=HQA.out _ HS.out.i.b;obtain ⟨qb0,qb1,-,-,-,-⟩:=HQB.out _ HS.out.i.b
     by_cases hk:x.k=37
     · skip;have hk1:(x.k == 37)=true:=by simp [hk]
       have hk2:(x.k == 38)=false:=by simp [hk]
       have HXK:=Za hk;clear hk
       by_cases hka:(rowL l a).k=20
       · have HKAA:=Za hka;rw [hka] at qa0;clear hka
         by_cases hv:(rowL l a).a=1
         · have HVA:=Za hv;rw [hv] at qa1;clear hv;go_upto_region 12 with (first | (go_at_call 131;with_reducible refine (HTR.out _ _).mono ?_;rintro en w9 ⟨rfl,rfl⟩));refine Zl (JG w9 (KA6 gx0 (.agg #[.slice (some ad) N c,.slice (some ⟨ge,0,none⟩) N N]) (.int .i64 (i:Int)) (.int .i64 (b:Int)) (.slice (some (ad.add (b*6))) (endL l b - b) (c - b)) 2 (ZH l i (Ze l b)))) [[],[],[],[],[2,3],[0,1,2,3,4],[0,1,2,3,4,5],[0,1,2,3,4,5,6]] (by kernel_rfl) (by kernel_rfl) (fun vs=>JG.start vs (fun i v w hi=>by match i,hi with | _+8,_=>trivial)) (fun vs=>?_);refine Zb rfl (fun S w9 hS hA hD hJ R hR=>?_) (fun K hK=>?_)
           · have HZ9:=HS.out.below hJ.b;have z0:=HZ9.i.x0;have z1:=HZ9.i.x1;go_simp;exact hR _ _ (hJ.step (Zz _ _ _ _ _ _ _) br_ rfl)
           go_simp;refine hK _ ?_;clear hK K;refine Zb rfl (fun S w9 hS hA hD hJ R hR=>?_) (fun K hK=>?_)
           · go_simp;exact hR _ _ (hJ.step (Zz _ _ _ _ _ _ _) br_ rfl)
           go_simp;refine hK _ ?_;clear hK K;refine Zb rfl (fun S w9 hS hA hD hJ R hR=>?_) (fun K hK=>?_)
           · have HZ9:=HS.out.below hJ.b;have z0:=HZ9.i.x0;have z1:=HZ9.i.x1;go_simp;exact hR _ _ (hJ.step (Zz _ _ _ _ _ _ _) br_ rfl)
           go_simp;refine hK _ ?_;clear hK K;refine Zb rfl (fun S w9 hS hA hD hJ R hR=>?_) (fun K hK=>?_)
           · go_simp;exact hR _ _ (hJ.step (Zz _ _ _ _ _ _ _) br_ rfl)
           go_simp;refine hK _ ?_;clear hK K;refine Zb rfl (fun S w9 hS hA hD hJ R hR=>?_) (fun K hK=>?_)
           · have HZ9:=HS.out.below hJ.b;have k2:vs 2=_:=hJ.k 2 (hA 2 (by decide));have k3:vs 3=_:=hJ.k 3 (hA 3 (by decide));refine pc_ Zby (kc_ (HYB.out gx w9 HZ9) fun _ hb=>hR _ _ (hJ.step (Zz _ _ _ _ _ _ _) hb rfl)) rfl ?_;simp [Act.eval,Act.put,k2,k3]
           go_simp;refine hK _ ?_;clear hK K;refine Zb rfl (fun S w9 hS hA hD hJ R hR=>?_) (fun K hK=>?_)
           · have HZ9:=HS.out.below hJ.b;have k0:vs 0=_:=hJ.k 0 (hA 0 (by decide));have k1:vs 1=_:=hJ.k 1 (hA 1 (by decide));have k4:vs 4=_:=hJ.k 4 (hA 4 (by decide));refine pc_ Zbn (kd_ (HZB.out gx w9 HZ9) fun u _ e2 e3=>hR _ _ (hJ.step (Zz _ _ _ _ _ _ _) e3 e2)) rfl ?_;simp [Act.eval,Act.put,k0,k1,k4]
           go_simp;refine hK _ ?_;clear hK K;refine Zb rfl (fun S w9 hS hA hD hJ R hR=>?_) (fun K hK=>?_)
           · go_simp;exact hR _ _ (hJ.step (Zz _ _ _ _ _ _ _) br_ rfl)
           go_simp;refine hK _ ?_;clear hK K;refine Zb rfl (fun S w9 hS hA hD hJ R hR=>?_) (fun K hK=>?_)
           · have k5:w9.ownsRow gx0 49 6 (vs 5) _ (acs _):=hJ.k 5 (hA 5 (by decide));go_simp;exact hR _ _ (hJ.step (Zz _ _ _ _ _ _ _) br_ k5)
           go_simp;refine hK _ ?_;clear hK K;refine Zv (fun w7 hJ=>?_);have k6:vs 6=_:=hJ.k 6 rfl;have k7:w7.ownsRow gx0 49 6 (vs 7) _ (acs _):=hJ.k 7 rfl;have HJB:=Za hJ.b;have HK9r:=Za k7;clear hJ k7;simp only [k6];clear k6;go_wp2_with fail;go_ret2;have e:=HVU.out;simp [HXK.out,HKAA.out,HVA.out] at e;rw [←e];exact ⟨_,rfl,by rw [HG.out];exact HK9r.out,(HS.out.below HJB.out).i.b⟩
         · have HVN:=Za hv;obtain ⟨VA,hVA⟩:∃v,(rowL l a).a=v:=⟨_,rfl⟩;rw [hVA] at qa1 hv;clear hVA;have hvb:(VA == 1)=false:=by simp [hv]
           clear hv;go_upto_region 13 with (first | (go_at_call 131;with_reducible refine (HTR.out _ _).mono ?_;rintro en w9 ⟨rfl,rfl⟩));refine Zl (JG w9 (KA6 gx0 (.agg #[.slice (some ad) N c,.slice (some ⟨ge,0,none⟩) N N]) (.int .i64 (i:Int)) (.int .i64 (a:Int)) (.slice (some (ad.add (a*6))) (endL l a - a) (c - a)) 2 (ZH l i (Ze l a)))) [[],[],[],[],[2,3],[0,1,2,3,4],[0,1,2,3,4,5],[0,1,2,3,4,5,6]] (by kernel_rfl) (by kernel_rfl) (fun vs=>JG.start vs (fun i v w hi=>by match i,hi with | _+8,_=>trivial)) (fun vs=>?_);refine Zb rfl (fun S w9 hS hA hD hJ R hR=>?_) (fun K hK=>?_)
           · have HZ9:=HS.out.below hJ.b;have z0:=HZ9.i.x0;have z1:=HZ9.i.x1;go_simp;exact hR _ _ (hJ.step (Zz _ _ _ _ _ _ _) br_ rfl)
           go_simp;refine hK _ ?_;clear hK K;refine Zb rfl (fun S w9 hS hA hD hJ R hR=>?_) (fun K hK=>?_)
           · go_simp;exact hR _ _ (hJ.step (Zz _ _ _ _ _ _ _) br_ rfl)
           go_simp;refine hK _ ?_;clear hK K;refine Zb rfl (fun S w9 hS hA hD hJ R hR=>?_) (fun K hK=>?_)
           · have HZ9:=HS.out.below hJ.b;have z0:=HZ9.i.x0;have z1:=HZ9.i.x1;go_simp;exact hR _ _ (hJ.step (Zz _ _ _ _ _ _ _) br_ rfl)
           go_simp;refine hK _ ?_;clear hK K;refine Zb rfl (fun S w9 hS hA hD hJ R hR=>?_) (fun K hK=>?_)
           · go_simp;exact hR _ _ (hJ.step (Zz _ _ _ _ _ _ _) br_ rfl)
           go_simp;refine hK _ ?_;clear hK K;refine Zb rfl (fun S w9 hS hA hD hJ R hR=>?_) (fun K hK=>?_)
           · have HZ9:=HS.out.below hJ.b;have k2:vs 2=_:=hJ.k 2 (hA 2 (by decide));have k3:vs 3=_:=hJ.k 3 (hA 3 (by decide));refine pc_ Zby (kc_ (HYA.out gx w9 HZ9) fun _ hb=>hR _ _ (hJ.step (Zz _ _ _ _ _ _ _) hb rfl)) rfl ?_;simp [Act.eval,Act.put,k2,k3]
           go_simp;refine hK _ ?_;clear hK K;refine Zb rfl (fun S w9 hS hA hD hJ R hR=>?_) (fun K hK=>?_)
           · have HZ9:=HS.out.below hJ.b;have k0:vs 0=_:=hJ.k 0 (hA 0 (by decide));have k1:vs 1=_:=hJ.k 1 (hA 1 (by decide));have k4:vs 4=_:=hJ.k 4 (hA 4 (by decide));refine pc_ Zbn (kd_ (HZA.out gx w9 HZ9) fun u _ e2 e3=>hR _ _ (hJ.step (Zz _ _ _ _ _ _ _) e3 e2)) rfl ?_;simp [Act.eval,Act.put,k0,k1,k4]
           go_simp;refine hK _ ?_;clear hK K;refine Zb rfl (fun S w9 hS hA hD hJ R hR=>?_) (fun K hK=>?_)
           · go_simp;exact hR _ _ (hJ.step (Zz _ _ _ _ _ _ _) br_ rfl)
           go_simp;refine hK _ ?_;clear hK K;refine Zb rfl (fun S w9 hS hA hD hJ R hR=>?_) (fun K hK=>?_)
           · have k5:w9.ownsRow gx0 49 6 (vs 5) _ (acs _):=hJ.k 5 (hA 5 (by decide));go_simp;exact hR _ _ (hJ.step (Zz _ _ _ _ _ _ _) br_ k5)
           go_simp;refine hK _ ?_;clear hK K;refine Zv (fun w7 hJ=>?_);have k6:vs 6=_:=hJ.k 6 rfl;have k7:w7.ownsRow gx0 49 6 (vs 7) _ (acs _):=hJ.k 7 rfl;have HJB:=Za hJ.b;have HK9r:=Za k7;clear hJ k7;simp only [k6];clear k6;go_wp2_with fail;go_ret2;have e:=HVU.out;simp [HXK.out,HKAA.out,HVN.out] at e;rw [←e];exact ⟨_,rfl,by rw [HG.out];exact HK9r.out,(HS.out.below HJB.out).i.b⟩
       · have HKAA:=Za hka;obtain ⟨KA,hKA⟩:∃v,(rowL l a).k=v:=⟨_,rfl⟩;rw [hKA] at qa0 hka;clear hKA;have hkab:(KA == 20)=false:=by simp [hka]
         clear hka
         by_cases hkb:(rowL l b).k=20
         · have HKBB:=Za hkb;rw [hkb] at qb0;clear hkb
           by_cases hv:(rowL l b).a=1
           · have HVA:=Za hv;rw [hv] at qb1;clear hv;go_upto_region 16 with (first | (go_at_call 131;with_reducible refine (HTR.out _ _).mono ?_;rintro en w9 ⟨rfl,rfl⟩));refine Zl (JG w9 (KA6 gx0 (.agg #[.slice (some ad) N c,.slice (some ⟨ge,0,none⟩) N N]) (.int .i64 (i:Int)) (.int .i64 (a:Int)) (.slice (some (ad.add (a*6))) (endL l a - a) (c - a)) 3 (ZH l i (Ze l a)))) [[],[],[],[],[2,3],[0,1,2,3,4],[0,1,2,3,4,5],[0,1,2,3,4,5,6]] (by kernel_rfl) (by kernel_rfl) (fun vs=>JG.start vs (fun i v w hi=>by match i,hi with | _+8,_=>trivial)) (fun vs=>?_);refine Zb rfl (fun S w9 hS hA hD hJ R hR=>?_) (fun K hK=>?_)
             · have HZ9:=HS.out.below hJ.b;have z0:=HZ9.i.x0;have z1:=HZ9.i.x1;go_simp;exact hR _ _ (hJ.step (Zz _ _ _ _ _ _ _) br_ rfl)
             go_simp;refine hK _ ?_;clear hK K;refine Zb rfl (fun S w9 hS hA hD hJ R hR=>?_) (fun K hK=>?_)
             · go_simp;exact hR _ _ (hJ.step (Zz _ _ _ _ _ _ _) br_ rfl)
             go_simp;refine hK _ ?_;clear hK K;refine Zb rfl (fun S w9 hS hA hD hJ R hR=>?_) (fun K hK=>?_)
             · have HZ9:=HS.out.below hJ.b;have z0:=HZ9.i.x0;have z1:=HZ9.i.x1;go_simp;exact hR _ _ (hJ.step (Zz _ _ _ _ _ _ _) br_ rfl)
             go_simp;refine hK _ ?_;clear hK K;refine Zb rfl (fun S w9 hS hA hD hJ R hR=>?_) (fun K hK=>?_)
             · go_simp;exact hR _ _ (hJ.step (Zz _ _ _ _ _ _ _) br_ rfl)
             go_simp;refine hK _ ?_;clear hK K;refine Zb rfl (fun S w9 hS hA hD hJ R hR=>?_) (fun K hK=>?_)
             · have HZ9:=HS.out.below hJ.b;have k2:vs 2=_:=hJ.k 2 (hA 2 (by decide));have k3:vs 3=_:=hJ.k 3 (hA 3 (by decide));refine pc_ Zby (kc_ (HYA.out gx w9 HZ9) fun _ hb=>hR _ _ (hJ.step (Zz _ _ _ _ _ _ _) hb rfl)) rfl ?_;simp [Act.eval,Act.put,k2,k3]
             go_simp;refine hK _ ?_;clear hK K;refine Zb rfl (fun S w9 hS hA hD hJ R hR=>?_) (fun K hK=>?_)
             · have HZ9:=HS.out.below hJ.b;have k0:vs 0=_:=hJ.k 0 (hA 0 (by decide));have k1:vs 1=_:=hJ.k 1 (hA 1 (by decide));have k4:vs 4=_:=hJ.k 4 (hA 4 (by decide));refine pc_ Zbn (kd_ (HZA.out gx w9 HZ9) fun u _ e2 e3=>hR _ _ (hJ.step (Zz _ _ _ _ _ _ _) e3 e2)) rfl ?_;simp [Act.eval,Act.put,k0,k1,k4]
             go_simp;refine hK _ ?_;clear hK K;refine Zb rfl (fun S w9 hS hA hD hJ R hR=>?_) (fun K hK=>?_)
             · go_simp;exact hR _ _ (hJ.step (Zz _ _ _ _ _ _ _) br_ rfl)
             go_simp;refine hK _ ?_;clear hK K;refine Zb rfl (fun S w9 hS hA hD hJ R hR=>?_) (fun K hK=>?_)
             · have k5:w9.ownsRow gx0 49 6 (vs 5) _ (acs _):=hJ.k 5 (hA 5 (by decide));go_simp;exact hR _ _ (hJ.step (Zz _ _ _ _ _ _ _) br_ k5)
             go_simp;refine hK _ ?_;clear hK K;refine Zv (fun w7 hJ=>?_);have k6:vs 6=_:=hJ.k 6 rfl;have k7:w7.ownsRow gx0 49 6 (vs 7) _ (acs _):=hJ.k 7 rfl;have HJB:=Za hJ.b;have HK9r:=Za k7;clear hJ k7;simp only [k6];clear k6;go_wp2_with fail;go_ret2;have e:=HVU.out;simp [HXK.out,HKAA.out,HKBB.out,HVA.out] at e;rw [←e];exact ⟨_,rfl,by rw [HG.out];exact HK9r.out,(HS.out.below HJB.out).i.b⟩
           · have HVN:=Za hv;obtain ⟨VA,hVA⟩:∃v,(rowL l b).a=v:=⟨_,rfl⟩;rw [hVA] at qb1 hv;clear hVA;have hvb:(VA == 1)=false:=by simp [hv]
             clear hv
             cases ta with
             | true =>
              go_upto_region 18 with (first | (go_at_call 131;with_reducible refine (HTR.out _ _).mono ?_;rintro en w9 ⟨rfl,rfl⟩) | (go_at_call 88;with_reducible refine (HTA.out _ _ HS.out).mono ?_;rintro en w7 ⟨rfl,hI7⟩;have HI7:=Za hI7;have x70:=hI7.i.x0;have x71:=hI7.i.x1;have y70:=hI7.y0;clear hI7));refine Zl (JG w7 (KA6 gx0 (.agg #[.slice (some ad) N c,.slice (some ⟨ge,0,none⟩) N N]) (.int .i64 (i:Int)) (.int .i64 (b:Int)) (.slice (some (ad.add (b*6))) (endL l b - b) (c - b)) 3 (ZH l i (Ze l b)))) [[],[],[],[],[2,3],[0,1,2,3,4],[0,1,2,3,4,5],[0,1,2,3,4,5,6]] (by kernel_rfl) (by kernel_rfl) (fun vs=>JG.start vs (fun i v w hi=>by match i,hi with | _+8,_=>trivial)) (fun vs=>?_);refine Zb rfl (fun S w9 hS hA hD hJ R hR=>?_) (fun K hK=>?_)
              · have HZ9:=HI7.out.below hJ.b;have z0:=HZ9.i.x0;have z1:=HZ9.i.x1;go_simp;exact hR _ _ (hJ.step (Zz _ _ _ _ _ _ _) br_ rfl)
              go_simp;refine hK _ ?_;clear hK K;refine Zb rfl (fun S w9 hS hA hD hJ R hR=>?_) (fun K hK=>?_)
              · go_simp;exact hR _ _ (hJ.step (Zz _ _ _ _ _ _ _) br_ rfl)
              go_simp;refine hK _ ?_;clear hK K;refine Zb rfl (fun S w9 hS hA hD hJ R hR=>?_) (fun K hK=>?_)
              · have HZ9:=HI7.out.below hJ.b;have z0:=HZ9.i.x0;have z1:=HZ9.i.x1;go_simp;exact hR _ _ (hJ.step (Zz _ _ _ _ _ _ _) br_ rfl)
              go_simp;refine hK _ ?_;clear hK K;refine Zb rfl (fun S w9 hS hA hD hJ R hR=>?_) (fun K hK=>?_)
              · go_simp;exact hR _ _ (hJ.step (Zz _ _ _ _ _ _ _) br_ rfl)
              go_simp;refine hK _ ?_;clear hK K;refine Zb rfl (fun S w9 hS hA hD hJ R hR=>?_) (fun K hK=>?_)
              · have HZ9:=HI7.out.below hJ.b;have k2:vs 2=_:=hJ.k 2 (hA 2 (by decide));have k3:vs 3=_:=hJ.k 3 (hA 3 (by decide));refine pc_ Zby (kc_ (HYB.out gx w9 HZ9) fun _ hb=>hR _ _ (hJ.step (Zz _ _ _ _ _ _ _) hb rfl)) rfl ?_;simp [Act.eval,Act.put,k2,k3]
              go_simp;refine hK _ ?_;clear hK K;refine Zb rfl (fun S w9 hS hA hD hJ R hR=>?_) (fun K hK=>?_)
              · have HZ9:=HI7.out.below hJ.b;have k0:vs 0=_:=hJ.k 0 (hA 0 (by decide));have k1:vs 1=_:=hJ.k 1 (hA 1 (by decide));have k4:vs 4=_:=hJ.k 4 (hA 4 (by decide));refine pc_ Zbn (kd_ (HZB.out gx w9 HZ9) fun u _ e2 e3=>hR _ _ (hJ.step (Zz _ _ _ _ _ _ _) e3 e2)) rfl ?_;simp [Act.eval,Act.put,k0,k1,k4]
              go_simp;refine hK _ ?_;clear hK K;refine Zb rfl (fun S w9 hS hA hD hJ R hR=>?_) (fun K hK=>?_)
              · go_simp;exact hR _ _ (hJ.step (Zz _ _ _ _ _ _ _) br_ rfl)
              go_simp;refine hK _ ?_;clear hK K;refine Zb rfl (fun S w9 hS hA hD hJ R hR=>?_) (fun K hK=>?_)
              · have k5:w9.ownsRow gx0 49 6 (vs 5) _ (acs _):=hJ.k 5 (hA 5 (by decide));go_simp;exact hR _ _ (hJ.step (Zz _ _ _ _ _ _ _) br_ k5)
              go_simp;refine hK _ ?_;clear hK K;refine Zv (fun w7 hJ=>?_);have k6:vs 6=_:=hJ.k 6 rfl;have k7:w7.ownsRow gx0 49 6 (vs 7) _ (acs _):=hJ.k 7 rfl;have HJB:=Za hJ.b;have HK9r:=Za k7;clear hJ k7;simp only [k6];clear k6;go_wp2_with fail;go_ret2;have e:=HVU.out;simp [HXK.out,HKAA.out,HKBB.out,HVN.out] at e;rw [←e];exact ⟨_,rfl,by rw [HG.out];exact HK9r.out,(HI7.out.below HJB.out).i.b⟩
             | false =>
              go_wp2_with (first | (go_at_call 131;with_reducible refine (HTR.out _ _).mono ?_;rintro en w9 ⟨rfl,rfl⟩) | (go_at_call 88;with_reducible refine (HTA.out _ _ HS.out).mono ?_;rintro en w7 ⟨rfl,hI7⟩;have HI7:=Za hI7;have x70:=hI7.i.x0;have x71:=hI7.i.x1;have y70:=hI7.y0;clear hI7));go_ret2;have e:=HVU.out;simp [HXK.out,HKAA.out,HKBB.out,HVN.out] at e;rw [←e];exact ⟨rfl,HI7.out.i.b⟩
         · have HKBB:=Za hkb;obtain ⟨KB,hKB⟩:∃v,(rowL l b).k=v:=⟨_,rfl⟩;rw [hKB] at qb0 hkb;clear hKB;have hkbb:(KB == 20)=false:=by simp [hkb]
           clear hkb;go_wp2_with (first | (go_at_call 131;with_reducible refine (HTR.out _ _).mono ?_;rintro en w9 ⟨rfl,rfl⟩));go_ret2;have e:=HVU.out;simp [HXK.out,HKAA.out,HKBB.out] at e;rw [←e];exact ⟨rfl,HS.out.i.b⟩
     · by_cases hk8:x.k=38
       · have hk:=hk8;clear hk8;have hk1:(x.k == 37)=false:=by simp [hk]
         have hk2:(x.k == 38)=true:=by simp [hk]
         have HXK:=Za hk;clear hk
         by_cases hka:(rowL l a).k=20
         · have HKAA:=Za hka;rw [hka] at qa0;clear hka
           by_cases hv:(rowL l a).a=0
           · have HVA:=Za hv;rw [hv] at qa1;clear hv;go_upto_region 12 with (first | (go_at_call 131;with_reducible refine (HTR.out _ _).mono ?_;rintro en w9 ⟨rfl,rfl⟩));refine Zl (JG w9 (KA6 gx0 (.agg #[.slice (some ad) N c,.slice (some ⟨ge,0,none⟩) N N]) (.int .i64 (i:Int)) (.int .i64 (b:Int)) (.slice (some (ad.add (b*6))) (endL l b - b) (c - b)) 2 (ZH l i (Ze l b)))) [[],[],[],[],[2,3],[0,1,2,3,4],[0,1,2,3,4,5],[0,1,2,3,4,5,6]] (by kernel_rfl) (by kernel_rfl) (fun vs=>JG.start vs (fun i v w hi=>by match i,hi with | _+8,_=>trivial)) (fun vs=>?_);refine Zb rfl (fun S w9 hS hA hD hJ R hR=>?_) (fun K hK=>?_)
             · have HZ9:=HS.out.below hJ.b;have z0:=HZ9.i.x0;have z1:=HZ9.i.x1;go_simp;exact hR _ _ (hJ.step (Zz _ _ _ _ _ _ _) br_ rfl)
             go_simp;refine hK _ ?_;clear hK K;refine Zb rfl (fun S w9 hS hA hD hJ R hR=>?_) (fun K hK=>?_)
             · go_simp;exact hR _ _ (hJ.step (Zz _ _ _ _ _ _ _) br_ rfl)
             go_simp;refine hK _ ?_;clear hK K;refine Zb rfl (fun S w9 hS hA hD hJ R hR=>?_) (fun K hK=>?_)
             · have HZ9:=HS.out.below hJ.b;have z0:=HZ9.i.x0;have z1:=HZ9.i.x1;go_simp;exact hR _ _ (hJ.step (Zz _ _ _ _ _ _ _) br_ rfl)
             go_simp;refine hK _ ?_;clear hK K;refine Zb rfl (fun S w9 hS hA hD hJ R hR=>?_) (fun K hK=>?_)
             · go_simp;exact hR _ _ (hJ.step (Zz _ _ _ _ _ _ _) br_ rfl)
             go_simp;refine hK _ ?_;clear hK K;refine Zb rfl (fun S w9 hS hA hD hJ R hR=>?_) (fun K hK=>?_)
             · have HZ9:=HS.out.below hJ.b;have k2:vs 2=_:=hJ.k 2 (hA 2 (by decide));have k3:vs 3=_:=hJ.k 3 (hA 3 (by decide));refine pc_ Zby (kc_ (HYB.out gx w9 HZ9) fun _ hb=>hR _ _ (hJ.step (Zz _ _ _ _ _ _ _) hb rfl)) rfl ?_;simp [Act.eval,Act.put,k2,k3]
             go_simp;refine hK _ ?_;clear hK K;refine Zb rfl (fun S w9 hS hA hD hJ R hR=>?_) (fun K hK=>?_)
             · have HZ9:=HS.out.below hJ.b;have k0:vs 0=_:=hJ.k 0 (hA 0 (by decide));have k1:vs 1=_:=hJ.k 1 (hA 1 (by decide));have k4:vs 4=_:=hJ.k 4 (hA 4 (by decide));refine pc_ Zbn (kd_ (HZB.out gx w9 HZ9) fun u _ e2 e3=>hR _ _ (hJ.step (Zz _ _ _ _ _ _ _) e3 e2)) rfl ?_;simp [Act.eval,Act.put,k0,k1,k4]
             go_simp;refine hK _ ?_;clear hK K;refine Zb rfl (fun S w9 hS hA hD hJ R hR=>?_) (fun K hK=>?_)
             · go_simp;exact hR _ _ (hJ.step (Zz _ _ _ _ _ _ _) br_ rfl)
             go_simp;refine hK _ ?_;clear hK K;refine Zb rfl (fun S w9 hS hA hD hJ R hR=>?_) (fun K hK=>?_)
             · have k5:w9.ownsRow gx0 49 6 (vs 5) _ (acs _):=hJ.k 5 (hA 5 (by decide));go_simp;exact hR _ _ (hJ.step (Zz _ _ _ _ _ _ _) br_ k5)
             go_simp;refine hK _ ?_;clear hK K;refine Zv (fun w7 hJ=>?_);have k6:vs 6=_:=hJ.k 6 rfl;have k7:w7.ownsRow gx0 49 6 (vs 7) _ (acs _):=hJ.k 7 rfl;have HJB:=Za hJ.b;have HK9r:=Za k7;clear hJ k7;simp only [k6];clear k6;go_wp2_with fail;go_ret2;have e:=HVU.out;simp [HXK.out,HKAA.out,HVA.out] at e;rw [←e];exact ⟨_,rfl,by rw [HG.out];exact HK9r.out,(HS.out.below HJB.out).i.b⟩
           · have HVN:=Za hv;obtain ⟨VA,hVA⟩:∃v,(rowL l a).a=v:=⟨_,rfl⟩;rw [hVA] at qa1 hv;clear hVA;have hvb:(VA == 0)=false:=by simp [hv]
             clear hv;go_upto_region 13 with (first | (go_at_call 131;with_reducible refine (HTR.out _ _).mono ?_;rintro en w9 ⟨rfl,rfl⟩));refine Zl (JG w9 (KA6 gx0 (.agg #[.slice (some ad) N c,.slice (some ⟨ge,0,none⟩) N N]) (.int .i64 (i:Int)) (.int .i64 (a:Int)) (.slice (some (ad.add (a*6))) (endL l a - a) (c - a)) 2 (ZH l i (Ze l a)))) [[],[],[],[],[2,3],[0,1,2,3,4],[0,1,2,3,4,5],[0,1,2,3,4,5,6]] (by kernel_rfl) (by kernel_rfl) (fun vs=>JG.start vs (fun i v w hi=>by match i,hi with | _+8,_=>trivial)) (fun vs=>?_);refine Zb rfl (fun S w9 hS hA hD hJ R hR=>?_) (fun K hK=>?_)
             · have HZ9:=HS.out.below hJ.b;have z0:=HZ9.i.x0;have z1:=HZ9.i.x1;go_simp;exact hR _ _ (hJ.step (Zz _ _ _ _ _ _ _) br_ rfl)
             go_simp;refine hK _ ?_;clear hK K;refine Zb rfl (fun S w9 hS hA hD hJ R hR=>?_) (fun K hK=>?_)
             · go_simp;exact hR _ _ (hJ.step (Zz _ _ _ _ _ _ _) br_ rfl)
             go_simp;refine hK _ ?_;clear hK K;refine Zb rfl (fun S w9 hS hA hD hJ R hR=>?_) (fun K hK=>?_)
             · have HZ9:=HS.out.below hJ.b;have z0:=HZ9.i.x0;have z1:=HZ9.i.x1;go_simp;exact hR _ _ (hJ.step (Zz _ _ _ _ _ _ _) br_ rfl)
             go_simp;refine hK _ ?_;clear hK K;refine Zb rfl (fun S w9 hS hA hD hJ R hR=>?_) (fun K hK=>?_)
             · go_simp;exact hR _ _ (hJ.step (Zz _ _ _ _ _ _ _) br_ rfl)
             go_simp;refine hK _ ?_;clear hK K;refine Zb rfl (fun S w9 hS hA hD hJ R hR=>?_) (fun K hK=>?_)
             · have HZ9:=HS.out.below hJ.b;have k2:vs 2=_:=hJ.k 2 (hA 2 (by decide));have k3:vs 3=_:=hJ.k 3 (hA 3 (by decide));refine pc_ Zby (kc_ (HYA.out gx w9 HZ9) fun _ hb=>hR _ _ (hJ.step (Zz _ _ _ _ _ _ _) hb rfl)) rfl ?_;simp [Act.eval,Act.put,k2,k3]
             go_simp;refine hK _ ?_;clear hK K;refine Zb rfl (fun S w9 hS hA hD hJ R hR=>?_) (fun K hK=>?_)
             · have HZ9:=HS.out.below hJ.b;have k0:vs 0=_:=hJ.k 0 (hA 0 (by decide));have k1:vs 1=_:=hJ.k 1 (hA 1 (by decide));have k4:vs 4=_:=hJ.k 4 (hA 4 (by decide));refine pc_ Zbn (kd_ (HZA.out gx w9 HZ9) fun u _ e2 e3=>hR _ _ (hJ.step (Zz _ _ _ _ _ _ _) e3 e2)) rfl ?_;simp [Act.eval,Act.put,k0,k1,k4]
             go_simp;refine hK _ ?_;clear hK K;refine Zb rfl (fun S w9 hS hA hD hJ R hR=>?_) (fun K hK=>?_)
             · go_simp;exact hR _ _ (hJ.step (Zz _ _ _ _ _ _ _) br_ rfl)
             go_simp;refine hK _ ?_;clear hK K;refine Zb rfl (fun S w9 hS hA hD hJ R hR=>?_) (fun K hK=>?_)
             · have k5:w9.ownsRow gx0 49 6 (vs 5) _ (acs _):=hJ.k 5 (hA 5 (by decide));go_simp;exact hR _ _ (hJ.step (Zz _ _ _ _ _ _ _) br_ k5)
             go_simp;refine hK _ ?_;clear hK K;refine Zv (fun w7 hJ=>?_);have k6:vs 6=_:=hJ.k 6 rfl;have k7:w7.ownsRow gx0 49 6 (vs 7) _ (acs _):=hJ.k 7 rfl;have HJB:=Za hJ.b;have HK9r:=Za k7;clear hJ k7;simp only [k6];clear k6;go_wp2_with fail;go_ret2;have e:=HVU.out;simp [HXK.out,HKAA.out,HVN.out] at e;rw [←e];exact ⟨_,rfl,by rw [HG.out];exact HK9r.out,(HS.out.below HJB.out).i.b⟩
         · have HKAA:=Za hka;obtain ⟨KA,hKA⟩:∃v,(rowL l a).k=v:=⟨_,rfl⟩;rw [hKA] at qa0 hka;clear hKA;have hkab:(KA == 20)=false:=by simp [hka]
           clear hka
           by_cases hkb:(rowL l b).k=20
           · have HKBB:=Za hkb;rw [hkb] at qb0;clear hkb
             by_cases hv:(rowL l b).a=0
             · have HVA:=Za hv;rw [hv] at qb1;clear hv;go_upto_region 16 with (first | (go_at_call 131;with_reducible refine (HTR.out _ _).mono ?_;rintro en w9 ⟨rfl,rfl⟩));refine Zl (JG w9 (KA6 gx0 (.agg #[.slice (some ad) N c,.slice (some ⟨ge,0,none⟩) N N]) (.int .i64 (i:Int)) (.int .i64 (a:Int)) (.slice (some (ad.add (a*6))) (endL l a - a) (c - a)) 3 (ZH l i (Ze l a)))) [[],[],[],[],[2,3],[0,1,2,3,4],[0,1,2,3,4,5],[0,1,2,3,4,5,6]] (by kernel_rfl) (by kernel_rfl) (fun vs=>JG.start vs (fun i v w hi=>by match i,hi with | _+8,_=>trivial)) (fun vs=>?_);refine Zb rfl (fun S w9 hS hA hD hJ R hR=>?_) (fun K hK=>?_)
               · have HZ9:=HS.out.below hJ.b;have z0:=HZ9.i.x0;have z1:=HZ9.i.x1;go_simp;exact hR _ _ (hJ.step (Zz _ _ _ _ _ _ _) br_ rfl)
               go_simp;refine hK _ ?_;clear hK K;refine Zb rfl (fun S w9 hS hA hD hJ R hR=>?_) (fun K hK=>?_)
               · go_simp;exact hR _ _ (hJ.step (Zz _ _ _ _ _ _ _) br_ rfl)
               go_simp;refine hK _ ?_;clear hK K;refine Zb rfl (fun S w9 hS hA hD hJ R hR=>?_) (fun K hK=>?_)
               · have HZ9:=HS.out.below hJ.b;have z0:=HZ9.i.x0;have z1:=HZ9.i.x1;go_simp;exact hR _ _ (hJ.step (Zz _ _ _ _ _ _ _) br_ rfl)
               go_simp;refine hK _ ?_;clear hK K;refine Zb rfl (fun S w9 hS hA hD hJ R hR=>?_) (fun K hK=>?_)
               · go_simp;exact hR _ _ (hJ.step (Zz _ _ _ _ _ _ _) br_ rfl)
               go_simp;refine hK _ ?_;clear hK K;refine Zb rfl (fun S w9 hS hA hD hJ R hR=>?_) (fun K hK=>?_)
               · have HZ9:=HS.out.below hJ.b;have k2:vs 2=_:=hJ.k 2 (hA 2 (by decide));have k3:vs 3=_:=hJ.k 3 (hA 3 (by decide));refine pc_ Zby (kc_ (HYA.out gx w9 HZ9) fun _ hb=>hR _ _ (hJ.step (Zz _ _ _ _ _ _ _) hb rfl)) rfl ?_;simp [Act.eval,Act.put,k2,k3]
               go_simp;refine hK _ ?_;clear hK K;refine Zb rfl (fun S w9 hS hA hD hJ R hR=>?_) (fun K hK=>?_)
               · have HZ9:=HS.out.below hJ.b;have k0:vs 0=_:=hJ.k 0 (hA 0 (by decide));have k1:vs 1=_:=hJ.k 1 (hA 1 (by decide));have k4:vs 4=_:=hJ.k 4 (hA 4 (by decide));refine pc_ Zbn (kd_ (HZA.out gx w9 HZ9) fun u _ e2 e3=>hR _ _ (hJ.step (Zz _ _ _ _ _ _ _) e3 e2)) rfl ?_;simp [Act.eval,Act.put,k0,k1,k4]
               go_simp;refine hK _ ?_;clear hK K;refine Zb rfl (fun S w9 hS hA hD hJ R hR=>?_) (fun K hK=>?_)
               · go_simp;exact hR _ _ (hJ.step (Zz _ _ _ _ _ _ _) br_ rfl)
               go_simp;refine hK _ ?_;clear hK K;refine Zb rfl (fun S w9 hS hA hD hJ R hR=>?_) (fun K hK=>?_)
               · have k5:w9.ownsRow gx0 49 6 (vs 5) _ (acs _):=hJ.k 5 (hA 5 (by decide));go_simp;exact hR _ _ (hJ.step (Zz _ _ _ _ _ _ _) br_ k5)
               go_simp;refine hK _ ?_;clear hK K;refine Zv (fun w7 hJ=>?_);have k6:vs 6=_:=hJ.k 6 rfl;have k7:w7.ownsRow gx0 49 6 (vs 7) _ (acs _):=hJ.k 7 rfl;have HJB:=Za hJ.b;have HK9r:=Za k7;clear hJ k7;simp only [k6];clear k6;go_wp2_with fail;go_ret2;have e:=HVU.out;simp [HXK.out,HKAA.out,HKBB.out,HVA.out] at e;rw [←e];exact ⟨_,rfl,by rw [HG.out];exact HK9r.out,(HS.out.below HJB.out).i.b⟩
             · have HVN:=Za hv;obtain ⟨VA,hVA⟩:∃v,(rowL l b).a=v:=⟨_,rfl⟩;rw [hVA] at qb1 hv;clear hVA;have hvb:(VA == 0)=false:=by simp [hv]
               clear hv
               cases ta with
               | true =>
                go_upto_region 18 with (first | (go_at_call 131;with_reducible refine (HTR.out _ _).mono ?_;rintro en w9 ⟨rfl,rfl⟩) | (go_at_call 88;with_reducible refine (HTA.out _ _ HS.out).mono ?_;rintro en w7 ⟨rfl,hI7⟩;have HI7:=Za hI7;have x70:=hI7.i.x0;have x71:=hI7.i.x1;have y70:=hI7.y0;clear hI7));refine Zl (JG w7 (KA6 gx0 (.agg #[.slice (some ad) N c,.slice (some ⟨ge,0,none⟩) N N]) (.int .i64 (i:Int)) (.int .i64 (b:Int)) (.slice (some (ad.add (b*6))) (endL l b - b) (c - b)) 3 (ZH l i (Ze l b)))) [[],[],[],[],[2,3],[0,1,2,3,4],[0,1,2,3,4,5],[0,1,2,3,4,5,6]] (by kernel_rfl) (by kernel_rfl) (fun vs=>JG.start vs (fun i v w hi=>by match i,hi with | _+8,_=>trivial)) (fun vs=>?_);refine Zb rfl (fun S w9 hS hA hD hJ R hR=>?_) (fun K hK=>?_)
                · have HZ9:=HI7.out.below hJ.b;have z0:=HZ9.i.x0;have z1:=HZ9.i.x1;go_simp;exact hR _ _ (hJ.step (Zz _ _ _ _ _ _ _) br_ rfl)
                go_simp;refine hK _ ?_;clear hK K;refine Zb rfl (fun S w9 hS hA hD hJ R hR=>?_) (fun K hK=>?_)
                · go_simp;exact hR _ _ (hJ.step (Zz _ _ _ _ _ _ _) br_ rfl)
                go_simp;refine hK _ ?_;clear hK K;refine Zb rfl (fun S w9 hS hA hD hJ R hR=>?_) (fun K hK=>?_)
                · have HZ9:=HI7.out.below hJ.b;have z0:=HZ9.i.x0;have z1:=HZ9.i.x1;go_simp;exact hR _ _ (hJ.step (Zz _ _ _ _ _ _ _) br_ rfl)
                go_simp;refine hK _ ?_;clear hK K;refine Zb rfl (fun S w9 hS hA hD hJ R hR=>?_) (fun K hK=>?_)
                · go_simp;exact hR _ _ (hJ.step (Zz _ _ _ _ _ _ _) br_ rfl)
                go_simp;refine hK _ ?_;clear hK K;refine Zb rfl (fun S w9 hS hA hD hJ R hR=>?_) (fun K hK=>?_)
                · have HZ9:=HI7.out.below hJ.b;have k2:vs 2=_:=hJ.k 2 (hA 2 (by decide));have k3:vs 3=_:=hJ.k 3 (hA 3 (by decide));refine pc_ Zby (kc_ (HYB.out gx w9 HZ9) fun _ hb=>hR _ _ (hJ.step (Zz _ _ _ _ _ _ _) hb rfl)) rfl ?_;simp [Act.eval,Act.put,k2,k3]
                go_simp;refine hK _ ?_;clear hK K;refine Zb rfl (fun S w9 hS hA hD hJ R hR=>?_) (fun K hK=>?_)
                · have HZ9:=HI7.out.below hJ.b;have k0:vs 0=_:=hJ.k 0 (hA 0 (by decide));have k1:vs 1=_:=hJ.k 1 (hA 1 (by decide));have k4:vs 4=_:=hJ.k 4 (hA 4 (by decide));refine pc_ Zbn (kd_ (HZB.out gx w9 HZ9) fun u _ e2 e3=>hR _ _ (hJ.step (Zz _ _ _ _ _ _ _) e3 e2)) rfl ?_;simp [Act.eval,Act.put,k0,k1,k4]
                go_simp;refine hK _ ?_;clear hK K;refine Zb rfl (fun S w9 hS hA hD hJ R hR=>?_) (fun K hK=>?_)
                · go_simp;exact hR _ _ (hJ.step (Zz _ _ _ _ _ _ _) br_ rfl)
                go_simp;refine hK _ ?_;clear hK K;refine Zb rfl (fun S w9 hS hA hD hJ R hR=>?_) (fun K hK=>?_)
                · have k5:w9.ownsRow gx0 49 6 (vs 5) _ (acs _):=hJ.k 5 (hA 5 (by decide));go_simp;exact hR _ _ (hJ.step (Zz _ _ _ _ _ _ _) br_ k5)
                go_simp;refine hK _ ?_;clear hK K;refine Zv (fun w7 hJ=>?_);have k6:vs 6=_:=hJ.k 6 rfl;have k7:w7.ownsRow gx0 49 6 (vs 7) _ (acs _):=hJ.k 7 rfl;have HJB:=Za hJ.b;have HK9r:=Za k7;clear hJ k7;simp only [k6];clear k6;go_wp2_with fail;go_ret2;have e:=HVU.out;simp [HXK.out,HKAA.out,HKBB.out,HVN.out] at e;rw [←e];exact ⟨_,rfl,by rw [HG.out];exact HK9r.out,(HI7.out.below HJB.out).i.b⟩
               | false =>
                go_wp2_with (first | (go_at_call 131;with_reducible refine (HTR.out _ _).mono ?_;rintro en w9 ⟨rfl,rfl⟩) | (go_at_call 88;with_reducible refine (HTA.out _ _ HS.out).mono ?_;rintro en w7 ⟨rfl,hI7⟩;have HI7:=Za hI7;have x70:=hI7.i.x0;have x71:=hI7.i.x1;have y70:=hI7.y0;clear hI7));go_ret2;have e:=HVU.out;simp [HXK.out,HKAA.out,HKBB.out,HVN.out] at e;rw [←e];exact ⟨rfl,HI7.out.i.b⟩
           · have HKBB:=Za hkb;obtain ⟨KB,hKB⟩:∃v,(rowL l b).k=v:=⟨_,rfl⟩;rw [hKB] at qb0 hkb;clear hKB;have hkbb:(KB == 20)=false:=by simp [hkb]
             clear hkb;go_wp2_with (first | (go_at_call 131;with_reducible refine (HTR.out _ _).mono ?_;rintro en w9 ⟨rfl,rfl⟩));go_ret2;have e:=HVU.out;simp [HXK.out,HKAA.out,HKBB.out] at e;rw [←e];exact ⟨rfl,HS.out.i.b⟩
       · have hk1:(x.k == 37)=false:=by simp [hk]
         have hk2:(x.k == 38)=false:=by simp [hk8]
         have HNK:=Za (And.intro hk hk8);clear hk hk8
         by_cases hn4:(x.k=29∨x.k=28)∧(rowL l a).k=x.k
         · have HQ:=Za (HD.out hn4.1 hn4.2);have HN4:=Za hn4;rw [hn4.2] at qa0;have HADq:=Za (HAD.out HQ.out);have HODq:=Za (HOD.out HQ.out);have hw1:=IntWalk.i64_in ((a:Int)+1) (by omega);rcases hn4.1 with hk | hk
           · skip;have hk3:(x.k == 29)=true:=by simp [hk]
             have hk4:(x.k == 28)=false:=by simp [hk]
             have HXK:=Za hk;clear hk hn4;go_upto_region 20 with fail;go_quiet (fail);go_upto_region 21 with fail;have HADr:=Za (fun (gx:Nat) (W:World) (h8:InX w gx0 (.slice (some ad) N c) (.slice (some ⟨ge,0,none⟩) N N) gx x W)=>HADq.out gx W h8);rw [show ((a+1:Nat):Int)=(a:Int)+1 by omega] at HADr;go_region_with (first | (go_at_call 91;with_reducible refine (HADr.out _ _ (HS.out.drewN _)).mono ?_;rintro en w8 ⟨rfl,hI8⟩;have HI8:=Za hI8;have x80:=hI8.i.x0;have x81:=hI8.i.x1;clear hI8) | (go_at_call 92;with_reducible refine (HODq.out _ _ HI8.out).mono ?_;rintro en w9 ⟨u9,rfl,ho9,hb9⟩;have HO9:=Za ho9;have HB9:=Za hb9;clear ho9 hb9))
             all_goals (go_wp2_with fail)
             all_goals go_ret2
             all_goals (have e:=HVU.out;simp [HXK.out,HN4.out.2] at e;rw [←e];exact ⟨_,rfl,HO9.out,HB9.out⟩)
           · skip;have hk3:(x.k == 29)=false:=by simp [hk]
             have hk4:(x.k == 28)=true:=by simp [hk]
             have HXK:=Za hk;clear hk hn4;go_upto_region 20 with fail;go_quiet (fail);go_upto_region 21 with fail;have HADr:=Za (fun (gx:Nat) (W:World) (h8:InX w gx0 (.slice (some ad) N c) (.slice (some ⟨ge,0,none⟩) N N) gx x W)=>HADq.out gx W h8);rw [show ((a+1:Nat):Int)=(a:Int)+1 by omega] at HADr;go_region_with (first | (go_at_call 91;with_reducible refine (HADr.out _ _ (HS.out.drewN _)).mono ?_;rintro en w8 ⟨rfl,hI8⟩;have HI8:=Za hI8;have x80:=hI8.i.x0;have x81:=hI8.i.x1;clear hI8) | (go_at_call 92;with_reducible refine (HODq.out _ _ HI8.out).mono ?_;rintro en w9 ⟨u9,rfl,ho9,hb9⟩;have HO9:=Za ho9;have HB9:=Za hb9;clear ho9 hb9))
             all_goals (go_wp2_with fail)
             all_goals go_ret2
             all_goals (have e:=HVU.out;simp [HXK.out,HN4.out.2] at e;rw [←e];exact ⟨_,rfl,HO9.out,HB9.out⟩)
         · have HN4:=Za hn4;skip
           by_cases h9:x.k=29∨x.k=28
           · have hka:¬(rowL l a).k=x.k:=fun q=>hn4 ⟨h9,q⟩
             obtain ⟨KA,hKA⟩:∃v,(rowL l a).k=v:=⟨_,rfl⟩;rw [hKA] at qa0 hka;have hkab:(KA == x.k)=false:=by simp [hka]
             clear hKA hka hn4;rcases h9 with hk | hk
             · have hk3:(x.k == 29)=true:=by simp [hk]
               have hk4:(x.k == 28)=false:=by simp [hk]
               have HXK:=Za hk;clear hk;go_upto_region 20 with fail;go_quiet (fail);go_wp2_with (go_at_call 132;with_reducible refine (HSM.out _ _ (HS.out.drewN _)).mono ?_;rintro en w8 ⟨n8,u8,rfl,h8⟩;have HT8:=Za h8;clear h8);go_ret2;have e:=HVU.out;rw [if_neg (fun q=>q.elim HNK.out.1 HNK.out.2),if_neg HN4.out] at e;rw [←e];exact HT8.out
             · have hk3:(x.k == 29)=false:=by simp [hk]
               have hk4:(x.k == 28)=true:=by simp [hk]
               have HXK:=Za hk;clear hk;go_upto_region 20 with fail;go_quiet (fail);go_wp2_with (go_at_call 132;with_reducible refine (HSM.out _ _ (HS.out.drewN _)).mono ?_;rintro en w8 ⟨n8,u8,rfl,h8⟩;have HT8:=Za h8;clear h8);go_ret2;have e:=HVU.out;rw [if_neg (fun q=>q.elim HNK.out.1 HNK.out.2),if_neg HN4.out] at e;rw [←e];exact HT8.out
           · have hk3:(x.k == 29)=false:=by simp;omega
             have hk4:(x.k == 28)=false:=by simp;omega
             clear h9 hn4;go_upto_region 20 with fail;go_quiet (fail);go_wp2_with (go_at_call 132;with_reducible refine (HSM.out _ _ (HS.out.drewN _)).mono ?_;rintro en w8 ⟨n8,u8,rfl,h8⟩;have HT8:=Za h8;clear h8);go_ret2;have e:=HVU.out;rw [if_neg (fun q=>q.elim HNK.out.1 HNK.out.2),if_neg HN4.out] at e;rw [←e];exact HT8.out
end
end Go.Proofs.Ytdpokdcendgfeaa
