/- Several texts in one: The reference's optimiser: branch. Conditions: those of each. -/
import Derived.Test.YtdpokdcendgfeaaV19
import Derived.Test.YtdpokdcendgfeaaV15
import Derived.Test.YtdpokdcendgfeaaV20
set_option linter.unusedSimpArgs false
set_option linter.unusedVariables false
set_option maxHeartbeats 80000000
set_option maxRecDepth 100000
namespace Go.Proofs.Ytdpokdcendgfeaa
open Go.RowKit
section
attribute [local go_sem] par Zan
def KA (gb:Nat) (rv iv pv sv:Value) (n2:Int) (out:List Ac):Nat→Value→World→Prop
 | 0,v,_=>v=rv
 | 1,v,_=>v=iv
 | 2,v,_=>v=rv
 | 3,v,_=>v=pv
 | 4,v,_=>v=sv
 | 5,v,w=>w.ownsRow gb 49 6 v out.length (acs out)
 | 6,v,_=>v=.int .i64 n2
 | 7,v,w=>w.ownsRow gb 49 6 v out.length (acs out)
 | _+8,_,_=>True
theorem Za8 (gb:Nat) (rv iv pv sv:Value) (n2:Int) (out:List Ac):StK (KA gb rv iv pv sv n2 out):=fun i v w w' h hb=>by
 match i with
 | 0 | 1 | 2 | 3 | 4 | 6=>exact h
 | 5 | 7=>exact Zq h hb lr_
 | _+8=>trivial
def KB (gb:Nat) (rv iv qv sv:Value) (n2:Int) (out:List Ac):Nat→Value→World→Prop
 | 0,v,_=>v=rv
 | 1,v,_=>v=iv
 | 2,v,_=>v=rv
 | 3,v,_=>v=rv
 | 4,v,_=>v=iv
 | 5,v,_=>v=qv
 | 6,v,_=>v=sv
 | 7,v,w=>w.ownsRow gb 49 6 v out.length (acs out)
 | 8,v,_=>v=.int .i64 n2
 | 9,v,w=>w.ownsRow gb 49 6 v out.length (acs out)
 | _+10,_,_=>True
theorem Z4 (gb:Nat) (rv iv qv sv:Value) (n2:Int) (out:List Ac):StK (KB gb rv iv qv sv n2 out):=fun i v w w' h hb=>by
 match i with
 | 0 | 1 | 2 | 3 | 4 | 5 | 6 | 8=>exact h
 | 7 | 9=>exact Zq h hb lr_
 | _+10=>trivial
theorem Zf6 {w:World} (ty:TypeId) {B n m c:Nat} {v:Value} {ad:Addr} {l1 l2:List Ac} (hown:w.ownsRow B 49 6 v n (acs l1)) (hsrc:Src w (some ad) l2.length (acs l2)) (hm:l2.length=m) (hb:n+m≤400000) (hB:B≤w.heap.size) :
 ∃v' w',(Builtin.append_ #[26,26] ty #[v,.slice (some ad) m c]).run Try.prog w=.ok v' w'∧w'.ownsRow B 49 6 v' (n+m) (acs (l1++l2))∧Below B w w':=by
 obtain ⟨i3,hi3,hz0,hz1,hz2⟩:=ZD Zfh;subst hm
 obtain ⟨v',w',hrun,r1,r2,_⟩:=run_append_own (P:=Try.prog) w B 26 ty 49 i3 _ 6 48 Try.underlying26 hi3 hz0 hz1 hz2 rfl (by decide) v n (acs l1) hown ad l2.length c (acs l2) (Z5 l2) (fun j u hj=>by
  have hjl:=(gs_ hj).1;rw [Z5] at hjl;obtain ⟨ad3,e3,_,hx3⟩:=hsrc (by omega)
  cases e3
  exact hx3 j u hj) (Zdm l2) (by unfold maxLen;omega) (by omega) hB
 exact ⟨v',w',hrun,by rw [Zch];exact r1,Zad r2 (fun g hg=>(hown.lt g hg).1) hB⟩
structure JO (W:World) (B:Nat) (lv:Value) (nn:Nat) (rows:List Ac) (K:Nat→Value→World→Prop) (S:Nat→Bool) (vs:Nat→Value) (w:World):Prop where
 b:Below B W w
 k:∀i,S i=true→K i (vs i) w
 r:S 6=false→w.ownsRow B 49 6 lv nn (acs rows)
theorem JO.step {W w w':World} {B nn:Nat} {lv:Value} {rows:List Ac} {K:Nat→Value→World→Prop} {S:Nat→Bool} {vs:Nat→Value} {j:Nat} {u:Value} (h:JO W B lv nn rows K S vs w) (hK:StK K) (hj:j≠6) (hb:Below w.heap.size w w') (hu:K j u w') (hB:B≤w.heap.size):JO W B lv nn rows K (upn S j true) (upn vs j u) w':=by
 refine ⟨h.b.trans (hb.mono hB),fun i hi=>?_,fun h6=>?_⟩
 · by_cases e:i=j
   · subst e;rw [Zf];exact hu
   · rw [Zd e] at hi ⊢;exact hK i _ _ _ (h.k i hi) hb
 · rw [Zd (Ne.symm hj)] at h6;exact Zq (h.r h6) hb lr_
def KO (gb B mm:Nat) (rv iv lv bv sv:Value) (n2:Int) (out rows:List Ac):Nat→Value→World→Prop
 | 0,v,_=>v=rv
 | 1,v,_=>v=iv
 | 2,v,_=>v=lv
 | 3,v,_=>v=rv
 | 4,v,_=>v=bv
 | 5,v,_=>v=sv
 | 6,v,w=>w.ownsRow B 49 6 v mm (acs rows)
 | 7,v,w=>w.ownsRow gb 49 6 v out.length (acs out)
 | 8,v,_=>v=.int .i64 n2
 | 9,v,w=>w.ownsRow gb 49 6 v out.length (acs out)
 | _+10,_,_=>True
theorem ZaR (gb B mm:Nat) (rv iv lv bv sv:Value) (n2:Int) (out rows:List Ac):StK (KO gb B mm rv iv lv bv sv n2 out rows):=fun i v w w' h hb=>by
 match i with
 | 0 | 1 | 2 | 3 | 4 | 5 | 8=>exact h
 | 6 | 7 | 9=>exact Zq h hb lr_
 | _+10=>trivial
theorem JO.app {W w w':World} {gb B nn mm:Nat} {lv rv iv lv2 bv sv:Value} {n2:Int} {out rows rows2:List Ac} {S:Nat→Bool} {vs:Nat→Value} {u:Value} (h:JO W B lv nn rows (KO gb B mm rv iv lv2 bv sv n2 out rows2) S vs w) (h7:S 7=false) (h8:S 8=false) (h9:S 9=false) (hb:Below B w w') (hu:w'.ownsRow B 49 6 u mm (acs rows2)):JO W B lv nn rows (KO gb B mm rv iv lv2 bv sv n2 out rows2) (upn S 6 true) (upn vs 6 u) w':=by
 refine ⟨h.b.trans hb,fun i hi=>?_,fun h6=>by rw [Zf] at h6;cases h6⟩
 by_cases e:i=6
 · subst e;rw [Zf];exact hu
 · rw [Zd e] at hi ⊢;have hk:=h.k i hi
   match i,e,hi,hk with
   | 0,_,_,hk | 1,_,_,hk | 2,_,_,hk | 3,_,_,hk | 4,_,_,hk | 5,_,_,hk=>exact hk
   | 7,_,hi,_=>rw [h7] at hi;cases hi
   | 8,_,hi,_=>rw [h8] at hi;cases hi
   | 9,_,hi,_=>rw [h9] at hi;cases hi
   | _+10,_,_,_=>trivial
theorem JO.start {W:World} {B nn:Nat} {lv:Value} {rows:List Ac} {K:Nat→Value→World→Prop} (vs:Nat→Value) (ho:W.ownsRow B 49 6 lv nn (acs rows)) (hB:B≤W.heap.size) (h:∀i v w,10≤i→K i v w):JO W B lv nn rows K (fun i=>decide (10≤i)) vs W.drew :=
 ⟨((Below.refl _ W).mono hB).drew,fun i hi=>h i _ _ (by simpa using hi),fun _=>Zq ho (Zbc br_) lr_⟩
theorem Zfc {w:World} {B n c:Nat} {oa:Option Addr} {l:List Ac} (h:w.ownsRow B 49 6 (.slice oa n c) n (acs l)):w.ownsRow B 49 6 (.slice oa l.length c) l.length (acs l):=by
 have h1:=h.1;rw [Z5] at h1;have:l.length=n:=by omega
 rw [this];exact h
structure RowIn (l:List Ac) (j:Nat):Prop where
 lt:j<l.length
 e:j<endL l j∧endL l j≤l.length
structure BIn (l:List Ac) (p:Nat):Prop where
 r:RowIn l p
 k:(rowL l p).n≠0→RowIn l (p+1)∧((rowL l (p+1)).k=2→RowIn l (p+2)∧RowIn l (kidL l (p+1) 1)∧((rowL l (p+1)).n=3→RowIn l (kidL l (p+1) 2)))
section
variable (w:World) (ad:Addr) (c ge:Nat) (l:List Ac) (i:Nat) (h:Rs w ad c ge l) (hi:RowIn l i) (hl:l.length≤131072) {gb:Nat} {u0 u1:Value} {gx:Nat} {x:Ac} (W:World) (hb:InX w gb u0 u1 gx x W)
include h hi hl hb
theorem Zbk:Calls Try.prog 91 #[rsv ad l.length c ge,.int .i64 (i:Int)] W fun en w'=>en=.returned (.slice (some (ad.add (i*6))) (endL l i - i) (c - i))∧Below W.heap.size W w' :=
 Zez W ad c ge l i (h.below hb.i.b) hi.lt hi.e hl
theorem Zhb (k:Nat) (hk:∀j,j<k→kidL l i j<l.length) (hk2:k≤2) {t:Nat} (ht:kidL l i k=t):Calls Try.prog 86 #[rsv ad l.length c ge,.int .i64 (i:Int),.int .i64 (k:Int)] W fun en w'=>en=.returned (.int .i64 (t:Int))∧Below W.heap.size W w' :=
 (ZjF W ad c ge l i k (h.below hb.i.b) hi.lt hk hk2 hl).mono fun en w' h1=>⟨by rw [h1.1,ht],h1.2⟩
theorem Zcy (b:Nat) (hb1:RowIn l b) (hs:ZE l) {B:Nat} (hB:B≤W.heap.size) :
 Calls Try.prog 92 #[rsv ad l.length c ge,.int .i64 (i:Int),.slice (some (ad.add (b*6))) (endL l b - b) (c - b)] W fun en w'=>∃u,en=.returned u∧w'.ownsRow B 49 6 u (ZH l i (Ze l b)).length (acs (ZH l i (Ze l b)))∧Below W.heap.size W w' :=
 (ZdM W ad c ge l i _ _ _ _ (h.below hb.i.b) hi.lt hi.e hl hs (Zak hb1.e) (Zbe (r:=(b,endL l b)) ((h.below hb.i.b).r.s) (Nat.le_of_lt hb1.e.1) hb1.e.2) (by rw [Zak hb1.e];have:=hb1.e;omega)).mono fun en w' h1=>by
  obtain ⟨u,e1,e2,e3⟩:=h1;exact ⟨u,e1,Zr e2 hB,e3⟩
theorem Zg3 (oi:Option Addr) (ni ci:Nat) (r:List Ac) (hn:r.length=ni) (hrl:r.length≤131076) (hs:ZE l) {B:Nat} (hB:B≤W.heap.size) (hr:Src W oi r.length (acs r)) :
 Calls Try.prog 92 #[rsv ad l.length c ge,.int .i64 (i:Int),.slice oi ni ci] W fun en w'=>∃u,en=.returned u∧w'.ownsRow B 49 6 u (ZH l i r).length (acs (ZH l i r))∧Below W.heap.size W w' :=
 (ZdM W ad c ge l i oi ni ci r (h.below hb.i.b) hi.lt hi.e hl hs hn hr hrl).mono fun en w' h1=>by
  obtain ⟨u,e1,e2,e3⟩:=h1;exact ⟨u,e1,Zr e2 hB,e3⟩
theorem ZcZ (hs:ZE l):Calls Try.prog 90 #[rsv ad l.length c ge,.int .i64 (i:Int)] W fun en w'=>∃u,en=.returned u∧w'.ownsRow w.heap.size 49 6 u (Za0 l i).length (acs (Za0 l i))∧Below w.heap.size w w' :=
 (Zl7 W ad c ge l i (h.below hb.i.b) hi.lt hi.e hl hs).mono fun en w' h1=>by
  obtain ⟨u,e1,e2,e3⟩:=h1;exact ⟨u,e1,Zr e2 hb.i.b.size,hb.i.b.trans (e3.mono hb.i.b.size)⟩
theorem Zhl {t:Bool} (ht:decide ((rowL l i).n=0)=t):Calls Try.prog 89 #[rsv ad l.length c ge,.int .i64 (i:Int)] W fun en w'=>en=.returned (.bool t)∧Below W.heap.size W w' :=
 (Zhm W ad c ge l i (h.below hb.i.b) hi.lt hl).mono fun en w' h1=>⟨by rw [h1.1,ht],h1.2⟩
theorem ZfT (j:Nat) (hj:RowIn l j) {t:Bool} (ht:decide (Ze l i=Ze l j)=t) :
 Calls Try.prog 133 #[.slice (some (ad.add (i*6))) (endL l i - i) (c - i),.slice (some (ad.add (j*6))) (endL l j - j) (c - j)] W fun en w'=>en=.returned (.bool t)∧Below W.heap.size W w':=by
 have h1:=Zbe (r:=(i,endL l i)) ((h.below hb.i.b).r.s) (Nat.le_of_lt hi.e.1) hi.e.2;have h2:=Zbe (r:=(j,endL l j)) ((h.below hb.i.b).r.s) (Nat.le_of_lt hj.e.1) hj.e.2;have l1:(Ze l i).length=endL l i - i:=Zak hi.e;have l2:(Ze l j).length=endL l j - j:=Zak hj.e;have h3:=ZlS W (some (ad.add (i*6))) (some (ad.add (j*6))) (c - i) (c - j) (Ze l i) (Ze l j) h1 h2 (by rw [l1];have:=hi.e;omega);rw [l1,l2] at h3;exact h3.mono fun en w' h4=>⟨by rw [h4.1,ht],h4.2⟩
theorem Zca:Src W (some (ad.add (i*6))) (Ze l i).length (acs (Ze l i)):=by
 have _u:=hl;exact Zbe (r:=(i,endL l i)) ((h.below hb.i.b).r.s) (Nat.le_of_lt hi.e.1) hi.e.2
end
theorem ZfY (w:World) (y:Ac):(w.alloc (.cells #[.int .i64 y.k,.int .i64 y.a,.int .i64 y.b,.int .i64 y.c,.int .i64 y.d,.int .i64 y.n] 49)).ownsRow w.heap.size 49 6 (.slice (some ⟨w.heap.size,0,none⟩) 1 1) 1 (acs [y]) :=
 World.ownsRow_lit w #[.int .i64 y.k,.int .i64 y.a,.int .i64 y.b,.int .i64 y.c,.int .i64 y.d,.int .i64 y.n] 1 lr_ (by decide) rfl
theorem Zll (w:World) (ad:Addr) (c ge:Nat) (l:List Ac) (i p1:Nat) (h:Rs w ad c ge l) (hi:RowIn l i) (hic:RowIn l (i+1)) (h1:kidL l i 1=p1) (hb1:BIn l p1) (hn3:¬(rowL l i).n=3) (hd:(rowL l (i+1)).k=29→RowIn l (i+2)∧(endL l (i+2) - (i+2))+(endL l p1 - p1)≤131072) (hl:l.length≤131072) (hs:ZE l) :
 Calls Try.prog 85 #[rsv ad l.length c ge,.int .i64 (i:Int)] w fun en w'=>Zbo w w' en (Za4 l i):=by
 have hq0:=fun (W:World) (h8:Below w.heap.size w W)=>(Zx (h.below h8) hi.lt).1
 have HQC:=Za (fun (W:World) (h8:Below w.heap.size w W)=>(Zx (h.below h8) hic.lt).1);have hc:=h.r.n;have hgl:=h.e.lt;have hsz:=h.r.m;obtain ⟨V,hV⟩:∃V,Za4 l i=V:=⟨_,rfl⟩;rw [hV];have hvu:=hV;unfold Za4 at hvu;simp only [h1] at hvu;skip;obtain ⟨gx0,hgx0⟩:∃g,w.heap.size=g:=⟨_,rfl⟩;obtain ⟨x,hx⟩:∃x,rowL l i=x:=⟨_,rfl⟩;rw [hx] at hq0 hvu hn3
 have hlt:∀j,j<1→kidL l i j<l.length:=fun j hj=>by
  obtain rfl:j=0:=by omega
  exact hic.lt
 have HK1:=Za (fun (gx:Nat) (W:World) (h8:InX w gx0 (.slice (some ad) l.length c) (.slice (some ⟨ge,0,none⟩) l.length l.length) gx x W)=>ZdN w ad c ge l i h hi.lt hl W h8 1 hlt (by decide) h1);rw [show ((1:Nat):Int)=1 from rfl] at HK1;skip;have HA1:=Za (fun (gx:Nat) (W:World) (h8:InX w gx0 (.slice (some ad) l.length c) (.slice (some ⟨ge,0,none⟩) l.length l.length) gx x W)=>ZdS w ad c ge l p1 h hb1.r.lt hl W h8 hb1.r.e);have HY1:=Za (fun (gx:Nat) (W:World) (h8:InX w gx0 (.slice (some ad) l.length c) (.slice (some ⟨ge,0,none⟩) l.length l.length) gx x W)=>Zbk w ad c ge l p1 h hb1.r hl W h8);have HO1:=Za (fun (gx:Nat) (W:World) (h8:InX w gx0 (.slice (some ad) l.length c) (.slice (some ⟨ge,0,none⟩) l.length l.length) gx x W)=>Zcy w ad c ge l i h hi hl W h8 p1 hb1.r hs (B:=gx0) (by rw [←hgx0];exact h8.i.b.size));have HS1:=Za (fun (gx:Nat) (W:World) (h8:InX w gx0 (.slice (some ad) l.length c) (.slice (some ⟨ge,0,none⟩) l.length l.length) gx x W)=>Zca w ad c ge l p1 h hb1.r hl W h8);have HL1:=Za (Zak hb1.r.e);obtain ⟨e1,he1⟩:∃t,decide ((rowL l p1).n=0)=t:=⟨_,rfl⟩;have HE1:=Za (fun (gx:Nat) (W:World) (h8:InX w gx0 (.slice (some ad) l.length c) (.slice (some ⟨ge,0,none⟩) l.length l.length) gx x W)=>Zd9 w ad c ge l p1 h hb1.r.lt hl W h8 he1);have HF1:=Za (fun (gx:Nat) (W:World) (h8:InX w gx0 (.slice (some ad) l.length c) (.slice (some ⟨ge,0,none⟩) l.length l.length) gx x W)=>Zhl w ad c ge l p1 h hb1.r hl W h8 he1);obtain ⟨tc,htc⟩:∃t,Zap l (i+1) (endL l (i+1))=t:=⟨_,rfl⟩;have HTC:=Za (fun (gx:Nat) (W:World) (h8:InX w gx0 (.slice (some ad) l.length c) (.slice (some ⟨ge,0,none⟩) l.length l.length) gx x W)=>ZcD w ad c ge l (i+1) h hic.lt hl W h8 hic.e htc);rw [show ((i+1:Nat):Int)=(i:Int)+1 by omega] at HTC;have HNA:=Za (fun (gx:Nat) (W:World) (h8:InX w gx0 (.slice (some ad) l.length c) (.slice (some ⟨ge,0,none⟩) l.length l.length) gx x W)=>ZcZ w ad c ge l i h hi hl W h8 hs);have HYC:=Za (fun (gx:Nat) (W:World) (h8:InX w gx0 (.slice (some ad) l.length c) (.slice (some ⟨ge,0,none⟩) l.length l.length) gx x W)=>Zbk w ad c ge l (i+1) h hic hl W h8);have HD:=Za (fun (hq:(rowL l (i+1)).k=29)=>(hd hq));have HYD:=Za (fun (hq:RowIn l (i+2)) (gx:Nat) (W:World) (h8:InX w gx0 (.slice (some ad) l.length c) (.slice (some ⟨ge,0,none⟩) l.length l.length) gx x W)=>Zbk w ad c ge l (i+2) h hq hl W h8);have HSD:=Za (fun (hq:RowIn l (i+2)) (gx:Nat) (W:World) (h8:InX w gx0 (.slice (some ad) l.length c) (.slice (some ⟨ge,0,none⟩) l.length l.length) gx x W)=>Zca w ad c ge l (i+2) h hq hl W h8);have HONE:=Za (fun (oi:Option Addr) (ni ci:Nat) (r:List Ac) (hn:r.length=ni) (hrl:r.length≤131076) (gx:Nat) (W:World) (h8:InX w gx0 (.slice (some ad) l.length c) (.slice (some ⟨ge,0,none⟩) l.length l.length) gx x W) (h9:Src W oi r.length (acs r))=>Zg3 w ad c ge l i h hi hl W h8 oi ni ci r hn hrl hs (B:=gx0) (by rw [←hgx0];exact h8.i.b.size) h9);have HB1:=Za hb1;have HIF1:=Za (fun (t:Bool) (q1:RowIn l (p1+2)) (ht:decide (Ze l (p1+2)=Ze l (i+1))=t) (gx:Nat) (W:World) (h8:InX w gx0 (.slice (some ad) l.length c) (.slice (some ⟨ge,0,none⟩) l.length l.length) gx x W)=>And.intro (Zbk w ad c ge l (p1+2) h q1 hl W h8) (ZfT w ad c ge l (p1+2) h q1 hl W h8 (i+1) hic ht))
 have HIN1:=Za (fun (t:Nat) (m:Nat) (hm:1≤m∧m≤2) (ht:kidL l (p1+1) m=t) (q0:RowIn l (p1+1)) (q1:RowIn l (p1+2)) (q2:m=2→kidL l (p1+1) 1<l.length) (q3:RowIn l t)=>And.intro (fun (gx:Nat) (W:World) (h8:InX w gx0 (.slice (some ad) l.length c) (.slice (some ⟨ge,0,none⟩) l.length l.length) gx x W)=>Zhb w ad c ge l (p1+1) h q0 hl W h8 m (fun j hj=>by
  match j,hj with
  | 0,_=>exact q1.lt
  | 1,hj=>exact q2 (by omega)
  | j+2,hj=>omega) hm.2 ht) (And.intro (fun (gx:Nat) (W:World) (h8:InX w gx0 (.slice (some ad) l.length c) (.slice (some ⟨ge,0,none⟩) l.length l.length) gx x W)=>Zbk w ad c ge l t h q3 hl W h8) (fun (gx:Nat) (W:World) (h8:InX w gx0 (.slice (some ad) l.length c) (.slice (some ⟨ge,0,none⟩) l.length l.length) gx x W)=>Zcy w ad c ge l (p1+1) h q0 hl W h8 t q3 hs (B:=gx0) (by rw [←hgx0];exact h8.i.b.size))))
 have HQK1:=Za (fun (q0:RowIn l (p1+1)) (W:World) (h8:Below w.heap.size w W)=>(Zx (h.below h8) q0.lt).1);rw [htc] at hvu;have HVU:=Za hvu;have HE1B:=Za he1;skip;clear hV hvu hd he1 htc hlt;have hp1l:=hb1.r.lt;have hicl:=hic.lt;have hil:=hi.lt;skip;obtain ⟨N,hN⟩:∃n,l.length=n:=⟨_,rfl⟩;have HB:=Za ((Below.refl w.heap.size w).alloc lr_ (.cells #[.slice (some ad) N c,.slice (some ⟨ge,0,none⟩) N N] 97));have HX:=Za (Blk.new w 97 #[.slice (some ad) N c,.slice (some ⟨ge,0,none⟩) N N]);unfold rsv at *;rw [hN] at hc hil hicl hp1l HK1 HA1 HY1 HO1 HS1 HE1 HF1 HTC HNA HYC HYD HSD HONE HIF1 HIN1;rw [hN];have h1a:(0:Int)≤(i:Int):=by omega
 have h2a:(i:Int)<(N:Int):=by omega
 have h3a:(0:Int)≤(i:Int)+1:=by omega
 have h4a:(i:Int)+1<(N:Int):=by omega
 have hN2:N≤131072:=by omega
 have hw1:=IntWalk.i64_in ((i:Int)+1) (by omega);have hw2:=IntWalk.i64_in ((i:Int)+1+1) (by omega);have hw3:=IntWalk.i64_in ((p1:Int)+1) (by omega);have hw4:=IntWalk.i64_in ((p1:Int)+1+1) (by omega);skip;skip;skip;have HQ0:=Za hq0;have HXX:=Za hx;have HNN:=Za hN;have HX3:=Za hn3;have hn3b:(x.n == 3)=false:=by simp [hn3]
 clear h hN hs hq0 hx hi hic h1 hb1 hn3;go_enter Try.func85,Try.ntmps85;go_upto_region 1 with fail;rw [hgx0] at HX;have HIN:=Za (show InBox w gx0 (.slice (some ad) N c) (.slice (some ⟨ge,0,none⟩) N N) (w.alloc (.cells #[.slice (some ad) N c,.slice (some ⟨ge,0,none⟩) N N] 97)) from ⟨HB.out,HX.out.cell 0,HX.out.cell 1,HX.out.lt⟩);generalize (w.alloc (.cells #[.slice (some ad) N c,.slice (some ⟨ge,0,none⟩) N N] 97))=W1 at HB HX HIN ⊢
 try simp only [hgx0]
 have HG:=Za hgx0;clear hgx0;have x0:=HIN.out.x0;have x1:=HIN.out.x1;obtain ⟨q0,q1,q2,q3,q4,q5⟩:=HQ0.out W1 HIN.out.b;go_upto_region 2 with fail;have HJ:=Za (show InX w gx0 (.slice (some ad) N c) (.slice (some ⟨ge,0,none⟩) N N) W1.heap.size x (W1.alloc (.cells #[.int .i64 x.k,.int .i64 x.a,.int .i64 x.b,.int .i64 x.c,.int .i64 x.d,.int .i64 x.n] 49)) from ZbA HIN.out);generalize W1.alloc (.cells #[.int .i64 x.k,.int .i64 x.a,.int .i64 x.b,.int .i64 x.c,.int .i64 x.d,.int .i64 x.n] 49)=W2 at HJ ⊢;obtain ⟨gx,hgx⟩:∃g,W1.heap.size=g:=⟨_,rfl⟩;rw [hgx] at HJ;simp only [hgx];clear hgx x0 x1 q0 q1 q2 q3 q4 q5;have x0:=HJ.out.i.x0;have x1:=HJ.out.i.x1;have y5:=HJ.out.y5;go_upto_region 5 with (go_at_call 86;with_reducible refine (HK1.out _ _ HJ.out).mono ?_;rintro en w3 ⟨rfl,hI3⟩;have HI3:=Za hI3;have x30:=hI3.i.x0;have x31:=hI3.i.x1;have y35:=hI3.y5;clear hI3);clear x0 x1 y5;go_upto_region 7 with fail;clear y35;obtain ⟨qc0,qc1,-,-,-,-⟩:=HQC.out _ HI3.out.i.b
 by_cases hk:(rowL l (i+1)).k=20
 · have HKC:=Za hk;rw [hk] at qc0;clear hk
   by_cases hv:(rowL l (i+1)).a=1
   · have HVA:=Za hv;rw [hv] at qc1;clear hv;go_upto_region 9 with fail;refine Zl (JG w3 (KA gx0 (.agg #[.slice (some ad) N c,.slice (some ⟨ge,0,none⟩) N N]) (.int .i64 (i:Int)) (.int .i64 (p1:Int)) (.slice (some (ad.add (p1*6))) (endL l p1 - p1) (c - p1)) 8 (ZH l i (Ze l p1)))) [[],[],[],[],[2,3],[0,1,2,3,4],[0,1,2,3,4,5],[0,1,2,3,4,5,6]] (by kernel_rfl) (by kernel_rfl) (fun vs=>JG.start vs (fun i v w hi=>by match i,hi with | _+8,_=>trivial)) (fun vs=>?_);refine Zb rfl (fun S w9 hS hA hD hJ R hR=>?_) (fun K hK=>?_)
     · have HZ9:=HI3.out.below hJ.b;have z0:=HZ9.i.x0;have z1:=HZ9.i.x1;go_simp;exact hR _ _ (hJ.step (Za8 _ _ _ _ _ _ _) br_ rfl)
     go_simp;refine hK _ ?_;clear hK K;refine Zb rfl (fun S w9 hS hA hD hJ R hR=>?_) (fun K hK=>?_)
     · go_simp;exact hR _ _ (hJ.step (Za8 _ _ _ _ _ _ _) br_ rfl)
     go_simp;refine hK _ ?_;clear hK K;refine Zb rfl (fun S w9 hS hA hD hJ R hR=>?_) (fun K hK=>?_)
     · have HZ9:=HI3.out.below hJ.b;have z0:=HZ9.i.x0;have z1:=HZ9.i.x1;go_simp;exact hR _ _ (hJ.step (Za8 _ _ _ _ _ _ _) br_ rfl)
     go_simp;refine hK _ ?_;clear hK K;refine Zb rfl (fun S w9 hS hA hD hJ R hR=>?_) (fun K hK=>?_)
     · go_simp;exact hR _ _ (hJ.step (Za8 _ _ _ _ _ _ _) br_ rfl)
     go_simp;refine hK _ ?_;clear hK K;refine Zb rfl (fun S w9 hS hA hD hJ R hR=>?_) (fun K hK=>?_)
     · have HZ9:=HI3.out.below hJ.b;have k2:vs 2=_:=hJ.k 2 (hA 2 (by decide));have k3:vs 3=_:=hJ.k 3 (hA 3 (by decide));refine pc_ Zby (kc_ (HY1.out gx w9 HZ9) fun _ hb=>hR _ _ (hJ.step (Za8 _ _ _ _ _ _ _) hb rfl)) rfl ?_;simp [Act.eval,Act.put,k2,k3]
     go_simp;refine hK _ ?_;clear hK K;refine Zb rfl (fun S w9 hS hA hD hJ R hR=>?_) (fun K hK=>?_)
     · have HZ9:=HI3.out.below hJ.b;have k0:vs 0=_:=hJ.k 0 (hA 0 (by decide));have k1:vs 1=_:=hJ.k 1 (hA 1 (by decide));have k4:vs 4=_:=hJ.k 4 (hA 4 (by decide));refine pc_ Zbn (kd_ (HO1.out gx w9 HZ9) fun u _ e2 e3=>hR _ _ (hJ.step (Za8 _ _ _ _ _ _ _) e3 e2)) rfl ?_;simp [Act.eval,Act.put,k0,k1,k4]
     go_simp;refine hK _ ?_;clear hK K;refine Zb rfl (fun S w9 hS hA hD hJ R hR=>?_) (fun K hK=>?_)
     · go_simp;exact hR _ _ (hJ.step (Za8 _ _ _ _ _ _ _) br_ rfl)
     go_simp;refine hK _ ?_;clear hK K;refine Zb rfl (fun S w9 hS hA hD hJ R hR=>?_) (fun K hK=>?_)
     · have k5:w9.ownsRow gx0 49 6 (vs 5) _ (acs _):=hJ.k 5 (hA 5 (by decide));go_simp;exact hR _ _ (hJ.step (Za8 _ _ _ _ _ _ _) br_ k5)
     go_simp;refine hK _ ?_;clear hK K;refine Zv (fun w7 hJ=>?_);have k6:vs 6=_:=hJ.k 6 rfl;have k7:w7.ownsRow gx0 49 6 (vs 7) _ (acs _):=hJ.k 7 rfl;have HJB:=Za hJ.b;have HK9r:=Za k7;clear hJ k7;simp only [k6];clear k6;go_wp2_with fail;go_ret2;have e:=HVU.out;simp [HKC.out,HVA.out] at e;rw [←e];exact ⟨_,rfl,by rw [HG.out];exact HK9r.out,(HI3.out.below HJB.out).i.b⟩
   · have HVN:=Za hv;obtain ⟨VA,hVA⟩:∃v,(rowL l (i+1)).a=v:=⟨_,rfl⟩;rw [hVA] at qc1 hv;clear hVA;have hvb:(VA == 1)=false:=by simp [hv]
     clear hv;go_wp2_with (go_at_call 90;with_reducible refine (HNA.out _ _ HI3.out).mono ?_;rintro en w9 ⟨u9,rfl,ho9,hb9⟩;have HO9:=Za ho9;have HB9:=Za hb9;clear ho9 hb9);go_ret2;have e:=HVU.out;simp [HKC.out,HVN.out,HX3.out] at e;rw [←e];exact ⟨_,rfl,HO9.out,HB9.out⟩
 · have HKN:=Za hk
   by_cases hk9:(rowL l (i+1)).k=29
   · have HK9:=Za hk9;rw [hk9] at qc0;clear hk hk9;have HDD:=Za (HD.out HK9.out);have HYDq:=Za (HYD.out HDD.out.1);rw [show ((i+2:Nat):Int)=(i:Int)+1+1 by omega] at HYDq;have HSDq:=Za (HSD.out HDD.out.1);have HLD:=Za (Zak HDD.out.1.e);have hbnd:=HDD.out.2;have HBND:=Za hbnd;clear hbnd;have HIS:=Za HI3.out;have hws:=HI3.out;go_upto_region 15 with fail;have HO0:=Za (ZfY w3 ⟨2,0,0,0,0,3⟩);have HBW0:=Za ((Below.refl w3.heap.size w3).alloc lr_ (.cells #[.int .i64 2,.int .i64 0,.int .i64 0,.int .i64 0,.int .i64 0,.int .i64 3] 49));have HB5:=Za (show w3.heap.size≤(w3.alloc (.cells #[.int .i64 2,.int .i64 0,.int .i64 0,.int .i64 0,.int .i64 0,.int .i64 3] 49)).heap.size from HBW0.out.size);generalize w3.alloc (.cells #[.int .i64 2,.int .i64 0,.int .i64 0,.int .i64 0,.int .i64 0,.int .i64 3] 49)=W5 at HO0 HBW0 HB5 ⊢;obtain ⟨B,hB⟩:∃b,w3.heap.size=b:=⟨_,rfl⟩;have HKEEP:=Za (show ∀W,Below B w3 W→InX w gx0 (.slice (some ad) N c) (.slice (some ⟨ge,0,none⟩) N N) gx x W∧B≤W.heap.size from fun W hb=>⟨HIS.out.below (by rw [hB];exact hb),by rw [←hB];exact hb.size⟩);rw [hB] at HO0 HBW0 HB5;simp only [hB];clear hB hws;have hk0:=HKEEP.out _ HBW0.out;have HJ5:=Za hk0.1;have z0:=hk0.1.i.x0;have z1:=hk0.1.i.x1;clear hk0;go_upto_region 16 with (first | (go_at_call 91;with_reducible refine (HYDq.out _ _ HJ5.out).mono ?_;rintro en w10 ⟨rfl,hb10⟩;have HBW10:=Za (HBW0.out.trans (hb10.mono (HKEEP.out _ HBW0.out).2));have hk10:=HKEEP.out _ HBW10.out;have HJ10:=Za hk10.1;have z100:=hk10.1.i.x0;have z101:=hk10.1.i.x1;have HO10:=Za (Zq HO0.out hb10 lr_);have HSZ10:=Za hk10.2;clear hb10 hk10) | (at_builtin;refine ZbH rfl (.tmp 69) (.tmp 73) rfl rfl HO10.out rfl HLD.out (HSDq.out _ _ HJ10.out) (by have:=HBND.out;omega) HSZ10.out ?_;intro v11 w11 ho11 hb11;have HO11:=Za ho11;have HBW11:=Za (HBW10.out.trans hb11);have hk11:=HKEEP.out _ HBW11.out;have HJ11:=Za hk11.1;have z110:=hk11.1.i.x0;have z111:=hk11.1.i.x1;clear ho11 hb11 hk11));have HSB:=Za (fun (W:World)=>(ZbO W ⟨1,0,0,0,0,0⟩).s);have HOB:=Za (Zq HO11.out ((Below.refl w11.heap.size w11).alloc lr_ (.cells #[.int .i64 1,.int .i64 0,.int .i64 0,.int .i64 0,.int .i64 0,.int .i64 0] 49)) lr_);have HBWB:=Za (HBW11.out.alloc (HKEEP.out _ HBW11.out).2 (.cells #[.int .i64 1,.int .i64 0,.int .i64 0,.int .i64 0,.int .i64 0,.int .i64 0] 49));have HSZB:=Za (HKEEP.out _ HBWB.out).2;go_upto_region 19 with (at_builtin;refine ZbH rfl (.tmp 82) (.tmp 84) rfl rfl (l2:=[⟨1,0,0,0,0,0⟩]) HOB.out rfl rfl (HSB.out _) (by have:=HBND.out;omega) HSZB.out ?_;intro v13 w13 ho13 hb13;have HO13:=Za ho13;have HBW13:=Za (HBWB.out.trans hb13);have hk13:=HKEEP.out _ HBW13.out;have HJ13:=Za hk13.1;have z130:=hk13.1.i.x0;have z131:=hk13.1.i.x1;clear ho13 hb13 hk13);obtain ⟨lo,lc,hlv⟩:=Zw HO13.out;subst hlv;obtain ⟨nn,hnn⟩:∃n,1+(endL l (i+2) - (i+2))+1=n:=⟨_,rfl⟩;rw [hnn] at HO13 ⊢;clear hnn;have hrl:(([⟨2,0,0,0,0,3⟩]:List Ac)++Ze l (i+2)++([⟨1,0,0,0,0,0⟩]:List Ac)).length=nn:=by have h9:=HO13.out.1;rw [Z5] at h9;omega
     have HRN:=Za hrl;clear hrl;have HRL:=Za (show (([⟨2,0,0,0,0,3⟩]:List Ac)++Ze l (i+2)++([⟨1,0,0,0,0,0⟩]:List Ac)).length≤131076 - (endL l p1 - p1)∧(([⟨2,0,0,0,0,3⟩]:List Ac)++Ze l (i+2)++([⟨1,0,0,0,0,0⟩]:List Ac)).length≤131076 by simp only [List.length_append,List.length_cons,List.length_nil,HLD.out];have:=HBND.out;omega);refine Zl (JO w13 B (.slice lo nn lc) nn (([⟨2,0,0,0,0,3⟩]:List Ac)++Ze l (i+2)++([⟨1,0,0,0,0,0⟩]:List Ac)) (KO gx0 B (nn+(endL l p1 - p1)) (.agg #[.slice (some ad) N c,.slice (some ⟨ge,0,none⟩) N N]) (.int .i64 (i:Int)) (.slice lo nn lc) (.int .i64 (p1:Int)) (.slice (some (ad.add (p1*6))) (endL l p1 - p1) (c - p1)) 9 (ZH l i (([⟨2,0,0,0,0,3⟩]:List Ac)++Ze l (i+2)++([⟨1,0,0,0,0,0⟩]:List Ac)++Ze l p1)) (([⟨2,0,0,0,0,3⟩]:List Ac)++Ze l (i+2)++([⟨1,0,0,0,0,0⟩]:List Ac)++Ze l p1))) [[],[],[],[],[],[3,4],[2,3,4,5],[0,1,2,3,4,5,6],[0,1,2,3,4,5,6,7],[0,1,2,3,4,5,6,7,8]] (by kernel_rfl) (by kernel_rfl) (fun vs=>JO.start vs HO13.out (HKEEP.out _ HBW13.out).2 (fun i v w hi=>by match i,hi with | _+10,_=>trivial)) (fun vs=>?_);refine Zb rfl (fun S w9 hS hA hD hJ R hR=>?_) (fun K hK=>?_)
     · have hs9:=(HKEEP.out _ (HBW13.out.trans hJ.b)).2;have HZ9:=(HKEEP.out _ (HBW13.out.trans hJ.b)).1;have z0:=HZ9.i.x0;have z1:=HZ9.i.x1;go_simp;exact hR _ _ (hJ.step (ZaR _ _ _ _ _ _ _ _ _ _ _) (by decide) br_ rfl hs9)
     go_simp;refine hK _ ?_;clear hK K;refine Zb rfl (fun S w9 hS hA hD hJ R hR=>?_) (fun K hK=>?_)
     · have hs9:=(HKEEP.out _ (HBW13.out.trans hJ.b)).2;go_simp;exact hR _ _ (hJ.step (ZaR _ _ _ _ _ _ _ _ _ _ _) (by decide) br_ rfl hs9)
     go_simp;refine hK _ ?_;clear hK K;refine Zb rfl (fun S w9 hS hA hD hJ R hR=>?_) (fun K hK=>?_)
     · have hs9:=(HKEEP.out _ (HBW13.out.trans hJ.b)).2;go_simp;exact hR _ _ (hJ.step (ZaR _ _ _ _ _ _ _ _ _ _ _) (by decide) br_ rfl hs9)
     go_simp;refine hK _ ?_;clear hK K;refine Zb rfl (fun S w9 hS hA hD hJ R hR=>?_) (fun K hK=>?_)
     · have hs9:=(HKEEP.out _ (HBW13.out.trans hJ.b)).2;have HZ9:=(HKEEP.out _ (HBW13.out.trans hJ.b)).1;have z0:=HZ9.i.x0;have z1:=HZ9.i.x1;go_simp;exact hR _ _ (hJ.step (ZaR _ _ _ _ _ _ _ _ _ _ _) (by decide) br_ rfl hs9)
     go_simp;refine hK _ ?_;clear hK K;refine Zb rfl (fun S w9 hS hA hD hJ R hR=>?_) (fun K hK=>?_)
     · have hs9:=(HKEEP.out _ (HBW13.out.trans hJ.b)).2;go_simp;exact hR _ _ (hJ.step (ZaR _ _ _ _ _ _ _ _ _ _ _) (by decide) br_ rfl hs9)
     go_simp;refine hK _ ?_;clear hK K;refine Zb rfl (fun S w9 hS hA hD hJ R hR=>?_) (fun K hK=>?_)
     · have hs9:=(HKEEP.out _ (HBW13.out.trans hJ.b)).2;have HZ9:=(HKEEP.out _ (HBW13.out.trans hJ.b)).1;have k3:vs 3=_:=hJ.k 3 (hA 3 (by decide));have k4:vs 4=_:=hJ.k 4 (hA 4 (by decide));refine pc_ Zby (kc_ (HY1.out gx w9 HZ9) fun _ hb=>hR _ _ (hJ.step (ZaR _ _ _ _ _ _ _ _ _ _ _) (by decide) hb rfl hs9)) rfl ?_;simp [Act.eval,Act.put,k3,k4]
     go_simp;refine hK _ ?_;clear hK K;refine Zb rfl (fun S w9 hS hA hD hJ R hR=>?_) (fun K hK=>?_)
     · have hs9:=(HKEEP.out _ (HBW13.out.trans hJ.b)).2;have HZ9:=(HKEEP.out _ (HBW13.out.trans hJ.b)).1;have k2:vs 2=_:=hJ.k 2 (hA 2 (by decide));have k5:vs 5=_:=hJ.k 5 (hA 5 (by decide));have hsz9:=(HKEEP.out _ (HBW13.out.trans hJ.b)).2;obtain ⟨v8,w8,hrun,ho8,hb8⟩:=Zf6 (c:=c - p1) 26 (hJ.r hS) (HS1.out gx w9 HZ9) HL1.out (by have:=HBND.out;have:=HRL.out;have:=HRN.out;omega) hsz9;have hfin:=hR _ _ (hJ.app (hD 7 (by decide) (by decide)) (hD 8 (by decide) (by decide)) (hD 9 (by decide) (by decide)) hb8 ho8);exact Zay (.tmp 88) (.tmp 91) 26 (by rfl) _ _ (by simp [Act.eval,Act.put,k2]) (by simp [Act.eval,Act.put,k5]) hrun hfin
     go_simp;refine hK _ ?_;clear hK K;refine Zb rfl (fun S w9 hS hA hD hJ R hR=>?_) (fun K hK=>?_)
     · have hs9:=(HKEEP.out _ (HBW13.out.trans hJ.b)).2;have HZ9:=(HKEEP.out _ (HBW13.out.trans hJ.b)).1;have k0:vs 0=_:=hJ.k 0 (hA 0 (by decide));have k1:vs 1=_:=hJ.k 1 (hA 1 (by decide));have k6:w9.ownsRow B 49 6 (vs 6) _ (acs (([⟨2,0,0,0,0,3⟩]:List Ac)++Ze l (i+2)++([⟨1,0,0,0,0,0⟩]:List Ac)++Ze l p1)):=hJ.k 6 (hA 6 (by decide));obtain ⟨oo,co,hoo⟩:=Zw k6;rw [hoo] at k6;refine pc_ Zbn (kd_ (HONE.out oo (nn+(endL l p1 - p1)) co (([⟨2,0,0,0,0,3⟩]:List Ac)++Ze l (i+2)++([⟨1,0,0,0,0,0⟩]:List Ac)++Ze l p1) (by have h9:=k6.1;rw [Z5] at h9;omega) (by have:=HBND.out;have:=HRL.out;rw [List.length_append,HL1.out];omega) gx w9 HZ9 (Zaq (Zfc k6))) fun u _ e2 e3=>hR _ _ (hJ.step (ZaR _ _ _ _ _ _ _ _ _ _ _) (by decide) e3 e2 hs9)) rfl ?_;simp [Act.eval,Act.put,k0,k1,hoo]
     go_simp;refine hK _ ?_;clear hK K;refine Zb rfl (fun S w9 hS hA hD hJ R hR=>?_) (fun K hK=>?_)
     · have hs9:=(HKEEP.out _ (HBW13.out.trans hJ.b)).2;go_simp;exact hR _ _ (hJ.step (ZaR _ _ _ _ _ _ _ _ _ _ _) (by decide) br_ rfl hs9)
     go_simp;refine hK _ ?_;clear hK K;refine Zb rfl (fun S w9 hS hA hD hJ R hR=>?_) (fun K hK=>?_)
     · have hs9:=(HKEEP.out _ (HBW13.out.trans hJ.b)).2;have k7:w9.ownsRow gx0 49 6 (vs 7) _ (acs _):=hJ.k 7 (hA 7 (by decide));go_simp;exact hR _ _ (hJ.step (ZaR _ _ _ _ _ _ _ _ _ _ _) (by decide) br_ k7 hs9)
     go_simp;refine hK _ ?_;clear hK K;refine Zv (fun w7 hJ=>?_);have k8:vs 8=_:=hJ.k 8 rfl;have k9:w7.ownsRow gx0 49 6 (vs 9) _ (acs _):=hJ.k 9 rfl;have HJB:=Za hJ.b;have HK9r:=Za k9;clear hJ k9;simp only [k8];clear k8;go_wp2_with fail;go_ret2;have e:=HVU.out;simp [HK9.out,HX3.out] at e;rw [←e];exact ⟨_,rfl,by rw [HG.out];simpa using HK9r.out,(HKEEP.out _ (HBW13.out.trans HJB.out)).1.i.b⟩
   · have HKN9:=Za hk9;obtain ⟨KC,hKC⟩:∃v,(rowL l (i+1)).k=v:=⟨_,rfl⟩;rw [hKC] at qc0 hk hk9;have hkb20:(KC == 20)=false:=by simp [hk]
     have hkb29:(KC == 29)=false:=by simp [hk9]
     clear hKC hk hk9;go_upto_region 22 with fail
     cases e1 with
     | true =>
      cases tc with
      | true =>
       go_upto_region 23 with (first | (go_at_call 89;with_reducible refine (HE1.out _ _ HI3.out).mono ?_;rintro en w6 ⟨rfl,hI6⟩;have HI6:=Za hI6;have x60:=hI6.i.x0;have x61:=hI6.i.x1;clear hI6) | (go_at_call 88;with_reducible refine (HTC.out _ _ HI6.out).mono ?_;rintro en w7 ⟨rfl,hI7⟩;have HI7:=Za hI7;have x70:=hI7.i.x0;have x71:=hI7.i.x1;clear hI7));go_wp2_with (go_at_call 90;with_reducible refine (HNA.out _ _ HI7.out).mono ?_;rintro en w9 ⟨u9,rfl,ho9,hb9⟩;have HO9:=Za ho9;have HB9:=Za hb9;clear ho9 hb9);go_ret2;have e:=HVU.out;simp [HKN.out,HKN9.out,HX3.out,show (rowL l p1).n=0 by simpa using HE1B.out] at e;rw [←e];exact ⟨_,rfl,HO9.out,HB9.out⟩
      | false =>
       have HP1:=Za (show (rowL l p1).n=0 by simpa using HE1B.out);go_upto_region 25 with (first | (go_at_call 89;with_reducible refine (HE1.out _ _ HI3.out).mono ?_;rintro en w6 ⟨rfl,hI6⟩;have HI6:=Za hI6;have x60:=hI6.i.x0;have x61:=hI6.i.x1;clear hI6) | (go_at_call 88;with_reducible refine (HTC.out _ _ HI6.out).mono ?_;rintro en w7 ⟨rfl,hI7⟩;have HI7:=Za hI7;have x70:=hI7.i.x0;have x71:=hI7.i.x1;clear hI7));have hgr:=fun (z:Grown w7)=>HI7.out.below z.b
       have g0:=fun (z:Grown w7)=>(hgr z).i.x0
       have g1:=fun (z:Grown w7)=>(hgr z).i.x1
       have HF:=Za (fun (z:Grown w7)=>HF1.out gx z.v (hgr z));clear hgr;refine ZG br_ (by kernel_rfl) (by kernel_rfl) ?_
       repeat (go_big_quiet_step ((go_at_call 89;exact ZK (HF.out _))))
       refine wpQuiet_nil ?_;intro w10 hw10;obtain ⟨⟨w10,hb10⟩,rfl⟩:=hw10;have HGE:=Za (HI7.out.below hb10);clear g0 g1 hb10 HF;go_upto_region 28 with fail;go_quiet (fail);go_wp2_with fail;go_ret2;have e:=HVU.out;simp [HKN.out,HKN9.out,HX3.out,HP1.out] at e;rw [←e];exact ⟨rfl,(HGE.out.drewN _).i.b⟩
     | false =>
      have HP1:=Za (show (rowL l p1).n≠0 by simpa using HE1B.out);go_upto_region 25 with (first | (go_at_call 89;with_reducible refine (HE1.out _ _ HI3.out).mono ?_;rintro en w6 ⟨rfl,hI6⟩;have HI6:=Za hI6;have x60:=hI6.i.x0;have x61:=hI6.i.x1;clear hI6));have hkk:=(HB1.out.k HP1.out);have HKR:=Za hkk.1;have hw0:=hkk.1.lt;rw [HNN.out] at hw0;have hz1:(0:Int)≤(p1:Int)+1:=by omega
      have hz2:(p1:Int)+1<(N:Int):=by omega
      have hqk:=fun (z:Grown w6)=>(HQK1.out HKR.out z.v (HI6.out.below z.b).i.b).1
      by_cases hk2:(rowL l (p1+1)).k=2
      · have HK2K:=Za hk2;have hin:=hkk.2 hk2;have HINQ:=Za hin;simp only [hk2] at hqk;obtain ⟨ts,hts⟩:∃t,decide (Ze l (p1+2)=Ze l (i+1))=t:=⟨_,rfl⟩;have HTS:=Za hts;clear hk2 hkk hin hts hw0;have hgr:=fun (z:Grown w6)=>HI6.out.below z.b
        have g0:=fun (z:Grown w6)=>(hgr z).i.x0
        have g1:=fun (z:Grown w6)=>(hgr z).i.x1
        have HF:=Za (fun (z:Grown w6)=>HF1.out gx z.v (hgr z));have hif:=HIF1.out ts HINQ.out.1 HTS.out gx;skip;have HALL:=Za (fun (z:Grown w6)=>(hif z.v (hgr z)).1);have HSAME:=Za (fun (z:Grown w6)=>(hif z.v (hgr z)).2);have HALC:=Za (fun (z:Grown w6)=>HYC.out gx z.v (hgr z));rw [show (((p1+2:Nat)):Int)=(p1:Int)+1+1 by omega] at HALL;rw [show (((i+1:Nat)):Int)=(i:Int)+1 by omega] at HALC;clear hif hgr;refine ZG br_ (by kernel_rfl) (by kernel_rfl) ?_
        repeat (go_big_quiet_step (first | (go_at_call 89;exact ZK (HF.out _)) | (go_at_call 91;with_reducible exact ZK (HALL.out _)) | (go_at_call 91;with_reducible exact ZK (HALC.out _)) | (go_at_call 133;with_reducible exact ZK (HSAME.out _))))
        refine wpQuiet_nil ?_;intro w10 hw10;obtain ⟨⟨w10,hb10⟩,rfl⟩:=hw10;have HGE:=Za (HI6.out.below hb10);clear g0 g1 hb10 hqk HALL HSAME HALC HF;have x100:=HGE.out.i.x0;have x101:=HGE.out.i.x1
        cases ts with
        | true =>
         go_upto_region 26 with fail;have hin1:=HIN1.out _ 1 (by decide) rfl HKR.out HINQ.out.1 (fun q=>absurd q (by decide)) HINQ.out.2.1;have HKK:=Za hin1.1;rw [show ((1:Nat):Int)=1 from rfl] at HKK;have HAK:=Za hin1.2.1;have HOK:=Za hin1.2.2;rw [show (((p1+1:Nat)):Int)=(p1:Int)+1 by omega] at HKK HOK;clear hin1;refine Zl (JG w10 (KB gx0 (.agg #[.slice (some ad) N c,.slice (some ⟨ge,0,none⟩) N N]) (.int .i64 ((p1:Int)+1)) (.int .i64 ((kidL l (p1+1) 1:Nat):Int)) (.slice (some (ad.add ((kidL l (p1+1) 1)*6))) (endL l (kidL l (p1+1) 1) - (kidL l (p1+1) 1)) (c - (kidL l (p1+1) 1))) 12 (ZH l (p1+1) (Ze l (kidL l (p1+1) 1))))) [[],[],[],[],[],[3,4],[2,3,4,5],[0,1,2,3,4,5,6],[0,1,2,3,4,5,6,7],[0,1,2,3,4,5,6,7,8]] (by kernel_rfl) (by kernel_rfl) (fun vs=>JG.start vs (fun i v w hi=>by match i,hi with | _+10,_=>trivial)) (fun vs=>?_);refine Zb rfl (fun S w9 hS hA hD hJ R hR=>?_) (fun K hK=>?_)
         · have HZ9:=HGE.out.below hJ.b;have z0:=HZ9.i.x0;have z1:=HZ9.i.x1;go_simp;exact hR _ _ (hJ.step (Z4 _ _ _ _ _ _ _) br_ rfl)
         go_simp;refine hK _ ?_;clear hK K;refine Zb rfl (fun S w9 hS hA hD hJ R hR=>?_) (fun K hK=>?_)
         · go_simp;exact hR _ _ (hJ.step (Z4 _ _ _ _ _ _ _) br_ rfl)
         go_simp;refine hK _ ?_;clear hK K;refine Zb rfl (fun S w9 hS hA hD hJ R hR=>?_) (fun K hK=>?_)
         · have HZ9:=HGE.out.below hJ.b;have z0:=HZ9.i.x0;have z1:=HZ9.i.x1;go_simp;exact hR _ _ (hJ.step (Z4 _ _ _ _ _ _ _) br_ rfl)
         go_simp;refine hK _ ?_;clear hK K;refine Zb rfl (fun S w9 hS hA hD hJ R hR=>?_) (fun K hK=>?_)
         · have HZ9:=HGE.out.below hJ.b;have z0:=HZ9.i.x0;have z1:=HZ9.i.x1;go_simp;exact hR _ _ (hJ.step (Z4 _ _ _ _ _ _ _) br_ rfl)
         go_simp;refine hK _ ?_;clear hK K;refine Zb rfl (fun S w9 hS hA hD hJ R hR=>?_) (fun K hK=>?_)
         · go_simp;exact hR _ _ (hJ.step (Z4 _ _ _ _ _ _ _) br_ rfl)
         go_simp;refine hK _ ?_;clear hK K;refine Zb rfl (fun S w9 hS hA hD hJ R hR=>?_) (fun K hK=>?_)
         · have HZ9:=HGE.out.below hJ.b;have k3:vs 3=_:=hJ.k 3 (hA 3 (by decide));have k4:vs 4=_:=hJ.k 4 (hA 4 (by decide));refine pc_ Zhr (kc_ (HKK.out gx w9 HZ9) fun _ hb=>hR _ _ (hJ.step (Z4 _ _ _ _ _ _ _) hb rfl)) rfl ?_;simp [Act.eval,Act.put,k3,k4]
         go_simp;refine hK _ ?_;clear hK K;refine Zb rfl (fun S w9 hS hA hD hJ R hR=>?_) (fun K hK=>?_)
         · have HZ9:=HGE.out.below hJ.b;have k2:vs 2=_:=hJ.k 2 (hA 2 (by decide));have k5:vs 5=_:=hJ.k 5 (hA 5 (by decide));refine pc_ Zby (kc_ (HAK.out gx w9 HZ9) fun _ hb=>hR _ _ (hJ.step (Z4 _ _ _ _ _ _ _) hb rfl)) rfl ?_;simp [Act.eval,Act.put,k2,k5]
         go_simp;refine hK _ ?_;clear hK K;refine Zb rfl (fun S w9 hS hA hD hJ R hR=>?_) (fun K hK=>?_)
         · have HZ9:=HGE.out.below hJ.b;have k0:vs 0=_:=hJ.k 0 (hA 0 (by decide));have k1:vs 1=_:=hJ.k 1 (hA 1 (by decide));have k6:vs 6=_:=hJ.k 6 (hA 6 (by decide));refine pc_ Zbn (kd_ (HOK.out gx w9 HZ9) fun u _ e2 e3=>hR _ _ (hJ.step (Z4 _ _ _ _ _ _ _) e3 e2)) rfl ?_;simp [Act.eval,Act.put,k0,k1,k6]
         go_simp;refine hK _ ?_;clear hK K;refine Zb rfl (fun S w9 hS hA hD hJ R hR=>?_) (fun K hK=>?_)
         · go_simp;exact hR _ _ (hJ.step (Z4 _ _ _ _ _ _ _) br_ rfl)
         go_simp;refine hK _ ?_;clear hK K;refine Zb rfl (fun S w9 hS hA hD hJ R hR=>?_) (fun K hK=>?_)
         · have k7:w9.ownsRow gx0 49 6 (vs 7) _ (acs _):=hJ.k 7 (hA 7 (by decide));go_simp;exact hR _ _ (hJ.step (Z4 _ _ _ _ _ _ _) br_ k7)
         go_simp;refine hK _ ?_;clear hK K;refine Zv (fun w7 hJ=>?_);have k8:vs 8=_:=hJ.k 8 rfl;have k9:w7.ownsRow gx0 49 6 (vs 9) _ (acs _):=hJ.k 9 rfl;have HJB:=Za hJ.b;have HK9r:=Za k9;clear hJ k9;simp only [k8];clear k8;go_wp2_with fail;go_ret2;have e:=HVU.out;simp [HKN.out,HKN9.out,HX3.out,HP1.out,HK2K.out,show Ze l (p1+2)=Ze l (i+1) by simpa using HTS.out] at e;rw [←e];exact ⟨_,rfl,by rw [HG.out];exact HK9r.out,(HGE.out.below HJB.out).i.b⟩
        | false =>
         go_upto_region 28 with fail;go_quiet (fail);go_wp2_with fail;go_ret2;have e:=HVU.out;simp [HKN.out,HKN9.out,HX3.out,HP1.out,HK2K.out,show Ze l (p1+2)≠Ze l (i+1) by simpa using HTS.out] at e;rw [←e];exact ⟨rfl,(HGE.out.drewN _).i.b⟩
      · have HK2N:=Za hk2;obtain ⟨KK,hKK⟩:∃v,(rowL l (p1+1)).k=v:=⟨_,rfl⟩;simp only [hKK] at hqk;rw [hKK] at hk2;have hkkb:(KK == 2)=false:=by simp [hk2]
        clear hKK hk2 hkk hw0;have hgr:=fun (z:Grown w6)=>HI6.out.below z.b
        have g0:=fun (z:Grown w6)=>(hgr z).i.x0
        have g1:=fun (z:Grown w6)=>(hgr z).i.x1
        have HF:=Za (fun (z:Grown w6)=>HF1.out gx z.v (hgr z));clear hgr;refine ZG br_ (by kernel_rfl) (by kernel_rfl) ?_
        repeat (go_big_quiet_step ((go_at_call 89;exact ZK (HF.out _))))
        refine wpQuiet_nil ?_;intro w10 hw10;obtain ⟨⟨w10,hb10⟩,rfl⟩:=hw10;have HGE:=Za (HI6.out.below hb10);clear g0 g1 hb10 hqk HF;go_upto_region 28 with fail;go_quiet (fail);go_wp2_with fail;go_ret2;have e:=HVU.out;simp [HKN.out,HKN9.out,HX3.out,HP1.out,HK2N.out] at e;rw [←e];exact ⟨rfl,(HGE.out.drewN _).i.b⟩
theorem Zlk (w:World) (ad:Addr) (c ge:Nat) (l:List Ac) (i p1 p2:Nat) (h:Rs w ad c ge l) (hi:RowIn l i) (hic:RowIn l (i+1)) (h1:kidL l i 1=p1) (hb1:BIn l p1) (h2:kidL l i 2=p2) (hb2:BIn l p2) (hp1:kidL l i 1<l.length) (hn3:(rowL l i).n=3) (hd:(rowL l (i+1)).k=29→RowIn l (i+2)∧(endL l (i+2) - (i+2))+(endL l p1 - p1)+(endL l p2 - p2)≤131072) (hl:l.length≤131072) (hs:ZE l) :
 Calls Try.prog 85 #[rsv ad l.length c ge,.int .i64 (i:Int)] w fun en w'=>Zbo w w' en (Za4 l i):=by
 have hq0:=fun (W:World) (h8:Below w.heap.size w W)=>(Zx (h.below h8) hi.lt).1
 have HQC:=Za (fun (W:World) (h8:Below w.heap.size w W)=>(Zx (h.below h8) hic.lt).1);have hc:=h.r.n;have hgl:=h.e.lt;have hsz:=h.r.m;obtain ⟨V,hV⟩:∃V,Za4 l i=V:=⟨_,rfl⟩;rw [hV];have hvu:=hV;unfold Za4 at hvu;simp only [h1,h2] at hvu;skip;obtain ⟨gx0,hgx0⟩:∃g,w.heap.size=g:=⟨_,rfl⟩;obtain ⟨x,hx⟩:∃x,rowL l i=x:=⟨_,rfl⟩;rw [hx] at hq0 hvu hn3
 have hlt:∀j,j<1→kidL l i j<l.length:=fun j hj=>by
  obtain rfl:j=0:=by omega
  exact hic.lt
 have hlt2:∀j,j<2→kidL l i j<l.length:=fun j hj=>by
  match j,hj with
  | 0,_=>exact hic.lt
  | 1,_=>exact hp1
 have HK2:=Za (fun (gx:Nat) (W:World) (h8:InX w gx0 (.slice (some ad) l.length c) (.slice (some ⟨ge,0,none⟩) l.length l.length) gx x W)=>ZdN w ad c ge l i h hi.lt hl W h8 2 hlt2 (by decide) h2);have HK1:=Za (fun (gx:Nat) (W:World) (h8:InX w gx0 (.slice (some ad) l.length c) (.slice (some ⟨ge,0,none⟩) l.length l.length) gx x W)=>ZdN w ad c ge l i h hi.lt hl W h8 1 hlt (by decide) h1);rw [show ((1:Nat):Int)=1 from rfl] at HK1;rw [show ((2:Nat):Int)=2 from rfl] at HK2;have HA1:=Za (fun (gx:Nat) (W:World) (h8:InX w gx0 (.slice (some ad) l.length c) (.slice (some ⟨ge,0,none⟩) l.length l.length) gx x W)=>ZdS w ad c ge l p1 h hb1.r.lt hl W h8 hb1.r.e);have HY1:=Za (fun (gx:Nat) (W:World) (h8:InX w gx0 (.slice (some ad) l.length c) (.slice (some ⟨ge,0,none⟩) l.length l.length) gx x W)=>Zbk w ad c ge l p1 h hb1.r hl W h8);have HO1:=Za (fun (gx:Nat) (W:World) (h8:InX w gx0 (.slice (some ad) l.length c) (.slice (some ⟨ge,0,none⟩) l.length l.length) gx x W)=>Zcy w ad c ge l i h hi hl W h8 p1 hb1.r hs (B:=gx0) (by rw [←hgx0];exact h8.i.b.size));have HS1:=Za (fun (gx:Nat) (W:World) (h8:InX w gx0 (.slice (some ad) l.length c) (.slice (some ⟨ge,0,none⟩) l.length l.length) gx x W)=>Zca w ad c ge l p1 h hb1.r hl W h8);have HL1:=Za (Zak hb1.r.e);obtain ⟨e1,he1⟩:∃t,decide ((rowL l p1).n=0)=t:=⟨_,rfl⟩;have HE1:=Za (fun (gx:Nat) (W:World) (h8:InX w gx0 (.slice (some ad) l.length c) (.slice (some ⟨ge,0,none⟩) l.length l.length) gx x W)=>Zd9 w ad c ge l p1 h hb1.r.lt hl W h8 he1);have HF1:=Za (fun (gx:Nat) (W:World) (h8:InX w gx0 (.slice (some ad) l.length c) (.slice (some ⟨ge,0,none⟩) l.length l.length) gx x W)=>Zhl w ad c ge l p1 h hb1.r hl W h8 he1);obtain ⟨tc,htc⟩:∃t,Zap l (i+1) (endL l (i+1))=t:=⟨_,rfl⟩;have HTC:=Za (fun (gx:Nat) (W:World) (h8:InX w gx0 (.slice (some ad) l.length c) (.slice (some ⟨ge,0,none⟩) l.length l.length) gx x W)=>ZcD w ad c ge l (i+1) h hic.lt hl W h8 hic.e htc);rw [show ((i+1:Nat):Int)=(i:Int)+1 by omega] at HTC;have HNA:=Za (fun (gx:Nat) (W:World) (h8:InX w gx0 (.slice (some ad) l.length c) (.slice (some ⟨ge,0,none⟩) l.length l.length) gx x W)=>ZcZ w ad c ge l i h hi hl W h8 hs);have HYC:=Za (fun (gx:Nat) (W:World) (h8:InX w gx0 (.slice (some ad) l.length c) (.slice (some ⟨ge,0,none⟩) l.length l.length) gx x W)=>Zbk w ad c ge l (i+1) h hic hl W h8);have HD:=Za (fun (hq:(rowL l (i+1)).k=29)=>(hd hq));have HYD:=Za (fun (hq:RowIn l (i+2)) (gx:Nat) (W:World) (h8:InX w gx0 (.slice (some ad) l.length c) (.slice (some ⟨ge,0,none⟩) l.length l.length) gx x W)=>Zbk w ad c ge l (i+2) h hq hl W h8);have HSD:=Za (fun (hq:RowIn l (i+2)) (gx:Nat) (W:World) (h8:InX w gx0 (.slice (some ad) l.length c) (.slice (some ⟨ge,0,none⟩) l.length l.length) gx x W)=>Zca w ad c ge l (i+2) h hq hl W h8);have HONE:=Za (fun (oi:Option Addr) (ni ci:Nat) (r:List Ac) (hn:r.length=ni) (hrl:r.length≤131076) (gx:Nat) (W:World) (h8:InX w gx0 (.slice (some ad) l.length c) (.slice (some ⟨ge,0,none⟩) l.length l.length) gx x W) (h9:Src W oi r.length (acs r))=>Zg3 w ad c ge l i h hi hl W h8 oi ni ci r hn hrl hs (B:=gx0) (by rw [←hgx0];exact h8.i.b.size) h9);have HB1:=Za hb1;have HIF1:=Za (fun (t:Bool) (q1:RowIn l (p1+2)) (ht:decide (Ze l (p1+2)=Ze l (i+1))=t) (gx:Nat) (W:World) (h8:InX w gx0 (.slice (some ad) l.length c) (.slice (some ⟨ge,0,none⟩) l.length l.length) gx x W)=>And.intro (Zbk w ad c ge l (p1+2) h q1 hl W h8) (ZfT w ad c ge l (p1+2) h q1 hl W h8 (i+1) hic ht))
 have HIN1:=Za (fun (t:Nat) (m:Nat) (hm:1≤m∧m≤2) (ht:kidL l (p1+1) m=t) (q0:RowIn l (p1+1)) (q1:RowIn l (p1+2)) (q2:m=2→kidL l (p1+1) 1<l.length) (q3:RowIn l t)=>And.intro (fun (gx:Nat) (W:World) (h8:InX w gx0 (.slice (some ad) l.length c) (.slice (some ⟨ge,0,none⟩) l.length l.length) gx x W)=>Zhb w ad c ge l (p1+1) h q0 hl W h8 m (fun j hj=>by
  match j,hj with
  | 0,_=>exact q1.lt
  | 1,hj=>exact q2 (by omega)
  | j+2,hj=>omega) hm.2 ht) (And.intro (fun (gx:Nat) (W:World) (h8:InX w gx0 (.slice (some ad) l.length c) (.slice (some ⟨ge,0,none⟩) l.length l.length) gx x W)=>Zbk w ad c ge l t h q3 hl W h8) (fun (gx:Nat) (W:World) (h8:InX w gx0 (.slice (some ad) l.length c) (.slice (some ⟨ge,0,none⟩) l.length l.length) gx x W)=>Zcy w ad c ge l (p1+1) h q0 hl W h8 t q3 hs (B:=gx0) (by rw [←hgx0];exact h8.i.b.size))))
 have HQK1:=Za (fun (q0:RowIn l (p1+1)) (W:World) (h8:Below w.heap.size w W)=>(Zx (h.below h8) q0.lt).1);have HIF2:=Za (fun (t:Bool) (q1:RowIn l (p2+2)) (ht:decide (Ze l (p2+2)=Ze l (i+1))=t) (gx:Nat) (W:World) (h8:InX w gx0 (.slice (some ad) l.length c) (.slice (some ⟨ge,0,none⟩) l.length l.length) gx x W)=>And.intro (Zbk w ad c ge l (p2+2) h q1 hl W h8) (ZfT w ad c ge l (p2+2) h q1 hl W h8 (i+1) hic ht))
 have HIN2:=Za (fun (t:Nat) (m:Nat) (hm:1≤m∧m≤2) (ht:kidL l (p2+1) m=t) (q0:RowIn l (p2+1)) (q1:RowIn l (p2+2)) (q2:m=2→kidL l (p2+1) 1<l.length) (q3:RowIn l t)=>And.intro (fun (gx:Nat) (W:World) (h8:InX w gx0 (.slice (some ad) l.length c) (.slice (some ⟨ge,0,none⟩) l.length l.length) gx x W)=>Zhb w ad c ge l (p2+1) h q0 hl W h8 m (fun j hj=>by
  match j,hj with
  | 0,_=>exact q1.lt
  | 1,hj=>exact q2 (by omega)
  | j+2,hj=>omega) hm.2 ht) (And.intro (fun (gx:Nat) (W:World) (h8:InX w gx0 (.slice (some ad) l.length c) (.slice (some ⟨ge,0,none⟩) l.length l.length) gx x W)=>Zbk w ad c ge l t h q3 hl W h8) (fun (gx:Nat) (W:World) (h8:InX w gx0 (.slice (some ad) l.length c) (.slice (some ⟨ge,0,none⟩) l.length l.length) gx x W)=>Zcy w ad c ge l (p2+1) h q0 hl W h8 t q3 hs (B:=gx0) (by rw [←hgx0];exact h8.i.b.size))))
 have HQK2:=Za (fun (q0:RowIn l (p2+1)) (W:World) (h8:Below w.heap.size w W)=>(Zx (h.below h8) q0.lt).1);have HA2:=Za (fun (gx:Nat) (W:World) (h8:InX w gx0 (.slice (some ad) l.length c) (.slice (some ⟨ge,0,none⟩) l.length l.length) gx x W)=>ZdS w ad c ge l p2 h hb2.r.lt hl W h8 hb2.r.e);have HY2:=Za (fun (gx:Nat) (W:World) (h8:InX w gx0 (.slice (some ad) l.length c) (.slice (some ⟨ge,0,none⟩) l.length l.length) gx x W)=>Zbk w ad c ge l p2 h hb2.r hl W h8);have HO2:=Za (fun (gx:Nat) (W:World) (h8:InX w gx0 (.slice (some ad) l.length c) (.slice (some ⟨ge,0,none⟩) l.length l.length) gx x W)=>Zcy w ad c ge l i h hi hl W h8 p2 hb2.r hs (B:=gx0) (by rw [←hgx0];exact h8.i.b.size));have HS2:=Za (fun (gx:Nat) (W:World) (h8:InX w gx0 (.slice (some ad) l.length c) (.slice (some ⟨ge,0,none⟩) l.length l.length) gx x W)=>Zca w ad c ge l p2 h hb2.r hl W h8);have HL2:=Za (Zak hb2.r.e);obtain ⟨e2,he2⟩:∃t,decide ((rowL l p2).n=0)=t:=⟨_,rfl⟩;have HE2:=Za (fun (gx:Nat) (W:World) (h8:InX w gx0 (.slice (some ad) l.length c) (.slice (some ⟨ge,0,none⟩) l.length l.length) gx x W)=>Zd9 w ad c ge l p2 h hb2.r.lt hl W h8 he2);have HN2:=Za (fun (gx:Nat) (W:World) (h8:InX w gx0 (.slice (some ad) l.length c) (.slice (some ⟨ge,0,none⟩) l.length l.length) gx x W)=>ZcZ w ad c ge l p2 h hb2.r hl W h8 hs);have HNK2:=Za (fun (q0:RowIn l (p2+1)) (gx:Nat) (W:World) (h8:InX w gx0 (.slice (some ad) l.length c) (.slice (some ⟨ge,0,none⟩) l.length l.length) gx x W)=>ZcZ w ad c ge l (p2+1) h q0 hl W h8 hs);have HB2:=Za hb2;have he2b:=he2;rw [htc] at hvu;have HVU:=Za hvu;have HE1B:=Za he1;have HE2B:=Za he2;clear hV hvu hd he1 htc hlt he2 he2b hlt2;have hp1l:=hb1.r.lt;have hicl:=hic.lt;have hil:=hi.lt;have hp2l:=hb2.r.lt;obtain ⟨N,hN⟩:∃n,l.length=n:=⟨_,rfl⟩;have HB:=Za ((Below.refl w.heap.size w).alloc lr_ (.cells #[.slice (some ad) N c,.slice (some ⟨ge,0,none⟩) N N] 97));have HX:=Za (Blk.new w 97 #[.slice (some ad) N c,.slice (some ⟨ge,0,none⟩) N N]);unfold rsv at *;rw [hN] at hc hil hicl hp1l HK1 HA1 HY1 HO1 HS1 HE1 HF1 HTC HNA HYC HYD HSD HONE HIF1 HIN1 hp2l HK2 HA2 HY2 HO2 HS2 HE2 HN2 HNK2 HIF2 HIN2;rw [hN];have h1a:(0:Int)≤(i:Int):=by omega
 have h2a:(i:Int)<(N:Int):=by omega
 have h3a:(0:Int)≤(i:Int)+1:=by omega
 have h4a:(i:Int)+1<(N:Int):=by omega
 have hN2:N≤131072:=by omega
 have hw1:=IntWalk.i64_in ((i:Int)+1) (by omega);have hw2:=IntWalk.i64_in ((i:Int)+1+1) (by omega);have hw3:=IntWalk.i64_in ((p1:Int)+1) (by omega);have hw4:=IntWalk.i64_in ((p1:Int)+1+1) (by omega);have hw5:=IntWalk.i64_in ((p2:Int)+1) (by omega);have hw6:=IntWalk.i64_in ((p2:Int)+1+1) (by omega);have hp20:(0:Int)≤(p2:Int):=by omega
 have HQ0:=Za hq0;have HXX:=Za hx;have HNN:=Za hN;have HX3:=Za hn3;have hn3b:(x.n == 3)=true:=by simp [hn3]
 clear h hN hs hq0 hx hi hic h1 hb1 hn3 h2 hb2 hp1;go_enter Try.func85,Try.ntmps85;go_upto_region 1 with fail;rw [hgx0] at HX;have HIN:=Za (show InBox w gx0 (.slice (some ad) N c) (.slice (some ⟨ge,0,none⟩) N N) (w.alloc (.cells #[.slice (some ad) N c,.slice (some ⟨ge,0,none⟩) N N] 97)) from ⟨HB.out,HX.out.cell 0,HX.out.cell 1,HX.out.lt⟩);generalize (w.alloc (.cells #[.slice (some ad) N c,.slice (some ⟨ge,0,none⟩) N N] 97))=W1 at HB HX HIN ⊢
 try simp only [hgx0]
 have HG:=Za hgx0;clear hgx0;have x0:=HIN.out.x0;have x1:=HIN.out.x1;obtain ⟨q0,q1,q2,q3,q4,q5⟩:=HQ0.out W1 HIN.out.b;go_upto_region 2 with fail;have HJ:=Za (show InX w gx0 (.slice (some ad) N c) (.slice (some ⟨ge,0,none⟩) N N) W1.heap.size x (W1.alloc (.cells #[.int .i64 x.k,.int .i64 x.a,.int .i64 x.b,.int .i64 x.c,.int .i64 x.d,.int .i64 x.n] 49)) from ZbA HIN.out);generalize W1.alloc (.cells #[.int .i64 x.k,.int .i64 x.a,.int .i64 x.b,.int .i64 x.c,.int .i64 x.d,.int .i64 x.n] 49)=W2 at HJ ⊢;obtain ⟨gx,hgx⟩:∃g,W1.heap.size=g:=⟨_,rfl⟩;rw [hgx] at HJ;simp only [hgx];clear hgx x0 x1 q0 q1 q2 q3 q4 q5;have x0:=HJ.out.i.x0;have x1:=HJ.out.i.x1;have y5:=HJ.out.y5;go_upto_region 5 with (go_at_call 86;with_reducible refine (HK1.out _ _ HJ.out).mono ?_;rintro en w3 ⟨rfl,hI3⟩;have HI3:=Za hI3;have x30:=hI3.i.x0;have x31:=hI3.i.x1;have y35:=hI3.y5;clear hI3);clear x0 x1 y5;go_upto_region 7 with (go_at_call 86;with_reducible refine (HK2.out _ _ HI3.out).mono ?_;rintro en w4 ⟨rfl,hI4⟩;have HI4:=Za hI4;have x40:=hI4.i.x0;have x41:=hI4.i.x1;clear hI4);clear x30 x31 y35;obtain ⟨qc0,qc1,-,-,-,-⟩:=HQC.out _ HI4.out.i.b
 by_cases hk:(rowL l (i+1)).k=20
 · have HKC:=Za hk;rw [hk] at qc0;clear hk
   by_cases hv:(rowL l (i+1)).a=1
   · have HVA:=Za hv;rw [hv] at qc1;clear hv;go_upto_region 9 with fail;refine Zl (JG w4 (KA gx0 (.agg #[.slice (some ad) N c,.slice (some ⟨ge,0,none⟩) N N]) (.int .i64 (i:Int)) (.int .i64 (p1:Int)) (.slice (some (ad.add (p1*6))) (endL l p1 - p1) (c - p1)) 8 (ZH l i (Ze l p1)))) [[],[],[],[],[2,3],[0,1,2,3,4],[0,1,2,3,4,5],[0,1,2,3,4,5,6]] (by kernel_rfl) (by kernel_rfl) (fun vs=>JG.start vs (fun i v w hi=>by match i,hi with | _+8,_=>trivial)) (fun vs=>?_);refine Zb rfl (fun S w9 hS hA hD hJ R hR=>?_) (fun K hK=>?_)
     · have HZ9:=HI4.out.below hJ.b;have z0:=HZ9.i.x0;have z1:=HZ9.i.x1;go_simp;exact hR _ _ (hJ.step (Za8 _ _ _ _ _ _ _) br_ rfl)
     go_simp;refine hK _ ?_;clear hK K;refine Zb rfl (fun S w9 hS hA hD hJ R hR=>?_) (fun K hK=>?_)
     · go_simp;exact hR _ _ (hJ.step (Za8 _ _ _ _ _ _ _) br_ rfl)
     go_simp;refine hK _ ?_;clear hK K;refine Zb rfl (fun S w9 hS hA hD hJ R hR=>?_) (fun K hK=>?_)
     · have HZ9:=HI4.out.below hJ.b;have z0:=HZ9.i.x0;have z1:=HZ9.i.x1;go_simp;exact hR _ _ (hJ.step (Za8 _ _ _ _ _ _ _) br_ rfl)
     go_simp;refine hK _ ?_;clear hK K;refine Zb rfl (fun S w9 hS hA hD hJ R hR=>?_) (fun K hK=>?_)
     · go_simp;exact hR _ _ (hJ.step (Za8 _ _ _ _ _ _ _) br_ rfl)
     go_simp;refine hK _ ?_;clear hK K;refine Zb rfl (fun S w9 hS hA hD hJ R hR=>?_) (fun K hK=>?_)
     · have HZ9:=HI4.out.below hJ.b;have k2:vs 2=_:=hJ.k 2 (hA 2 (by decide));have k3:vs 3=_:=hJ.k 3 (hA 3 (by decide));refine pc_ Zby (kc_ (HY1.out gx w9 HZ9) fun _ hb=>hR _ _ (hJ.step (Za8 _ _ _ _ _ _ _) hb rfl)) rfl ?_;simp [Act.eval,Act.put,k2,k3]
     go_simp;refine hK _ ?_;clear hK K;refine Zb rfl (fun S w9 hS hA hD hJ R hR=>?_) (fun K hK=>?_)
     · have HZ9:=HI4.out.below hJ.b;have k0:vs 0=_:=hJ.k 0 (hA 0 (by decide));have k1:vs 1=_:=hJ.k 1 (hA 1 (by decide));have k4:vs 4=_:=hJ.k 4 (hA 4 (by decide));refine pc_ Zbn (kd_ (HO1.out gx w9 HZ9) fun u _ e2 e3=>hR _ _ (hJ.step (Za8 _ _ _ _ _ _ _) e3 e2)) rfl ?_;simp [Act.eval,Act.put,k0,k1,k4]
     go_simp;refine hK _ ?_;clear hK K;refine Zb rfl (fun S w9 hS hA hD hJ R hR=>?_) (fun K hK=>?_)
     · go_simp;exact hR _ _ (hJ.step (Za8 _ _ _ _ _ _ _) br_ rfl)
     go_simp;refine hK _ ?_;clear hK K;refine Zb rfl (fun S w9 hS hA hD hJ R hR=>?_) (fun K hK=>?_)
     · have k5:w9.ownsRow gx0 49 6 (vs 5) _ (acs _):=hJ.k 5 (hA 5 (by decide));go_simp;exact hR _ _ (hJ.step (Za8 _ _ _ _ _ _ _) br_ k5)
     go_simp;refine hK _ ?_;clear hK K;refine Zv (fun w7 hJ=>?_);have k6:vs 6=_:=hJ.k 6 rfl;have k7:w7.ownsRow gx0 49 6 (vs 7) _ (acs _):=hJ.k 7 rfl;have HJB:=Za hJ.b;have HK9r:=Za k7;clear hJ k7;simp only [k6];clear k6;go_wp2_with fail;go_ret2;have e:=HVU.out;simp [HKC.out,HVA.out] at e;rw [←e];exact ⟨_,rfl,by rw [HG.out];exact HK9r.out,(HI4.out.below HJB.out).i.b⟩
   · have HVN:=Za hv;obtain ⟨VA,hVA⟩:∃v,(rowL l (i+1)).a=v:=⟨_,rfl⟩;rw [hVA] at qc1 hv;clear hVA;have hvb:(VA == 1)=false:=by simp [hv]
     clear hv;go_upto_region 11 with fail;refine Zl (JG w4 (KA gx0 (.agg #[.slice (some ad) N c,.slice (some ⟨ge,0,none⟩) N N]) (.int .i64 (i:Int)) (.int .i64 (p2:Int)) (.slice (some (ad.add (p2*6))) (endL l p2 - p2) (c - p2)) 8 (ZH l i (Ze l p2)))) [[],[],[],[],[2,3],[0,1,2,3,4],[0,1,2,3,4,5],[0,1,2,3,4,5,6]] (by kernel_rfl) (by kernel_rfl) (fun vs=>JG.start vs (fun i v w hi=>by match i,hi with | _+8,_=>trivial)) (fun vs=>?_);refine Zb rfl (fun S w9 hS hA hD hJ R hR=>?_) (fun K hK=>?_)
     · have HZ9:=HI4.out.below hJ.b;have z0:=HZ9.i.x0;have z1:=HZ9.i.x1;go_simp;exact hR _ _ (hJ.step (Za8 _ _ _ _ _ _ _) br_ rfl)
     go_simp;refine hK _ ?_;clear hK K;refine Zb rfl (fun S w9 hS hA hD hJ R hR=>?_) (fun K hK=>?_)
     · go_simp;exact hR _ _ (hJ.step (Za8 _ _ _ _ _ _ _) br_ rfl)
     go_simp;refine hK _ ?_;clear hK K;refine Zb rfl (fun S w9 hS hA hD hJ R hR=>?_) (fun K hK=>?_)
     · have HZ9:=HI4.out.below hJ.b;have z0:=HZ9.i.x0;have z1:=HZ9.i.x1;go_simp;exact hR _ _ (hJ.step (Za8 _ _ _ _ _ _ _) br_ rfl)
     go_simp;refine hK _ ?_;clear hK K;refine Zb rfl (fun S w9 hS hA hD hJ R hR=>?_) (fun K hK=>?_)
     · go_simp;exact hR _ _ (hJ.step (Za8 _ _ _ _ _ _ _) br_ rfl)
     go_simp;refine hK _ ?_;clear hK K;refine Zb rfl (fun S w9 hS hA hD hJ R hR=>?_) (fun K hK=>?_)
     · have HZ9:=HI4.out.below hJ.b;have k2:vs 2=_:=hJ.k 2 (hA 2 (by decide));have k3:vs 3=_:=hJ.k 3 (hA 3 (by decide));refine pc_ Zby (kc_ (HY2.out gx w9 HZ9) fun _ hb=>hR _ _ (hJ.step (Za8 _ _ _ _ _ _ _) hb rfl)) rfl ?_;simp [Act.eval,Act.put,k2,k3]
     go_simp;refine hK _ ?_;clear hK K;refine Zb rfl (fun S w9 hS hA hD hJ R hR=>?_) (fun K hK=>?_)
     · have HZ9:=HI4.out.below hJ.b;have k0:vs 0=_:=hJ.k 0 (hA 0 (by decide));have k1:vs 1=_:=hJ.k 1 (hA 1 (by decide));have k4:vs 4=_:=hJ.k 4 (hA 4 (by decide));refine pc_ Zbn (kd_ (HO2.out gx w9 HZ9) fun u _ e2 e3=>hR _ _ (hJ.step (Za8 _ _ _ _ _ _ _) e3 e2)) rfl ?_;simp [Act.eval,Act.put,k0,k1,k4]
     go_simp;refine hK _ ?_;clear hK K;refine Zb rfl (fun S w9 hS hA hD hJ R hR=>?_) (fun K hK=>?_)
     · go_simp;exact hR _ _ (hJ.step (Za8 _ _ _ _ _ _ _) br_ rfl)
     go_simp;refine hK _ ?_;clear hK K;refine Zb rfl (fun S w9 hS hA hD hJ R hR=>?_) (fun K hK=>?_)
     · have k5:w9.ownsRow gx0 49 6 (vs 5) _ (acs _):=hJ.k 5 (hA 5 (by decide));go_simp;exact hR _ _ (hJ.step (Za8 _ _ _ _ _ _ _) br_ k5)
     go_simp;refine hK _ ?_;clear hK K;refine Zv (fun w7 hJ=>?_);have k6:vs 6=_:=hJ.k 6 rfl;have k7:w7.ownsRow gx0 49 6 (vs 7) _ (acs _):=hJ.k 7 rfl;have HJB:=Za hJ.b;have HK9r:=Za k7;clear hJ k7;simp only [k6];clear k6;go_wp2_with fail;go_ret2;have e:=HVU.out;simp [HKC.out,HVN.out,HX3.out] at e;rw [←e];exact ⟨_,rfl,by rw [HG.out];exact HK9r.out,(HI4.out.below HJB.out).i.b⟩
 · have HKN:=Za hk
   by_cases hk9:(rowL l (i+1)).k=29
   · have HK9:=Za hk9;rw [hk9] at qc0;clear hk hk9;have HDD:=Za (HD.out HK9.out);have HYDq:=Za (HYD.out HDD.out.1);rw [show ((i+2:Nat):Int)=(i:Int)+1+1 by omega] at HYDq;have HSDq:=Za (HSD.out HDD.out.1);have HLD:=Za (Zak HDD.out.1.e);have hbnd:=HDD.out.2;have HBND:=Za hbnd;clear hbnd;have HIS:=Za HI4.out;have hws:=HI4.out;go_upto_region 15 with fail;have HO0:=Za (ZfY w4 ⟨2,0,0,0,0,3⟩);have HBW0:=Za ((Below.refl w4.heap.size w4).alloc lr_ (.cells #[.int .i64 2,.int .i64 0,.int .i64 0,.int .i64 0,.int .i64 0,.int .i64 3] 49));have HB5:=Za (show w4.heap.size≤(w4.alloc (.cells #[.int .i64 2,.int .i64 0,.int .i64 0,.int .i64 0,.int .i64 0,.int .i64 3] 49)).heap.size from HBW0.out.size);generalize w4.alloc (.cells #[.int .i64 2,.int .i64 0,.int .i64 0,.int .i64 0,.int .i64 0,.int .i64 3] 49)=W5 at HO0 HBW0 HB5 ⊢;obtain ⟨B,hB⟩:∃b,w4.heap.size=b:=⟨_,rfl⟩;have HKEEP:=Za (show ∀W,Below B w4 W→InX w gx0 (.slice (some ad) N c) (.slice (some ⟨ge,0,none⟩) N N) gx x W∧B≤W.heap.size from fun W hb=>⟨HIS.out.below (by rw [hB];exact hb),by rw [←hB];exact hb.size⟩);rw [hB] at HO0 HBW0 HB5;simp only [hB];clear hB hws;have hk0:=HKEEP.out _ HBW0.out;have HJ5:=Za hk0.1;have z0:=hk0.1.i.x0;have z1:=hk0.1.i.x1;clear hk0;go_upto_region 16 with (first | (go_at_call 91;with_reducible refine (HYDq.out _ _ HJ5.out).mono ?_;rintro en w10 ⟨rfl,hb10⟩;have HBW10:=Za (HBW0.out.trans (hb10.mono (HKEEP.out _ HBW0.out).2));have hk10:=HKEEP.out _ HBW10.out;have HJ10:=Za hk10.1;have z100:=hk10.1.i.x0;have z101:=hk10.1.i.x1;have HO10:=Za (Zq HO0.out hb10 lr_);have HSZ10:=Za hk10.2;clear hb10 hk10) | (at_builtin;refine ZbH rfl (.tmp 69) (.tmp 73) rfl rfl HO10.out rfl HLD.out (HSDq.out _ _ HJ10.out) (by have:=HBND.out;omega) HSZ10.out ?_;intro v11 w11 ho11 hb11;have HO11:=Za ho11;have HBW11:=Za (HBW10.out.trans hb11);have hk11:=HKEEP.out _ HBW11.out;have HJ11:=Za hk11.1;have z110:=hk11.1.i.x0;have z111:=hk11.1.i.x1;clear ho11 hb11 hk11));have HLX:=Za (show ([⟨2,0,0,0,0,3⟩]++Ze l (i+2):List Ac).length=1+(endL l (i+2) - (i+2)) by rw [List.length_append,HLD.out];rfl);go_upto_region 19 with (first | (go_at_call 91;with_reducible refine (HY2.out _ _ HJ11.out).mono ?_;rintro en w12 ⟨rfl,hb12⟩;have HBW12:=Za (HBW11.out.trans (hb12.mono (HKEEP.out _ HBW11.out).2));have hk12:=HKEEP.out _ HBW12.out;have HJ12:=Za hk12.1;have z120:=hk12.1.i.x0;have z121:=hk12.1.i.x1;have HO12:=Za (Zq HO11.out hb12 lr_);have HSZ12:=Za hk12.2;clear hb12 hk12) | (at_builtin;refine ZbH rfl (.tmp 77) (.tmp 80) rfl rfl HO12.out rfl HL2.out (HS2.out _ _ HJ12.out) (by have:=HBND.out;omega) HSZ12.out ?_;intro v13 w13 ho13 hb13;have HO13:=Za ho13;have HBW13:=Za (HBW12.out.trans hb13);have hk13:=HKEEP.out _ HBW13.out;have HJ13:=Za hk13.1;have z130:=hk13.1.i.x0;have z131:=hk13.1.i.x1;clear ho13 hb13 hk13));obtain ⟨lo,lc,hlv⟩:=Zw HO13.out;subst hlv;obtain ⟨nn,hnn⟩:∃n,1+(endL l (i+2) - (i+2))+(endL l p2 - p2)=n:=⟨_,rfl⟩;rw [hnn] at HO13 ⊢;clear hnn;have hrl:(([⟨2,0,0,0,0,3⟩]:List Ac)++Ze l (i+2)++Ze l p2).length=nn:=by have h9:=HO13.out.1;rw [Z5] at h9;omega
     have HRN:=Za hrl;clear hrl;have HRL:=Za (show (([⟨2,0,0,0,0,3⟩]:List Ac)++Ze l (i+2)++Ze l p2).length≤131076 - (endL l p1 - p1)∧(([⟨2,0,0,0,0,3⟩]:List Ac)++Ze l (i+2)++Ze l p2).length≤131076 by simp only [List.length_append,List.length_cons,List.length_nil,HLD.out,HL2.out];have:=HBND.out;omega);refine Zl (JO w13 B (.slice lo nn lc) nn (([⟨2,0,0,0,0,3⟩]:List Ac)++Ze l (i+2)++Ze l p2) (KO gx0 B (nn+(endL l p1 - p1)) (.agg #[.slice (some ad) N c,.slice (some ⟨ge,0,none⟩) N N]) (.int .i64 (i:Int)) (.slice lo nn lc) (.int .i64 (p1:Int)) (.slice (some (ad.add (p1*6))) (endL l p1 - p1) (c - p1)) 9 (ZH l i (([⟨2,0,0,0,0,3⟩]:List Ac)++Ze l (i+2)++Ze l p2++Ze l p1)) (([⟨2,0,0,0,0,3⟩]:List Ac)++Ze l (i+2)++Ze l p2++Ze l p1))) [[],[],[],[],[],[3,4],[2,3,4,5],[0,1,2,3,4,5,6],[0,1,2,3,4,5,6,7],[0,1,2,3,4,5,6,7,8]] (by kernel_rfl) (by kernel_rfl) (fun vs=>JO.start vs HO13.out (HKEEP.out _ HBW13.out).2 (fun i v w hi=>by match i,hi with | _+10,_=>trivial)) (fun vs=>?_);refine Zb rfl (fun S w9 hS hA hD hJ R hR=>?_) (fun K hK=>?_)
     · have hs9:=(HKEEP.out _ (HBW13.out.trans hJ.b)).2;have HZ9:=(HKEEP.out _ (HBW13.out.trans hJ.b)).1;have z0:=HZ9.i.x0;have z1:=HZ9.i.x1;go_simp;exact hR _ _ (hJ.step (ZaR _ _ _ _ _ _ _ _ _ _ _) (by decide) br_ rfl hs9)
     go_simp;refine hK _ ?_;clear hK K;refine Zb rfl (fun S w9 hS hA hD hJ R hR=>?_) (fun K hK=>?_)
     · have hs9:=(HKEEP.out _ (HBW13.out.trans hJ.b)).2;go_simp;exact hR _ _ (hJ.step (ZaR _ _ _ _ _ _ _ _ _ _ _) (by decide) br_ rfl hs9)
     go_simp;refine hK _ ?_;clear hK K;refine Zb rfl (fun S w9 hS hA hD hJ R hR=>?_) (fun K hK=>?_)
     · have hs9:=(HKEEP.out _ (HBW13.out.trans hJ.b)).2;go_simp;exact hR _ _ (hJ.step (ZaR _ _ _ _ _ _ _ _ _ _ _) (by decide) br_ rfl hs9)
     go_simp;refine hK _ ?_;clear hK K;refine Zb rfl (fun S w9 hS hA hD hJ R hR=>?_) (fun K hK=>?_)
     · have hs9:=(HKEEP.out _ (HBW13.out.trans hJ.b)).2;have HZ9:=(HKEEP.out _ (HBW13.out.trans hJ.b)).1;have z0:=HZ9.i.x0;have z1:=HZ9.i.x1;go_simp;exact hR _ _ (hJ.step (ZaR _ _ _ _ _ _ _ _ _ _ _) (by decide) br_ rfl hs9)
     go_simp;refine hK _ ?_;clear hK K;refine Zb rfl (fun S w9 hS hA hD hJ R hR=>?_) (fun K hK=>?_)
     · have hs9:=(HKEEP.out _ (HBW13.out.trans hJ.b)).2;go_simp;exact hR _ _ (hJ.step (ZaR _ _ _ _ _ _ _ _ _ _ _) (by decide) br_ rfl hs9)
     go_simp;refine hK _ ?_;clear hK K;refine Zb rfl (fun S w9 hS hA hD hJ R hR=>?_) (fun K hK=>?_)
     · have hs9:=(HKEEP.out _ (HBW13.out.trans hJ.b)).2;have HZ9:=(HKEEP.out _ (HBW13.out.trans hJ.b)).1;have k3:vs 3=_:=hJ.k 3 (hA 3 (by decide));have k4:vs 4=_:=hJ.k 4 (hA 4 (by decide));refine pc_ Zby (kc_ (HY1.out gx w9 HZ9) fun _ hb=>hR _ _ (hJ.step (ZaR _ _ _ _ _ _ _ _ _ _ _) (by decide) hb rfl hs9)) rfl ?_;simp [Act.eval,Act.put,k3,k4]
     go_simp;refine hK _ ?_;clear hK K;refine Zb rfl (fun S w9 hS hA hD hJ R hR=>?_) (fun K hK=>?_)
     · have hs9:=(HKEEP.out _ (HBW13.out.trans hJ.b)).2;have HZ9:=(HKEEP.out _ (HBW13.out.trans hJ.b)).1;have k2:vs 2=_:=hJ.k 2 (hA 2 (by decide));have k5:vs 5=_:=hJ.k 5 (hA 5 (by decide));have hsz9:=(HKEEP.out _ (HBW13.out.trans hJ.b)).2;obtain ⟨v8,w8,hrun,ho8,hb8⟩:=Zf6 (c:=c - p1) 26 (hJ.r hS) (HS1.out gx w9 HZ9) HL1.out (by have:=HBND.out;have:=HRL.out;have:=HRN.out;omega) hsz9;have hfin:=hR _ _ (hJ.app (hD 7 (by decide) (by decide)) (hD 8 (by decide) (by decide)) (hD 9 (by decide) (by decide)) hb8 ho8);exact Zay (.tmp 88) (.tmp 91) 26 (by rfl) _ _ (by simp [Act.eval,Act.put,k2]) (by simp [Act.eval,Act.put,k5]) hrun hfin
     go_simp;refine hK _ ?_;clear hK K;refine Zb rfl (fun S w9 hS hA hD hJ R hR=>?_) (fun K hK=>?_)
     · have hs9:=(HKEEP.out _ (HBW13.out.trans hJ.b)).2;have HZ9:=(HKEEP.out _ (HBW13.out.trans hJ.b)).1;have k0:vs 0=_:=hJ.k 0 (hA 0 (by decide));have k1:vs 1=_:=hJ.k 1 (hA 1 (by decide));have k6:w9.ownsRow B 49 6 (vs 6) _ (acs (([⟨2,0,0,0,0,3⟩]:List Ac)++Ze l (i+2)++Ze l p2++Ze l p1)):=hJ.k 6 (hA 6 (by decide));obtain ⟨oo,co,hoo⟩:=Zw k6;rw [hoo] at k6;refine pc_ Zbn (kd_ (HONE.out oo (nn+(endL l p1 - p1)) co (([⟨2,0,0,0,0,3⟩]:List Ac)++Ze l (i+2)++Ze l p2++Ze l p1) (by have h9:=k6.1;rw [Z5] at h9;omega) (by have:=HBND.out;have:=HRL.out;rw [List.length_append,HL1.out];omega) gx w9 HZ9 (Zaq (Zfc k6))) fun u _ e2 e3=>hR _ _ (hJ.step (ZaR _ _ _ _ _ _ _ _ _ _ _) (by decide) e3 e2 hs9)) rfl ?_;simp [Act.eval,Act.put,k0,k1,hoo]
     go_simp;refine hK _ ?_;clear hK K;refine Zb rfl (fun S w9 hS hA hD hJ R hR=>?_) (fun K hK=>?_)
     · have hs9:=(HKEEP.out _ (HBW13.out.trans hJ.b)).2;go_simp;exact hR _ _ (hJ.step (ZaR _ _ _ _ _ _ _ _ _ _ _) (by decide) br_ rfl hs9)
     go_simp;refine hK _ ?_;clear hK K;refine Zb rfl (fun S w9 hS hA hD hJ R hR=>?_) (fun K hK=>?_)
     · have hs9:=(HKEEP.out _ (HBW13.out.trans hJ.b)).2;have k7:w9.ownsRow gx0 49 6 (vs 7) _ (acs _):=hJ.k 7 (hA 7 (by decide));go_simp;exact hR _ _ (hJ.step (ZaR _ _ _ _ _ _ _ _ _ _ _) (by decide) br_ k7 hs9)
     go_simp;refine hK _ ?_;clear hK K;refine Zv (fun w7 hJ=>?_);have k8:vs 8=_:=hJ.k 8 rfl;have k9:w7.ownsRow gx0 49 6 (vs 9) _ (acs _):=hJ.k 9 rfl;have HJB:=Za hJ.b;have HK9r:=Za k9;clear hJ k9;simp only [k8];clear k8;go_wp2_with fail;go_ret2;have e:=HVU.out;simp [HK9.out,HX3.out] at e;rw [←e];exact ⟨_,rfl,by rw [HG.out];simpa using HK9r.out,(HKEEP.out _ (HBW13.out.trans HJB.out)).1.i.b⟩
   · have HKN9:=Za hk9;obtain ⟨KC,hKC⟩:∃v,(rowL l (i+1)).k=v:=⟨_,rfl⟩;rw [hKC] at qc0 hk hk9;have hkb20:(KC == 20)=false:=by simp [hk]
     have hkb29:(KC == 29)=false:=by simp [hk9]
     clear hKC hk hk9;go_upto_region 20 with fail
     cases e2 with
     | true =>
      go_upto_region 21 with (first | (go_at_call 89;with_reducible refine (HE2.out _ _ HI4.out).mono ?_;rintro en w6 ⟨rfl,hI6⟩;have HI6:=Za hI6;have x60:=hI6.i.x0;have x61:=hI6.i.x1;clear hI6));go_wp2_with (go_at_call 90;with_reducible refine (HN2.out _ _ HI6.out).mono ?_;rintro en w9 ⟨u9,rfl,ho9,hb9⟩;have HO9:=Za ho9;have HB9:=Za hb9;clear ho9 hb9);go_ret2;have e:=HVU.out;simp [HKN.out,HKN9.out,HX3.out,show (rowL l p2).n=0 by simpa using HE2B.out] at e;rw [←e];exact ⟨_,rfl,HO9.out,HB9.out⟩
     | false =>
      have HP2:=Za (show (rowL l p2).n≠0 by simpa using HE2B.out);go_upto_region 24 with (first | (go_at_call 89;with_reducible refine (HE2.out _ _ HI4.out).mono ?_;rintro en w6 ⟨rfl,hI6⟩;have HI6:=Za hI6;have x60:=hI6.i.x0;have x61:=hI6.i.x1;clear hI6));go_upto_region 25 with fail
      cases e1 with
      | true =>
       have HP1:=Za (show (rowL l p1).n=0 by simpa using HE1B.out);have hgr:=fun (z:Grown w6)=>HI6.out.below z.b
       have g0:=fun (z:Grown w6)=>(hgr z).i.x0
       have g1:=fun (z:Grown w6)=>(hgr z).i.x1
       have HF:=Za (fun (z:Grown w6)=>HF1.out gx z.v (hgr z));clear hgr;refine ZG br_ (by kernel_rfl) (by kernel_rfl) ?_
       repeat (go_big_quiet_step ((go_at_call 89;exact ZK (HF.out _))))
       refine wpQuiet_nil ?_;intro w10 hw10;obtain ⟨⟨w10,hb10⟩,rfl⟩:=hw10;have HGE:=Za (HI6.out.below hb10);clear g0 g1 hb10 HF;have HGEx:=Za HGE.out;skip;clear HGE;have x0:=HGEx.out.i.x0;have x1:=HGEx.out.i.x1;go_upto_region 28 with fail;have hkk:=(HB2.out.k HP2.out);have HKR:=Za hkk.1;have hw0:=hkk.1.lt;rw [HNN.out] at hw0;have hz1:(0:Int)≤(p2:Int)+1:=by omega
       have hz2:(p2:Int)+1<(N:Int):=by omega
       have hqk:=fun (z:Grown w10)=>(HQK2.out HKR.out z.v (HGEx.out.below z.b).i.b).1
       by_cases hk2:(rowL l (p2+1)).k=2
       · have HK2K:=Za hk2;have hin:=hkk.2 hk2;have HINQ:=Za hin;simp only [hk2] at hqk;obtain ⟨ts,hts⟩:∃t,decide (Ze l (p2+2)=Ze l (i+1))=t:=⟨_,rfl⟩;have HTS:=Za hts;clear hk2 hkk hin hts hw0;have hgr:=fun (z:Grown w10)=>HGEx.out.below z.b
         have g0:=fun (z:Grown w10)=>(hgr z).i.x0
         have g1:=fun (z:Grown w10)=>(hgr z).i.x1
         have hif:=HIF2.out ts HINQ.out.1 HTS.out gx;skip;have HALL:=Za (fun (z:Grown w10)=>(hif z.v (hgr z)).1);have HSAME:=Za (fun (z:Grown w10)=>(hif z.v (hgr z)).2);have HALC:=Za (fun (z:Grown w10)=>HYC.out gx z.v (hgr z));rw [show (((p2+2:Nat)):Int)=(p2:Int)+1+1 by omega] at HALL;rw [show (((i+1:Nat)):Int)=(i:Int)+1 by omega] at HALC;clear hif hgr;refine ZG br_ (by kernel_rfl) (by kernel_rfl) ?_
         repeat (go_big_quiet_step (first | (go_at_call 91;with_reducible exact ZK (HALL.out _)) | (go_at_call 91;with_reducible exact ZK (HALC.out _)) | (go_at_call 133;with_reducible exact ZK (HSAME.out _))))
         refine wpQuiet_nil ?_;intro w10 hw10;obtain ⟨⟨w10,hb10⟩,rfl⟩:=hw10;have HGE:=Za (HGEx.out.below hb10);clear g0 g1 hb10 hqk HALL HSAME HALC;have x100:=HGE.out.i.x0;have x101:=HGE.out.i.x1
         cases ts with
         | true =>
          have hqn:=(HQK2.out HKR.out w10 HGE.out.i.b).2.2.2.2.2
          by_cases hn2:(rowL l (p2+1)).n=3
          · have HN33:=Za hn2;rw [hn2] at hqn;clear hn2;go_upto_region 30 with fail;have hin1:=HINQ.out.2.2 HN33.out;have hin2:=HIN2.out _ 2 (by decide) rfl HKR.out HINQ.out.1 (fun _=>by rw [←HNN.out];exact HINQ.out.2.1.lt) hin1;have HKK:=Za hin2.1;rw [show ((2:Nat):Int)=2 from rfl] at HKK;have HAK:=Za hin2.2.1;have HOK:=Za hin2.2.2;rw [show (((p2+1:Nat)):Int)=(p2:Int)+1 by omega] at HKK HOK;clear hin1 hin2;refine Zl (JG w10 (KB gx0 (.agg #[.slice (some ad) N c,.slice (some ⟨ge,0,none⟩) N N]) (.int .i64 ((p2:Int)+1)) (.int .i64 ((kidL l (p2+1) 2:Nat):Int)) (.slice (some (ad.add ((kidL l (p2+1) 2)*6))) (endL l (kidL l (p2+1) 2) - (kidL l (p2+1) 2)) (c - (kidL l (p2+1) 2))) 13 (ZH l (p2+1) (Ze l (kidL l (p2+1) 2))))) [[],[],[],[],[],[3,4],[2,3,4,5],[0,1,2,3,4,5,6],[0,1,2,3,4,5,6,7],[0,1,2,3,4,5,6,7,8]] (by kernel_rfl) (by kernel_rfl) (fun vs=>JG.start vs (fun i v w hi=>by match i,hi with | _+10,_=>trivial)) (fun vs=>?_);refine Zb rfl (fun S w9 hS hA hD hJ R hR=>?_) (fun K hK=>?_)
            · have HZ9:=HGE.out.below hJ.b;have z0:=HZ9.i.x0;have z1:=HZ9.i.x1;go_simp;exact hR _ _ (hJ.step (Z4 _ _ _ _ _ _ _) br_ rfl)
            go_simp;refine hK _ ?_;clear hK K;refine Zb rfl (fun S w9 hS hA hD hJ R hR=>?_) (fun K hK=>?_)
            · go_simp;exact hR _ _ (hJ.step (Z4 _ _ _ _ _ _ _) br_ rfl)
            go_simp;refine hK _ ?_;clear hK K;refine Zb rfl (fun S w9 hS hA hD hJ R hR=>?_) (fun K hK=>?_)
            · have HZ9:=HGE.out.below hJ.b;have z0:=HZ9.i.x0;have z1:=HZ9.i.x1;go_simp;exact hR _ _ (hJ.step (Z4 _ _ _ _ _ _ _) br_ rfl)
            go_simp;refine hK _ ?_;clear hK K;refine Zb rfl (fun S w9 hS hA hD hJ R hR=>?_) (fun K hK=>?_)
            · have HZ9:=HGE.out.below hJ.b;have z0:=HZ9.i.x0;have z1:=HZ9.i.x1;go_simp;exact hR _ _ (hJ.step (Z4 _ _ _ _ _ _ _) br_ rfl)
            go_simp;refine hK _ ?_;clear hK K;refine Zb rfl (fun S w9 hS hA hD hJ R hR=>?_) (fun K hK=>?_)
            · go_simp;exact hR _ _ (hJ.step (Z4 _ _ _ _ _ _ _) br_ rfl)
            go_simp;refine hK _ ?_;clear hK K;refine Zb rfl (fun S w9 hS hA hD hJ R hR=>?_) (fun K hK=>?_)
            · have HZ9:=HGE.out.below hJ.b;have k3:vs 3=_:=hJ.k 3 (hA 3 (by decide));have k4:vs 4=_:=hJ.k 4 (hA 4 (by decide));refine pc_ Zhr (kc_ (HKK.out gx w9 HZ9) fun _ hb=>hR _ _ (hJ.step (Z4 _ _ _ _ _ _ _) hb rfl)) rfl ?_;simp [Act.eval,Act.put,k3,k4]
            go_simp;refine hK _ ?_;clear hK K;refine Zb rfl (fun S w9 hS hA hD hJ R hR=>?_) (fun K hK=>?_)
            · have HZ9:=HGE.out.below hJ.b;have k2:vs 2=_:=hJ.k 2 (hA 2 (by decide));have k5:vs 5=_:=hJ.k 5 (hA 5 (by decide));refine pc_ Zby (kc_ (HAK.out gx w9 HZ9) fun _ hb=>hR _ _ (hJ.step (Z4 _ _ _ _ _ _ _) hb rfl)) rfl ?_;simp [Act.eval,Act.put,k2,k5]
            go_simp;refine hK _ ?_;clear hK K;refine Zb rfl (fun S w9 hS hA hD hJ R hR=>?_) (fun K hK=>?_)
            · have HZ9:=HGE.out.below hJ.b;have k0:vs 0=_:=hJ.k 0 (hA 0 (by decide));have k1:vs 1=_:=hJ.k 1 (hA 1 (by decide));have k6:vs 6=_:=hJ.k 6 (hA 6 (by decide));refine pc_ Zbn (kd_ (HOK.out gx w9 HZ9) fun u _ e2 e3=>hR _ _ (hJ.step (Z4 _ _ _ _ _ _ _) e3 e2)) rfl ?_;simp [Act.eval,Act.put,k0,k1,k6]
            go_simp;refine hK _ ?_;clear hK K;refine Zb rfl (fun S w9 hS hA hD hJ R hR=>?_) (fun K hK=>?_)
            · go_simp;exact hR _ _ (hJ.step (Z4 _ _ _ _ _ _ _) br_ rfl)
            go_simp;refine hK _ ?_;clear hK K;refine Zb rfl (fun S w9 hS hA hD hJ R hR=>?_) (fun K hK=>?_)
            · have k7:w9.ownsRow gx0 49 6 (vs 7) _ (acs _):=hJ.k 7 (hA 7 (by decide));go_simp;exact hR _ _ (hJ.step (Z4 _ _ _ _ _ _ _) br_ k7)
            go_simp;refine hK _ ?_;clear hK K;refine Zv (fun w7 hJ=>?_);have k8:vs 8=_:=hJ.k 8 rfl;have k9:w7.ownsRow gx0 49 6 (vs 9) _ (acs _):=hJ.k 9 rfl;have HJB:=Za hJ.b;have HK9r:=Za k9;clear hJ k9;simp only [k8];clear k8;go_wp2_with fail;go_ret2;have e:=HVU.out;simp [HKN.out,HKN9.out,HX3.out,HP2.out,HP1.out,HK2K.out,show Ze l (p2+2)=Ze l (i+1) by simpa using HTS.out,HN33.out] at e;rw [←e];exact ⟨_,rfl,by rw [HG.out];exact HK9r.out,(HGE.out.below HJB.out).i.b⟩
          · have HN33:=Za hn2;obtain ⟨NK,hNK⟩:∃v,(rowL l (p2+1)).n=v:=⟨_,rfl⟩;rw [hNK] at hqn hn2;have hnkb:(NK == 3)=false:=by simp [hn2]
            clear hNK hn2;have HNQ:=Za (HNK2.out HKR.out);rw [show (((p2+1:Nat)):Int)=(p2:Int)+1 by omega] at HNQ;go_wp2_with (go_at_call 90;with_reducible refine (HNQ.out _ _ HGE.out).mono ?_;rintro en w9 ⟨u9,rfl,ho9,hb9⟩;have HO9:=Za ho9;have HB9:=Za hb9;clear ho9 hb9);go_ret2;have e:=HVU.out;simp [HKN.out,HKN9.out,HX3.out,HP2.out,HP1.out,HK2K.out,show Ze l (p2+2)=Ze l (i+1) by simpa using HTS.out,HN33.out] at e;rw [←e];exact ⟨_,rfl,HO9.out,HB9.out⟩
         | false =>
          go_wp2_with fail;go_ret2;have e:=HVU.out;simp [HKN.out,HKN9.out,HX3.out,HP2.out,HP1.out,HK2K.out,show Ze l (p2+2)≠Ze l (i+1) by simpa using HTS.out] at e;rw [←e];exact ⟨rfl,HGE.out.i.b⟩
       · have HK2N:=Za hk2;obtain ⟨KK,hKK⟩:∃v,(rowL l (p2+1)).k=v:=⟨_,rfl⟩;simp only [hKK] at hqk;rw [hKK] at hk2;have hkkb:(KK == 2)=false:=by simp [hk2]
         clear hKK hk2 hkk hw0;have hgr:=fun (z:Grown w10)=>HGEx.out.below z.b
         have g0:=fun (z:Grown w10)=>(hgr z).i.x0
         have g1:=fun (z:Grown w10)=>(hgr z).i.x1
         clear hgr;refine ZG br_ (by kernel_rfl) (by kernel_rfl) ?_
         repeat (go_big_quiet_step (fail))
         refine wpQuiet_nil ?_;intro w10 hw10;obtain ⟨⟨w10,hb10⟩,rfl⟩:=hw10;have HGE:=Za (HGEx.out.below hb10);clear g0 g1 hb10 hqk;go_wp2_with fail;go_ret2;have e:=HVU.out;simp [HKN.out,HKN9.out,HX3.out,HP2.out,HP1.out,HK2N.out] at e;rw [←e];exact ⟨rfl,HGE.out.i.b⟩
      | false =>
       have HP1:=Za (show (rowL l p1).n≠0 by simpa using HE1B.out);have hkk:=(HB1.out.k HP1.out);have HKR:=Za hkk.1;have hw0:=hkk.1.lt;rw [HNN.out] at hw0;have hz1:(0:Int)≤(p1:Int)+1:=by omega
       have hz2:(p1:Int)+1<(N:Int):=by omega
       have hqk:=fun (z:Grown w6)=>(HQK1.out HKR.out z.v (HI6.out.below z.b).i.b).1
       by_cases hk2:(rowL l (p1+1)).k=2
       · have HK2K:=Za hk2;have hin:=hkk.2 hk2;have HINQ:=Za hin;simp only [hk2] at hqk;obtain ⟨ts,hts⟩:∃t,decide (Ze l (p1+2)=Ze l (i+1))=t:=⟨_,rfl⟩;have HTS:=Za hts;clear hk2 hkk hin hts hw0;have hgr:=fun (z:Grown w6)=>HI6.out.below z.b
         have g0:=fun (z:Grown w6)=>(hgr z).i.x0
         have g1:=fun (z:Grown w6)=>(hgr z).i.x1
         have HF:=Za (fun (z:Grown w6)=>HF1.out gx z.v (hgr z));have hif:=HIF1.out ts HINQ.out.1 HTS.out gx;skip;have HALL:=Za (fun (z:Grown w6)=>(hif z.v (hgr z)).1);have HSAME:=Za (fun (z:Grown w6)=>(hif z.v (hgr z)).2);have HALC:=Za (fun (z:Grown w6)=>HYC.out gx z.v (hgr z));rw [show (((p1+2:Nat)):Int)=(p1:Int)+1+1 by omega] at HALL;rw [show (((i+1:Nat)):Int)=(i:Int)+1 by omega] at HALC;clear hif hgr;refine ZG br_ (by kernel_rfl) (by kernel_rfl) ?_
         repeat (go_big_quiet_step (first | (go_at_call 89;exact ZK (HF.out _)) | (go_at_call 91;with_reducible exact ZK (HALL.out _)) | (go_at_call 91;with_reducible exact ZK (HALC.out _)) | (go_at_call 133;with_reducible exact ZK (HSAME.out _))))
         refine wpQuiet_nil ?_;intro w10 hw10;obtain ⟨⟨w10,hb10⟩,rfl⟩:=hw10;have HGE:=Za (HI6.out.below hb10);clear g0 g1 hb10 hqk HALL HSAME HALC HF;have x100:=HGE.out.i.x0;have x101:=HGE.out.i.x1
         cases ts with
         | true =>
          go_upto_region 26 with fail;have hin1:=HIN1.out _ 1 (by decide) rfl HKR.out HINQ.out.1 (fun q=>absurd q (by decide)) HINQ.out.2.1;have HKK:=Za hin1.1;rw [show ((1:Nat):Int)=1 from rfl] at HKK;have HAK:=Za hin1.2.1;have HOK:=Za hin1.2.2;rw [show (((p1+1:Nat)):Int)=(p1:Int)+1 by omega] at HKK HOK;clear hin1;refine Zl (JG w10 (KB gx0 (.agg #[.slice (some ad) N c,.slice (some ⟨ge,0,none⟩) N N]) (.int .i64 ((p1:Int)+1)) (.int .i64 ((kidL l (p1+1) 1:Nat):Int)) (.slice (some (ad.add ((kidL l (p1+1) 1)*6))) (endL l (kidL l (p1+1) 1) - (kidL l (p1+1) 1)) (c - (kidL l (p1+1) 1))) 12 (ZH l (p1+1) (Ze l (kidL l (p1+1) 1))))) [[],[],[],[],[],[3,4],[2,3,4,5],[0,1,2,3,4,5,6],[0,1,2,3,4,5,6,7],[0,1,2,3,4,5,6,7,8]] (by kernel_rfl) (by kernel_rfl) (fun vs=>JG.start vs (fun i v w hi=>by match i,hi with | _+10,_=>trivial)) (fun vs=>?_);refine Zb rfl (fun S w9 hS hA hD hJ R hR=>?_) (fun K hK=>?_)
          · have HZ9:=HGE.out.below hJ.b;have z0:=HZ9.i.x0;have z1:=HZ9.i.x1;go_simp;exact hR _ _ (hJ.step (Z4 _ _ _ _ _ _ _) br_ rfl)
          go_simp;refine hK _ ?_;clear hK K;refine Zb rfl (fun S w9 hS hA hD hJ R hR=>?_) (fun K hK=>?_)
          · go_simp;exact hR _ _ (hJ.step (Z4 _ _ _ _ _ _ _) br_ rfl)
          go_simp;refine hK _ ?_;clear hK K;refine Zb rfl (fun S w9 hS hA hD hJ R hR=>?_) (fun K hK=>?_)
          · have HZ9:=HGE.out.below hJ.b;have z0:=HZ9.i.x0;have z1:=HZ9.i.x1;go_simp;exact hR _ _ (hJ.step (Z4 _ _ _ _ _ _ _) br_ rfl)
          go_simp;refine hK _ ?_;clear hK K;refine Zb rfl (fun S w9 hS hA hD hJ R hR=>?_) (fun K hK=>?_)
          · have HZ9:=HGE.out.below hJ.b;have z0:=HZ9.i.x0;have z1:=HZ9.i.x1;go_simp;exact hR _ _ (hJ.step (Z4 _ _ _ _ _ _ _) br_ rfl)
          go_simp;refine hK _ ?_;clear hK K;refine Zb rfl (fun S w9 hS hA hD hJ R hR=>?_) (fun K hK=>?_)
          · go_simp;exact hR _ _ (hJ.step (Z4 _ _ _ _ _ _ _) br_ rfl)
          go_simp;refine hK _ ?_;clear hK K;refine Zb rfl (fun S w9 hS hA hD hJ R hR=>?_) (fun K hK=>?_)
          · have HZ9:=HGE.out.below hJ.b;have k3:vs 3=_:=hJ.k 3 (hA 3 (by decide));have k4:vs 4=_:=hJ.k 4 (hA 4 (by decide));refine pc_ Zhr (kc_ (HKK.out gx w9 HZ9) fun _ hb=>hR _ _ (hJ.step (Z4 _ _ _ _ _ _ _) hb rfl)) rfl ?_;simp [Act.eval,Act.put,k3,k4]
          go_simp;refine hK _ ?_;clear hK K;refine Zb rfl (fun S w9 hS hA hD hJ R hR=>?_) (fun K hK=>?_)
          · have HZ9:=HGE.out.below hJ.b;have k2:vs 2=_:=hJ.k 2 (hA 2 (by decide));have k5:vs 5=_:=hJ.k 5 (hA 5 (by decide));refine pc_ Zby (kc_ (HAK.out gx w9 HZ9) fun _ hb=>hR _ _ (hJ.step (Z4 _ _ _ _ _ _ _) hb rfl)) rfl ?_;simp [Act.eval,Act.put,k2,k5]
          go_simp;refine hK _ ?_;clear hK K;refine Zb rfl (fun S w9 hS hA hD hJ R hR=>?_) (fun K hK=>?_)
          · have HZ9:=HGE.out.below hJ.b;have k0:vs 0=_:=hJ.k 0 (hA 0 (by decide));have k1:vs 1=_:=hJ.k 1 (hA 1 (by decide));have k6:vs 6=_:=hJ.k 6 (hA 6 (by decide));refine pc_ Zbn (kd_ (HOK.out gx w9 HZ9) fun u _ e2 e3=>hR _ _ (hJ.step (Z4 _ _ _ _ _ _ _) e3 e2)) rfl ?_;simp [Act.eval,Act.put,k0,k1,k6]
          go_simp;refine hK _ ?_;clear hK K;refine Zb rfl (fun S w9 hS hA hD hJ R hR=>?_) (fun K hK=>?_)
          · go_simp;exact hR _ _ (hJ.step (Z4 _ _ _ _ _ _ _) br_ rfl)
          go_simp;refine hK _ ?_;clear hK K;refine Zb rfl (fun S w9 hS hA hD hJ R hR=>?_) (fun K hK=>?_)
          · have k7:w9.ownsRow gx0 49 6 (vs 7) _ (acs _):=hJ.k 7 (hA 7 (by decide));go_simp;exact hR _ _ (hJ.step (Z4 _ _ _ _ _ _ _) br_ k7)
          go_simp;refine hK _ ?_;clear hK K;refine Zv (fun w7 hJ=>?_);have k8:vs 8=_:=hJ.k 8 rfl;have k9:w7.ownsRow gx0 49 6 (vs 9) _ (acs _):=hJ.k 9 rfl;have HJB:=Za hJ.b;have HK9r:=Za k9;clear hJ k9;simp only [k8];clear k8;go_wp2_with fail;go_ret2;have e:=HVU.out;simp [HKN.out,HKN9.out,HX3.out,HP2.out,HP1.out,HK2K.out,show Ze l (p1+2)=Ze l (i+1) by simpa using HTS.out] at e;rw [←e];exact ⟨_,rfl,by rw [HG.out];exact HK9r.out,(HGE.out.below HJB.out).i.b⟩
         | false =>
          clear hz1 hz2;have HK2Kx:=Za HK2K.out;have HTSx:=Za HTS.out;clear HK2K HTS HINQ HKR;have HGEx:=Za HGE.out;skip;clear HGE x100 x101;have x0:=HGEx.out.i.x0;have x1:=HGEx.out.i.x1;go_upto_region 28 with fail;have hkk:=(HB2.out.k HP2.out);have HKR:=Za hkk.1;have hw0:=hkk.1.lt;rw [HNN.out] at hw0;have hz1:(0:Int)≤(p2:Int)+1:=by omega
          have hz2:(p2:Int)+1<(N:Int):=by omega
          have hqk:=fun (z:Grown w10)=>(HQK2.out HKR.out z.v (HGEx.out.below z.b).i.b).1
          by_cases hk2:(rowL l (p2+1)).k=2
          · have HK2K:=Za hk2;have hin:=hkk.2 hk2;have HINQ:=Za hin;simp only [hk2] at hqk;obtain ⟨ts,hts⟩:∃t,decide (Ze l (p2+2)=Ze l (i+1))=t:=⟨_,rfl⟩;have HTS:=Za hts;clear hk2 hkk hin hts hw0;have hgr:=fun (z:Grown w10)=>HGEx.out.below z.b
            have g0:=fun (z:Grown w10)=>(hgr z).i.x0
            have g1:=fun (z:Grown w10)=>(hgr z).i.x1
            have hif:=HIF2.out ts HINQ.out.1 HTS.out gx;skip;have HALL:=Za (fun (z:Grown w10)=>(hif z.v (hgr z)).1);have HSAME:=Za (fun (z:Grown w10)=>(hif z.v (hgr z)).2);have HALC:=Za (fun (z:Grown w10)=>HYC.out gx z.v (hgr z));rw [show (((p2+2:Nat)):Int)=(p2:Int)+1+1 by omega] at HALL;rw [show (((i+1:Nat)):Int)=(i:Int)+1 by omega] at HALC;clear hif hgr;refine ZG br_ (by kernel_rfl) (by kernel_rfl) ?_
            repeat (go_big_quiet_step (first | (go_at_call 91;with_reducible exact ZK (HALL.out _)) | (go_at_call 91;with_reducible exact ZK (HALC.out _)) | (go_at_call 133;with_reducible exact ZK (HSAME.out _))))
            refine wpQuiet_nil ?_;intro w10 hw10;obtain ⟨⟨w10,hb10⟩,rfl⟩:=hw10;have HGE:=Za (HGEx.out.below hb10);clear g0 g1 hb10 hqk HALL HSAME HALC;have x100:=HGE.out.i.x0;have x101:=HGE.out.i.x1
            cases ts with
            | true =>
             have hqn:=(HQK2.out HKR.out w10 HGE.out.i.b).2.2.2.2.2
             by_cases hn2:(rowL l (p2+1)).n=3
             · have HN33:=Za hn2;rw [hn2] at hqn;clear hn2;go_upto_region 30 with fail;have hin1:=HINQ.out.2.2 HN33.out;have hin2:=HIN2.out _ 2 (by decide) rfl HKR.out HINQ.out.1 (fun _=>by rw [←HNN.out];exact HINQ.out.2.1.lt) hin1;have HKK:=Za hin2.1;rw [show ((2:Nat):Int)=2 from rfl] at HKK;have HAK:=Za hin2.2.1;have HOK:=Za hin2.2.2;rw [show (((p2+1:Nat)):Int)=(p2:Int)+1 by omega] at HKK HOK;clear hin1 hin2;refine Zl (JG w10 (KB gx0 (.agg #[.slice (some ad) N c,.slice (some ⟨ge,0,none⟩) N N]) (.int .i64 ((p2:Int)+1)) (.int .i64 ((kidL l (p2+1) 2:Nat):Int)) (.slice (some (ad.add ((kidL l (p2+1) 2)*6))) (endL l (kidL l (p2+1) 2) - (kidL l (p2+1) 2)) (c - (kidL l (p2+1) 2))) 13 (ZH l (p2+1) (Ze l (kidL l (p2+1) 2))))) [[],[],[],[],[],[3,4],[2,3,4,5],[0,1,2,3,4,5,6],[0,1,2,3,4,5,6,7],[0,1,2,3,4,5,6,7,8]] (by kernel_rfl) (by kernel_rfl) (fun vs=>JG.start vs (fun i v w hi=>by match i,hi with | _+10,_=>trivial)) (fun vs=>?_);refine Zb rfl (fun S w9 hS hA hD hJ R hR=>?_) (fun K hK=>?_)
               · have HZ9:=HGE.out.below hJ.b;have z0:=HZ9.i.x0;have z1:=HZ9.i.x1;go_simp;exact hR _ _ (hJ.step (Z4 _ _ _ _ _ _ _) br_ rfl)
               go_simp;refine hK _ ?_;clear hK K;refine Zb rfl (fun S w9 hS hA hD hJ R hR=>?_) (fun K hK=>?_)
               · go_simp;exact hR _ _ (hJ.step (Z4 _ _ _ _ _ _ _) br_ rfl)
               go_simp;refine hK _ ?_;clear hK K;refine Zb rfl (fun S w9 hS hA hD hJ R hR=>?_) (fun K hK=>?_)
               · have HZ9:=HGE.out.below hJ.b;have z0:=HZ9.i.x0;have z1:=HZ9.i.x1;go_simp;exact hR _ _ (hJ.step (Z4 _ _ _ _ _ _ _) br_ rfl)
               go_simp;refine hK _ ?_;clear hK K;refine Zb rfl (fun S w9 hS hA hD hJ R hR=>?_) (fun K hK=>?_)
               · have HZ9:=HGE.out.below hJ.b;have z0:=HZ9.i.x0;have z1:=HZ9.i.x1;go_simp;exact hR _ _ (hJ.step (Z4 _ _ _ _ _ _ _) br_ rfl)
               go_simp;refine hK _ ?_;clear hK K;refine Zb rfl (fun S w9 hS hA hD hJ R hR=>?_) (fun K hK=>?_)
               · go_simp;exact hR _ _ (hJ.step (Z4 _ _ _ _ _ _ _) br_ rfl)
               go_simp;refine hK _ ?_;clear hK K;refine Zb rfl (fun S w9 hS hA hD hJ R hR=>?_) (fun K hK=>?_)
               · have HZ9:=HGE.out.below hJ.b;have k3:vs 3=_:=hJ.k 3 (hA 3 (by decide));have k4:vs 4=_:=hJ.k 4 (hA 4 (by decide));refine pc_ Zhr (kc_ (HKK.out gx w9 HZ9) fun _ hb=>hR _ _ (hJ.step (Z4 _ _ _ _ _ _ _) hb rfl)) rfl ?_;simp [Act.eval,Act.put,k3,k4]
               go_simp;refine hK _ ?_;clear hK K;refine Zb rfl (fun S w9 hS hA hD hJ R hR=>?_) (fun K hK=>?_)
               · have HZ9:=HGE.out.below hJ.b;have k2:vs 2=_:=hJ.k 2 (hA 2 (by decide));have k5:vs 5=_:=hJ.k 5 (hA 5 (by decide));refine pc_ Zby (kc_ (HAK.out gx w9 HZ9) fun _ hb=>hR _ _ (hJ.step (Z4 _ _ _ _ _ _ _) hb rfl)) rfl ?_;simp [Act.eval,Act.put,k2,k5]
               go_simp;refine hK _ ?_;clear hK K;refine Zb rfl (fun S w9 hS hA hD hJ R hR=>?_) (fun K hK=>?_)
               · have HZ9:=HGE.out.below hJ.b;have k0:vs 0=_:=hJ.k 0 (hA 0 (by decide));have k1:vs 1=_:=hJ.k 1 (hA 1 (by decide));have k6:vs 6=_:=hJ.k 6 (hA 6 (by decide));refine pc_ Zbn (kd_ (HOK.out gx w9 HZ9) fun u _ e2 e3=>hR _ _ (hJ.step (Z4 _ _ _ _ _ _ _) e3 e2)) rfl ?_;simp [Act.eval,Act.put,k0,k1,k6]
               go_simp;refine hK _ ?_;clear hK K;refine Zb rfl (fun S w9 hS hA hD hJ R hR=>?_) (fun K hK=>?_)
               · go_simp;exact hR _ _ (hJ.step (Z4 _ _ _ _ _ _ _) br_ rfl)
               go_simp;refine hK _ ?_;clear hK K;refine Zb rfl (fun S w9 hS hA hD hJ R hR=>?_) (fun K hK=>?_)
               · have k7:w9.ownsRow gx0 49 6 (vs 7) _ (acs _):=hJ.k 7 (hA 7 (by decide));go_simp;exact hR _ _ (hJ.step (Z4 _ _ _ _ _ _ _) br_ k7)
               go_simp;refine hK _ ?_;clear hK K;refine Zv (fun w7 hJ=>?_);have k8:vs 8=_:=hJ.k 8 rfl;have k9:w7.ownsRow gx0 49 6 (vs 9) _ (acs _):=hJ.k 9 rfl;have HJB:=Za hJ.b;have HK9r:=Za k9;clear hJ k9;simp only [k8];clear k8;go_wp2_with fail;go_ret2;have e:=HVU.out;simp [HKN.out,HKN9.out,HX3.out,HP2.out,HP1.out,HK2Kx.out,show Ze l (p1+2)≠Ze l (i+1) by simpa using HTSx.out,HK2K.out,show Ze l (p2+2)=Ze l (i+1) by simpa using HTS.out,HN33.out] at e;rw [←e];exact ⟨_,rfl,by rw [HG.out];exact HK9r.out,(HGE.out.below HJB.out).i.b⟩
             · have HN33:=Za hn2;obtain ⟨NK,hNK⟩:∃v,(rowL l (p2+1)).n=v:=⟨_,rfl⟩;rw [hNK] at hqn hn2;have hnkb:(NK == 3)=false:=by simp [hn2]
               clear hNK hn2;have HNQ:=Za (HNK2.out HKR.out);rw [show (((p2+1:Nat)):Int)=(p2:Int)+1 by omega] at HNQ;go_wp2_with (go_at_call 90;with_reducible refine (HNQ.out _ _ HGE.out).mono ?_;rintro en w9 ⟨u9,rfl,ho9,hb9⟩;have HO9:=Za ho9;have HB9:=Za hb9;clear ho9 hb9);go_ret2;have e:=HVU.out;simp [HKN.out,HKN9.out,HX3.out,HP2.out,HP1.out,HK2Kx.out,show Ze l (p1+2)≠Ze l (i+1) by simpa using HTSx.out,HK2K.out,show Ze l (p2+2)=Ze l (i+1) by simpa using HTS.out,HN33.out] at e;rw [←e];exact ⟨_,rfl,HO9.out,HB9.out⟩
            | false =>
             go_wp2_with fail;go_ret2;have e:=HVU.out;simp [HKN.out,HKN9.out,HX3.out,HP2.out,HP1.out,HK2Kx.out,show Ze l (p1+2)≠Ze l (i+1) by simpa using HTSx.out,HK2K.out,show Ze l (p2+2)≠Ze l (i+1) by simpa using HTS.out] at e;rw [←e];exact ⟨rfl,HGE.out.i.b⟩
          · have HK2N:=Za hk2;obtain ⟨KK,hKK⟩:∃v,(rowL l (p2+1)).k=v:=⟨_,rfl⟩;simp only [hKK] at hqk;rw [hKK] at hk2;have hkkb:(KK == 2)=false:=by simp [hk2]
            clear hKK hk2 hkk hw0;have hgr:=fun (z:Grown w10)=>HGEx.out.below z.b
            have g0:=fun (z:Grown w10)=>(hgr z).i.x0
            have g1:=fun (z:Grown w10)=>(hgr z).i.x1
            clear hgr;refine ZG br_ (by kernel_rfl) (by kernel_rfl) ?_
            repeat (go_big_quiet_step (fail))
            refine wpQuiet_nil ?_;intro w10 hw10;obtain ⟨⟨w10,hb10⟩,rfl⟩:=hw10;have HGE:=Za (HGEx.out.below hb10);clear g0 g1 hb10 hqk;go_wp2_with fail;go_ret2;have e:=HVU.out;simp [HKN.out,HKN9.out,HX3.out,HP2.out,HP1.out,HK2Kx.out,show Ze l (p1+2)≠Ze l (i+1) by simpa using HTSx.out,HK2N.out] at e;rw [←e];exact ⟨rfl,HGE.out.i.b⟩
       · have HK2N:=Za hk2;obtain ⟨KK,hKK⟩:∃v,(rowL l (p1+1)).k=v:=⟨_,rfl⟩;simp only [hKK] at hqk;rw [hKK] at hk2;have hkkb:(KK == 2)=false:=by simp [hk2]
         clear hKK hk2 hkk hw0;have hgr:=fun (z:Grown w6)=>HI6.out.below z.b
         have g0:=fun (z:Grown w6)=>(hgr z).i.x0
         have g1:=fun (z:Grown w6)=>(hgr z).i.x1
         have HF:=Za (fun (z:Grown w6)=>HF1.out gx z.v (hgr z));clear hgr;refine ZG br_ (by kernel_rfl) (by kernel_rfl) ?_
         repeat (go_big_quiet_step ((go_at_call 89;exact ZK (HF.out _))))
         refine wpQuiet_nil ?_;intro w10 hw10;obtain ⟨⟨w10,hb10⟩,rfl⟩:=hw10;have HGE:=Za (HI6.out.below hb10);clear g0 g1 hb10 hqk HF;clear hz1 hz2;have HK2Nx:=Za HK2N.out;clear HK2N HKR;have HGEx:=Za HGE.out;skip;clear HGE;have x0:=HGEx.out.i.x0;have x1:=HGEx.out.i.x1;go_upto_region 28 with fail;have hkk:=(HB2.out.k HP2.out);have HKR:=Za hkk.1;have hw0:=hkk.1.lt;rw [HNN.out] at hw0;have hz1:(0:Int)≤(p2:Int)+1:=by omega
         have hz2:(p2:Int)+1<(N:Int):=by omega
         have hqk:=fun (z:Grown w10)=>(HQK2.out HKR.out z.v (HGEx.out.below z.b).i.b).1
         by_cases hk2:(rowL l (p2+1)).k=2
         · have HK2K:=Za hk2;have hin:=hkk.2 hk2;have HINQ:=Za hin;simp only [hk2] at hqk;obtain ⟨ts,hts⟩:∃t,decide (Ze l (p2+2)=Ze l (i+1))=t:=⟨_,rfl⟩;have HTS:=Za hts;clear hk2 hkk hin hts hw0;have hgr:=fun (z:Grown w10)=>HGEx.out.below z.b
           have g0:=fun (z:Grown w10)=>(hgr z).i.x0
           have g1:=fun (z:Grown w10)=>(hgr z).i.x1
           have hif:=HIF2.out ts HINQ.out.1 HTS.out gx;skip;have HALL:=Za (fun (z:Grown w10)=>(hif z.v (hgr z)).1);have HSAME:=Za (fun (z:Grown w10)=>(hif z.v (hgr z)).2);have HALC:=Za (fun (z:Grown w10)=>HYC.out gx z.v (hgr z));rw [show (((p2+2:Nat)):Int)=(p2:Int)+1+1 by omega] at HALL;rw [show (((i+1:Nat)):Int)=(i:Int)+1 by omega] at HALC;clear hif hgr;refine ZG br_ (by kernel_rfl) (by kernel_rfl) ?_
           repeat (go_big_quiet_step (first | (go_at_call 91;with_reducible exact ZK (HALL.out _)) | (go_at_call 91;with_reducible exact ZK (HALC.out _)) | (go_at_call 133;with_reducible exact ZK (HSAME.out _))))
           refine wpQuiet_nil ?_;intro w10 hw10;obtain ⟨⟨w10,hb10⟩,rfl⟩:=hw10;have HGE:=Za (HGEx.out.below hb10);clear g0 g1 hb10 hqk HALL HSAME HALC;have x100:=HGE.out.i.x0;have x101:=HGE.out.i.x1
           cases ts with
           | true =>
            have hqn:=(HQK2.out HKR.out w10 HGE.out.i.b).2.2.2.2.2
            by_cases hn2:(rowL l (p2+1)).n=3
            · have HN33:=Za hn2;rw [hn2] at hqn;clear hn2;go_upto_region 30 with fail;have hin1:=HINQ.out.2.2 HN33.out;have hin2:=HIN2.out _ 2 (by decide) rfl HKR.out HINQ.out.1 (fun _=>by rw [←HNN.out];exact HINQ.out.2.1.lt) hin1;have HKK:=Za hin2.1;rw [show ((2:Nat):Int)=2 from rfl] at HKK;have HAK:=Za hin2.2.1;have HOK:=Za hin2.2.2;rw [show (((p2+1:Nat)):Int)=(p2:Int)+1 by omega] at HKK HOK;clear hin1 hin2;refine Zl (JG w10 (KB gx0 (.agg #[.slice (some ad) N c,.slice (some ⟨ge,0,none⟩) N N]) (.int .i64 ((p2:Int)+1)) (.int .i64 ((kidL l (p2+1) 2:Nat):Int)) (.slice (some (ad.add ((kidL l (p2+1) 2)*6))) (endL l (kidL l (p2+1) 2) - (kidL l (p2+1) 2)) (c - (kidL l (p2+1) 2))) 13 (ZH l (p2+1) (Ze l (kidL l (p2+1) 2))))) [[],[],[],[],[],[3,4],[2,3,4,5],[0,1,2,3,4,5,6],[0,1,2,3,4,5,6,7],[0,1,2,3,4,5,6,7,8]] (by kernel_rfl) (by kernel_rfl) (fun vs=>JG.start vs (fun i v w hi=>by match i,hi with | _+10,_=>trivial)) (fun vs=>?_);refine Zb rfl (fun S w9 hS hA hD hJ R hR=>?_) (fun K hK=>?_)
              · have HZ9:=HGE.out.below hJ.b;have z0:=HZ9.i.x0;have z1:=HZ9.i.x1;go_simp;exact hR _ _ (hJ.step (Z4 _ _ _ _ _ _ _) br_ rfl)
              go_simp;refine hK _ ?_;clear hK K;refine Zb rfl (fun S w9 hS hA hD hJ R hR=>?_) (fun K hK=>?_)
              · go_simp;exact hR _ _ (hJ.step (Z4 _ _ _ _ _ _ _) br_ rfl)
              go_simp;refine hK _ ?_;clear hK K;refine Zb rfl (fun S w9 hS hA hD hJ R hR=>?_) (fun K hK=>?_)
              · have HZ9:=HGE.out.below hJ.b;have z0:=HZ9.i.x0;have z1:=HZ9.i.x1;go_simp;exact hR _ _ (hJ.step (Z4 _ _ _ _ _ _ _) br_ rfl)
              go_simp;refine hK _ ?_;clear hK K;refine Zb rfl (fun S w9 hS hA hD hJ R hR=>?_) (fun K hK=>?_)
              · have HZ9:=HGE.out.below hJ.b;have z0:=HZ9.i.x0;have z1:=HZ9.i.x1;go_simp;exact hR _ _ (hJ.step (Z4 _ _ _ _ _ _ _) br_ rfl)
              go_simp;refine hK _ ?_;clear hK K;refine Zb rfl (fun S w9 hS hA hD hJ R hR=>?_) (fun K hK=>?_)
              · go_simp;exact hR _ _ (hJ.step (Z4 _ _ _ _ _ _ _) br_ rfl)
              go_simp;refine hK _ ?_;clear hK K;refine Zb rfl (fun S w9 hS hA hD hJ R hR=>?_) (fun K hK=>?_)
              · have HZ9:=HGE.out.below hJ.b;have k3:vs 3=_:=hJ.k 3 (hA 3 (by decide));have k4:vs 4=_:=hJ.k 4 (hA 4 (by decide));refine pc_ Zhr (kc_ (HKK.out gx w9 HZ9) fun _ hb=>hR _ _ (hJ.step (Z4 _ _ _ _ _ _ _) hb rfl)) rfl ?_;simp [Act.eval,Act.put,k3,k4]
              go_simp;refine hK _ ?_;clear hK K;refine Zb rfl (fun S w9 hS hA hD hJ R hR=>?_) (fun K hK=>?_)
              · have HZ9:=HGE.out.below hJ.b;have k2:vs 2=_:=hJ.k 2 (hA 2 (by decide));have k5:vs 5=_:=hJ.k 5 (hA 5 (by decide));refine pc_ Zby (kc_ (HAK.out gx w9 HZ9) fun _ hb=>hR _ _ (hJ.step (Z4 _ _ _ _ _ _ _) hb rfl)) rfl ?_;simp [Act.eval,Act.put,k2,k5]
              go_simp;refine hK _ ?_;clear hK K;refine Zb rfl (fun S w9 hS hA hD hJ R hR=>?_) (fun K hK=>?_)
              · have HZ9:=HGE.out.below hJ.b;have k0:vs 0=_:=hJ.k 0 (hA 0 (by decide));have k1:vs 1=_:=hJ.k 1 (hA 1 (by decide));have k6:vs 6=_:=hJ.k 6 (hA 6 (by decide));refine pc_ Zbn (kd_ (HOK.out gx w9 HZ9) fun u _ e2 e3=>hR _ _ (hJ.step (Z4 _ _ _ _ _ _ _) e3 e2)) rfl ?_;simp [Act.eval,Act.put,k0,k1,k6]
              go_simp;refine hK _ ?_;clear hK K;refine Zb rfl (fun S w9 hS hA hD hJ R hR=>?_) (fun K hK=>?_)
              · go_simp;exact hR _ _ (hJ.step (Z4 _ _ _ _ _ _ _) br_ rfl)
              go_simp;refine hK _ ?_;clear hK K;refine Zb rfl (fun S w9 hS hA hD hJ R hR=>?_) (fun K hK=>?_)
              · have k7:w9.ownsRow gx0 49 6 (vs 7) _ (acs _):=hJ.k 7 (hA 7 (by decide));go_simp;exact hR _ _ (hJ.step (Z4 _ _ _ _ _ _ _) br_ k7)
              go_simp;refine hK _ ?_;clear hK K;refine Zv (fun w7 hJ=>?_);have k8:vs 8=_:=hJ.k 8 rfl;have k9:w7.ownsRow gx0 49 6 (vs 9) _ (acs _):=hJ.k 9 rfl;have HJB:=Za hJ.b;have HK9r:=Za k9;clear hJ k9;simp only [k8];clear k8;go_wp2_with fail;go_ret2;have e:=HVU.out;simp [HKN.out,HKN9.out,HX3.out,HP2.out,HP1.out,HK2Nx.out,HK2K.out,show Ze l (p2+2)=Ze l (i+1) by simpa using HTS.out,HN33.out] at e;rw [←e];exact ⟨_,rfl,by rw [HG.out];exact HK9r.out,(HGE.out.below HJB.out).i.b⟩
            · have HN33:=Za hn2;obtain ⟨NK,hNK⟩:∃v,(rowL l (p2+1)).n=v:=⟨_,rfl⟩;rw [hNK] at hqn hn2;have hnkb:(NK == 3)=false:=by simp [hn2]
              clear hNK hn2;have HNQ:=Za (HNK2.out HKR.out);rw [show (((p2+1:Nat)):Int)=(p2:Int)+1 by omega] at HNQ;go_wp2_with (go_at_call 90;with_reducible refine (HNQ.out _ _ HGE.out).mono ?_;rintro en w9 ⟨u9,rfl,ho9,hb9⟩;have HO9:=Za ho9;have HB9:=Za hb9;clear ho9 hb9);go_ret2;have e:=HVU.out;simp [HKN.out,HKN9.out,HX3.out,HP2.out,HP1.out,HK2Nx.out,HK2K.out,show Ze l (p2+2)=Ze l (i+1) by simpa using HTS.out,HN33.out] at e;rw [←e];exact ⟨_,rfl,HO9.out,HB9.out⟩
           | false =>
            go_wp2_with fail;go_ret2;have e:=HVU.out;simp [HKN.out,HKN9.out,HX3.out,HP2.out,HP1.out,HK2Nx.out,HK2K.out,show Ze l (p2+2)≠Ze l (i+1) by simpa using HTS.out] at e;rw [←e];exact ⟨rfl,HGE.out.i.b⟩
         · have HK2N:=Za hk2;obtain ⟨KK,hKK⟩:∃v,(rowL l (p2+1)).k=v:=⟨_,rfl⟩;simp only [hKK] at hqk;rw [hKK] at hk2;have hkkb:(KK == 2)=false:=by simp [hk2]
           clear hKK hk2 hkk hw0;have hgr:=fun (z:Grown w10)=>HGEx.out.below z.b
           have g0:=fun (z:Grown w10)=>(hgr z).i.x0
           have g1:=fun (z:Grown w10)=>(hgr z).i.x1
           clear hgr;refine ZG br_ (by kernel_rfl) (by kernel_rfl) ?_
           repeat (go_big_quiet_step (fail))
           refine wpQuiet_nil ?_;intro w10 hw10;obtain ⟨⟨w10,hb10⟩,rfl⟩:=hw10;have HGE:=Za (HGEx.out.below hb10);clear g0 g1 hb10 hqk;go_wp2_with fail;go_ret2;have e:=HVU.out;simp [HKN.out,HKN9.out,HX3.out,HP2.out,HP1.out,HK2Nx.out,HK2N.out] at e;rw [←e];exact ⟨rfl,HGE.out.i.b⟩
end
end Go.Proofs.Ytdpokdcendgfeaa
