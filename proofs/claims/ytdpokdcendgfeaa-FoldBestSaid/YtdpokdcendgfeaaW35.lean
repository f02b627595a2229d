/- Several texts in one: The reference's look at an event: its laws and its walk. The walks of the reference's Vars and Tags. The walk of the reference's Check. Conditions: those of each. -/
import Derived.Test.YtdpokdcendgfeaaW34
import Derived.Deep.CutBlock
import Derived.Deep.DeepCutAuto
import Derived.Test.YtdpokdcendgfeaaW28
import Derived.Test.YtdpokdcendgfeaaW2
import Derived.Test.YtdpokdcendgfeaaW15
set_option linter.unusedSimpArgs false
set_option linter.unusedVariables false
set_option maxHeartbeats 80000000
set_option maxRecDepth 100000
namespace Go.Proofs.Ytdpokdcendgfeaa
open Go.RowKit
theorem ZkQ (l:List Ac):∀(k j:Nat),l.length - j≤k→0≤Zal l j:=by
 intro k
 induction k with
 | zero =>
  intro j hj
  have:Zal l j=0:=by
   unfold Zal;rw [List.getElem?_eq_none (by rw [Zdt];omega)];rfl
  omega
 | succ k ih =>
  intro j hj
  cases hx:l[j]? with
  | none =>
   have:Zal l j=0:=by
    unfold Zal;rw [List.getElem?_eq_none (by rw [Zdt];exact List.getElem?_eq_none_iff.1 hx)];rfl
   omega
  | some x =>
   have hjl:=(gs_ hx).1;rw [ZcI hx];split
   · omega
   · have h1:=ih (j+1) (by omega);unfold Z4;split
     · omega
     · split
       · exact h1
       · omega
theorem Zjw {P:Pl} {l:List Ac} (h0:0<l.length) (h:¬Za9 l):Zy P l=false:=by
 cases he:Zy P l with
 | false=>rfl
 | true =>
  rcases Ze3.2 he with h1 | ⟨_,h2,h3⟩
  · subst h1;simp at h0
  · exact absurd ⟨h2,fun j hj=>(h3 j hj).1⟩ h
theorem Zjx {P:Pl} {l:List Ac} {x:Ac} (hx:l[0]? = some x) (h:¬x.k=1):Zy P l=false:=by
 cases he:Zy P l with
 | false=>rfl
 | true =>
  rcases Ze3.2 he with h1 | ⟨h1,_⟩
  · subst h1;simp at hx
  · rw [ZaB hx] at h1;exact absurd h1 h
theorem ZdH {P:Pl} {l:List Ac} {j:Nat} {x:Ac} (hx:l[j]? = some x) (h:¬(1≤x.k∧x.k≤38)∨Zbs P l (endE l) j x=false∨(ZT x.k≠0∧¬Zal l j≤256)):Zy P l=false:=by
 cases he:Zy P l with
 | false=>rfl
 | true =>
  have hj:=(gs_ hx).1;rcases Ze3.2 he with h1 | ⟨_,_,h3⟩
  · subst h1;simp at hx
  · obtain ⟨y,hy,k1,k2,hr,ht⟩:=(h3 j hj).2;rw [hx] at hy;injection hy with hy;subst hy;rcases h with h | h | ⟨h,h4⟩
    · exact absurd ⟨k1,k2⟩ h
    · rw [h] at hr;cases hr
    · exact absurd (ht h).2 h4
theorem Zkp {P:Pl} {l:List Ac} {j:Nat} {x:Ac} (hx:l[j]? = some x) (h1:1≤x.k∧x.k≤38) (h2:Zbs P l (endE l) j x=true) (h3:ZT x.k≠0→Zal l j≤256):ZcE P l (endE l) (Zal l) j :=
 ⟨x,hx,h1.1,h1.2,h2,fun ht=>⟨by rw [ZcI hx,if_neg ht],h3 ht⟩⟩
theorem Zkv {P:Pl} {l:List Ac} {x:Ac} (hx:l[0]? = some x) (hk:x.k=1) (hT:Za9 l) (h:∀j,j<l.length→ZcE P l (endE l) (Zal l) j):Zy P l=true :=
 Ze3.1 (.inr ⟨by rw [ZaB hx,hk],hT.1,fun j hj=>⟨hT.2 j hj,h j hj⟩⟩)
theorem Zlx {P:Pl} {l:List Ac} {j:Nat} (h:ZcE P l (endE l) (Zal l) j):0≤Zal l j∧Zal l j≤256:=by
 obtain ⟨x,hx,_,_,_,ht⟩:=h;refine ⟨ZkQ l _ j lr_,?_⟩
 by_cases h0:ZT x.k=0
 · rw [ZcI hx,if_pos h0];omega
 · exact (ht h0).2
def ZnW (wx:World) (l:List Ac) (oe:Option Addr) (n gw:Nat):Prop:=(oe=none∧n=0∧¬Za9 l)∨(∃ge,oe=some ⟨ge,0,none⟩∧n=l.length∧Za9 l∧Blk wx ge 3 (Zm (Za6 l 0)).toArray∧Blk wx gw 3 (Zm (List.replicate l.length 0)).toArray∧ge≠gw)
def Zia (w:World) (q:PlV) (P:Pl) (ad:Addr) (c:Nat) (l:List Ac) (s:Value) (wx:World):Prop:=Below w.heap.size w wx∧∃gk oe n gw,s=.pointer (some ⟨gk,0,none⟩)∧w.heap.size≤gw∧Blk wx gk 127 #[.slice q.ga q.gl q.gc,.slice q.va q.vl q.vc,.slice q.ta q.tl q.tc,.slice q.oa q.ol q.oc,.slice q.ma q.ml q.mc,.slice (some ad) l.length c,.slice oe n n,.slice (some ⟨gw,0,none⟩) l.length l.length]∧ZnW wx l oe n gw
def ZfA (l:List Ac) (w:World) (v:Value) (w':World):Prop:=∃oe n,v=.slice oe n n∧Below w.heap.size w w'∧((oe=none∧n=0∧¬Za9 l)∨(∃ge,oe=some ⟨ge,0,none⟩∧n=l.length∧Za9 l∧w.heap.size≤ge∧Blk w' ge 3 (Zm (Za6 l 0)).toArray))
theorem ZlD {w w':World} {l:List Ac} {en:Ending} (h:Zib w l en w'):∃v,en=.returned v∧ZfA l w v w':=by
 obtain ⟨hb,⟨rfl,h1⟩ | ⟨rfl,h1,h2⟩⟩:=h
 · exact ⟨_,rfl,none,0,rfl,hb,.inl ⟨rfl,rfl,h1⟩⟩
 · exact ⟨_,rfl,_,_,rfl,hb,.inr ⟨_,rfl,rfl,h1,lr_,h2⟩⟩
section
variable {w W1 X w4:World} {q:PlV} {P:Pl} {ad:Addr} {c:Nat} {l:List Ac} {oe:Option Addr} {n g:Nat}
theorem ZlB (h0:Below w.heap.size w W1) (h5:Below W1.heap.size W1 w4) (hor:(oe=none∧n=0∧¬Za9 l)∨(∃ge,oe=some ⟨ge,0,none⟩∧n=l.length∧Za9 l∧X.heap.size≤ge∧Blk w4 ge 3 (Zm (Za6 l 0)).toArray)) (hg:g=w4.heap.size+1) :
 Zia w q P ad c l (.pointer (some ⟨g,0,none⟩)) ((w4.alloc (.cells (Zm (List.replicate l.length 0)).toArray 3)).alloc (.cells #[.slice q.ga q.gl q.gc,.slice q.va q.vl q.vc,.slice q.ta q.tl q.tc,.slice q.oa q.ol q.oc,.slice q.ma q.ml q.mc,.slice (some ad) l.length c,.slice oe n n,.slice (some ⟨w4.heap.size,0,none⟩) l.length l.length] 127)):=by
 subst hg;have hb:=h0.trans (h5.mono h0.size);refine ⟨(hb.alloc hb.size _).alloc (by have:=hb.size;simp;omega) _,w4.heap.size+1,oe,n,w4.heap.size,rfl,hb.size,Zbh _ _ _ _,?_⟩;rcases hor with h | ⟨ge,h1,h2,h3,_,h4⟩
 · exact .inl h
 · exact .inr ⟨ge,h1,h2,h3,(h4.alloc _).alloc _,(Blk.new w4 3 (Zm (List.replicate l.length 0)).toArray).alloc _,by have:=h4.lt;omega⟩
theorem ZlA (h0:Below w.heap.size w W1) (h5:Below W1.heap.size W1 w4) (hX:X.heap.size=W1.heap.size+1) (hk:Blk X W1.heap.size 3 (Zm (List.replicate l.length 0)).toArray) (h4b:Below X.heap.size X w4) (hor:(oe=none∧n=0∧¬Za9 l)∨(∃ge,oe=some ⟨ge,0,none⟩∧n=l.length∧Za9 l∧X.heap.size≤ge∧Blk w4 ge 3 (Zm (Za6 l 0)).toArray)) (hg:g=w4.heap.size) :
 Zia w q P ad c l (.pointer (some ⟨g,0,none⟩)) (w4.alloc (.cells #[.slice q.ga q.gl q.gc,.slice q.va q.vl q.vc,.slice q.ta q.tl q.tc,.slice q.oa q.ol q.oc,.slice q.ma q.ml q.mc,.slice (some ad) l.length c,.slice oe n n,.slice (some ⟨W1.heap.size,0,none⟩) l.length l.length] 127)):=by
 subst hg;have hb:=h0.trans (h5.mono h0.size);refine ⟨hb.alloc hb.size _,w4.heap.size,oe,n,W1.heap.size,rfl,h0.size,Blk.new _ _ _,?_⟩;rcases hor with h | ⟨ge,h1,h2,h3,h6,h4⟩
 · exact .inl h
 · exact .inr ⟨ge,h1,h2,h3,h4.alloc _,(hk.below h4b hk.lt).alloc _,by omega⟩
end
theorem Znw {w W:World} {g:Nat} {q:PlV} {P:Pl} {ad:Addr} {c:Nat} {l:List Ac} {ge gw m:Nat} (hk:Blk W g 127 (ckr q ad c l ge gw)) (hp:Pm w q P) (hs:Src w (some ad) l.length (acs l)) (hb:Below w.heap.size w W) (he:Blk W ge 3 (Zm (Za6 l 0)).toArray) (hn:Blk W gw 3 (Zm (Za8 l m)).toArray) (hl:l.length≤1048576):CkrR W g q P ad c l ge gw m :=
 ⟨hk,hp.below hb,hs.below hb,he,hn,hl⟩
theorem ZhS (w:World) (q:PlV) (P:Pl) (oa:Option Addr) (c:Nat) (l:List Ac) (hp:Pm w q P) (hs:Src w oa l.length (acs l)) (hl:l.length≤1048576) :
 Calls Try.prog 57 #[q.val,.slice oa l.length c] w fun en w'=>en=.returned (.bool (Zy P l))∧Below w.heap.size w w':=by
 have HP:=Za hp;have HS:=Za hs;obtain ⟨r,hr⟩:∃r,Zy P l=r:=⟨_,rfl⟩;rw [hr];have HR:=Za hr;simp only [PlV.val];have HB0:=Za ((Below.refl w.heap.size w).alloc lr_ (.cells #[.slice q.ga q.gl q.gc,.slice q.va q.vl q.vc,.slice q.ta q.tl q.tc,.slice q.oa q.ol q.oc,.slice q.ma q.ml q.mc] 28));have HK0:=Za (Blk.new w 28 #[.slice q.ga q.gl q.gc,.slice q.va q.vl q.vc,.slice q.ta q.tl q.tc,.slice q.oa q.ol q.oc,.slice q.ma q.ml q.mc]);clear hp hs hr
 by_cases h0:l.length=0
 · have hn:l=[]:=List.length_eq_zero_iff.1 h0;subst hn;have HRT:=Za (show r=true by rw [←HR.out];rfl);simp only [List.length_nil];clear h0;go_enter Try.func57,Try.ntmps57;go_wp2_with fail;go_ret;exact ⟨by rw [HRT.out];first | done | rfl,HB0.out⟩
 obtain ⟨ad,rfl,hab,-⟩:=HS.out (by omega);have hlb:((l.length:Int) == 0)=false:=by rw [beq_eq_false_iff_ne];omega
 have hl0:0<l.length:=by omega
 have hlI:¬(l.length:Int)=0:=by omega
 have HEN:=Za (fun (W:World) (hb:Below w.heap.size w W)=>ZmP W ad c l (HS.out.below hb) hl hl0);have HMK:=Za (fun (W:World)=>ZeB W l.length (Nat.le_trans hl (by decide)));clear h0;go_enter Try.func57,Try.ntmps57;go_upto_region 3 with fail;generalize hW1:w.alloc (.cells #[.slice q.ga q.gl q.gc,.slice q.va q.vl q.vc,.slice q.ta q.tl q.tc,.slice q.oa q.ol q.oc,.slice q.ma q.ml q.mc] 28)=W1 at HB0 HK0 ⊢;have hpb:=HK0.out.lt;have b0:W1.cell? ⟨w.heap.size,0,none⟩=some (.slice q.ga q.gl q.gc):=HK0.out.cell 0;have b1:W1.cell? ⟨w.heap.size,1,none⟩=some (.slice q.va q.vl q.vc):=HK0.out.cell 1;have b2:W1.cell? ⟨w.heap.size,2,none⟩=some (.slice q.ta q.tl q.tc):=HK0.out.cell 2;have b3:W1.cell? ⟨w.heap.size,3,none⟩=some (.slice q.oa q.ol q.oc):=HK0.out.cell 3;have b4:W1.cell? ⟨w.heap.size,4,none⟩=some (.slice q.ma q.ml q.mc):=HK0.out.cell 4;have hmk:=HMK.out;clear hW1;go_cut [5] from 10 to 18 (fun s5 wx=>Zia w q P ad c l s5 wx)
 case first =>
  have HEN2:=Za (fun (X:World) (hb:Below W1.heap.size W1 X)=>(HEN.out X (HB0.out.trans (hb.mono HB0.out.size))).mono (fun e w' hh=>(by
   obtain ⟨v,e1,e2⟩:=ZlD hh;have e3:=e2;obtain ⟨_,_,_,hb2,_⟩:=e3
   exact ⟨v,e1,e2,hb.trans (hb2.mono hb.size)⟩:∃v,e=.returned v∧ZfA l X v w'∧Below W1.heap.size W1 w')))
  go_region_law (
   refine Zet rfl 80 (.tmp 12) 26 rfl Try.f80 Try.func80 (by decide) (by decide) (.slice (some ad) l.length c) (by simp [Act.eval,Act.put]) (fun v' w'=>ZfA l _ v' w'∧Below W1.heap.size W1 w') (HEN2.out _ (by first | exact (Below.refl _ W1).drew | exact ((Below.refl _ W1).alloc lr_ _).drew)) ?_;rintro v4 w4 ⟨⟨oe,n,rfl,hb4,hor⟩,hb5⟩;have HB4:=Za hb4;have HOR:=Za hor;have d0:=(hb5.cell (p:=⟨w.heap.size,0,none⟩) hpb).trans b0;have d1:=(hb5.cell (p:=⟨w.heap.size,1,none⟩) hpb).trans b1;have d2:=(hb5.cell (p:=⟨w.heap.size,2,none⟩) hpb).trans b2;have d3:=(hb5.cell (p:=⟨w.heap.size,3,none⟩) hpb).trans b3;have d4:=(hb5.cell (p:=⟨w.heap.size,4,none⟩) hpb).trans b4;have hp4:w.heap.size<w4.heap.size:=Nat.lt_of_lt_of_le hpb hb5.size;have HB5:=Za hb5
   clear hb4 hor hb5)
  all_goals
   simp only [List.getElem_toArray,List.getElem_cons_succ,List.getElem_cons_zero,Act.put,List.setIfInBounds_toArray,List.set_cons_zero,List.set_cons_succ];go_wp2_with fail;go_meet
   case rel =>
    first
    | exact ZlB HB0.out HB5.out HOR.out (by simp)
    | exact ZlA HB0.out HB5.out (by simp) (Blk.new W1 _ _).drew HB4.out HOR.out (by simp)
 case rest =>
  obtain ⟨hb,gk,oe,n,gw,rfl,hgw,hk,hor⟩:=hcut;have HB:=Za hb;have HK:=Za hk;have hkl:=hk.lt;have k5:=hk.cell 5;have k6:wc.cell? ⟨gk,6,none⟩=some (.slice oe n n):=by rw [hk.cell];rfl
  clear hb hk hmk b0 b1 b2 b3 b4 HMK HEN;have hnl:=Zlb;rcases hor with ⟨rfl,rfl,hnt⟩ | ⟨ge,rfl,rfl,hT,he,hn,hne⟩
  · have HRF:=Za (show r=false by rw [←HR.out];exact Zjw hl0 hnt);clear hnt;go_wp2_with fail;go_ret;exact ⟨by rw [HRF.out];first | done | rfl,HB.out⟩
  have HT:=Za hT;have HE:=Za he;have HN:=Za hn;obtain ⟨x0,hx0⟩:∃x0,l[0]? = some x0:=⟨_,ge_ hl0⟩;obtain ⟨ad1,e1,hab1,q0,-,-,-,-,-⟩:=Zq (HS.out.below HB.out) hx0
  cases e1
  have hz0:ad.add (0*6)=ad:=by unfold Addr.add;split <;> simp_all
  rw [hz0] at q0;have hlI0:(0:Int)<(l.length:Int):=by omega
  have HX0:=Za hx0;clear hT he hn hz0 hx0 hab1
  by_cases hk1:x0.k=1
  case neg =>
   have HRF:=Za (show r=false by rw [←HR.out];exact Zjx HX0.out hk1);have hk1b:(x0.k != 1)=true:=by simp [hk1]
   go_wp2_with fail;go_ret;exact ⟨by rw [HRF.out];first | done | rfl,HB.out⟩
  have hk1b:(x0.k != 1)=false:=by simp [hk1]
  have HK1:=Za hk1;have u1:=IntWalk.i64_in ((l.length:Int) - 1) (by omega);clear hk1;go_wp2_with fail;clear k5 k6 q0;go_loopw [6] (fun t6 W=>∃m:Nat,t6=.int .i64 ((m:Int) - 1)∧m≤l.length∧Hid (∀j,m≤j→j<l.length→ZcE P l (endE l) (Zal l) j)∧Below w.heap.size w W∧Blk W gk 127 (ckr q ad c l ge gw)∧Blk W ge 3 (Zm (Za6 l 0)).toArray∧Blk W gw 3 (Zm (Za8 l m)).toArray) (fun t6 _=>(intOf t6+1).toNat)
  case atStart=>exact ⟨l.length,rfl,lr_,Za (fun j a b=>by omega),HB.out,HK.out,HE.out,by rw [Zhh];exact HN.out⟩
  case round =>
   clear HB HK HE HN u1 hkl;obtain ⟨m,rfl,hm,HF,hb,hk,he,hn⟩:=hrel;rename World=>W
   have HB:=Za hb
   by_cases hm0:m=0
   · subst hm0;have HRT:=Za (show r=true by rw [←HR.out];exact Zkv HX0.out HK1.out HT.out (fun j hj=>HF.out j (Nat.zero_le _) hj));clear hk he hn hb;go_wp2_with fail;go_ret;exact ⟨by rw [HRT.out];first | done | rfl,HB.out⟩
   obtain ⟨a,rfl⟩:∃a,m=a+1:=⟨m - 1,by omega⟩;have hwa:(((a+1:Nat):Int) - 1)=(a:Int):=by omega
   rw [hwa];have ha0:(0:Int)≤(a:Int):=by omega
   have haL:(a:Int)<(l.length:Int):=by omega
   have hal:a<l.length:=by omega
   have u2:=IntWalk.i64_in ((a:Int) - 1) (by omega);obtain ⟨x,hx⟩:∃x,l[a]? = some x:=⟨_,ge_ hal⟩;have HX:=Za hx;obtain ⟨ad2,e2,hab2,p0,-,-,-,-,-⟩:=Zq (HS.out.below hb) hx
   cases e2
   have HC:=Za (Znw hk HP.out HS.out hb he hn hl);have HROW:=Za (Zm2 W gk q P ad c l ge gw (a+1) a x HC.out HT.out hx);obtain ⟨xk,hxk⟩:∃xk,x.k=xk:=⟨_,rfl⟩;rw [hxk] at p0;have HXK:=Za hxk;clear hx hxk hk he hn hb hwa hm0 hab2
   by_cases hlo:xk<1
   · have HRF:=Za (show r=false by rw [←HR.out];exact ZdH HX.out (.inl (by rw [HXK.out];omega)));go_wp2_with fail;go_ret;exact ⟨by rw [HRF.out];first | done | rfl,HB.out⟩
   by_cases hhi:38<xk
   · have HRF:=Za (show r=false by rw [←HR.out];exact ZdH HX.out (.inl (by rw [HXK.out];omega)));go_wp2_with fail;go_ret;exact ⟨by rw [HRF.out];first | done | rfl,HB.out⟩
   have HKR:=Za (show 1≤xk∧xk≤38 by omega)
   cases hrr:Zbs P l (endE l) a x with
   | false =>
    have HRF:=Za (show r=false by rw [←HR.out];exact ZdH HX.out (.inr (.inl hrr)));rw [hrr] at HROW;clear hrr;go_wp2_with (go_at_call 81;refine HROW.out.mono ?_;rintro en w5 ⟨rfl,hb5⟩;have HB5:=Za hb5;clear hb5);go_ret;exact ⟨by rw [HRF.out];first | done | rfl,HB.out.trans (HB5.out.mono HB.out.size)⟩
   | true =>
    have HRR:=Za hrr;rw [hrr] at HROW;clear hrr;obtain ⟨ty,hty⟩:∃ty,ZT xk=ty:=⟨_,rfl⟩;have HTY0:=Za hty;have HTY:=fun (W2:World)=>Za ((Zcm W2 xk).mono (fun en w' hh=>(⟨by rw [hh.1,hty],hh.2⟩:en=.returned (.int .i64 ty)∧W2=w')))
    clear hty;have hab3:ad.block<W.heap.size:=by obtain ⟨ad3,e3,h3,_⟩:=(HS.out.below HB.out) hl0;cases e3;exact h3
    have hq0:=fun (W2:World) (hb2:Below W.heap.size W W2)=>(hb2.cell (p:=ad.add (a*6)) (by rw [Zl];exact hab3)).trans p0
    by_cases ht0:ty=0
    · subst ht0
      go_wp2_with (first
       | (go_at_call 81;refine HROW.out.mono ?_;rintro en w5 ⟨rfl,hb5⟩;have HB5:=Za hb5;have p5:=hq0 _ hb5;clear hb5)
       | (go_at_call 82;refine (HTY _).out.mono ?_;rintro en w6 ⟨rfl,rfl⟩))
      go_roundw
      case rel =>
       have hc5:=HC.out.below HB5.out;refine ⟨a,rfl,by omega,Za (fun j h1 h2=>?_),HB.out.trans (HB5.out.mono HB.out.size),hc5.k,hc5.e,?_⟩
       · rcases Nat.eq_or_lt_of_le h1 with rfl | h3
         · exact Zkp HX.out (by rw [HXK.out];exact HKR.out) HRR.out (fun h9=>absurd (by rw [HXK.out];exact HTY0.out) h9)
         · exact HF.out j h3 h2
       · rw [←Zid hal (by rw [ZcI HX.out,if_pos (by rw [HXK.out];exact HTY0.out)])];exact hc5.n
      case measure =>
       simp only [intOf];omega
    · have ht0b:(ty != 0)=true:=by simp [ht0]
      have HTN:=Za (show ZT x.k≠0 by rw [HXK.out,HTY0.out];exact ht0);obtain ⟨v,hv⟩:∃v,Zal l a=v:=⟨_,rfl⟩;have HV:=Za hv;have HVR:=Za (show Z4 (Zal l) (endE l) a x=v by rw [←hv,ZcI HX.out,if_neg HTN.out]);have HWA:=Za (fun (X:World) (hb:Below W.heap.size W X)=>Zl2 X gk q P ad c l ge gw a x (HC.out.below hb) HT.out HX.out (fun j h1 h2=>Zlx (HF.out j h1 h2)));rw [HVR.out] at HWA;clear hv ht0;have HWC:=Za (fun (X:World) (hb:Below W.heap.size W X)=>(HC.out.below hb).cells.2.2.2);have HWN:=Za (fun (X:World) (hb:Below W.heap.size W X)=>(HC.out.below hb).n)
      by_cases hv9:v≤256
      · have hv9I:¬ 256<v:=by omega
        have HV9:=Za hv9;clear hv9
        go_upto_region 12 with (first
         | (go_at_call 81;refine HROW.out.mono ?_;rintro en w5 ⟨rfl,hb5⟩;have HB5:=Za hb5;have p5:=hq0 _ hb5;clear hb5)
         | (go_at_call 82;refine (HTY _).out.mono ?_;rintro en w6 ⟨rfl,rfl⟩))
        have e7:=HWC.out _ HB5.out;have ez:=HWN.out _ HB5.out;have hgl5:=ez.lt;have hkl5:=(HC.out.below HB5.out).k.lt;have ezc:=Zae ez (Zcw (l:=l) (m:=a+1) (j:=a) (by omega) hal);have ezf:=ez.frozen a;have hd1:gk≠gw:=(HC.out.below HB5.out).k.ne_ ez (by decide);have hd2:=Ne.symm hd1;have HWA2:=Za (fun (X:World) (hb:Below w5.heap.size w5 X)=>(HWA.out X (HB5.out.trans (hb.mono HB5.out.size))).mono (fun e w' hh=>(⟨_,hh.1,rfl,HB5.out.trans ((hb.trans (hh.2.mono hb.size)).mono HB5.out.size)⟩:∃v',e=.returned v'∧v'=.int .i64 v∧Below W.heap.size W w')));clear ez p5
        go_region_law (
         refine ZfG rfl 83 #[.tmp 70,.tmp 71] #[125,3] rfl Try.f83 Try.func83 (by decide) (by decide) #[.pointer (some ⟨gk,0,none⟩),.int .i64 (a:Int)] (by simp [Act.eval,Act.put]) (fun v' w'=>v'=.int .i64 v∧Below W.heap.size W w') (HWA2.out _ (by first | exact (Below.refl _ w5).drew | exact Below.refl _ w5)) ?_;rintro v4 w6 ⟨rfl,hb6⟩;have HB6:=Za hb6;have f7:=HWC.out _ hb6;have ez:=HWN.out _ hb6;have hgl6:=ez.lt;have ezc6:=Zae ez (Zcw (l:=l) (m:=a+1) (j:=a) (by omega) hal);have ezf6:=ez.frozen a
         clear hb6 ez)
        all_goals
         try simp only [List.getElem_toArray,List.getElem_cons_succ,List.getElem_cons_zero,Act.put,List.setIfInBounds_toArray,List.set_cons_zero,List.set_cons_succ]
         go_wp2_with fail;go_roundw
         case rel =>
          have hc6:=HC.out.below HB6.out;have hset:=hc6.n.set_ a (.int .i64 v);rw [ZbS,←HV.out,ZfD hal] at hset;refine ⟨a,rfl,by omega,Za (fun j h1 h2=>?_),(HB.out.trans (HB6.out.mono HB.out.size)).setCell (p:=⟨gw,a,none⟩) hgw _,hc6.k.far (p:=⟨gw,a,none⟩) hd1 _,hc6.e.far (p:=⟨gw,a,none⟩) hne _,?_⟩
          · rcases Nat.eq_or_lt_of_le h1 with rfl | h3
            · exact Zkp HX.out (by rw [HXK.out];exact HKR.out) HRR.out (fun _=>by rw [HV.out];exact HV9.out)
            · exact HF.out j h3 h2
          · rw [←HV.out];exact hset
         case measure =>
          simp only [intOf];omega
      · have hv9I:256<v:=by omega
        have HRF:=Za (show r=false by rw [←HR.out];exact ZdH HX.out (.inr (.inr ⟨HTN.out,by rw [HV.out];exact hv9⟩)));clear hv9
        go_upto_region 12 with (first
         | (go_at_call 81;refine HROW.out.mono ?_;rintro en w5 ⟨rfl,hb5⟩;have HB5:=Za hb5;have p5:=hq0 _ hb5;clear hb5)
         | (go_at_call 82;refine (HTY _).out.mono ?_;rintro en w6 ⟨rfl,rfl⟩))
        have e7:=HWC.out _ HB5.out;have ez:=HWN.out _ HB5.out;have hgl5:=ez.lt;have hkl5:=(HC.out.below HB5.out).k.lt;have ezc:=Zae ez (Zcw (l:=l) (m:=a+1) (j:=a) (by omega) hal);have ezf:=ez.frozen a;have hd1:gk≠gw:=(HC.out.below HB5.out).k.ne_ ez (by decide);have hd2:=Ne.symm hd1;have HWA2:=Za (fun (X:World) (hb:Below w5.heap.size w5 X)=>(HWA.out X (HB5.out.trans (hb.mono HB5.out.size))).mono (fun e w' hh=>(⟨_,hh.1,rfl,HB5.out.trans ((hb.trans (hh.2.mono hb.size)).mono HB5.out.size)⟩:∃v',e=.returned v'∧v'=.int .i64 v∧Below W.heap.size W w')));clear ez p5
        go_region_law (
         refine ZfG rfl 83 #[.tmp 70,.tmp 71] #[125,3] rfl Try.f83 Try.func83 (by decide) (by decide) #[.pointer (some ⟨gk,0,none⟩),.int .i64 (a:Int)] (by simp [Act.eval,Act.put]) (fun v' w'=>v'=.int .i64 v∧Below W.heap.size W w') (HWA2.out _ (by first | exact (Below.refl _ w5).drew | exact Below.refl _ w5)) ?_;rintro v4 w6 ⟨rfl,hb6⟩;have HB6:=Za hb6;have f7:=HWC.out _ hb6;have ez:=HWN.out _ hb6;have hgl6:=ez.lt;have ezc6:=Zae ez (Zcw (l:=l) (m:=a+1) (j:=a) (by omega) hal);have ezf6:=ez.frozen a
         clear hb6 ez)
        all_goals
         try simp only [List.getElem_toArray,List.getElem_cons_succ,List.getElem_cons_zero,Act.put,List.setIfInBounds_toArray,List.set_cons_zero,List.set_cons_succ]
         go_wp2_with fail;go_ret;exact ⟨by rw [HRF.out];first | done | rfl,(HB.out.trans (HB6.out.mono HB.out.size)).setCell (p:=⟨gw,a,none⟩) hgw _⟩
theorem Zl3 (w:World) (oa:Option Addr) (c:Nat) (l:List Vr) (h:Src w oa l.length (vrs l)) (hl:l.length≤1048576) :
 Calls Try.prog 55 #[.slice oa l.length c] w fun en w'=>en=.returned (.bool (l.all Zci))∧Below w.heap.size w w':=by
 have HS:=Za h;obtain ⟨r,hr⟩:∃r,l.all Zci=r:=⟨_,rfl⟩;rw [hr];have HR:=Za hr;clear h hr;go_enter Try.func55,Try.ntmps55;go_wp2_with fail;go_loopw [3] (fun t3 W=>∃i:Nat,t3=.int .i64 (i:Int)∧i≤l.length∧Hid ((l.take i).all Zci=true)∧Below w.heap.size w W) (fun t3 _=>l.length - (intOf t3).toNat)
 case atStart=>exact ⟨0,rfl,Nat.zero_le _,Za (by simp),Below.refl _ _⟩
 case round =>
  obtain ⟨i,rfl,hi,HA,hb⟩:=hrel;rename World=>W
  have HB:=Za hb;clear hb;have u1:=IntWalk.i64_in ((i:Int)+1) (by omega)
  by_cases hlt:i<l.length
  · have hltN:decide (i<l.length)=true:=by simp [hlt]
    have hi0:(0:Int)≤(i:Int):=by omega
    have hiL:(i:Int)<(l.length:Int):=by omega
    obtain ⟨x,hx⟩:∃x,l[i]? = some x:=⟨_,ge_ hlt⟩;obtain ⟨ad,e,hab,q0,q1,q2⟩:=ZeN (HS.out.below HB.out) hx;subst e;obtain ⟨x0,x1,x2⟩:=x;simp only at q0 q1 q2;have HX:=Za hx;have hvo:=Zhm ⟨x0,x1,x2⟩;simp only at hvo;clear hx hab
    by_cases hv:x1≤x0∧x0≤x2 ∧ -1073741824≤x1∧x2≤1073741824
    · have HVT:=Za (hvo.2 hv);obtain ⟨v1,v2,v3,v4⟩:=hv;have b1:decide (x0<x1)=false:=by simp;omega
      have b2:decide (x2<x0)=false:=by simp;omega
      have b3:decide (x1 < -1073741824)=false:=by simp;omega
      have b4:decide (1073741824<x2)=false:=by simp;omega
      clear hvo v1 v2 v3 v4;go_wp2_with fail;go_quiet (fail);go_wp2_with fail;go_roundw
      case rel=>exact ⟨i+1,by go_num,by omega,Za (Za7 HX.out HA.out HVT.out),Zc HB.out _⟩
      case measure=>simp [intOf];omega
    · have hvf:Zci ⟨x0,x1,x2⟩=false:=by
       cases hq:Zci ⟨x0,x1,x2⟩ with
       | false=>rfl
       | true=>exact (hv (hvo.1 hq)).elim
      have HRF:=Za (show r=false by rw [←HR.out];exact ZbW HX.out hvf);clear hvf hvo
      by_cases h1:x0<x1
      · have b1:decide (x0<x1)=true:=by simp [h1]
        clear hv h1;go_wp2_with fail;go_quiet (fail);go_wp2_with fail;go_ret;exact ⟨by rw [HRF.out];first | done | rfl,Zc HB.out _⟩
      have b1:decide (x0<x1)=false:=by simp;omega
      by_cases h2:x2<x0
      · have b2:decide (x2<x0)=true:=by simp [h2]
        clear hv h2 h1;go_wp2_with fail;go_quiet (fail);go_wp2_with fail;go_ret;exact ⟨by rw [HRF.out];first | done | rfl,Zc HB.out _⟩
      have b2:decide (x2<x0)=false:=by simp;omega
      by_cases h3:x1 < -1073741824
      · have b3:decide (x1 < -1073741824)=true:=by simp [h3]
        clear hv h1 h2 h3;go_wp2_with fail;go_quiet (fail);go_wp2_with fail;go_ret;exact ⟨by rw [HRF.out];first | done | rfl,Zc HB.out _⟩
      have b3:decide (x1 < -1073741824)=false:=by simp;omega
      have b4:decide (1073741824<x2)=true:=by simp;omega
      clear hv h1 h2 h3;go_wp2_with fail;go_quiet (fail);go_wp2_with fail;go_ret;exact ⟨by rw [HRF.out];first | done | rfl,Zc HB.out _⟩
  · have hltN:decide (i<l.length)=false:=by simp;omega
    have hiL:¬(i:Int)<(l.length:Int):=by omega
    have he:i=l.length:=by omega
    have HRT:=Za (show r=true by have:=HA.out;rw [he,List.take_length] at this;rw [←HR.out];exact this);clear he hlt;go_wp2_with fail;go_ret;exact ⟨by rw [HRT.out];first | done | rfl,HB.out⟩
theorem Zmb (w:World) (oa:Option Addr) (c:Nat) (l:List Int) (h:Src w oa l.length (Zm l)) (hl:l.length≤1048576) :
 Calls Try.prog 56 #[.slice oa l.length c] w fun en w'=>en=.returned (.bool (l.all (fun t=>Zp t 1 255)))∧w=w':=by
 have HS:=Za h;have HF:=fun (W:World) (y:Int)=>Za (Zcj W y 1 255)
 obtain ⟨r,hr⟩:∃r,l.all (fun t=>Zp t 1 255)=r:=⟨_,rfl⟩;rw [hr];have HR:=Za hr;clear h hr;go_enter Try.func56,Try.ntmps56;go_wp2_with fail;go_loopw [3] (fun t3 W=>∃i:Nat,t3=.int .i64 (i:Int)∧i≤l.length∧Hid ((l.take i).all (fun t=>Zp t 1 255)=true)∧w=W) (fun t3 _=>l.length - (intOf t3).toNat)
 case atStart=>exact ⟨0,rfl,Nat.zero_le _,Za (by simp),rfl⟩
 case round =>
  obtain ⟨i,rfl,hi,HA,rfl⟩:=hrel;have u1:=IntWalk.i64_in ((i:Int)+1) (by omega)
  by_cases hlt:i<l.length
  · have hltN:decide (i<l.length)=true:=by simp [hlt]
    have hi0:(0:Int)≤(i:Int):=by omega
    have hiL:(i:Int)<(l.length:Int):=by omega
    obtain ⟨x,hx⟩:∃x,l[i]? = some x:=⟨_,ge_ hlt⟩;obtain ⟨ad,e,hab,q0⟩:=Za3 HS.out (i:=i) (v:=.int .i64 x) (by omega) (by simp [Zm,hx]);subst e;have HX:=Za hx;clear hx hab
    cases hv:Zp x 1 255 with
    | true =>
     have HF2:=fun (W:World)=>Za ((Zcj W x 1 255).mono (fun en w' hh=>(⟨by rw [hh.1,hv],hh.2⟩:en=.returned (.bool true)∧W=w')))
     have HV:=Za hv;clear hv;go_wp2_with (go_at_call 79;refine (HF2 _).out.mono ?_;rintro en w1 ⟨rfl,rfl⟩);go_roundw
     case rel=>exact ⟨i+1,by go_num,by omega,Za (Za7 HX.out HA.out HV.out),trivial⟩
     case measure=>simp [intOf];omega
    | false =>
     have HF2:=fun (W:World)=>Za ((Zcj W x 1 255).mono (fun en w' hh=>(⟨by rw [hh.1,hv],hh.2⟩:en=.returned (.bool false)∧W=w')))
     have HRF:=Za (show r=false by rw [←HR.out];exact ZbW (p:=fun t=>Zp t 1 255) HX.out hv);clear hv;go_wp2_with (go_at_call 79;refine (HF2 _).out.mono ?_;rintro en w1 ⟨rfl,rfl⟩);go_ret;exact ⟨by rw [HRF.out];first | done | rfl,rfl⟩
  · have hltN:decide (i<l.length)=false:=by simp;omega
    have hiL:¬(i:Int)<(l.length:Int):=by omega
    have he:i=l.length:=by omega
    have HRT:=Za (show r=true by have:=HA.out;rw [he,List.take_length] at this;rw [←HR.out];exact this);clear he hlt;go_wp2_with fail;go_ret;exact ⟨by rw [HRT.out];first | done | rfl,rfl⟩
theorem Zhx (a b:List (List Ac)):Zh (a++b)=Zh a+Zh b:=by simp [Zh]
theorem Zi2 (l:List Ac):Zh [l]=l.length:=by simp [Zh]
theorem Zfc (ls:List (List Ac)) (h:∀l ∈ ls,l.length≤1048576):∀i,Zh (ls.take i)≤i*1048576
 | 0=>by simp [Zh]
 | i+1=>by
  have ih:=Zfc ls h i
  cases hl:ls[i]? with
  | none =>
   have h1:=List.getElem?_eq_none_iff.1 hl;rw [List.take_of_length_le (by omega)];rw [List.take_of_length_le h1] at ih;exact Nat.le_trans ih (Nat.mul_le_mul_right _ (Nat.le_succ i))
  | some l =>
   have h2:=h l (List.mem_of_getElem? hl);rw [Zby hl,Nat.add_mul,Nat.one_mul];exact Nat.add_le_add ih h2
theorem PlMem.pm {w:World} {q:PlV} {P:Pl} {rs:List (Option Addr×Nat)} (h:PlMem w q P rs):Pm w q P:=⟨h.gl,h.vl,h.tl,h.g,h.l.1,h.l.2.1,h.l.2.2.1⟩
theorem PlMem.ev {w:World} {q:PlV} {P:Pl} {rs:List (Option Addr×Nat)} (h:PlMem w q P rs) {i:Nat} {l:List Ac} (hi:P.on[i]? = some l):∃oa c,rs[i]? = some (oa,c)∧Src w oa l.length (acs l)∧∃ad,q.oa=some ad∧ad.block<w.heap.size∧w.cell? (ad.add i)=some (.slice oa l.length c):=by
 have hil:=(gs_ hi).1;have hrl:=h.e.1;simp only [List.length_append,List.length_cons,List.length_nil] at hrl;obtain ⟨⟨oa,c⟩,hr⟩:∃r,rs[i]? = some r:=⟨_,ge_ (by omega)⟩;have h1:=h.e.2 i oa c l (by rw [List.getElem?_append_left (by omega)];exact hr) (by rw [List.getElem?_append_left hil];exact hi);obtain ⟨ad,e,h2,h3⟩:=Za3 h.o (i:=i) (by omega) (ZaS rs P.on i _ _ hr hi);exact ⟨oa,c,hr,h1.1,ad,e,h2,h3⟩
theorem PlMem.miss {w:World} {q:PlV} {P:Pl} {rs:List (Option Addr×Nat)} (h:PlMem w q P rs):Src w q.ma P.ms.length (acs P.ms):=by
 have hrl:=h.e.1;simp only [List.length_append,List.length_cons,List.length_nil] at hrl;exact (h.e.2 P.on.length q.ma q.mc P.ms (by rw [List.getElem?_append_right (by omega)];simp [show P.on.length - rs.length=0 by omega]) (by rw [List.getElem?_append_right lr_];simp)).1
theorem Zf3 {w:World} {g:Nat} {t:TypeId} {a b c d e:Value} (h:Blk w g t #[a,b,c,d,e]):w.cell? ⟨g,0,none⟩=some a∧w.cell? ⟨g,1,none⟩=some b∧w.cell? ⟨g,2,none⟩=some c∧w.cell? ⟨g,3,none⟩=some d∧w.cell? ⟨g,4,none⟩=some e∧g<w.heap.size :=
 ⟨by rw [h.cell];rfl,by rw [h.cell];rfl,by rw [h.cell];rfl,by rw [h.cell];rfl,by rw [h.cell];rfl,h.lt⟩
theorem Zej (w:World) (q:PlV) (P:Pl) (rs:List (Option Addr×Nat)) (h:PlMem w q P rs) (hbig:∀l ∈ P.on++[P.ms],l.length≤1048576) (hl:P.on.length≤1048576) :
 Calls Try.prog 30 #[q.val] w fun en w'=>en=.returned (.int .i64 (checkV P:Int))∧Below w.heap.size w w':=by
 have HM:=Za h;have HBIG:=Za hbig;obtain ⟨e1,e2,e3,e4,e5,_,_,_,_,_,l1,l2,l3,l4⟩:=h;obtain ⟨ga,va,ta,oa,ma,gl,gc,vl,vc,tl,tc,ol,oc,ml,mc⟩:=q;simp only at e1 e2 e3 e4 e5;subst e1 e2 e3 e4 e5;simp only [PlV.val];unfold maxLen at l1 l2 l3 l4;have HMS:=Za (hbig P.ms (by simp));obtain ⟨r,hr⟩:∃r:Nat,checkV P=r:=⟨_,rfl⟩;rw [hr];have HR:=Za hr;clear hbig hr;have HB1:=Za ((Below.refl w.heap.size w).alloc lr_ (.cells #[.slice ga P.gh.length gc,.slice va P.vs.length vc,.slice ta P.ts.length tc,.slice oa P.on.length oc,.slice ma P.ms.length mc] 28));have HK1:=Za (Blk.new w 28 #[.slice ga P.gh.length gc,.slice va P.vs.length vc,.slice ta P.ts.length tc,.slice oa P.on.length oc,.slice ma P.ms.length mc]);obtain ⟨W1,hW1⟩:∃W1,w.alloc (.cells #[.slice ga P.gh.length gc,.slice va P.vs.length vc,.slice ta P.ts.length tc,.slice oa P.on.length oc,.slice ma P.ms.length mc] 28)=W1:=⟨_,rfl⟩;have HW1:=Za hW1;rw [hW1] at HB1 HK1;clear hW1
 by_cases d1:P.gh.length≤16
 case neg =>
  have hd1:(16:Int)<(P.gh.length:Int):=by omega
  have HRF:=Za (show r=71 by rw [←HR.out];exact Zcc (fun h=>d1 h.1));clear d1;go_enter Try.func30,Try.ntmps30;go_wp2_with fail;go_ret;exact ⟨by rw [HRF.out];first | done | rfl,by rw [HW1.out];exact HB1.out⟩
 have hd1:¬(16:Int)<(P.gh.length:Int):=by omega
 by_cases d2:P.vs.length≤16
 case neg =>
  have hd2:(16:Int)<(P.vs.length:Int):=by omega
  have HRF:=Za (show r=71 by rw [←HR.out];exact Zcc (fun h=>d2 h.2.1));clear d2;go_enter Try.func30,Try.ntmps30;go_wp2_with fail;go_ret;exact ⟨by rw [HRF.out];first | done | rfl,by rw [HW1.out];exact HB1.out⟩
 have hd2:¬(16:Int)<(P.vs.length:Int):=by omega
 by_cases d3:P.ts.length≤4
 case neg =>
  have hd3:(4:Int)<(P.ts.length:Int):=by omega
  have HRF:=Za (show r=71 by rw [←HR.out];exact Zcc (fun h=>d3 h.2.2.1));clear d3;go_enter Try.func30,Try.ntmps30;go_wp2_with fail;go_ret;exact ⟨by rw [HRF.out];first | done | rfl,by rw [HW1.out];exact HB1.out⟩
 have hd3:¬(4:Int)<(P.ts.length:Int):=by omega
 have HV:=Za (fun (W:World) (hb:Below w.heap.size w W)=>Zl3 W va vc P.vs ((HM.out.below hb).v) (by omega));have HT:=Za (fun (W:World) (hb:Below w.heap.size w W)=>Zmb W ta tc P.ts ((HM.out.below hb).t) (by omega))
 cases hv:P.vs.all Zci with
 | false =>
  have HRF:=Za (show r=71 by rw [←HR.out];exact ZfZ hv);rw [hv] at HV;clear hv;go_enter Try.func30,Try.ntmps30;go_wp2_with fail;go_at_call 55;rw [HW1.out];with_reducible refine (HV.out _ HB1.out).mono ?_
  rintro en w2 ⟨rfl,hb2⟩;have HB2:=Za (HB1.out.trans (hb2.mono HB1.out.size));have hk2:=HK1.out.below hb2 HK1.out.lt;obtain ⟨p0,p1,p2,p3,p4,-⟩:=Zf3 hk2;have HK2:=Za hk2;clear hb2 hk2;go_wp2_with fail;go_ret;exact ⟨by rw [HRF.out];first | done | rfl,HB2.out⟩
 | true =>
  have HVT:=Za hv;rw [hv] at HV;clear hv
  cases ht:P.ts.all (fun t=>Zp t 1 255) with
  | false =>
   have HRF:=Za (show r=71 by rw [←HR.out];exact Zf0 ht);rw [ht] at HT;clear ht;go_enter Try.func30,Try.ntmps30;go_wp2_with fail;go_at_call 55;rw [HW1.out];with_reducible refine (HV.out _ HB1.out).mono ?_
   rintro en w2 ⟨rfl,hb2⟩;have HB2:=Za (HB1.out.trans (hb2.mono HB1.out.size));have hk2:=HK1.out.below hb2 HK1.out.lt;obtain ⟨p0,p1,p2,p3,p4,-⟩:=Zf3 hk2;have HK2:=Za hk2;clear hb2 hk2;go_wp2_with fail;go_at_call 56;with_reducible refine (HT.out _ HB2.out).mono ?_
   rintro en w3 ⟨rfl,rfl⟩;go_wp2_with fail;go_ret;exact ⟨by rw [HRF.out];first | done | rfl,HB2.out⟩
  | true =>
   have HTT:=Za ht;rw [ht] at HT;clear ht
   by_cases d4:P.on.length=P.gh.length
   case neg =>
    have hd4:¬(P.on.length:Int)=(P.gh.length:Int):=by omega
    have hd4b:((P.on.length:Int) != (P.gh.length:Int))=true:=by simp;omega
    have HRF:=Za (show r=71 by rw [←HR.out];exact Zcc (fun h=>d4 h.2.2.2));clear d4;go_enter Try.func30,Try.ntmps30;go_wp2_with fail;go_at_call 55;rw [HW1.out];with_reducible refine (HV.out _ HB1.out).mono ?_
    rintro en w2 ⟨rfl,hb2⟩;have HB2:=Za (HB1.out.trans (hb2.mono HB1.out.size));have hk2:=HK1.out.below hb2 HK1.out.lt;obtain ⟨p0,p1,p2,p3,p4,-⟩:=Zf3 hk2;have HK2:=Za hk2;clear hb2 hk2;go_wp2_with fail;go_at_call 56;with_reducible refine (HT.out _ HB2.out).mono ?_
    rintro en w3 ⟨rfl,rfl⟩;go_wp2_with fail;go_ret;exact ⟨by rw [HRF.out];first | done | rfl,HB2.out⟩
   obtain ⟨N,hN⟩:∃N,P.on.length=N:=⟨_,rfl⟩;obtain ⟨M,hM⟩:∃M,P.ms.length=M:=⟨_,rfl⟩;have HMS2:=Za (show M≤1048576 by rw [←hM];exact HMS.out);have hms:=HMS2.out;have hN16:N≤16:=by omega
   have HN:=Za hN;have HM9:=Za hM;have HD4:=Za d4;have HEM:=Za (fun (W:World) (hb:Below w.heap.size w W)=>ZhS W ⟨ga,va,ta,oa,ma,P.gh.length,gc,P.vs.length,vc,P.ts.length,tc,P.on.length,oc,P.ms.length,mc⟩ P ma mc P.ms (HM.out.below hb).pm (HM.out.below hb).miss HMS.out);have HEO:=Za (fun (W:World) (hb:Below w.heap.size w W) (oe:Option Addr) (ce:Nat) (l:List Ac) (hl:l ∈ P.on) (hs:Src W oe l.length (acs l))=>ZhS W ⟨ga,va,ta,oa,ma,P.gh.length,gc,P.vs.length,vc,P.ts.length,tc,P.on.length,oc,P.ms.length,mc⟩ P oe ce l (HM.out.below hb).pm hs (HBIG.out l (List.mem_append_left _ hl)));have HOV:=Za (fun (W:World) (hb:Below w.heap.size w W) (i:Nat) (l:List Ac) (hi:P.on[i]? = some l)=>(HM.out.below hb).ev hi);simp only [PlV.val] at HEM HEO;simp only at HOV;rw [hN] at HK1 HW1 HEM HEO l4 ⊢;rw [hM] at HK1 HW1 HEM HEO ⊢;have hgN:((N:Int) != (P.gh.length:Int))=false:=by simp;omega
   have hgNI:(N:Int)=(P.gh.length:Int):=by omega
   have HBS:=Za (fun (i:Nat)=>Zfc P.on (fun l hl=>HBIG.out l (List.mem_append_left _ hl)) i);clear hN hM d4 hgNI;go_enter Try.func30,Try.ntmps30;go_wp2_with fail;go_at_call 55;rw [HW1.out];with_reducible refine (HV.out _ HB1.out).mono ?_
   rintro en w2 ⟨rfl,hb2⟩;have HB2:=Za (HB1.out.trans (hb2.mono HB1.out.size));have hk2:=HK1.out.below hb2 HK1.out.lt;obtain ⟨p0,p1,p2,p3,p4,-⟩:=Zf3 hk2;have HK2:=Za hk2;clear hb2 hk2;go_wp2_with fail;go_at_call 56;with_reducible refine (HT.out _ HB2.out).mono ?_
   rintro en w3 ⟨rfl,rfl⟩;go_wp2_with fail;clear HV HT;go_loopw [3,4] (fun t3 t4 W=>∃i:Nat,t4=.int .i64 (i:Int)∧t3=.int .i64 ((M+Zh (P.on.take i):Nat):Int)∧i≤N∧W=w2) (fun _ t4 _=>N - (intOf t4).toNat)
   case atStart=>exact ⟨0,rfl,by simp [Zh],Nat.zero_le _,rfl⟩
   case round =>
    obtain ⟨i,rfl,rfl,hi,rfl⟩:=hrel;have u1:=IntWalk.i64_in ((i:Int)+1) (by omega);have hi0:(0:Int)≤(i:Int):=by omega
    by_cases hlt:i<N
    · have hltI:(i:Int)<(N:Int):=by omega
      obtain ⟨l,hl⟩:∃l,P.on[i]? = some l:=⟨_,ge_ (by rw [HN.out];exact hlt)⟩;obtain ⟨oe,ce,-,-,ad,e,hab,cl⟩:=HOV.out _ HB2.out i l hl;subst e;have HS:=Za (Zby hl);have hle:=HBS.out i;have hll:=HBIG.out l (List.mem_append_left _ (List.mem_of_getElem? hl));obtain ⟨sm,hsm⟩:∃sm,Zh (P.on.take i)=sm:=⟨_,rfl⟩;rw [hsm] at hle HS ⊢;have u2:=IntWalk.i64_in (((M+sm:Nat):Int)+(l.length:Int)) (by omega);clear hl hab hsm;obtain ⟨ms,hms2⟩:∃ms,M+sm=ms:=⟨_,rfl⟩;rw [hms2] at u2 ⊢;have HMS3:=Za hms2;have hms4:ms≤1048576*18:=by omega
      clear hms2 hle;go_wp2_with fail;go_roundw
      case rel =>
       refine ⟨i+1,by go_num,?_,by omega,trivial⟩;rw [HS.out,←Nat.add_assoc,HMS3.out];go_num
      case measure =>
       simp only [intOf];omega
    · have hltI:¬(i:Int)<(N:Int):=by omega
      obtain rfl:i=N:=by omega
      have hle:=HBS.out i;have HTK:Hid (P.on.take i=P.on):=Za (by rw [←HN.out,List.take_length]);rw [HTK.out] at hle ⊢;obtain ⟨ms,hms2⟩:∃ms,M+Zh P.on=ms:=⟨_,rfl⟩;rw [hms2];have HRV:Hid (Zh (P.on++[P.ms])=ms):=Za (by rw [Zhx,Zi2,HM9.out,←hms2,Nat.add_comm]);clear hms2 hle u1
      by_cases hbg:ms≤131072
      case neg =>
       have hbI:(131072:Int)<(ms:Int):=by omega
       have HRF:=Za (show r=71 by rw [←HR.out];exact Zf1 (by rw [HRV.out];exact hbg));clear hbg;go_wp2_with fail;go_ret;exact ⟨by rw [HRF.out];first | done | rfl,HB2.out⟩
      have hbI:¬(131072:Int)<(ms:Int):=by omega
      have HBG:=Za hbg;clear hbg;have HEM2:=Za (HEM.out _ HB2.out)
      cases hem:Zy P P.ms with
      | false =>
       have HRF:=Za (show r=71 by rw [←HR.out];exact ZcV (by rw [List.all_append,List.all_cons,hem];simp));rw [hem] at HEM2;clear hem;go_wp2_with fail;go_at_call 57;refine HEM2.out.mono ?_;rintro en w4 ⟨rfl,hb4⟩;have HB4:=Za (HB2.out.trans (hb4.mono HB2.out.size));clear hb4;go_wp2_with fail;go_ret;exact ⟨by rw [HRF.out];first | done | rfl,HB4.out⟩
      | true =>
       have HEMT:=Za hem;rw [hem] at HEM2;clear hem;go_wp2_with fail;go_at_call 57;refine HEM2.out.mono ?_;rintro en w4 ⟨rfl,hb4⟩;have HB4:=Za (HB2.out.trans (hb4.mono HB2.out.size));have hk4:=HK2.out.below hb4 HK2.out.lt;have HK4:=Za hk4;clear hb4 hk4;go_wp2_with fail;clear p0 p1 p2 p3 p4 hi0;go_loopw [5] (fun t5 W=>∃j:Nat,t5=.int .i64 (j:Int)∧j≤i∧Hid ((P.on.take j).all (Zy P)=true)∧Below w.heap.size w W∧Blk W w.heap.size 28 #[.slice ga P.gh.length gc,.slice va P.vs.length vc,.slice ta P.ts.length tc,.slice oa i oc,.slice ma M mc]) (fun t5 _=>i - (intOf t5).toNat)
       case atStart=>exact ⟨0,rfl,Nat.zero_le _,Za (by simp),HB4.out,HK4.out⟩
       case round =>
        clear HB4 HK4 HB2 HK2;obtain ⟨j,rfl,hj,HA,hb,hk⟩:=hrel;rename World=>W
        have HB:=Za hb;have HK:=Za hk;obtain ⟨p0,p1,p2,p3,p4,-⟩:=Zf3 hk;have u1:=IntWalk.i64_in ((j:Int)+1) (by omega);have hj0:(0:Int)≤(j:Int):=by omega
        by_cases hlt:j<i
        · have hltI:(j:Int)<(i:Int):=by omega
          obtain ⟨l,hl⟩:∃l,P.on[j]? = some l:=⟨_,ge_ (by rw [HN.out];exact hlt)⟩;obtain ⟨oe,ce,-,hs,ad,e,hab,cl⟩:=HOV.out _ hb j l hl;subst e;have HL:=Za hl;have HEL:=Za (fun (z:Grown W)=>HEO.out z.v (hb.trans (z.b.mono hb.size)) oe ce l (List.mem_of_getElem? hl) (hs.below z.b));have z0:∀z:Grown W,z.v.cell? ⟨w.heap.size,0,none⟩=_:=fun z=>(z.b.cell hk.lt).trans p0
          have z1:∀z:Grown W,z.v.cell? ⟨w.heap.size,1,none⟩=_:=fun z=>(z.b.cell hk.lt).trans p1
          have z2:∀z:Grown W,z.v.cell? ⟨w.heap.size,2,none⟩=_:=fun z=>(z.b.cell hk.lt).trans p2
          have z3:∀z:Grown W,z.v.cell? ⟨w.heap.size,3,none⟩=_:=fun z=>(z.b.cell hk.lt).trans p3
          have z4:∀z:Grown W,z.v.cell? ⟨w.heap.size,4,none⟩=_:=fun z=>(z.b.cell hk.lt).trans p4
          have zl:∀z:Grown W,z.v.cell? (ad.add j)=_:=fun z=>(z.b.cell (by rw [Zl];exact hab)).trans cl
          clear hl hs hab cl hb hk;go_upto_region 13 with fail
          cases he:Zy P l with
          | false =>
           have HRF:=Za (show r=71 by rw [←HR.out];exact ZcV (by rw [List.all_append,ZbW HL.out he];rfl));rw [he] at HEL;have HEL2:=fun (z:Grown W)=>Za (ZaK (HEL.out z))
           clear he HEL;refine Za1 (Below.refl W.heap.size W) (by kernel_rfl) (by kernel_rfl) ?_
           repeat (go_big_quiet_step ((go_at_call 57;exact (HEL2 _).out)))
           refine wpQuiet_nil ?_;intro w5 hw5;obtain ⟨⟨w5,hb5⟩,rfl⟩:=hw5;have HB5:=Za hb5;clear hb5 z0 z1 z2 z3 z4 zl;go_wp2_with fail;go_ret;exact ⟨by rw [HRF.out];first | done | rfl,HB.out.trans (HB5.out.mono HB.out.size)⟩
          | true =>
           have HET:=Za he;rw [he] at HEL;have HEL2:=fun (z:Grown W)=>Za (ZaK (HEL.out z))
           clear he HEL;refine Za1 (Below.refl W.heap.size W) (by kernel_rfl) (by kernel_rfl) ?_
           repeat (go_big_quiet_step ((go_at_call 57;exact (HEL2 _).out)))
           refine wpQuiet_nil ?_;intro w5 hw5;obtain ⟨⟨w5,hb5⟩,rfl⟩:=hw5;have HB5:=Za hb5;clear hb5 z0 z1 z2 z3 z4 zl;go_wp2_with fail;go_roundw
           case rel=>exact ⟨j+1,by go_num,by omega,Za (Za7 HL.out HA.out HET.out),HB.out.trans (HB5.out.mono HB.out.size),HK.out.below HB5.out HK.out.lt⟩
           case measure =>
            simp only [intOf];omega
        · have hltI:¬(j:Int)<(i:Int):=by omega
          have HAL:Hid (P.on.all (Zy P)=true):=Za (by have h1:=HA.out;rw [show j=P.on.length by rw [HN.out];omega,List.take_length] at h1;exact h1);have HRT:=Za (show r=0 by rw [←HR.out];exact ZhY d1 d2 d3 HD4.out HVT.out HTT.out (by rw [HRV.out];exact HBG.out) (by rw [List.all_append,HAL.out,List.all_cons,HEMT.out];rfl));clear hb hk;go_wp2_with fail;go_ret;exact ⟨by rw [HRT.out];first | done | rfl,HB.out⟩
end Go.Proofs.Ytdpokdcendgfeaa
