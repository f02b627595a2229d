/- Several texts in one: The walk of fold.parents. The walk of fold.done. Conditions: those of each. -/
import Derived.Test.YtdpokdcendgfeaaW10
import Derived.Test.YtdpokdcendgfeaaW3b
import Derived.Deep.CutBlock
import Derived.Deep.DeepMust
import Derived.StillTailTactics
set_option linter.unusedSimpArgs false
set_option linter.unusedVariables false
set_option maxHeartbeats 80000000
set_option maxRecDepth 100000
namespace Go.Proofs.Ytdpokdcendgfeaa
open Go.RowKit
def ZbB (lk:List Int):List Nat→List Nat
 | []=>[]
 | i::st=>if lk[i]?.getD 0=0 then ZbB lk st else i::st
structure PS where
 st:List Nat
 (lk ov:List Int)
def ZaN (s:PS) (at_:Nat) (k:Int):PS :=
 match ZbB s.lk s.st with
 | []=>⟨[at_],s.lk.set at_ k,s.ov.set at_ (-1)⟩
 | i::r=>⟨at_::i::r,(s.lk.set i (s.lk[i]?.getD 0 - 1)).set at_ k,s.ov.set at_ (i:Int)⟩
def ZaT (l:List Ac):Nat→PS
 | 0=>⟨[],List.replicate l.length 0,List.replicate l.length 0⟩
 | j+1=>ZaN (ZaT l j) j ((l[j]?.map Ac.n).getD 0)
def Zcx (l:List Ac):List Int:=(ZaT l l.length).ov
theorem Zfq {lk:List Int} {i:Nat}:∀(st:List Nat),i ∈ ZbB lk st→i ∈ st
 | [],h=>h
 | j::st,h=>by
  unfold ZbB at h;split at h
  · exact List.mem_cons_of_mem _ (Zfq st h)
  · exact h
theorem Zdz {lk:List Int} {i:Nat} {r:List Nat}:∀(st:List Nat),ZbB lk st=i::r→lk[i]?.getD 0≠0
 | [],h=>by cases h
 | j::st,h=>by
  unfold ZbB at h;split at h
  · exact Zdz st h
  · next h9 =>
    injection h with h1 h2;subst h1;exact h9
theorem Zfr {lk:List Int}:∀(st:List Nat),(ZbB lk st).length≤st.length
 | []=>lr_
 | j::st=>by
  unfold ZbB;split
  · have:=Zfr (lk:=lk) st;simp only [List.length_cons];omega
  · exact lr_
structure PSok (l:List Ac) (j:Nat) (s:PS):Prop where
 lk:s.lk.length=l.length
 ov:s.ov.length=l.length
 st:∀i ∈ s.st,i<j
 b:∀(i:Nat) (x:Int),s.lk[i]? = some x→0≤x∧x≤262144
 n:s.st.length≤j
theorem Zmc {l:List Ac} (hs:Z7 l) (j:Nat):0≤(l[j]?.map Ac.n).getD 0∧(l[j]?.map Ac.n).getD 0≤262144:=by
 cases h:l[j]? with
 | none=>simp
 | some x=>exact hs.2 x (List.mem_of_getElem? h)
theorem Zgb {L:List Int} {i j:Nat} {v x:Int} {p:Int→Prop} (h:(L.set i v)[j]? = some x) (hv:p v) (hL:∀x,L[j]? = some x→p x):p x:=by
 rw [List.getElem?_set] at h;split at h
 · split at h
   · injection h with h;subst h;exact hv
   · cases h
 · exact hL x h
theorem Zi6 {l:List Ac} (hs:Z7 l) {j:Nat} {s:PS} (h:PSok l j s):PSok l (j+1) (ZaN s j ((l[j]?.map Ac.n).getD 0)):=by
 have hn:=Zmc hs j;unfold ZaN;split
 · exact ⟨by simp [h.lk],by simp [h.ov],fun i hi=>by simp at hi;omega,fun i x hx=>Zgb (p:=fun x=>0≤x∧x≤262144) hx hn (fun x hx=>h.b i x hx),by simp⟩
 · next i r hp =>
   have hi0:=Zdz _ hp;have hm:∀q ∈ i::r,q<j:=fun q hq=>h.st q (Zfq (lk:=s.lk) _ (by rw [hp];exact hq))
   have hpl:=Zfr (lk:=s.lk) s.st;rw [hp] at hpl;have hnn:=h.n;refine ⟨by simp [h.lk],by simp [h.ov],fun q hq=>?_,fun q x hx=>Zgb (p:=fun x=>0≤x∧x≤262144) hx hn (fun x hx=>Zgb (p:=fun x=>0≤x∧x≤262144) hx ?_ (fun x hx=>h.b q x hx)),by simp only [List.length_cons] at hpl ⊢;omega⟩
   · rcases List.mem_cons.1 hq with rfl | hq
     · omega
     · have:=hm q hq;omega
   · cases hx2:s.lk[i]? with
     | none=>rw [hx2] at hi0;simp at hi0
     | some y =>
      rw [hx2] at hi0;have:=h.b i y hx2;simp at hi0 ⊢;omega
theorem Zdb {l:List Ac} (hs:Z7 l):∀j,PSok l j (ZaT l j)
 | 0=>⟨by simp [ZaT],by simp [ZaT],fun i hi=>by simp [ZaT] at hi,fun i x hx=>by simp [ZaT,List.getElem?_replicate] at hx;omega,by simp [ZaT]⟩
 | j+1=>Zi6 hs (Zdb hs j)
def stI (s:List Nat):List Int:=s.reverse.map fun (i:Nat)=>(i:Int)
theorem Zms {W:World} {B g n c:Nat} {t:TypeId} {xs:List Value} {x:Value} (h:W.ownsRow B t 1 (.slice (some ⟨g,0,none⟩) (n+1) c) (n+1) (xs++[x])):W.ownsRow B t 1 (.slice (some ⟨g,0,none⟩) n c) n xs:=by
 have hl:=h.1;simp only [List.length_append,List.length_cons,List.length_nil,Nat.zero_add,Nat.mul_one] at hl;refine ⟨by omega,.inr ?_⟩;rcases h.2 with ⟨e,_⟩ | ⟨g',cap,cur,e,hb,hg,h1,h2,h3,h4⟩
 · simp at e
 · simp only [Value.slice.injEq,Option.some.injEq,Addr.mk.injEq,and_true,true_and] at e;obtain ⟨rfl,rfl⟩:=e;refine ⟨g,c,cur,rfl,hb,hg,by omega,h2,h3,?_⟩;have h5:=congrArg (List.take n) h4;rw [List.take_take,Nat.mul_one,Nat.min_eq_left (by omega),List.take_left' (by omega)] at h5;simpa using h5
theorem ZcS {s:PS} {a:Nat} {k:Int} (h:ZbB s.lk s.st=[]):ZaN s a k=⟨[a],s.lk.set a k,s.ov.set a (-1)⟩:=by
 unfold ZaN;rw [h]
theorem Zcy {s:PS} {a i:Nat} {k:Int} {r:List Nat} (h:ZbB s.lk s.st=i::r):ZaN s a k=⟨a::i::r,(s.lk.set i (s.lk[i]?.getD 0 - 1)).set a k,s.ov.set a (i:Int)⟩:=by
 unfold ZaN;rw [h]
theorem Zdj (i:Nat) (r:List Nat):stI (i::r)=stI r++[(i:Int)]:=by simp [stI]
theorem ZeS (r:List Nat):(Zm (stI r)).length=r.length:=by simp [stI,Zm]
theorem Zft (a b:List Int):Zm (a++b)=Zm a++Zm b:=by simp [Zm]
theorem ZeE (xs:List Int) (y:Int):Zm (xs++[y])=Zm xs++[.int .i64 y]:=by simp [Zm]
theorem Zek (w:World) {p q:Addr} (h:q.block≠p.block) (u:Value):(w.setCell p u).cell? q=w.cell? q:=World.cell?_of_block (Below.heap_setCell w p u q.block h)
theorem ZkU {l:List Ac} {j N i:Nat} {r:List Nat} {s:PS} (h:∀q ∈ i::r,q<j) (hN:N≤262144) (hj:j<N) (hok:PSok l j s) (hp:ZbB s.lk s.st=i::r):r.length+1≤262144+1:=by
 have hpl:=Zfr (lk:=s.lk) s.st;rw [hp] at hpl;have hnn:=hok.n;simp only [List.length_cons] at hpl;omega
def Znh:Value→Nat
 | .slice _ n _=>n
 | _=>0
theorem ZgK (w:World) (ad:Addr) (c:Nat) (l:List Ac) (h:Ro w ad c l) (hs:Z7 l) :
 Calls Try.prog 74 #[.slice (some ad) l.length c] w fun en w'=>∃g,en=.returned (.slice (some ⟨g,0,none⟩) l.length l.length)∧w.heap.size≤g∧Blk w' g 3 (Zm (Zcx l)).toArray∧Below w.heap.size w w':=by
 have hln:=hs.1;have HRO:=Za h;have HSM:=Za hs;have HP:=Za (show Zcx l=(ZaT l l.length).ov from rfl);have HOK:=Za (fun j=>Zdb hs j);obtain ⟨N,hN⟩:∃n,l.length=n:=⟨_,rfl⟩;have hmk:=fun (X:World)=>ZeB X N (by omega)
 have HMK:=Za hmk;have HB0:=Za (((Below.refl w.heap.size w).alloc lr_ (.cells (Zm (List.replicate N 0)).toArray 3)).alloc (by simp) (.cells (Zm (List.replicate N 0)).toArray 3));have HO0:=Za (show Blk ((w.alloc (.cells (Zm (List.replicate N 0)).toArray 3)).alloc (.cells (Zm (List.replicate N 0)).toArray 3)) w.heap.size 3 (Zm (List.replicate N 0)).toArray from (Blk.new w 3 _).alloc _);have HL0:=Za (show Blk ((w.alloc (.cells (Zm (List.replicate N 0)).toArray 3)).alloc (.cells (Zm (List.replicate N 0)).toArray 3)) (w.heap.size+1) 3 (Zm (List.replicate N 0)).toArray from by have h9:=Blk.new (w.alloc (.cells (Zm (List.replicate N 0)).toArray 3)) 3 (Zm (List.replicate N 0)).toArray;rwa [show (w.alloc (.cells (Zm (List.replicate N 0)).toArray 3)).heap.size=w.heap.size+1 by simp] at h9);rw [hN] at HP hln;rw [hN];have HN:=Za hN;clear h hs hN;go_enter Try.func74,Try.ntmps74;go_upto_region 5 with fail;generalize ((w.alloc (.cells (Zm (List.replicate N 0)).toArray 3)).alloc (.cells (Zm (List.replicate N 0)).toArray 3))=W1 at HB0 HO0 HL0 ⊢;obtain ⟨g0,hg0⟩:∃g,w.heap.size=g:=⟨_,rfl⟩;have HNG:=Za (World.ownsRow_nil W1 (w.heap.size+2) 3 1);have hsz:w.heap.size+2≤W1.heap.size:=by have:=HL0.out.lt;omega
 have HSZ:=Za hsz;rw [hg0] at HB0 HO0 HL0 HNG HSZ;simp only [hg0];have HG0:=Za hg0;clear hmk hg0 hsz;go_loopw [4,15] (fun t4 t15 W=>∃j:Nat,t15=.int .i64 (j:Int)∧j≤N∧W.ownsRow (g0+2) 3 1 t4 (ZaT l j).st.length (Zm (stI (ZaT l j).st))∧Blk W g0 3 (Zm (ZaT l j).ov).toArray∧Blk W (g0+1) 3 (Zm (ZaT l j).lk).toArray∧Below g0 w W∧g0+2≤W.heap.size) (fun _ t15 _=>N - (intOf t15).toNat)
 case atStart =>
  have e0:ZaT l 0=⟨[],List.replicate N 0,List.replicate N 0⟩:=by rw [←HN.out];rfl
  refine ⟨0,rfl,Nat.zero_le _,?_,?_,?_,HB0.out,HSZ.out⟩
  · rw [e0];exact HNG.out
  · rw [e0];exact HO0.out
  · rw [e0];exact HL0.out
 case round =>
  obtain ⟨j,rfl,hj,how,hbo,hbl,hb,hsz⟩:=hrel;obtain ⟨wo,hwo⟩:∃wo:World,wo=wr:=⟨_,rfl⟩;subst hwo;have HOW:=Za how;have HBO:=Za hbo;have HBL:=Za hbl;have HB:=Za hb;have HSZJ:=Za hsz;have hq:=IntWalk.i64_in ((j:Int)+1) (by omega)
  by_cases hjn:j<N
  · have hjI:(j:Int)<(N:Int):=by omega
    have hj0:(0:Int)≤(j:Int):=by omega
    have HJN:=Za hjn;obtain ⟨s,hs⟩:∃s,ZaT l j=s:=⟨_,rfl⟩;have hok:=HOK.out j;rw [hs] at HOW HBO HBL hok;have HS:=Za hs;have HOKJ:=Za hok;obtain ⟨sp,hsp⟩:∃sp,ZbB s.lk s.st=sp:=⟨_,rfl⟩;have HSP:=Za hsp;clear how hbo hbl hb hsz hs hok hsp;go_upto_block 2 with fail;go_cut [4] from 18 to 37 (fun t4 W=>W=wo∧wo.ownsRow (g0+2) 3 1 t4 sp.length (Zm (stI sp)))
    case first =>
     go_wp2_with fail;go_loopw [4] (fun t4 W=>∃s',W=wo∧wo.ownsRow (g0+2) 3 1 t4 s'.length (Zm (stI s'))∧ZbB s.lk s'=sp∧∀i ∈ s',i<j) (fun t4 _=>Znh t4)
     case atStart=>exact ⟨s.st,rfl,HOW.out,HSP.out,HOKJ.out.st⟩
     case round =>
      obtain ⟨s',rfl,how2,hp2,hlt2⟩:=hrel
      cases s' with
      | nil =>
       obtain ⟨oa4,c4,rfl⟩:=Zg how2;have HOW2:=Za how2;have HP2:=Za hp2;clear how2 hp2 hlt2;simp only [List.length_nil];go_wp2_with fail;go_meet
       case rel=>exact ⟨rfl,by rw [←HP2.out];exact HOW2.out⟩
      | cons i r =>
       obtain ⟨g,cap,rfl,hcap,hcm⟩:=Zam how2 (by simp);obtain ⟨y,hy⟩:∃y,s.lk[i]? = some y:=⟨_,ge_ (by have:=hlt2 i (by simp);have:=HOKJ.out.lk;have:=HN.out;have:=HJN.out;omega)⟩;have clk:=Zae HBL.out hy;have hown3:=how2;rw [Zdj,Zft] at hown3;have ctop:=ZdS how2 r.length (.int .i64 (i:Int)) (by rw [Zdj,Zft,List.getElem?_append_right (by rw [ZeS];omega),ZeS];simp [Zm]);have HPOP:=Za (Zms (n:=r.length) hown3);obtain ⟨R,hR⟩:∃R,r.length=R:=⟨_,rfl⟩;rw [hR] at ctop HPOP;simp only [List.length_cons,hR] at hcap ⊢;obtain ⟨NR,hNR⟩:∃n,R+1=n:=⟨_,rfl⟩;rw [hNR] at hcap;simp only [hNR];have HR:=Za hR;have HNR:=Za hNR;unfold maxLen at hcm;have hpos:(0:Int)<(NR:Int):=by omega
       have hw1:=IntWalk.i64_in ((NR:Int) - 1) (by omega);have ht1:((NR:Int) - 1).toNat=R:=by omega
       have hb1:(0:Int)≤(NR:Int) - 1:=by omega
       have hb2:(NR:Int) - 1<(NR:Int):=by omega
       have hb3:(NR:Int) - 1≤(cap:Int):=by omega
       have hi1:(i:Int)<(N:Int):=by have:=hlt2 i (by simp);omega
       have hi0:(0:Int)≤(i:Int):=by omega
       have HOW2:=Za how2;have HP2:=Za hp2;have HLT2:=Za hlt2;have HY:=Za hy;clear how2 hp2 hlt2 hy hown3 hR hNR hcap hcm
       by_cases hy0:y=0
       · have hyb:(y == 0)=true:=by simp [hy0]
         have HY0:=Za hy0;clear hy0;go_wp2_with fail;go_roundw
         case rel=>exact ⟨r,trivial,by rw [HR.out];exact HPOP.out,by have h9:=HP2.out;unfold ZbB at h9;rw [HY.out,HY0.out] at h9;simpa using h9,fun q hq=>HLT2.out q (List.mem_cons_of_mem _ hq)⟩
         case measure =>
          simp only [Znh];omega
       · have hyb:(y == 0)=false:=by simp [hy0]
         have HY0:=Za hy0;clear hy0;go_wp2_with fail;go_meet
         case rel =>
          have h9:=HP2.out;unfold ZbB at h9;rw [HY.out,if_neg (by simpa using HY0.out)] at h9;refine ⟨rfl,?_⟩;rw [←h9,List.length_cons,HR.out,HNR.out];have h8:=HOW2.out;rw [List.length_cons,HR.out,HNR.out] at h8;exact h8
    case rest =>
     obtain ⟨rfl,how3⟩:=hcut;obtain ⟨x,hx⟩:∃x,l[j]? = some x:=⟨_,ge_ (by have:=HN.out;have:=HJN.out;omega)⟩;have HX:=Za hx;have hbw:Below w.heap.size w wc:=by rw [HG0.out];exact HB.out
     obtain ⟨ad9,e9,hab,hrow⟩:=Zq HRO.out.s hx;injection e9 with e9;subst e9;have hrow2:=ZbM.below (p:=ad.add (j*6)) hrow (by rw [Zl];exact hab) hbw;have HQ1:=Za hrow2.2.2.2.2.2;have hna:(ad.add (j*6)).block<g0:=by rw [Zl,←HG0.out];exact hab
     have hn1:(ad.add (j*6)).block≠g0:=by omega
     have hn2:(ad.add (j*6)).block≠g0+1:=by omega
     obtain ⟨i3,hi3,hz0,hz1,hz2⟩:=ZD Zjk;have hjN:=HJN.out;have hjl:j<s.lk.length:=by have:=HOKJ.out.lk;have:=HN.out;omega
     have hjo:j<s.ov.length:=by have:=HOKJ.out.ov;have:=HN.out;omega
     obtain ⟨yo,hyo⟩:∃y,s.ov[j]? = some y:=⟨_,ge_ hjo⟩;have co:=Zae HBO.out hyo;have fo:=HBO.out.frozen j;have HNX:=Za (show ZaT l (j+1)=ZaN s j x.n by show ZaN (ZaT l j) j _=_;rw [HS.out,hx];rfl);have hsz1:=HSZJ.out;clear hrow hrow2 hbw hx hyo hab;have HOW3:=Za how3;clear how3;have hspl:∀q ∈ sp,q<j:=fun q hq=>HOKJ.out.st q (Zfq (lk:=s.lk) _ (by rw [HSP.out];exact hq))
     have HSPL:=Za hspl;clear hspl
     cases sp with
     | nil =>
      have hown:=HOW3.out;obtain ⟨oa4,c4,rfl⟩:=Zg hown;clear hown;simp only [List.length_nil] at HOW3 ⊢;go_upto_region 10 with fail;have HBO4:=Za (by have h9:=HBO.out.set_ j (.int .i64 (-1));rwa [ZbS] at h9);have HBL4:=Za (HBL.out.far (p:=⟨g0,j,none⟩) (by show g0+1≠g0;omega) (.int .i64 (-1)));have HOW4:=Za (ZA HOW3.out (p:=⟨g0,j,none⟩) (fun e=>by have h9:g0+2≤g0:=(HOW3.out.lt _ e).1;omega) (.int .i64 (-1)));have HB4:=Za (HB.out.setCell (p:=⟨g0,j,none⟩) lr_ (.int .i64 (-1)));have HQ4:=Za ((Zek wc (p:=⟨g0,j,none⟩) (q:=⟨(ad.add (j*6)).block,(ad.add (j*6)).off+5,none⟩) hn1 (.int .i64 (-1))).trans HQ1.out);generalize wc.setCell ⟨g0,j,none⟩ (.int .i64 (-1))=W4 at HBO4 HBL4 HOW4 HB4 HQ4 ⊢;have HLS:=Za (Nat.zero_le 262144);have HLS2:=Za (show True from trivial);obtain ⟨yl,hyl⟩:∃y,(s.lk)[j]? = some y:=⟨_,ge_ (by first | exact hjl | (simp;exact hjl))⟩;have cl:=Zae HBL4.out hyl;have fl:=HBL4.out.frozen j;have cq:=HQ4.out;have hyl9:=Za hyl;clear hyl;go_upto_region 14 with fail;have HBO8:=Za (HBO4.out.far (p:=⟨g0+1,j,none⟩) (by show g0≠g0+1;omega) (.int .i64 x.n));have HBL8:=Za (by have h9:=HBL4.out.set_ j (.int .i64 x.n);rwa [ZbS] at h9);have HOW8:=Za (ZA HOW4.out (p:=⟨g0+1,j,none⟩) (fun e=>by have h9:g0+2≤g0+1:=(HOW4.out.lt _ e).1;omega) (.int .i64 x.n));have HB8:=Za (HB4.out.setCell (p:=⟨g0+1,j,none⟩) (by show g0≤g0+1;omega) (.int .i64 x.n));have HQ8:=Za (True.intro);generalize W4.setCell ⟨g0+1,j,none⟩ (.int .i64 x.n)=W8 at HBO8 HBL8 HOW8 HB8 HQ8 ⊢;have hs8:g0+2≤W8.heap.size:=by have:=HBL8.out.lt;omega
      have HS8:=Za hs8;have HOA:=Za (Zbq (w':=W8.alloc (.cells #[.int .i64 (j:Int)] 3)) HOW8.out (fun g hg=>Below.heap_alloc _ _ g (HOW8.out.lt g hg).2));have HTW:=Za (ZhB W8 3 (.int .i64 (j:Int)));go_wp2_with (at_builtin;go_must (refine wpList_append_own_at _ rfl (.tmp 70) (.tmp 72) 24 rfl (g0+2) 3 i3 _ 1 8 Try.underlying24 hi3 hz0 hz1 hz2 rfl (by decide) (.slice oa4 0 c4) 0 [] rfl HOA.out ⟨W8.heap.size,0,none⟩ 1 1 [.int .i64 (j:Int)] rfl rfl HTW.out (by simp [Value.oneCell']) (by unfold maxLen;have:=HLS.out;omega) (by have:=HLS.out;omega) (by have:=HS8.out;simp;omega) ?_);rintro v3 w3 hown3 hgr3 hnil3 hat3;clear hnil3 hat3;have HO9:=Za hown3;have HG9:=Za hgr3;clear hown3 hgr3);go_roundw
      case rel =>
       have hgb:∀k,(Value.ownBlock _=some k)→g0+2≤k:=fun k hk=>(HOA.out.lt k hk).1
       have hon:Only (fun k=>g0+2≤k) W8 w3:=((Only.refl _ W8).alloc _).grown HG9.out (fun k hk=>.inl (hgb k hk));refine ⟨j+1,by go_num,by omega,?_,?_,?_,?_,by have:=hon.size;have:=HS8.out;omega⟩
       · rw [HNX.out,ZcS HSP.out];simp only [Zdj,ZeE,List.length_cons,List.length_nil];exact HO9.out
       · rw [HNX.out,ZcS HSP.out];have h9:=HBO8.out.only hon (by omega);simpa [List.set_set] using h9
       · rw [HNX.out,ZcS HSP.out];exact HBL8.out.only hon (by omega)
       · exact HB8.out.trans (hon.below (B:=g0) (fun k hk=>by omega) (by have:=HS8.out;omega))
      case measure =>
       simp only [intOf];omega
     | cons i r =>
      obtain ⟨g,cap,hu4,hcap,hcm⟩:=Zam HOW3.out (by simp);subst hu4;obtain ⟨yi,hyi⟩:∃y,s.lk[i]? = some y:=⟨_,ge_ (by have:=HSPL.out i (by simp);omega)⟩;have hyi0:yi≠0:=by have h9:=Zdz _ HSP.out;rw [hyi] at h9;simpa using h9
      have hyib:=HOKJ.out.b i yi hyi;have hilt:=HSPL.out i (by simp);obtain ⟨R,hR⟩:∃R,r.length=R:=⟨_,rfl⟩;obtain ⟨NR,hNR⟩:∃n,R+1=n:=⟨_,rfl⟩;simp only [List.length_cons,hR,hNR] at HOW3 hcap ⊢;have HR:=Za hR;have HNR:=Za hNR;unfold maxLen at hcm;have hNN:NR≤262144+1:=by rw [←hNR,←hR];exact ZkU (fun q hq=>HSPL.out q hq) hln hjN HOKJ.out HSP.out
      have hpos:(0:Int)<(NR:Int):=by omega
      have hw1:=IntWalk.i64_in ((NR:Int) - 1) (by omega);have ht1:((NR:Int) - 1).toNat=R:=by omega
      have hb1:(0:Int)≤(NR:Int) - 1:=by omega
      have hb2:(NR:Int) - 1<(NR:Int):=by omega
      have hi1:(i:Int)<(N:Int):=by omega
      have hi0:(0:Int)≤(i:Int):=by omega
      have hw2:=IntWalk.i64_in (yi - 1) (by omega);have HYI:=Za hyi;have HNN:=Za hNN;clear hyi hR hNR hcm;go_upto_region 10 with fail;have HBO4:=Za (by have h9:=HBO.out.set_ j (.int .i64 (-1));rwa [ZbS] at h9);have HBL4:=Za (HBL.out.far (p:=⟨g0,j,none⟩) (by show g0+1≠g0;omega) (.int .i64 (-1)));have HOW4:=Za (ZA HOW3.out (p:=⟨g0,j,none⟩) (fun e=>by have h9:g0+2≤g0:=(HOW3.out.lt _ e).1;omega) (.int .i64 (-1)));have HB4:=Za (HB.out.setCell (p:=⟨g0,j,none⟩) lr_ (.int .i64 (-1)));have HQ4:=Za ((Zek wc (p:=⟨g0,j,none⟩) (q:=⟨(ad.add (j*6)).block,(ad.add (j*6)).off+5,none⟩) hn1 (.int .i64 (-1))).trans HQ1.out);generalize wc.setCell ⟨g0,j,none⟩ (.int .i64 (-1))=W4 at HBO4 HBL4 HOW4 HB4 HQ4 ⊢;have ctop:=ZdS HOW4.out R (.int .i64 (i:Int)) (by rw [Zdj,Zft,List.getElem?_append_right (by rw [ZeS,HR.out];exact lr_),ZeS,HR.out];simp [Zm]);clear co fo;have co:=Zae HBO4.out (j:=j) (x:=-1) (by rw [List.getElem?_set_self hjo]);have fo:=HBO4.out.frozen j;go_upto_region 12 with fail;have HBO5:=Za (by have h9:=HBO4.out.set_ j (.int .i64 (i:Int));rwa [ZbS,List.set_set] at h9);have HBL5:=Za (HBL4.out.far (p:=⟨g0,j,none⟩) (by show g0+1≠g0;omega) (.int .i64 (i:Int)));have HOW5:=Za (ZA HOW4.out (p:=⟨g0,j,none⟩) (fun e=>by have h9:g0+2≤g0:=(HOW4.out.lt _ e).1;omega) (.int .i64 (i:Int)));have HB5:=Za (HB4.out.setCell (p:=⟨g0,j,none⟩) lr_ (.int .i64 (i:Int)));have HQ5:=Za ((Zek W4 (p:=⟨g0,j,none⟩) (q:=⟨(ad.add (j*6)).block,(ad.add (j*6)).off+5,none⟩) hn1 (.int .i64 (i:Int))).trans HQ4.out);generalize W4.setCell ⟨g0,j,none⟩ (.int .i64 (i:Int))=W5 at HBO5 HBL5 HOW5 HB5 HQ5 ⊢;clear co fo ctop;have co:=Zae HBO5.out (j:=j) (x:=(i:Int)) (by rw [List.getElem?_set_self hjo]);have ci:=Zae HBL5.out HYI.out;have fi:=HBL5.out.frozen i;go_upto_region 13 with fail;have HBO6:=Za (HBO5.out.far (p:=⟨g0+1,i,none⟩) (by show g0≠g0+1;omega) (.int .i64 (yi - 1)));have HBL6:=Za (by have h9:=HBL5.out.set_ i (.int .i64 (yi - 1));rwa [ZbS] at h9);have HOW6:=Za (ZA HOW5.out (p:=⟨g0+1,i,none⟩) (fun e=>by have h9:g0+2≤g0+1:=(HOW5.out.lt _ e).1;omega) (.int .i64 (yi - 1)));have HB6:=Za (HB5.out.setCell (p:=⟨g0+1,i,none⟩) (by show g0≤g0+1;omega) (.int .i64 (yi - 1)));have HQ6:=Za ((Zek W5 (p:=⟨g0+1,i,none⟩) (q:=⟨(ad.add (j*6)).block,(ad.add (j*6)).off+5,none⟩) hn2 (.int .i64 (yi - 1))).trans HQ5.out);generalize W5.setCell ⟨g0+1,i,none⟩ (.int .i64 (yi - 1))=W6 at HBO6 HBL6 HOW6 HB6 HQ6 ⊢;clear co ci fi;obtain ⟨yl,hyl⟩:∃y,(s.lk.set i (yi - 1))[j]? = some y:=⟨_,ge_ (by first | exact hjl | (simp;exact hjl))⟩;have cl:=Zae HBL6.out hyl;have fl:=HBL6.out.frozen j;have cq:=HQ6.out;have hyl9:=Za hyl;clear hyl;go_upto_region 14 with fail;have HBO8:=Za (HBO6.out.far (p:=⟨g0+1,j,none⟩) (by show g0≠g0+1;omega) (.int .i64 x.n));have HBL8:=Za (by have h9:=HBL6.out.set_ j (.int .i64 x.n);rwa [ZbS] at h9);have HOW8:=Za (ZA HOW6.out (p:=⟨g0+1,j,none⟩) (fun e=>by have h9:g0+2≤g0+1:=(HOW6.out.lt _ e).1;omega) (.int .i64 x.n));have HB8:=Za (HB6.out.setCell (p:=⟨g0+1,j,none⟩) (by show g0≤g0+1;omega) (.int .i64 x.n));have HQ8:=Za (True.intro);generalize W6.setCell ⟨g0+1,j,none⟩ (.int .i64 x.n)=W8 at HBO8 HBL8 HOW8 HB8 HQ8 ⊢;have hs8:g0+2≤W8.heap.size:=by have:=HBL8.out.lt;omega
      have HS8:=Za hs8;have HOA:=Za (Zbq (w':=W8.alloc (.cells #[.int .i64 (j:Int)] 3)) HOW8.out (fun g hg=>Below.heap_alloc _ _ g (HOW8.out.lt g hg).2));have HTW:=Za (ZhB W8 3 (.int .i64 (j:Int)));go_wp2_with (at_builtin;refine wpList_append_own_at _ rfl (.tmp 70) (.tmp 72) 24 rfl (g0+2) 3 i3 _ 1 8 Try.underlying24 hi3 hz0 hz1 hz2 rfl (by decide) (.slice (some ⟨g,0,none⟩) NR cap) NR (Zm (stI (i::r))) rfl HOA.out ⟨W8.heap.size,0,none⟩ 1 1 [.int .i64 (j:Int)] rfl rfl HTW.out (by simp [Value.oneCell']) (by unfold maxLen;have:=HNN.out;omega) (by have:=HNN.out;omega) (by have:=HS8.out;simp;omega) ?_;rintro v3 w3 hown3 hgr3 hnil3 hat3;clear hnil3 hat3;have HO9:=Za hown3;have HG9:=Za hgr3;clear hown3 hgr3);go_roundw
      case rel =>
       have hgb:∀k,(Value.ownBlock _=some k)→g0+2≤k:=fun k hk=>(HOA.out.lt k hk).1
       have hon:Only (fun k=>g0+2≤k) W8 w3:=((Only.refl _ W8).alloc _).grown HG9.out (fun k hk=>.inl (hgb k hk));refine ⟨j+1,by go_num,by omega,?_,?_,?_,?_,by have:=hon.size;have:=HS8.out;omega⟩
       · rw [HNX.out,Zcy HSP.out];simp only [List.length_cons,HR.out,HNR.out];rw [Zdj,ZeE];exact HO9.out
       · rw [HNX.out,Zcy HSP.out];exact HBO8.out.only hon (by omega)
       · rw [HNX.out,Zcy HSP.out];simp only [HYI.out,Option.getD_some];exact HBL8.out.only hon (by omega)
       · exact HB8.out.trans (hon.below (B:=g0) (fun k hk=>by omega) (by have:=HS8.out;omega))
      case measure =>
       simp only [intOf];omega
  · have HJE:=Za (show j=N by omega);have hjI:¬(j:Int)<(N:Int):=by omega
    clear how hbo hbl hb hsz;go_wp2_with fail;go_ret;exact ⟨g0,rfl,by rw [HG0.out];exact lr_,by rw [HP.out,←HJE.out];exact HBO.out,by rw [HG0.out];exact HB.out⟩
section
attribute [local go_sem] par Zah
theorem Zmr {l:List Ac} (hs:Z7 l):(Zcx l).length=l.length:=(Zdb hs l.length).ov
def addN (d:Int) (x:Ac):Ac:={ x with n:=x.n+d }
def ZbA (l:List Ac) (f:Fd):List Ac:=[l.take f.frm,f.inn.getD [],l.drop f.to_].flatten
def ZY (l:List Ac) (f:Fd):List Ac:=if f.frm=0 then ZbA l f else (ZbA l f).modify ((Zcx l)[f.frm]?.getD 0).toNat (addN (f.parts - f.gone))
theorem Zk5 {l:List Ac} {f:Fd} {p:Nat} (h:p<f.frm) (hl:f.frm≤l.length):(ZbA l f)[p]? = l[p]?:=by
 unfold ZbA;rw [List.flatten_cons,List.getElem?_append_left (by rw [List.length_take];omega),List.getElem?_take,if_pos h]
structure DnOk (l:List Ac) (f:Fd):Prop where
 lt:f.frm<f.to_
 le:f.to_≤l.length
 up:0<f.frm→∃p:Nat,(Zcx l)[f.frm]? = some (p:Int)∧p<f.frm
 inn:(f.inn.getD []).length≤131072
 d:-200000≤f.parts∧f.parts≤200000 ∧ -200000≤f.gone∧f.gone≤200000
theorem Zmo {w:World} {oa:Option Addr} {n c:Nat} {o:Option (List Ac)} (h:Rin w (.slice oa n c) o):n=(o.getD []).length∧Src w oa (o.getD []).length (acs (o.getD []))∧(o.getD []).length≤c∧c≤maxLen:=by
 cases o with
 | none =>
  have h2:Value.slice oa n c=.slice none 0 0:=h;injection h2 with h3 h4 h5;subst h3 h4 h5;exact ⟨rfl,fun hp=>absurd hp (by simp),by simp,by decide⟩
 | some r =>
  obtain ⟨oa2,c2,e,h1,h2,h3⟩:=h;injection e with e1 e2 e3;subst e1 e2 e3;exact ⟨rfl,h1,h2,h3⟩
theorem ZnR {w:World} {p q r:Option Addr} {cp cq cr:Nat} {k l m:List Ac} (h1:Src w p k.length (acs k)∧k.length≤cp∧cp≤maxLen) (h2:Src w q l.length (acs l)∧l.length≤cq∧cq≤maxLen) (h3:Src w r m.length (acs m)∧m.length≤cr∧cr≤maxLen):ZaW w [(p,cp),(q,cq),(r,cr)] [k,l,m] :=
 ⟨rfl,fun i oa c l' e1 e2=>by
  match i with
  | 0=>simp at e1 e2;obtain ⟨rfl,rfl⟩:=e1;subst e2;exact h1
  | 1=>simp at e1 e2;obtain ⟨rfl,rfl⟩:=e1;subst e2;exact h2
  | 2=>simp at e1 e2;obtain ⟨rfl,rfl⟩:=e1;subst e2;exact h3
  | i+3=>simp at e1⟩
theorem Zmm {w:World} {a:Addr} {c:Nat} {l:List Ac} (h:Ro w a c l) (n:Nat) (hn:n≤l.length):Src w (some a) (l.take n).length (acs (l.take n))∧(l.take n).length≤c∧c≤maxLen:=by
 have h1:=ZeT (r:=(0,n)) h.s (Nat.zero_le _) hn;have e:sub l (0,n)=l.take n:=by simp [sub]
 rw [e,show a.add ((0,n).1*6)=a by simp [Addr.add]] at h1;exact ⟨h1,by have:=h.n;rw [List.length_take];omega,h.m⟩
theorem Zmn {w:World} {a:Addr} {c:Nat} {l:List Ac} (h:Ro w a c l) (n:Nat) (hn:n≤l.length):Src w (some (if c=n then a else a.add (n*6))) (l.drop n).length (acs (l.drop n))∧(l.drop n).length≤c - n∧c - n≤maxLen:=by
 have h9:=h.n;have h8:=h.m;refine ⟨?_,by rw [List.length_drop];omega,by omega⟩
 by_cases hc:c=n
 · intro hp;rw [List.length_drop] at hp;omega
 · rw [if_neg hc];have h1:=ZeT (r:=(n,l.length)) h.s hn lr_
   have e:sub l (n,l.length)=l.drop n:=by
    unfold sub;rw [List.take_of_length_le (by simp)]
   rw [e] at h1;exact h1
structure JD (W:World) (K:Nat→Value→World→Prop) (F:World→Prop) (S:Nat→Bool) (vs:Nat→Value) (w:World):Prop where
 j:S 18=false→JG W K S vs w
 f:S 18=true→F w
theorem JD.b {W w:World} {K:Nat→Value→World→Prop} {F:World→Prop} {S:Nat→Bool} {vs:Nat→Value} (h:JD W K F S vs w) (h18:S 18=false):Below W.heap.size W w:=(h.j h18).b
theorem JD.k {W w:World} {K:Nat→Value→World→Prop} {F:World→Prop} {S:Nat→Bool} {vs:Nat→Value} (h:JD W K F S vs w) (h18:S 18=false) (i:Nat) (hi:S i=true):K i (vs i) w:=(h.j h18).k i hi
theorem JD.start {W:World} {K:Nat→Value→World→Prop} {F:World→Prop} (vs:Nat→Value) (h:∀i v w,19≤i→K i v w):JD W K F (fun i=>decide (19≤i)) vs W.drew :=
 ⟨fun _=>JG.start vs h,fun e=>by simp at e⟩
theorem JD.step {W w w':World} {K:Nat→Value→World→Prop} {F:World→Prop} {S:Nat→Bool} {vs:Nat→Value} {j:Nat} {u:Value} (h:JD W K F S vs w) (hj:j≠18) (hK:StK K) (h18:S 18=false) (hb:Below w.heap.size w w') (hu:K j u w'):JD W K F (upn S j true) (upn vs j u) w' :=
 ⟨fun _=>(h.j h18).step hK hb hu,fun e=>by rw [Zd (Ne.symm hj),h18] at e;cases e⟩
theorem JD.last {W w':World} {K:Nat→Value→World→Prop} {F:World→Prop} {S:Nat→Bool} {vs:Nat→Value} {u:Value} (hF:F w'):JD W K F (upn S 18 true) (upn vs 18 u) w' :=
 ⟨fun e=>(by rw [Ze] at e;cases e),fun _=>hF⟩
def K24 (ov lv:Value) (pv:List Int) (g0:Nat) (pa:Addr) (frm p n parts gone:Int):Nat→Value→World→Prop
 | 0,v,_=>v=ov
 | 1,v,_=>v=lv
 | 2,v,w=>∃g N,v=.slice (some ⟨g,0,none⟩) N N∧Blk w g 3 (Zm pv).toArray∧pv.length=N
 | 3,v,_=>v=.pointer (some ⟨g0,1,none⟩)
 | 4,v,_=>v=.int .i64 frm
 | 5,v,w=>∃g,v=.pointer (some ⟨g,frm.toNat,none⟩)∧Blk w g 3 (Zm pv).toArray
 | 6,v,_=>v=.int .i64 p
 | 7,v,_=>v=.pointer (some pa)
 | 8,v,_=>v=.pointer (some ⟨pa.block,pa.off+5,none⟩)
 | 9,v,_=>v=.int .i64 n
 | 10,v,_=>v=.pointer (some ⟨g0,4,none⟩)
 | 11,v,_=>v=.int .i64 parts
 | 12,v,_=>v=.pointer (some ⟨g0,5,none⟩)
 | 13,v,_=>v=.int .i64 gone
 | 14,v,_=>v=.int .i64 (parts - gone)
 | 15,v,_=>v=.int .i64 (n+(parts - gone))
 | 16,v,_=>v=.pointer (some pa)
 | 17,v,_=>v=.pointer (some ⟨pa.block,pa.off+5,none⟩)
 | _,_,_=>True
theorem Zbk (ov lv:Value) (pv:List Int) (g0:Nat) (pa:Addr) (frm p n parts gone:Int):StK (K24 ov lv pv g0 pa frm p n parts gone):=fun i v w w' h hb=>by
 match i with
 | 0 | 1 | 3 | 4 | 6 | 7 | 8 | 9 | 10 | 11 | 12 | 13 | 14 | 15 | 16 | 17=>exact h
 | 2 =>
  obtain ⟨g,N,h1,h2,h3⟩:=h;exact ⟨g,N,h1,h2.below hb h2.lt,h3⟩
 | 5 =>
  obtain ⟨g,h1,h2⟩:=h;exact ⟨g,h1,h2.below hb h2.lt⟩
 | _+18=>trivial
theorem Zh7:∀(l:List Ac) (p:Nat) (y:Ac) (d:Int),l[p]? = some y→(acs l).set (p*6+5) (.int .i64 (y.n+d))=acs (l.modify p (addN d))
 | [],p,y,d,h=>by simp at h
 | x::l,0,y,d,h=>by
  simp only [List.getElem?_cons_zero,Option.some.injEq] at h;subst h;rfl
 | x::l,p+1,y,d,h=>by
  have ih:=Zh7 l p y d (by simpa using h);have e:acs (x::l)=x.cells++acs l:=by simp [acs]
  rw [e,List.set_append_right _ _ (by show 6≤(p+1)*6+5;omega),show (p+1)*6+5 - x.cells.length=p*6+5 by show (p+1)*6+5 - 6=_;omega,ih];simp [acs,List.modify_succ_cons]
theorem ZkD (w:World) (ad:Addr) (c:Nat) (l:List Ac) (f:Fd) (v:Value) (h:Ro w ad c l) (hs:Z7 l) (hl:l.length≤131072) (hf:FdV w v f) (hd:DnOk l f) :
 Calls Try.prog 61 #[.slice (some ad) l.length c,v] w fun en w'=>∃u,en=.returned u∧w'.ownsRow w.heap.size 49 6 u (ZY l f).length (acs (ZY l f))∧Below w.heap.size w w':=by
 obtain ⟨u,rfl,hin⟩:=hf
 obtain ⟨oin,nin,cin,rfl⟩:∃oa n c,u=.slice oa n c:=by
  cases hi:f.inn with
  | none=>rw [hi] at hin;exact ⟨_,_,_,hin⟩
  | some r=>rw [hi] at hin;obtain ⟨oa,c,e⟩:=hin.slice;exact ⟨_,_,_,e⟩
 have HSM:=Za hs;have HPA:=Za (fun (W:World) (hb:Below w.heap.size w W)=>ZgK W ad c l (h.below hb) hs);obtain ⟨N,hN⟩:∃n,l.length=n:=⟨_,rfl⟩;have hlt:=hd.lt;have hle:=hd.le;rw [hN] at hle HPA;rw [hN];have hNc:N≤c:=by rw [←hN];exact h.n
 have HRO:=Za h;have HD:=Za hd;have HIN:=Za hin;have HN:=Za hN;have hcm:=h.m;have HL:=Za hl;have HB0:=Za ((Below.refl w.heap.size w).alloc lr_ (.cells #[.int .i64 (f.what:Int),.int .i64 (f.frm:Int),.int .i64 (f.to_:Int),.slice oin nin cin,.int .i64 f.parts,.int .i64 f.gone] 90));have HF:=Za (Blk.new w 90 #[.int .i64 (f.what:Int),.int .i64 (f.frm:Int),.int .i64 (f.to_:Int),.slice oin nin cin,.int .i64 f.parts,.int .i64 f.gone]);have h1:(0:Int)≤(f.frm:Int):=by omega
 have h2:(f.frm:Int)≤(c:Int):=by omega
 have h3:(0:Int)≤(f.to_:Int):=by omega
 have h4:(f.to_:Int)≤(N:Int):=by omega
 have h5:(N:Int)≤(c:Int):=by omega
 clear h hs hl hd hin hN;go_enter Try.func61,Try.ntmps61;go_upto_region 1 with fail;generalize w.alloc (.cells #[.int .i64 (f.what:Int),.int .i64 (f.frm:Int),.int .i64 (f.to_:Int),.slice oin nin cin,.int .i64 f.parts,.int .i64 f.gone] 90)=W1 at HB0 HF ⊢;go_cut [5] (fun t5 W=>W.ownsRow w.heap.size 49 6 t5 (ZbA l f).length (acs (ZbA l f))∧Blk W w.heap.size 90 #[.int .i64 (f.what:Int),.int .i64 (f.frm:Int),.int .i64 (f.to_:Int),.slice oin nin cin,.int .i64 f.parts,.int .i64 f.gone]∧Below w.heap.size w W)
 case first =>
  obtain ⟨f0,f1,f2,f3,f4,f5,hgfl⟩:=Zk HF.out;have hin2:=Zmo HIN.out;obtain ⟨hni,hsi,hci,hcm2⟩:=hin2;have hbw2:Below w.heap.size w W1.drew:=HB0.out.drew;have ht:=Zmm (HRO.out.below hbw2) f.frm (by have:=HD.out.lt;have:=HD.out.le;omega);have hdr:=Zmn (HRO.out.below hbw2) f.to_ HD.out.le;obtain ⟨A,hA⟩:∃A,(if c=f.to_ then ad else ad.add (f.to_*6))=A:=⟨_,rfl⟩;rw [hA] at hdr;have hev:=ZnR ht ⟨hsi.below hbw2,hci,hcm2⟩ hdr;have HEV:=Za hev;have HA:=Za hA;have HNI:=Za hni;clear hsi hci hcm2 hbw2 ht hdr hev hA hni;have HPL:=Za (show Zh [l.take f.frm,f.inn.getD [],l.drop f.to_]=(ZbA l f).length by simp [Zh,ZbA]);go_still_tail 10,(by kernel_rfl);change wpList _ _ _ _ _ W1.drew;have HB2:=Za HB0.out.drew;have HF2:=Za HF.out.drew;generalize W1.drew=W2 at HB2 HF2 HEV ⊢;have HBA:=Za ((Below.refl W2.heap.size W2).alloc lr_ (.cells #[.slice (some ad) f.frm c,.slice oin nin cin,.slice (some A) (N - f.to_) (c - f.to_)] 26))
  have hjn:=ZfU (W2.alloc (.cells #[.slice (some ad) f.frm c,.slice oin nin cin,.slice (some A) (N - f.to_) (c - f.to_)] 26)) (some ⟨W2.heap.size,0,none⟩) 3 [(some ad,c),(oin,cin),(some A,c - f.to_)] [l.take f.frm,f.inn.getD [],l.drop f.to_] (by
   have h9:=ZaM (t:=26) 3 (Blk.new W2 26 [.slice (some ad) f.frm c,.slice oin nin cin,.slice (some A) (N - f.to_) (c - f.to_)].toArray);simp only [slv,List.length_take,List.length_drop,HN.out,←HNI.out];rw [Nat.min_eq_left (by have:=HD.out.lt;have:=HD.out.le;have:=HN.out;omega)]
   exact h9) (HEV.out.below HBA.out) (by simp) (by have h9:=HD.out.inn;have:=HL.out;simp [Zh];omega)
  simp only [List.length_cons,List.length_nil,Nat.zero_add,Nat.reduceAdd] at hjn;have HJN:=Za hjn;clear hjn;have HPE:=Za (show [l.take f.frm,f.inn.getD [],l.drop f.to_].flatten=ZbA l f from rfl);have HIF1:=Za (fun h:c=f.to_=>show (if c=f.to_ then some ad else some (ad.add (f.to_*6)))=some A by rw [←HA.out];simp [h]);have HIF2:=Za (fun h:¬c=f.to_=>show some (ad.add (f.to_*6))=some A by rw [←HA.out];simp [h])
  have hcc:(A=ad∧c=f.to_)∨(A=ad.add (f.to_*6)∧¬c=f.to_):=by
   by_cases hct:c=f.to_
   · exact .inl ⟨by rw [←HA.out];simp [hct],hct⟩
   · exact .inr ⟨by rw [←HA.out];simp [hct],hct⟩
  clear HIF1 HIF2;rcases hcc with ⟨rfl,rfl⟩ | ⟨rfl,hct⟩
  · obtain rfl:N=f.to_:=by omega
    simp only [Nat.sub_self] at HJN HBA
    go_wp2_with (
     go_at_call 100;with_reducible refine HJN.out.mono ?_
     rintro en W3 ⟨u,rfl,ho3,hb3⟩;have HO3:=Za ho3;have HB3:=Za (HB2.out.trans ((HBA.out.trans (hb3.mono HBA.out.size)).mono HB2.out.size));have HF3:=Za (HF2.out.below (HBA.out.trans (hb3.mono HBA.out.size)) HF2.out.lt)
     clear ho3 hb3)
    go_meet
    case rel=>exact ⟨by rw [←HPL.out];exact Zv HO3.out (by have:=HBA.out.size;have:=HB2.out.size;simp at *;omega),HF3.out,HB3.out⟩
  · go_wp2_with (
     go_at_call 100;with_reducible refine HJN.out.mono ?_
     rintro en W3 ⟨u,rfl,ho3,hb3⟩;have HO3:=Za ho3;have HB3:=Za (HB2.out.trans ((HBA.out.trans (hb3.mono HBA.out.size)).mono HB2.out.size));have HF3:=Za (HF2.out.below (HBA.out.trans (hb3.mono HBA.out.size)) HF2.out.lt)
     clear ho3 hb3)
    go_meet
    case rel=>exact ⟨by rw [←HPL.out];exact Zv HO3.out (by have:=HBA.out.size;have:=HB2.out.size;simp at *;omega),HF3.out,HB3.out⟩
 case rest =>
  obtain ⟨ho,hf,hb⟩:=hcut;have HO3:=Za ho;have HF3:=Za hf;have HB3:=Za hb;clear ho hf hb;obtain ⟨f0,f1,f2,f3,f4,f5,hgfl⟩:=Zk HF3.out
  by_cases hz:f.frm=0
  · have hzn:¬(0:Int)<(f.frm:Int):=by omega
    have HZ:=Za hz;clear hz;go_wp2_with fail;go_ret;exact ⟨_,rfl,by unfold ZY;rw [if_pos HZ.out];exact HO3.out,HB3.out⟩
  · have hzn:(0:Int)<(f.frm:Int):=by omega
    have HZ:=Za hz;obtain ⟨p,hpv,hplt⟩:=HD.out.up (by omega);have hlo:p<(ZbA l f).length:=by have:=HD.out.lt;have:=HD.out.le;simp [ZbA];omega
    obtain ⟨go,co,hu5,hoc,hcm9⟩:=Zam HO3.out (by omega);subst hu5;obtain ⟨y,hy⟩:∃y,(ZbA l f)[p]? = some y:=⟨_,ge_ (by omega)⟩;have hyl:l[p]? = some y:=by rw [←Zk5 hplt (by have:=HD.out.lt;have:=HD.out.le;omega)];exact hy
    have hyn:=HSM.out.2 y (List.mem_of_getElem? hyl);obtain ⟨ad9,e9,hgob,_,_,_,_,_,q5⟩:=Zq (Zak HO3.out) hy;injection e9 with e9;subst e9;have HGO:=Za (show go<wc.heap.size from hgob);rw [show ((⟨go,0,none⟩:Addr).add (p*6))=⟨go,p*6,none⟩ by cases p <;> simp [Addr.add]] at q5;have HYN:=Za q5;have HG0:=Za hgfl;have HPV:=Za hpv;have HY:=Za hy;have HPN:=Za (show (Zcx l).length=N by rw [Zmr HSM.out,HN.out]);have hft:(f.frm:Int).toNat=f.frm:=by omega
    have hdd:=HD.out.d;have hw1:=IntWalk.i64_in (f.parts - f.gone) (by omega);have hw2:=IntWalk.i64_in (y.n+(f.parts - f.gone)) (by omega);obtain ⟨NO,hNO⟩:∃n,(ZbA l f).length=n:=⟨_,rfl⟩;rw [hNO] at HO3 hoc hlo;simp only [hNO];have HNO:=Za hNO;have hp1:(p:Int)<(NO:Int):=by omega
    have hp0:(0:Int)≤(p:Int):=by omega
    have hfN:(f.frm:Int)<(N:Int):=by omega
    clear hz hpv hgob q5 hy hyl hNO hcm9 hdd hlo hoc hplt;go_upto_region 3 with fail;refine ZB (JD wc (K24 (.slice (some ⟨go,0,none⟩) NO co) (.slice (some ad) N c) (Zcx l) w.heap.size ⟨go,p*6,none⟩ (f.frm:Int) (p:Int) y.n f.parts f.gone) (fun w9=>w9.ownsRow w.heap.size 49 6 (.slice (some ⟨go,0,none⟩) NO co) NO (acs (ZY l f))∧Below w.heap.size w w9)) [[],[],[1],[],[3],[1,2,3,4],[1,2,3,4,5],[0,1,2,3,4,5,6],[0,1,2,3,4,5,6,7],[0,1,2,3,4,5,6,7,8],[],[10],[],[12],[10,11,12,13],[0,1,2,3,4,5,6,7,8,9,10,11,12,13,14],[0,1,2,3,4,5,6,7,8,9,10,11,12,13,14,15],[0,1,2,3,4,5,6,7,8,9,10,11,12,13,14,15,16],[0,1,2,3,4,5,6,7,8,9,10,11,12,13,14,15,16,17]] (by kernel_rfl) (by kernel_rfl) (fun vs=>JD.start vs (fun i v w hi=>by match i,hi with | _+18,_=>trivial)) (fun vs=>?_);refine Zb rfl (fun S w9 hS hA hD hJ R hR=>?_) (fun K hK=>?_)
    · have hbj:=(hJ.b (hD 18 (by decide) (by decide)));go_simp;exact hR _ _ (hJ.step (by decide) (Zbk _ _ _ _ _ _ _ _ _ _) (hD 18 (by decide) (by decide)) br_ rfl)
    go_simp;refine hK _ ?_;clear hK K;refine Zb rfl (fun S w9 hS hA hD hJ R hR=>?_) (fun K hK=>?_)
    · have hbj:=(hJ.b (hD 18 (by decide) (by decide)));go_simp;exact hR _ _ (hJ.step (by decide) (Zbk _ _ _ _ _ _ _ _ _ _) (hD 18 (by decide) (by decide)) br_ rfl)
    go_simp;refine hK _ ?_;clear hK K;refine Zb rfl (fun S w9 hS hA hD hJ R hR=>?_) (fun K hK=>?_)
    · have hbj:=(hJ.b (hD 18 (by decide) (by decide)));have k1:vs 1=_:=hJ.k (hD 18 (by decide) (by decide)) 1 (hA 1 (by decide));have hfin:=(HPA.out w9 (HB3.out.trans (hbj.mono HB3.out.size))).mono (fun en w'' hh=>show ∃u,en=.returned u∧R u w'' from (by obtain ⟨g,e1,e2,e3,e4⟩:=hh;exact ⟨_,e1,hR _ _ (hJ.step (by decide) (Zbk _ _ _ _ _ _ _ _ _ _) (hD 18 (by decide) (by decide)) e4 ⟨g,N,rfl,e3,HPN.out⟩)⟩));refine ZbZ 74 #[.tmp 22] #[26] (by rfl) Try.f74 Try.func74 (by decide) (by unfold Try.f74;simp) #[.slice (some ad) N c] ?_ hfin;simp [Act.eval,Act.put,k1]
    go_simp;refine hK _ ?_;clear hK K;refine Zb rfl (fun S w9 hS hA hD hJ R hR=>?_) (fun K hK=>?_)
    · have hbj:=(hJ.b (hD 18 (by decide) (by decide)));go_simp;exact hR _ _ (hJ.step (by decide) (Zbk _ _ _ _ _ _ _ _ _ _) (hD 18 (by decide) (by decide)) br_ rfl)
    go_simp;refine hK _ ?_;clear hK K;refine Zb rfl (fun S w9 hS hA hD hJ R hR=>?_) (fun K hK=>?_)
    · have hbj:=(hJ.b (hD 18 (by decide) (by decide)));have k3:vs 3=_:=hJ.k (hD 18 (by decide) (by decide)) 3 (hA 3 (by decide));have z0:=(hbj.cell (p:=⟨w.heap.size,1,none⟩) HG0.out).trans f1;simp only [k3];go_simp;exact hR _ _ (hJ.step (by decide) (Zbk _ _ _ _ _ _ _ _ _ _) (hD 18 (by decide) (by decide)) br_ rfl)
    go_simp;refine hK _ ?_;clear hK K;refine Zb rfl (fun S w9 hS hA hD hJ R hR=>?_) (fun K hK=>?_)
    · have hbj:=(hJ.b (hD 18 (by decide) (by decide)));obtain ⟨gp,N9,e2,hpb,hn9⟩:=hJ.k (hD 18 (by decide) (by decide)) 2 (hA 2 (by decide));have hn8:(f.frm:Int)<(N9:Int):=by rw [←hn9,HPN.out];exact hfN
      have k4:vs 4=_:=hJ.k (hD 18 (by decide) (by decide)) 4 (hA 4 (by decide));simp only [e2,k4];go_simp;exact hR _ _ (hJ.step (by decide) (Zbk _ _ _ _ _ _ _ _ _ _) (hD 18 (by decide) (by decide)) br_ ⟨gp,by rw [hft],hpb⟩)
    go_simp;refine hK _ ?_;clear hK K;refine Zb rfl (fun S w9 hS hA hD hJ R hR=>?_) (fun K hK=>?_)
    · have hbj:=(hJ.b (hD 18 (by decide) (by decide)));obtain ⟨gp,e5,hpb⟩:=hJ.k (hD 18 (by decide) (by decide)) 5 (hA 5 (by decide));have z0:=Zae hpb HPV.out;rw [hft] at e5;simp only [e5];go_simp;exact hR _ _ (hJ.step (by decide) (Zbk _ _ _ _ _ _ _ _ _ _) (hD 18 (by decide) (by decide)) br_ rfl)
    go_simp;refine hK _ ?_;clear hK K;refine Zb rfl (fun S w9 hS hA hD hJ R hR=>?_) (fun K hK=>?_)
    · have hbj:=(hJ.b (hD 18 (by decide) (by decide)));have k0:vs 0=_:=hJ.k (hD 18 (by decide) (by decide)) 0 (hA 0 (by decide));have k6:vs 6=_:=hJ.k (hD 18 (by decide) (by decide)) 6 (hA 6 (by decide));simp only [k0,k6];go_simp;exact hR _ _ (hJ.step (by decide) (Zbk _ _ _ _ _ _ _ _ _ _) (hD 18 (by decide) (by decide)) br_ rfl)
    go_simp;refine hK _ ?_;clear hK K;refine Zb rfl (fun S w9 hS hA hD hJ R hR=>?_) (fun K hK=>?_)
    · have hbj:=(hJ.b (hD 18 (by decide) (by decide)));have k7:vs 7=_:=hJ.k (hD 18 (by decide) (by decide)) 7 (hA 7 (by decide));simp only [k7];go_simp;exact hR _ _ (hJ.step (by decide) (Zbk _ _ _ _ _ _ _ _ _ _) (hD 18 (by decide) (by decide)) br_ rfl)
    go_simp;refine hK _ ?_;clear hK K;refine Zb rfl (fun S w9 hS hA hD hJ R hR=>?_) (fun K hK=>?_)
    · have hbj:=(hJ.b (hD 18 (by decide) (by decide)));have k8:vs 8=_:=hJ.k (hD 18 (by decide) (by decide)) 8 (hA 8 (by decide));have z0:=(hbj.cell (p:=⟨go,p*6+5,none⟩) HGO.out).trans HYN.out;simp only [k8];go_simp;exact hR _ _ (hJ.step (by decide) (Zbk _ _ _ _ _ _ _ _ _ _) (hD 18 (by decide) (by decide)) br_ rfl)
    go_simp;refine hK _ ?_;clear hK K;refine Zb rfl (fun S w9 hS hA hD hJ R hR=>?_) (fun K hK=>?_)
    · have hbj:=(hJ.b (hD 18 (by decide) (by decide)));go_simp;exact hR _ _ (hJ.step (by decide) (Zbk _ _ _ _ _ _ _ _ _ _) (hD 18 (by decide) (by decide)) br_ rfl)
    go_simp;refine hK _ ?_;clear hK K;refine Zb rfl (fun S w9 hS hA hD hJ R hR=>?_) (fun K hK=>?_)
    · have hbj:=(hJ.b (hD 18 (by decide) (by decide)));have k10:vs 10=_:=hJ.k (hD 18 (by decide) (by decide)) 10 (hA 10 (by decide));have z0:=(hbj.cell (p:=⟨w.heap.size,4,none⟩) HG0.out).trans f4;simp only [k10];go_simp;exact hR _ _ (hJ.step (by decide) (Zbk _ _ _ _ _ _ _ _ _ _) (hD 18 (by decide) (by decide)) br_ rfl)
    go_simp;refine hK _ ?_;clear hK K;refine Zb rfl (fun S w9 hS hA hD hJ R hR=>?_) (fun K hK=>?_)
    · have hbj:=(hJ.b (hD 18 (by decide) (by decide)));go_simp;exact hR _ _ (hJ.step (by decide) (Zbk _ _ _ _ _ _ _ _ _ _) (hD 18 (by decide) (by decide)) br_ rfl)
    go_simp;refine hK _ ?_;clear hK K;refine Zb rfl (fun S w9 hS hA hD hJ R hR=>?_) (fun K hK=>?_)
    · have hbj:=(hJ.b (hD 18 (by decide) (by decide)));have k12:vs 12=_:=hJ.k (hD 18 (by decide) (by decide)) 12 (hA 12 (by decide));have z0:=(hbj.cell (p:=⟨w.heap.size,5,none⟩) HG0.out).trans f5;simp only [k12];go_simp;exact hR _ _ (hJ.step (by decide) (Zbk _ _ _ _ _ _ _ _ _ _) (hD 18 (by decide) (by decide)) br_ rfl)
    go_simp;refine hK _ ?_;clear hK K;refine Zb rfl (fun S w9 hS hA hD hJ R hR=>?_) (fun K hK=>?_)
    · have hbj:=(hJ.b (hD 18 (by decide) (by decide)));have k11:vs 11=_:=hJ.k (hD 18 (by decide) (by decide)) 11 (hA 11 (by decide));have k13:vs 13=_:=hJ.k (hD 18 (by decide) (by decide)) 13 (hA 13 (by decide));simp only [k11,k13];go_simp;exact hR _ _ (hJ.step (by decide) (Zbk _ _ _ _ _ _ _ _ _ _) (hD 18 (by decide) (by decide)) br_ rfl)
    go_simp;refine hK _ ?_;clear hK K;refine Zb rfl (fun S w9 hS hA hD hJ R hR=>?_) (fun K hK=>?_)
    · have hbj:=(hJ.b (hD 18 (by decide) (by decide)));have k9:vs 9=_:=hJ.k (hD 18 (by decide) (by decide)) 9 (hA 9 (by decide));have k14:vs 14=_:=hJ.k (hD 18 (by decide) (by decide)) 14 (hA 14 (by decide));simp only [k9,k14];go_simp;exact hR _ _ (hJ.step (by decide) (Zbk _ _ _ _ _ _ _ _ _ _) (hD 18 (by decide) (by decide)) br_ rfl)
    go_simp;refine hK _ ?_;clear hK K;refine Zb rfl (fun S w9 hS hA hD hJ R hR=>?_) (fun K hK=>?_)
    · have hbj:=(hJ.b (hD 18 (by decide) (by decide)));have k0:vs 0=_:=hJ.k (hD 18 (by decide) (by decide)) 0 (hA 0 (by decide));have k6:vs 6=_:=hJ.k (hD 18 (by decide) (by decide)) 6 (hA 6 (by decide));simp only [k0,k6];go_simp;exact hR _ _ (hJ.step (by decide) (Zbk _ _ _ _ _ _ _ _ _ _) (hD 18 (by decide) (by decide)) br_ rfl)
    go_simp;refine hK _ ?_;clear hK K;refine Zb rfl (fun S w9 hS hA hD hJ R hR=>?_) (fun K hK=>?_)
    · have hbj:=(hJ.b (hD 18 (by decide) (by decide)));have k16:vs 16=_:=hJ.k (hD 18 (by decide) (by decide)) 16 (hA 16 (by decide));simp only [k16];go_simp;exact hR _ _ (hJ.step (by decide) (Zbk _ _ _ _ _ _ _ _ _ _) (hD 18 (by decide) (by decide)) br_ rfl)
    go_simp;refine hK _ ?_;clear hK K;refine Zb rfl (fun S w9 hS hA hD hJ R hR=>?_) (fun K hK=>?_)
    · have hbj:=(hJ.b (by rw [hS]));have hbj0:Below w.heap.size wc w9:=hbj.mono HB3.out.size;have k17:vs 17=_:=hJ.k (by rw [hS]) 17 (hA 17 (by decide));have k15:vs 15=_:=hJ.k (by rw [hS]) 15 (hA 15 (by decide));have how:=Zx HO3.out hbj lr_;obtain ⟨hst,hgr⟩:=World.ownsRow.stored how (p*6+5) (.int .i64 (y.n+(f.parts - f.gone)));rw [Zh7 _ _ _ _ HY.out] at hst;have hdn:ZY l f=(ZbA l f).modify p (addN (f.parts - f.gone)):=by unfold ZY;rw [if_neg HZ.out,HPV.out];rfl
      rw [←hdn] at hst;have hgo:=HGO.out;have hw0:w.heap.size≤go:=(HO3.out.lt go rfl).1;have hfin:=hR undef _ (JD.last ⟨hst,HB3.out.trans ((Zf hbj0 (by exact hw0)))⟩);have z0:=(hbj.cell (p:=⟨go,p*6+5,none⟩) HGO.out).trans HYN.out;have zf:=how.frozenAt (p*6+5);simp only [k17,k15];go_simp;exact hfin
    go_simp;refine hK _ ?_;clear hK K;refine Z2 (fun W4 hJ=>?_);have hF:=Za (hJ.f rfl);clear hJ;go_wp2_with fail;go_ret;have hlen:(ZY l f).length=NO:=by have h9:=hF.out.1.1;rw [ZbG] at h9;omega
    exact ⟨_,rfl,by rw [hlen];exact hF.out.1,hF.out.2⟩
end
end Go.Proofs.Ytdpokdcendgfeaa
