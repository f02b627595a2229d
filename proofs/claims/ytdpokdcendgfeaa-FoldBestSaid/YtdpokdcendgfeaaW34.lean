/- Several texts in one: The walk of the reference's row. A call with any arguments as a step of a region that draws its order. Nothing here names the program. Conditions: those of each. -/
import Derived.Test.YtdpokdcendgfeaaW33
import Derived.Test.YtdpokdcendgfeaaW15
import Derived.Test.YtdpokdcendgfeaaW2
set_option linter.unusedSimpArgs false
set_option linter.unusedVariables false
set_option maxHeartbeats 80000000
set_option maxRecDepth 100000
namespace Go.Proofs.Ytdpokdcendgfeaa
open Go.RowKit
theorem Zdi {l:List Ac} {E:Nat→Nat} {a next:Nat} {ws:List Int} {k:Nat} {v:Int} (h:ws[k]? = some v):ZJ l E a (ws.drop k) next=(ZW (Zab l next) v&&(!decide (v=6)||decide (ZT (Zab l next)=ZT (Zab l (a+1))))&&ZJ l E a (ws.drop (k+1)) (E next)):=by
 obtain ⟨hk,rfl⟩:=gs_ h;rw [List.drop_eq_getElem_cons hk];rfl
theorem Zi4 {P:Pl} {l:List Ac} {E:Nat→Nat} {a:Nat} {x:Ac} (h1:opR P x=true) (hk:x.k=1):Zbs P l E a x=Zat P l E x.n.toNat (a+1) 0:=by
 unfold Zbs;rw [h1,if_pos hk,Bool.true_and]
theorem Zml {P:Pl} {l:List Ac} {E:Nat→Nat} {a:Nat} {x:Ac} (h1:opR P x=false):Zbs P l E a x=false:=by
 unfold Zbs;rw [h1,Bool.false_and]
theorem Zk3 {P:Pl} {l:List Ac} {E:Nat→Nat} {a:Nat} {x:Ac} (hk:¬x.k=1) (h:¬x.n=((Zz x.k x.n).length:Int)):Zbs P l E a x=false:=by
 unfold Zbs;rw [if_neg hk,decide_eq_false h,Bool.false_and,Bool.and_false]
theorem ZgJ {P:Pl} {l:List Ac} {E:Nat→Nat} {a:Nat} {x:Ac} (h1:opR P x=true) (hk:¬x.k=1) (h:x.n=((Zz x.k x.n).length:Int)):Zbs P l E a x=ZJ l E a (Zz x.k x.n) (a+1):=by
 unfold Zbs;rw [h1,if_neg hk,decide_eq_true h,Bool.true_and,Bool.true_and]
theorem ZiS (k n:Int):(Zz k n).length≤3:=by
 rcases ZdC k n with h | ⟨a,h⟩ | ⟨a,b,h⟩ | ⟨_,h⟩ <;> rw [h] <;> simp
theorem Zm2 (w:World) (g:Nat) (q:PlV) (P:Pl) (ad:Addr) (c:Nat) (l:List Ac) (ge gw m a:Nat) (x:Ac) (h:CkrR w g q P ad c l ge gw m) (hT:Za9 l) (hx:l[a]? = some x) :
 Calls Try.prog 81 #[.pointer (some ⟨g,0,none⟩),.int .i64 (a:Int)] w fun en w'=>en=.returned (.bool (Zbs P l (endE l) a x))∧Below w.heap.size w w':=by
 have hal:=(gs_ hx).1;have hbl:=h.b;obtain ⟨x',hx',hn0,hch,_⟩:=hT.2 a hal;rw [hx] at hx';injection hx' with hx';subst hx';have ha0:(0:Int)≤(a:Int):=by omega
 have haL:(a:Int)<(l.length:Int):=by omega
 have u1:=IntWalk.i64_in ((a:Int)+1) (by omega);have ha10:(0:Int)≤(a:Int)+1:=by omega
 have hnat:((a:Int)+1).toNat=a+1:=by omega
 obtain ⟨r,hr⟩:∃r,Zbs P l (endE l) a x=r:=⟨_,rfl⟩;rw [hr];have HR:=Za hr;have HH:=Za h;have HX:=Za hx;have HT:=Za hT;have HCH:=Za hch;obtain ⟨c0,c5,c6,c7⟩:=h.cells;have ck1:w.cell? ⟨g,1,none⟩=some (.slice q.va q.vl q.vc):=by rw [h.k.cell];rfl
 have ck2:w.cell? ⟨g,2,none⟩=some (.slice q.ta q.tl q.tc):=by rw [h.k.cell];rfl
 have ck3:w.cell? ⟨g,3,none⟩=some (.slice q.oa q.ol q.oc):=by rw [h.k.cell];rfl
 have ck4:w.cell? ⟨g,4,none⟩=some (.slice q.ma q.ml q.mc):=by rw [h.k.cell];rfl
 obtain ⟨ad1,e1,hab1,q0,q1,q2,q3,q4,q5⟩:=Zq h.s hx
 cases e1
 have hgl:=h.k.lt;have HOP0:=fun (W2:World) (hb:Below w.heap.size w W2)=>Za (Zi7 W2 q P x (h.p.below hb))
 simp only [PlV.val,Ac.val] at HOP0;obtain ⟨k0,a0,b0,cc0,d0,n0⟩:=x;simp only at q0 q1 q2 q3 q4 q5 hn0 HOP0 hch;have hb1:=(Below.refl w.heap.size w).alloc lr_ (.cells #[.int .i64 k0,.int .i64 a0,.int .i64 b0,.int .i64 cc0,.int .i64 d0,.int .i64 n0] 49);have hk1:=Blk.new w 49 #[.int .i64 k0,.int .i64 a0,.int .i64 b0,.int .i64 cc0,.int .i64 d0,.int .i64 n0];have HB1:=Za hb1;obtain ⟨w1,hw1⟩:∃w1,w.alloc (.cells #[.int .i64 k0,.int .i64 a0,.int .i64 b0,.int .i64 cc0,.int .i64 d0,.int .i64 n0] 49)=w1:=⟨_,rfl⟩;have HW1:=Za hw1;rw [hw1] at hb1 hk1 HB1;have HOP:=fun (z:Grown w1)=>HOP0 z.v (hb1.trans (z.b.mono hb1.size))
 have zc0:∀z:Grown w1,z.v.cell? ⟨g,0,none⟩=some (.slice q.ga q.gl q.gc):=fun z=>(z.b.cell (Nat.lt_of_lt_of_le hgl hb1.size)).trans ((hb1.cell hgl).trans c0)
 have zc1:∀z:Grown w1,z.v.cell? ⟨g,1,none⟩=some (.slice q.va q.vl q.vc):=fun z=>(z.b.cell (Nat.lt_of_lt_of_le hgl hb1.size)).trans ((hb1.cell hgl).trans ck1)
 have zc2:∀z:Grown w1,z.v.cell? ⟨g,2,none⟩=some (.slice q.ta q.tl q.tc):=fun z=>(z.b.cell (Nat.lt_of_lt_of_le hgl hb1.size)).trans ((hb1.cell hgl).trans ck2)
 have zc3:∀z:Grown w1,z.v.cell? ⟨g,3,none⟩=some (.slice q.oa q.ol q.oc):=fun z=>(z.b.cell (Nat.lt_of_lt_of_le hgl hb1.size)).trans ((hb1.cell hgl).trans ck3)
 have zc4:∀z:Grown w1,z.v.cell? ⟨g,4,none⟩=some (.slice q.ma q.ml q.mc):=fun z=>(z.b.cell (Nat.lt_of_lt_of_le hgl hb1.size)).trans ((hb1.cell hgl).trans ck4)
 have zx0:∀z:Grown w1,z.v.cell? ⟨w.heap.size,0,none⟩=some (.int .i64 k0):=fun z=>(z.b.cell hk1.lt).trans (by rw [hk1.cell];rfl)
 have zx1:∀z:Grown w1,z.v.cell? ⟨w.heap.size,1,none⟩=some (.int .i64 a0):=fun z=>(z.b.cell hk1.lt).trans (by rw [hk1.cell];rfl)
 have zx2:∀z:Grown w1,z.v.cell? ⟨w.heap.size,2,none⟩=some (.int .i64 b0):=fun z=>(z.b.cell hk1.lt).trans (by rw [hk1.cell];rfl)
 have zx3:∀z:Grown w1,z.v.cell? ⟨w.heap.size,3,none⟩=some (.int .i64 cc0):=fun z=>(z.b.cell hk1.lt).trans (by rw [hk1.cell];rfl)
 have zx4:∀z:Grown w1,z.v.cell? ⟨w.heap.size,4,none⟩=some (.int .i64 d0):=fun z=>(z.b.cell hk1.lt).trans (by rw [hk1.cell];rfl)
 have zx5:∀z:Grown w1,z.v.cell? ⟨w.heap.size,5,none⟩=some (.int .i64 n0):=fun z=>(z.b.cell hk1.lt).trans (by rw [hk1.cell];rfl)
 have HK1:=Za hk1;clear h hx hr hT hch hb1 hk1 HOP0 c0 ck1 ck2 ck3 ck4 hw1;go_enter Try.func81,Try.ntmps81;go_wp2_with fail;rw [HW1.out];refine Za1 (Below.refl w1.heap.size w1) (by kernel_rfl) (by kernel_rfl) ?_
 repeat (go_big_quiet_step ((go_at_call 124;exact ZaK (HOP _).out)))
 refine wpQuiet_nil ?_;intro w2 hw2;obtain ⟨⟨w2,hb2⟩,rfl⟩:=hw2;have HB2:=Za (HB1.out.trans (hb2.mono HB1.out.size));have hk2:=HK1.out.below hb2 HK1.out.lt;have x0:w2.cell? ⟨w.heap.size,0,none⟩=some (.int .i64 k0):=by rw [hk2.cell];rfl
 have x5:w2.cell? ⟨w.heap.size,5,none⟩=some (.int .i64 n0):=by rw [hk2.cell];rfl
 have hsl:=hk2.lt;have HK2:=Za hk2;have HC2:=Za (HH.out.below HB2.out);clear zc0 zc1 zc2 zc3 zc4 zx0 zx1 zx2 zx3 zx4 zx5 HOP hb2 hk2 q0 q1 q2 q3 q4 q5 hab1 c5 c6 c7
 cases hop:opR P ⟨k0,a0,b0,cc0,d0,n0⟩ with
 | false =>
  have HRF:=Za (show r=false by rw [←HR.out];exact Zml hop);clear hop;go_wp2_with fail;go_ret;exact ⟨by rw [HRF.out];first | done | rfl,HB2.out⟩
 | true =>
  have HOP:=Za hop;clear hop
  by_cases hk1:k0=1
  · subst hk1;have HRB:=Za (show r=Zat P l (endE l) n0.toNat (a+1) 0 by rw [←HR.out];exact Zi4 HOP.out rfl);have HBL:=Za (ZlN w2 g q P ad c l ge gw m a _ HC2.out HT.out HX.out);go_wp2_with (go_at_call 125;refine HBL.out.mono ?_;rintro en w3 ⟨rfl,hb3⟩;have HB3:=Za hb3;clear hb3);go_ret;exact ⟨by rw [HRB.out];first | done | rfl,HB2.out.trans (HB3.out.mono HB2.out.size)⟩
  have hk1b:(k0 == 1)=false:=by simp [hk1]
  have HK1N:=Za hk1;obtain ⟨N0,hN0⟩:∃N0:Nat,n0=(N0:Int):=⟨n0.toNat,by omega⟩;subst hN0;simp only [Int.toNat_natCast] at HCH;have HKI:=Za (ZmG w2 k0)
  by_cases h23:k0=2∧(N0:Int)=3
  · obtain ⟨h2,h3⟩:=h23;have hN3:N0=3:=by omega
    subst hN3 h2;obtain ⟨ws,hws⟩:∃ws:List Int,ws=[4,1,1]:=⟨_,rfl⟩;have hwl:ws.length=3:=by rw [hws];rfl
    have HLN:=Za hwl.symm;have HRK:=Za (show ZJ l (endE l) a (ws.drop 0) (a+1)=r by rw [←HR.out,hws];exact (ZgJ HOP.out (by simp) rfl).symm);clear hk1 h3;go_wp2_with (go_at_call 126;refine HKI.out.mono ?_;rintro en w3 ⟨oa3,rfl,-,-,hb3⟩;have HB3:=Za hb3;have x50:w3.cell? ⟨w.heap.size,5,none⟩=some (.int .i64 3):=(hb3.cell hsl).trans x5;have x00:w3.cell? ⟨w.heap.size,0,none⟩=some (.int .i64 2):=(hb3.cell hsl).trans x0;have hs3:w.heap.size<w3.heap.size:=Nat.lt_of_lt_of_le hsl hb3.size;clear hb3);have HBK:=Za (Blk.new w3 3 #[.int .i64 4,.int .i64 1,.int .i64 1]);have HB5:=Za ((HB2.out.trans (HB3.out.mono HB2.out.size)).alloc (by have:=HB2.out.size;have:=HB3.out.size;omega) (.cells #[.int .i64 4,.int .i64 1,.int .i64 1] 3));obtain ⟨gb,hgb⟩:∃gb,w3.heap.size=gb:=⟨_,rfl⟩;obtain ⟨W5,hW5⟩:∃W5,w3.alloc (.cells #[.int .i64 4,.int .i64 1,.int .i64 1] 3)=W5:=⟨_,rfl⟩;rw [hgb,hW5];rw [hW5] at HB5 HBK;rw [hgb] at HBK;have HSRC:Hid (Blk W5 gb 3 (Zm ws).toArray):=Za (by rw [hws];exact HBK.out);have hgbl:=HBK.out.lt;have HC5:=Za (HH.out.below HB5.out);clear hgb hW5 HBK x50 x00 hs3 x0 x5 hsl;have HWL:=Za hwl;clear hwl hws;go_loopw [7,8] (fun t7 t8 W=>∃k next:Nat,t7=.int .i64 (next:Int)∧t8=.int .i64 (k:Int)∧k≤3∧Hid (Zr (endE l) k (a+1)=next)∧Hid (ZJ l (endE l) a (ws.drop k) next=r)∧a<next∧Below W5.heap.size W5 W) (fun _ t8 _=>3 - (intOf t8).toNat)
    case atStart=>exact ⟨0,a+1,by go_num,rfl,Nat.zero_le _,Za rfl,Za HRK.out,by omega,Below.refl _ _⟩
    case round =>
     obtain ⟨k,next,rfl,rfl,hkL,HC,HB,hna,hb⟩:=hrel;rename World=>W
     have HBW:=Za hb;have hc:=HC5.out.below hb;have c1:=hc.cells.2.1;have c2:=hc.cells.2.2.1;have HCW:=Za hc;have u3:=IntWalk.i64_in ((k:Int)+1) (by omega)
     by_cases hlt:k<3
     · have hltI:(k:Int)<3:=by omega
       have hltN:decide (k<3)=true:=by simp [hlt]
       have hk0:(0:Int)≤(k:Int):=by omega
       have hnl:next<l.length:=by rw [←HC.out];exact HCH.out k (by rw [HLN.out,HWL.out];exact hlt)
       have hx1:a+1<l.length:=HCH.out 0 (by rw [HLN.out,HWL.out];omega);have hx1I:(a:Int)+1<(l.length:Int):=by omega
       have hnL:(next:Int)<(l.length:Int):=by omega
       have hn0:(0:Int)≤(next:Int):=by omega
       obtain ⟨v,hv⟩:∃v,ws[k]? = some v:=⟨_,ge_ (by rw [HWL.out];exact hlt)⟩;have HV:=Za hv;have cw:W.cell? ⟨gb,k,none⟩=some (.int .i64 v):=Zae (HSRC.out.below HBW.out HSRC.out.lt) hv;obtain ⟨y,hy⟩:∃y,l[next]? = some y:=⟨_,ge_ hnl⟩;obtain ⟨z,hz⟩:∃z,l[a+1]? = some z:=⟨_,ge_ hx1⟩;obtain ⟨ad2,e2,hab2,p0,-,-,-,-,-⟩:=Zq HCW.out.s hy
       cases e2
       obtain ⟨ad3,e3,hab3,z0,-,-,-,-,-⟩:=Zq HCW.out.s hz
       cases e3
       obtain ⟨e,he⟩:∃e,endE l next=e:=⟨_,rfl⟩;have ce:W.cell? ⟨ge,next,none⟩=some (.int .i64 (e:Int)):=by rw [←he];exact Zae HCW.out.e (Zbw (Nat.zero_le _) hnl)
       have hae:a<e:=by rw [←he];have:=Zde (l:=l) (j:=next) (by omega);omega
       have HE:=Za he;have hgel:=HCW.out.e.lt;have hgll:=HCW.out.k.lt;obtain ⟨yk,hyk⟩:∃yk,y.k=yk:=⟨_,rfl⟩;obtain ⟨zk,hzk⟩:∃zk,z.k=zk:=⟨_,rfl⟩;rw [hyk] at p0;rw [hzk] at z0;have HST0:=Za (Zdi (l:=l) (E:=endE l) (a:=a) (next:=next) hv);rw [ZaB hy,ZaB hz,hyk,hzk] at HST0;obtain ⟨t1,ht1⟩:∃t1,ZT yk=t1:=⟨_,rfl⟩;obtain ⟨t2,ht2⟩:∃t2,ZT zk=t2:=⟨_,rfl⟩;rw [ht1,ht2] at HST0;have HT1:=fun (W2:World)=>Za ((Zcm W2 yk).mono (fun en w' hh=>(⟨by rw [hh.1,ht1],hh.2.symm⟩:en=.returned (.int .i64 t1)∧w'=W2)))
       have HT2:=fun (W2:World)=>Za ((Zcm W2 zk).mono (fun en w' hh=>(⟨by rw [hh.1,ht2],hh.2.symm⟩:en=.returned (.int .i64 t2)∧w'=W2)))
       clear hy hz he hyk hzk ht1 ht2 hv hb hc hab2 hab3
       cases hs:ZW yk v with
       | false =>
        have HS:=fun (W2:World)=>Za ((Zbm W2 yk v).mono (fun en w' hh=>(⟨by rw [hh.1,hs],hh.2.symm⟩:en=.returned (.bool false)∧w'=W2)))
        have HRF:=Za (show r=false by rw [←HB.out,HST0.out,hs];rfl);clear hs;go_wp2_with fail;go_quiet ((go_at_call 127;exact Calls.quiet_of_same (HS _).out));go_wp2_with fail;go_ret;exact ⟨by rw [HRF.out];first | done | rfl,HB5.out.trans ((show Below W5.heap.size W5 _ by first | exact Zc HBW.out _ | exact Zc (Zc HBW.out _) _).mono HB5.out.size)⟩
       | true =>
        have HS:=fun (W2:World)=>Za ((Zbm W2 yk v).mono (fun en w' hh=>(⟨by rw [hh.1,hs],hh.2.symm⟩:en=.returned (.bool true)∧w'=W2)))
        have HST1:=Za (show ZJ l (endE l) a (ws.drop k) next=((!decide (v=6)||decide (t1=t2))&&ZJ l (endE l) a (ws.drop (k+1)) (endE l next)) by rw [HST0.out,hs];rfl);clear hs HST0
        by_cases h6:v=6
        · have h6b:(v == 6)=true:=by simp [h6]
          by_cases htt:t1=t2
          · have httb:(t1 != t2)=false:=by simp [htt]
            have HNX:=Za (show ZJ l (endE l) a (ws.drop (k+1)) e=r by rw [←HB.out,HST1.out,HE.out];simp [htt]);clear htt h6;go_wp2_with fail;go_quiet ((go_at_call 127;exact Calls.quiet_of_same (HS _).out));go_wp2_with fail;go_quiet ((first | (go_at_call_of 82 (Value.int .i64 yk);exact Zj (HT1 _).out) | (go_at_call_of 82 (Value.int .i64 zk);exact Zj (HT2 _).out)));go_wp2_with fail;go_roundw
            case rel =>
             refine ⟨k+1,e,rfl,by go_num,by omega,Za ?_,Za HNX.out,hae,Zc HBW.out _⟩;rw [Z1,HC.out,HE.out]
            case measure =>
             simp only [intOf];omega
          · have httb:(t1 != t2)=true:=by simp [htt]
            have HRF:=Za (show r=false by rw [←HB.out,HST1.out];simp [htt,h6]);clear htt h6;go_wp2_with fail;go_quiet ((go_at_call 127;exact Calls.quiet_of_same (HS _).out));go_wp2_with fail;go_quiet ((first | (go_at_call_of 82 (Value.int .i64 yk);exact Zj (HT1 _).out) | (go_at_call_of 82 (Value.int .i64 zk);exact Zj (HT2 _).out)));go_wp2_with fail;go_ret;exact ⟨by rw [HRF.out];first | done | rfl,HB5.out.trans ((show Below W5.heap.size W5 _ by first | exact Zc HBW.out _ | exact Zc (Zc HBW.out _) _).mono HB5.out.size)⟩
        · have h6b:(v == 6)=false:=by simp [h6]
          have HNX:=Za (show ZJ l (endE l) a (ws.drop (k+1)) e=r by rw [←HB.out,HST1.out,HE.out];simp [h6]);clear h6;go_wp2_with fail;go_quiet ((go_at_call 127;exact Calls.quiet_of_same (HS _).out));go_wp2_with fail;go_quiet (fail);go_wp2_with fail;go_roundw
          case rel =>
           refine ⟨k+1,e,rfl,by go_num,by omega,Za ?_,Za HNX.out,hae,Zc HBW.out _⟩;rw [Z1,HC.out,HE.out]
          case measure =>
           simp only [intOf];omega
     · have hltN:decide (k<3)=false:=by simp;omega
       have hltI:¬(k:Int)<3:=by omega
       have he:k=ws.length:=by rw [HWL.out];omega
       have HRT:=Za (show r=true by rw [←HB.out,he,List.drop_length];rfl);clear he hlt;go_wp2_with fail;go_ret;exact ⟨by rw [HRT.out];first | done | rfl,HB5.out.trans (HBW.out.mono HB5.out.size)⟩
  · obtain ⟨ws,hws⟩:∃ws:List Int,Zac k0=ws:=⟨_,rfl⟩;have hww:Zz k0 (N0:Int)=ws:=by unfold Zz;rw [if_neg h23,hws]
    have hwl3:ws.length≤3:=by rw [←hww];exact ZiS _ _
    rw [hws] at HKI
    by_cases hlen:N0=ws.length
    · have HLN:=Za hlen;have HRK:=Za (show ZJ l (endE l) a (ws.drop 0) (a+1)=r by rw [←HR.out,←hww];exact (ZgJ HOP.out HK1N.out (by rw [hww];simp only;omega)).symm);have hlI:(N0:Int)=(ws.length:Int):=by omega
      rw [hlI] at x5;have h23b:k0=2→¬(ws.length:Int)=3:=fun h2 h3=>h23 ⟨h2,by omega⟩
      clear hk1 hww hws hlI
      by_cases h2:k0=2
      · subst h2;have h3:=h23b rfl;have h3b:((ws.length:Int) == 3)=false:=by simp;omega
        clear h23b h23 hlen;go_wp2_with (go_at_call 126;refine HKI.out.mono ?_;rintro en W5 ⟨oa3,rfl,hsr,-,hb3⟩;have HB3:=Za hb3;have HSRC:=Za hsr;have HB5:=Za (HB2.out.trans (hb3.mono HB2.out.size));have HC5:=Za (HH.out.below HB5.out);have x50:=(hb3.cell (p:=⟨w.heap.size,5,none⟩) hsl).trans x5;have x00:=(hb3.cell (p:=⟨w.heap.size,0,none⟩) hsl).trans x0;clear hb3 hsr);clear x50 x00 x0 x5 hsl;go_loopw [7,8] (fun t7 t8 W=>∃k next:Nat,t7=.int .i64 (next:Int)∧t8=.int .i64 (k:Int)∧k≤ws.length∧Hid (Zr (endE l) k (a+1)=next)∧Hid (ZJ l (endE l) a (ws.drop k) next=r)∧a<next∧Below W5.heap.size W5 W) (fun _ t8 _=>ws.length - (intOf t8).toNat)
        case atStart=>exact ⟨0,a+1,by go_num,rfl,Nat.zero_le _,Za rfl,Za HRK.out,by omega,Below.refl _ _⟩
        case round =>
         obtain ⟨k,next,rfl,rfl,hkL,HC,HB,hna,hb⟩:=hrel;rename World=>W
         have HBW:=Za hb;have hc:=HC5.out.below hb;have c1:=hc.cells.2.1;have c2:=hc.cells.2.2.1;have HCW:=Za hc;have u3:=IntWalk.i64_in ((k:Int)+1) (by omega)
         by_cases hlt:k<ws.length
         · have hltI:(k:Int)<(ws.length:Int):=by omega
           have hltN:decide (k<ws.length)=true:=by simp [hlt]
           have hk0:(0:Int)≤(k:Int):=by omega
           have hnl:next<l.length:=by rw [←HC.out];exact HCH.out k (by rw [HLN.out];exact hlt)
           have hx1:a+1<l.length:=HCH.out 0 (by rw [HLN.out];omega);have hx1I:(a:Int)+1<(l.length:Int):=by omega
           have hnL:(next:Int)<(l.length:Int):=by omega
           have hn0:(0:Int)≤(next:Int):=by omega
           obtain ⟨v,hv⟩:∃v,ws[k]? = some v:=⟨_,ge_ (by exact hlt)⟩;have HV:=Za hv;obtain ⟨ad5,e5,hab5,cw⟩:=Za3 (HSRC.out.below HBW.out) (i:=k) (v:=.int .i64 v) (by omega) (by simp [Zm,hv])
           cases e5
           obtain ⟨y,hy⟩:∃y,l[next]? = some y:=⟨_,ge_ hnl⟩;obtain ⟨z,hz⟩:∃z,l[a+1]? = some z:=⟨_,ge_ hx1⟩;obtain ⟨ad2,e2,hab2,p0,-,-,-,-,-⟩:=Zq HCW.out.s hy
           cases e2
           obtain ⟨ad3,e3,hab3,z0,-,-,-,-,-⟩:=Zq HCW.out.s hz
           cases e3
           obtain ⟨e,he⟩:∃e,endE l next=e:=⟨_,rfl⟩;have ce:W.cell? ⟨ge,next,none⟩=some (.int .i64 (e:Int)):=by rw [←he];exact Zae HCW.out.e (Zbw (Nat.zero_le _) hnl)
           have hae:a<e:=by rw [←he];have:=Zde (l:=l) (j:=next) (by omega);omega
           have HE:=Za he;have hgel:=HCW.out.e.lt;have hgll:=HCW.out.k.lt;obtain ⟨yk,hyk⟩:∃yk,y.k=yk:=⟨_,rfl⟩;obtain ⟨zk,hzk⟩:∃zk,z.k=zk:=⟨_,rfl⟩;rw [hyk] at p0;rw [hzk] at z0;have HST0:=Za (Zdi (l:=l) (E:=endE l) (a:=a) (next:=next) hv);rw [ZaB hy,ZaB hz,hyk,hzk] at HST0;obtain ⟨t1,ht1⟩:∃t1,ZT yk=t1:=⟨_,rfl⟩;obtain ⟨t2,ht2⟩:∃t2,ZT zk=t2:=⟨_,rfl⟩;rw [ht1,ht2] at HST0;have HT1:=fun (W2:World)=>Za ((Zcm W2 yk).mono (fun en w' hh=>(⟨by rw [hh.1,ht1],hh.2.symm⟩:en=.returned (.int .i64 t1)∧w'=W2)))
           have HT2:=fun (W2:World)=>Za ((Zcm W2 zk).mono (fun en w' hh=>(⟨by rw [hh.1,ht2],hh.2.symm⟩:en=.returned (.int .i64 t2)∧w'=W2)))
           clear hy hz he hyk hzk ht1 ht2 hv hb hc hab2 hab3
           cases hs:ZW yk v with
           | false =>
            have HS:=fun (W2:World)=>Za ((Zbm W2 yk v).mono (fun en w' hh=>(⟨by rw [hh.1,hs],hh.2.symm⟩:en=.returned (.bool false)∧w'=W2)))
            have HRF:=Za (show r=false by rw [←HB.out,HST0.out,hs];rfl);clear hs;go_wp2_with fail;go_quiet ((go_at_call 127;exact Calls.quiet_of_same (HS _).out));go_wp2_with fail;go_ret;exact ⟨by rw [HRF.out];first | done | rfl,HB5.out.trans ((show Below W5.heap.size W5 _ by first | exact Zc HBW.out _ | exact Zc (Zc HBW.out _) _).mono HB5.out.size)⟩
           | true =>
            have HS:=fun (W2:World)=>Za ((Zbm W2 yk v).mono (fun en w' hh=>(⟨by rw [hh.1,hs],hh.2.symm⟩:en=.returned (.bool true)∧w'=W2)))
            have HST1:=Za (show ZJ l (endE l) a (ws.drop k) next=((!decide (v=6)||decide (t1=t2))&&ZJ l (endE l) a (ws.drop (k+1)) (endE l next)) by rw [HST0.out,hs];rfl);clear hs HST0
            by_cases h6:v=6
            · have h6b:(v == 6)=true:=by simp [h6]
              by_cases htt:t1=t2
              · have httb:(t1 != t2)=false:=by simp [htt]
                have HNX:=Za (show ZJ l (endE l) a (ws.drop (k+1)) e=r by rw [←HB.out,HST1.out,HE.out];simp [htt]);clear htt h6;go_wp2_with fail;go_quiet ((go_at_call 127;exact Calls.quiet_of_same (HS _).out));go_wp2_with fail;go_quiet ((first | (go_at_call_of 82 (Value.int .i64 yk);exact Zj (HT1 _).out) | (go_at_call_of 82 (Value.int .i64 zk);exact Zj (HT2 _).out)));go_wp2_with fail;go_roundw
                case rel =>
                 refine ⟨k+1,e,rfl,by go_num,by omega,Za ?_,Za HNX.out,hae,Zc HBW.out _⟩;rw [Z1,HC.out,HE.out]
                case measure =>
                 simp only [intOf];omega
              · have httb:(t1 != t2)=true:=by simp [htt]
                have HRF:=Za (show r=false by rw [←HB.out,HST1.out];simp [htt,h6]);clear htt h6;go_wp2_with fail;go_quiet ((go_at_call 127;exact Calls.quiet_of_same (HS _).out));go_wp2_with fail;go_quiet ((first | (go_at_call_of 82 (Value.int .i64 yk);exact Zj (HT1 _).out) | (go_at_call_of 82 (Value.int .i64 zk);exact Zj (HT2 _).out)));go_wp2_with fail;go_ret;exact ⟨by rw [HRF.out];first | done | rfl,HB5.out.trans ((show Below W5.heap.size W5 _ by first | exact Zc HBW.out _ | exact Zc (Zc HBW.out _) _).mono HB5.out.size)⟩
            · have h6b:(v == 6)=false:=by simp [h6]
              have HNX:=Za (show ZJ l (endE l) a (ws.drop (k+1)) e=r by rw [←HB.out,HST1.out,HE.out];simp [h6]);clear h6;go_wp2_with fail;go_quiet ((go_at_call 127;exact Calls.quiet_of_same (HS _).out));go_wp2_with fail;go_quiet (fail);go_wp2_with fail;go_roundw
              case rel =>
               refine ⟨k+1,e,rfl,by go_num,by omega,Za ?_,Za HNX.out,hae,Zc HBW.out _⟩;rw [Z1,HC.out,HE.out]
              case measure =>
               simp only [intOf];omega
         · have hltN:decide (k<ws.length)=false:=by simp;omega
           have hltI:¬(k:Int)<(ws.length:Int):=by omega
           have he:k=ws.length:=by omega
           have HRT:=Za (show r=true by rw [←HB.out,he,List.drop_length];rfl);clear he hlt;go_wp2_with fail;go_ret;exact ⟨by rw [HRT.out];first | done | rfl,HB5.out.trans (HBW.out.mono HB5.out.size)⟩
      · have h2b:(k0 == 2)=false:=by simp [h2]
        clear h23b h23 hlen;go_wp2_with (go_at_call 126;refine HKI.out.mono ?_;rintro en W5 ⟨oa3,rfl,hsr,-,hb3⟩;have HB3:=Za hb3;have HSRC:=Za hsr;have HB5:=Za (HB2.out.trans (hb3.mono HB2.out.size));have HC5:=Za (HH.out.below HB5.out);have x50:=(hb3.cell (p:=⟨w.heap.size,5,none⟩) hsl).trans x5;have x00:=(hb3.cell (p:=⟨w.heap.size,0,none⟩) hsl).trans x0;clear hb3 hsr);clear x50 x00 x0 x5 hsl;go_loopw [7,8] (fun t7 t8 W=>∃k next:Nat,t7=.int .i64 (next:Int)∧t8=.int .i64 (k:Int)∧k≤ws.length∧Hid (Zr (endE l) k (a+1)=next)∧Hid (ZJ l (endE l) a (ws.drop k) next=r)∧a<next∧Below W5.heap.size W5 W) (fun _ t8 _=>ws.length - (intOf t8).toNat)
        case atStart=>exact ⟨0,a+1,by go_num,rfl,Nat.zero_le _,Za rfl,Za HRK.out,by omega,Below.refl _ _⟩
        case round =>
         obtain ⟨k,next,rfl,rfl,hkL,HC,HB,hna,hb⟩:=hrel;rename World=>W
         have HBW:=Za hb;have hc:=HC5.out.below hb;have c1:=hc.cells.2.1;have c2:=hc.cells.2.2.1;have HCW:=Za hc;have u3:=IntWalk.i64_in ((k:Int)+1) (by omega)
         by_cases hlt:k<ws.length
         · have hltI:(k:Int)<(ws.length:Int):=by omega
           have hltN:decide (k<ws.length)=true:=by simp [hlt]
           have hk0:(0:Int)≤(k:Int):=by omega
           have hnl:next<l.length:=by rw [←HC.out];exact HCH.out k (by rw [HLN.out];exact hlt)
           have hx1:a+1<l.length:=HCH.out 0 (by rw [HLN.out];omega);have hx1I:(a:Int)+1<(l.length:Int):=by omega
           have hnL:(next:Int)<(l.length:Int):=by omega
           have hn0:(0:Int)≤(next:Int):=by omega
           obtain ⟨v,hv⟩:∃v,ws[k]? = some v:=⟨_,ge_ (by exact hlt)⟩;have HV:=Za hv;obtain ⟨ad5,e5,hab5,cw⟩:=Za3 (HSRC.out.below HBW.out) (i:=k) (v:=.int .i64 v) (by omega) (by simp [Zm,hv])
           cases e5
           obtain ⟨y,hy⟩:∃y,l[next]? = some y:=⟨_,ge_ hnl⟩;obtain ⟨z,hz⟩:∃z,l[a+1]? = some z:=⟨_,ge_ hx1⟩;obtain ⟨ad2,e2,hab2,p0,-,-,-,-,-⟩:=Zq HCW.out.s hy
           cases e2
           obtain ⟨ad3,e3,hab3,z0,-,-,-,-,-⟩:=Zq HCW.out.s hz
           cases e3
           obtain ⟨e,he⟩:∃e,endE l next=e:=⟨_,rfl⟩;have ce:W.cell? ⟨ge,next,none⟩=some (.int .i64 (e:Int)):=by rw [←he];exact Zae HCW.out.e (Zbw (Nat.zero_le _) hnl)
           have hae:a<e:=by rw [←he];have:=Zde (l:=l) (j:=next) (by omega);omega
           have HE:=Za he;have hgel:=HCW.out.e.lt;have hgll:=HCW.out.k.lt;obtain ⟨yk,hyk⟩:∃yk,y.k=yk:=⟨_,rfl⟩;obtain ⟨zk,hzk⟩:∃zk,z.k=zk:=⟨_,rfl⟩;rw [hyk] at p0;rw [hzk] at z0;have HST0:=Za (Zdi (l:=l) (E:=endE l) (a:=a) (next:=next) hv);rw [ZaB hy,ZaB hz,hyk,hzk] at HST0;obtain ⟨t1,ht1⟩:∃t1,ZT yk=t1:=⟨_,rfl⟩;obtain ⟨t2,ht2⟩:∃t2,ZT zk=t2:=⟨_,rfl⟩;rw [ht1,ht2] at HST0;have HT1:=fun (W2:World)=>Za ((Zcm W2 yk).mono (fun en w' hh=>(⟨by rw [hh.1,ht1],hh.2.symm⟩:en=.returned (.int .i64 t1)∧w'=W2)))
           have HT2:=fun (W2:World)=>Za ((Zcm W2 zk).mono (fun en w' hh=>(⟨by rw [hh.1,ht2],hh.2.symm⟩:en=.returned (.int .i64 t2)∧w'=W2)))
           clear hy hz he hyk hzk ht1 ht2 hv hb hc hab2 hab3
           cases hs:ZW yk v with
           | false =>
            have HS:=fun (W2:World)=>Za ((Zbm W2 yk v).mono (fun en w' hh=>(⟨by rw [hh.1,hs],hh.2.symm⟩:en=.returned (.bool false)∧w'=W2)))
            have HRF:=Za (show r=false by rw [←HB.out,HST0.out,hs];rfl);clear hs;go_wp2_with fail;go_quiet ((go_at_call 127;exact Calls.quiet_of_same (HS _).out));go_wp2_with fail;go_ret;exact ⟨by rw [HRF.out];first | done | rfl,HB5.out.trans ((show Below W5.heap.size W5 _ by first | exact Zc HBW.out _ | exact Zc (Zc HBW.out _) _).mono HB5.out.size)⟩
           | true =>
            have HS:=fun (W2:World)=>Za ((Zbm W2 yk v).mono (fun en w' hh=>(⟨by rw [hh.1,hs],hh.2.symm⟩:en=.returned (.bool true)∧w'=W2)))
            have HST1:=Za (show ZJ l (endE l) a (ws.drop k) next=((!decide (v=6)||decide (t1=t2))&&ZJ l (endE l) a (ws.drop (k+1)) (endE l next)) by rw [HST0.out,hs];rfl);clear hs HST0
            by_cases h6:v=6
            · have h6b:(v == 6)=true:=by simp [h6]
              by_cases htt:t1=t2
              · have httb:(t1 != t2)=false:=by simp [htt]
                have HNX:=Za (show ZJ l (endE l) a (ws.drop (k+1)) e=r by rw [←HB.out,HST1.out,HE.out];simp [htt]);clear htt h6;go_wp2_with fail;go_quiet ((go_at_call 127;exact Calls.quiet_of_same (HS _).out));go_wp2_with fail;go_quiet ((first | (go_at_call_of 82 (Value.int .i64 yk);exact Zj (HT1 _).out) | (go_at_call_of 82 (Value.int .i64 zk);exact Zj (HT2 _).out)));go_wp2_with fail;go_roundw
                case rel =>
                 refine ⟨k+1,e,rfl,by go_num,by omega,Za ?_,Za HNX.out,hae,Zc HBW.out _⟩;rw [Z1,HC.out,HE.out]
                case measure =>
                 simp only [intOf];omega
              · have httb:(t1 != t2)=true:=by simp [htt]
                have HRF:=Za (show r=false by rw [←HB.out,HST1.out];simp [htt,h6]);clear htt h6;go_wp2_with fail;go_quiet ((go_at_call 127;exact Calls.quiet_of_same (HS _).out));go_wp2_with fail;go_quiet ((first | (go_at_call_of 82 (Value.int .i64 yk);exact Zj (HT1 _).out) | (go_at_call_of 82 (Value.int .i64 zk);exact Zj (HT2 _).out)));go_wp2_with fail;go_ret;exact ⟨by rw [HRF.out];first | done | rfl,HB5.out.trans ((show Below W5.heap.size W5 _ by first | exact Zc HBW.out _ | exact Zc (Zc HBW.out _) _).mono HB5.out.size)⟩
            · have h6b:(v == 6)=false:=by simp [h6]
              have HNX:=Za (show ZJ l (endE l) a (ws.drop (k+1)) e=r by rw [←HB.out,HST1.out,HE.out];simp [h6]);clear h6;go_wp2_with fail;go_quiet ((go_at_call 127;exact Calls.quiet_of_same (HS _).out));go_wp2_with fail;go_quiet (fail);go_wp2_with fail;go_roundw
              case rel =>
               refine ⟨k+1,e,rfl,by go_num,by omega,Za ?_,Za HNX.out,hae,Zc HBW.out _⟩;rw [Z1,HC.out,HE.out]
              case measure =>
               simp only [intOf];omega
         · have hltN:decide (k<ws.length)=false:=by simp;omega
           have hltI:¬(k:Int)<(ws.length:Int):=by omega
           have he:k=ws.length:=by omega
           have HRT:=Za (show r=true by rw [←HB.out,he,List.drop_length];rfl);clear he hlt;go_wp2_with fail;go_ret;exact ⟨by rw [HRT.out];first | done | rfl,HB5.out.trans (HBW.out.mono HB5.out.size)⟩
    · have HRF:=Za (show r=false by rw [←HR.out];exact Zk3 HK1N.out (by rw [hww];simp only;omega));have hnI:¬(N0:Int)=(ws.length:Int):=by omega
      have hnb:((N0:Int) != (ws.length:Int))=true:=by simp;omega
      clear hk1 hww hws hlen
      by_cases h2:k0=2
      · subst h2;have h3:¬(N0:Int)=3:=fun h3=>h23 ⟨rfl,h3⟩
        have h3b:((N0:Int) == 3)=false:=by simp;omega
        clear h23;go_wp2_with (go_at_call 126;refine HKI.out.mono ?_;rintro en W5 ⟨oa3,rfl,-,-,hb3⟩;have HB3:=Za hb3;have x50:=(hb3.cell (p:=⟨w.heap.size,5,none⟩) hsl).trans x5;have x00:=(hb3.cell (p:=⟨w.heap.size,0,none⟩) hsl).trans x0;clear hb3);go_ret;exact ⟨by rw [HRF.out];first | done | rfl,HB2.out.trans (HB3.out.mono HB2.out.size)⟩
      · have h2b:(k0 == 2)=false:=by simp [h2]
        clear h23;go_wp2_with (go_at_call 126;refine HKI.out.mono ?_;rintro en W5 ⟨oa3,rfl,-,-,hb3⟩;have HB3:=Za hb3;have x50:=(hb3.cell (p:=⟨w.heap.size,5,none⟩) hsl).trans x5;have x00:=(hb3.cell (p:=⟨w.heap.size,0,none⟩) hsl).trans x0;clear hb3);go_ret;exact ⟨by rw [HRF.out];first | done | rfl,HB2.out.trans (HB3.out.mono HB2.out.size)⟩
theorem ZfG {P:Program} {ops:Array Oper} {o:Oper} {a:Act} {w:World} {K:Act→World→Prop} {Q:Exit→Act→World→Prop} {E:Prop}
 (hg:o.guard=none) (f:Nat) (xs:Array Operand) (ts:Array TypeId) (hop:o.op=Op.call { callee:=Callee.value (Operand.func f),args:=xs,argTypes:=ts })
 (F : Func) (hF : P.funcs[f]? = some F) (hF1 : F.name ≠ "runtime.NumGoroutine") (hF2 : F.body ≠ none) (vs : Array Value) (hx : xs.map a.eval = vs) (R : Value → World → Prop) (hc : Calls P f vs w fun e w' => ∃ v', e = .returned v' ∧ R v' w') (hK : ∀ v' w', R v' w' → K (a.put o.dst v') w') :
 if Region.wanted o (yielded ops a.tmps)=true then Oper.wp P o a w K Q else E:=by
 have hw:Region.wanted o (yielded ops a.tmps)=true:=by simp [Region.wanted,hg]
 rw [if_pos hw];obtain ⟨fv,hf⟩:∃fv,a.eval (Operand.func f)=fv:=⟨_,rfl⟩;have hf2:=hf;simp only [Act.eval] at hf2;subst hf2;unfold Oper.wp;simp [execOp,hop,resolve,invoke,hx,hf,Deferred.ofValue,callFunc,hF,hF1,hF2,Result.andThen];refine hc.mono ?_;rintro e w' ⟨v',rfl,hr⟩;exact hK v' w' hr
end Go.Proofs.Ytdpokdcendgfeaa
