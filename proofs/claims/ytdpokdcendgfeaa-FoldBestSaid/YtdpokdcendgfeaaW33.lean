/- Several texts in one: The walk of the reference's block. The walk of the reference's operands, the kinds that are left. Conditions: those of each. -/
import Derived.Test.YtdpokdcendgfeaaW32
set_option linter.unusedSimpArgs false
set_option linter.unusedVariables false
set_option maxHeartbeats 80000000
set_option maxRecDepth 100000
namespace Go.Proofs.Ytdpokdcendgfeaa
open Go.RowKit
theorem bT {w W V:World} (h:Below w.heap.size w W) (k:Below W.heap.size W V):Below w.heap.size w V:=h.trans (k.mono h.size)
theorem bU {w W V:World} (h:Below w.heap.size w W) (k:Below W.heap.size W V) (n:Nat):Below w.heap.size w (V.drewN n):=bT h (Zc k n)
theorem ZO {P:Pl} {l:List Ac} {E:Nat→Nat} {m next:Nat} {h:Int} {x:Ac} (hx:l[next]? = some x) (hh:ZW x.k 2=false∨((x.k=9∨x.k=10)∧Zp x.a 0 ((P.gh.length:Int) - 1)=false)∨ZG P x h=none):Zat P l E (m+1) next h=false:=by
 unfold Zat;rw [hx];simp only
 by_cases h1:ZW x.k 2=false
 · rw [if_pos h1]
 · rw [if_neg h1]
   by_cases h2:(x.k=9∨x.k=10)∧Zp x.a 0 ((P.gh.length:Int) - 1)=false
   · rw [if_pos h2]
   · rw [if_neg h2];rcases hh with hh | hh | hh
     · exact absurd hh h1
     · exact absurd hh h2
     · rw [hh]
theorem Zir {P:Pl} {l:List Ac} {E:Nat→Nat} {next:Nat} {h:Int}:Zat P l E 0 next h=decide (h=0):=rfl
theorem Zfh {P:Pl} {x:Ac} (hk:¬(9≤x.k∧x.k≤12)):ZG P x 0=some 0:=by
 unfold ZG;rw [if_neg (by omega),if_neg (by omega),if_neg (by omega),if_neg (by omega),if_neg (by omega),if_neg (by omega)]
theorem Zbd {P:Pl} {x:Ac} {h:Int} (hk:¬(9≤x.k∧x.k≤12)) (hh:h≠0):ZG P x h=none:=by
 unfold ZG;rw [if_neg (by omega),if_neg (by omega),if_neg (by omega),if_neg (by omega),if_neg (by omega),if_pos (.inr hh)]
theorem ZiZ {k:Int} (h:1≤k∧k≤16):ZW k 2=true:=by unfold ZW;simp [h.1,h.2]
theorem ZmR (h:Int):decide (h=0)=(h == 0):=by rw [Bool.eq_iff_iff];simp
theorem Zg6 {k:Int} (h:¬(1≤k∧k≤16)):ZW k 2=false:=by
 unfold ZW
 simp
 omega
theorem CkrR.cells {w:World} {g:Nat} {q:PlV} {P:Pl} {ad:Addr} {c:Nat} {l:List Ac} {ge gw m:Nat} (h:CkrR w g q P ad c l ge gw m) :
 w.cell? ⟨g,0,none⟩=some (.slice q.ga q.gl q.gc)∧w.cell? ⟨g,5,none⟩=some (.slice (some ad) l.length c)∧w.cell? ⟨g,6,none⟩=some (.slice (some ⟨ge,0,none⟩) l.length l.length)∧w.cell? ⟨g,7,none⟩=some (.slice (some ⟨gw,0,none⟩) l.length l.length):=by
 refine ⟨?_,?_,?_,?_⟩ <;> (rw [h.k.cell];rfl)
theorem ZlN (w:World) (g:Nat) (q:PlV) (P:Pl) (ad:Addr) (c:Nat) (l:List Ac) (ge gw m a:Nat) (x:Ac) (h:CkrR w g q P ad c l ge gw m) (hT:Za9 l) (hx:l[a]? = some x) :
 Calls Try.prog 125 #[.pointer (some ⟨g,0,none⟩),.int .i64 (a:Int)] w fun en w'=>en=.returned (.bool (Zat P l (endE l) x.n.toNat (a+1) 0))∧Below w.heap.size w w':=by
 have hal:=(gs_ hx).1;have hbl:=h.b;obtain ⟨x',hx',hn0,hch,_⟩:=hT.2 a hal;rw [hx] at hx';injection hx' with hx';subst hx';obtain ⟨N,hN⟩:∃N:Nat,x.n=(N:Int):=⟨x.n.toNat,by omega⟩;rw [hN,Int.toNat_natCast] at hch;rw [hN,Int.toNat_natCast];have ha0:(0:Int)≤(a:Int):=by omega
 have haL:(a:Int)<(l.length:Int):=by omega
 have u1:=IntWalk.i64_in ((a:Int)+1) (by omega);obtain ⟨r,hr⟩:∃r,Zat P l (endE l) N (a+1) 0=r:=⟨_,rfl⟩;rw [hr];have HR:=Za hr;have HH:=Za h;have HX:=Za hx;have HT:=Za hT;have HCH:=Za hch;have HN:=Za hN;have HST:=fun (W:World) (k:Int)=>Za (Zbm W k 2)
 have HF:=fun (W:World) (y lo hi:Int)=>Za (Zcj W y lo hi)
 have hgl:P.gh.length≤9223372036854775807:=by have:=h.p.l.1;unfold maxLen at this;omega
 have u2:=IntWalk.i64_in ((P.gh.length:Int) - 1) (by omega);have hNl:N≤l.length:=by have:=Zd4 hT.2 hx;omega
 clear h hx hr hT hch hn0 hN;go_enter Try.func125,Try.ntmps125;go_wp2_with fail;go_loopw [5,6,7] (fun t5 t6 t7 W=>∃(k next:Nat) (h:Int),t5=.int .i64 (next:Int)∧t6=.int .i64 h∧t7=.int .i64 (k:Int)∧k≤N∧(h=0∨h=1∨h=2∨h=3)∧Hid (Zr (endE l) k (a+1)=next)∧Hid (Zat P l (endE l) (N - k) next h=r)∧a<next∧Below w.heap.size w W) (fun _ _ t7 _=>N - (intOf t7).toNat)
 case atStart=>exact ⟨0,a+1,0,by go_num,rfl,rfl,Nat.zero_le _,.inl rfl,Za rfl,Za HR.out,by omega,Below.refl _ _⟩
 case round =>
  obtain ⟨k,next,h,rfl,rfl,rfl,hkN,hh,HC,HB,hna,hb⟩:=hrel;rename World=>W
  have HBW:=Za hb;have hc:=HH.out.below hb;obtain ⟨c0,c5,c6,c7⟩:=hc.cells;obtain ⟨ad1,e1,hab1,-,-,-,-,-,q5⟩:=Zq hc.s HX.out
  cases e1
  have HCW:=Za hc;rw [HN.out] at q5;have u3:=IntWalk.i64_in ((k:Int)+1) (by omega);clear hb hc
  by_cases hlt:k<N
  · have hltI:(k:Int)<(N:Int):=by omega
    have hnl:next<l.length:=by rw [←HC.out];exact HCH.out k hlt
    have hnL:(next:Int)<(l.length:Int):=by omega
    have hn0:(0:Int)≤(next:Int):=by omega
    obtain ⟨y,hy⟩:∃y,l[next]? = some y:=⟨_,ge_ hnl⟩;have HY:=Za hy;obtain ⟨ad2,e2,hab2,p0,p1,p2,p3,p4,p5⟩:=Zq HCW.out.s hy
    cases e2
    obtain ⟨e,he⟩:∃e,endE l next=e:=⟨_,rfl⟩;have ce:W.cell? ⟨ge,next,none⟩=some (.int .i64 (e:Int)):=by rw [←he];exact Zae HCW.out.e (Zbw (Nat.zero_le _) hnl)
    have hae:a<e:=by rw [←he];have:=Zde (l:=l) (j:=next) (by omega);omega
    have HE:=Za he;have hgel:=HCW.out.e.lt;have hgll:=HCW.out.k.lt;have HGS:=Za HCW.out.p.gs;have hqg:=HCW.out.p.gl;obtain ⟨M,hM⟩:∃M,N - k=M+1:=⟨N - k - 1,by omega⟩;have HM:=Za hM;rw [hM] at HB;obtain ⟨k0,a0,b0,cc0,d0,n0⟩:=y;simp only at p0 p1 p2 p3 p4 p5;have HBA:=Za ((Below.refl W.heap.size W).alloc lr_ (.cells #[.int .i64 k0,.int .i64 a0,.int .i64 b0,.int .i64 cc0,.int .i64 d0,.int .i64 n0] 49));rw [hqg] at c0;clear hy he hM hqg hab1 hab2
    by_cases hs:1≤k0∧k0≤16
    · have hsv:=ZiZ hs;have HST:=fun (W2:World)=>Za ((Zbm W2 k0 2).mono (fun en w' hh=>(⟨by rw [hh.1,hsv],hh.2⟩:en=.returned (.bool true)∧W2=w')))
      clear hsv
      by_cases h9:k0=9
      · subst h9
        cases hq:Zp a0 0 ((P.gh.length:Int) - 1) with
        | false =>
         have HF:=fun (W2:World) (lo hi:Int)=>Za ((Zcj W2 a0 0 ((P.gh.length:Int) - 1)).mono (fun en w' hh=>(⟨by rw [hh.1,hq],hh.2.symm⟩:en=.returned (.bool false)∧w'=W2)))
         have HQ:=Za hq;clear hq;have HRF:=Za (show r=false by rw [←HB.out];exact ZO HY.out (.inr (.inl ⟨by simp,HQ.out⟩)));go_wp2_with (go_at_call 127;refine (HST _).out.mono ?_;rintro en w1 ⟨rfl,rfl⟩);go_quiet ((go_at_call 79;exact Calls.quiet_of_same (HF _ 0 0).out));go_wp2_with fail
         try (go_quiet (fail);go_wp2_with fail)
         try (go_quiet (fail);go_wp2_with fail)
         go_ret;exact ⟨by rw [HRF.out];first | done | rfl,by first | exact bT HBW.out HBA.out | exact bU HBW.out HBA.out _⟩
        | true =>
         have HF:=fun (W2:World) (lo hi:Int)=>Za ((Zcj W2 a0 0 ((P.gh.length:Int) - 1)).mono (fun en w' hh=>(⟨by rw [hh.1,hq],hh.2.symm⟩:en=.returned (.bool true)∧w'=W2)))
         obtain ⟨adg,eg,hlg,hg0,hg1,hcg⟩:=Zb6 (a:=a0) HGS.out hq;have HQ:=Za hq;rw [eg] at c0;have hcG:∀o,(W.alloc o).cell? (adg.add a0.toNat)=some (.bool (ghV P.gh a0)):=fun o=>(World.cell?_alloc_lt _ _ _ (by rw [Zl];exact hlg)).trans hcg
         clear hq eg hlg
         cases hgv:ghV P.gh a0 with
         | true =>
          rw [hgv] at hcg;have HGV:=Za hgv;simp only [hgv] at hcG;clear hgv;rcases hh with rfl | rfl | rfl | rfl
          · have HGO:=Za (Zaf (E:=endE l) (m:=M) HY.out (by simp) (fun hq=>HQ.out) (show ZG P _ 0=some 2 by simp [ZG,HGV.out]));go_wp2_with (go_at_call 127;refine (HST _).out.mono ?_;rintro en w1 ⟨rfl,rfl⟩);go_quiet ((go_at_call 79;exact Calls.quiet_of_same (HF _ 0 0).out));go_wp2_with fail
            try (go_quiet (fail);go_wp2_with fail)
            try (go_quiet (fail);go_wp2_with fail)
            go_roundw
            case rel =>
             refine ⟨k+1,e,2,rfl,rfl,by go_num,by omega,by simp,Za ?_,Za ?_,hae,?_⟩
             · rw [Z1,HC.out,HE.out]
             · rw [←HB.out,HGO.out,HE.out];congr 1;have:=HM.out;omega
             · first | exact bT HBW.out HBA.out | exact bU HBW.out HBA.out _
            case measure =>
             simp only [intOf];omega
          · have HRF:=Za (show r=false by rw [←HB.out];exact ZO HY.out (.inr (.inr (by simp [ZG,HGV.out]))));go_wp2_with (go_at_call 127;refine (HST _).out.mono ?_;rintro en w1 ⟨rfl,rfl⟩);go_quiet ((go_at_call 79;exact Calls.quiet_of_same (HF _ 0 0).out));go_wp2_with fail
            try (go_quiet (fail);go_wp2_with fail)
            try (go_quiet (fail);go_wp2_with fail)
            go_ret;exact ⟨by rw [HRF.out];first | done | rfl,by first | exact bT HBW.out HBA.out | exact bU HBW.out HBA.out _⟩
          · have HRF:=Za (show r=false by rw [←HB.out];exact ZO HY.out (.inr (.inr (by simp [ZG,HGV.out]))));go_wp2_with (go_at_call 127;refine (HST _).out.mono ?_;rintro en w1 ⟨rfl,rfl⟩);go_quiet ((go_at_call 79;exact Calls.quiet_of_same (HF _ 0 0).out));go_wp2_with fail
            try (go_quiet (fail);go_wp2_with fail)
            try (go_quiet (fail);go_wp2_with fail)
            go_ret;exact ⟨by rw [HRF.out];first | done | rfl,by first | exact bT HBW.out HBA.out | exact bU HBW.out HBA.out _⟩
          · have HRF:=Za (show r=false by rw [←HB.out];exact ZO HY.out (.inr (.inr (by simp [ZG,HGV.out]))));go_wp2_with (go_at_call 127;refine (HST _).out.mono ?_;rintro en w1 ⟨rfl,rfl⟩);go_quiet ((go_at_call 79;exact Calls.quiet_of_same (HF _ 0 0).out));go_wp2_with fail
            try (go_quiet (fail);go_wp2_with fail)
            try (go_quiet (fail);go_wp2_with fail)
            go_ret;exact ⟨by rw [HRF.out];first | done | rfl,by first | exact bT HBW.out HBA.out | exact bU HBW.out HBA.out _⟩
         | false =>
          rw [hgv] at hcg;have HGV:=Za hgv;simp only [hgv] at hcG;clear hgv;rcases hh with rfl | rfl | rfl | rfl
          · have HGO:=Za (Zaf (E:=endE l) (m:=M) HY.out (by simp) (fun hq=>HQ.out) (show ZG P _ 0=some 1 by simp [ZG,HGV.out]));go_wp2_with (go_at_call 127;refine (HST _).out.mono ?_;rintro en w1 ⟨rfl,rfl⟩);go_quiet ((go_at_call 79;exact Calls.quiet_of_same (HF _ 0 0).out));go_wp2_with fail
            try (go_quiet (fail);go_wp2_with fail)
            try (go_quiet (fail);go_wp2_with fail)
            go_roundw
            case rel =>
             refine ⟨k+1,e,1,rfl,rfl,by go_num,by omega,by simp,Za ?_,Za ?_,hae,?_⟩
             · rw [Z1,HC.out,HE.out]
             · rw [←HB.out,HGO.out,HE.out];congr 1;have:=HM.out;omega
             · first | exact bT HBW.out HBA.out | exact bU HBW.out HBA.out _
            case measure =>
             simp only [intOf];omega
          · have HRF:=Za (show r=false by rw [←HB.out];exact ZO HY.out (.inr (.inr (by simp [ZG,HGV.out]))));go_wp2_with (go_at_call 127;refine (HST _).out.mono ?_;rintro en w1 ⟨rfl,rfl⟩);go_quiet ((go_at_call 79;exact Calls.quiet_of_same (HF _ 0 0).out));go_wp2_with fail
            try (go_quiet (fail);go_wp2_with fail)
            try (go_quiet (fail);go_wp2_with fail)
            go_ret;exact ⟨by rw [HRF.out];first | done | rfl,by first | exact bT HBW.out HBA.out | exact bU HBW.out HBA.out _⟩
          · have HRF:=Za (show r=false by rw [←HB.out];exact ZO HY.out (.inr (.inr (by simp [ZG,HGV.out]))));go_wp2_with (go_at_call 127;refine (HST _).out.mono ?_;rintro en w1 ⟨rfl,rfl⟩);go_quiet ((go_at_call 79;exact Calls.quiet_of_same (HF _ 0 0).out));go_wp2_with fail
            try (go_quiet (fail);go_wp2_with fail)
            try (go_quiet (fail);go_wp2_with fail)
            go_ret;exact ⟨by rw [HRF.out];first | done | rfl,by first | exact bT HBW.out HBA.out | exact bU HBW.out HBA.out _⟩
          · have HRF:=Za (show r=false by rw [←HB.out];exact ZO HY.out (.inr (.inr (by simp [ZG,HGV.out]))));go_wp2_with (go_at_call 127;refine (HST _).out.mono ?_;rintro en w1 ⟨rfl,rfl⟩);go_quiet ((go_at_call 79;exact Calls.quiet_of_same (HF _ 0 0).out));go_wp2_with fail
            try (go_quiet (fail);go_wp2_with fail)
            try (go_quiet (fail);go_wp2_with fail)
            go_ret;exact ⟨by rw [HRF.out];first | done | rfl,by first | exact bT HBW.out HBA.out | exact bU HBW.out HBA.out _⟩
      by_cases h10:k0=10
      · subst h10
        cases hq:Zp a0 0 ((P.gh.length:Int) - 1) with
        | false =>
         have HF:=fun (W2:World) (lo hi:Int)=>Za ((Zcj W2 a0 0 ((P.gh.length:Int) - 1)).mono (fun en w' hh=>(⟨by rw [hh.1,hq],hh.2.symm⟩:en=.returned (.bool false)∧w'=W2)))
         have HQ:=Za hq;clear hq;have HRF:=Za (show r=false by rw [←HB.out];exact ZO HY.out (.inr (.inl ⟨by simp,HQ.out⟩)));go_wp2_with (go_at_call 127;refine (HST _).out.mono ?_;rintro en w1 ⟨rfl,rfl⟩);go_quiet ((go_at_call 79;exact Calls.quiet_of_same (HF _ 0 0).out));go_wp2_with fail
         try (go_quiet (fail);go_wp2_with fail)
         try (go_quiet (fail);go_wp2_with fail)
         go_ret;exact ⟨by rw [HRF.out];first | done | rfl,by first | exact bT HBW.out HBA.out | exact bU HBW.out HBA.out _⟩
        | true =>
         have HF:=fun (W2:World) (lo hi:Int)=>Za ((Zcj W2 a0 0 ((P.gh.length:Int) - 1)).mono (fun en w' hh=>(⟨by rw [hh.1,hq],hh.2.symm⟩:en=.returned (.bool true)∧w'=W2)))
         obtain ⟨adg,eg,hlg,hg0,hg1,hcg⟩:=Zb6 (a:=a0) HGS.out hq;have HQ:=Za hq;rw [eg] at c0;have hcG:∀o,(W.alloc o).cell? (adg.add a0.toNat)=some (.bool (ghV P.gh a0)):=fun o=>(World.cell?_alloc_lt _ _ _ (by rw [Zl];exact hlg)).trans hcg
         clear hq eg hlg
         cases hgv:ghV P.gh a0 with
         | true =>
          rw [hgv] at hcg;have HGV:=Za hgv;simp only [hgv] at hcG;clear hgv;rcases hh with rfl | rfl | rfl | rfl
          · have HRF:=Za (show r=false by rw [←HB.out];exact ZO HY.out (.inr (.inr (by simp [ZG,HGV.out]))));go_wp2_with (go_at_call 127;refine (HST _).out.mono ?_;rintro en w1 ⟨rfl,rfl⟩);go_quiet ((go_at_call 79;exact Calls.quiet_of_same (HF _ 0 0).out));go_wp2_with fail
            try (go_quiet (fail);go_wp2_with fail)
            try (go_quiet (fail);go_wp2_with fail)
            go_ret;exact ⟨by rw [HRF.out];first | done | rfl,by first | exact bT HBW.out HBA.out | exact bU HBW.out HBA.out _⟩
          · have HRF:=Za (show r=false by rw [←HB.out];exact ZO HY.out (.inr (.inr (by simp [ZG,HGV.out]))));go_wp2_with (go_at_call 127;refine (HST _).out.mono ?_;rintro en w1 ⟨rfl,rfl⟩);go_quiet ((go_at_call 79;exact Calls.quiet_of_same (HF _ 0 0).out));go_wp2_with fail
            try (go_quiet (fail);go_wp2_with fail)
            try (go_quiet (fail);go_wp2_with fail)
            go_ret;exact ⟨by rw [HRF.out];first | done | rfl,by first | exact bT HBW.out HBA.out | exact bU HBW.out HBA.out _⟩
          · have HGO:=Za (Zaf (E:=endE l) (m:=M) HY.out (by simp) (fun hq=>HQ.out) (show ZG P _ 2=some 0 by simp [ZG,HGV.out]));go_wp2_with (go_at_call 127;refine (HST _).out.mono ?_;rintro en w1 ⟨rfl,rfl⟩);go_quiet ((go_at_call 79;exact Calls.quiet_of_same (HF _ 0 0).out));go_wp2_with fail
            try (go_quiet (fail);go_wp2_with fail)
            try (go_quiet (fail);go_wp2_with fail)
            go_roundw
            case rel =>
             refine ⟨k+1,e,0,rfl,rfl,by go_num,by omega,by simp,Za ?_,Za ?_,hae,?_⟩
             · rw [Z1,HC.out,HE.out]
             · rw [←HB.out,HGO.out,HE.out];congr 1;have:=HM.out;omega
             · first | exact bT HBW.out HBA.out | exact bU HBW.out HBA.out _
            case measure =>
             simp only [intOf];omega
          · have HGO:=Za (Zaf (E:=endE l) (m:=M) HY.out (by simp) (fun hq=>HQ.out) (show ZG P _ 3=some 0 by simp [ZG,HGV.out]));go_wp2_with (go_at_call 127;refine (HST _).out.mono ?_;rintro en w1 ⟨rfl,rfl⟩);go_quiet ((go_at_call 79;exact Calls.quiet_of_same (HF _ 0 0).out));go_wp2_with fail
            try (go_quiet (fail);go_wp2_with fail)
            try (go_quiet (fail);go_wp2_with fail)
            go_roundw
            case rel =>
             refine ⟨k+1,e,0,rfl,rfl,by go_num,by omega,by simp,Za ?_,Za ?_,hae,?_⟩
             · rw [Z1,HC.out,HE.out]
             · rw [←HB.out,HGO.out,HE.out];congr 1;have:=HM.out;omega
             · first | exact bT HBW.out HBA.out | exact bU HBW.out HBA.out _
            case measure =>
             simp only [intOf];omega
         | false =>
          rw [hgv] at hcg;have HGV:=Za hgv;simp only [hgv] at hcG;clear hgv;rcases hh with rfl | rfl | rfl | rfl
          · have HRF:=Za (show r=false by rw [←HB.out];exact ZO HY.out (.inr (.inr (by simp [ZG,HGV.out]))));go_wp2_with (go_at_call 127;refine (HST _).out.mono ?_;rintro en w1 ⟨rfl,rfl⟩);go_quiet ((go_at_call 79;exact Calls.quiet_of_same (HF _ 0 0).out));go_wp2_with fail
            try (go_quiet (fail);go_wp2_with fail)
            try (go_quiet (fail);go_wp2_with fail)
            go_ret;exact ⟨by rw [HRF.out];first | done | rfl,by first | exact bT HBW.out HBA.out | exact bU HBW.out HBA.out _⟩
          · have HGO:=Za (Zaf (E:=endE l) (m:=M) HY.out (by simp) (fun hq=>HQ.out) (show ZG P _ 1=some 0 by simp [ZG,HGV.out]));go_wp2_with (go_at_call 127;refine (HST _).out.mono ?_;rintro en w1 ⟨rfl,rfl⟩);go_quiet ((go_at_call 79;exact Calls.quiet_of_same (HF _ 0 0).out));go_wp2_with fail
            try (go_quiet (fail);go_wp2_with fail)
            try (go_quiet (fail);go_wp2_with fail)
            go_roundw
            case rel =>
             refine ⟨k+1,e,0,rfl,rfl,by go_num,by omega,by simp,Za ?_,Za ?_,hae,?_⟩
             · rw [Z1,HC.out,HE.out]
             · rw [←HB.out,HGO.out,HE.out];congr 1;have:=HM.out;omega
             · first | exact bT HBW.out HBA.out | exact bU HBW.out HBA.out _
            case measure =>
             simp only [intOf];omega
          · have HRF:=Za (show r=false by rw [←HB.out];exact ZO HY.out (.inr (.inr (by simp [ZG,HGV.out]))));go_wp2_with (go_at_call 127;refine (HST _).out.mono ?_;rintro en w1 ⟨rfl,rfl⟩);go_quiet ((go_at_call 79;exact Calls.quiet_of_same (HF _ 0 0).out));go_wp2_with fail
            try (go_quiet (fail);go_wp2_with fail)
            try (go_quiet (fail);go_wp2_with fail)
            go_ret;exact ⟨by rw [HRF.out];first | done | rfl,by first | exact bT HBW.out HBA.out | exact bU HBW.out HBA.out _⟩
          · have HRF:=Za (show r=false by rw [←HB.out];exact ZO HY.out (.inr (.inr (by simp [ZG,HGV.out]))));go_wp2_with (go_at_call 127;refine (HST _).out.mono ?_;rintro en w1 ⟨rfl,rfl⟩);go_quiet ((go_at_call 79;exact Calls.quiet_of_same (HF _ 0 0).out));go_wp2_with fail
            try (go_quiet (fail);go_wp2_with fail)
            try (go_quiet (fail);go_wp2_with fail)
            go_ret;exact ⟨by rw [HRF.out];first | done | rfl,by first | exact bT HBW.out HBA.out | exact bU HBW.out HBA.out _⟩
      by_cases h11:k0=11
      · subst h11;have HQ:Hid (Zp a0 0 ((P.gh.length:Int) - 1)=true)∨True:=.inr trivial;rcases hh with rfl | rfl | rfl | rfl
        · have HRF:=Za (show r=false by rw [←HB.out];exact ZO HY.out (.inr (.inr (by simp [ZG]))));go_wp2_with (go_at_call 127;refine (HST _).out.mono ?_;rintro en w1 ⟨rfl,rfl⟩)
          try (go_quiet (fail);go_wp2_with fail)
          try (go_quiet (fail);go_wp2_with fail)
          go_ret;exact ⟨by rw [HRF.out];first | done | rfl,by first | exact bT HBW.out HBA.out | exact bU HBW.out HBA.out _⟩
        · have HGO:=Za (Zaf (E:=endE l) (m:=M) HY.out (by simp) (by simp) (show ZG P _ 1=some 3 by simp [ZG]));go_wp2_with (go_at_call 127;refine (HST _).out.mono ?_;rintro en w1 ⟨rfl,rfl⟩)
          try (go_quiet (fail);go_wp2_with fail)
          try (go_quiet (fail);go_wp2_with fail)
          go_roundw
          case rel =>
           refine ⟨k+1,e,3,rfl,rfl,by go_num,by omega,by simp,Za ?_,Za ?_,hae,?_⟩
           · rw [Z1,HC.out,HE.out]
           · rw [←HB.out,HGO.out,HE.out];congr 1;have:=HM.out;omega
           · first | exact bT HBW.out HBA.out | exact bU HBW.out HBA.out _
          case measure =>
           simp only [intOf];omega
        · have HRF:=Za (show r=false by rw [←HB.out];exact ZO HY.out (.inr (.inr (by simp [ZG]))));go_wp2_with (go_at_call 127;refine (HST _).out.mono ?_;rintro en w1 ⟨rfl,rfl⟩)
          try (go_quiet (fail);go_wp2_with fail)
          try (go_quiet (fail);go_wp2_with fail)
          go_ret;exact ⟨by rw [HRF.out];first | done | rfl,by first | exact bT HBW.out HBA.out | exact bU HBW.out HBA.out _⟩
        · have HRF:=Za (show r=false by rw [←HB.out];exact ZO HY.out (.inr (.inr (by simp [ZG]))));go_wp2_with (go_at_call 127;refine (HST _).out.mono ?_;rintro en w1 ⟨rfl,rfl⟩)
          try (go_quiet (fail);go_wp2_with fail)
          try (go_quiet (fail);go_wp2_with fail)
          go_ret;exact ⟨by rw [HRF.out];first | done | rfl,by first | exact bT HBW.out HBA.out | exact bU HBW.out HBA.out _⟩
      by_cases h12:k0=12
      · subst h12;rcases hh with rfl | rfl | rfl | rfl
        · have HRF:=Za (show r=false by rw [←HB.out];exact ZO HY.out (.inr (.inr (by simp [ZG]))));go_wp2_with (go_at_call 127;refine (HST _).out.mono ?_;rintro en w1 ⟨rfl,rfl⟩)
          try (go_quiet (fail);go_wp2_with fail)
          try (go_quiet (fail);go_wp2_with fail)
          go_ret;exact ⟨by rw [HRF.out];first | done | rfl,by first | exact bT HBW.out HBA.out | exact bU HBW.out HBA.out _⟩
        · have HRF:=Za (show r=false by rw [←HB.out];exact ZO HY.out (.inr (.inr (by simp [ZG]))));go_wp2_with (go_at_call 127;refine (HST _).out.mono ?_;rintro en w1 ⟨rfl,rfl⟩)
          try (go_quiet (fail);go_wp2_with fail)
          try (go_quiet (fail);go_wp2_with fail)
          go_ret;exact ⟨by rw [HRF.out];first | done | rfl,by first | exact bT HBW.out HBA.out | exact bU HBW.out HBA.out _⟩
        · have HGO:=Za (Zaf (E:=endE l) (m:=M) HY.out (by simp) (by simp) (show ZG P _ 2=some 0 by simp [ZG]));go_wp2_with (go_at_call 127;refine (HST _).out.mono ?_;rintro en w1 ⟨rfl,rfl⟩)
          try (go_quiet (fail);go_wp2_with fail)
          try (go_quiet (fail);go_wp2_with fail)
          go_roundw
          case rel =>
           refine ⟨k+1,e,0,rfl,rfl,by go_num,by omega,by simp,Za ?_,Za ?_,hae,?_⟩
           · rw [Z1,HC.out,HE.out]
           · rw [←HB.out,HGO.out,HE.out];congr 1;have:=HM.out;omega
           · first | exact bT HBW.out HBA.out | exact bU HBW.out HBA.out _
          case measure =>
           simp only [intOf];omega
        · have HGO:=Za (Zaf (E:=endE l) (m:=M) HY.out (by simp) (by simp) (show ZG P _ 3=some 0 by simp [ZG]));go_wp2_with (go_at_call 127;refine (HST _).out.mono ?_;rintro en w1 ⟨rfl,rfl⟩)
          try (go_quiet (fail);go_wp2_with fail)
          try (go_quiet (fail);go_wp2_with fail)
          go_roundw
          case rel =>
           refine ⟨k+1,e,0,rfl,rfl,by go_num,by omega,by simp,Za ?_,Za ?_,hae,?_⟩
           · rw [Z1,HC.out,HE.out]
           · rw [←HB.out,HGO.out,HE.out];congr 1;have:=HM.out;omega
           · first | exact bT HBW.out HBA.out | exact bU HBW.out HBA.out _
          case measure =>
           simp only [intOf];omega
      have HK:=Za (show 1≤k0∧k0≤16∧k0≠9∧k0≠10∧k0≠11∧k0≠12 from ⟨hs.1,hs.2,h9,h10,h11,h12⟩);have hb9:(k0 == 9)=false:=by simp [h9]
      have hb10:(k0 == 10)=false:=by simp [h10]
      have hb11:(k0 == 11)=false:=by simp [h11]
      have hb12:(k0 == 12)=false:=by simp [h12]
      clear hs
      by_cases hlo:k0≤8
      · have hlo2:¬ 9≤k0:=by omega
        rcases hh with rfl | rfl | rfl | rfl
        · have HGO:=Za (Zaf (E:=endE l) (m:=M) HY.out ⟨HK.out.1,HK.out.2.1⟩ (by have:=HK.out;rintro (h | h) <;> simp only at h <;> omega) (show ZG P _ 0=some 0 by exact Zfh (by have:=HK.out;simp only;omega)));go_wp2_with (go_at_call 127;refine (HST _).out.mono ?_;rintro en w1 ⟨rfl,rfl⟩)
          try (go_quiet (fail);go_wp2_with fail)
          try (go_quiet (fail);go_wp2_with fail)
          go_roundw
          case rel =>
           refine ⟨k+1,e,0,rfl,rfl,by go_num,by omega,by simp,Za ?_,Za ?_,hae,?_⟩
           · rw [Z1,HC.out,HE.out]
           · rw [←HB.out,HGO.out,HE.out];congr 1;have:=HM.out;omega
           · first | exact bT HBW.out HBA.out | exact bU HBW.out HBA.out _
          case measure =>
           simp only [intOf];omega
        · have HRF:=Za (show r=false by rw [←HB.out];exact ZO HY.out (.inr (.inr (Zbd (by have:=HK.out;simp only;omega) (by omega)))));go_wp2_with (go_at_call 127;refine (HST _).out.mono ?_;rintro en w1 ⟨rfl,rfl⟩)
          try (go_quiet (fail);go_wp2_with fail)
          try (go_quiet (fail);go_wp2_with fail)
          go_ret;exact ⟨by rw [HRF.out];first | done | rfl,by first | exact bT HBW.out HBA.out | exact bU HBW.out HBA.out _⟩
        · have HRF:=Za (show r=false by rw [←HB.out];exact ZO HY.out (.inr (.inr (Zbd (by have:=HK.out;simp only;omega) (by omega)))));go_wp2_with (go_at_call 127;refine (HST _).out.mono ?_;rintro en w1 ⟨rfl,rfl⟩)
          try (go_quiet (fail);go_wp2_with fail)
          try (go_quiet (fail);go_wp2_with fail)
          go_ret;exact ⟨by rw [HRF.out];first | done | rfl,by first | exact bT HBW.out HBA.out | exact bU HBW.out HBA.out _⟩
        · have HRF:=Za (show r=false by rw [←HB.out];exact ZO HY.out (.inr (.inr (Zbd (by have:=HK.out;simp only;omega) (by omega)))));go_wp2_with (go_at_call 127;refine (HST _).out.mono ?_;rintro en w1 ⟨rfl,rfl⟩)
          try (go_quiet (fail);go_wp2_with fail)
          try (go_quiet (fail);go_wp2_with fail)
          go_ret;exact ⟨by rw [HRF.out];first | done | rfl,by first | exact bT HBW.out HBA.out | exact bU HBW.out HBA.out _⟩
      · have hlo2:9≤k0:=by omega
        have hhi:¬k0≤12:=by have:=HK.out;omega
        rcases hh with rfl | rfl | rfl | rfl
        · have HGO:=Za (Zaf (E:=endE l) (m:=M) HY.out ⟨HK.out.1,HK.out.2.1⟩ (by have:=HK.out;rintro (h | h) <;> simp only at h <;> omega) (show ZG P _ 0=some 0 by exact Zfh (by have:=HK.out;simp only;omega)));go_wp2_with (go_at_call 127;refine (HST _).out.mono ?_;rintro en w1 ⟨rfl,rfl⟩)
          try (go_quiet (fail);go_wp2_with fail)
          try (go_quiet (fail);go_wp2_with fail)
          go_roundw
          case rel =>
           refine ⟨k+1,e,0,rfl,rfl,by go_num,by omega,by simp,Za ?_,Za ?_,hae,?_⟩
           · rw [Z1,HC.out,HE.out]
           · rw [←HB.out,HGO.out,HE.out];congr 1;have:=HM.out;omega
           · first | exact bT HBW.out HBA.out | exact bU HBW.out HBA.out _
          case measure =>
           simp only [intOf];omega
        · have HRF:=Za (show r=false by rw [←HB.out];exact ZO HY.out (.inr (.inr (Zbd (by have:=HK.out;simp only;omega) (by omega)))));go_wp2_with (go_at_call 127;refine (HST _).out.mono ?_;rintro en w1 ⟨rfl,rfl⟩)
          try (go_quiet (fail);go_wp2_with fail)
          try (go_quiet (fail);go_wp2_with fail)
          go_ret;exact ⟨by rw [HRF.out];first | done | rfl,by first | exact bT HBW.out HBA.out | exact bU HBW.out HBA.out _⟩
        · have HRF:=Za (show r=false by rw [←HB.out];exact ZO HY.out (.inr (.inr (Zbd (by have:=HK.out;simp only;omega) (by omega)))));go_wp2_with (go_at_call 127;refine (HST _).out.mono ?_;rintro en w1 ⟨rfl,rfl⟩)
          try (go_quiet (fail);go_wp2_with fail)
          try (go_quiet (fail);go_wp2_with fail)
          go_ret;exact ⟨by rw [HRF.out];first | done | rfl,by first | exact bT HBW.out HBA.out | exact bU HBW.out HBA.out _⟩
        · have HRF:=Za (show r=false by rw [←HB.out];exact ZO HY.out (.inr (.inr (Zbd (by have:=HK.out;simp only;omega) (by omega)))));go_wp2_with (go_at_call 127;refine (HST _).out.mono ?_;rintro en w1 ⟨rfl,rfl⟩)
          try (go_quiet (fail);go_wp2_with fail)
          try (go_quiet (fail);go_wp2_with fail)
          go_ret;exact ⟨by rw [HRF.out];first | done | rfl,by first | exact bT HBW.out HBA.out | exact bU HBW.out HBA.out _⟩
    · have hsv:=Zg6 hs;have HST:=fun (W2:World)=>Za ((Zbm W2 k0 2).mono (fun en w' hh=>(⟨by rw [hh.1,hsv],hh.2⟩:en=.returned (.bool false)∧W2=w')))
      have HSV:=Za hsv;clear hsv hs;have HRF:=Za (show r=false by rw [←HB.out];exact ZO HY.out (.inl HSV.out));go_wp2_with (go_at_call 127;refine (HST _).out.mono ?_;rintro en w1 ⟨rfl,rfl⟩)
      try (go_quiet (fail);go_wp2_with fail)
      try (go_quiet (fail);go_wp2_with fail)
      go_ret;exact ⟨by rw [HRF.out];first | done | rfl,by first | exact bT HBW.out HBA.out | exact bU HBW.out HBA.out _⟩
  · have hltI:¬(k:Int)<(N:Int):=by omega
    obtain rfl:k=N:=by omega
    rw [Nat.sub_self,Zir] at HB;go_wp2_with fail;go_ret;exact ⟨by rw [←HB.out,ZmR];first | done | rfl,HBW.out⟩
theorem Zg9 (w:World) (q:PlV) (P:Pl) (x:Ac) (h:Pm w q P) (hx:x.k≠3∧x.k≠4∧x.k≠21∧x.k≠5∧x.k≠25∧x.k≠6∧x.k≠9∧x.k≠10∧x.k≠18∧x.k≠7∧x.k≠15∧x.k≠16∧x.k≠13∧x.k≠14∧x.k≠19∧x.k≠20∧x.k≠22∧x.k≠24) :
 Calls Try.prog 124 #[q.val,x.val] w fun en w'=>en=.returned (.bool (opR P x))∧Below w.heap.size w w':=by
 obtain ⟨nv,hnv⟩:∃nv,opR P x=nv:=⟨_,rfl⟩;rw [hnv];have HNV:=Za hnv;clear hnv;obtain ⟨k,a,b,c,d,n⟩:=x;simp only at hx;obtain ⟨e1,e2,e3,hs,l1,l2,l3⟩:=h;obtain ⟨ga,va,ta,oa,ma,gl,gc,vl,vc,tl,tc,ol,oc,ml,mc⟩:=q;simp only at e1 e2 e3 hs;subst e1 e2 e3;have HF:=fun (W:World) (y lo hi:Int)=>Za (ZiW W y lo hi)
 unfold maxLen at l1 l2 l3;simp only [Ac.val,PlV.val];have u1:=IntWalk.i64_in ((P.gh.length:Int) - 1) (by omega);have u2:=IntWalk.i64_in ((P.vs.length:Int) - 1) (by omega);have u3:=IntWalk.i64_in ((P.ts.length:Int) - 1) (by omega);obtain ⟨n3,n4,n21,n5,n25,n6,n9,n10,n18,n7,n15,n16,n13,n14,n19,n20,n22,n24⟩:=hx;go_enter Try.func124,Try.ntmps124;go_wp2_with (go_at_call 79;refine (HF _ _ _ _).out.mono ?_;rintro en w1 ⟨rfl,rfl⟩)
 all_goals
  go_ret;refine ⟨?_,?_⟩
  · rw [←HNV.out];congr 2;simp [opR, *]
    try (rw [Bool.eq_iff_iff];simp;done)
  · first | exact bA2 _ _ _ | exact bD2 _ _ _ _
theorem Zi8 (w:World) (q:PlV) (P:Pl) (x:Ac) (h:Pm w q P) (hx:x.k=13∨x.k=14) :
 Calls Try.prog 124 #[q.val,x.val] w fun en w'=>en=.returned (.bool (opR P x))∧Below w.heap.size w w':=by
 obtain ⟨nv,hnv⟩:∃nv,opR P x=nv:=⟨_,rfl⟩;rw [hnv];have HNV:=Za hnv;clear hnv;obtain ⟨k,a,b,c,d,n⟩:=x;simp only at hx;obtain ⟨e1,e2,e3,hs,l1,l2,l3⟩:=h;obtain ⟨ga,va,ta,oa,ma,gl,gc,vl,vc,tl,tc,ol,oc,ml,mc⟩:=q;simp only at e1 e2 e3 hs;subst e1 e2 e3;have HF:=fun (W:World) (y lo hi:Int)=>Za (ZiW W y lo hi)
 unfold maxLen at l1 l2 l3;simp only [Ac.val,PlV.val];have u1:=IntWalk.i64_in ((P.gh.length:Int) - 1) (by omega);have u2:=IntWalk.i64_in ((P.vs.length:Int) - 1) (by omega);have u3:=IntWalk.i64_in ((P.ts.length:Int) - 1) (by omega);rcases hx with rfl | rfl
 all_goals
  cases hqa:Zp a 0 ((P.gh.length:Int) - 1) with
  | true =>
   have HFa:=fun (W:World)=>Za ((Zcj W a 0 ((P.gh.length:Int) - 1)).mono (fun en w' hh=>(⟨by rw [hh.1,hqa],hh.2.symm⟩:en=.returned (.bool true)∧w'=W)))
   obtain ⟨ada,eaa,hla,h0a,h1a,hca⟩:=Zb6 (a:=a) hs hqa;subst eaa;have hxa:∀y0 y1 y2 y3 y4 y5:Int,((w.alloc (.cells #[.slice (some ada) P.gh.length gc,.slice va P.vs.length vc,.slice ta P.ts.length tc,.slice oa ol oc,.slice ma ml mc] 28)).alloc (.cells #[.int .i64 y0,.int .i64 y1,.int .i64 y2,.int .i64 y3,.int .i64 y4,.int .i64 y5] 49)).cell? (ada.add a.toNat)=some (.bool (ghV P.gh a)):=fun y0 y1 y2 y3 y4 y5=>(World.cell?_alloc_lt _ _ _ (by rw [Zl];exact Nat.lt_of_lt_of_le hla (by simp))).trans ((World.cell?_alloc_lt _ _ _ (by rw [Zl];exact hla)).trans hca)
   clear hca
   cases hqc:Zp c 0 ((P.gh.length:Int) - 1) with
   | true =>
    have HFc:=fun (W:World)=>Za ((Zcj W c 0 ((P.gh.length:Int) - 1)).mono (fun en w' hh=>(⟨by rw [hh.1,hqc],hh.2.symm⟩:en=.returned (.bool true)∧w'=W)))
    obtain ⟨adc,eac,hlc,h0c,h1c,hcC⟩:=Zb6 (a:=c) hs hqc
    cases eac
    have hxc:∀y0 y1 y2 y3 y4 y5:Int,((w.alloc (.cells #[.slice (some ada) P.gh.length gc,.slice va P.vs.length vc,.slice ta P.ts.length tc,.slice oa ol oc,.slice ma ml mc] 28)).alloc (.cells #[.int .i64 y0,.int .i64 y1,.int .i64 y2,.int .i64 y3,.int .i64 y4,.int .i64 y5] 49)).cell? (ada.add c.toNat)=some (.bool (ghV P.gh c)):=fun y0 y1 y2 y3 y4 y5=>(World.cell?_alloc_lt _ _ _ (by rw [Zl];exact Nat.lt_of_lt_of_le hlc (by simp))).trans ((World.cell?_alloc_lt _ _ _ (by rw [Zl];exact hlc)).trans hcC)
    clear hcC
    by_cases hc:c=0
    case' pos =>
     have hc1:(c == 0)=true:=by simp [hc]
     have hc2:decide (c=0)=true:=by simp [hc]
     clear hc
    case' neg =>
     have hc1:(c == 0)=false:=by simp [hc]
     have hc2:decide (c=0)=false:=by simp [hc]
     clear hc
    all_goals
     go_enter Try.func124,Try.ntmps124;go_wp2_with (go_at_call 79;first | (with_reducible refine (HFa _).out.mono ?_;rintro en w1 ⟨rfl,rfl⟩) | (with_reducible refine (HFc _).out.mono ?_;rintro en w1 ⟨rfl,rfl⟩) | (refine (HF _ _ _ _).out.mono ?_;rintro en w1 ⟨rfl,rfl⟩))
     all_goals try (go_quiet (fail);go_wp2_with fail)
     all_goals
      go_ret;refine ⟨?_,?_⟩
      · rw [←HNV.out];congr 2;simp [opR, *]
        try (rw [Bool.eq_iff_iff];simp;done)
      · first | exact bA2 _ _ _ | exact bD2 _ _ _ _
   | false =>
    have HFc:=fun (W:World)=>Za ((Zcj W c 0 ((P.gh.length:Int) - 1)).mono (fun en w' hh=>(⟨by rw [hh.1,hqc],hh.2.symm⟩:en=.returned (.bool false)∧w'=W)))
    by_cases hc:c=0
    case' pos =>
     have hc1:(c == 0)=true:=by simp [hc]
     have hc2:decide (c=0)=true:=by simp [hc]
     clear hc
    case' neg =>
     have hc1:(c == 0)=false:=by simp [hc]
     have hc2:decide (c=0)=false:=by simp [hc]
     clear hc
    all_goals
     go_enter Try.func124,Try.ntmps124;go_wp2_with (go_at_call 79;first | (with_reducible refine (HFa _).out.mono ?_;rintro en w1 ⟨rfl,rfl⟩) | (with_reducible refine (HFc _).out.mono ?_;rintro en w1 ⟨rfl,rfl⟩) | (refine (HF _ _ _ _).out.mono ?_;rintro en w1 ⟨rfl,rfl⟩))
     all_goals try (go_quiet (fail);go_wp2_with fail)
     all_goals
      go_ret;refine ⟨?_,?_⟩
      · rw [←HNV.out];congr 2;simp [opR, *]
        try (rw [Bool.eq_iff_iff];simp;done)
      · first | exact bA2 _ _ _ | exact bD2 _ _ _ _
  | false =>
   have HFa:=fun (W:World)=>Za ((Zcj W a 0 ((P.gh.length:Int) - 1)).mono (fun en w' hh=>(⟨by rw [hh.1,hqa],hh.2.symm⟩:en=.returned (.bool false)∧w'=W)))
   go_enter Try.func124,Try.ntmps124;go_wp2_with (go_at_call 79;first | (with_reducible refine (HFa _).out.mono ?_;rintro en w1 ⟨rfl,rfl⟩) | (refine (HF _ _ _ _).out.mono ?_;rintro en w1 ⟨rfl,rfl⟩))
   all_goals try (go_quiet (fail);go_wp2_with fail)
   all_goals
    go_ret;refine ⟨?_,?_⟩
    · rw [←HNV.out];congr 2;simp [opR, *]
      try (rw [Bool.eq_iff_iff];simp;done)
    · first | exact bA2 _ _ _ | exact bD2 _ _ _ _
theorem Zi7 (w:World) (q:PlV) (P:Pl) (x:Ac) (h:Pm w q P):Calls Try.prog 124 #[q.val,x.val] w fun en w'=>en=.returned (.bool (opR P x))∧Below w.heap.size w w':=by
 by_cases hA:x.k=3∨x.k=4∨x.k=21∨x.k=5∨x.k=25∨x.k=6∨x.k=9∨x.k=10∨x.k=18∨x.k=19∨x.k=20∨x.k=22∨x.k=24
 · exact Zja w q P x h hA
 by_cases hB:x.k=7∨x.k=15∨x.k=16
 · exact Zi9 w q P x h hB
 by_cases hC:x.k=13∨x.k=14
 · exact Zi8 w q P x h hC
 exact Zg9 w q P x h (by omega)
end Go.Proofs.Ytdpokdcendgfeaa
