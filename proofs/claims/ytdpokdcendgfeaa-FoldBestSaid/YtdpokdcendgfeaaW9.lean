/- Several texts in one: The walk of fold.expression, all kinds joined. The walk of fold.hand. Conditions: those of each. -/
import Derived.Test.YtdpokdcendgfeaaW8b
set_option linter.unusedSimpArgs false
set_option linter.unusedVariables false
set_option maxHeartbeats 80000000
set_option maxRecDepth 100000
namespace Go.Proofs.Ytdpokdcendgfeaa
open Go.RowKit
structure EOk (l:List Ac) (i:Nat) (x:Ac) (sp:List (Nat×Nat)) (hs:List Ac):Prop where
 k:ZR l x.n.toNat (i+1)=some sp
 h:Zhc (sp.map (sub l)) hs
 n:sp.length≤2
 b:∀y ∈ hs,ZN y=true → -1073741824≤y.a∧y.a≤1073741824
 two:(30≤x.k∧x.k≤34)∨x.k=37∨x.k=38→sp.length=2
 one:x.k=28∨x.k=29→sp.length=1
 deep:∀r ∈ sp,∀y,l[r.1]? = some y→(y.k=28∨y.k=29)→r.1+2≤r.2
theorem ZfX {k:Int} (hk:k≠28∧k≠29∧k≠30∧k≠31∧k≠32∧k≠33∧k≠34∧k≠37∧k≠38) (ks:List (List Ac)) (hs:List Ac):Za5 k ks hs=(Zas k hs).map fun y=>(1,some [y]):=by
 unfold Za5
 cases Zas k hs with
 | some y=>rfl
 | none =>
  simp only [Option.map_none];split
  · unfold ZaO;simp [hk]
  · simp [hk]
  · rfl
theorem Zbx {l:List Ac} {r:Nat×Nat} (h:r.1<r.2):(sub l r)[0]? = l[r.1]?:=by
 unfold sub;rw [List.getElem?_take,if_pos (by omega),List.getElem?_drop];rfl
theorem Znt (w:World) (ad:Addr) (cl:Nat) (l:List Ac) (i:Nat) (x:Ac) (sp:List (Nat×Nat)) (hs:List Ac) (h:Ro w ad cl l) (hsm:Z7 l) (hl:l.length≤131072) (hx:l[i]? = some x) (he:EOk l i x sp hs) :
 Calls Try.prog 75 #[.slice (some ad) l.length cl,.int .i64 (i:Int)] w fun en w'=>ZbJ w' en (Za5 x.k (sp.map (sub l)) hs)∧Below w.heap.size w w':=by
 obtain ⟨hk,hh,hn,hb,h2,h1,hd⟩:=he;have hin:=ZaJ l _ _ _ hk (by have:=(gs_ hx).1;omega)
 by_cases k2:(30≤x.k∧x.k≤34)∨x.k=37∨x.k=38
 · have hl2:=h2 k2
   match sp,hl2 with
   | [r0,r1],_ =>
    have hhl:=hh.1;simp only [List.map_cons,List.map_nil,List.length_cons,List.length_nil] at hhl
    match hs,hhl with
    | [h0,h1'],_ =>
     have e0:=hh.2 0 (sub l r0) h0 rfl rfl;have e1:=hh.2 1 (sub l r1) h1' rfl rfl;simp only [List.map_cons,List.map_nil];exact Zkt w ad cl l i x r0 r1 h0 h1' h hsm hx hk e0 e1 hb x.k rfl (by omega) hl
 · by_cases k1:x.k=28∨x.k=29
   · have hl1:=h1 k1
     match sp,hl1 with
     | [r0],_ =>
      have hhl:=hh.1;simp only [List.map_cons,List.map_nil,List.length_cons,List.length_nil] at hhl
      match hs,hhl with
      | [h0],_ =>
       have e0:=hh.2 0 (sub l r0) h0 rfl rfl;have hr:=hin.2 r0 (by simp)
       have hd2:(h0.k=28∨h0.k=29)→2≤(sub l r0).length:=fun q=>by
        rw [ZaL hr.2.2];rw [Zbx hr.2.1] at e0;have:=hd r0 (by simp) h0 e0 q;omega
       simp only [List.map_cons,List.map_nil];exact Zku w ad cl l i x r0 h0 h hsm hx hk e0 hb x.k rfl k1 (fun e=>hd2 (by omega))
   · have hk9:x.k≠28∧x.k≠29∧x.k≠30∧x.k≠31∧x.k≠32∧x.k≠33∧x.k≠34∧x.k≠37∧x.k≠38:=by omega
     rw [ZfX hk9];exact Zkr w ad cl l i x sp hs h hsm hx hk hh hn hb hk9
def handF (x y z:Ac):Ac×Nat :=
 if y.k=10 then (⟨13,x.a,x.b,y.a,y.b,0⟩,2) else if y.k=12 then (⟨16,x.a,x.b,0,0,0⟩,2) else if z.k=12 then (⟨15,x.a,x.b,0,0,0⟩,3) else (⟨14,x.a,x.b,z.a,z.b,0⟩,3)
theorem ZcY (w:World) (x:Ac):Ro (w.alloc (.cells #[.int .i64 x.k,.int .i64 x.a,.int .i64 x.b,.int .i64 x.c,.int .i64 x.d,.int .i64 x.n] 49)) ⟨w.heap.size,0,none⟩ 1 [x] :=
 ⟨ZaM (t:=49) 1 (by exact Blk.new w _ _),lr_,by decide⟩
theorem ZmL (w:World) (ad:Addr) (cl:Nat) (l:List Ac) (i:Nat) (x y z:Ac) (h:Ro w ad cl l) (hl:l.length≤262144) (hx:l[i]? = some x) (hy:l[i+1]? = some y) (hz:y.k≠10→y.k≠12→l[i+2]? = some z) :
 Calls Try.prog 123 #[.slice (some ad) l.length cl,.int .i64 (i:Int)] w fun en w'=>∃a,en=.returned (.tuple #[.slice (some a) 1 1,.int .i64 ((handF x y z).2:Int)])∧Ro w' a 1 [(handF x y z).1]∧Below w.heap.size w w':=by
 have hil:=(gs_ hy).1;obtain ⟨ad9,e9,hab,q0,q1,q2,q3,q4,q5⟩:=Zq h.s hx;injection e9 with e9;subst e9;obtain ⟨ad9,e9,_,r0,r1,r2,r3,r4,r5⟩:=Zq h.s hy;injection e9 with e9;subst e9;have hb0:(ad.add (i*6)).block<w.heap.size:=by rw [Zl];exact hab
 have hb1:(ad.add ((i+1)*6)).block<w.heap.size:=by rw [Zl];exact hab
 have HZ:=Za (fun (h10:y.k≠10) (h12:y.k≠12)=>show ZbM w (ad.add ((i+2)*6)) z from by
  obtain ⟨a9,e9,_,h9⟩:=Zq h.s (hz h10 h12);injection e9 with e9;subst e9
  exact h9)
 have HZL:=Za (fun (h10:y.k≠10) (h12:y.k≠12)=>(gs_ (hz h10 h12)).1);obtain ⟨LL,hLL⟩:∃n,l.length=n:=⟨_,rfl⟩;rw [hLL] at HZL hil hl;rw [hLL];have HLL:=Za hLL;have hi0:(0:Int)≤(i:Int):=by omega
 have hi1:(i:Int)<(LL:Int):=by omega
 have hi2:(i:Int)+1<(LL:Int):=by omega
 have hi3:(0:Int)≤(i:Int)+1:=by omega
 have hw1:=IntWalk.i64_in ((i:Int)+1) (by omega);have hw2:=IntWalk.i64_in ((i:Int)+2) (by omega);have hn1:((i:Int)+1).toNat=i+1:=by omega
 have hn2:((i:Int)+2).toNat=i+2:=by omega
 obtain ⟨V,hV⟩:∃V,handF x y z=V:=⟨_,rfl⟩;rw [hV];have HV:=Za hV;clear h hx hy hz hLL hV;go_enter Try.func123,Try.ntmps123;go_upto_region 1 with fail;go_region
 · have HA:=Za (show Blk (((w.alloc (.cells #[.int .i64 x.k,.int .i64 x.a,.int .i64 x.b,.int .i64 x.c,.int .i64 x.d,.int .i64 x.n] 49)).alloc (.cells #[.int .i64 y.k,.int .i64 y.a,.int .i64 y.b,.int .i64 y.c,.int .i64 y.d,.int .i64 y.n] 49)).drew) w.heap.size 49 #[.int .i64 x.k,.int .i64 x.a,.int .i64 x.b,.int .i64 x.c,.int .i64 x.d,.int .i64 x.n] from ((Blk.new w 49 #[.int .i64 x.k,.int .i64 x.a,.int .i64 x.b,.int .i64 x.c,.int .i64 x.d,.int .i64 x.n]).alloc _).drew);have HB:=Za (show Blk (((w.alloc (.cells #[.int .i64 x.k,.int .i64 x.a,.int .i64 x.b,.int .i64 x.c,.int .i64 x.d,.int .i64 x.n] 49)).alloc (.cells #[.int .i64 y.k,.int .i64 y.a,.int .i64 y.b,.int .i64 y.c,.int .i64 y.d,.int .i64 y.n] 49)).drew) (w.heap.size+1) 49 #[.int .i64 y.k,.int .i64 y.a,.int .i64 y.b,.int .i64 y.c,.int .i64 y.d,.int .i64 y.n] from by have h9:=(Blk.new (w.alloc (.cells #[.int .i64 x.k,.int .i64 x.a,.int .i64 x.b,.int .i64 x.c,.int .i64 x.d,.int .i64 x.n] 49)) 49 #[.int .i64 y.k,.int .i64 y.a,.int .i64 y.b,.int .i64 y.c,.int .i64 y.d,.int .i64 y.n]).drew;rwa [show (w.alloc (.cells #[.int .i64 x.k,.int .i64 x.a,.int .i64 x.b,.int .i64 x.c,.int .i64 x.d,.int .i64 x.n] 49)).heap.size=w.heap.size+1 by simp] at h9);have HBW:=Za (show Below w.heap.size w (((w.alloc (.cells #[.int .i64 x.k,.int .i64 x.a,.int .i64 x.b,.int .i64 x.c,.int .i64 x.d,.int .i64 x.n] 49)).alloc (.cells #[.int .i64 y.k,.int .i64 y.a,.int .i64 y.b,.int .i64 y.c,.int .i64 y.d,.int .i64 y.n] 49)).drew) from (((Below.refl _ w).alloc lr_ _).alloc (by simp) _).drew);generalize ((w.alloc (.cells #[.int .i64 x.k,.int .i64 x.a,.int .i64 x.b,.int .i64 x.c,.int .i64 x.d,.int .i64 x.n] 49)).alloc (.cells #[.int .i64 y.k,.int .i64 y.a,.int .i64 y.b,.int .i64 y.c,.int .i64 y.d,.int .i64 y.n] 49)).drew=W1 at HA HB HBW;obtain ⟨g1,hg1⟩:∃g,w.heap.size=g:=⟨_,rfl⟩;obtain ⟨g2,hg2⟩:∃g,w.heap.size+1=g:=⟨_,rfl⟩;rw [hg2] at HB ⊢;rw [hg1] at HA HBW hg2 ⊢;obtain ⟨z0,z1,z2,z3,z4,z5,hgl1⟩:=Zk HA.out;obtain ⟨v0,v1,v2,v3,v4,v5,hgl2⟩:=Zk HB.out
   by_cases k10:y.k=10
   · have hk10:(y.k == 10)=true:=by simp [k10]
     have HF:=Za (show V=(⟨13,x.a,x.b,y.a,y.b,0⟩,2) by rw [←HV.out];simp [handF,k10]);clear k10;go_wp2_with fail;go_ret2;rw [HF.out];exact ⟨_,rfl,ZcY W1 ⟨13,x.a,x.b,y.a,y.b,0⟩,by rw [hg1];exact HBW.out.alloc (by have:=HBW.out.size;omega) _⟩
   have hk10:(y.k == 10)=false:=by simp [k10]
   by_cases k12:y.k=12
   · have hk12:(y.k == 12)=true:=by simp [k12]
     have HF:=Za (show V=(⟨16,x.a,x.b,0,0,0⟩,2) by rw [←HV.out];simp [handF,k10,k12]);clear k10 k12;go_wp2_with fail;go_ret2;rw [HF.out];exact ⟨_,rfl,ZcY W1 ⟨16,x.a,x.b,0,0,0⟩,by rw [hg1];exact HBW.out.alloc (by have:=HBW.out.size;omega) _⟩
   have hk12:(y.k == 12)=false:=by simp [k12]
   have hzl:=HZL.out k10 k12;have hzr:=(HZ.out k10 k12).below (by rw [Zl];exact hab) (by first | exact HBW.out | (rw [hg1];exact HBW.out));obtain ⟨s0,s1,s2,s3,s4,s5⟩:=hzr;have hi4:(i:Int)+2<(LL:Int):=by omega
   have hi5:(0:Int)≤(i:Int)+2:=by omega
   clear hzl
   by_cases kz:z.k=12
   · have hkz:(z.k == 12)=true:=by simp [kz]
     have HF:=Za (show V=(⟨15,x.a,x.b,0,0,0⟩,3) by rw [←HV.out];simp [handF,k10,k12,kz]);clear k10 k12 kz;go_wp2_with fail;go_ret2;rw [HF.out];exact ⟨_,rfl,ZcY W1 ⟨15,x.a,x.b,0,0,0⟩,by rw [hg1];exact HBW.out.alloc (by have:=HBW.out.size;omega) _⟩
   have hkz:(z.k == 12)=false:=by simp [kz]
   have HF:=Za (show V=(⟨14,x.a,x.b,z.a,z.b,0⟩,3) by rw [←HV.out];simp [handF,k10,k12,kz]);clear k10 k12 kz;have f0:=HB.out.frozen 0;have f1:=HB.out.frozen 1;have f2:=HB.out.frozen 2;have f3:=HB.out.frozen 3;have f4:=HB.out.frozen 4;have f5:=HB.out.frozen 5;go_upto_region 9 with fail;obtain ⟨hst,hso⟩:=Zcs HB.out z;have HX2:=Za (HA.out.only hso (by omega));have HY2:=Za hst;have HB2:=Za (HBW.out.trans (hso.below (B:=g1) (fun k hk=>by omega) (by have:=HBW.out.size;omega)));generalize (((((W1.setCell ⟨g2,0,none⟩ (.int .i64 z.k)).setCell ⟨g2,1,none⟩ (.int .i64 z.a)).setCell ⟨g2,2,none⟩ (.int .i64 z.b)).setCell ⟨g2,3,none⟩ (.int .i64 z.c)).setCell ⟨g2,4,none⟩ (.int .i64 z.d)).setCell ⟨g2,5,none⟩ (.int .i64 z.n)=W2 at HX2 HY2 HB2;clear hst hso z0 z1 z2 z3 z4 z5 hgl1 v0 v1 v2 v3 v4 v5 hgl2;obtain ⟨z0,z1,z2,z3,z4,z5,hgl1⟩:=Zk HX2.out;obtain ⟨v0,v1,v2,v3,v4,v5,hgl2⟩:=Zk HY2.out;go_wp2_with fail;go_ret2;rw [HF.out];exact ⟨_,rfl,ZcY W2 ⟨14,x.a,x.b,z.a,z.b,0⟩,by rw [hg1];exact HB2.out.alloc (by have:=HB2.out.size;omega) _⟩
 · have HA:=Za (show Blk (((w.alloc (.cells #[.int .i64 y.k,.int .i64 y.a,.int .i64 y.b,.int .i64 y.c,.int .i64 y.d,.int .i64 y.n] 49)).alloc (.cells #[.int .i64 x.k,.int .i64 x.a,.int .i64 x.b,.int .i64 x.c,.int .i64 x.d,.int .i64 x.n] 49)).drew) w.heap.size 49 #[.int .i64 y.k,.int .i64 y.a,.int .i64 y.b,.int .i64 y.c,.int .i64 y.d,.int .i64 y.n] from ((Blk.new w 49 #[.int .i64 y.k,.int .i64 y.a,.int .i64 y.b,.int .i64 y.c,.int .i64 y.d,.int .i64 y.n]).alloc _).drew);have HB:=Za (show Blk (((w.alloc (.cells #[.int .i64 y.k,.int .i64 y.a,.int .i64 y.b,.int .i64 y.c,.int .i64 y.d,.int .i64 y.n] 49)).alloc (.cells #[.int .i64 x.k,.int .i64 x.a,.int .i64 x.b,.int .i64 x.c,.int .i64 x.d,.int .i64 x.n] 49)).drew) (w.heap.size+1) 49 #[.int .i64 x.k,.int .i64 x.a,.int .i64 x.b,.int .i64 x.c,.int .i64 x.d,.int .i64 x.n] from by have h9:=(Blk.new (w.alloc (.cells #[.int .i64 y.k,.int .i64 y.a,.int .i64 y.b,.int .i64 y.c,.int .i64 y.d,.int .i64 y.n] 49)) 49 #[.int .i64 x.k,.int .i64 x.a,.int .i64 x.b,.int .i64 x.c,.int .i64 x.d,.int .i64 x.n]).drew;rwa [show (w.alloc (.cells #[.int .i64 y.k,.int .i64 y.a,.int .i64 y.b,.int .i64 y.c,.int .i64 y.d,.int .i64 y.n] 49)).heap.size=w.heap.size+1 by simp] at h9);have HBW:=Za (show Below w.heap.size w (((w.alloc (.cells #[.int .i64 y.k,.int .i64 y.a,.int .i64 y.b,.int .i64 y.c,.int .i64 y.d,.int .i64 y.n] 49)).alloc (.cells #[.int .i64 x.k,.int .i64 x.a,.int .i64 x.b,.int .i64 x.c,.int .i64 x.d,.int .i64 x.n] 49)).drew) from (((Below.refl _ w).alloc lr_ _).alloc (by simp) _).drew);generalize ((w.alloc (.cells #[.int .i64 y.k,.int .i64 y.a,.int .i64 y.b,.int .i64 y.c,.int .i64 y.d,.int .i64 y.n] 49)).alloc (.cells #[.int .i64 x.k,.int .i64 x.a,.int .i64 x.b,.int .i64 x.c,.int .i64 x.d,.int .i64 x.n] 49)).drew=W1 at HA HB HBW;obtain ⟨g1,hg1⟩:∃g,w.heap.size=g:=⟨_,rfl⟩;obtain ⟨g2,hg2⟩:∃g,w.heap.size+1=g:=⟨_,rfl⟩;rw [hg2] at HB ⊢;rw [hg1] at HA HBW hg2 ⊢;obtain ⟨z0,z1,z2,z3,z4,z5,hgl1⟩:=Zk HA.out;obtain ⟨v0,v1,v2,v3,v4,v5,hgl2⟩:=Zk HB.out
   by_cases k10:y.k=10
   · have hk10:(y.k == 10)=true:=by simp [k10]
     have HF:=Za (show V=(⟨13,x.a,x.b,y.a,y.b,0⟩,2) by rw [←HV.out];simp [handF,k10]);clear k10;go_wp2_with fail;go_ret2;rw [HF.out];exact ⟨_,rfl,ZcY W1 ⟨13,x.a,x.b,y.a,y.b,0⟩,by rw [hg1];exact HBW.out.alloc (by have:=HBW.out.size;omega) _⟩
   have hk10:(y.k == 10)=false:=by simp [k10]
   by_cases k12:y.k=12
   · have hk12:(y.k == 12)=true:=by simp [k12]
     have HF:=Za (show V=(⟨16,x.a,x.b,0,0,0⟩,2) by rw [←HV.out];simp [handF,k10,k12]);clear k10 k12;go_wp2_with fail;go_ret2;rw [HF.out];exact ⟨_,rfl,ZcY W1 ⟨16,x.a,x.b,0,0,0⟩,by rw [hg1];exact HBW.out.alloc (by have:=HBW.out.size;omega) _⟩
   have hk12:(y.k == 12)=false:=by simp [k12]
   have hzl:=HZL.out k10 k12;have hzr:=(HZ.out k10 k12).below (by rw [Zl];exact hab) (by first | exact HBW.out | (rw [hg1];exact HBW.out));obtain ⟨s0,s1,s2,s3,s4,s5⟩:=hzr;have hi4:(i:Int)+2<(LL:Int):=by omega
   have hi5:(0:Int)≤(i:Int)+2:=by omega
   clear hzl
   by_cases kz:z.k=12
   · have hkz:(z.k == 12)=true:=by simp [kz]
     have HF:=Za (show V=(⟨15,x.a,x.b,0,0,0⟩,3) by rw [←HV.out];simp [handF,k10,k12,kz]);clear k10 k12 kz;go_wp2_with fail;go_ret2;rw [HF.out];exact ⟨_,rfl,ZcY W1 ⟨15,x.a,x.b,0,0,0⟩,by rw [hg1];exact HBW.out.alloc (by have:=HBW.out.size;omega) _⟩
   have hkz:(z.k == 12)=false:=by simp [kz]
   have HF:=Za (show V=(⟨14,x.a,x.b,z.a,z.b,0⟩,3) by rw [←HV.out];simp [handF,k10,k12,kz]);clear k10 k12 kz;have f0:=HA.out.frozen 0;have f1:=HA.out.frozen 1;have f2:=HA.out.frozen 2;have f3:=HA.out.frozen 3;have f4:=HA.out.frozen 4;have f5:=HA.out.frozen 5;go_upto_region 9 with fail;obtain ⟨hst,hso⟩:=Zcs HA.out z;have HX2:=Za (HB.out.only hso (by omega));have HY2:=Za hst;have HB2:=Za (HBW.out.trans (hso.below (B:=g1) (fun k hk=>by omega) (by have:=HBW.out.size;omega)));generalize (((((W1.setCell ⟨g1,0,none⟩ (.int .i64 z.k)).setCell ⟨g1,1,none⟩ (.int .i64 z.a)).setCell ⟨g1,2,none⟩ (.int .i64 z.b)).setCell ⟨g1,3,none⟩ (.int .i64 z.c)).setCell ⟨g1,4,none⟩ (.int .i64 z.d)).setCell ⟨g1,5,none⟩ (.int .i64 z.n)=W2 at HX2 HY2 HB2;clear hst hso z0 z1 z2 z3 z4 z5 hgl1 v0 v1 v2 v3 v4 v5 hgl2;obtain ⟨z0,z1,z2,z3,z4,z5,hgl1⟩:=Zk HX2.out;obtain ⟨v0,v1,v2,v3,v4,v5,hgl2⟩:=Zk HY2.out;go_wp2_with fail;go_ret2;rw [HF.out];exact ⟨_,rfl,ZcY W2 ⟨14,x.a,x.b,z.a,z.b,0⟩,by rw [hg1];exact HB2.out.alloc (by have:=HB2.out.size;omega) _⟩
end Go.Proofs.Ytdpokdcendgfeaa
