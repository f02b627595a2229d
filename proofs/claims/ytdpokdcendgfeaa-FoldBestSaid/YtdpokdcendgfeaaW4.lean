/- Several texts in one: Kids of rows as a value; fold's answers; the walk of fold.both. The walk of fold.constant. Kids as parts of rows; the walks of slices.Equal at rows and of fold.same. The walks of fold.same and fold.without. Conditions: those of each. -/
import Derived.Test.YtdpokdcendgfeaaW3b
import Derived.StillTailTactics
set_option linter.unusedSimpArgs false
set_option linter.unusedVariables false
set_option maxHeartbeats 80000000
set_option maxRecDepth 100000
namespace Go.Proofs.Ytdpokdcendgfeaa
open Go.RowKit
def KsM (w:World) (v:Value) (ks:List (List Ac)):Prop:=∃oa c rs,v=.slice oa ks.length c∧Src w oa ks.length (slv rs ks)∧ZaW w rs ks∧ks.length≤c
theorem KsM.below {w w':World} {v:Value} {ks:List (List Ac)} (h:KsM w v ks) (hb:Below w.heap.size w w'):KsM w' v ks:=by
 obtain ⟨oa,c,rs,e,h1,h2,h3⟩:=h;exact ⟨oa,c,rs,e,h1.below hb,h2.below hb,h3⟩
theorem KsM.drewN {w:World} {v:Value} {ks:List (List Ac)} (h:KsM w v ks) (n:Nat):KsM (w.drewN n) v ks:=h.below (Zc (Below.refl _ w) n)
structure Ro (w:World) (a:Addr) (c:Nat) (l:List Ac):Prop where
 s:Src w (some a) l.length (acs l)
 n:l.length≤c
 m:c≤maxLen
theorem Ro.below {w w':World} {a:Addr} {c:Nat} {l:List Ac} (h:Ro w a c l) (hb:Below w.heap.size w w'):Ro w' a c l:=⟨h.s.below hb,h.n,h.m⟩
theorem KsM.at_ {w:World} {v:Value} {ks:List (List Ac)} (h:KsM w v ks) (hk:0<ks.length):∃ad c,v=.slice (some ad) ks.length c∧ad.block<w.heap.size∧ks.length≤c∧∀j k,ks[j]? = some k→0<k.length→∃a ca,w.cell? (ad.add j)=some (.slice (some a) k.length ca)∧Ro w a ca k:=by
 obtain ⟨oa,c,rs,e,h1,h2,hcc⟩:=h;obtain ⟨ad,rfl,hb,hx⟩:=h1 hk;refine ⟨ad,c,e,hb,hcc,fun j k hj hpos=>?_⟩;have hjl:=(gs_ hj).1;obtain ⟨⟨ra,rc⟩,hr⟩:∃r,rs[j]? = some r:=⟨_,ge_ (by rw [h2.1];exact hjl)⟩;obtain ⟨h3,h4,h5⟩:=h2.2 j ra rc k hr hj;obtain ⟨a,rfl,_,_⟩:=h3 hpos;exact ⟨a,rc,hx j _ (ZaS rs ks j _ _ hr hj),h3,h4,h5⟩
def Rin (w:World) (v:Value):Option (List Ac)→Prop
 | none=>v=.slice none 0 0
 | some l=>∃oa c,v=.slice oa l.length c∧Src w oa l.length (acs l)∧l.length≤c∧c≤maxLen
theorem Rin.below {w w':World} {v:Value} {o:Option (List Ac)} (h:Rin w v o) (hb:Below w.heap.size w w'):Rin w' v o:=by
 cases o with
 | none=>exact h
 | some l =>
  obtain ⟨oa,c,e,h1,h2,h3⟩:=h;exact ⟨oa,c,e,h1.below hb,h2,h3⟩
theorem Ro.rin {w:World} {a:Addr} {c:Nat} {l:List Ac} (h:Ro w a c l):Rin w (.slice (some a) l.length c) (some l):=⟨some a,c,rfl,h.s,h.n,h.m⟩
def ZbJ (w:World) (en:Ending):Option (Nat×Option (List Ac))→Prop
 | none=>en=.returned (.tuple #[.int .i64 0,.slice none 0 0,.bool false])
 | some (n,o)=>∃v,en=.returned (.tuple #[.int .i64 (n:Int),v,.bool true])∧Rin w v o
def Zai (x:Ac) (n:Int):Bool:=decide (x.k=20)&&decide (x.a=n)
def ZaX (x:Ac) (n:Int):Bool:=decide (x.k=19)&&decide (x.a=n)
def ZcB (k:Int) (k0 k1:List Ac) (x0 x1:Ac):Option (Nat×Option (List Ac)) :=
 let goes:Int:=if k=38 then 0 else 1
 if Zai x0 goes then some (2,some k1)
 else if Zai x0 (1 - goes) then some (2,some k0)
 else if Zai x1 goes then some (3,some k0)
 else if Zai x1 (1 - goes)&&ZK k0 then some (3,some k1)
 else none
theorem Zbc {w:World} {a:Addr} {c:Nat} {l:List Ac} {x:Ac} (h:Ro w a c l) (hx:l[0]? = some x) (n:Int) {b:Bool} (hb:Zai x n=b) (W:World) (hW:Below w.heap.size w W) :
 Calls Try.prog 122 #[.slice (some a) l.length c,.int .i64 n] W fun en w'=>en=.returned (.bool b)∧w'=W:=by
 subst hb;exact Zma W (some a) c l x n (h.s.below hW) hx
theorem Zb5 {w:World} {a:Addr} {c:Nat} {l:List Ac} (h:Ro w a c l) (hl:l.length≤4194304) {b:Bool} (hb:ZK l=b) (W:World) (hW:Below w.heap.size w W) :
 Calls Try.prog 118 #[.slice (some a) l.length c] W fun en w'=>en=.returned (.bool b)∧Below W.heap.size W w':=by
 subst hb;exact Zjo W (some a) c l (h.s.below hW) hl
theorem ZkI (w:World) (x:Ac) (v:Value) (k0 k1:List Ac) (x0 x1:Ac) (h:KsM w v [k0,k1]) (h0:k0[0]? = some x0) (h1:k1[0]? = some x1) (hl:k0.length≤4194304) :
 Calls Try.prog 116 #[x.val,v] w fun en w'=>ZbJ w' en (ZcB x.k k0 k1 x0 x1)∧Below w.heap.size w w':=by
 have p0:=(gs_ h0).1;have p1:=(gs_ h1).1;obtain ⟨ad,c,rfl,hab,_,hx⟩:=h.at_ (by simp);obtain ⟨a0,c0,q0,r0⟩:=hx 0 k0 rfl p0;obtain ⟨a1,c1,q1,r1⟩:=hx 1 k1 rfl p1;have e0:ad.add 0=ad:=by simp [Addr.add]
 have e1:ad.add 1=⟨ad.block,ad.off+1,none⟩:=by simp [Addr.add]
 rw [e0] at q0;rw [e1] at q1
 by_cases hk38:x.k=38
 · have HKB:=Za (show (x.k == 38)=true by simp [hk38]);have hV0:(if x.k=38 then (0:Int) else 1)=0:=by simp [hk38]
   have u1:(1:Int) - 0=1:=by omega
   obtain ⟨t0,ht0⟩:∃b,Zai x0 0=b:=⟨_,rfl⟩;obtain ⟨t1,ht1⟩:∃b,Zai x0 1=b:=⟨_,rfl⟩;obtain ⟨t2,ht2⟩:∃b,Zai x1 0=b:=⟨_,rfl⟩;obtain ⟨t3,ht3⟩:∃b,Zai x1 1=b:=⟨_,rfl⟩;obtain ⟨hm,hhm⟩:∃b,ZK k0=b:=⟨_,rfl⟩
   have hV:ZcB x.k k0 k1 x0 x1=if t0 then some (2,some k1) else if t1 then some (2,some k0) else if t2 then some (3,some k0) else if t3&&hm then some (3,some k1) else none:=by
    unfold ZcB;simp only [hV0,u1,ht0,ht1,ht2,ht3,hhm]
   obtain ⟨V,hVV⟩:∃V,ZcB x.k k0 k1 x0 x1=V:=⟨_,rfl⟩;rw [hVV] at hV ⊢;have HV:=Za hV;simp only [Ac.val];have HB1:=Za ((Below.refl w.heap.size w).alloc lr_ (.cells #[.int .i64 x.k,.int .i64 x.a,.int .i64 x.b,.int .i64 x.c,.int .i64 x.d,.int .i64 x.n] 49));have q0':=(HB1.out.cell (p:=ad) hab).trans q0;have q1':=(HB1.out.cell (p:=⟨ad.block,ad.off+1,none⟩) hab).trans q1;have hab1:ad.block<(w.alloc (.cells #[.int .i64 x.k,.int .i64 x.a,.int .i64 x.b,.int .i64 x.c,.int .i64 x.d,.int .i64 x.n] 49)).heap.size:=Nat.lt_of_lt_of_le hab HB1.out.size;have y0:(w.alloc (.cells #[.int .i64 x.k,.int .i64 x.a,.int .i64 x.b,.int .i64 x.c,.int .i64 x.d,.int .i64 x.n] 49)).cell? ⟨w.heap.size,0,none⟩=some (.int .i64 x.k):=(Blk.new w 49 #[.int .i64 x.k,.int .i64 x.a,.int .i64 x.b,.int .i64 x.c,.int .i64 x.d,.int .i64 x.n]).cell 0;have HT0:=Za (fun W hW=>Zbc r0 h0 0 ht0 W hW);have HT1:=Za (fun W hW=>Zbc r0 h0 1 ht1 W hW);have HT2:=Za (fun W hW=>Zbc r1 h1 0 ht2 W hW);have HT3:=Za (fun W hW=>Zbc r1 h1 1 ht3 W hW);have HH:=Za (fun W hW=>Zb5 r0 hl hhm W hW);have R0:=Za r0;have R1:=Za r1;clear h0 h1 h hx r0 r1 ht0 ht1 ht2 ht3 hhm hVV hV hV0 q0 q1 u1 hk38;go_enter Try.func116,Try.ntmps116;go_upto_region 1 with fail;generalize (w.alloc (.cells #[.int .i64 x.k,.int .i64 x.a,.int .i64 x.b,.int .i64 x.c,.int .i64 x.d,.int .i64 x.n] 49))=W1 at HB1 q0' q1' y0 hab1;have hkb:=HKB.out
   cases t0 with
   | true =>
    go_wp2_with (go_at_call 122;with_reducible refine (HT0.out _ HB1.out).mono ?_;rintro en w2 ⟨rfl,rfl⟩);go_quiet (fail);go_wp2_with fail;go_ret3;exact ⟨by rw [HV.out];exact ⟨_,rfl,(R1.out.below (Zc HB1.out _)).rin⟩,Zc HB1.out _⟩
   | false =>
    cases t1 with
    | true =>
     go_wp2_with (go_at_call 122;with_reducible refine (HT0.out _ HB1.out).mono ?_;rintro en w2 ⟨rfl,rfl⟩);go_wp2_with (go_at_call 122;with_reducible refine (HT1.out _ HB1.out).mono ?_;rintro en w3 ⟨rfl,rfl⟩);go_quiet (fail);go_wp2_with fail;go_ret3;exact ⟨by rw [HV.out];exact ⟨_,rfl,(R0.out.below (Zc HB1.out _)).rin⟩,Zc HB1.out _⟩
    | false =>
     cases t2 with
     | true =>
      go_wp2_with (go_at_call 122;with_reducible refine (HT0.out _ HB1.out).mono ?_;rintro en w2 ⟨rfl,rfl⟩);go_wp2_with (go_at_call 122;with_reducible refine (HT1.out _ HB1.out).mono ?_;rintro en w3 ⟨rfl,rfl⟩);go_wp2_with (go_at_call 122;with_reducible refine (HT2.out _ HB1.out).mono ?_;rintro en w4 ⟨rfl,rfl⟩);go_quiet (fail);go_wp2_with fail;go_ret3;exact ⟨by rw [HV.out];exact ⟨_,rfl,(R0.out.below (Zc HB1.out _)).rin⟩,Zc HB1.out _⟩
     | false =>
      cases t3 with
      | false =>
       go_wp2_with (go_at_call 122;with_reducible refine (HT0.out _ HB1.out).mono ?_;rintro en w2 ⟨rfl,rfl⟩);go_wp2_with (go_at_call 122;with_reducible refine (HT1.out _ HB1.out).mono ?_;rintro en w3 ⟨rfl,rfl⟩);go_wp2_with (go_at_call 122;with_reducible refine (HT2.out _ HB1.out).mono ?_;rintro en w4 ⟨rfl,rfl⟩);go_wp2_with (go_at_call 122;with_reducible refine (HT3.out _ HB1.out).mono ?_;rintro en w5 ⟨rfl,rfl⟩);go_ret3;exact ⟨by rw [HV.out];rfl,HB1.out⟩
      | true =>
       cases hm with
       | false =>
        go_wp2_with (go_at_call 122;with_reducible refine (HT0.out _ HB1.out).mono ?_;rintro en w2 ⟨rfl,rfl⟩);go_wp2_with (go_at_call 122;with_reducible refine (HT1.out _ HB1.out).mono ?_;rintro en w3 ⟨rfl,rfl⟩);go_wp2_with (go_at_call 122;with_reducible refine (HT2.out _ HB1.out).mono ?_;rintro en w4 ⟨rfl,rfl⟩);go_wp2_with (go_at_call 122;with_reducible refine (HT3.out _ HB1.out).mono ?_;rintro en w5 ⟨rfl,rfl⟩);go_wp2_with (go_at_call 118;with_reducible refine (HH.out _ HB1.out).mono ?_;rintro en w9 ⟨rfl,hb9⟩;have HB9:=Za hb9;have q19:=(hb9.cell (p:=⟨ad.block,ad.off+1,none⟩) hab1).trans q1';clear hb9);go_ret3;exact ⟨by rw [HV.out];rfl,HB1.out.trans (HB9.out.mono HB1.out.size)⟩
       | true =>
        go_wp2_with (go_at_call 122;with_reducible refine (HT0.out _ HB1.out).mono ?_;rintro en w2 ⟨rfl,rfl⟩);go_wp2_with (go_at_call 122;with_reducible refine (HT1.out _ HB1.out).mono ?_;rintro en w3 ⟨rfl,rfl⟩);go_wp2_with (go_at_call 122;with_reducible refine (HT2.out _ HB1.out).mono ?_;rintro en w4 ⟨rfl,rfl⟩);go_wp2_with (go_at_call 122;with_reducible refine (HT3.out _ HB1.out).mono ?_;rintro en w5 ⟨rfl,rfl⟩);go_wp2_with (go_at_call 118;with_reducible refine (HH.out _ HB1.out).mono ?_;rintro en w9 ⟨rfl,hb9⟩;have HB9:=Za hb9;have q19:=(hb9.cell (p:=⟨ad.block,ad.off+1,none⟩) hab1).trans q1';clear hb9);go_quiet (fail);go_wp2_with fail;go_ret3;have hb19:=HB1.out.trans (HB9.out.mono HB1.out.size);exact ⟨by rw [HV.out];exact ⟨_,rfl,(R1.out.below (Zc hb19 _)).rin⟩,Zc hb19 _⟩
 · have HKB:=Za (show (x.k == 38)=false by simp [hk38]);have hV0:(if x.k=38 then (0:Int) else 1)=1:=by simp [hk38]
   have u1:(1:Int) - 1=0:=by omega
   obtain ⟨t0,ht0⟩:∃b,Zai x0 1=b:=⟨_,rfl⟩;obtain ⟨t1,ht1⟩:∃b,Zai x0 0=b:=⟨_,rfl⟩;obtain ⟨t2,ht2⟩:∃b,Zai x1 1=b:=⟨_,rfl⟩;obtain ⟨t3,ht3⟩:∃b,Zai x1 0=b:=⟨_,rfl⟩;obtain ⟨hm,hhm⟩:∃b,ZK k0=b:=⟨_,rfl⟩
   have hV:ZcB x.k k0 k1 x0 x1=if t0 then some (2,some k1) else if t1 then some (2,some k0) else if t2 then some (3,some k0) else if t3&&hm then some (3,some k1) else none:=by
    unfold ZcB;simp only [hV0,u1,ht0,ht1,ht2,ht3,hhm]
   obtain ⟨V,hVV⟩:∃V,ZcB x.k k0 k1 x0 x1=V:=⟨_,rfl⟩;rw [hVV] at hV ⊢;have HV:=Za hV;simp only [Ac.val];have HB1:=Za ((Below.refl w.heap.size w).alloc lr_ (.cells #[.int .i64 x.k,.int .i64 x.a,.int .i64 x.b,.int .i64 x.c,.int .i64 x.d,.int .i64 x.n] 49));have q0':=(HB1.out.cell (p:=ad) hab).trans q0;have q1':=(HB1.out.cell (p:=⟨ad.block,ad.off+1,none⟩) hab).trans q1;have hab1:ad.block<(w.alloc (.cells #[.int .i64 x.k,.int .i64 x.a,.int .i64 x.b,.int .i64 x.c,.int .i64 x.d,.int .i64 x.n] 49)).heap.size:=Nat.lt_of_lt_of_le hab HB1.out.size;have y0:(w.alloc (.cells #[.int .i64 x.k,.int .i64 x.a,.int .i64 x.b,.int .i64 x.c,.int .i64 x.d,.int .i64 x.n] 49)).cell? ⟨w.heap.size,0,none⟩=some (.int .i64 x.k):=(Blk.new w 49 #[.int .i64 x.k,.int .i64 x.a,.int .i64 x.b,.int .i64 x.c,.int .i64 x.d,.int .i64 x.n]).cell 0;have HT0:=Za (fun W hW=>Zbc r0 h0 1 ht0 W hW);have HT1:=Za (fun W hW=>Zbc r0 h0 0 ht1 W hW);have HT2:=Za (fun W hW=>Zbc r1 h1 1 ht2 W hW);have HT3:=Za (fun W hW=>Zbc r1 h1 0 ht3 W hW);have HH:=Za (fun W hW=>Zb5 r0 hl hhm W hW);have R0:=Za r0;have R1:=Za r1;clear h0 h1 h hx r0 r1 ht0 ht1 ht2 ht3 hhm hVV hV hV0 q0 q1 u1 hk38;go_enter Try.func116,Try.ntmps116;go_upto_region 1 with fail;generalize (w.alloc (.cells #[.int .i64 x.k,.int .i64 x.a,.int .i64 x.b,.int .i64 x.c,.int .i64 x.d,.int .i64 x.n] 49))=W1 at HB1 q0' q1' y0 hab1;have hkb:=HKB.out
   cases t0 with
   | true =>
    go_wp2_with (go_at_call 122;with_reducible refine (HT0.out _ HB1.out).mono ?_;rintro en w2 ⟨rfl,rfl⟩);go_quiet (fail);go_wp2_with fail;go_ret3;exact ⟨by rw [HV.out];exact ⟨_,rfl,(R1.out.below (Zc HB1.out _)).rin⟩,Zc HB1.out _⟩
   | false =>
    cases t1 with
    | true =>
     go_wp2_with (go_at_call 122;with_reducible refine (HT0.out _ HB1.out).mono ?_;rintro en w2 ⟨rfl,rfl⟩);go_wp2_with (go_at_call 122;with_reducible refine (HT1.out _ HB1.out).mono ?_;rintro en w3 ⟨rfl,rfl⟩);go_quiet (fail);go_wp2_with fail;go_ret3;exact ⟨by rw [HV.out];exact ⟨_,rfl,(R0.out.below (Zc HB1.out _)).rin⟩,Zc HB1.out _⟩
    | false =>
     cases t2 with
     | true =>
      go_wp2_with (go_at_call 122;with_reducible refine (HT0.out _ HB1.out).mono ?_;rintro en w2 ⟨rfl,rfl⟩);go_wp2_with (go_at_call 122;with_reducible refine (HT1.out _ HB1.out).mono ?_;rintro en w3 ⟨rfl,rfl⟩);go_wp2_with (go_at_call 122;with_reducible refine (HT2.out _ HB1.out).mono ?_;rintro en w4 ⟨rfl,rfl⟩);go_quiet (fail);go_wp2_with fail;go_ret3;exact ⟨by rw [HV.out];exact ⟨_,rfl,(R0.out.below (Zc HB1.out _)).rin⟩,Zc HB1.out _⟩
     | false =>
      cases t3 with
      | false =>
       go_wp2_with (go_at_call 122;with_reducible refine (HT0.out _ HB1.out).mono ?_;rintro en w2 ⟨rfl,rfl⟩);go_wp2_with (go_at_call 122;with_reducible refine (HT1.out _ HB1.out).mono ?_;rintro en w3 ⟨rfl,rfl⟩);go_wp2_with (go_at_call 122;with_reducible refine (HT2.out _ HB1.out).mono ?_;rintro en w4 ⟨rfl,rfl⟩);go_wp2_with (go_at_call 122;with_reducible refine (HT3.out _ HB1.out).mono ?_;rintro en w5 ⟨rfl,rfl⟩);go_ret3;exact ⟨by rw [HV.out];rfl,HB1.out⟩
      | true =>
       cases hm with
       | false =>
        go_wp2_with (go_at_call 122;with_reducible refine (HT0.out _ HB1.out).mono ?_;rintro en w2 ⟨rfl,rfl⟩);go_wp2_with (go_at_call 122;with_reducible refine (HT1.out _ HB1.out).mono ?_;rintro en w3 ⟨rfl,rfl⟩);go_wp2_with (go_at_call 122;with_reducible refine (HT2.out _ HB1.out).mono ?_;rintro en w4 ⟨rfl,rfl⟩);go_wp2_with (go_at_call 122;with_reducible refine (HT3.out _ HB1.out).mono ?_;rintro en w5 ⟨rfl,rfl⟩);go_wp2_with (go_at_call 118;with_reducible refine (HH.out _ HB1.out).mono ?_;rintro en w9 ⟨rfl,hb9⟩;have HB9:=Za hb9;have q19:=(hb9.cell (p:=⟨ad.block,ad.off+1,none⟩) hab1).trans q1';clear hb9);go_ret3;exact ⟨by rw [HV.out];rfl,HB1.out.trans (HB9.out.mono HB1.out.size)⟩
       | true =>
        go_wp2_with (go_at_call 122;with_reducible refine (HT0.out _ HB1.out).mono ?_;rintro en w2 ⟨rfl,rfl⟩);go_wp2_with (go_at_call 122;with_reducible refine (HT1.out _ HB1.out).mono ?_;rintro en w3 ⟨rfl,rfl⟩);go_wp2_with (go_at_call 122;with_reducible refine (HT2.out _ HB1.out).mono ?_;rintro en w4 ⟨rfl,rfl⟩);go_wp2_with (go_at_call 122;with_reducible refine (HT3.out _ HB1.out).mono ?_;rintro en w5 ⟨rfl,rfl⟩);go_wp2_with (go_at_call 118;with_reducible refine (HH.out _ HB1.out).mono ?_;rintro en w9 ⟨rfl,hb9⟩;have HB9:=Za hb9;have q19:=(hb9.cell (p:=⟨ad.block,ad.off+1,none⟩) hab1).trans q1';clear hb9);go_quiet (fail);go_wp2_with fail;go_ret3;have hb19:=HB1.out.trans (HB9.out.mono HB1.out.size);exact ⟨by rw [HV.out];exact ⟨_,rfl,(R1.out.below (Zc hb19 _)).rin⟩,Zc hb19 _⟩
def ZN (x:Ac):Bool:=decide (x.k=19)||decide (x.k=20)
def ZaQ (n:Int):Ac:=⟨19,n,0,0,0,0⟩
def ZcC (b:Bool):Ac:=⟨20,if b then 1 else 0,0,0,0,0⟩
def ZI (k a b:Int):Option Ac :=
 if k=28 then some (ZaQ (Za0 (-a))) else if k=26 then some (ZaQ (min a b)) else if k=27 then some (ZaQ (max a b)) else if k=30 then some (ZaQ (Za0 (a*b)))
 else if k=31 then some (ZaQ (Zca a b)) else if k=32 then some (ZaQ (Za0 (a+b))) else if k=33 then some (ZaQ (Za0 (a - b))) else if k=34 then some (ZcC (decide (a=b)))
 else if k=35 then some (ZcC (decide (a<b))) else if k=36 then some (ZcC (decide (a≤b))) else if k=29 then some (ZcC (decide (a=0))) else none
def ZdV:List Ac→Int
 | []=>0
 | x::_=>x.a
def Zec:List Ac→Int
 | []=>0
 | [x]=>x.a
 | _::y::l=>Zec (y::l)
def Zas (k:Int) (hs:List Ac):Option Ac:=if hs.all ZN then ZI k (ZdV hs) (Zec hs) else none
def ZfB (w:World) (en:Ending):Option Ac→Prop
 | none=>en=.returned (.tuple #[.slice none 0 0,.bool false])
 | some y=>∃a,en=.returned (.tuple #[.slice (some a) 1 1,.bool true])∧Ro w a 1 [y]
def Zhc (ks:List (List Ac)) (hs:List Ac):Prop:=hs.length=ks.length∧∀(j:Nat) (k:List Ac) (h:Ac),ks[j]? = some k→hs[j]? = some h→k[0]? = some h
theorem ZbI (w:World) (n:Int):Calls Try.prog 119 #[.int .i64 n] w fun en w'=>∃a,en=.returned (.slice (some a) 1 1)∧Ro w' a 1 [ZaQ n]∧Below w.heap.size w w' :=
 (ZmT w n).mono fun en w' ⟨oa,e,h1,_,h2⟩=>by
  obtain ⟨a,rfl,_⟩:=h1 (by decide);exact ⟨a,e,⟨h1,lr_,by decide⟩,h2⟩
theorem Zen (w:World) (b:Bool):Calls Try.prog 165 #[.bool b] w fun en w'=>∃a,en=.returned (.slice (some a) 1 1)∧Ro w' a 1 [ZcC b]∧Below w.heap.size w w' :=
 (ZlO w b).mono fun en w' ⟨oa,e,h1,_,h2⟩=>by
  obtain ⟨a,rfl,_⟩:=h1 (by decide);exact ⟨a,e,⟨h1,lr_,by decide⟩,h2⟩
theorem ZmN {w:World} {a:Addr} {c:Nat} {l:List Ac} {x:Ac} (h:Ro w a c l) (hx:l[0]? = some x) {b:Bool} (hb:ZN x=b) (W:World) (hW:Below w.heap.size w W) :
 Calls Try.prog 162 #[.slice (some a) l.length c] W fun en w'=>en=.returned (.bool b)∧w'=W:=by
 subst hb;exact ZmO W (some a) c l x (h.s.below hW) hx
theorem ZbO (A B:Int):min A B=(if B<A then B else A):=by
 by_cases h:B<A
 · rw [if_pos h];omega
 · rw [if_neg h];omega
theorem ZbP (A B:Int):max A B=(if A<B then B else A):=by
 by_cases h:A<B
 · rw [if_pos h];omega
 · rw [if_neg h];omega
theorem Zm6 {hs:List Ac} {a:Ac} (h:hs.length=1) (e:hs[0]? = some a):hs=[a]:=by
 match hs,h with
 | [x],_=>simpa using e
theorem ZmY {hs:List Ac} {a b:Ac} (h:hs.length=2) (e:hs[0]? = some a) (f:hs[1]? = some b):hs=[a,b]:=by
 match hs,h with
 | [x,y],_ =>
  simp at e f;rw [e,f]
theorem ZgP {a b:Int} (ha:-1073741824≤a∧a≤1073741824) (hb:-1073741824≤b∧b≤1073741824):-1152921504606846976≤a*b∧a*b≤1152921504606846976:=by
 have h1:(a*b).natAbs≤1073741824*1073741824:=by
  rw [Int.natAbs_mul];exact Nat.mul_le_mul (by omega) (by omega)
 omega
theorem Ro.a {w:World} {a:Addr} {c:Nat} {l:List Ac} {x:Ac} (h:Ro w a c l) (hx:l[0]? = some x):w.cell? ⟨a.block,a.off+1,none⟩=some (.int .i64 x.a)∧a.block<w.heap.size∧0<l.length:=by
 have hl:=(gs_ hx).1;obtain ⟨ad,e,hb,q0,q1,_⟩:=Zq h.s hx;injection e with e;subst e;have e0:a.add (0*6)=a:=by simp [Addr.add]
 rw [e0] at q1;exact ⟨q1,hb,hl⟩
theorem Zei (w:World) (x:Ac) (v:Value) (ks:List (List Ac)) (hs:List Ac) (h:KsM w v ks) (hh:Zhc ks hs) (hn:ks.length≤2) (hb:∀y ∈ hs,ZN y=true → -1073741824≤y.a∧y.a≤1073741824) (hv0:ks=[]→∃oa c,v=.slice oa 0 c) :
 Calls Try.prog 115 #[x.val,v] w fun en w'=>ZfB w' en (Zas x.k hs)∧Below w.heap.size w w':=by
 have HM:=Za h;have HH:=Za hh;have HBD:=Za hb;have hvs:∃oa c,v=.slice oa ks.length c:=by obtain ⟨oa,c,rs,e,_⟩:=h;exact ⟨oa,c,e⟩
 obtain ⟨oa,c,rfl⟩:=hvs;obtain ⟨n,hnn⟩:∃n,ks.length=n:=⟨_,rfl⟩;rw [hnn] at hn;rw [hnn];have HN:=Za hnn
 have hxk:∀j,j<n→∃ad k hd a ca,oa=some ad∧ad.block<w.heap.size∧ks[j]? = some k∧hs[j]? = some hd∧k[0]? = some hd∧w.cell? (ad.add j)=some (.slice (some a) k.length ca)∧Ro w a ca k∧0<k.length:=fun j hj=>by
  obtain ⟨ad,c9,e9,hab,_,hx⟩:=h.at_ (by omega);injection e9 with e9 _ _;obtain ⟨k,hk⟩:∃k,ks[j]? = some k:=⟨_,ge_ (by omega)⟩;obtain ⟨hd,hhd⟩:∃y,hs[j]? = some y:=⟨_,ge_ (by have:=hh.1;omega)⟩;have hk0:=hh.2 j k hd hk hhd;have hpos:=(gs_ hk0).1;obtain ⟨a,ca,q,r⟩:=hx j k hk hpos;exact ⟨ad,k,hd,a,ca,e9,hab,hk,hhd,hk0,q,r,hpos⟩
 have HXK:=Za hxk;clear h hh hb hxk hnn hv0;simp only [Ac.val];have HB1:=Za ((Below.refl w.heap.size w).alloc lr_ (.cells #[.int .i64 x.k,.int .i64 x.a,.int .i64 x.b,.int .i64 x.c,.int .i64 x.d,.int .i64 x.n] 49));have y0:(w.alloc (.cells #[.int .i64 x.k,.int .i64 x.a,.int .i64 x.b,.int .i64 x.c,.int .i64 x.d,.int .i64 x.n] 49)).cell? ⟨w.heap.size,0,none⟩=some (.int .i64 x.k):=(Blk.new w 49 #[.int .i64 x.k,.int .i64 x.a,.int .i64 x.b,.int .i64 x.c,.int .i64 x.d,.int .i64 x.n]).cell 0;go_enter Try.func115,Try.ntmps115;go_upto_region 1 with fail;generalize (w.alloc (.cells #[.int .i64 x.k,.int .i64 x.a,.int .i64 x.b,.int .i64 x.c,.int .i64 x.d,.int .i64 x.n] 49))=W1 at HB1 y0;go_upto_region 2 with fail;go_loopw [12] (fun t12 W=>∃j:Nat,t12=.int .i64 (j:Int)∧j≤n∧Hid (∀i y,i<j→hs[i]? = some y→ZN y=true)∧W=W1) (fun t12 _=>n - (intOf t12).toNat)
 case atStart=>exact ⟨0,rfl,Nat.zero_le _,Za (fun i y hi=>absurd hi (Nat.not_lt_zero _)),rfl⟩
 case round =>
  obtain ⟨j,rfl,hj,HF,rfl⟩:=hrel;have hq:=IntWalk.i64_in ((j:Int)+1) (by omega)
  by_cases hjn:j<n
  · have hjI:(j:Int)<(n:Int):=by omega
    obtain ⟨ad,k,hd,a,ca,rfl,hab,hk,hhd,hk0,q,r,hpos⟩:=HXK.out j hjn;have q':=(HB1.out.cell (p:=ad.add j) (by rw [Zl];exact hab)).trans q;obtain ⟨fb,hfb⟩:∃b,ZN hd=b:=⟨_,rfl⟩;have HFX:=Za (ZmN r hk0 hfb wr HB1.out);have HFB:=Za hfb;have HD:=Za hhd;clear hk hhd hk0 q r hfb
    cases fb with
    | true =>
     go_wp2_with (go_at_call 162;with_reducible refine HFX.out.mono ?_;rintro en w2 ⟨rfl,rfl⟩);go_roundw
     case rel =>
      refine ⟨j+1,by go_num,by omega,Za (fun i y hi hy=>?_),by first | rfl | trivial⟩;rcases Nat.lt_succ_iff_lt_or_eq.1 hi with h9 | h9
      · exact HF.out i y h9 hy
      · subst h9;rw [HD.out] at hy;injection hy with hy;rw [←hy];exact HFB.out
     case measure =>
      simp only [intOf];omega
    | false =>
     go_wp2_with (go_at_call 162;with_reducible refine HFX.out.mono ?_;rintro en w2 ⟨rfl,rfl⟩);go_ret2;refine ⟨?_,HB1.out⟩
     have h9:Zas x.k hs=none:=by
      unfold Zas;rw [if_neg];intro h8;rw [List.all_eq_true] at h8;have:=h8 hd (List.mem_of_getElem? HD.out);rw [HFB.out] at this
      cases this
     rw [h9];rfl
  · have hjI:¬(j:Int)<(n:Int):=by omega
    obtain rfl:j=n:=by omega
    have hlen:hs.length=j:=by rw [HH.out.1,HN.out]
    have hn3:j=0∨j=1∨j=2:=by omega
    rcases hn3 with rfl | rfl | rfl
    case' inl =>
     have hhs:hs=[]:=List.eq_nil_of_length_eq_zero hlen;have HCV:=Za (show Zas x.k hs=ZI x.k 0 0 by rw [hhs];simp [Zas,ZdV,Zec]);clear hhs hlen;go_upto_region 10 with fail;have u28:=IntWalk.i64_in (-0) (by first | omega | (have:=HMUL.out;omega));have u30:=IntWalk.i64_in (0*0) (by first | omega | (have:=HMUL.out;omega));have u32:=IntWalk.i64_in (0+0) (by first | omega | (have:=HMUL.out;omega));have u33:=IntWalk.i64_in (0 - 0) (by first | omega | (have:=HMUL.out;omega))
    case' inr.inl =>
     obtain ⟨ad,k0,h0,a0,c0,rfl,hab,hk0,hh0,hx0,q0,r0,p0⟩:=HXK.out 0 (by decide);have hhs:hs=[h0]:=Zm6 hlen hh0;have hf0:=HF.out 0 h0 (by decide) hh0;have hb0:=HBD.out h0 (List.mem_of_getElem? hh0) hf0;obtain ⟨s0,bb0,_⟩:=r0.a hx0;have hp0:(0:Int)<(k0.length:Int):=by omega
     rw [show ad.add 0=ad by simp [Addr.add]] at q0;have q0':=(HB1.out.cell (p:=ad) hab).trans q0;have s0':=(HB1.out.cell (p:=⟨a0.block,a0.off+1,none⟩) bb0).trans s0;obtain ⟨A,hA⟩:∃A,h0.a=A:=⟨_,rfl⟩;rw [hA] at hb0 s0';have HCV:=Za (show Zas x.k hs=ZI x.k A A by rw [hhs];simp [Zas,ZdV,Zec,hf0,hA]);have HMUL:=Za (ZgP hb0 hb0);clear hhs hlen hk0 hh0 hx0 q0 r0 hf0 s0 hA HF hq hj hjn hjI;go_upto_region 9 with fail;go_quiet (fail);go_upto_region 10 with fail;have u28:=IntWalk.i64_in (-A) (by first | omega | (have:=HMUL.out;omega));have u30:=IntWalk.i64_in (A*A) (by first | omega | (have:=HMUL.out;omega));have u32:=IntWalk.i64_in (A+A) (by first | omega | (have:=HMUL.out;omega));have u33:=IntWalk.i64_in (A - A) (by first | omega | (have:=HMUL.out;omega))
    case' inr.inr =>
     obtain ⟨ad,k0,h0,a0,c0,rfl,hab,hk0,hh0,hx0,q0,r0,p0⟩:=HXK.out 0 (by decide);obtain ⟨ad2,k1,h1,a1,c1,e2,_,hk1,hh1,hx1,q1,r1,p1⟩:=HXK.out 1 (by decide);injection e2 with e2;subst e2;have hhs:hs=[h0,h1]:=ZmY hlen hh0 hh1;have hf0:=HF.out 0 h0 (by decide) hh0;have hf1:=HF.out 1 h1 (by decide) hh1;have hb0:=HBD.out h0 (List.mem_of_getElem? hh0) hf0;have hb1:=HBD.out h1 (List.mem_of_getElem? hh1) hf1;obtain ⟨s0,bb0,_⟩:=r0.a hx0;obtain ⟨s1,bb1,_⟩:=r1.a hx1;have hp0:(0:Int)<(k0.length:Int):=by omega
     have hp1:(0:Int)<(k1.length:Int):=by omega
     rw [show ad.add 0=ad by simp [Addr.add]] at q0;rw [show ad.add 1=⟨ad.block,ad.off+1,none⟩ by simp [Addr.add]] at q1;have q0':=(HB1.out.cell (p:=ad) hab).trans q0;have q1':=(HB1.out.cell (p:=⟨ad.block,ad.off+1,none⟩) hab).trans q1;have s0':=(HB1.out.cell (p:=⟨a0.block,a0.off+1,none⟩) bb0).trans s0;have s1':=(HB1.out.cell (p:=⟨a1.block,a1.off+1,none⟩) bb1).trans s1;obtain ⟨A,hA⟩:∃A,h0.a=A:=⟨_,rfl⟩;obtain ⟨B,hB⟩:∃B,h1.a=B:=⟨_,rfl⟩;rw [hA] at hb0 s0';rw [hB] at hb1 s1';have HCV:=Za (show Zas x.k hs=ZI x.k A B by rw [hhs];simp [Zas,ZdV,Zec,hf0,hf1,hA,hB]);have HMUL:=Za (ZgP hb0 hb1);clear hhs hlen hk0 hh0 hx0 q0 r0 hf0 s0 hA hk1 hh1 hx1 q1 r1 hf1 s1 hB HF hq hj hjn hjI;go_upto_region 9 with fail;go_quiet (fail);go_upto_region 10 with fail;have u28:=IntWalk.i64_in (-A) (by first | omega | (have:=HMUL.out;omega));have u30:=IntWalk.i64_in (A*B) (by first | omega | (have:=HMUL.out;omega));have u32:=IntWalk.i64_in (A+B) (by first | omega | (have:=HMUL.out;omega));have u33:=IntWalk.i64_in (A - B) (by first | omega | (have:=HMUL.out;omega))
    all_goals
     by_cases hk28:x.k=28
     · have hv9:=HCV.out;rw [show ZI x.k=ZI 28 by rw [hk28]] at hv9;simp only [ZI,Int.reduceEq,reduceIte] at hv9;have HV:=Za hv9;clear hv9;have b28:(x.k == 28)=true:=by simp [hk28]
       clear hk28;go_wp2_with (go_at_call 163;with_reducible refine (ZdX _ _).mono ?_;rintro en w8 ⟨rfl,rfl⟩);go_wp2_with (go_at_call 119;with_reducible refine (ZbI _ _).mono ?_;rintro en w9 ⟨ar,rfl,hr9,hb9⟩;have HR9:=Za hr9;have HB9:=Za hb9;clear hr9 hb9)
       all_goals
        go_ret2;refine ⟨?_,by first | exact HB1.out.trans (HB9.out.mono HB1.out.size) | exact (Zc HB1.out _).trans (HB9.out.mono HB1.out.size)⟩;rw [HV.out]
        first | exact ⟨_,rfl,HR9.out⟩ | (refine ⟨_,rfl,?_⟩;have h9:=HR9.out;first | simpa using h9 | (rw [ZbO];exact h9) | (rw [ZbP];exact h9))
     have b28:(x.k == 28)=false:=by simp [hk28]
     by_cases hk26:x.k=26
     · have hv9:=HCV.out;rw [show ZI x.k=ZI 26 by rw [hk26]] at hv9;simp only [ZI,Int.reduceEq,reduceIte] at hv9;have HV:=Za hv9;clear hv9;have b26:(x.k == 26)=true:=by simp [hk26]
       clear hk26;go_wp2_with (go_at_call 119;with_reducible refine (ZbI _ _).mono ?_;rintro en w9 ⟨ar,rfl,hr9,hb9⟩;have HR9:=Za hr9;have HB9:=Za hb9;clear hr9 hb9)
       all_goals
        go_ret2;refine ⟨?_,by first | exact HB1.out.trans (HB9.out.mono HB1.out.size) | exact (Zc HB1.out _).trans (HB9.out.mono HB1.out.size)⟩;rw [HV.out]
        first | exact ⟨_,rfl,HR9.out⟩ | (refine ⟨_,rfl,?_⟩;have h9:=HR9.out;first | simpa using h9 | (rw [ZbO];exact h9) | (rw [ZbP];exact h9))
     have b26:(x.k == 26)=false:=by simp [hk26]
     by_cases hk27:x.k=27
     · have hv9:=HCV.out;rw [show ZI x.k=ZI 27 by rw [hk27]] at hv9;simp only [ZI,Int.reduceEq,reduceIte] at hv9;have HV:=Za hv9;clear hv9;have b27:(x.k == 27)=true:=by simp [hk27]
       clear hk27;go_wp2_with (go_at_call 119;with_reducible refine (ZbI _ _).mono ?_;rintro en w9 ⟨ar,rfl,hr9,hb9⟩;have HR9:=Za hr9;have HB9:=Za hb9;clear hr9 hb9)
       all_goals
        go_ret2;refine ⟨?_,by first | exact HB1.out.trans (HB9.out.mono HB1.out.size) | exact (Zc HB1.out _).trans (HB9.out.mono HB1.out.size)⟩;rw [HV.out]
        first | exact ⟨_,rfl,HR9.out⟩ | (refine ⟨_,rfl,?_⟩;have h9:=HR9.out;first | simpa using h9 | (rw [ZbO];exact h9) | (rw [ZbP];exact h9))
     have b27:(x.k == 27)=false:=by simp [hk27]
     by_cases hk30:x.k=30
     · have hv9:=HCV.out;rw [show ZI x.k=ZI 30 by rw [hk30]] at hv9;simp only [ZI,Int.reduceEq,reduceIte] at hv9;have HV:=Za hv9;clear hv9;have b30:(x.k == 30)=true:=by simp [hk30]
       clear hk30;go_wp2_with (go_at_call 163;with_reducible refine (ZdX _ _).mono ?_;rintro en w8 ⟨rfl,rfl⟩);go_wp2_with (go_at_call 119;with_reducible refine (ZbI _ _).mono ?_;rintro en w9 ⟨ar,rfl,hr9,hb9⟩;have HR9:=Za hr9;have HB9:=Za hb9;clear hr9 hb9)
       all_goals
        go_ret2;refine ⟨?_,by first | exact HB1.out.trans (HB9.out.mono HB1.out.size) | exact (Zc HB1.out _).trans (HB9.out.mono HB1.out.size)⟩;rw [HV.out]
        first | exact ⟨_,rfl,HR9.out⟩ | (refine ⟨_,rfl,?_⟩;have h9:=HR9.out;first | simpa using h9 | (rw [ZbO];exact h9) | (rw [ZbP];exact h9))
     have b30:(x.k == 30)=false:=by simp [hk30]
     by_cases hk31:x.k=31
     · have hv9:=HCV.out;rw [show ZI x.k=ZI 31 by rw [hk31]] at hv9;simp only [ZI,Int.reduceEq,reduceIte] at hv9;have HV:=Za hv9;clear hv9;have b31:(x.k == 31)=true:=by simp [hk31]
       clear hk31;go_wp2_with (go_at_call 164;with_reducible refine (ZmM _ _ _ (by omega)).mono ?_;rintro en w8 ⟨rfl,rfl⟩);go_wp2_with (go_at_call 119;with_reducible refine (ZbI _ _).mono ?_;rintro en w9 ⟨ar,rfl,hr9,hb9⟩;have HR9:=Za hr9;have HB9:=Za hb9;clear hr9 hb9)
       all_goals
        go_ret2;refine ⟨?_,by first | exact HB1.out.trans (HB9.out.mono HB1.out.size) | exact (Zc HB1.out _).trans (HB9.out.mono HB1.out.size)⟩;rw [HV.out]
        first | exact ⟨_,rfl,HR9.out⟩ | (refine ⟨_,rfl,?_⟩;have h9:=HR9.out;first | simpa using h9 | (rw [ZbO];exact h9) | (rw [ZbP];exact h9))
     have b31:(x.k == 31)=false:=by simp [hk31]
     by_cases hk32:x.k=32
     · have hv9:=HCV.out;rw [show ZI x.k=ZI 32 by rw [hk32]] at hv9;simp only [ZI,Int.reduceEq,reduceIte] at hv9;have HV:=Za hv9;clear hv9;have b32:(x.k == 32)=true:=by simp [hk32]
       clear hk32;go_wp2_with (go_at_call 163;with_reducible refine (ZdX _ _).mono ?_;rintro en w8 ⟨rfl,rfl⟩);go_wp2_with (go_at_call 119;with_reducible refine (ZbI _ _).mono ?_;rintro en w9 ⟨ar,rfl,hr9,hb9⟩;have HR9:=Za hr9;have HB9:=Za hb9;clear hr9 hb9)
       all_goals
        go_ret2;refine ⟨?_,by first | exact HB1.out.trans (HB9.out.mono HB1.out.size) | exact (Zc HB1.out _).trans (HB9.out.mono HB1.out.size)⟩;rw [HV.out]
        first | exact ⟨_,rfl,HR9.out⟩ | (refine ⟨_,rfl,?_⟩;have h9:=HR9.out;first | simpa using h9 | (rw [ZbO];exact h9) | (rw [ZbP];exact h9))
     have b32:(x.k == 32)=false:=by simp [hk32]
     by_cases hk33:x.k=33
     · have hv9:=HCV.out;rw [show ZI x.k=ZI 33 by rw [hk33]] at hv9;simp only [ZI,Int.reduceEq,reduceIte] at hv9;have HV:=Za hv9;clear hv9;have b33:(x.k == 33)=true:=by simp [hk33]
       clear hk33;go_wp2_with (go_at_call 163;with_reducible refine (ZdX _ _).mono ?_;rintro en w8 ⟨rfl,rfl⟩);go_wp2_with (go_at_call 119;with_reducible refine (ZbI _ _).mono ?_;rintro en w9 ⟨ar,rfl,hr9,hb9⟩;have HR9:=Za hr9;have HB9:=Za hb9;clear hr9 hb9)
       all_goals
        go_ret2;refine ⟨?_,by first | exact HB1.out.trans (HB9.out.mono HB1.out.size) | exact (Zc HB1.out _).trans (HB9.out.mono HB1.out.size)⟩;rw [HV.out]
        first | exact ⟨_,rfl,HR9.out⟩ | (refine ⟨_,rfl,?_⟩;have h9:=HR9.out;first | simpa using h9 | (rw [ZbO];exact h9) | (rw [ZbP];exact h9))
     have b33:(x.k == 33)=false:=by simp [hk33]
     by_cases hk34:x.k=34
     · have hv9:=HCV.out;rw [show ZI x.k=ZI 34 by rw [hk34]] at hv9;simp only [ZI,Int.reduceEq,reduceIte] at hv9;have HV:=Za hv9;clear hv9;have b34:(x.k == 34)=true:=by simp [hk34]
       clear hk34;go_wp2_with (go_at_call 165;with_reducible refine (Zen _ _).mono ?_;rintro en w9 ⟨ar,rfl,hr9,hb9⟩;have HR9:=Za hr9;have HB9:=Za hb9;clear hr9 hb9)
       all_goals
        go_ret2;refine ⟨?_,by first | exact HB1.out.trans (HB9.out.mono HB1.out.size) | exact (Zc HB1.out _).trans (HB9.out.mono HB1.out.size)⟩;rw [HV.out]
        first | exact ⟨_,rfl,HR9.out⟩ | (refine ⟨_,rfl,?_⟩;have h9:=HR9.out;first | simpa using h9 | (rw [ZbO];exact h9) | (rw [ZbP];exact h9))
     have b34:(x.k == 34)=false:=by simp [hk34]
     by_cases hk35:x.k=35
     · have hv9:=HCV.out;rw [show ZI x.k=ZI 35 by rw [hk35]] at hv9;simp only [ZI,Int.reduceEq,reduceIte] at hv9;have HV:=Za hv9;clear hv9;have b35:(x.k == 35)=true:=by simp [hk35]
       clear hk35;go_wp2_with (go_at_call 165;with_reducible refine (Zen _ _).mono ?_;rintro en w9 ⟨ar,rfl,hr9,hb9⟩;have HR9:=Za hr9;have HB9:=Za hb9;clear hr9 hb9)
       all_goals
        go_ret2;refine ⟨?_,by first | exact HB1.out.trans (HB9.out.mono HB1.out.size) | exact (Zc HB1.out _).trans (HB9.out.mono HB1.out.size)⟩;rw [HV.out]
        first | exact ⟨_,rfl,HR9.out⟩ | (refine ⟨_,rfl,?_⟩;have h9:=HR9.out;first | simpa using h9 | (rw [ZbO];exact h9) | (rw [ZbP];exact h9))
     have b35:(x.k == 35)=false:=by simp [hk35]
     by_cases hk36:x.k=36
     · have hv9:=HCV.out;rw [show ZI x.k=ZI 36 by rw [hk36]] at hv9;simp only [ZI,Int.reduceEq,reduceIte] at hv9;have HV:=Za hv9;clear hv9;have b36:(x.k == 36)=true:=by simp [hk36]
       clear hk36;go_wp2_with (go_at_call 165;with_reducible refine (Zen _ _).mono ?_;rintro en w9 ⟨ar,rfl,hr9,hb9⟩;have HR9:=Za hr9;have HB9:=Za hb9;clear hr9 hb9)
       all_goals
        go_ret2;refine ⟨?_,by first | exact HB1.out.trans (HB9.out.mono HB1.out.size) | exact (Zc HB1.out _).trans (HB9.out.mono HB1.out.size)⟩;rw [HV.out]
        first | exact ⟨_,rfl,HR9.out⟩ | (refine ⟨_,rfl,?_⟩;have h9:=HR9.out;first | simpa using h9 | (rw [ZbO];exact h9) | (rw [ZbP];exact h9))
     have b36:(x.k == 36)=false:=by simp [hk36]
     by_cases hk29:x.k=29
     · have hv9:=HCV.out;rw [show ZI x.k=ZI 29 by rw [hk29]] at hv9;simp only [ZI,Int.reduceEq,reduceIte] at hv9;have HV:=Za hv9;clear hv9;have b29:(x.k == 29)=true:=by simp [hk29]
       clear hk29;go_wp2_with (go_at_call 165;with_reducible refine (Zen _ _).mono ?_;rintro en w9 ⟨ar,rfl,hr9,hb9⟩;have HR9:=Za hr9;have HB9:=Za hb9;clear hr9 hb9)
       all_goals
        go_ret2;refine ⟨?_,by first | exact HB1.out.trans (HB9.out.mono HB1.out.size) | exact (Zc HB1.out _).trans (HB9.out.mono HB1.out.size)⟩;rw [HV.out]
        first | exact ⟨_,rfl,HR9.out⟩ | (refine ⟨_,rfl,?_⟩;have h9:=HR9.out;first | simpa using h9 | (rw [ZbO];exact h9) | (rw [ZbP];exact h9))
     have b29:(x.k == 29)=false:=by simp [hk29]
     have hv9:Zas x.k hs=none:=by rw [HCV.out];simp [ZI, *]
     have HV:=Za hv9;clear hv9;clear hk28 hk26 hk27 hk30 hk31 hk32 hk33 hk34 hk35 hk36 hk29;go_wp2_with fail;go_ret2;exact ⟨by rw [HV.out];rfl,by first | exact HB1.out | exact Zc HB1.out _⟩
def sub (l:List Ac) (r:Nat×Nat):List Ac:=(l.drop r.1).take (r.2 - r.1)
theorem ZaL {l:List Ac} {r:Nat×Nat} (h:r.2≤l.length):(sub l r).length=r.2 - r.1:=by
 unfold sub;rw [List.length_take,List.length_drop];omega
theorem Ze7 (l m:List Ac):acs (l++m)=acs l++acs m:=by simp [acs]
theorem ZeT {w:World} {a:Addr} {l:List Ac} {r:Nat×Nat} (h:Src w (some a) l.length (acs l)) (h1:r.1≤r.2) (h2:r.2≤l.length):Src w (some (a.add (r.1*6))) (sub l r).length (acs (sub l r)):=fun hpos=>by
 obtain ⟨ad,e,hb,hx⟩:=h (by rw [ZaL h2] at hpos;omega);injection e with e;subst e;refine ⟨_,rfl,by rw [Zl];exact hb,fun j v hj=>?_⟩;rw [add_add];refine hx _ _ ?_
 have e1:l=l.take r.1++(sub l r++l.drop r.2):=by
  unfold sub;rw [show l.drop r.2=(l.drop r.1).drop (r.2 - r.1) by rw [List.drop_drop];congr 1;omega,List.take_append_drop,List.take_append_drop]
 rw [e1,Ze7,Ze7,List.getElem?_append_right (by rw [ZbG,List.length_take];omega),ZbG,List.length_take,show r.1*6+j - min r.1 l.length*6=j by rw [Nat.min_eq_left (by omega)];omega,List.getElem?_append_left (gs_ hj).1];exact hj
theorem Ro.sub {w:World} {a:Addr} {c:Nat} {l:List Ac} {r:Nat×Nat} (h:Ro w a c l) (h1:r.1≤r.2) (h2:r.2≤l.length):Ro w (a.add (r.1*6)) (r.2 - r.1) (sub l r) :=
 ⟨ZeT h.s h1 h2,by rw [ZaL h2];exact lr_,by have:=h.n;have:=h.m;omega⟩
theorem ZaJ (l:List Ac):∀(m k:Nat) (sp:List (Nat×Nat)),ZR l m k=some sp→k≤l.length→sp.length=m∧∀r ∈ sp,k≤r.1∧r.1<r.2∧r.2≤l.length
 | 0,k,sp,h,hk=>by
  simp only [ZR,Option.some.injEq] at h;subst h
  simp
 | m+1,k,sp,h,hk=>by
  unfold ZR at h
  cases he:ZV l k 1 with
  | none=>rw [he] at h;simp at h
  | some e =>
   rw [he] at h;simp only [Option.map_eq_some_iff] at h;obtain ⟨sp',h1,rfl⟩:=h;obtain ⟨h2,h3,h4⟩:=ZcO l _ k 1 e rfl he hk;obtain ⟨h5,h6⟩:=ZaJ l m e sp' h1 h3;refine ⟨by simp [h5],fun r hr=>?_⟩;rcases List.mem_cons.1 hr with rfl | hr
   · exact ⟨lr_,h4 (by decide),h3⟩
   · obtain ⟨h7,h8,h9⟩:=h6 r hr;exact ⟨by omega,h8,h9⟩
theorem Zga {l:List Ac} {a:Addr}:∀(sp:List (Nat×Nat)),(∀r ∈ sp,r.1<r.2∧r.2≤l.length)→slv (sp.map fun r=>(some (a.add (r.1*6)),r.2 - r.1)) (sp.map (sub l))=sp.map (spv a)
 | [],_=>rfl
 | r::sp,h=>by
  simp only [List.map_cons,slv,spv];rw [Zga sp (fun q hq=>h q (List.mem_cons_of_mem _ hq)),ZaL (h r (List.mem_cons_self ..)).2]
theorem ZeV {w:World} {B:Nat} {t:TypeId} {sz n c:Nat} {oa:Option Addr} {xs:List Value} (h:w.ownsRow B t sz (.slice oa n c) n xs):n≤c:=by
 rcases h.2 with ⟨_,h0⟩ | ⟨g,cap,cur,e,hb,hg,h1,_⟩
 · omega
 · injection e with e1 e2 e3;omega
theorem Zkc {w:World} {a:Addr} {c:Nat} {l:List Ac} {i:Nat} {x:Ac} {sp:List (Nat×Nat)} (h:Ro w a c l) (hs:Z7 l) (hx:l[i]? = some x) (hk:ZR l x.n.toNat (i+1)=some sp) (W:World) (hW:Below w.heap.size w W) :
 Calls Try.prog 114 #[.slice (some a) l.length c,.int .i64 (i:Int)] W fun en w'=>∃v,en=.returned v∧KsM w' v (sp.map (sub l))∧Below W.heap.size W w':=by
 have h':=h.below hW;refine (ZeC W a c l i x sp h'.s hs hx hk h'.n h'.m).mono fun en w' ⟨v,e,ho,hb⟩=>⟨v,e,?_,hb⟩
 have hil:=(gs_ hx).1;obtain ⟨h1,h2⟩:=ZaJ l _ _ _ hk (by omega);obtain ⟨oa,cp,rfl⟩:=Zg ho;have hsv:=Zga (a:=a) sp (fun r hr=>(h2 r hr).2);refine ⟨oa,cp,sp.map fun r=>(some (a.add (r.1*6)),r.2 - r.1),by rw [List.length_map],by rw [List.length_map,hsv];exact Zak ho,⟨by simp,fun j oa' c' l' e1 e2=>?_⟩,by rw [List.length_map];exact ZeV ho⟩;rw [List.getElem?_map] at e1 e2
 cases hj:sp[j]? with
 | none=>rw [hj] at e1;simp at e1
 | some r =>
  rw [hj] at e1 e2;simp only [Option.map_some,Option.some.injEq,Prod.mk.injEq] at e1 e2;obtain ⟨rfl,rfl⟩:=e1;subst e2;obtain ⟨_,h3,h4⟩:=h2 r (List.mem_of_getElem? hj);have h5:=(h'.below hb).sub (r:=r) (by omega) h4;exact ⟨h5.s,h5.n,h5.m⟩
theorem neA (w:World) (x0 x1 x2 x3 x4 x5 y0 y1 y2 y3 y4 y5:Int):(binOp .neq 49 (.agg #[.int .i64 x0,.int .i64 x1,.int .i64 x2,.int .i64 x3,.int .i64 x4,.int .i64 x5]) (.agg #[.int .i64 y0,.int .i64 y1,.int .i64 y2,.int .i64 y3,.int .i64 y4,.int .i64 y5])).run Try.prog w =
 .ok (.bool (!decide ((⟨x0,x1,x2,x3,x4,x5⟩:Ac)=⟨y0,y1,y2,y3,y4,y5⟩))) w:=by
 have h1:=run_equalIn_agg (P:=Try.prog) w 9999 49 #[.int .i64 x0,.int .i64 x1,.int .i64 x2,.int .i64 x3,.int .i64 x4,.int .i64 x5] #[.int .i64 y0,.int .i64 y1,.int .i64 y2,.int .i64 y3,.int .i64 y4,.int .i64 y5] u49 s49;have h2:=ZcA (P:=Try.prog) (w:=w) (d:=9998) (t:=3) (k:=.i64) Try.underlying3 #[.int .i64 x0,.int .i64 x1,.int .i64 x2,.int .i64 x3,.int .i64 x4,.int .i64 x5] #[.int .i64 y0,.int .i64 y1,.int .i64 y2,.int .i64 y3,.int .i64 y4,.int .i64 y5] (Try.prog.fieldsOf 49).toList [(x0,0),(x1,1),(x2,2),(x3,3),(x4,4),(x5,5)] [(y0,0),(y1,1),(y2,2),(y3,3),(y4,4),(y5,5)] f49 rfl (by simp) (by simp);rw [run_neq_struct,h1,h2]
 simp
theorem ZlC (w:World) (oa ob:Option Addr) (ca cb:Nat) (l m:List Ac) (ha:Src w oa l.length (acs l)) (hb:Src w ob m.length (acs m)) (hl:l.length≤4194304) :
 Calls Try.prog 184 #[.slice oa l.length ca,.slice ob m.length cb] w fun en w'=>en=.returned (.bool (decide (l=m)))∧Below w.heap.size w w':=by
 have HA:=Za ha;have HB:=Za hb;have hne:=neA;have hgd:=g49;obtain ⟨N,hN⟩:∃N,l.length=N:=⟨_,rfl⟩;obtain ⟨M,hM⟩:∃M,m.length=M:=⟨_,rfl⟩;rw [hN] at hl;rw [hN,hM];have HN:=Za hN;have HM:=Za hM;clear ha hb hN hM
 by_cases hNM:N=M
 case neg =>
  have hnb:((N:Int) != (M:Int))=true:=by simp;omega
  have HF:=Za (show decide (l=m)=false by
   rw [decide_eq_false_iff_not];rintro rfl
   exact hNM (HN.out.symm.trans HM.out))
  clear hNM;go_enter Try.func184,Try.ntmps184;go_wp2_with fail;go_ret;exact ⟨by rw [HF.out];first | done | rfl,Below.refl _ _⟩
 subst hNM;have hnb:((N:Int) != (N:Int))=false:=by simp
 go_enter Try.func184,Try.ntmps184;go_wp2_with fail;go_loopw [13] (fun t13 W=>∃i:Nat,t13=.int .i64 (i:Int)∧i≤N∧Below w.heap.size w W∧Hid (∀j x y,j<i→l[j]? = some x→m[j]? = some y→x=y)) (fun t13 _=>N - (intOf t13).toNat)
 case atStart=>exact ⟨0,rfl,Nat.zero_le _,Below.refl _ _,Za (fun j x y h=>absurd h (Nat.not_lt_zero _))⟩
 case round =>
  obtain ⟨i,rfl,hi,hw,HE⟩:=hrel;rename World=>W
  have HW:=Za hw;have u1:=IntWalk.i64_in ((i:Int)+1) (by omega);have hi0:(0:Int)≤(i:Int):=by omega
  by_cases hlt:i<N
  · have hltI:(i:Int)<(N:Int):=by omega
    obtain ⟨x,hx⟩:∃x,l[i]? = some x:=⟨_,ge_ (by rw [HN.out];exact hlt)⟩;obtain ⟨y,hy⟩:∃y,m[i]? = some y:=⟨_,ge_ (by rw [HM.out];exact hlt)⟩;obtain ⟨ad,e,hab,q0,q1,q2,q3,q4,q5⟩:=Zq (HA.out.below hw) hx;obtain ⟨ae,f,hbb,p0,p1,p2,p3,p4,p5⟩:=Zq (HB.out.below hw) hy;subst e f;have HX:=Za hx;have HY:=Za hy;obtain ⟨x0,x1,x2,x3,x4,x5⟩:=x;obtain ⟨y0,y1,y2,y3,y4,y5⟩:=y;simp only at q0 q1 q2 q3 q4 q5 p0 p1 p2 p3 p4 p5;obtain ⟨bb,hbb2⟩:∃b,decide ((⟨x0,x1,x2,x3,x4,x5⟩:Ac)=⟨y0,y1,y2,y3,y4,y5⟩)=b:=⟨_,rfl⟩;have hne2:=fun W=>neA W x0 x1 x2 x3 x4 x5 y0 y1 y2 y3 y4 y5
    rw [hbb2] at hne2;have HBB:=Za hbb2;clear hne hx hy hab hbb hbb2 hw
    cases bb with
    | true =>
     simp only [Bool.not_true] at hne2;go_wp2_with fail;go_quiet (fail);go_wp2_with fail;go_roundw
     case rel =>
      refine ⟨i+1,by go_num,by omega,Zc HW.out _,Za (fun j x y hj h1 h2=>?_)⟩;rcases Nat.lt_succ_iff_lt_or_eq.1 hj with h9 | h9
      · exact HE.out j x y h9 h1 h2
      · subst h9;rw [HX.out] at h1;rw [HY.out] at h2;rw [←Option.some.inj h1,←Option.some.inj h2];exact of_decide_eq_true HBB.out
     case measure=>simp [intOf];omega
    | false =>
     simp only [Bool.not_false] at hne2
     have HF:=Za (show decide (l=m)=false by
      rw [decide_eq_false_iff_not];rintro rfl;have h9:=Option.some.inj (HX.out.symm.trans HY.out);rw [h9] at HBB;have:=HBB.out
      simp at this)
     go_wp2_with fail;go_quiet (fail);go_wp2_with fail;go_ret;exact ⟨by rw [HF.out];first | done | rfl,Zc HW.out _⟩
  · have hltI:¬(i:Int)<(N:Int):=by omega
    have HT:=Za (show decide (l=m)=true by
     rw [decide_eq_true_eq];apply List.ext_getElem?;intro j
     by_cases hj:j<N
     · obtain ⟨x,hx⟩:∃x,l[j]? = some x:=⟨_,ge_ (by rw [HN.out];exact hj)⟩;obtain ⟨y,hy⟩:∃y,m[j]? = some y:=⟨_,ge_ (by rw [HM.out];exact hj)⟩;rw [hx,hy,HE.out j x y (by omega) hx hy]
     · rw [List.getElem?_eq_none (by rw [HN.out];omega),List.getElem?_eq_none (by rw [HM.out];omega)])
    clear hw;go_wp2_with fail;go_ret;exact ⟨by rw [HT.out];first | done | rfl,HW.out⟩
theorem Ro.row {w:World} {a:Addr} {c:Nat} {l:List Ac} {x:Ac} (h:Ro w a c l) (hx:l[0]? = some x):ZbM w a x∧a.block<w.heap.size∧0<l.length:=by
 have hl:=(gs_ hx).1;obtain ⟨ad,e,hb,hr⟩:=Zq h.s hx;injection e with e;subst e;have e0:a.add (0*6)=a:=by simp [Addr.add]
 rw [e0] at hr;exact ⟨hr,hb,hl⟩
theorem Ro.row1 {w:World} {a:Addr} {c:Nat} {l:List Ac} {x:Ac} (h:Ro w a c l) (hx:l[1]? = some x):ZbM w ⟨a.block,a.off+6,none⟩ x∧1<l.length:=by
 have hl:=(gs_ hx).1;obtain ⟨ad,e,hb,hr⟩:=Zq h.s hx;injection e with e;subst e;have e0:a.add (1*6)=⟨a.block,a.off+6,none⟩:=by simp [Addr.add]
 rw [e0] at hr;exact ⟨hr,hl⟩
def Zbg (b:List Ac):Option (List (Nat×Nat)) :=
 match b[0]?,b[1]? with
 | some b0,some b1=>if b0.n=0∨b1.k≠2 then none else ZR b b1.n.toNat 2
 | _,_=>none
def ZaE (b c:List Ac):Bool :=
 match Zbg b with
 | some (r::_)=>decide (sub b r=c)
 | _=>false
theorem Zm0 (w:World) {a ac:Addr} {ca cc:Nat} {b c:List Ac} {b0:Ac} (hb:Ro w a ca b) (hc:Ro w ac cc c) (hs:Z7 b) (h0:b[0]? = some b0) (hn:b0.n≠0→∃b1,b[1]? = some b1∧(b1.k=2→∃r sp,ZR b b1.n.toNat 2=some (r::sp))) (hl:b.length≤4194304) :
 Calls Try.prog 168 #[.slice (some a) b.length ca,.slice (some ac) c.length cc] w fun en w'=>∃v,en=.returned (.tuple #[v,.bool (ZaE b c)])∧(ZaE b c=true→∃sp,Zbg b=some sp∧KsM w' v (sp.map (sub b)))∧Below w.heap.size w w':=by
 obtain ⟨⟨p0,_,_,_,_,p5⟩,hab,hl0⟩:=hb.row h0;have hl0I:(0:Int)<(b.length:Int):=by omega
 by_cases hz:b0.n=0
 · have hV:ZaE b c=false:=by
    unfold ZaE Zbg;rw [h0]
    cases hb1:b[1]? with
    | none=>rfl
    | some b1=>simp [hz]
   have HV:=Za hV;have hzb:(b0.n == 0)=true:=by simp [hz]
   clear hV hn h0 hs hb hc hz;go_enter Try.func168,Try.ntmps168;go_wp2_with fail;go_ret2;rw [HV.out];exact ⟨_,rfl,fun h=>by simp at h,Below.refl _ _⟩
 obtain ⟨b1,h1,hk⟩:=hn hz;obtain ⟨⟨q0,_,_,_,_,q5⟩,hl1⟩:=hb.row1 h1;have hl1I:(1:Int)<(b.length:Int):=by omega
 have hzb:(b0.n == 0)=false:=by simp [hz]
 by_cases hk2:b1.k=2
 case neg =>
  have hV:ZaE b c=false:=by
   unfold ZaE Zbg;rw [h0,h1];simp [hz,hk2]
  have HV:=Za hV;have hkb:(b1.k != 2)=true:=by simp [hk2]
  clear hV hn h0 h1 hs hb hc hz hk2 hk;go_enter Try.func168,Try.ntmps168;go_wp2_with fail;go_ret2;rw [HV.out];exact ⟨_,rfl,fun h=>by simp at h,Below.refl _ _⟩
 obtain ⟨r,sp,hks⟩:=hk hk2
 have hI:Zbg b=some (r::sp):=by
  unfold Zbg;rw [h0,h1];simp only;rw [if_neg (by simp [hz,hk2]),hks]
 have hV:ZaE b c=decide (sub b r=c):=by
  unfold ZaE;rw [hI]
 obtain ⟨t,ht⟩:∃t,decide (sub b r=c)=t:=⟨_,rfl⟩;rw [ht] at hV;have HV:=Za hV;have HT:=Za ht;have HI:=Za hI;have hkb:(b1.k != 2)=false:=by simp [hk2]
 have hK1:=Zkc hb hs h1 hks w br_;rw [show ((1:Nat):Int)=1 from rfl] at hK1;have HK:=Za hK1;clear hK1;have HC:=Za hc;obtain ⟨_,hin⟩:=ZaJ _ _ _ _ hks (by omega);obtain ⟨_,hr1,hr2⟩:=hin r (List.mem_cons_self ..);have HSL:=Za (ZaL (l:=b) (r:=r) hr2);have hpos:0<(sub b r).length:=by rw [HSL.out];omega
 have hle4:(sub b r).length≤4194304:=by rw [HSL.out];omega
 have HEQ:=Za (fun (W:World) (aa:Addr) (cx:Nat) (hh:Ro W aa cx (sub b r)) (hW:Below w.heap.size w W)=>ZlC W (some aa) (some ac) cx cc (sub b r) c hh.s (HC.out.s.below hW) hle4);obtain ⟨L,hL⟩:∃L,(sub b r).length=L:=⟨_,rfl⟩;rw [hL] at hpos HEQ;have hLI:(0:Int)<(L:Int):=by omega
 have HLL:=Za hL;rw [ht] at HEQ;clear hV ht hI hn h0 h1 hs hb hc hz hk2 hks hin hr1 hr2 hle4 hk hL;go_enter Try.func168,Try.ntmps168
 go_wp2_with (
  go_at_call 114;with_reducible refine HK.out.mono ?_
  rintro en w2 ⟨v,rfl,hkm,hb2⟩;have HKM:=Za hkm;obtain ⟨adk,ck,rfl,habk,_,hx⟩:=hkm.at_ (by simp);obtain ⟨ar,cr,qr,rr⟩:=hx 0 (sub b r) rfl (by rw [HLL.out];exact hpos);rw [show adk.add 0=adk by simp [Addr.add],HLL.out] at qr;have HRR:=Za (HEQ.out w2 ar cr rr hb2);have HB2:=Za hb2;obtain ⟨nk,hnk⟩:∃nk,(List.map (sub b) (r::sp)).length=nk:=⟨_,rfl⟩;rw [hnk] at HKM;rw [hnk];have hnkp:(0:Int)<(nk:Int):=by rw [←hnk];simp <;> omega
  clear hkm hx hnk rr hb2)
 go_wp2_with (
  go_at_call 184;with_reducible refine HRR.out.mono ?_
  rintro en w3 ⟨rfl,hb3⟩;have HB3:=Za hb3
  clear hb3)
 go_ret2;rw [HV.out];exact ⟨_,rfl,fun _=>⟨_,HI.out,HKM.out.below HB3.out⟩,HB2.out.trans (HB3.out.mono HB2.out.size)⟩
end Go.Proofs.Ytdpokdcendgfeaa
