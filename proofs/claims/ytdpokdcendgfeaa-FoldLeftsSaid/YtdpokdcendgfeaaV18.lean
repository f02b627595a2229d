/- Several texts in one: The reference's optimiser: sum at REq, and sum whole. The reference's optimiser: what expr tells, and two boxes in a world. Conditions: those of each. -/
import Derived.Test.YtdpokdcendgfeaaV17
set_option linter.unusedSimpArgs false
set_option linter.unusedVariables false
set_option maxHeartbeats 80000000
set_option maxRecDepth 100000
namespace Go.Proofs.Ytdpokdcendgfeaa
open Go.RowKit
section
attribute [local go_sem] par Zan
def Zlt (gb:Nat) (rv iv lv bv sv:Value) (rows out:List Ac):Nat→Value→World→Prop
 | 0,v,_=>v=rv
 | 1,v,_=>v=iv
 | 2,v,_=>v=lv
 | 3,v,_=>v=rv
 | 4,v,_=>v=bv
 | 5,v,_=>v=sv
 | 6,v,w=>∃g cc,v=.slice (some ⟨g,0,none⟩) rows.length cc∧Src w (some ⟨g,0,none⟩) rows.length (acs rows)
 | 7,v,w=>w.ownsRow gb 49 6 v out.length (acs out)
 | 8,v,_=>v=.int .i64 7
 | 9,v,w=>w.ownsRow gb 49 6 v out.length (acs out)
 | _+10,_,_=>True
theorem ZaY (gb:Nat) (rv iv lv bv sv:Value) (rows out:List Ac):StK (Zlt gb rv iv lv bv sv rows out):=fun i v w w' h hb=>by
 match i with
 | 0 | 1 | 2 | 3 | 4 | 5 | 8=>exact h
 | 6 =>
  obtain ⟨g,cc,e,hs⟩:=h;exact ⟨g,cc,e,hs.below hb⟩
 | 7 | 9=>exact Zq h hb lr_
 | _+10=>trivial
theorem Zkd (w:World) (ad:Addr) (c ge:Nat) (l:List Ac) (i:Nat) (h:Rs w ad c ge l) (hi:i<l.length) (he:i<endL l i∧endL l i≤l.length) (hl:l.length≤131072) {gb:Nat} {u0 u1:Value} (W:World) (hb:InBox w gb u0 u1 W) :
 Calls Try.prog 91 #[rsv ad l.length c ge,.int .i64 (i:Int)] W fun en w'=>en=.returned (.slice (some (ad.add (i*6))) (endL l i - i) (c - i))∧Below W.heap.size W w' :=
 Zez W ad c ge l i (h.below hb.1) hi he hl
theorem Zjo (w:World) (ad:Addr) (c ge:Nat) (l:List Ac) (i:Nat) (oi:Option Addr) (ci:Nat) (r:List Ac) (h:Rs w ad c ge l) (hi:i<l.length) (he:i<endL l i∧endL l i≤l.length) (hl:l.length≤131072) (hs:ZE l) (hrl:r.length≤131076) {gb:Nat} {u0 u1:Value} (W:World) (hb:InBox w gb u0 u1 W) (hr:Src W oi r.length (acs r)) :
 Calls Try.prog 92 #[rsv ad l.length c ge,.int .i64 (i:Int),.slice oi r.length ci] W fun en w'=>∃u,en=.returned u∧w'.ownsRow w.heap.size 49 6 u (ZH l i r).length (acs (ZH l i r))∧Below W.heap.size W w' :=
 (ZdM W ad c ge l i oi _ ci r (h.below hb.1) hi he hl hs rfl hr hrl).mono fun en w' h1=>by
  obtain ⟨u,e1,e2,e3⟩:=h1;exact ⟨u,e1,Zr e2 hb.1.size,e3⟩
theorem ZmE (w:World) (ad:Addr) (c ge:Nat) (l:List Ac) (i a b:Nat) (h:Rs w ad c ge l) (hi:i<l.length) (he:i<endL l i∧endL l i≤l.length) (ha:a<l.length) (hae:a<endL l a∧endL l a≤l.length) (hb:b<l.length) (hbe:b<endL l b∧endL l b≤l.length) (hl:l.length≤131072) (hs:ZE l) :
 Calls Try.prog 132 #[rsv ad l.length c ge,.int .i64 (i:Int),.int .i64 (a:Int),.int .i64 (b:Int)] w fun en w'=>Zbo w w' en (ZdX l i a b):=by
 have HRS:=Za h;obtain ⟨K,hk⟩:∃K,(rowL l i).k=K:=⟨_,rfl⟩;have hq0:=fun (W:World) (h8:Below w.heap.size w W)=>(Zx (h.below h8) hi).1.1
 have HQA:=Za (fun (W:World) (h8:Below w.heap.size w W)=>(Zx (h.below h8) ha).1);have HQB:=Za (fun (W:World) (h8:Below w.heap.size w W)=>(Zx (h.below h8) hb).1);have hc:=h.r.n;have hgl:=h.e.lt;obtain ⟨V,hV⟩:∃V,ZdX l i a b=V:=⟨_,rfl⟩;have HV:=Za hV;rw [hV];have hvu:=hV;unfold ZdX at hvu;obtain ⟨ia0,hia0⟩:∃t,isW l a 19 0=t:=⟨_,rfl⟩;obtain ⟨ia1,hia1⟩:∃t,isW l a 19 1=t:=⟨_,rfl⟩;obtain ⟨ib0,hib0⟩:∃t,isW l b 19 0=t:=⟨_,rfl⟩;obtain ⟨ib1,hib1⟩:∃t,isW l b 19 1=t:=⟨_,rfl⟩;obtain ⟨ta,hta⟩:∃t,Zap l a (endL l a)=t:=⟨_,rfl⟩;obtain ⟨tb,htb⟩:∃t,Zap l b (endL l b)=t:=⟨_,rfl⟩;rw [hia0,hia1,hib0,hib1,hta,htb,hk] at hvu;rw [hk] at hq0;have HQ0:=Za hq0;clear hk hq0;have HVU:=Za hvu;have HIa0:=Za (ZgJ w ad c ge l a 19 0 h ha hl hia0 (gb:=w.heap.size) (u0:=.slice (some ad) l.length c) (u1:=.slice (some ⟨ge,0,none⟩) l.length l.length));have HIa1:=Za (ZgJ w ad c ge l a 19 1 h ha hl hia1 (gb:=w.heap.size) (u0:=.slice (some ad) l.length c) (u1:=.slice (some ⟨ge,0,none⟩) l.length l.length));have HIb0:=Za (ZgJ w ad c ge l b 19 0 h hb hl hib0 (gb:=w.heap.size) (u0:=.slice (some ad) l.length c) (u1:=.slice (some ⟨ge,0,none⟩) l.length l.length));have HIb1:=Za (ZgJ w ad c ge l b 19 1 h hb hl hib1 (gb:=w.heap.size) (u0:=.slice (some ad) l.length c) (u1:=.slice (some ⟨ge,0,none⟩) l.length l.length));have HTa:=Za (ZeX w ad c ge l a h ha hae hl hta (gb:=w.heap.size) (u0:=.slice (some ad) l.length c) (u1:=.slice (some ⟨ge,0,none⟩) l.length l.length));have HTb:=Za (ZeX w ad c ge l b h hb hbe hl htb (gb:=w.heap.size) (u0:=.slice (some ad) l.length c) (u1:=.slice (some ⟨ge,0,none⟩) l.length l.length));have HAa:=Za (Zke w ad c ge l a h ha hae hl (gb:=w.heap.size) (u0:=.slice (some ad) l.length c) (u1:=.slice (some ⟨ge,0,none⟩) l.length l.length));have HAb:=Za (Zke w ad c ge l b h hb hbe hl (gb:=w.heap.size) (u0:=.slice (some ad) l.length c) (u1:=.slice (some ⟨ge,0,none⟩) l.length l.length));have HOa:=Za (Zff w ad c ge l i a h hi he ha hae hl hs (gb:=w.heap.size) (u0:=.slice (some ad) l.length c) (u1:=.slice (some ⟨ge,0,none⟩) l.length l.length));have HOb:=Za (Zff w ad c ge l i b h hi he hb hbe hl hs (gb:=w.heap.size) (u0:=.slice (some ad) l.length c) (u1:=.slice (some ⟨ge,0,none⟩) l.length l.length));have HKa:=Za (Zkd w ad c ge l a h ha hae hl (gb:=w.heap.size) (u0:=.slice (some ad) l.length c) (u1:=.slice (some ⟨ge,0,none⟩) l.length l.length));have HSa:=Za (fun (W:World) (h8:InBox w w.heap.size (.slice (some ad) l.length c) (.slice (some ⟨ge,0,none⟩) l.length l.length) W)=>Zbe (r:=(a,endL l a)) ((h.below h8.1).r.s) (Nat.le_of_lt hae.1) hae.2);have HLa:=Za (Zak hae);have HPa:=Za (show 0<endL l a - a∧1+(endL l a - a)≤400000 by omega);have HRa:=Za (fun (oi:Option Addr) (ci:Nat) (W:World) (h8:InBox w w.heap.size (.slice (some ad) l.length c) (.slice (some ⟨ge,0,none⟩) l.length l.length) W)=>Zjo w ad c ge l i oi ci (⟨29,0,0,0,0,1⟩::Ze l a) h hi he hl hs (by rw [List.length_cons,Zak hae];omega) W h8);have HKb:=Za (Zkd w ad c ge l b h hb hbe hl (gb:=w.heap.size) (u0:=.slice (some ad) l.length c) (u1:=.slice (some ⟨ge,0,none⟩) l.length l.length));have HSb:=Za (fun (W:World) (h8:InBox w w.heap.size (.slice (some ad) l.length c) (.slice (some ⟨ge,0,none⟩) l.length l.length) W)=>Zbe (r:=(b,endL l b)) ((h.below h8.1).r.s) (Nat.le_of_lt hbe.1) hbe.2);have HLb:=Za (Zak hbe);have HPb:=Za (show 0<endL l b - b∧1+(endL l b - b)≤400000 by omega);have HRb:=Za (fun (oi:Option Addr) (ci:Nat) (W:World) (h8:InBox w w.heap.size (.slice (some ad) l.length c) (.slice (some ⟨ge,0,none⟩) l.length l.length) W)=>Zjo w ad c ge l i oi ci (⟨29,0,0,0,0,1⟩::Ze l b) h hi he hl hs (by rw [List.length_cons,Zak hbe];omega) W h8);have HZ:=Za (fun (oi:Option Addr) (W:World) (h8:InBox w w.heap.size (.slice (some ad) l.length c) (.slice (some ⟨ge,0,none⟩) l.length l.length) W) (h9:Src W oi 1 (acs [numRw 0]))=>Zjp w ad c ge l i oi 1 1 [numRw 0] h hi he hl hs rfl (by simp) W h8 h9);clear hV hvu hia0 hia1 hib0 hib1 hta htb;obtain ⟨N,hN⟩:∃n,l.length=n:=⟨_,rfl⟩;have HB:=Za ((Below.refl w.heap.size w).alloc lr_ (.cells #[.slice (some ad) N c,.slice (some ⟨ge,0,none⟩) N N] 97));have HX:=Za (Blk.new w 97 #[.slice (some ad) N c,.slice (some ⟨ge,0,none⟩) N N]);unfold rsv at *;rw [hN] at hc hi ha hb HIa0 HIa1 HIb0 HIb1 HTa HTb HAa HAb HOa HOb HZ HKa HKb HSa HSb HRa HRb;rw [hN];have h1:(0:Int)≤(i:Int):=by omega
 have h2:(i:Int)<(N:Int):=by omega
 have h3:(0:Int)≤(a:Int):=by omega
 have h4:(a:Int)<(N:Int):=by omega
 have h5:(0:Int)≤(b:Int):=by omega
 have h6:(b:Int)<(N:Int):=by omega
 clear h hN hs;go_enter Try.func132,Try.ntmps132;go_upto_region 1 with fail;generalize w.alloc (.cells #[.slice (some ad) N c,.slice (some ⟨ge,0,none⟩) N N] 97)=W1 at HB HX ⊢;obtain ⟨gb,hgb⟩:∃g,w.heap.size=g:=⟨_,rfl⟩;have HIN:=Za (show InBox w w.heap.size (.slice (some ad) N c) (.slice (some ⟨ge,0,none⟩) N N) W1 from ⟨HB.out,HX.out.cell 0,HX.out.cell 1,HX.out.lt⟩);rw [hgb] at HX HIN HIa0 HIa1 HIb0 HIb1 HTa HTb HAa HAb HOa HOb HZ HKa HKb HSa HSb HRa HRb;simp only [hgb];have HG:=Za hgb;clear hgb;have q0:=HQ0.out W1 HIN.out.b;have x0:=HIN.out.x0;have x1:=HIN.out.x1
 by_cases n32:K=32
 · subst n32
   cases ia0 with
   | true =>
    go_upto_region 4 with (first | (go_at_call 87;with_reducible refine (HIa0.out _ HIN.out).mono ?_;rintro en w5 ⟨rfl,hI5⟩;have HI5:=Za hI5;have x50:=hI5.x0;have x51:=hI5.x1;clear hI5));go_region_with (first | (go_at_call 91;with_reducible refine (HAb.out _ HI5.out.drew).mono ?_;rintro en w8 ⟨rfl,hI8⟩;have HI8:=Za hI8;have x80:=hI8.x0;have x81:=hI8.x1;clear hI8) | (go_at_call 92;with_reducible refine (HOb.out _ HI8.out).mono ?_;rintro en w9 ⟨u9,rfl,ho9,hb9⟩;have HO9:=Za ho9;have HB9:=Za hb9;clear ho9 hb9))
    all_goals (go_wp2_with fail)
    all_goals go_ret2
    all_goals (have e:=HVU.out;simp at e;rw [←e];exact ⟨_,rfl,by rw [HG.out];exact HO9.out,by rw [HG.out];exact HB9.out⟩)
   | false =>
    go_upto_region 5 with (first | (go_at_call 87;with_reducible refine (HIa0.out _ HIN.out).mono ?_;rintro en w5 ⟨rfl,hI5⟩;have HI5:=Za hI5;have x50:=hI5.x0;have x51:=hI5.x1;clear hI5))
    cases ib0 with
    | true =>
     go_upto_region 7 with (first | (go_at_call 87;with_reducible refine (HIb0.out _ HI5.out).mono ?_;rintro en w6 ⟨rfl,hI6⟩;have HI6:=Za hI6;have x60:=hI6.x0;have x61:=hI6.x1;clear hI6));go_region_with (first | (go_at_call 91;with_reducible refine (HAa.out _ HI6.out.drew).mono ?_;rintro en w8 ⟨rfl,hI8⟩;have HI8:=Za hI8;have x80:=hI8.x0;have x81:=hI8.x1;clear hI8) | (go_at_call 92;with_reducible refine (HOa.out _ HI8.out).mono ?_;rintro en w9 ⟨u9,rfl,ho9,hb9⟩;have HO9:=Za ho9;have HB9:=Za hb9;clear ho9 hb9))
     all_goals (go_wp2_with fail)
     all_goals go_ret2
     all_goals (have e:=HVU.out;simp at e;rw [←e];exact ⟨_,rfl,by rw [HG.out];exact HO9.out,by rw [HG.out];exact HB9.out⟩)
    | false =>
     go_wp2_with (first | (go_at_call 87;with_reducible refine (HIb0.out _ HI5.out).mono ?_;rintro en w6 ⟨rfl,hI6⟩;have HI6:=Za hI6;have x60:=hI6.x0;have x61:=hI6.x1;clear hI6));go_ret2;have e:=HVU.out;simp at e;rw [←e];exact ⟨rfl,HI6.out.b⟩
 by_cases n33:K=33
 · subst n33
   cases ib0 with
   | true =>
    go_upto_region 7 with (first | (go_at_call 87;with_reducible refine (HIb0.out _ HIN.out).mono ?_;rintro en w6 ⟨rfl,hI6⟩;have HI6:=Za hI6;have x60:=hI6.x0;have x61:=hI6.x1;clear hI6));go_region_with (first | (go_at_call 91;with_reducible refine (HAa.out _ HI6.out.drew).mono ?_;rintro en w8 ⟨rfl,hI8⟩;have HI8:=Za hI8;have x80:=hI8.x0;have x81:=hI8.x1;clear hI8) | (go_at_call 92;with_reducible refine (HOa.out _ HI8.out).mono ?_;rintro en w9 ⟨u9,rfl,ho9,hb9⟩;have HO9:=Za ho9;have HB9:=Za hb9;clear ho9 hb9))
    all_goals (go_wp2_with fail)
    all_goals go_ret2
    all_goals (have e:=HVU.out;simp at e;rw [←e];exact ⟨_,rfl,by rw [HG.out];exact HO9.out,by rw [HG.out];exact HB9.out⟩)
   | false =>
    go_wp2_with (first | (go_at_call 87;with_reducible refine (HIb0.out _ HIN.out).mono ?_;rintro en w6 ⟨rfl,hI6⟩;have HI6:=Za hI6;have x60:=hI6.x0;have x61:=hI6.x1;clear hI6));go_ret2;have e:=HVU.out;simp at e;rw [←e];exact ⟨rfl,HI6.out.b⟩
 by_cases n30:K=30
 · subst n30
   cases ia1 with
   | true =>
    go_upto_region 4 with (first | (go_at_call 87;with_reducible refine (HIa1.out _ HIN.out).mono ?_;rintro en w5 ⟨rfl,hI5⟩;have HI5:=Za hI5;have x50:=hI5.x0;have x51:=hI5.x1;clear hI5));go_region_with (first | (go_at_call 91;with_reducible refine (HAb.out _ HI5.out.drew).mono ?_;rintro en w8 ⟨rfl,hI8⟩;have HI8:=Za hI8;have x80:=hI8.x0;have x81:=hI8.x1;clear hI8) | (go_at_call 92;with_reducible refine (HOb.out _ HI8.out).mono ?_;rintro en w9 ⟨u9,rfl,ho9,hb9⟩;have HO9:=Za ho9;have HB9:=Za hb9;clear ho9 hb9))
    all_goals (go_wp2_with fail)
    all_goals go_ret2
    all_goals (have e:=HVU.out;simp at e;rw [←e];exact ⟨_,rfl,by rw [HG.out];exact HO9.out,by rw [HG.out];exact HB9.out⟩)
   | false =>
    go_upto_region 5 with (first | (go_at_call 87;with_reducible refine (HIa1.out _ HIN.out).mono ?_;rintro en w5 ⟨rfl,hI5⟩;have HI5:=Za hI5;have x50:=hI5.x0;have x51:=hI5.x1;clear hI5))
    cases ib1 with
    | true =>
     go_upto_region 7 with (first | (go_at_call 87;with_reducible refine (HIb1.out _ HI5.out).mono ?_;rintro en w6 ⟨rfl,hI6⟩;have HI6:=Za hI6;have x60:=hI6.x0;have x61:=hI6.x1;clear hI6));go_region_with (first | (go_at_call 91;with_reducible refine (HAa.out _ HI6.out.drew).mono ?_;rintro en w8 ⟨rfl,hI8⟩;have HI8:=Za hI8;have x80:=hI8.x0;have x81:=hI8.x1;clear hI8) | (go_at_call 92;with_reducible refine (HOa.out _ HI8.out).mono ?_;rintro en w9 ⟨u9,rfl,ho9,hb9⟩;have HO9:=Za ho9;have HB9:=Za hb9;clear ho9 hb9))
     all_goals (go_wp2_with fail)
     all_goals go_ret2
     all_goals (have e:=HVU.out;simp at e;rw [←e];exact ⟨_,rfl,by rw [HG.out];exact HO9.out,by rw [HG.out];exact HB9.out⟩)
    | false =>
     go_upto_region 8 with (first | (go_at_call 87;with_reducible refine (HIb1.out _ HI5.out).mono ?_;rintro en w6 ⟨rfl,hI6⟩;have HI6:=Za hI6;have x60:=hI6.x0;have x61:=hI6.x1;clear hI6))
     cases ia0 with
     | true =>
      cases tb with
      | true =>
       go_upto_region 9 with (first | (go_at_call 87;with_reducible refine (HIa0.out _ HI6.out).mono ?_;rintro en w7 ⟨rfl,hI7⟩;have HI7:=Za hI7;have x70:=hI7.x0;have x71:=hI7.x1;clear hI7) | (go_at_call 88;with_reducible refine (HTb.out _ HI7.out).mono ?_;rintro en w10 ⟨rfl,hI10⟩;have HI10:=Za hI10;have x100:=hI10.x0;have x101:=hI10.x1;clear hI10));have HN9:=Za (fun (W:World) (h8:InBox w gb _ _ W)=>HZ.out (some ⟨W.heap.size,0,none⟩) (W.alloc (.cells #[.int .i64 19,.int .i64 0,.int .i64 0,.int .i64 0,.int .i64 0,.int .i64 0] 49)) (h8.below (br_.alloc lr_ _)) (Zax (cs:=acs [numRw 0]) _ (Blk.new W 49 #[.int .i64 19,.int .i64 0,.int .i64 0,.int .i64 0,.int .i64 0,.int .i64 0])));go_wp2_with (go_at_call 92;with_reducible refine (HN9.out _ HI10.out).mono ?_;rintro en w9 ⟨u9,rfl,ho9,hb9⟩;have HO9:=Za ho9;have HB9:=Za hb9;clear ho9 hb9);go_ret2;have e:=HVU.out;simp at e;rw [←e];exact ⟨_,rfl,by rw [HG.out];exact HO9.out,by rw [HG.out];exact HB9.out⟩
      | false =>
       cases ib0 with
       | true =>
        cases ta with
        | true =>
         go_upto_region 9 with (first | (go_at_call 87;with_reducible refine (HIa0.out _ HI6.out).mono ?_;rintro en w7 ⟨rfl,hI7⟩;have HI7:=Za hI7;have x70:=hI7.x0;have x71:=hI7.x1;clear hI7) | (go_at_call 88;with_reducible refine (HTb.out _ HI7.out).mono ?_;rintro en w10 ⟨rfl,hI10⟩;have HI10:=Za hI10;have x100:=hI10.x0;have x101:=hI10.x1;clear hI10) | (go_at_call 87;with_reducible refine (HIb0.out _ HI10.out).mono ?_;rintro en w11 ⟨rfl,hI11⟩;have HI11:=Za hI11;have x110:=hI11.x0;have x111:=hI11.x1;clear hI11) | (go_at_call 88;with_reducible refine (HTa.out _ HI11.out).mono ?_;rintro en w12 ⟨rfl,hI12⟩;have HI12:=Za hI12;have x120:=hI12.x0;have x121:=hI12.x1;clear hI12));have HN9:=Za (fun (W:World) (h8:InBox w gb _ _ W)=>HZ.out (some ⟨W.heap.size,0,none⟩) (W.alloc (.cells #[.int .i64 19,.int .i64 0,.int .i64 0,.int .i64 0,.int .i64 0,.int .i64 0] 49)) (h8.below (br_.alloc lr_ _)) (Zax (cs:=acs [numRw 0]) _ (Blk.new W 49 #[.int .i64 19,.int .i64 0,.int .i64 0,.int .i64 0,.int .i64 0,.int .i64 0])));go_wp2_with (go_at_call 92;with_reducible refine (HN9.out _ HI12.out).mono ?_;rintro en w9 ⟨u9,rfl,ho9,hb9⟩;have HO9:=Za ho9;have HB9:=Za hb9;clear ho9 hb9);go_ret2;have e:=HVU.out;simp at e;rw [←e];exact ⟨_,rfl,by rw [HG.out];exact HO9.out,by rw [HG.out];exact HB9.out⟩
        | false =>
         go_wp2_with (first | (go_at_call 87;with_reducible refine (HIa0.out _ HI6.out).mono ?_;rintro en w7 ⟨rfl,hI7⟩;have HI7:=Za hI7;have x70:=hI7.x0;have x71:=hI7.x1;clear hI7) | (go_at_call 88;with_reducible refine (HTb.out _ HI7.out).mono ?_;rintro en w10 ⟨rfl,hI10⟩;have HI10:=Za hI10;have x100:=hI10.x0;have x101:=hI10.x1;clear hI10) | (go_at_call 87;with_reducible refine (HIb0.out _ HI10.out).mono ?_;rintro en w11 ⟨rfl,hI11⟩;have HI11:=Za hI11;have x110:=hI11.x0;have x111:=hI11.x1;clear hI11) | (go_at_call 88;with_reducible refine (HTa.out _ HI11.out).mono ?_;rintro en w12 ⟨rfl,hI12⟩;have HI12:=Za hI12;have x120:=hI12.x0;have x121:=hI12.x1;clear hI12));go_ret2;have e:=HVU.out;simp at e;rw [←e];exact ⟨rfl,HI12.out.b⟩
       | false =>
        go_wp2_with (first | (go_at_call 87;with_reducible refine (HIa0.out _ HI6.out).mono ?_;rintro en w7 ⟨rfl,hI7⟩;have HI7:=Za hI7;have x70:=hI7.x0;have x71:=hI7.x1;clear hI7) | (go_at_call 88;with_reducible refine (HTb.out _ HI7.out).mono ?_;rintro en w10 ⟨rfl,hI10⟩;have HI10:=Za hI10;have x100:=hI10.x0;have x101:=hI10.x1;clear hI10) | (go_at_call 87;with_reducible refine (HIb0.out _ HI10.out).mono ?_;rintro en w11 ⟨rfl,hI11⟩;have HI11:=Za hI11;have x110:=hI11.x0;have x111:=hI11.x1;clear hI11));go_ret2;have e:=HVU.out;simp at e;rw [←e];exact ⟨rfl,HI11.out.b⟩
     | false =>
      cases ib0 with
      | true =>
       cases ta with
       | true =>
        go_upto_region 9 with (first | (go_at_call 87;with_reducible refine (HIa0.out _ HI6.out).mono ?_;rintro en w7 ⟨rfl,hI7⟩;have HI7:=Za hI7;have x70:=hI7.x0;have x71:=hI7.x1;clear hI7) | (go_at_call 88;with_reducible refine (HTb.out _ HI7.out).mono ?_;rintro en w10 ⟨rfl,hI10⟩;have HI10:=Za hI10;have x100:=hI10.x0;have x101:=hI10.x1;clear hI10) | (go_at_call 87;with_reducible refine (HIb0.out _ HI7.out).mono ?_;rintro en w11 ⟨rfl,hI11⟩;have HI11:=Za hI11;have x110:=hI11.x0;have x111:=hI11.x1;clear hI11) | (go_at_call 88;with_reducible refine (HTa.out _ HI11.out).mono ?_;rintro en w12 ⟨rfl,hI12⟩;have HI12:=Za hI12;have x120:=hI12.x0;have x121:=hI12.x1;clear hI12));have HN9:=Za (fun (W:World) (h8:InBox w gb _ _ W)=>HZ.out (some ⟨W.heap.size,0,none⟩) (W.alloc (.cells #[.int .i64 19,.int .i64 0,.int .i64 0,.int .i64 0,.int .i64 0,.int .i64 0] 49)) (h8.below (br_.alloc lr_ _)) (Zax (cs:=acs [numRw 0]) _ (Blk.new W 49 #[.int .i64 19,.int .i64 0,.int .i64 0,.int .i64 0,.int .i64 0,.int .i64 0])));go_wp2_with (go_at_call 92;with_reducible refine (HN9.out _ HI12.out).mono ?_;rintro en w9 ⟨u9,rfl,ho9,hb9⟩;have HO9:=Za ho9;have HB9:=Za hb9;clear ho9 hb9);go_ret2;have e:=HVU.out;simp at e;rw [←e];exact ⟨_,rfl,by rw [HG.out];exact HO9.out,by rw [HG.out];exact HB9.out⟩
       | false =>
        go_wp2_with (first | (go_at_call 87;with_reducible refine (HIa0.out _ HI6.out).mono ?_;rintro en w7 ⟨rfl,hI7⟩;have HI7:=Za hI7;have x70:=hI7.x0;have x71:=hI7.x1;clear hI7) | (go_at_call 88;with_reducible refine (HTb.out _ HI7.out).mono ?_;rintro en w10 ⟨rfl,hI10⟩;have HI10:=Za hI10;have x100:=hI10.x0;have x101:=hI10.x1;clear hI10) | (go_at_call 87;with_reducible refine (HIb0.out _ HI7.out).mono ?_;rintro en w11 ⟨rfl,hI11⟩;have HI11:=Za hI11;have x110:=hI11.x0;have x111:=hI11.x1;clear hI11) | (go_at_call 88;with_reducible refine (HTa.out _ HI11.out).mono ?_;rintro en w12 ⟨rfl,hI12⟩;have HI12:=Za hI12;have x120:=hI12.x0;have x121:=hI12.x1;clear hI12));go_ret2;have e:=HVU.out;simp at e;rw [←e];exact ⟨rfl,HI12.out.b⟩
      | false =>
       go_wp2_with (first | (go_at_call 87;with_reducible refine (HIa0.out _ HI6.out).mono ?_;rintro en w7 ⟨rfl,hI7⟩;have HI7:=Za hI7;have x70:=hI7.x0;have x71:=hI7.x1;clear hI7) | (go_at_call 88;with_reducible refine (HTb.out _ HI7.out).mono ?_;rintro en w10 ⟨rfl,hI10⟩;have HI10:=Za hI10;have x100:=hI10.x0;have x101:=hI10.x1;clear hI10) | (go_at_call 87;with_reducible refine (HIb0.out _ HI7.out).mono ?_;rintro en w11 ⟨rfl,hI11⟩;have HI11:=Za hI11;have x110:=hI11.x0;have x111:=hI11.x1;clear hI11));go_ret2;have e:=HVU.out;simp at e;rw [←e];exact ⟨rfl,HI11.out.b⟩
 by_cases n31:K=31
 · subst n31
   cases ib1 with
   | true =>
    go_upto_region 7 with (first | (go_at_call 87;with_reducible refine (HIb1.out _ HIN.out).mono ?_;rintro en w6 ⟨rfl,hI6⟩;have HI6:=Za hI6;have x60:=hI6.x0;have x61:=hI6.x1;clear hI6));go_region_with (first | (go_at_call 91;with_reducible refine (HAa.out _ HI6.out.drew).mono ?_;rintro en w8 ⟨rfl,hI8⟩;have HI8:=Za hI8;have x80:=hI8.x0;have x81:=hI8.x1;clear hI8) | (go_at_call 92;with_reducible refine (HOa.out _ HI8.out).mono ?_;rintro en w9 ⟨u9,rfl,ho9,hb9⟩;have HO9:=Za ho9;have HB9:=Za hb9;clear ho9 hb9))
    all_goals (go_wp2_with fail)
    all_goals go_ret2
    all_goals (have e:=HVU.out;simp at e;rw [←e];exact ⟨_,rfl,by rw [HG.out];exact HO9.out,by rw [HG.out];exact HB9.out⟩)
   | false =>
    go_wp2_with (first | (go_at_call 87;with_reducible refine (HIb1.out _ HIN.out).mono ?_;rintro en w6 ⟨rfl,hI6⟩;have HI6:=Za hI6;have x60:=hI6.x0;have x61:=hI6.x1;clear hI6));go_ret2;have e:=HVU.out;simp at e;rw [←e];exact ⟨rfl,HI6.out.b⟩
 by_cases n34:K=34
 · subst n34;obtain ⟨qa0,qa1,-,-,-,-⟩:=HQA.out W1 HIN.out.b;obtain ⟨qb0,qb1,-,-,-,-⟩:=HQB.out W1 HIN.out.b
   by_cases hka:(rowL l a).k=20
   · have HKA:=Za hka;rw [hka] at qa0;clear hka
     by_cases hv:(rowL l a).a=1
     · have HVA:=Za hv;rw [hv] at qa1;clear hv;go_upto_region 17 with fail;go_region_with (first | (go_at_call 91;with_reducible refine (HAb.out _ HIN.out.drew).mono ?_;rintro en w8 ⟨rfl,hI8⟩;have HI8:=Za hI8;have x80:=hI8.x0;have x81:=hI8.x1;clear hI8) | (go_at_call 92;with_reducible refine (HOb.out _ HI8.out).mono ?_;rintro en w9 ⟨u9,rfl,ho9,hb9⟩;have HO9:=Za ho9;have HB9:=Za hb9;clear ho9 hb9))
       all_goals (go_wp2_with fail)
       all_goals go_ret2
       all_goals (have e:=HVU.out;simp [HKA.out,HVA.out] at e;rw [←e];exact ⟨_,rfl,by rw [HG.out];exact HO9.out,by rw [HG.out];exact HB9.out⟩)
     · have HVN:=Za hv;obtain ⟨VA,hVA⟩:∃v,(rowL l a).a=v:=⟨_,rfl⟩;rw [hVA] at qa1 hv;clear hVA;go_upto_region 19 with fail;have HI2:=Za (HIN.out.below ((Below.refl _ W1).alloc lr_ (.cells #[.int .i64 29,.int .i64 0,.int .i64 0,.int .i64 0,.int .i64 0,.int .i64 1] 49)));have HB2:=Za (Blk.new W1 49 #[.int .i64 29,.int .i64 0,.int .i64 0,.int .i64 0,.int .i64 0,.int .i64 1]);generalize W1.alloc (.cells #[.int .i64 29,.int .i64 0,.int .i64 0,.int .i64 0,.int .i64 0,.int .i64 1] 49)=W2 at HI2 HB2 ⊢;obtain ⟨g2,hg2⟩:∃g,W1.heap.size=g:=⟨_,rfl⟩;rw [hg2] at HB2;simp only [hg2];clear hg2;refine Zl (JG W2 (Zlt gb (.agg #[.slice (some ad) N c,.slice (some ⟨ge,0,none⟩) N N]) (.int .i64 (i:Int)) (.slice (some ⟨g2,0,none⟩) 1 1) (.int .i64 (b:Int)) (.slice (some (ad.add (b*6))) (endL l b - b) (c - b)) (⟨29,0,0,0,0,1⟩::Ze l b) (ZH l i (⟨29,0,0,0,0,1⟩::Ze l b)))) [[],[],[],[],[],[3,4],[2,3,4,5],[0,1,2,3,4,5,6],[0,1,2,3,4,5,6,7],[0,1,2,3,4,5,6,7,8]] (by kernel_rfl) (by kernel_rfl) (fun vs=>JG.start vs (fun i v w hi=>by match i,hi with | _+10,_=>trivial)) (fun vs=>?_);refine Zb rfl (fun S w9 hS hA hD hJ R hR=>?_) (fun K hK=>?_)
       · have z0:=(HI2.out.below hJ.b).x0;have z1:=(HI2.out.below hJ.b).x1;go_simp;exact hR _ _ (hJ.step (ZaY _ _ _ _ _ _ _ _) br_ rfl)
       go_simp;refine hK _ ?_;clear hK K;refine Zb rfl (fun S w9 hS hA hD hJ R hR=>?_) (fun K hK=>?_)
       · go_simp;exact hR _ _ (hJ.step (ZaY _ _ _ _ _ _ _ _) br_ rfl)
       go_simp;refine hK _ ?_;clear hK K;refine Zb rfl (fun S w9 hS hA hD hJ R hR=>?_) (fun K hK=>?_)
       · go_simp;exact hR _ _ (hJ.step (ZaY _ _ _ _ _ _ _ _) br_ rfl)
       go_simp;refine hK _ ?_;clear hK K;refine Zb rfl (fun S w9 hS hA hD hJ R hR=>?_) (fun K hK=>?_)
       · have z0:=(HI2.out.below hJ.b).x0;have z1:=(HI2.out.below hJ.b).x1;go_simp;exact hR _ _ (hJ.step (ZaY _ _ _ _ _ _ _ _) br_ rfl)
       go_simp;refine hK _ ?_;clear hK K;refine Zb rfl (fun S w9 hS hA hD hJ R hR=>?_) (fun K hK=>?_)
       · go_simp;exact hR _ _ (hJ.step (ZaY _ _ _ _ _ _ _ _) br_ rfl)
       go_simp;refine hK _ ?_;clear hK K;refine Zb rfl (fun S w9 hS hA hD hJ R hR=>?_) (fun K hK=>?_)
       · have k3:vs 3=_:=hJ.k 3 (hA 3 (by decide));have k4:vs 4=_:=hJ.k 4 (hA 4 (by decide));refine pc_ Zby (kc_ (HKb.out w9 (HI2.out.below hJ.b)) fun _ hb=>hR _ _ (hJ.step (ZaY _ _ _ _ _ _ _ _) hb rfl)) rfl ?_;simp [Act.eval,Act.put,k3,k4]
       go_simp;refine hK _ ?_;clear hK K;refine Zb rfl (fun S w9 hS hA hD hJ R hR=>?_) (fun K hK=>?_)
       · have k2:vs 2=_:=hJ.k 2 (hA 2 (by decide));have k5:vs 5=_:=hJ.k 5 (hA 5 (by decide));obtain ⟨cc,w8,hrun,hb8,hs8⟩:=ZgA 26 (l1:=[⟨29,0,0,0,0,1⟩]) (c:=c - b) (HB2.out.below hJ.b HB2.out.lt) rfl (HSb.out w9 (HI2.out.below hJ.b)) (HLb.out) (HPb.out.1) (HPb.out.2);have hfin:=hR _ _ (hJ.step (j:=6) (ZaY _ _ _ _ _ _ _ _) hb8 ⟨w9.heap.size,cc,by rw [List.length_cons,HLb.out,Nat.add_comm],hs8⟩);exact Zay (.tmp 147) (.tmp 150) 26 (by rfl) _ _ (by simp [Act.eval,Act.put,k2]) (by simp [Act.eval,Act.put,k5]) hrun hfin
       go_simp;refine hK _ ?_;clear hK K;refine Zb rfl (fun S w9 hS hA hD hJ R hR=>?_) (fun K hK=>?_)
       · have k0:vs 0=_:=hJ.k 0 (hA 0 (by decide));have k1:vs 1=_:=hJ.k 1 (hA 1 (by decide));obtain ⟨g6,cc6,k6,hs6⟩:=hJ.k 6 (hA 6 (by decide));refine pc_ Zbn (kd_ (HRb.out (some ⟨g6,0,none⟩) cc6 w9 (HI2.out.below hJ.b) hs6) fun u _ e2 e3=>hR _ _ (hJ.step (ZaY _ _ _ _ _ _ _ _) e3 e2)) rfl ?_;simp [Act.eval,Act.put,k0,k1,k6]
       go_simp;refine hK _ ?_;clear hK K;refine Zb rfl (fun S w9 hS hA hD hJ R hR=>?_) (fun K hK=>?_)
       · go_simp;exact hR _ _ (hJ.step (ZaY _ _ _ _ _ _ _ _) br_ rfl)
       go_simp;refine hK _ ?_;clear hK K;refine Zb rfl (fun S w9 hS hA hD hJ R hR=>?_) (fun K hK=>?_)
       · have k7:w9.ownsRow gb 49 6 (vs 7) _ (acs _):=hJ.k 7 (hA 7 (by decide));go_simp;exact hR _ _ (hJ.step (ZaY _ _ _ _ _ _ _ _) br_ k7)
       go_simp;refine hK _ ?_;clear hK K;refine Zv (fun w7 hJ=>?_);have k8:vs 8=_:=hJ.k 8 rfl;have k9:w7.ownsRow gb 49 6 (vs 9) _ (acs _):=hJ.k 9 rfl;have HJB:=Za hJ.b;have HK9:=Za k9;clear hJ k9;simp only [k8];clear k8;go_wp2_with fail;go_ret2;have e:=HVU.out;simp [HKA.out,HVN.out] at e;rw [←e];exact ⟨_,rfl,by rw [HG.out];exact HK9.out,(HI2.out.below HJB.out).b⟩
   · have HKA:=Za hka;obtain ⟨KA,hKA⟩:∃v,(rowL l a).k=v:=⟨_,rfl⟩;rw [hKA] at qa0 hka;clear hKA
     by_cases hkb:(rowL l b).k=20
     · have HKB:=Za hkb;rw [hkb] at qb0;clear hkb
       by_cases hv:(rowL l b).a=1
       · have HVA:=Za hv;rw [hv] at qb1;clear hv;go_upto_region 17 with fail;go_region_with (first | (go_at_call 91;with_reducible refine (HAa.out _ HIN.out.drew).mono ?_;rintro en w8 ⟨rfl,hI8⟩;have HI8:=Za hI8;have x80:=hI8.x0;have x81:=hI8.x1;clear hI8) | (go_at_call 92;with_reducible refine (HOa.out _ HI8.out).mono ?_;rintro en w9 ⟨u9,rfl,ho9,hb9⟩;have HO9:=Za ho9;have HB9:=Za hb9;clear ho9 hb9))
         all_goals (go_wp2_with fail)
         all_goals go_ret2
         all_goals (have e:=HVU.out;simp [HKA.out,HKB.out,HVA.out] at e;rw [←e];exact ⟨_,rfl,by rw [HG.out];exact HO9.out,by rw [HG.out];exact HB9.out⟩)
       · have HVN:=Za hv;obtain ⟨VA,hVA⟩:∃v,(rowL l b).a=v:=⟨_,rfl⟩;rw [hVA] at qb1 hv;clear hVA;go_upto_region 19 with fail;have HI2:=Za (HIN.out.below ((Below.refl _ W1).alloc lr_ (.cells #[.int .i64 29,.int .i64 0,.int .i64 0,.int .i64 0,.int .i64 0,.int .i64 1] 49)));have HB2:=Za (Blk.new W1 49 #[.int .i64 29,.int .i64 0,.int .i64 0,.int .i64 0,.int .i64 0,.int .i64 1]);generalize W1.alloc (.cells #[.int .i64 29,.int .i64 0,.int .i64 0,.int .i64 0,.int .i64 0,.int .i64 1] 49)=W2 at HI2 HB2 ⊢;obtain ⟨g2,hg2⟩:∃g,W1.heap.size=g:=⟨_,rfl⟩;rw [hg2] at HB2;simp only [hg2];clear hg2;refine Zl (JG W2 (Zlt gb (.agg #[.slice (some ad) N c,.slice (some ⟨ge,0,none⟩) N N]) (.int .i64 (i:Int)) (.slice (some ⟨g2,0,none⟩) 1 1) (.int .i64 (a:Int)) (.slice (some (ad.add (a*6))) (endL l a - a) (c - a)) (⟨29,0,0,0,0,1⟩::Ze l a) (ZH l i (⟨29,0,0,0,0,1⟩::Ze l a)))) [[],[],[],[],[],[3,4],[2,3,4,5],[0,1,2,3,4,5,6],[0,1,2,3,4,5,6,7],[0,1,2,3,4,5,6,7,8]] (by kernel_rfl) (by kernel_rfl) (fun vs=>JG.start vs (fun i v w hi=>by match i,hi with | _+10,_=>trivial)) (fun vs=>?_);refine Zb rfl (fun S w9 hS hA hD hJ R hR=>?_) (fun K hK=>?_)
         · have z0:=(HI2.out.below hJ.b).x0;have z1:=(HI2.out.below hJ.b).x1;go_simp;exact hR _ _ (hJ.step (ZaY _ _ _ _ _ _ _ _) br_ rfl)
         go_simp;refine hK _ ?_;clear hK K;refine Zb rfl (fun S w9 hS hA hD hJ R hR=>?_) (fun K hK=>?_)
         · go_simp;exact hR _ _ (hJ.step (ZaY _ _ _ _ _ _ _ _) br_ rfl)
         go_simp;refine hK _ ?_;clear hK K;refine Zb rfl (fun S w9 hS hA hD hJ R hR=>?_) (fun K hK=>?_)
         · go_simp;exact hR _ _ (hJ.step (ZaY _ _ _ _ _ _ _ _) br_ rfl)
         go_simp;refine hK _ ?_;clear hK K;refine Zb rfl (fun S w9 hS hA hD hJ R hR=>?_) (fun K hK=>?_)
         · have z0:=(HI2.out.below hJ.b).x0;have z1:=(HI2.out.below hJ.b).x1;go_simp;exact hR _ _ (hJ.step (ZaY _ _ _ _ _ _ _ _) br_ rfl)
         go_simp;refine hK _ ?_;clear hK K;refine Zb rfl (fun S w9 hS hA hD hJ R hR=>?_) (fun K hK=>?_)
         · go_simp;exact hR _ _ (hJ.step (ZaY _ _ _ _ _ _ _ _) br_ rfl)
         go_simp;refine hK _ ?_;clear hK K;refine Zb rfl (fun S w9 hS hA hD hJ R hR=>?_) (fun K hK=>?_)
         · have k3:vs 3=_:=hJ.k 3 (hA 3 (by decide));have k4:vs 4=_:=hJ.k 4 (hA 4 (by decide));refine pc_ Zby (kc_ (HKa.out w9 (HI2.out.below hJ.b)) fun _ hb=>hR _ _ (hJ.step (ZaY _ _ _ _ _ _ _ _) hb rfl)) rfl ?_;simp [Act.eval,Act.put,k3,k4]
         go_simp;refine hK _ ?_;clear hK K;refine Zb rfl (fun S w9 hS hA hD hJ R hR=>?_) (fun K hK=>?_)
         · have k2:vs 2=_:=hJ.k 2 (hA 2 (by decide));have k5:vs 5=_:=hJ.k 5 (hA 5 (by decide));obtain ⟨cc,w8,hrun,hb8,hs8⟩:=ZgA 26 (l1:=[⟨29,0,0,0,0,1⟩]) (c:=c - a) (HB2.out.below hJ.b HB2.out.lt) rfl (HSa.out w9 (HI2.out.below hJ.b)) (HLa.out) (HPa.out.1) (HPa.out.2);have hfin:=hR _ _ (hJ.step (j:=6) (ZaY _ _ _ _ _ _ _ _) hb8 ⟨w9.heap.size,cc,by rw [List.length_cons,HLa.out,Nat.add_comm],hs8⟩);exact Zay (.tmp 147) (.tmp 150) 26 (by rfl) _ _ (by simp [Act.eval,Act.put,k2]) (by simp [Act.eval,Act.put,k5]) hrun hfin
         go_simp;refine hK _ ?_;clear hK K;refine Zb rfl (fun S w9 hS hA hD hJ R hR=>?_) (fun K hK=>?_)
         · have k0:vs 0=_:=hJ.k 0 (hA 0 (by decide));have k1:vs 1=_:=hJ.k 1 (hA 1 (by decide));obtain ⟨g6,cc6,k6,hs6⟩:=hJ.k 6 (hA 6 (by decide));refine pc_ Zbn (kd_ (HRa.out (some ⟨g6,0,none⟩) cc6 w9 (HI2.out.below hJ.b) hs6) fun u _ e2 e3=>hR _ _ (hJ.step (ZaY _ _ _ _ _ _ _ _) e3 e2)) rfl ?_;simp [Act.eval,Act.put,k0,k1,k6]
         go_simp;refine hK _ ?_;clear hK K;refine Zb rfl (fun S w9 hS hA hD hJ R hR=>?_) (fun K hK=>?_)
         · go_simp;exact hR _ _ (hJ.step (ZaY _ _ _ _ _ _ _ _) br_ rfl)
         go_simp;refine hK _ ?_;clear hK K;refine Zb rfl (fun S w9 hS hA hD hJ R hR=>?_) (fun K hK=>?_)
         · have k7:w9.ownsRow gb 49 6 (vs 7) _ (acs _):=hJ.k 7 (hA 7 (by decide));go_simp;exact hR _ _ (hJ.step (ZaY _ _ _ _ _ _ _ _) br_ k7)
         go_simp;refine hK _ ?_;clear hK K;refine Zv (fun w7 hJ=>?_);have k8:vs 8=_:=hJ.k 8 rfl;have k9:w7.ownsRow gb 49 6 (vs 9) _ (acs _):=hJ.k 9 rfl;have HJB:=Za hJ.b;have HK9:=Za k9;clear hJ k9;simp only [k8];clear k8;go_wp2_with fail;go_ret2;have e:=HVU.out;simp [HKA.out,HKB.out,HVN.out] at e;rw [←e];exact ⟨_,rfl,by rw [HG.out];exact HK9.out,(HI2.out.below HJB.out).b⟩
     · have HKB:=Za hkb;obtain ⟨KB,hKB⟩:∃v,(rowL l b).k=v:=⟨_,rfl⟩;rw [hKB] at qb0 hkb;clear hKB;go_wp2_with fail
       · rename ((KA == 20)=true∨(KB == 20)=true)=>q1
         exfalso;rcases q1 with q | q
         · exact hka (by simpa using q)
         · exact hkb (by simpa using q)
       · rename ((KA == 20)=true∨(KB == 20)=true)=>q1
         exfalso;rcases q1 with q | q
         · exact hka (by simpa using q)
         · exact hkb (by simpa using q)
       go_ret2;have e:=HVU.out;simp [HKA.out,HKB.out] at e;rw [←e];exact ⟨rfl,HIN.out.b⟩
 go_wp2_with fail;go_ret2;have e:=HVU.out;simp [n32,n33,n30,n31,n34] at e;rw [←e];exact ⟨rfl,HIN.out.b⟩
end
structure InX (w:World) (gb:Nat) (u0 u1:Value) (gx:Nat) (x:Ac) (W:World):Prop where
 i:InBox w gb u0 u1 W
 y0:W.cell? ⟨gx,0,none⟩=some (.int .i64 x.k)
 y1:W.cell? ⟨gx,1,none⟩=some (.int .i64 x.a)
 y2:W.cell? ⟨gx,2,none⟩=some (.int .i64 x.b)
 y3:W.cell? ⟨gx,3,none⟩=some (.int .i64 x.c)
 y4:W.cell? ⟨gx,4,none⟩=some (.int .i64 x.d)
 y5:W.cell? ⟨gx,5,none⟩=some (.int .i64 x.n)
 ltx:gx<W.heap.size
theorem InX.below {w:World} {gb:Nat} {u0 u1:Value} {gx:Nat} {x:Ac} {W W':World} (h:InX w gb u0 u1 gx x W) (hb:Below W.heap.size W W'):InX w gb u0 u1 gx x W' :=
 ⟨h.i.below hb,(hb.cell (p:=⟨gx,0,none⟩) h.ltx).trans h.y0,(hb.cell (p:=⟨gx,1,none⟩) h.ltx).trans h.y1,(hb.cell (p:=⟨gx,2,none⟩) h.ltx).trans h.y2,(hb.cell (p:=⟨gx,3,none⟩) h.ltx).trans h.y3,(hb.cell (p:=⟨gx,4,none⟩) h.ltx).trans h.y4,(hb.cell (p:=⟨gx,5,none⟩) h.ltx).trans h.y5,Nat.lt_of_lt_of_le h.ltx hb.size⟩
theorem InX.drew {w:World} {gb:Nat} {u0 u1:Value} {gx:Nat} {x:Ac} {W:World} (h:InX w gb u0 u1 gx x W):InX w gb u0 u1 gx x W.drew:=h.below (Zbc br_)
def ZdD (l:List Ac) (i:Nat):Nat:=if (rowL l i).n=2 then kidL l i 1 else kidL l i 0
def Zcn (l:List Ac) (i:Nat):Option (Int×List Ac) :=
 let k:=(rowL l i).k;let a:=kidL l i 0;let b:=ZdD l i
 if Zbs k=true∧ZT (rowL l a)=true∧ZT (rowL l b)=true then some (1,ZH l i [Zac k (rowL l a).a (rowL l b).a])
 else if k=37∨k=38 then
  (if (rowL l a).k=20 then (if (rowL l a).a=(if k=37 then 1 else 0) then some (2,ZH l i (Ze l b)) else some (2,ZH l i (Ze l a)))
  else if (rowL l b).k=20 then (if (rowL l b).a=(if k=37 then 1 else 0) then some (3,ZH l i (Ze l a)) else if Zap l a (endL l a)=true then some (3,ZH l i (Ze l b)) else none)
  else none)
 else if (k=29∨k=28)∧(rowL l a).k=k then some (4,ZH l i (Ze l (a+1)))
 else ZdX l i a b
end Go.Proofs.Ytdpokdcendgfeaa
