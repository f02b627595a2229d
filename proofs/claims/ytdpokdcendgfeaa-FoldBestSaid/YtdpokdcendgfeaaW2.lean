/- Several texts in one: The walk of slices.Grow at rows, of nothing. The walks of kidsOf, queue, numbers. Bounds on what rule's row tells. Nothing here names the program. A plan in memory. The walk of fold.end. Steps of regions that draw their order: an append to an own row, a call; words on own rows. Nothing here names the program. The walk of fold.kids. Conditions: those of each. -/
import Derived.Test.YtdpokdcendgfeaaW1
import Derived.Lib.AppendZerosOnto
import Derived.Deep.RegionLaw
import Derived.Deep.RegionWith
import Derived.OwnWalk
import Derived.Maps.AppendAt
set_option linter.unusedSimpArgs false
set_option linter.unusedVariables false
set_option maxHeartbeats 80000000
set_option maxRecDepth 100000
namespace Go.Proofs.Ytdpokdcendgfeaa
open Go.RowKit
theorem Zk0 (w:World) (n:Nat) (h0:0<n) (hn:n≤4194304) (ty:TypeId):(Builtin.append_ #[26,3] ty #[.slice none 0 0,.int .i64 (n:Int)]).run Try.prog w =
 .ok (.slice (some ⟨w.heap.size,0,none⟩) n (grownCap w n 0 49)) (w.drew.alloc (.cells ((#[]:Array Value)++Builtin.zeroCells (Value.agg #[.int .i64 0,.int .i64 0,.int .i64 0,.int .i64 0,.int .i64 0,.int .i64 0]).cells n++Builtin.zeroCells (Value.agg #[.int .i64 0,.int .i64 0,.int .i64 0,.int .i64 0,.int .i64 0,.int .i64 0]).cells (grownCap w n 0 49 - n)) 49)):=by
 obtain ⟨i0,hi,hz0,hz1,hz2⟩:=ZD Zjl;have hold:(Builtin.firstCells i0.size 0 (.slice none 0 0)).run Try.prog w.drew=.ok ([]:List Value).toArray w.drew:=by simp [Builtin.firstCells]
 have h:=Lib.run_append_grow_zeros (P:=Try.prog) w 26 3 ty 49 i0 _ .i64 .i64 Try.underlying26 Try.underlying3 hi hz0 none 0 0 [] hold n h0 (by rw [hz1];decide) (by omega) (by omega) (by rw [hz2];omega) (growslice_fits (by omega) (by rw [hz2];omega));simp only [Nat.zero_add] at h;exact h
theorem Zlv (w:World) (B n:Nat) (hB:B≤w.heap.size) (hn:n≤4194304):(w.drew.alloc (.cells ((#[]:Array Value)++Builtin.zeroCells (Value.agg #[.int .i64 0,.int .i64 0,.int .i64 0,.int .i64 0,.int .i64 0,.int .i64 0]).cells n++Builtin.zeroCells (Value.agg #[.int .i64 0,.int .i64 0,.int .i64 0,.int .i64 0,.int .i64 0,.int .i64 0]).cells (grownCap w n 0 49 - n)) 49)).ownsRow B 49 6 (.slice (some ⟨w.heap.size,0,none⟩) 0 (grownCap w n 0 49)) 0 []:=by
 have h1:=grownCap_ge w n 0 49;have h2:=grownCap_le_maxLen w n 0 49 (by unfold maxLen;omega);refine ⟨rfl,.inr ⟨w.heap.size,_,_,rfl,hB,heap_alloc_new w.drew _,Nat.zero_le _,h2,?_,by simp⟩⟩;simp only [Array.size_append,size_zeroCells,List.size_toArray,List.length_nil];rw [show (Value.agg #[.int .i64 0,.int .i64 0,.int .i64 0,.int .i64 0,.int .i64 0,.int .i64 0]).cells.size=6 from rfl];omega
theorem Znr (w:World) (n:Nat) (hn:n≤4194304) :
 Calls Try.prog 172 #[.slice none 0 0,.int .i64 (n:Int)] w fun en w'=>∃u,en=.returned u∧w'.ownsRow w.heap.size 49 6 u 0 []∧Below w.heap.size w w':=by
 have u1:=IntWalk.i64_in (n:Int) (by omega)
 by_cases h0:n=0
 · subst h0;go_enter Try.func172,Try.ntmps172;go_wp2_with fail;go_ret;exact ⟨_,rfl,World.ownsRow_nil _ _ _ _,Below.refl _ _⟩
 · have h1:¬(n:Int)<0:=by omega
   have h2:(0:Int)<(n:Int):=by omega
   have HR:=Za (fun ty=>Zk0 w n (by omega) hn ty);have HO:=Za (Zlv w w.heap.size n lr_ hn);have HB:=Za ((Below.refl w.heap.size w).drew.alloc lr_ (.cells ((#[]:Array Value)++Builtin.zeroCells (Value.agg #[.int .i64 0,.int .i64 0,.int .i64 0,.int .i64 0,.int .i64 0,.int .i64 0]).cells n++Builtin.zeroCells (Value.agg #[.int .i64 0,.int .i64 0,.int .i64 0,.int .i64 0,.int .i64 0,.int .i64 0]).cells (grownCap w n 0 49 - n)) 49));have hG:=grownCap_ge w n 0 49;generalize grownCap w n 0 49=G at HR HO HB hG;generalize (w.drew.alloc (.cells ((#[]:Array Value)++Builtin.zeroCells (Value.agg #[.int .i64 0,.int .i64 0,.int .i64 0,.int .i64 0,.int .i64 0,.int .i64 0]).cells n++Builtin.zeroCells (Value.agg #[.int .i64 0,.int .i64 0,.int .i64 0,.int .i64 0,.int .i64 0,.int .i64 0]).cells (G - n)) 49))=w1 at HR HO HB;have h3:(0:Int)≤(n:Int):=by omega
   have h4:(n:Int)≤(G:Int):=by omega
   clear h0;go_enter Try.func172,Try.ntmps172;go_wp2_with (at_builtin;refine Lib.wpList_append_run _ rfl _ _ _ _ rfl _ _ rfl rfl _ _ (HR.out _) ?_)
   all_goals
    go_ret;exact ⟨_,rfl,HO.out,HB.out⟩
theorem Zbh (w:World) (o:Obj) (t:TypeId) (cs:Array Value):Blk ((w.alloc o).alloc (.cells cs t)) (w.heap.size+1) t cs:=by
 have:=Blk.new (w.alloc o) t cs;simpa using this
theorem Zb3 {w W:World} {k n:Int} {en:Ending} {g:Nat} {t:TypeId} (L:List Int) (h:kidsV k n=L) (he:en=.returned (.slice (some ⟨g,0,none⟩) L.length L.length)) (hb:Blk W g t (Zm L).toArray) (hg:w.heap.size≤g) (hB:Below w.heap.size w W) :
 ∃oa,en=.returned (.slice oa (kidsV k n).length (kidsV k n).length)∧Src W oa (kidsV k n).length (Zm (kidsV k n))∧(∀ad,oa=some ad→w.heap.size≤ad.block)∧Below w.heap.size w W:=by
 subst h;exact ⟨_,he,ZaM _ hb,fun ad e=>by injection e with e;subst e;exact hg,hB⟩
theorem ZmF {w W:World} {k n:Int} {en:Ending} (h:kidsV k n=[]) (he:en=.returned (.slice none 0 0)) (hB:Below w.heap.size w W) :
 ∃oa,en=.returned (.slice oa (kidsV k n).length (kidsV k n).length)∧Src W oa (kidsV k n).length (Zm (kidsV k n))∧(∀ad,oa=some ad→w.heap.size≤ad.block)∧Below w.heap.size w W:=by
 rw [h];exact ⟨none,he,ZdQ _ _,fun ad e=>(by cases e),hB⟩
theorem Zlg (w:World) (x:Ac):Calls Try.prog 104 #[x.val] w fun en w'=>∃oa,en=.returned (.slice oa (kidsV x.k x.n).length (kidsV x.k x.n).length)∧Src w' oa (kidsV x.k x.n).length (Zm (kidsV x.k x.n))∧(∀ad,oa=some ad→w.heap.size≤ad.block)∧Below w.heap.size w w':=by
 obtain ⟨k,a,b,c,d,n⟩:=x;simp only [Ac.val];go_enter Try.func104,Try.ntmps104;go_wp2
 all_goals
  go_ret;simp only [beq_iff_eq,beq_eq_false_iff_ne,ne_eq] at *
  first
  | exact Zb3 [3,1,1] (by simp [kidsV, *]) rfl (Zbh _ _ _ _) (by omega) (((Below.refl _ w).alloc lr_ _).alloc (by simp) _)
  | exact Zb3 [3,1] (by simp [kidsV, *]) rfl (Zbh _ _ _ _) (by omega) (((Below.refl _ w).alloc lr_ _).alloc (by simp) _)
  | exact Zb3 [2] (by simp [kidsV, *]) rfl (Zbh _ _ _ _) (by omega) (((Below.refl _ w).alloc lr_ _).alloc (by simp) _)
  | exact Zb3 [5,2] (by simp [kidsV, *]) rfl (Zbh _ _ _ _) (by omega) (((Below.refl _ w).alloc lr_ _).alloc (by simp) _)
  | exact Zb3 [5] (by simp [kidsV, *]) rfl (Zbh _ _ _ _) (by omega) (((Below.refl _ w).alloc lr_ _).alloc (by simp) _)
  | exact Zb3 [2,2] (by simp [kidsV, *]) rfl (Zbh _ _ _ _) (by omega) (((Below.refl _ w).alloc lr_ _).alloc (by simp) _)
  | exact Zb3 [4,4] (by simp [kidsV, *]) rfl (Zbh _ _ _ _) (by omega) (((Below.refl _ w).alloc lr_ _).alloc (by simp) _)
  | exact Zb3 [3] (by simp [kidsV, *]) rfl (Zbh _ _ _ _) (by omega) (((Below.refl _ w).alloc lr_ _).alloc (by simp) _)
  | exact Zb3 [3,3] (by simp [kidsV, *]) rfl (Zbh _ _ _ _) (by omega) (((Below.refl _ w).alloc lr_ _).alloc (by simp) _)
  | exact ZmF (by simp [kidsV, *]) rfl ((Below.refl _ w).alloc lr_ _)
structure PlV where
 (ga va ta oa ma:Option Addr)
 (gl gc vl vc tl tc ol oc ml mc:Nat)
def PlV.val (q:PlV):Value:=.agg #[.slice q.ga q.gl q.gc,.slice q.va q.vl q.vc,.slice q.ta q.tl q.tc,.slice q.oa q.ol q.oc,.slice q.ma q.ml q.mc]
def chk (q:PlV) (ra:Option Addr) (rl rc:Nat) (i:Nat):Array Value:=#[.slice q.ga q.gl q.gc,.slice q.va q.vl q.vc,.slice q.ta q.tl q.tc,.slice q.oa q.ol q.oc,.slice q.ma q.ml q.mc,.slice ra rl rc,.int .i64 (i:Int)]
theorem ZdR (w:World) (g:Nat) (q:PlV) (ra:Option Addr) (rl rc i:Nat) (n:Int) (hk:Blk w g 106 (chk q ra rl rc i)) (hgl:q.gl≤maxLen):Calls Try.prog 135 #[.pointer (some ⟨g,0,none⟩),.int .i64 n] w fun en w'=>en=.returned (.bool (Zp n 0 ((q.gl:Int) - 1)))∧w=w':=by
 have c0:w.cell? ⟨g,0,none⟩=some (.slice q.ga q.gl q.gc):=by rw [hk.cell];rfl
 have HF:=fun (W:World) (hi:Int)=>Za (Zdq W n 0 hi)
 unfold maxLen at hgl;have u1:=IntWalk.i64_in ((q.gl:Int) - 1) (by omega);clear hk;go_enter Try.func135,Try.ntmps135;go_wp2_with fail;go_at_call 63;refine (HF _ _).out.mono ?_;rintro en w1 ⟨rfl,rfl⟩;go_wp2_with fail;go_ret;exact ⟨rfl,rfl⟩
def ZZ (l:List Bool):List Value:=l.map (.bool)
theorem ZbU {P:Pl} {l:List Ac} {i:Nat} (h:handV P l i≠0):(handV P l i=2∨handV P l i=3)∧i+handV P l i≤l.length:=by
 unfold handV at h ⊢
 cases h0:l[i]? with
 | none=>simp [h0] at h
 | some x =>
  cases h1:l[i+1]? with
  | none=>simp [h0,h1] at h
  | some y =>
   have hy:=(gs_ h1).1;simp only [h0,h1] at h ⊢;split at h
   · next hg =>
     rw [if_pos hg];split at h
     · next h2=>rw [if_pos h2];exact ⟨.inl rfl,by omega⟩
     · next h2 =>
       rw [if_neg h2];split at h
       · exact absurd rfl h
       · next h3 =>
         rw [if_neg h3]
         cases h4:l[i+2]? with
         | none=>simp [h4] at h
         | some z =>
          have hz:=(gs_ h4).1;simp only [h4] at h ⊢;split at h
          · next h5=>rw [if_pos h5];exact ⟨.inr rfl,by omega⟩
          · exact absurd rfl h
   · exact absurd rfl h
def ZjC (l:List Ac) (row:Nat→Int→Option (Nat×Int)):Prop:=∀i what e n,row i what=some (e,n)→i<e∧e≤l.length∧0≤n∧n≤256
theorem Zh1 {P:Pl} {l:List Ac} {row:Nat→Int→Option (Nat×Int)} (hr:ZjC l row):∀(m i e:Nat),Zs P l row m i=some e→i≤e∧(i≤l.length→e≤l.length):=by
 intro m
 induction m using Nat.strongRecOn with
 | ind m ih =>
  intro i e h;unfold Zs at h
  by_cases hm:m=0
  · simp only [hm,dite_true,Option.some.injEq] at h;subst h;exact ⟨lr_,fun h=>h⟩
  · simp only [hm,dite_false] at h
    cases hx:l[i]? with
    | none=>simp [hx] at h
    | some x =>
     simp only [hx] at h;split at h
     · split at h
       · cases h
       · next hh =>
         have:=ih _ (by omega) _ _ h;have:=ZbU (P:=P) (l:=l) (i:=i) (by omega);omega
     · split at h
       · cases h
       · cases hw:row i 0 with
         | none=>simp [hw] at h
         | some en =>
          obtain ⟨e1,n⟩:=en;simp only [hw] at h;have:=ih _ (by omega) _ _ h;have:=hr _ _ _ _ hw;omega
theorem Zfg {l:List Ac} {row:Nat→Int→Option (Nat×Int)} (hr:ZjC l row) (k:Int):∀(ws:List Int) (j i:Nat) (kind wants:Int) (e:Nat) (n:Int),Zw l row k ws j i kind wants=some (e,n)→0≤wants→i≤e∧(i≤l.length→e≤l.length)∧0≤n
 | [],j,i,kind,wants,e,n,h,h0=>by
  simp only [Zw,Option.some.injEq,Prod.mk.injEq] at h;obtain ⟨rfl,rfl⟩:=h;exact ⟨lr_,fun h=>h,h0⟩
 | w::ws,j,i,kind,wants,e,n,h,h0=>by
  simp only [Zw] at h;split at h
  · cases h
  · next e1 n1 hw =>
    have h1:=hr _ _ _ _ hw;have:=Zfg hr k ws _ _ _ _ e n h (by omega);omega
theorem Zgd (P:Pl) (l:List Ac):∀f,ZjC l (Zo P l f)
 | 0=>fun i what e n h=>by simp [Zo] at h
 | f+1=>fun i what e n h=>by
  have ih:=Zgd P l f;unfold Zo at h
  cases hx:l[i]? with
  | none=>simp [hx] at h
  | some x =>
   have hi:=(gs_ hx).1;simp only [hx] at h;split at h
   · split at h
     · split at h
       · cases h
       · cases hb:Zs P l (Zo P l f) x.n.toNat (i+1) with
         | none=>simp [hb] at h
         | some e1 =>
          simp only [hb,Option.map_some,Option.some.injEq,Prod.mk.injEq] at h;obtain ⟨rfl,rfl⟩:=h;have:=Zh1 ih _ _ _ hb;omega
     · split at h
       · cases h
       · split at h
         · cases h
         · next e1 n1 hk =>
           have:=Zfg ih _ _ _ _ _ _ _ _ hk (Int.le_refl _);split at h
           · simp only [Option.some.injEq,Prod.mk.injEq] at h;obtain ⟨rfl,rfl⟩:=h;omega
           · cases h
   · cases h
section
variable {P:Pl} {l:List Ac} {row:Nat→Int→Option (Nat×Int)} {m i:Nat} {x:Ac}
theorem Zcu:Zs P l row 0 i=some i:=by unfold Zs;simp
theorem ZeH (hm:0<m) (hx:l[i]? = none):Zs P l row m i=none:=by
 unfold Zs;simp [show m≠0 by omega,hx]
theorem ZbF (hm:0<m) (hx:l[i]? = some x) (h9:x.k=9) (hh:handV P l i≠0) (hl:handV P l i≤m):Zs P l row m i=Zs P l row (m - handV P l i) (i+handV P l i):=by
 conv=>lhs;unfold Zs
 simp only [show m≠0 by omega,dite_false,hx,h9,if_true];rw [dif_neg (by omega)]
theorem Zds (hm:0<m) (hx:l[i]? = some x) (h9:x.k=9) (hh:handV P l i=0∨m<handV P l i):Zs P l row m i=none:=by
 unfold Zs;simp only [show m≠0 by omega,dite_false,hx,h9,if_true];rw [dif_pos hh]
theorem ZeI (hm:0<m) (hx:l[i]? = some x) (hk:x.k=10∨x.k=11∨x.k=12):Zs P l row m i=none:=by
 unfold Zs;have h9:x.k≠9:=by omega
 simp only [show m≠0 by omega,dite_false,hx,h9,if_false,hk,if_true]
theorem Zct (hm:0<m) (hx:l[i]? = some x) (h9:x.k≠9) (hk:¬(x.k=10∨x.k=11∨x.k=12)) {e:Nat} {n:Int} (hr:row i 0=some (e,n)):Zs P l row m i=Zs P l row (m - 1) e:=by
 conv=>lhs;unfold Zs
 simp only [show m≠0 by omega,dite_false,hx,h9,if_false,hk,hr]
theorem ZdL (hm:0<m) (hx:l[i]? = some x) (h9:x.k≠9) (hk:¬(x.k=10∨x.k=11∨x.k=12)) (hr:row i 0=none):Zs P l row m i=none:=by
 unfold Zs;simp only [show m≠0 by omega,dite_false,hx,h9,if_false,hk,hr]
end
def Vr.cells (x:Vr):List Value:=[.int .i64 x.init,.int .i64 x.lo,.int .i64 x.hi]
def vrs (l:List Vr):List Value:=(l.map Vr.cells).flatten
theorem Zhl:∀(l:List Vr) (i j:Nat) (x:Vr),l[i]? = some x→j<3→(vrs l)[i*3+j]? = x.cells[j]?
 | [],i,j,x,h,_=>by simp at h
 | y::l,0,j,x,h,hj=>by
  simp at h;subst h;simp only [vrs,List.map_cons,List.flatten_cons,Nat.zero_mul,Nat.zero_add];rw [List.getElem?_append_left (by simp [Vr.cells];omega)]
 | y::l,i+1,j,x,h,hj=>by
  have ih:=Zhl l i j x (by simpa using h) hj;simp only [vrs,List.map_cons,List.flatten_cons] at ih ⊢;rw [List.getElem?_append_right (by simp [Vr.cells];omega)];rw [←ih];congr 1;simp [Vr.cells];omega
def ZnV (w:World) (p:Addr) (x:Vr):Prop:=w.cell? p=some (.int .i64 x.init)∧w.cell? ⟨p.block,p.off+1,none⟩=some (.int .i64 x.lo)∧w.cell? ⟨p.block,p.off+2,none⟩=some (.int .i64 x.hi)
theorem ZeN {w:World} {oa:Option Addr} {l:List Vr} (h:Src w oa l.length (vrs l)) {i:Nat} {x:Vr} (hi:l[i]? = some x):∃ad,oa=some ad∧ad.block<w.heap.size∧ZnV w (ad.add (i*3)) x:=by
 have hl:=(gs_ hi).1;obtain ⟨ad,e,hb,hx⟩:=h (by omega);have hz:∀j v,j<3→x.cells[j]? = some v→w.cell? (ad.add (i*3+j))=some v:=fun j v hj hv=>hx _ _ ((Zhl l i j x hi hj).trans hv)
 have z0:=hz 0 _ (by omega) rfl;have z1:=hz 1 _ (by omega) rfl;have z2:=hz 2 _ (by omega) rfl;rw [ZcP ad (i*3) 0] at z1;rw [ZcP ad (i*3) 1] at z2;exact ⟨ad,e,hb,z0,z1,z2⟩
theorem Za3 {w:World} {oa:Option Addr} {n:Nat} {cs:List Value} (h:Src w oa n cs) {i:Nat} {v:Value} (hn:0<n) (hi:cs[i]? = some v):∃ad,oa=some ad∧ad.block<w.heap.size∧w.cell? (ad.add i)=some v:=by
 obtain ⟨ad,e,hb,hx⟩:=h hn;exact ⟨ad,e,hb,hx i v hi⟩
def slv:List (Option Addr×Nat)→List (List Ac)→List Value
 | r::rs,l::ls=>.slice r.1 l.length r.2::slv rs ls
 | _,_=>[]
theorem ZaU:∀(rs:List (Option Addr×Nat)) (ls:List (List Ac)),rs.length=ls.length→(slv rs ls).length=ls.length
 | [],[],_=>rfl
 | r::rs,l::ls,h=>by simp only [slv,List.length_cons,ZaU rs ls (by simpa using h)]
 | [],l::ls,h=>by simp at h
 | r::rs,[],h=>by simp at h
theorem ZaS:∀(rs:List (Option Addr×Nat)) (ls:List (List Ac)) (i:Nat) (r:Option Addr×Nat) (l:List Ac),rs[i]? = some r→ls[i]? = some l→(slv rs ls)[i]? = some (.slice r.1 l.length r.2)
 | r::rs,l::ls,0,r',l',h1,h2=>by
  simp at h1 h2;subst h1 h2;rfl
 | r::rs,l::ls,i+1,r',l',h1,h2=>by
  simp only [slv,List.getElem?_cons_succ];exact ZaS rs ls i r' l' (by simpa using h1) (by simpa using h2)
 | [],ls,i,r,l,h1,h2=>by simp at h1
 | r::rs,[],i,r',l',h1,h2=>by simp at h2
theorem ZfK:∀(rs:List (Option Addr×Nat)) (ls:List (List Ac)) (r:Option Addr×Nat) (l:List Ac),rs.length=ls.length→slv (rs++[r]) (ls++[l])=slv rs ls++[.slice r.1 l.length r.2]
 | [],[],r,l,_=>rfl
 | r'::rs,l'::ls,r,l,h=>by simp only [List.cons_append,slv,ZfK rs ls r l (by simpa using h)]
 | [],l'::ls,r,l,h=>by simp at h
 | r'::rs,[],r,l,h=>by simp at h
theorem ZeU:∀(rs:List (Option Addr×Nat)) (ls:List (List Ac)),∀u ∈ slv rs ls,u.oneCell'=true
 | r::rs,l::ls,u,h=>by
  simp only [slv,List.mem_cons] at h;rcases h with rfl | h
  · rfl
  · exact ZeU rs ls u h
 | [],ls,u,h=>by simp [slv] at h
 | r::rs,[],u,h=>by simp [slv] at h
def ZaW (w:World) (rs:List (Option Addr×Nat)) (ls:List (List Ac)):Prop:=rs.length=ls.length∧∀(i:Nat) (oa:Option Addr) (c:Nat) (l:List Ac),rs[i]? = some (oa,c)→ls[i]? = some l→Src w oa l.length (acs l)∧l.length≤c∧c≤maxLen
theorem ZaW.below {w w':World} {rs:List (Option Addr×Nat)} {ls:List (List Ac)} (h:ZaW w rs ls) (hb:Below w.heap.size w w'):ZaW w' rs ls:=⟨h.1,fun i oa c l h1 h2=>⟨(h.2 i oa c l h1 h2).1.below hb,(h.2 i oa c l h1 h2).2⟩⟩
structure PlMem (w:World) (q:PlV) (P:Pl) (rs:List (Option Addr×Nat)):Prop where
 gl:q.gl=P.gh.length
 vl:q.vl=P.vs.length
 tl:q.tl=P.ts.length
 ol:q.ol=P.on.length
 ml:q.ml=P.ms.length
 g:Src w q.ga P.gh.length (ZZ P.gh)
 v:Src w q.va P.vs.length (vrs P.vs)
 t:Src w q.ta P.ts.length (Zm P.ts)
 o:Src w q.oa P.on.length (slv rs P.on)
 e:ZaW w (rs++[(q.ma,q.mc)]) (P.on++[P.ms])
 l:P.gh.length≤maxLen∧P.vs.length≤maxLen∧P.ts.length≤maxLen∧P.on.length≤maxLen
theorem PlMem.below {w w':World} {q:PlV} {P:Pl} {rs:List (Option Addr×Nat)} (h:PlMem w q P rs) (hb:Below w.heap.size w w'):PlMem w' q P rs :=
 ⟨h.gl,h.vl,h.tl,h.ol,h.ml,h.g.below hb,h.v.below hb,h.t.below hb,h.o.below hb,h.e.below hb,h.l⟩
theorem Za7 {α : Type} {l:List α} {p:α → Bool} {i:Nat} {x:α} (hx:l[i]? = some x) (h:(l.take i).all p=true) (hp:p x=true):(l.take (i+1)).all p=true:=by
 rw [List.take_add_one,hx];simp [h,hp]
theorem ZbW {α : Type} {l:List α} {p:α → Bool} {i:Nat} {x:α} (hx:l[i]? = some x) (hp:p x=false):l.all p=false:=by
 rw [List.all_eq_false];exact ⟨x,List.mem_of_getElem? hx,by simp [hp]⟩
theorem Zhm (v:Vr):Zci v=true ↔ (v.lo≤v.init∧v.init≤v.hi ∧ -1073741824≤v.lo∧v.hi≤1073741824):=by
 simp [Zci,and_assoc]
section
variable {P:Pl}
theorem Zcc (h:¬(P.gh.length≤16∧P.vs.length≤16∧P.ts.length≤4∧P.on.length=P.gh.length)):checkV P=71:=by
 unfold checkV;rw [if_neg];intro h2;simp only [Bool.and_eq_true,decide_eq_true_eq] at h2;exact h ⟨h2.1.1.1.1.1.1.1,h2.1.1.1.1.1.1.2,h2.1.1.1.1.1.2,h2.1.1.1.1.2⟩
theorem ZfZ (h:P.vs.all Zci=false):checkV P=71:=by
 unfold checkV;rw [if_neg];rw [h]
 simp
theorem Zf0 (h:P.ts.all (fun t=>Zp t 1 255)=false):checkV P=71:=by
 unfold checkV;rw [if_neg];rw [h]
 simp
theorem Zf1 (h:¬Zh (P.on++[P.ms])≤131072):checkV P=71:=by
 unfold checkV;rw [if_neg];intro h2;simp only [Bool.and_eq_true,decide_eq_true_eq] at h2;exact h h2.1.2
theorem ZcV (h:(P.on++[P.ms]).all (Zy P)=false):checkV P=71:=by
 unfold checkV;rw [if_neg];rw [h]
 simp
theorem ZhY (h1:P.gh.length≤16) (h2:P.vs.length≤16) (h3:P.ts.length≤4) (h4:P.on.length=P.gh.length) (h5:P.vs.all Zci=true) (h6:P.ts.all (fun t=>Zp t 1 255)=true) (h7:Zh (P.on++[P.ms])≤131072) (h8:(P.on++[P.ms]).all (Zy P)=true):checkV P=0:=by
 unfold checkV;rw [if_pos];simp only [h1,h2,h3,h4,h5,h6,h7,h8,decide_true,Bool.and_self]
end
theorem Zby {ls:List (List Ac)} {j:Nat} {l:List Ac} (h:ls[j]? = some l):Zh (ls.take (j+1))=Zh (ls.take j)+l.length:=by
 unfold Zh;rw [List.take_add_one,h]
 simp
theorem Zd8 (ls:List (List Ac)) (j:Nat):Zh (ls.take j)≤Zh ls:=by
 unfold Zh
 conv=>rhs;rw [←List.take_append_drop j ls]
 rw [List.map_append,List.sum_append];omega
theorem ZjM {ls:List (List Ac)} {j:Nat} {l:List Ac} (h:ls[j]? = some l):l.length≤Zh ls:=by
 have h1:=Zd8 ls (j+1);have h2:=Zby h;omega
def ZV (l:List Ac) (i:Nat) (left:Int):Option Nat :=
 if left≤0 then some i else
 match hx:l[i]? with
 | none=>none
 | some x=>ZV l (i+1) (left+(x.n - 1))
termination_by l.length - i
decreasing_by
 have:=(gs_ hx).1;omega
theorem Zay {l:List Ac} {i:Nat} {left:Int} (h:left≤0):ZV l i left=some i:=by
 unfold ZV;rw [if_pos h]
theorem Zar {l:List Ac} {i:Nat} {left:Int} {x:Ac} (h:¬left≤0) (hx:l[i]? = some x):ZV l i left=ZV l (i+1) (left+(x.n - 1)):=by
 conv=>lhs;unfold ZV
 rw [if_neg h];split
 · next h2=>rw [h2] at hx;cases hx
 · next y h2 =>
   rw [h2] at hx;injection hx with hx;subst hx;rfl
theorem ZdI {l:List Ac} {i:Nat} {left:Int} (h:¬left≤0) (hx:l[i]? = none):ZV l i left=none:=by
 unfold ZV;rw [if_neg h];split
 · rfl
 · next y h2=>rw [h2] at hx;cases hx
def Z7 (l:List Ac):Prop:=l.length≤262144∧∀x ∈ l,0≤x.n∧x.n≤262144
theorem Zjy (w:World) (oa:Option Addr) (c:Nat) (l:List Ac) (i e:Nat) (h:Src w oa l.length (acs l)) (hs:Z7 l) (he:ZV l i 1=some e) (hi:i≤l.length) :
 Calls Try.prog 76 #[.slice oa l.length c,.int .i64 (i:Int)] w fun en w'=>en=.returned (.int .i64 (e:Int))∧∃m,w'=w.drewN m:=by
 have HS:=Za h;have HSM:=Za hs;have HE:=Za he;have hln:=hs.1;clear h hs he;go_enter Try.func76,Try.ntmps76;go_wp2_with fail;go_loopw [1,5] (fun t1 t5 W=>∃(j:Nat) (left:Int),t1=.int .i64 (j:Int)∧t5=.int .i64 left∧j≤l.length ∧ -1≤left∧left≤1+(j:Int)*262144∧ZV l j left=some e∧∃m,W=w.drewN m) (fun t1 _ _=>l.length+1 - (intOf t1).toNat)
 case atStart=>exact ⟨i,1,rfl,rfl,hi,by omega,by omega,HE.out,0,rfl⟩
 case round =>
  obtain ⟨j,left,rfl,rfl,hj,hl0,hl1,hes,m,rfl⟩:=hrel;have HES:=Za hes;clear hes
  by_cases hpos:left≤0
  · have hp:¬(0:Int)<left:=by omega
    have hje:j=e:=by
     have:=HES.out;rw [Zay hpos] at this;injection this
    subst hje;go_wp2_with fail;go_ret;exact ⟨rfl,_,rfl⟩
  · have hp:(0:Int)<left:=by omega
    have hjl:j<l.length:=by
     rcases Nat.lt_or_ge j l.length with h1 | h1
     · exact h1
     · have:=HES.out;rw [ZdI hpos (List.getElem?_eq_none h1)] at this
       cases this
    have hjI:(j:Int)<(l.length:Int):=by omega
    have hj0:(0:Int)≤(j:Int):=by omega
    obtain ⟨x,hx⟩:∃x,l[j]? = some x:=⟨_,ge_ hjl⟩;obtain ⟨ad,rfl,_,_,_,_,_,_,q5⟩:=Zq HS.out hx;obtain ⟨hn0,hn1⟩:=HSM.out.2 x (List.mem_of_getElem? hx);have hst:=Zar hpos hx;have HST:=Za hst;clear hst hx;have hq1:=IntWalk.i64_in ((j:Int)+1) (by omega);have hq2:=IntWalk.i64_in (x.n - 1) (by omega);have hq3:=IntWalk.i64_in (left+(x.n - 1)) (by omega);go_wp2_with fail
    all_goals try (go_quiet (fail);go_wp2_with fail)
    go_roundw
    case rel =>
     refine ⟨j+1,left+(x.n - 1),by go_num,by first | rfl | (congr 1;omega),by omega,by omega,by omega,?_,_,rfl⟩;have:=HES.out;rw [HST.out] at this;exact this
    case measure =>
     simp only [intOf];omega
theorem ZfH {P:Program} {ops:Array Oper} {o:Oper} {a:Act} {w:World} {K:Act→World→Prop} {Q:Exit→Act→World→Prop} {E:Prop}
 (hg:o.guard=none) (s x:Operand) (t:TypeId) (hop:o.op=Op.call { callee:=Callee.builtin Builtin.append,args:=#[s,x],argTypes:=#[t,t] })
 (base:Nat) (e:TypeId) (i:TypeInfo) (z:Value) (size bytes:Nat) (h1:P.underlying t=some (.slice e)) (h2:P.info? e=some i) (h3:i.zero=some z) (h4:i.size=size) (h5:i.bytes=bytes) (h6:z.cells.size=size) (h7:0<size)
 (v:Value) (n:Nat) (xs:List Value) (hs:a.eval s=v) (hown:w.ownsRow base e size v n xs)
 (ad:Addr) (m c:Nat) (news:List Value) (hx:a.eval x=.slice (some ad) m c) (hn:news.length=m*size) (hc:∀j u,news[j]? = some u→w.cell? (ad.add j)=some u) (h1c:∀u ∈ news,u.oneCell'=true)
 (b1:n+m≤maxLen) (b2:(n+m)*bytes≤140737488355328) (hb:base≤w.heap.size)
 (hK:∀v' w',w'.ownsRow base e size v' (n+m) (xs++news)→w.grownBy w' v.ownBlock→K (a.put o.dst v') w') :
 if Region.wanted o (yielded ops a.tmps)=true then Oper.wp P o a w K Q else E:=by
 have hw:Region.wanted o (yielded ops a.tmps)=true:=by simp [Region.wanted,hg]
 rw [if_pos hw];obtain ⟨v',w',hrun,r1,r2,_⟩:=run_append_own (P:=P) w base t o.type e i z size bytes h1 h2 h3 h4 h5 h6 h7 v n xs hown ad m c news hn hc h1c b1 b2 hb;unfold Oper.wp;simp [execOp,hop,resolve,invoke,builtin,hs,hx,hrun,Result.andThen];exact hK v' w' r1 r2
theorem Zet {P:Program} {ops:Array Oper} {o:Oper} {a:Act} {w:World} {K:Act→World→Prop} {Q:Exit→Act→World→Prop} {E:Prop}
 (hg:o.guard=none) (f:Nat) (x:Operand) (t:TypeId) (hop:o.op=Op.call { callee:=Callee.value (Operand.func f),args:=#[x],argTypes:=#[t] })
 (F : Func) (hF : P.funcs[f]? = some F) (hF1 : F.name ≠ "runtime.NumGoroutine") (hF2 : F.body ≠ none) (v : Value) (hx : a.eval x = v) (R : Value → World → Prop) (hc : Calls P f #[v] w fun e w' => ∃ v', e = .returned v' ∧ R v' w') (hK : ∀ v' w', R v' w' → K (a.put o.dst v') w') :
 if Region.wanted o (yielded ops a.tmps)=true then Oper.wp P o a w K Q else E:=by
 have hw:Region.wanted o (yielded ops a.tmps)=true:=by simp [Region.wanted,hg]
 rw [if_pos hw];obtain ⟨fv,hf⟩:∃fv,a.eval (Operand.func f)=fv:=⟨_,rfl⟩;have hf2:=hf;simp only [Act.eval] at hf2;subst hf2;unfold Oper.wp;simp [execOp,hop,resolve,invoke,hx,hf,Deferred.ofValue,callFunc,hF,hF1,hF2,Result.andThen];refine hc.mono ?_;rintro e w' ⟨v',rfl,hr⟩;exact hK v' w' hr
theorem Zbq {w w':World} {base:Nat} {e:TypeId} {size n:Nat} {v:Value} {xs:List Value} (h:w.ownsRow base e size v n xs) (hk:∀g,v.ownBlock=some g→w'.heap[g]? = w.heap[g]?):w'.ownsRow base e size v n xs:=by
 refine ⟨h.1,?_⟩;rcases h.2 with hn | ⟨g,cap,cur,rfl,hb,hgg,rest⟩
 · exact .inl hn
 · exact .inr ⟨g,cap,cur,rfl,hb,(hk g rfl).trans hgg,rest⟩
theorem Zv {w:World} {base base':Nat} {e:TypeId} {size n:Nat} {v:Value} {xs:List Value} (h:w.ownsRow base e size v n xs) (hb:base'≤base):w.ownsRow base' e size v n xs:=by
 refine ⟨h.1,?_⟩;rcases h.2 with hn | ⟨g,cap,cur,rfl,hg,rest⟩
 · exact .inl hn
 · exact .inr ⟨g,cap,cur,rfl,Nat.le_trans hb hg,rest⟩
theorem Zan {B:Nat} {A C:World} {row:Option Nat} (h:A.grownBy C row) (hr:∀k,row=some k→B≤k) (hB:B≤A.heap.size):Below B A C :=
 ⟨h.os,h.tape,h.output,h.size,fun k hk=>h.block k (Nat.lt_of_lt_of_le hk hB) (fun e=>by have:=hr k e.symm;omega)⟩
theorem ZdS {B g n c:Nat} {W:World} {xs:List Value} {t:TypeId} (h:W.ownsRow B t 1 (.slice (some ⟨g,0,none⟩) n c) n xs) (i:Nat) (x:Value) (hx:xs[i]? = some x):W.cell? ⟨g,i,none⟩=some x:=by
 rcases h.2 with ⟨e,_⟩ | ⟨g',cap,cur,e,hb,hg,h1,h2,h3,h4⟩
 · simp at e
 · simp only [Value.slice.injEq,Option.some.injEq,Addr.mk.injEq,and_true,true_and] at e;obtain ⟨rfl,rfl⟩:=e;rw [Blk.cell (cs:=cur) hg];have hi:=(gs_ hx).1;have hl:xs.length=n*1:=h.1;have h5:(cur.toList.take (n*1))[i]? = xs[i]?:=by rw [h4]
   rw [List.getElem?_take,if_pos (by omega),hx] at h5;simpa using h5
theorem Zx {B base:Nat} {w w':World} {e:TypeId} {size n:Nat} {v:Value} {xs:List Value} (h:w.ownsRow base e size v n xs) (hb:Below B w w') (hB:w.heap.size≤B):w'.ownsRow base e size v n xs :=
 Zbq h (fun k hk=>hb.block k (by have:=(h.lt k hk).2;omega))
theorem ZcO (l:List Ac):∀(m i:Nat) (left:Int) (e:Nat),l.length - i=m→ZV l i left=some e→i≤l.length→i≤e∧e≤l.length∧(0<left→i<e)
 | 0,i,left,e,hm,h,hi=>by
  by_cases hp:left≤0
  · rw [Zay hp] at h;injection h with h;omega
  · rw [ZdI hp (List.getElem?_eq_none (by omega))] at h
    cases h
 | m+1,i,left,e,hm,h,hi=>by
  by_cases hp:left≤0
  · rw [Zay hp] at h;injection h with h;omega
  · rw [Zar hp (ge_ (by omega))] at h;have:=ZcO l m (i+1) _ e (by omega) h (by omega);omega
def ZR (l:List Ac):Nat→Nat→Option (List (Nat×Nat))
 | 0,_=>some []
 | m+1,k=>match ZV l k 1 with
  | none=>none
  | some e=>(ZR l m e).map ((k,e)::·)
def spv (ad:Addr) (r:Nat×Nat):Value:=.slice (some (ad.add (r.1*6))) (r.2 - r.1) (r.2 - r.1)
theorem ZhB (w:World) (t:TypeId) (x:Value):∀j u,[x][j]? = some u→(w.alloc (.cells #[x] t)).cell? ((⟨w.heap.size,0,none⟩:Addr).add j)=some u:=by
 intro j u hj;obtain rfl:j=0:=by have:=(gs_ hj).1;simp at this;exact this
 simp at hj;subst hj;exact (Blk.new w t #[x]).cell 0
theorem ZeC (w:World) (ad:Addr) (c:Nat) (l:List Ac) (i:Nat) (x:Ac) (sp:List (Nat×Nat)) (h:Src w (some ad) l.length (acs l)) (hs:Z7 l) (hx:l[i]? = some x) (hk:ZR l x.n.toNat (i+1)=some sp) (hc:l.length≤c) (hcm:c≤maxLen) :
 Calls Try.prog 114 #[.slice (some ad) l.length c,.int .i64 (i:Int)] w fun en w'=>∃v,en=.returned v∧w'.ownsRow w.heap.size 26 1 v sp.length (sp.map (spv ad))∧Below w.heap.size w w':=by
 have HS:=Za h;have HSM:=Za hs;have HK:=Za hk;have hln:=hs.1;obtain ⟨hn0,hn1⟩:=hs.2 x (List.mem_of_getElem? hx);have hil:=(gs_ hx).1;obtain ⟨ad',e',hab,q0,q1,q2,q3,q4,q5⟩:=Zq h hx
 cases e'
 have hI0:(0:Int)≤(i:Int):=by omega
 have hI:(i:Int)<(l.length:Int):=by omega
 have hq1:=IntWalk.i64_in ((i:Int)+1) (by omega);obtain ⟨i3,hi3,hz0,hz1,hz2⟩:=ZD Zc2;obtain ⟨N,hN⟩:∃N:Nat,x.n=(N:Int):=⟨x.n.toNat,by omega⟩;rw [hN] at q5;have HK2:=Za (show ZR l N (i+1)=some sp by rw [←hk,hN];rfl);have hN2:N≤262144:=by omega
 unfold maxLen at hcm;clear h hs hk hN hn0 hn1 hx q0 q1 q2 q3 q4;have HO0:=Za (World.ownsRow_nil w w.heap.size 26 1);go_enter Try.func114,Try.ntmps114;go_wp2_with fail;go_loopw [5,6,15] (fun t5 t6 t15 W=>∃(j k:Nat) (ds rest:List (Nat×Nat)),t6=.int .i64 (k:Int)∧t15=.int .i64 (j:Int)∧j≤N∧k≤l.length∧W.ownsRow w.heap.size 26 1 t5 ds.length (ds.map (spv ad))∧ZR l (N - j) k=some rest∧sp=ds++rest∧ds.length=j∧Below w.heap.size w W) (fun _ _ t15 _=>N - (intOf t15).toNat)
 case atStart=>exact ⟨0,i+1,[],sp,by go_num,rfl,Nat.zero_le _,by omega,by simpa using HO0.out,HK2.out,rfl,rfl,Below.refl _ _⟩
 case round =>
  obtain ⟨j,k,ds,rest,rfl,rfl,hj,hkl,hown,hks,hsp,hds,hb⟩:=hrel;rename World=>W
  have HOWN:=Za hown;have HB:=Za hb;have hq2:=IntWalk.i64_in ((j:Int)+1) (by omega)
  by_cases hjn:j<N
  · have hjI:(j:Int)<(N:Int):=by omega
    obtain ⟨m,hm⟩:∃m,N - j=m+1:=⟨N - j - 1,by omega⟩;rw [hm] at hks;simp only [ZR] at hks
    cases he:ZV l k 1 with
    | none=>simp [he] at hks
    | some e =>
     simp only [he] at hks
     cases hr:ZR l m e with
     | none=>simp [hr] at hks
     | some r2 =>
      simp only [hr,Option.map_some,Option.some.injEq] at hks;have hle:=ZcO l _ k 1 e rfl he hkl;have HEND:=Za (Zjy W (some ad) c l k e (HS.out.below hb) HSM.out he hkl);have HR:=Za (show ZR l (N - (j+1)) e=some r2 by rw [show N - (j+1)=m by omega];exact hr);have HSP:=Za (show sp=(ds++[(k,e)])++r2 by rw [hsp,←hks];simp);obtain ⟨l1,l2,l3⟩:=hle;have l3':=l3 (by omega);have hk0:(0:Int)≤(k:Int):=by omega
      have hk1:(k:Int)≤(e:Int):=by omega
      have hk2:e≤c:=by omega
      have hk3:(e:Int)≤(c:Int):=by omega
      have hke:k≤e:=l1;clear hown hks hsp hb he hr l3;have hds9:ds.length≤262144:=by omega
      go_wp2_with (first | (go_at_call 76;refine HEND.out.mono ?_;rintro en w2 ⟨rfl,mm,rfl⟩;have HOA:=Za (Zbq (w':=(W.drewN mm).alloc (.cells #[spv ad (k,e)] 26)) (HOWN.out:(W.drewN mm).ownsRow w.heap.size 26 1 u5 ds.length (ds.map (spv ad))) (fun g hg=>Below.heap_alloc _ _ g (HOWN.out.lt g hg).2));have HTW:=Za (ZhB (W.drewN mm) 26 (spv ad (k,e)));have HBD:=Za (Zc HB.out mm)) | (at_builtin;refine wpList_append_own_at _ rfl (.tmp 20) (.tmp 26) 25 rfl w.heap.size 26 i3 _ 1 24 Try.underlying25 hi3 hz0 hz1 hz2 rfl (by decide) u5 ds.length (ds.map (spv ad)) rfl HOA.out ⟨(W.drewN mm).heap.size,0,none⟩ 1 1 [spv ad (k,e)] rfl rfl HTW.out (by simp [Value.oneCell',spv]) (by unfold maxLen;omega) (by omega) (by have:=HBD.out.size;simp at this ⊢;omega) ?_;rintro v3 w3 hown3 hgr3 hnil3 hat3;clear hnil3 hat3;have HO3:=Za hown3;have HG3:=Za hgr3;clear hown3 hgr3));go_roundw
      case rel =>
       refine ⟨j+1,e,ds++[(k,e)],r2,rfl,by go_num,by omega,l2,?_,HR.out,HSP.out,by simp;omega,?_⟩
       · have:=HO3.out;simpa using this
       · exact (HBD.out.alloc HBD.out.size _).trans (Zan HG3.out (fun g hg=>(HOWN.out.lt g hg).1) (by have:=HBD.out.size;simp at this ⊢;omega))
      case measure =>
       simp only [intOf];omega
  · have hjn2:j=N:=by omega
    have hre:rest=[]:=by rw [hjn2,Nat.sub_self] at hks;simpa [ZR] using hks.symm
    have HF:=Za (show W.ownsRow w.heap.size 26 1 u5 sp.length (sp.map (spv ad)) by rw [hsp,hre,List.append_nil];exact hown);have hjI:¬(j:Int)<(N:Int):=by omega
    clear hown hks hsp hb hre;go_wp2_with fail;go_ret;exact ⟨_,rfl,HF.out,HB.out⟩
end Go.Proofs.Ytdpokdcendgfeaa
