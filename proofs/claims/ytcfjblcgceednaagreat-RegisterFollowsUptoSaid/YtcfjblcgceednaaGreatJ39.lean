import Derived.Test.YtcfjblcgceednaaGreatJ37
set_option linter.all false
set_option maxRecDepth 100000
set_option maxHeartbeats 16000000
namespace Go.Proofs.YtcfjblcgceednaaGreat
theorem j4{p:Prop}(h:p:=by
 go_wp2_with (first
  | (go_at_call 87;refine HA.out.mono ?_;rintro e w1 ⟨rfl,hb1⟩;have HB1:=Zh (Zaf HB0.out hb1);have HX1:=Zh (HX0.out.old hb1);have x0:=HX1.out.cell 0 (v:=.slice h.co m.cl.length h.cc) rfl;have x1:=HX1.out.cell 1 (v:=.slice h.so m.st.length h.sc) rfl;have x2:=HX1.out.cell 2 (v:=.slice h.eo m.me.length h.ec) rfl;have x3:=HX1.out.cell 3 (v:=.int .i64 m.sel) rfl;clear hb1)
  | (go_at_call 95;refine (HT.out _ HB1.out).mono ?_;rintro e w2 ⟨⟨B,g,rfl,hR⟩,hb2⟩;have HB2:=Zh (Zaf HB1.out hb2);have t6:=hR.tb.cell 6 (v:=.slice (some ⟨g,0,none⟩) m.me.length m.me.length) rfl;have lB:=hR.tb.lt;have n0:=Zp3 hR.nb (k:=k) (by rw [Zm2];exact hkl);rw [HV.out] at n0;clear hb2 hR x0 x1 x2 x3)
  | (go_at_call 96;refine (ZqW v _).mono ?_;rintro e w3 ⟨rfl,hb3⟩;rw [←HE.out.1,←HE.out.2]))
 go_ret2;exact Zhg rfl rfl (Zaf HB2.out hb3)):p:=h
section
open Go.RowKit
theorem ZrT {w w':World}{g:Nat}{a:Addr}{v:Value} (h:w.cell? a=some v) (c:Upd g g w w') (b:a.block≠g):w'.cell? a=some v:=
 (World.cell?_of_block (w:=w) (c.block _ (Zac h) b b)).trans h
def ZrU (G:(Int→Int)→Wg) (m:Md) (k:Nat):List Int:=Zm0 G m k++List.replicate (m.me.length-k) 0
theorem ZrV {G:(Int→Int)→Wg}{m:Md}{k:Nat} (a:k≤m.me.length):(ZrU G m k).length=m.me.length:=by unfold ZrU;simp [Zm2];omega
theorem ZrW {G:(Int→Int)→Wg}{m:Md}{k:Nat}:Zro (ZrU G m k)=fun t=>(Zm0 G m k).getD t.toNat 0:=by
 funext t
 unfold Zro ZrU;by_cases h:t.toNat<(Zm0 G m k).length
 ·rw [List.getD_eq_getElem?_getD,List.getElem?_append_left h,←List.getD_eq_getElem?_getD]
 ·rw [List.getD_eq_getElem?_getD,List.getElem?_append_right (by omega),List.getD_eq_getElem?_getD,List.getElem?_eq_none (l:=Zm0 G m k) (by omega),List.getElem?_replicate];split<;>rfl
theorem ZrX {G:(Int→Int)→Wg}{m:Md}{k:Nat} (a:k<m.me.length):(ZrU G m k).set k (Zm1 G m k)=ZrU G m (k+1):=by
 unfold ZrU;rw [List.set_append_right _ _ (by rw [Zm2];omega),Zm2,Nat.sub_self,show m.me.length-k=(m.me.length-(k+1))+1 by omega,List.replicate_succ,List.set_cons_zero];have:Zm0 G m (k+1)=Zm0 G m k++[Zm1 G m k]:=by rw [ZpK];rfl
 rw [this,List.append_assoc];rfl
structure MCx (bv:Int) (x:Ms) (m:Md):Prop where
 hm:Za1 m=true
 sd:∀ k,k<m.me.length→ZqK m (cdM m k)
 ow:∀ k,k<m.me.length→Zrh bv m x (cdM m k)
 wt:∀ k,k<m.me.length→∀ i∈cdM m k,0≤x.wt i∧x.wt i≤1000
 tl:x.tl=tlV bv
 sc:x.sc=scV bv
theorem MCx.at {bv:Int}{x:Ms}{m:Md} (X:MCx bv x m) {l:Bool}{k:Nat}{L:List Int} (hk:k<m.me.length) (hn:∀ t,Pl l (Zro L t)):RCx bv x l m k L:=⟨X.hm,hk,X.sd k hk,X.ow k hk,X.wt k hk,X.tl,X.sc,hn⟩
theorem ZrY {m:Md} (h:(Zmg m).2.2=0):MCx 0 ZmV m:=
 have a:=Zq0 h
 ⟨a.1,a.2,fun k b=>Zri fun i c=>((ZfN a.1 b).i i c).1,fun k b i c=>ZpG ((ZfN a.1 b).i i c).1,rfl,rfl⟩
def ZrZ (W:World) (h:Hd) (m:Md) (bv:Int) (l:Bool) (L:List Int):Ending→World→Prop:=fun e w'=>(∃ B g,e=.returned (.pointer (some ⟨B,0,none⟩))∧RT w' B g h m bv l L)∧Below W.heap.size W w'
theorem Zr0 {bv:Int}{x:Ms}{m:Md} (X:MCx bv x m) (l:Bool) (h:Hd) (w:World) (H:Zay w h m):Calls Tryz.prog 95 #[.agg (HM.mk h m),.int .i64 bv,.bool l] w (ZrZ w h m bv l (Zm0 (gR l x m) m m.me.length)):=by
 have az:=(Zrr X.hm).2;have R:=run_make_row' (P:=Tryz.prog) 34 3 (.int .i64 0) 8 Tryz.underlying34 (by kernel_rfl) rfl .i64 .i64 m.me.length (by omega) (by omega);rw [Zcn] at R;obtain ⟨j,A⟩:∃ j,j=w.alloc (.cells (HM.mk h m) 26):=⟨_,rfl⟩;have HB:=Zh (show Below w.heap.size w j by rw [A];exact bE);have b:=Zh (show Blk j w.heap.size (HM.mk h m) 26 by rw [A];exact Blk.new _ _ _);have Hj:=Zh (H.old HB.out);have HW:=Zh A;have ai:=Zh X;clear A H X;go_enter Tryz.func95,Tryz.ntmps95
 go_upto_region 1 with fail
 rw [←HW.out];refine rO (Cs [(⟨w.heap.size,0,none⟩,.slice h.co m.cl.length h.cc),(⟨w.heap.size,1,none⟩,.slice h.so m.st.length h.sc),(⟨w.heap.size,2,none⟩,.slice h.eo m.me.length h.ec),(⟨w.heap.size,3,none⟩,.int .i64 m.sel)]) (oL [0,1,2,3,4,5,106,7,108,9]) ⟨b.out.cell 0 rfl,b.out.cell 1 rfl,b.out.cell 2 rfl,b.out.cell 3 rfl,trivial⟩ ?_
 repeat refine pO ?_
 refine oO fun F q=>?_;go_simp;refine q _ _ ⟨Cs.keeps (Zox.of bE) (show Cs _ j from ⟨b.out.cell 0 rfl,b.out.cell 1 rfl,b.out.cell 2 rfl,b.out.cell 3 rfl,trivial⟩),?_⟩;clear q F
 repeat refine pO ?_
 refine oO fun F q=>?_;go_simp;refine q _ _ ⟨Cs.keeps (Zox.of bE) (show Cs _ j from ⟨b.out.cell 0 rfl,b.out.cell 1 rfl,b.out.cell 2 rfl,b.out.cell 3 rfl,trivial⟩),?_⟩;clear q F
 repeat refine pO ?_
 refine Zd5 ?_;go_wp2;clear R;obtain ⟨T,C⟩:∃ T,T=((j.alloc (Obj.cells (Array.replicate m.me.length (Value.int IntKind.i64 0)) 3)).alloc (Obj.cells #[Value.slice h.co m.cl.length h.cc,Value.slice h.so m.st.length h.sc,Value.slice h.eo m.me.length h.ec,Value.int IntKind.i64 m.sel,Value.int IntKind.i64 bv,Value.bool l,Value.slice (some { block:=j.heap.size,off:=0 }) m.me.length m.me.length] 132)).drew:=⟨_,rfl⟩;rw [←C];obtain ⟨g,Y⟩:∃ g,g=j.heap.size:=⟨_,rfl⟩;obtain ⟨B,z⟩:∃ B,B=j.heap.size+1:=⟨_,rfl⟩;have u:=Zh (show Below j.heap.size j T by rw [C];exact bE);have ae:=Zh (show RT T B g h m bv l (ZrU (gR l x m) m 0) from by
  rw [C,Y,z];refine ⟨?_,?_,Hj.out.old bE,ZrV (Nat.zero_le _)⟩
  ·exact Blk.drew (Blk.new' _ _ (by simp))
  ·have:Zp1 (ZrU (gR l x m) m 0)=Array.replicate m.me.length (Value.int IntKind.i64 0):=by unfold Zp1 ZrU Zm0;rw [List.nil_append,Nat.sub_zero,List.map_replicate,List.toArray_replicate]
   rw [this];exact Blk.drew ((Blk.new j _ _).alloc _))
 have n:=Zh (show j.heap.size≤g∧B≠g∧w.heap.size<g by rw [Y,z];have:=b.out.lt;omega);rw [←z,←Y];clear C Y z
 go_loopw [8] (fun i wr=>∃ k:Nat,k≤m.me.length∧i=.int .i64 k∧Hid (RT wr B g h m bv l (ZrU (gR l x m) m k))∧Hid (∀ t,Pl l (Zro (ZrU (gR l x m) m k) t))∧Hid (Upd g g T wr)) (fun i _=>m.me.length-(intOf i).toNat)
 case atStart=>
  refine ⟨0,Nat.zero_le _,rfl,ae.out,fun t=>?_,Upd.refl _ _ _⟩;rw [ZrW];unfold Zm0;exact Pl.of (by show Bd (([]:List Int).getD _ 0);simp [Bd])
 case round=>
  obtain ⟨k,hk,rfl,V,HN,W⟩:=hrel;rename World=>wo;by_cases hkl:k<m.me.length
  ·have aq:(k:Int) < m.me.length:=by omega
   have aA:IntKind.i64.wrap ((k:Int)+1)=((k+1:Nat):Int):=IntWalk.i64_in _ (by omega);have X:=ai.out.at (l:=l) (L:=ZrU (gR l x m) m k) hkl HN.out;have HP:=Zh (ZrN (B:=B) (g:=g) (h:=h) X (cdM m k).length 0 (cdM m k).length (by omega) (Zmq X.ok.n));obtain ⟨I,he,-,-,-,-,-,-,D⟩:=Hj.out.mth hkl;rw [show (m.me.getD k default).k.length=(cdM m k).length from rfl] at D;have J:=Zh (W.out.below u.out (Nat.le_refl _) n.out.1 n.out.1);have O:=Nat.lt_of_lt_of_le (Zac D) n.out.1;have D:=(J.out.cell (Zac D)).trans D;have U:=(b.out.old J.out).cell 2 (v:=.slice h.eo m.me.length h.ec) rfl;rw [he] at U;have ac:=Zh O;have ar:=Zh he;clear O he;have t6:=V.out.tb.cell 6 (v:=.slice (some ⟨g,0,none⟩) m.me.length m.me.length) rfl;have X2:=Zh X;clear X
   go_upto_region 5 with fail
   have ab:=Zh (show Cs [(⟨B,6,none⟩,.slice (some ⟨g,0,none⟩) m.me.length m.me.length),(⟨w.heap.size,2,none⟩,.slice (some I) m.me.length h.ec),(⟨(I.add (k*7)).block,(I.add (k*7)).off+6,none⟩,.slice (h.e k).ko (cdM m k).length (h.e k).kc)] wo from ⟨t6,U,D,trivial⟩);refine rO (Cs [(⟨B,6,none⟩,.slice (some ⟨g,0,none⟩) m.me.length m.me.length),(⟨w.heap.size,2,none⟩,.slice (some I) m.me.length h.ec),(⟨(I.add (k*7)).block,(I.add (k*7)).off+6,none⟩,.slice (h.e k).ko (cdM m k).length (h.e k).kc)]) (oL [0,1,2,3,4,5,6,7,8,9,10,11,12,13,14,15,16,17,18,119,20,121]) ⟨t6,U,D,trivial⟩ ?_;clear t6 U D
   repeat refine pO ?_
   refine oO fun F q=>?_;go_simp;refine (HP.out _ (V.out.old (Below.refl _ _).drew)).mono ?_;rintro e w3 ⟨rfl,M⟩;have E:=Zh (Zaf (Below.refl wo.heap.size wo).drew M);have y:=Zh (V.out.old E.out);have f:=Zh (Cs.keeps (Zox.of E.out) ab.out);refine q _ _ ⟨f.out,?_⟩;clear q F M
   repeat refine pO ?_
   refine oO fun F q=>?_;have g0:=Zp3 y.out.nb (k:=k) (by rw [ZrV hk];exact hkl);have f0:=y.out.nb.frozen k;go_simp;obtain ⟨v,Z⟩:∃ v,v=WA (GR x l m (ZrU (gR l x m) m k)) (cdM m k) 0 (cdM m k).length 0:=⟨_,rfl⟩;rw [←Z];obtain ⟨w4,s⟩:∃ w4,w4=w3.setCell ⟨g,k,none⟩ (.int .i64 v):=⟨_,rfl⟩;have r:Upd g g w3 w4:=by rw [s];exact (Upd.refl g g w3).set k _
   have G:v=Zm1 (gR l x m) m k:=by rw [Z,ZpK];show WA (gR l x m (Zro _)) _ _ _ _=_;rw [ZrW]
   have ag:=Zh (show Pl l v by rw [Z];exact X2.out.wa (Zmq X2.out.ok.n) (Pl.of (by unfold Bd;omega)));have K:=Zh ((W.out.bel E.out).trans r);have af:=Zh (show RT w4 B g h m bv l (ZrU (gR l x m) m (k+1)) from by
    refine ⟨?_,?_,Hj.out.old (K.out.below u.out (Nat.le_refl _) n.out.1 n.out.1),ZrV hkl⟩
    ·rw [s];exact y.out.tb.other (a:=⟨g,k,none⟩) n.out.2.1 _
    ·rw [s,←ZrX hkl,←G];exact Zp2 y.out.nb _)
   rw [←s];refine q _ _ ⟨⟨ZrT f.out.1 r n.out.2.1,ZrT f.out.2.1 r (by have:=n.out.2.2;dsimp only;omega),ZrT f.out.2.2.1 r (by have:=ac.out;omega),trivial⟩,?_⟩;clear q F g0 f0 s r Z;have ah:=Zh G;clear G;refine Zd5 ?_;go_wp2;refine ⟨⟨k+1,hkl,rfl,af.out,fun t=>?_,K.out⟩,by simp [intOf];omega⟩;rw [←ZrX hkl,←ah.out];unfold Zro;rw [Zp4 _ _ _ (by rw [ZrV hk];exact hkl)];split
   ·exact ag.out
   ·exact HN.out t
  ·obtain rfl:k=m.me.length:=by omega
   have ay:¬ (m.me.length:Int) < m.me.length:=by omega
   have U:=(b.out.old (W.out.below u.out (Nat.le_refl _) n.out.1 n.out.1)).cell 2 (v:=.slice h.eo m.me.length h.ec) rfl;go_wp2;go_ret;have hz:ZrU (gR l x m) m m.me.length=Zm0 (gR l x m) m m.me.length:=by unfold ZrU;simp
   exact ⟨⟨B,g,rfl,hz▸V.out⟩,Zaf HB.out (W.out.below u.out (Nat.le_refl _) n.out.1 n.out.1)⟩
end
section
open Go.RowKit
theorem Zr1 {m:Md}{k:Int} (h:ZpR m k=true):(Zmg m).2.2=0:=by unfold ZpR at h;simp only [Bool.and_eq_true,decide_eq_true_eq] at h;exact h.1
theorem Zr2 {m:Md}{k:Nat} (h:(Zmg m).2.2=0) (a:k<m.me.length):Zm1 (gR true ZmV m) m k=Zm1 (gL m) m k:=Zq2 (Zq0 h).1 (Zq0 h).2 (k+1) k (by omega) a
theorem Zr3 {m:Md}{k:Nat} (h:(Zmg m).2.2=0) (a:k<m.me.length):Zm1 (gR false ZmV m) m k=Zm1 (gW ZmV m) m k:=
 Zq1 (Zq0 h).1 (Zq0 h).2 (ZrY h).wt (by decide) (fun q=>by cases q) (k+1) k (by omega) a
section
variable (m:Md) (h:Hd) (k:Int) (w:World) (H:Zay w h m)
include H
theorem Zr4:Calls Tryz.prog 88 #[.agg (HM.mk h m),.int .i64 k] w (Zhf w (.int .i64 (ZpU m k).1) (.int .i64 (ZpU m k).2)):=by
 have HB0:=Zh (show Below w.heap.size w (w.alloc (.cells (HM.mk h m) 26)) by exact bE);have HA:=Zh (ZpY m h k _ (H.old HB0.out));obtain ⟨o,a⟩:∃ r,r=(ZpU m k).1:=⟨_,rfl⟩;obtain ⟨q,b⟩:∃ r,r=(ZpU m k).2:=⟨_,rfl⟩;rw [←a,←b];have HX0:=Zh (Blk.new w (HM.mk h m) 26);have s:=Zh H;rcases hq:ZpR m k with _|_
 ·rw [hq] at HA;have f:o=0:=by rw [a];unfold ZpU;rw [hq];rfl
  have i:q=1:=by rw [b];unfold ZpU;rw [hq];rfl
  have HE:=Zh (And.intro f i);clear H a b hq f i;go_enter Tryz.func88,Tryz.ntmps88
  go_wp2_with (go_at_call 87;refine HA.out.mono ?_;rintro e w1 ⟨rfl,hb1⟩)
  exact j15
 ·rw [hq] at HA;have c:=Zr1 hq;obtain ⟨y,u,x⟩:=ZpS hq;obtain ⟨k,rfl⟩:∃ d:Nat,k=d:=⟨k.toNat,by omega⟩;have hkl:k<m.me.length:=by omega
  have n:(k:Int) < m.me.length:=by omega
  obtain ⟨v,j⟩:∃ v,v=Zm1 (gW ZmV m) m k:=⟨_,rfl⟩;have f:o=if 1000000000<v then 0 else v:=by rw [a,j];unfold ZpU;rw [hq,if_pos rfl,Int.toNat_natCast];split<;>rfl
  have i:q=if 1000000000<v then 6 else 0:=by rw [b,j];unfold ZpU;rw [hq,if_pos rfl,Int.toNat_natCast];split<;>rfl
  have HE:=Zh (And.intro f i);have HT:=Zh (fun w' t=>Zr0 (ZrY c) false h w' (s.out.old (w':=w') t));have HV:=Zh (show (Zm0 (gR false ZmV m) m m.me.length).getD k 0=v by rw [Zm3 _ _ hkl,Zr3 c hkl,j]);clear H a b hq f i j y c;go_enter Tryz.func88,Tryz.ntmps88;exact j4
theorem Zr5:Calls Tryz.prog 43 #[.agg (HM.mk h m),.int .i64 k] w (Zhf w (.int .i64 (Zqw m k).1) (.int .i64 (Zqw m k).2)):=by
 have HB0:=Zh (show Below w.heap.size w (w.alloc (.cells (HM.mk h m) 26)) by exact bE);have HA:=Zh (ZpY m h k _ (H.old HB0.out));obtain ⟨u,a⟩:∃ r,r=(Zqw m k).1:=⟨_,rfl⟩;obtain ⟨x,b⟩:∃ r,r=(Zqw m k).2:=⟨_,rfl⟩;rw [←a,←b];have HX0:=Zh (Blk.new w (HM.mk h m) 26);have y:=Zh H;rcases hq:ZpR m k with _|_
 ·rw [hq] at HA;have f:u=0:=by rw [a];unfold Zqw;rw [hq];rfl
  have i:x=1:=by rw [b];unfold Zqw;rw [hq];rfl
  have HE:=Zh (And.intro f i);clear H a b hq f i;go_enter Tryz.func43,Tryz.ntmps43
  go_wp2_with (go_at_call 87;refine HA.out.mono ?_;rintro e w1 ⟨rfl,hb1⟩)
  exact j15
 ·rw [hq] at HA;have c:=Zr1 hq;obtain ⟨t,A,C⟩:=ZpS hq;obtain ⟨k,rfl⟩:∃ d:Nat,k=d:=⟨k.toNat,by omega⟩;have hkl:k<m.me.length:=by omega
  have s:(k:Int) < m.me.length:=by omega
  obtain ⟨v,n⟩:∃ v,v=Zm1 (gL m) m k:=⟨_,rfl⟩;have j:Bl v:=n▸Zqu t (k+1) k (by omega);have f:u=if v<0 then 0 else if 1000000000<v then 0 else v:=by rw [a,n];unfold Zqw;rw [hq,if_pos rfl,Int.toNat_natCast];split;(· rfl);split<;>rfl
  have i:x=if v<0 then 3 else if 1000000000<v then 6 else 0:=by rw [b,n];unfold Zqw;rw [hq,if_pos rfl,Int.toNat_natCast];split;(· rfl);split<;>rfl
  have HE:=Zh (And.intro f i);have HT:=Zh (fun w' z=>Zr0 (ZrY c) true h w' (y.out.old (w':=w') z));have HV:=Zh (show (Zm0 (gR true ZmV m) m m.me.length).getD k 0=v by rw [Zm3 _ _ hkl,Zr2 c hkl,n]);have q:=Zh j;clear H a b hq f i n t c j;go_enter Tryz.func43,Tryz.ntmps43;by_cases hv1:v=-1
  ·rw [if_pos (by omega),if_pos (by omega)] at HE
   go_wp2_with (first
    | (go_at_call 87;refine HA.out.mono ?_;rintro e w1 ⟨rfl,hb1⟩;have HB1:=Zh (Zaf HB0.out hb1);have HX1:=Zh (HX0.out.old hb1);have x0:=HX1.out.cell 0 (v:=.slice h.co m.cl.length h.cc) rfl;have x1:=HX1.out.cell 1 (v:=.slice h.so m.st.length h.sc) rfl;have x2:=HX1.out.cell 2 (v:=.slice h.eo m.me.length h.ec) rfl;have x3:=HX1.out.cell 3 (v:=.int .i64 m.sel) rfl;clear hb1)
    | (go_at_call 95;refine (HT.out _ HB1.out).mono ?_;rintro e w2 ⟨⟨B,g,rfl,hR⟩,hb2⟩;have HB2:=Zh (Zaf HB1.out hb2);have t6:=hR.tb.cell 6 (v:=.slice (some ⟨g,0,none⟩) m.me.length m.me.length) rfl;have lB:=hR.tb.lt;have n0:=Zp3 hR.nb (k:=k) (by rw [Zm2];exact hkl);rw [HV.out] at n0;clear hb2 hR x0 x1 x2 x3))
   go_ret2;exact Zhg (ZcY HE.out.1.symm) (ZcY HE.out.2.symm) HB2.out
  ·have o:¬ v<0:=by have:=q.out.1;omega
   rw [if_neg o,if_neg o] at HE;exact j4
end
end
section
open Go.RowKit
attribute [local go_sem] World.cell?_alloc_some
def Zr6 (m:Md) (k:Int):Int × Int:=if (Zra m k).2≠0∨(Zra m k).1=false then (0,1) else if (ZpU m k).2≠0 then (0,(ZpU m k).2) else (3*(ZpU m k).1+10,0)
theorem Zr7 {m:Md}{k:Int}:0≤(ZpU m k).1∧(ZpU m k).1≤1000000000:=by
 unfold ZpU;split
 ·rename_i e;obtain ⟨a,f,g⟩:=ZpS e;have b:=ZpL a (x:=ZmV) (fun k d i c=>ZpG ((ZfN a d).i i c).1) (by decide) (k.toNat+1) k.toNat (by omega);unfold Bd at b;split
  ·decide
  ·dsimp only;omega
 ·decide
theorem Zr8 {W w':World}{a b c d:Int} (e:a=c) (f:b=d) (g:Below W.heap.size W w'):Zhf W (.int .i64 a) (.int .i64 b) (.returned (.tuple #[.int .i64 c,.int .i64 d])) w':=by subst e f;exact ⟨rfl,g⟩
section
variable (m:Md) (h:Hd) (k:Int) (w:World) (H:Zay w h m)
include H
theorem Zr9:Calls Tryz.prog 37 #[.agg (HM.mk h m),.int .i64 k] w (Zhf w (.int .i64 (Zr6 m k).1) (.int .i64 (Zr6 m k).2)):=by
 obtain ⟨f,b⟩:∃ f,f=w.alloc (.cells (HM.mk h m) 26):=⟨_,rfl⟩;have r:=Zh (show Below w.heap.size w f by rw [b];exact bE);have A:=Zh (show Blk f w.heap.size (HM.mk h m) 26 by rw [b];exact Blk.new _ _ _);have z:=Zh (H.old r.out);have E:=Zh b;have t:=Zh (Zrc m h k f z.out);have d:=Zh (fun w' (hb:Below f.heap.size f w')=>ZpW m h k w' (z.out.old hb));have j:=Zr7 (m:=m) (k:=k);obtain ⟨⟨K,M⟩,c⟩:∃ R,R=Zr6 m k:=⟨_,rfl⟩;rw [←c];unfold Zr6 at c;obtain ⟨⟨I,J⟩,C⟩:∃ q,q=Zra m k:=⟨_,rfl⟩;obtain ⟨⟨o,Q⟩,n⟩:∃ q,q=ZpU m k:=⟨_,rfl⟩;rw [←C] at t c;rw [←n] at d c j;dsimp only at t d c j ⊢;have D:=Zh c;have F:IntKind.i64.wrap (3*o)=3*o:=IntWalk.i64_in _ (by omega);have G:IntKind.i64.wrap (3*o+10)=3*o+10:=IntWalk.i64_in _ (by omega);clear b H c C n;go_enter Tryz.func37,Tryz.ntmps37
 go_upto_region 1 with fail
 rw [←E.out];obtain ⟨u,v,x,y⟩:=Zj5 A.out
 go_wp2_with (first
  | (go_at_call 35;refine t.out.mono ?_;rintro e O ⟨rfl,g⟩;have a:=Zh g;clear g u v x y;obtain ⟨u,v,x,y⟩:=Zj5 (A.out.old a.out))
  | (go_at_call 54;refine (d.out _ a.out).mono ?_;rintro e P ⟨rfl,i⟩;have s:=Zh (Zaf a.out i);clear i u v x y))
 all_goals
  go_ret2;have c:=D.out
  first
   | (refine Zr8 ?_ ?_ (Zaf r.out s.out)<;>grind)
   | (refine Zr8 ?_ ?_ (Zaf r.out a.out)<;>grind)
theorem Zsa (g:∀ w',Zay w' h m→Calls Tryz.prog 36 #[.agg (HM.mk h m),.int .i64 k] w' (Zhf w' (.bool (Zra m k).1) (.int .i64 (Zra m k).2))):Calls Tryz.prog 38 #[.agg (HM.mk h m),.int .i64 k] w (Zhf w (.int .i64 (Zr6 m k).1) (.int .i64 (Zr6 m k).2)):=by
 obtain ⟨f,b⟩:∃ f,f=w.alloc (.cells (HM.mk h m) 26):=⟨_,rfl⟩;have s:=Zh (show Below w.heap.size w f by rw [b];exact bE);have C:=Zh (show Blk f w.heap.size (HM.mk h m) 26 by rw [b];exact Blk.new _ _ _);have A:=Zh (H.old s.out);have F:=Zh b;have u:=Zh (g f A.out);have d:=Zh (fun w' (hb:Below f.heap.size f w')=>Zr4 m h k w' (A.out.old hb));have n:=Zr7 (m:=m) (k:=k);obtain ⟨⟨M,O⟩,c⟩:∃ R,R=Zr6 m k:=⟨_,rfl⟩;rw [←c];unfold Zr6 at c;obtain ⟨⟨J,K⟩,D⟩:∃ q,q=Zra m k:=⟨_,rfl⟩;obtain ⟨⟨r,S⟩,o⟩:∃ q,q=ZpU m k:=⟨_,rfl⟩;rw [←D] at u c;rw [←o] at d c n;dsimp only at u d c n ⊢;have E:=Zh c;have G:IntKind.i64.wrap (3*r)=3*r:=IntWalk.i64_in _ (by omega);have I:IntKind.i64.wrap (3*r+10)=3*r+10:=IntWalk.i64_in _ (by omega);clear b H g c D o;go_enter Tryz.func38,Tryz.ntmps38
 go_upto_region 1 with fail
 rw [←F.out];obtain ⟨v,x,y,z⟩:=Zj5 C.out
 go_wp2_with (first
  | (go_at_call 36;refine u.out.mono ?_;rintro e P ⟨rfl,i⟩;have a:=Zh i;clear i v x y z;obtain ⟨v,x,y,z⟩:=Zj5 (C.out.old a.out))
  | (go_at_call 88;refine (d.out _ a.out).mono ?_;rintro e Q ⟨rfl,j⟩;have t:=Zh (Zaf a.out j);clear j v x y z))
 all_goals
  go_ret2;have c:=E.out
  first
   | (refine Zr8 ?_ ?_ (Zaf s.out t.out)<;>grind)
   | (refine Zr8 ?_ ?_ (Zaf s.out a.out)<;>grind)
end
end
section
open Go.RowKit
attribute [local go_sem] World.cell?_alloc_some
section
variable {m:Md}{l:List In3}{p:Nat}(h:(l.getD p default).op=29∨(l.getD p default).op=30∨(l.getD p default).op=33)
include m l p h
theorem Zsb (F S:Int):(gHJ m).brk (l.getD p default) F S=ZmS (ZmU (l.getD p default)) (brH (gHJ m) l p F S):=by
 unfold brH;rcases h with q|q|q
 ·rw [if_neg (by omega),if_neg (by omega),Zpu (x:=ZmV) q];rfl
 ·rw [if_pos q,Zpv (x:=ZmV) q];rfl
 ·rw [if_neg (by omega),if_pos q,Zpy (x:=ZmV) q];rfl
theorem Zsc (a:0≤ZmU (l.getD p default)∧ZmU (l.getD p default)≤1000) (F S:Int):(gOJ m).brk (l.getD p default) F S=ZmX (ZmU (l.getD p default)) (brO l p F S):=by
 unfold brO;rcases h with q|q|q
 ·rw [if_neg (by omega),Zp9 (.inl q)]
 ·rw [if_pos q,Zqa q];unfold ZmX ZmS ZmR;rw [if_neg (by omega)];omega
 ·rw [if_neg (by omega),Zp9 (.inr q)]
end
theorem Zsd {g:Wg}{l:List In3}{p:Nat}{F S:Int} (hF:Bd F) (b:Bd S) (c:(l.getD p default).op=30→0≤(l.getD p default).a):0≤brH g l p F S:=by
 have a:0≤ZmS F 1:=by unfold Bd at hF;unfold ZmS ZmR;omega
 unfold Bd at hF b;unfold brH;split
 ·rename_i q;have:=Int.mul_nonneg (c q) a;unfold ZmT ZmR;omega
 ·split<;>(unfold ZmS ZmR at *;omega)
theorem Zse {m:Md}{k:Nat} (X:PlX m k) {p b:Nat} (C:Seg (cdM m k) p b) (y:p<b) :
  let i:=(cdM m k).getD p default
  (ZaR i.op=false∧Zq3 (gHJ m) (cdM m k) p=(ZmU i,p+1)∧Zq3 (gOJ m) (cdM m k) p=(if i.op=28 then -1 else ZmU i,p+1)∧i.op≠34∧i.op≠35) ∨
  (ZaR i.op=true∧∃ (a:Int) (c q:Nat),Mat (cdM m k) p a c∧p<q∧q≤c∧c<(cdM m k).length∧Seg (cdM m k) (p+1) q∧((a=-1∧q=c)∨(a=q∧q<c∧Seg (cdM m k) (q+1) c)) ∧
   Zq3 (gHJ m) (cdM m k) p=(ZmS (ZmU i) (brH (gHJ m) (cdM m k) p (WA (gHJ m) (cdM m k) (p+1) q 0) (if a<0 then 0 else WA (gHJ m) (cdM m k) (q+1) c 0)),c+1) ∧
   Zq3 (gOJ m) (cdM m k) p=(ZmX (ZmU i) (brO (cdM m k) p (WA (gOJ m) (cdM m k) (p+1) q 0) (if a<0 then 0 else WA (gOJ m) (cdM m k) (q+1) c 0)),c+1)):=by
 intro i;have d:p<(cdM m k).length:=by have:=(Zmo C).2;omega
 have v:=ZpG (X.op d).1;rcases hop:ZaR i.op with _|_
 ·left
  obtain ⟨g,j⟩:i.op≠34∧i.op≠35:=by
   rcases ZmK C with e|⟨_,_,u,h4,_⟩|⟨c,f,_⟩|⟨n,c,f,_⟩
   ·omega
   ·exact ⟨u,h4⟩
   ·have o:ZaR i.op=true:=f.2.1;rw [hop] at o;cases o
   ·have o:ZaR i.op=true:=f.2.1;rw [hop] at o;cases o
  have I:=(X.plain d hop g j).1;have s:i.op≠25:=by have J:(0≤i.op∧i.op≤11)∨i.op=27∨i.op=28:=I;omega
  have t:i.op≠26:=by have J:(0≤i.op∧i.op≤11)∨i.op=27∨i.op=28:=I;omega
  have E:¬ ZaR ((cdM m k).getD p default).op=true:=by rw [show ZaR ((cdM m k).getD p default).op=false from hop];decide
  refine ⟨rfl,?_,?_,g,j⟩
  ·unfold Zq3;rw [if_neg E];rw [show (gHJ m).pl ((cdM m k).getD p default)=ZmU i from Zpt s t]
  ·unfold Zq3;rw [if_neg E];by_cases q28:i.op=28
   ·rw [if_pos q28,show (gOJ m).pl ((cdM m k).getD p default)=-1 from Zp7 q28]
   ·rw [if_neg q28,show (gOJ m).pl ((cdM m k).getD p default)=ZmU i from Zp8 s t q28]
 ·right
  obtain ⟨a,c,q,G,z,A,x,D,r⟩:=Zrz (ZmK C) y hop;have u:=(X.opn d hop).1;refine ⟨rfl,a,c,q,G,z,A,x,D,r,?_,?_⟩
  all_goals
   unfold Zq3;rw [if_pos (show ZaR ((cdM m k).getD p default).op=true from hop),Zmn G];dsimp only
   first
   | rw [Zsb u]
   | rw [Zsc u v]
   rcases r with ⟨f,F⟩|⟨f,F,_⟩
   ·rw [if_pos (by omega),if_pos (by omega),F,if_pos (by omega)]
   ·rw [if_neg (by omega),if_neg (by omega),if_neg (by omega),f,Int.toNat_natCast]
section
variable {m:Md}{k:Nat} (X:PlX m k) {N B:Nat}{L:LQ}{ko:Option Addr}{kc:Nat}
include X
theorem Zsf {a b:Nat} (hs:Seg (cdM m k) a b) (hn:∀ (p q en:Nat) (alt:Int),a≤p→p<b→Mat (cdM m k) p alt en→Seg (cdM m k) (p+1) q→((alt=-1∧q=en)∨(alt=q∧q<en∧Seg (cdM m k) (q+1) en))→BrE N B L ko kc m k p q en alt):ZrL N B L ko kc m k a b:=by
 intro w ls sn sc lf cs tn H a1 a8 aH;have a7:=Zmo hs;have b3:(cdM m k).length≤120:=(ZfN X.hm X.hk).z.2.2;have HN:=Zh hn;have O:=Zh X;have HH:=Zh H;have aU:=Zh (And.intro a1 a8);have a0:=H.iv;obtain ⟨aG,ao⟩:∃ v,v=WA (gHJ m) (cdM m k) a b 0:=⟨_,rfl⟩;obtain ⟨bF,x⟩:∃ v,v=WA (gOJ m) (cdM m k) a b 0:=⟨_,rfl⟩;rw [←ao] at aH;rw [←ao,←x];have bp:=Zh (And.intro ao x);have HS:=Zh hs;have aT:=Zh (And.intro aH a0);clear H hn a1 a8 aH ao x hs a0 X;go_enter Tryz.func92,Tryz.ntmps92;go_wp2
 go_loopw [7] (fun i wr=>∃ (p:Nat) (A:List Int) (C r:Nat) (c d:Int) (I:Nat) (hi lo:Int),i=.int .i64 p∧Hid (a≤p∧p≤b∧Seg (cdM m k) p b)∧Hid (EvA N wr B L ko kc (cdM m k) A C r c d I)∧Hid (FrE N w wr)∧Hid (A.length=nlA m k∧C=htA m k p∧sc≤r∧cs≤d∧d-cs≤hi∧Bd hi∧0≤lo∧lo≤d-cs∧c≤lf∧lf-c≤d-cs)∧Hid (aG=WA (gHJ m) (cdM m k) p b hi∧bF=WA (gOJ m) (cdM m k) p b lo)) (fun i _=>b-(intOf i).toNat)
 case atStart=>exact ⟨a,ls,sn,sc,lf,cs,tn,0,0,rfl,⟨Nat.le_refl _,a7.1,HS.out⟩,HH.out,FrE.refl _ _,⟨aU.out.1,aU.out.2,by omega,by omega,by omega,by unfold Bd;omega,by omega,by omega,by omega,by omega⟩,bp.out⟩
 case round=>
  obtain ⟨p,A,C,r,c,d,I,hi,lo,rfl,HP,HE,HF,HC,HW⟩:=hrel;rename World=>wo;by_cases hpb:p<b
  ·have bP:(p:Int) < b:=by omega
   have aq:p<(cdM m k).length:=by have:=(Zmo HP.out.2.2).2;omega
   have bQ:(p:Int) < (cdM m k).length:=by omega
   obtain ⟨s1,s2,s3,s4⟩:=Zq4 (g:=gHJ m) HP.out.2.2 hpb;obtain ⟨-,-,-,t4⟩:=Zq4 (g:=gOJ m) HP.out.2.2 hpb;rw [←ZrC (gHJ m)] at t4;have E:=ZrG O.out.hm O.out.hk HP.out.2.2 hpb;obtain ⟨hv,ho,bB⟩:=O.out.op aq;have P:=ZpG hv;have Q:=Zql hv;have Z:=ZrF O.out.hm O.out.hk s3 (ZoD HC.out.2.2.2.2.2.1 E);have a9:=O.out.st aq;obtain ⟨⟨o,nt⟩,hq⟩:∃ q,q=Zq3 (gHJ m) (cdM m k) p:=⟨_,rfl⟩;obtain ⟨⟨y1,b6⟩,ac⟩:∃ q,q=Zq3 (gOJ m) (cdM m k) p:=⟨_,rfl⟩;rw [←hq] at s1 s2 s3 s4 t4 E Z;rw [←ac] at t4;dsimp only at s1 s2 s3 s4 t4 E Z;have s4:=s4 hi;rw [show (gHJ m).plus hi o=ZmS hi o from rfl] at s4;rw [←s4,←HW.out.1] at Z;have ad:hi+o≤aG:=by have h1:=aT.out;have h2:=HC.out.2.2.2.2.2.1;unfold Bd at E h2;unfold ZmS ZmR at Z;omega
   have R:=Zh (And.intro s1 (And.intro s2 (And.intro s3 (And.intro s4 (And.intro (t4 lo) (And.intro ad E))))));obtain ⟨-,kb,c0,c1,-,c3,-⟩:=HE.out.cells;obtain ⟨ca,aE,o0,o1,o2⟩:=ZaA HE.out.k aq
   -- the item
   rw [aE] at c0;have bY:=Zh aE;have x:=ZrI a9;have bz:=Zse O.out HP.out.2.2 hpb;obtain ⟨i,f⟩:∃ i,i=(cdM m k).getD p default:=⟨_,rfl⟩;have j:=fun J (H':EvA N J B L ko kc (cdM m k) A C r c d I) (h0:0<c)=>Zqm H' _ hv h0;have ht:=O.out.le (p:=p) (by omega);obtain ⟨v,G⟩:∃ v,v=ZmU i:=⟨_,rfl⟩;rw [←f] at o0 o1 o2 hv ho P Q x j;rw [←G] at P Q j;obtain ⟨w1,ar⟩:∃ w1,w1=wo.alloc (.cells #[.int .i64 i.op,.int .i64 i.a,.int .i64 i.b] 78):=⟨_,rfl⟩;have aC:Below wo.heap.size wo w1:=by rw [ar];exact bE
   have HI:=Zh (show Blk w1 wo.heap.size #[.int .i64 i.op,.int .i64 i.a,.int .i64 i.b] 78 by rw [ar];exact Blk.new _ _ _);have ak:=Zh (HE.out.old aC);have aS:=Zh (HF.out.trans (FrE.of HE.out.lo aC));have am:=Zh ar;have M:=HE.out.iv;have F:=HC.out;have K:=aT.out;have ap:hi≤aG-o∧o≤c:=by omega
   clear ar aC Z s1 s2 s3 a9 bB aE;rcases bz with ⟨y,g1,g2,aY,aZ⟩|⟨y,alt,en,q,hM,a4,a5,b4,aK,aF,g1,g2⟩
   ·have ay:=O.out.plain aq y aY aZ;rw [←hq,←f,←G] at g1;rw [←ac,←f,←G] at g2;rw [←f] at ay y;obtain ⟨r1,r2,r3⟩:=ay;obtain ⟨rfl,rfl⟩:=Prod.mk.inj g1;obtain ⟨rfl,-⟩:=Prod.mk.inj g2;have s:=Zh (fun J H'=>j J H' (by omega));have aW:=Zh (fun J (H':EvA N J B L ko kc (cdM m k) A C r (c-1) (d+o) I)=>Zqt H' i r1 (by omega) (by omega) (fun e=>by have h1:=x.1 e;have h2:=ho.a0 (by omega);have h3:=F.1;unfold nlA at h3;omega) (ZrJ hv) (by omega));have HR:=Zh (And.intro r2 r3);have bA:¬ c≤0:=by omega
    have W:=Zh y;have V:=Zh (And.intro P (And.intro Q (And.intro ap (And.intro M (And.intro F K)))));clear j r1 r2 r3 y P Q ap M F K x ho hv f G aY aZ hq ac g1 g2 ad E s4 t4 ht;obtain ⟨op,ia,ib⟩:=i;dsimp only at o0 o1 o2 am HI s aW W HR
    go_upto_region 4 with fail
    rw [←am.out];have x0:=HI.out.cell 0 (v:=.int .i64 op) rfl;have o:=HI.out.cell 1 (v:=.int .i64 ia) rfl;have x2:=HI.out.cell 2 (v:=.int .i64 ib) rfl;obtain ⟨-,-,-,-,-,c3,-⟩:=ak.out.cells;clear c0 c1 o0 o1 o2 kb
    go_upto_region 12 with (first|(go_at_call 150;refine (s.out _ ak.out).mono ?_;rintro e w2 ⟨rfl,Y,hF⟩;have D:=Zh (hF.2 _ _ _ (by decide) (by decide) (by decide) HI.out);have az:=Zh Y;have aA:=Zh (aS.out.trans hF);clear Y hF c3 x0 o x2;have x0:=D.out.cell 0 (v:=.int .i64 op) rfl;have o:=D.out.cell 1 (v:=.int .i64 ia) rfl;have x2:=D.out.cell 2 (v:=.int .i64 ib) rfl)|(go_at_call 151;refine (ZeO _ _).mono ?_;rintro e J ⟨rfl,rfl⟩;rw [W.out])|(go_at_call 153;refine (aW.out _ az.out).mono ?_;rintro e w3 ⟨t,ae,ag,af,ah,rfl,Y,hq,hF⟩;have T:=Zh Y;have U:=Zh (aA.out.trans hF);have u:=Zh hq;clear Y hF hq x0 o x2))
    by_cases htz:t=0
    ·subst htz;have HZ:=Zh (u.out.2.2.2.1 rfl);have bw:op≠28:=fun e=>u.out.2.2.2.2 e rfl;have br:=Zh (show WA (gOJ m) (cdM m k) p b lo=WA (gOJ m) (cdM m k) (p+1) b (ZmX lo o) by have:=R.out.2.2.2.2.1;rw [if_neg bw] at this;exact this);go_wp2;refine ⟨⟨p+1,ae,ag,af,c-1,d+o,ah,ZmS hi o,ZmX lo o,by go_num,⟨by have:=HP.out.1;omega,by omega,R.out.2.2.1⟩,T.out,U.out,⟨?_,?_,?_,?_,?_,?_,?_,?_,?_,?_⟩,⟨HW.out.1.trans R.out.2.2.2.1,HW.out.2.trans br.out⟩⟩,?_⟩
     all_goals
      have n:=V.out;have z:=HZ.out;have rr:=HR.out;have S:=u.out
      first
      | omega
      | exact S.2.1.trans n.2.2.2.2.1.1
      | (exact ZoD n.2.2.2.2.1.2.2.2.2.2.1 R.out.2.2.2.2.2.2)
      | (unfold ZmX ZmS ZmR;split<;>omega)
      | (unfold ZmS ZmR;omega)
      | (simp [intOf];omega)
    ·go_wp2;go_ret;have n:=V.out;have S:=u.out;exact ⟨t,ae,ag,af,_,_,ah,rfl,T.out,⟨S.1,S.2.1.trans n.2.2.2.2.1.1,by omega,by omega,by omega,by omega,by omega,fun e=>absurd e htz⟩,U.out⟩
   ·rw [←hq,←f,←G] at g1;rw [←ac,←f,←G] at g2;rw [←f] at y;have aI:0≤brH (gHJ m) (cdM m k) p (WA (gHJ m) (cdM m k) (p+1) q 0) (if alt<0 then 0 else WA (gHJ m) (cdM m k) (q+1) en 0):=by
     refine Zsd (ZrE O.out.hm O.out.hk aK (by unfold Bd;omega)) ?_ (fun e=>by rw [←f] at e ⊢;exact ho.a0 (by omega));rcases aF with ⟨h1,h2⟩|⟨h1,h2,h3⟩
     ·rw [if_pos (by omega)];unfold Bd;omega
     ·rw [if_neg (by omega)];exact ZrE O.out.hm O.out.hk h3 (by unfold Bd;omega)
    obtain ⟨bH,an⟩:∃ z,z=brH (gHJ m) (cdM m k) p (WA (gHJ m) (cdM m k) (p+1) q 0) (if alt<0 then 0 else WA (gHJ m) (cdM m k) (q+1) en 0):=⟨_,rfl⟩;obtain ⟨bO,aD⟩:∃ z,z=brO (cdM m k) p (WA (gOJ m) (cdM m k) (p+1) q 0) (if alt<0 then 0 else WA (gOJ m) (cdM m k) (q+1) en 0):=⟨_,rfl⟩;rw [←an] at g1 aI;rw [←aD] at g2;obtain ⟨e1,rfl⟩:=Prod.mk.inj g1;obtain ⟨e2,-⟩:=Prod.mk.inj g2;have hx:o=v+bH:=by unfold ZmS ZmR at e1;omega
    have aQ:=Zh (show ∀ J (H':EvA N J B L ko kc (cdM m k) A C r (c-1) (d+v) I),Calls Tryz.prog 152 #[ZQ.p B,.int .i64 p] J (EvB N J B L ko kc (cdM m k) (nlA m k) r (c-1) (d+v) bH bO (htA m k (en+1)) en) from fun J H'=>by
     have h:=HN.out p q en alt HP.out.1 hpb hM aK aF J A C r (c-1) (d+v) I H' F.1 F.2.1 (by rw [←an];omega) (by omega);rw [←an,←aD] at h;exact h)
    have s:=Zh (fun J H'=>j J H' (by omega));have bA:¬ c≤0:=by omega
    have W:=Zh y;have aR:=Zh (And.intro hx (And.intro e2 aI));have aV:=Zh (And.intro a4 a5);have V:=Zh (And.intro P (And.intro Q (And.intro ap (And.intro M (And.intro F K)))));clear j y P Q ap M F K x ho hv f G hq ac g1 g2 ad E s4 t4 ht aI an aD hM aK aF hx e1 e2 a4 a5;obtain ⟨op,ia,ib⟩:=i;dsimp only at o0 o1 o2 am HI s aQ W
    go_upto_region 4 with fail
    rw [←am.out];have x0:=HI.out.cell 0 (v:=.int .i64 op) rfl;have o:=HI.out.cell 1 (v:=.int .i64 ia) rfl;have x2:=HI.out.cell 2 (v:=.int .i64 ib) rfl;obtain ⟨-,-,-,-,-,c3,-⟩:=ak.out.cells;clear c0 c1 o0 o1 o2 kb
    go_upto_region 12 with (first|(go_at_call 150;refine (s.out _ ak.out).mono ?_;rintro e w2 ⟨rfl,Y,hF⟩;have D:=Zh (hF.2 _ _ _ (by decide) (by decide) (by decide) HI.out);have az:=Zh Y;have aA:=Zh (aS.out.trans hF);clear Y hF c3 x0 o x2;have x0:=D.out.cell 0 (v:=.int .i64 op) rfl;have o:=D.out.cell 1 (v:=.int .i64 ia) rfl;have x2:=D.out.cell 2 (v:=.int .i64 ib) rfl)|(go_at_call 151;refine (ZeO _ _).mono ?_;rintro e J ⟨rfl,rfl⟩;rw [W.out])|(go_at_call 152;refine (aQ.out _ az.out).mono ?_;rintro e w3 ⟨t,nx,ae,ag,af,bD,bu,ah,rfl,Y,hq,a2,hF⟩;have T:=Zh Y;have U:=Zh (aA.out.trans hF);have u:=Zh hq;have bq:=Zh a2;clear Y hF hq a2 x0 o x2))
    by_cases htz:t=0
    ·subst htz;obtain rfl:=bq.out rfl;have HZ:=Zh (u.out.2.2.2.2.2.2.2 rfl);go_wp2;refine ⟨⟨en+1,ae,ag,af,bD,bu,ah,ZmS hi o,ZmX lo y1,rfl,⟨by have:=HP.out.1;have:=aV.out;omega,R.out.2.1,R.out.2.2.1⟩,T.out,U.out,⟨?_,?_,?_,?_,?_,?_,?_,?_,?_,?_⟩,⟨HW.out.1.trans R.out.2.2.2.1,HW.out.2.trans R.out.2.2.2.2.1⟩⟩,?_⟩
     all_goals
      have n:=V.out;have z:=HZ.out;have S:=u.out;unfold EvQ at S;have ee:=aR.out;have hs:=R.out.2.2.2.2.2.1
      first
      | exact S.2.1
      | exact z.1
      | (exact ZoD n.2.2.2.2.1.2.2.2.2.2.1 R.out.2.2.2.2.2.2)
      | omega
      | (rw [ee.2.1];unfold ZmX ZmS ZmR;split<;>(try split)<;>omega)
      | (unfold ZmS ZmR;omega)
      | (have:=aV.out;have:=R.out.2.1;simp [intOf];omega)
    ·go_wp2;go_ret;have n:=V.out;have S:=u.out;unfold EvQ at S;have ee:=aR.out;have hs:=R.out.2.2.2.2.2.1;exact ⟨t,ae,ag,af,_,_,ah,rfl,T.out,⟨S.1,S.2.1,by have:=S.2.2.1;omega,by omega,by omega,by omega,by omega,fun e=>absurd e htz⟩,U.out⟩
  ·obtain rfl:p=b:=by have:=HP.out.2.1;omega
   go_wp2;go_ret;have e1:=HW.out.1;have e2:=HW.out.2;rw [Zmv] at e1 e2;have hc:=HC.out;exact ⟨0,A,C,r,c,d,I,rfl,HE.out,⟨by omega,hc.1,hc.2.2.1,hc.2.2.2.1,by omega,by omega,by omega,fun _=>⟨hc.2.1,by omega,by omega⟩⟩,HF.out⟩
end
end
