import Derived.Test.YtfmcclhfnpcokaaGreatU35
set_option linter.all false
set_option maxRecDepth 100000
set_option maxHeartbeats 32000000
namespace Go.Proofs.YtfmcclhfnpcokaaGreat
theorem j5{p:Prop}(h:p:=by
 go_wp2;exact bodyPost_end (v:=.tuple #[]) (by simp [results,Tryz.results79,go_sem]) rfl ⟨rfl,⟨(u0,u1,u2),nx3,l,HGr.out,HEn.out,HLf.out⟩,HUr.out⟩):p:=h
section
open Go.RowKit
attribute [local go_sem] World.cell?_alloc_some
theorem ZrU {w:World}{ao:Option Addr}{cap:Nat}{l:List SH} (h:Zas w ao cap l) {i:Nat} (b:i<l.length):∃ a,ao=some a∧w.cell? (a.add i)=some (.slice (l.getD i default).ao (l.getD i default).n (l.getD i default).c):=by
 obtain ⟨a,rfl⟩:=h.some (by omega);have c:l.getD i default=l[i]:=by simp [b]
 rw [c];have:=h.cell b 0 (v:=.slice l[i].ao l[i].n l[i].c) rfl;rw [show i*Cells.n SH=i from Nat.mul_one i] at this;exact ⟨a,rfl,this⟩
end
section
open Go.RowKit
attribute [local go_sem] World.cell?_alloc_some
structure GwK where
 wb:World
 h:Hd
 m:Md
 no:Option Addr
 nc:Nat
 rows:List SH
 ho:Option Addr
 hc:Nat
 chs:List Int
 N:Nat
structure ZrV (K:GwK):Prop where
 ok:okL K.m
 md:Zaz K.wb K.h K.m
 nr:Zas K.wb K.no K.nc K.rows
 nl:K.rows.length=K.m.cl.length
 ns:ZrM K.wb K.N K.m K.rows
 cr:Zas K.wb K.ho K.hc K.chs
 cl:K.chs.length≤1000
structure ZrW (K:GwK) (w:World) (G:Nat) (B:T3) (nx lf:Nat):Prop where
 bk:Blk w G #[.slice K.h.co K.m.cl.length K.h.cc,.slice K.h.so K.m.st.length K.h.sc,.slice K.h.eo K.m.me.length K.h.ec,.int .i64 K.m.sel,.slice K.no K.rows.length K.nc,.slice K.ho K.chs.length K.hc,.int .i64 nx,.int .i64 lf,.int .i64 B.1,.int .i64 B.2.1,.int .i64 B.2.2] 109
 bw:Below K.wb.heap.size K.wb w
 ge:K.wb.heap.size≤G
 nx:nx≤K.chs.length
 lf:lf≤300
 bd:BdT B
theorem ZrW.old {K:GwK}{w w':World}{G:Nat}{B:T3}{nx lf:Nat} (H:ZrW K w G B nx lf) (hb:Below w.heap.size w w'):ZrW K w' G B nx lf:=⟨H.bk.old hb,Zag H.bw hb,H.ge,H.nx,H.lf,H.bd⟩
theorem ZrW.setN {K:GwK}{w:World}{G:Nat}{B:T3}{nx lf:Nat} (H:ZrW K w G B nx lf) {n:Nat} (hn:n≤K.chs.length):ZrW K (w.setCell ⟨G,6,none⟩ (.int .i64 (n:Int))) G B n lf:=
 ⟨H.bk.set 6 (.int .i64 (n:Int)),H.bw.setCell (p:=⟨G,6,none⟩) H.ge _,H.ge,hn,H.lf,H.bd⟩
theorem ZrW.setL {K:GwK}{w:World}{G:Nat}{B:T3}{nx lf:Nat} (H:ZrW K w G B nx lf) {n:Nat} (hn:n≤300):ZrW K (w.setCell ⟨G,7,none⟩ (.int .i64 (n:Int))) G B nx n:=
 ⟨H.bk.set 7 (.int .i64 (n:Int)),H.bw.setCell (p:=⟨G,7,none⟩) H.ge _,H.ge,H.nx,hn,H.bd⟩
theorem ZrW.setB {K:GwK}{w:World}{G:Nat}{B C:T3}{nx lf:Nat} (H:ZrW K w G B nx lf) (hC:BdT C):ZrW K (((w.setCell ⟨G,8,none⟩ (.int .i64 C.1)).setCell ⟨G,9,none⟩ (.int .i64 C.2.1)).setCell ⟨G,10,none⟩ (.int .i64 C.2.2)) G C nx lf:=
 ⟨((H.bk.set 8 (.int .i64 C.1)).set 9 (.int .i64 C.2.1)).set 10 (.int .i64 C.2.2),((H.bw.setCell (p:=⟨G,8,none⟩) H.ge _).setCell (p:=⟨G,9,none⟩) H.ge _).setCell (p:=⟨G,10,none⟩) H.ge _,H.ge,H.nx,H.lf,hC⟩
theorem ZrX (w:World) (G i:Nat) (v:Value):UpL [G] w (w.setCell ⟨G,i,none⟩ v):=
 ⟨rfl,rfl,rfl,by simp [World.setCell],fun k _ h=>heap_setCell_other w _ k v (by simpa using h)⟩
def ZrY (K:GwK) (w:World) (G:Nat) (B:T3) (lf n:Nat):Ending→World→Prop:=fun e w'=>∃ (k nx:Nat),e=.returned (.int .i64 k)∧ZrW K w' G B nx lf∧(1≤n→k<n)∧UpL [G] w w'
theorem ZrZ {K:GwK} (r:ZrV K) {G:Nat}{B:T3}{a lf:Nat} (n:Nat) (P:n≤1000000) (w:World) (H:ZrW K w G B a lf):Calls Tryz.prog 139 #[ZQ.p G,.int .i64 n] w (ZrY K w G B lf n):=by
 have y:=H.bk.cell 5 (v:=.slice K.ho K.chs.length K.hc) rfl;have M:=H.bk.cell 6 (v:=.int .i64 a) rfl;have L:=H.bk.frozen 6;have N:=H.bk.lt;have l:=Zh H;have C:=r.cl;have k:=Zh (r.cr.old H.bw);by_cases hq:a<K.chs.length∧1≤n
 ·obtain ⟨f,o⟩:=hq;have z:(a:Int) < K.chs.length:=by omega
  have A:¬ (n:Int) < 1:=by omega
  have q:(n:Int)≠0:=by omega
  have D:((n:Int) == 0)=false:=by simpa using q
  obtain ⟨J,d,x⟩:=ZaC k.out f;rw [d] at y;have t:=Zh d;generalize K.chs.getD a 0=c at x;have E:IntKind.i64.wrap ((a:Int)+1)=((a+1:Nat):Int):=IntWalk.i64_in _ (by omega);have i:-(n:Int) < c.tmod n:=by have:=Int.lt_tmod_of_pos c (show (0:Int) < n by omega);omega
  have j:c.tmod n<n:=Int.tmod_lt_of_pos c (by omega);have F:IntKind.i64.wrap (c.tmod n)=c.tmod n:=IntWalk.i64_in _ (by omega);have s:IntKind.i64.wrap (c.tmod n+n)=c.tmod n+n:=IntWalk.i64_in _ (by omega);have m:=Zh (And.intro i j);have g:=Zh f;clear H i j d;go_enter Tryz.func139,Tryz.ntmps139;go_wp2
  go_quiet (fail)
  go_wp2
  go_quiet (fail)
  go_wp2
  ·rename_i e;have b:=Zh e;go_ret;refine ⟨(c.tmod n+n).toNat,a+1,?_,?_,fun _=>?_,(UpL.of (ZcQ (Below.refl _ _) _)).trans (ZrX _ G 6 _)⟩
   ·have I:=m.out;show Ending.returned (.int .i64 (c.tmod n+n))=_;rw [Int.toNat_of_nonneg (by omega)]
   ·exact (l.out.old (ZcQ (Below.refl _ _) _)).setN (n:=a+1) (by have:=g.out;omega)
   ·have:=m.out;have:=b.out;omega
  ·rename_i e;have b:=Zh e;go_ret;refine ⟨(c.tmod n).toNat,a+1,?_,?_,fun _=>?_,(UpL.of (ZcQ (Below.refl _ _) _)).trans (ZrX _ G 6 _)⟩
   ·have I:=b.out;show Ending.returned (.int .i64 (c.tmod n))=_;rw [Int.toNat_of_nonneg (by omega)]
   ·exact (l.out.old (ZcQ (Below.refl _ _) _)).setN (n:=a+1) (by have:=g.out;omega)
   ·have:=m.out;have:=b.out;omega
 ·have h:(¬ (a:Int) < K.chs.length)∨((a:Int) < K.chs.length∧(n:Int) < 1):=by omega
  clear hq;have u:=Zh (show ¬ (a<K.chs.length∧1≤n) by omega);have p:(decide (K.chs.length≤a)=true)∨(decide (K.chs.length≤a)=false∧(n:Int) < 1):=by
   rcases h with f|⟨f,o⟩
   ·exact .inl (decide_eq_true (by omega))
   ·exact .inr ⟨decide_eq_false (by omega),o⟩
  clear h;rcases p with f|⟨f,o⟩
  all_goals
   go_enter Tryz.func139,Tryz.ntmps139;go_wp2
   go_quiet (fail)
   go_wp2;go_ret;exact ⟨0,a,rfl,l.out.old (ZcQ (Below.refl _ _) _),fun O=>by omega,UpL.of (ZcQ (Below.refl _ _) _)⟩
end
section
open Go.RowKit
attribute [local go_sem] World.cell?_alloc_some
def Zr0 (K:GwK) (w:World) (G:Nat) (B x:T3) (lf:Nat):Ending→World→Prop:=fun e w'=>e=.returned (.tuple #[])∧(∃ (C:T3) (nx' lf':Nat),ZrW K w' G C nx' lf'∧LeT C (plT B x)∧lf'≤lf)∧UpL [G] w w'
def Zr1 (K:GwK) (G n:Nat):Prop:=∀ w B nx lf t x,lf≤n→ZrW K w G B nx lf→Zfk K.m t→Zm3 K.m t=some x→Calls Tryz.prog 79 #[ZQ.p G,.agg #[.int .i64 t.k,.int .i64 t.c]] w (Zr0 K w G B x lf)
theorem ZrW.blk4 {K:GwK}{w:World}{G:Nat}{B:T3}{nx lf:Nat} (H:ZrW K w G B nx lf):w.cell? ⟨G,7,none⟩=some (.int .i64 lf)∧w.frozen? ⟨G,7,none⟩=false∧G<w.heap.size:=⟨H.bk.cell 7 rfl,H.bk.frozen 7,H.bk.lt⟩
theorem LeT.plM {a b x:T3} (h:LeT a b):LeT (plT a x) (plT b x):=LeT.pl h ⟨Int.le_refl _,Int.le_refl _,Int.le_refl _⟩
theorem LeT.plR {a b x:T3} (h:LeT a b):LeT (plT x a) (plT x b):=LeT.pl ⟨Int.le_refl _,Int.le_refl _,Int.le_refl _⟩ h
theorem LeT.tr {a b c:T3} (h:LeT a b) (g:LeT b c):LeT a c:=⟨Int.le_trans h.1 g.1,Int.le_trans h.2.1 g.2.1,Int.le_trans h.2.2 g.2.2⟩
theorem Zr2 {F:Ty→Option T3}:∀ {l:List Ty}{a s:T3},ZmZ F a l=some s→∀ t∈l,∃ x,F t=some x
 |t :: r,a,s,e,u,hu=>by
  obtain ⟨x,c,b⟩:=Zqz e;rcases List.mem_cons.1 hu with rfl|hu
  ·exact ⟨x,c⟩
  ·exact Zr2 b u hu
theorem Zr3 {m:Md} (f:Za2 m=true) {t:Ty} (j:Zfk m t) (a:t.k=3∨t.k=4) {n:Nat} (g:(n:Int)∈ZmR m t) {x:T3} (e:Zm3 m t=some x) :
  ∃ y,(t.k=4→0<n→Zm2 m t.c.toNat=some y)∧BdT y∧LeT (plT (ZmD n true) (mlT y n)) x:=by
 have d:=Zor f (t:=t) n g;have i:=ZmO (n:=(n:Int)) (b:=true) d.1 (by omega);have l:∀ n:Int,mlT z3 n=z3:=fun n=>by unfold mlT z3;simp only [Int.zero_mul];rfl
 rcases a with a|a
 ·refine ⟨z3,fun q=>by omega,.z,?_⟩;rw [l,Zo2 i];exact Zqx a g e
 ·rcases Zqy f j a g e with ⟨rfl,c⟩|⟨y,k,c⟩
  ·refine ⟨z3,fun _ h=>absurd h (Nat.lt_irrefl _),.z,?_⟩;rw [l,Zo2 i];exact c
  ·exact ⟨y,fun _ _=>k,ZoD f (by have:=ZfH j (.inr a);omega) k,c⟩
theorem Zr4 {m:Md}{c:Int} (h:0≤c∧c<m.cl.length):Zfk m ⟨2,c⟩:=by unfold Zfk ZaG;simp [h.1,h.2]
theorem Zr5 {m:Md}{t:Ty} (h:Zfk m t) (a:¬ t.k=1) (b:¬ t.k=2):t.k=3∨t.k=4:=by
 unfold Zfk ZaG at h;split at h
 ·omega
 ·split at h
  ·simp only [Bool.and_eq_true,decide_eq_true_eq] at h;omega
  ·cases h
theorem Zr6 {K:GwK} (hK:ZrV K) {G:Nat} (n:Nat) (ih:∀ j,j<n→Zr1 K G j):Zr1 K G n:=by
 intro w B nx lf t x cZ H ht hx;have hv:=hK.ok.v;obtain ⟨w0,aJ⟩:∃ w0,w0=w.alloc (.cells #[.int .i64 t.k,.int .i64 t.c] 38):=⟨_,rfl⟩;have ay:=Zh (show Below w.heap.size w w0 by rw [aJ];exact bE);obtain ⟨X,hX⟩:∃ X,X=w.heap.size:=⟨_,rfl⟩;have HT:=Zh (show Blk w0 X #[.int .i64 t.k,.int .i64 t.c] 38 by rw [aJ,hX];exact Blk.new _ _ _);have HW:=Zh aJ;have aZ:=Zh hX;have HG:=Zh (H.old ay.out);have b5:=ZoE hv ht hx;have Y:=Zh (show X≠G by have:=H.bk.lt;omega);have an:=Zh (LeT.pl_l H.bd b5);have T:=Zh hK;have aV:=Zh (fun (C:T3) (n' l' q:Nat) (hq:q≤1000000) w' (h':ZrW K w' G C n' l')=>ZrZ hK q hq w' h');have bB:=Zh hx;have aE:=Zh ht;have cQ:=H.lf;obtain ⟨R,W⟩:=t;dsimp only at HT HW;clear aJ hX H hv b5 hx ht;by_cases q1:R=1
 ·subst q1;go_enter Tryz.func79,Tryz.ntmps79
  go_upto_region 1 with fail
  rw [←HW.out,←aZ.out];obtain ⟨t0,t1⟩:=Zj9 HT.out
  go_wp2_with fail
  exact bodyPost_ret (v:=.tuple #[]) (by simp [results,Tryz.results79,go_sem]) rfl ⟨rfl,⟨B,nx,lf,HG.out,an.out,Nat.le_refl _⟩,UpL.of ay.out⟩
 have c2:(R == 1)=false:=by simpa using q1
 by_cases ql:lf=0
 ·subst ql;go_enter Tryz.func79,Tryz.ntmps79
  go_upto_region 1 with fail
  rw [←HW.out,←aZ.out];obtain ⟨t0,t1⟩:=Zj9 HT.out;obtain ⟨g7,-,-⟩:=HG.out.blk4
  go_wp2_with fail
  exact bodyPost_ret (v:=.tuple #[]) (by simp [results,Tryz.results79,go_sem]) rfl ⟨rfl,⟨B,nx,0,HG.out,an.out,Nat.le_refl _⟩,UpL.of ay.out⟩
 have cF:(0:Int) < lf:=by omega
 have cH:IntKind.i64.wrap ((lf:Int)-1)=((lf-1:Nat):Int):=by rw [IntWalk.i64_in _ (by omega)];omega
 have aT:=Zh (ih (lf-1) (by omega));go_enter Tryz.func79,Tryz.ntmps79
 go_upto_region 1 with fail
 rw [←HW.out,←aZ.out];obtain ⟨t0,t1⟩:=Zj9 HT.out;obtain ⟨g7,-,-⟩:=HG.out.blk4
 go_upto_region 2 with (go_at_call 139;refine (aV.out _ _ _ 4 (by omega) _ HG.out).mono ?_;rintro e w1 ⟨k1,be,rfl,bK,-,bb⟩;have aS:=Zh bK;have cq:=Zh (bb.blk HT.out (by simpa using Y.out));have bx:=Zh ((UpL.of ay.out).trans bb);clear bK bb t0 t1 g7)
 ·exact bodyPost_ret (v:=.tuple #[]) (by simp [results,Tryz.results79,go_sem]) rfl ⟨rfl,⟨B,be,lf,aS.out,an.out,Nat.le_refl _⟩,bx.out⟩
 obtain ⟨g7,f7,gl⟩:=aS.out.blk4
 go_upto_region 3 with fail
 clear g7 f7 gl;have D:=Zh (aS.out.setL (n:=lf-1) (by omega));have aa:=Zh (cq.out.other (a:=⟨G,7,none⟩) Y.out (.int .i64 ((lf-1:Nat):Int)));have aF:=Zh (bx.out.trans (ZrX w1 G 7 (.int .i64 ((lf-1:Nat):Int))));have HLf:=Zh (show lf-1≤lf by omega);generalize w1.setCell ⟨G,7,none⟩ (.int .i64 ((lf-1:Nat):Int))=w2 at D aa aF ⊢;generalize lf-1=l at D aT HLf;clear cH cF ql;by_cases q2:R=2
 ·subst q2;have O:=ZfH aE.out (.inl rfl);dsimp only at O;obtain ⟨d,rfl⟩:∃ d:Nat,W=d:=⟨W.toNat,by omega⟩;have hd:d<K.m.cl.length:=by omega
  have bJ:d<K.rows.length:=by rw [T.out.nl];exact hd
  have cP:(d:Int) < K.rows.length:=by omega
  have b4:Zm2 K.m d=some x:=by have:=bB.out;rwa [Zrq rfl,Int.toNat_natCast] at this
  have cx:=Zh b4;obtain ⟨ra,bU,rc⟩:=ZrU (T.out.nr.old D.out.bw) bJ;obtain ⟨bV,bW⟩:=T.out.ns d bJ;rw [bV] at rc;have aC:=Zh (Zas.of_own (α:=Int) (by rw [Zau];exact bW));generalize (K.rows.getD d default).ao=ao at rc aC;generalize (K.rows.getD d default).c=bD at rc aC;have t1:=aa.out.cell 1 (v:=.int .i64 d) rfl;have t0:=aa.out.cell 0 (v:=.int .i64 2) rfl;have g4:=D.out.bk.cell 4 (v:=.slice K.no K.rows.length K.nc) rfl;rw [bU] at g4;have bt:=Zh (show ∀ k,k<(ZmX K.m d).length→∃ c,(nwI K.m d).getD k 0=((c:Nat):Int)∧c∈ZmX K.m d from fun k hk=>⟨(ZmX K.m d)[k],by unfold nwI;simp [hk],List.getElem_mem hk⟩);have a9:(ZmX K.m d).length≤10:=by have:=List.length_filter_le (fun e=>ZaI K.m (e+1) e d&&ZmW K.m e) (List.range K.m.cl.length);rw [List.length_range] at this;have:=(Zir T.out.ok.v).1;unfold ZmX;omega
  have V:=Zh (ZrP K.m d);clear bV bW bU b4 O;generalize (ZmX K.m d).length=L at rc bt a9 V
  go_upto_region 4 with fail
  refine rO (Cs [(⟨G,4,none⟩,.slice (some ra) K.rows.length K.nc),(⟨X,1,none⟩,.int .i64 d),(ra.add d,.slice ao L bD)]) (oL [0,1,2,3,4,5,6,7,8]) ⟨g4,t1,rc,trivial⟩ ?_;clear g4 t1 rc t0
  repeat refine pO ?_
  refine Zd7 ?_;by_cases hL:L=0
  ·subst hL;go_wp2;exact bodyPost_ret (v:=.tuple #[]) (by simp [results,Tryz.results79,go_sem]) rfl ⟨rfl,⟨B,be,l,D.out.old (Below.refl _ _).drew,an.out,HLf.out⟩,aF.out.trans (UpL.of (Below.refl _ _).drew)⟩
  have a3:((L:Int) == 0)=false:=by simp;omega
  have bG:¬ (L:Int)=0:=by omega
  obtain ⟨la,a7,-⟩:=ZaC aC.out (i:=0) (by rw [V.out];omega);subst a7;have bl:=Zh (D.out.old (Below.refl _ _).drew);have bz:=Zh (aF.out.trans (UpL.of (Below.refl w2.heap.size w2).drew));have aU:=Zh (show 1≤L by omega);have br:=Zh a9;clear a9
  go_upto_region 7 with (go_at_call 139;refine (aV.out _ _ _ L (by have:=br.out;omega) _ bl.out).mono ?_;rintro e w3 ⟨k3,nx3,rfl,a6,au,bZ⟩;have f:=Zh a6;have aG:=Zh (bz.out.trans bZ);have ag:k3<L:=au aU.out;have aH:(k3:Int) < L:=(by omega);obtain ⟨c,bI,a4⟩:=bt.out k3 ag;obtain ⟨cK,av,ck⟩:=ZaC (aC.out.old a6.bw) (i:=k3) (by rw [V.out];exact ag);cases av;rw [bI] at ck;clear a6 au bZ bI)
  clear ck;have O:=Zm8 a4;have cN:(c:Int) < K.m.cl.length:=by omega
  obtain ⟨s,bX,bY⟩:=Zqw T.out.ok.v hd a4 cx.out;have bv:=Zh bX;have cn:=Zh bY;have ai:=Zh (fun w' (h':Zaz w' K.h K.m)=>by have:=Zqv K.m K.h ⟨14,c,0⟩ w' h' (ZqV T.out.ok.v O).2;rwa [(ZqV T.out.ok.v O).1] at this);have aD:=Zh (ZrJ.zero (F:=Zm3 K.m) T.out.ok.v O);have ct:=Zh (Zm9 T.out.ok.v O);have ch:=Zh (Zqp T.out.ok.v O);obtain ⟨v,ax⟩:∃ v,v=szC K.m c:=⟨_,rfl⟩;rw [←ax] at ai aD;clear bX bY ax a4;obtain ⟨J,M,N⟩:=B;have A:=Zh (show ∀ w',Below w3.heap.size w3 w'→Cs [(⟨G,8,none⟩,.int .i64 J),(⟨G,9,none⟩,.int .i64 M),(⟨G,10,none⟩,.int .i64 N),(⟨G,0,none⟩,.slice K.h.co K.m.cl.length K.h.cc),(⟨G,1,none⟩,.slice K.h.so K.m.st.length K.h.sc),(⟨G,2,none⟩,.slice K.h.eo K.m.me.length K.h.ec),(⟨G,3,none⟩,.int .i64 K.m.sel)] w' from fun w' hb=>⟨(f.out.bk.old hb).cell 8 rfl,(f.out.bk.old hb).cell 9 rfl,(f.out.bk.old hb).cell 10 rfl,(f.out.bk.old hb).cell 0 rfl,(f.out.bk.old hb).cell 1 rfl,(f.out.bk.old hb).cell 2 rfl,(f.out.bk.old hb).cell 3 rfl,trivial⟩);refine rE (Cs [(⟨G,8,none⟩,.int .i64 J),(⟨G,9,none⟩,.int .i64 M),(⟨G,10,none⟩,.int .i64 N),(⟨G,0,none⟩,.slice K.h.co K.m.cl.length K.h.cc),(⟨G,1,none⟩,.slice K.h.so K.m.st.length K.h.sc),(⟨G,2,none⟩,.slice K.h.eo K.m.me.length K.h.ec),(⟨G,3,none⟩,.int .i64 K.m.sel)]) 15 (oL [0,1,2,3,4,5,6,7,8,9,10,111,112,113,14]) (A.out _ (Below.refl _ _).drew) ?_
  iterate 11 (refine pE ?_)
  refine oE fun Kv hK=>?_;go_simp;refine (ai.out _ (T.out.md.old (Zag f.out.bw (Below.refl w3.heap.size w3).drew))).mono ?_;rintro e w4 ⟨rfl,bH⟩;have bi:=Zh (Zag (Below.refl w3.heap.size w3).drew bH);refine hK _ _ ⟨A.out _ bi.out,?_⟩;clear hK Kv bH;refine oE fun Kv hK=>?_;go_simp;refine (Zqq (J,M,N) v _ f.out.bd aD.out.2).mono ?_;rintro e w5 ⟨rfl,hb5⟩;have HB5:=Zh (Zag bi.out hb5);refine hK _ _ ⟨A.out _ HB5.out,?_⟩;clear hK Kv hb5;have al:=Zh (BdT.pl (a:=(J,M,N)) (b:=v) f.out.bd aD.out.2);have bm:=Zh (show LeT (plT (J,M,N) v) (plT (J,M,N) v) from ⟨Int.le_refl _,Int.le_refl _,Int.le_refl _⟩);obtain ⟨y,hy⟩:∃ y,y=plT (J,M,N) v:=⟨_,rfl⟩;have az:=Zh (show LeT y (plT (J,M,N) v) by rw [hy];exact bm.out);rw [←hy] at al ⊢;clear hy;obtain ⟨y0,y1,y2⟩:=y;refine oE fun Kv hK=>?_;go_simp;refine hK _ _ ⟨A.out _ HB5.out,?_⟩;clear hK Kv
  (refine pE ?_)
  have U:=Zh (f.out.old HB5.out);refine sE fun Kv hK=>?_;have r0:=U.out.bk.cell 8 (v:=.int .i64 J) rfl;have r1:=U.out.bk.cell 9 (v:=.int .i64 M) rfl;have r2:=U.out.bk.cell 10 (v:=.int .i64 N) rfl;have f0:=U.out.bk.frozen 8;have f1:=U.out.bk.frozen 9;have f2:=U.out.bk.frozen 10;have rl:=U.out.bk.lt
  (try simp only [ag3])
  go_simp;refine hK _ _ ?_;clear hK Kv r0 r1 r2 f0 f1 f2 rl;have I:=Zh (U.out.setB (C:=(y0,y1,y2)) al.out);have bA:=Zh (((aG.out.trans (UpL.of HB5.out)).trans (ZrX w5 G 8 (.int .i64 y0))).trans ((ZrX _ G 9 (.int .i64 y1)).trans (ZrX _ G 10 (.int .i64 y2))));obtain ⟨bC,a5,-,-,-,-⟩:=T.out.md.cls O;have aQ:=Zh (fun w' (hb:Below K.wb.heap.size K.wb w')=>by obtain ⟨cM,aK,-,-,e2,-⟩:=(T.out.md.old hb).cls O;rw [a5] at aK;cases aK;exact (show w'.cell? ⟨(bC.add (c*4)).block,(bC.add (c*4)).off+2,none⟩=some (.slice (K.h.c c).fo (fsC K.m c).length (K.h.c c).fc) from e2));have aR:=Zh (fun w' (hb:Below K.wb.heap.size K.wb w')=>(show Zas w' (K.h.c c).fo (K.h.c c).fc (fsC K.m c) from (T.out.md.old hb).f c O));generalize (K.h.c c).fo=fo at aQ aR;generalize (K.h.c c).fc=fc at aQ aR;have cg:=Zh a5;have co:=Zh (fun a (hA:ZrJ (Zm3 K.m) K.m c (fsC K.m c).length a)=>(show LeT a x by have:=hA.fin;rw [bv.out] at this;cases this;exact cn.out));have cY:=ch.out;generalize ((w5.setCell ⟨G,8,none⟩ (.int .i64 y0)).setCell ⟨G,9,none⟩ (.int .i64 y1)).setCell ⟨G,10,none⟩ (.int .i64 y2)=w6 at I bA ⊢;clear a5;go_wp2
  go_loopw [6] (fun i wr=>∃ (k:Nat) (C a:T3) (n' l':Nat),k≤(fsC K.m c).length∧i=.int .i64 k∧Hid (ZrW K wr G C n' l')∧Hid (ZrJ (Zm3 K.m) K.m c k a)∧Hid (LeT C (plT (J,M,N) a))∧Hid (l'≤l)∧Hid (UpL [G] w wr)) (fun i _=>(fsC K.m c).length-(intOf i).toNat)
  case atStart=>exact ⟨0,(y0,y1,y2),v,nx3,l,Nat.zero_le _,rfl,I.out,aD.out,az.out,Nat.le_refl _,bA.out⟩
  case round=>
   obtain ⟨k,C,a,n',l',hk,rfl,HGr,aW,ak,Z,HUr⟩:=hrel;rename World=>wk;have g0:=HGr.out.bk.cell 0 (v:=.slice K.h.co K.m.cl.length K.h.cc) rfl;rw [cg.out] at g0;have e2:=aQ.out _ HGr.out.bw;by_cases hkl:k<(fsC K.m c).length
   ·have bO:(k:Int) < (fsC K.m c).length:=by omega
    have cG:IntKind.i64.wrap ((k:Int)+1)=((k+1:Nat):Int):=IntWalk.i64_in _ (by omega);obtain ⟨fd,rfl,f0,f1⟩:=ZaA (aR.out _ HGr.out.bw) hkl;have ba:=ct.out _ (ZfX (default:Ty) hkl);obtain ⟨z,hz⟩:=Zr2 bv.out _ (ZfX (default:Ty) hkl);have bd:=ZoE T.out.ok.v ba hz;have cm:=Zh (ZrJ.next aW.out hkl hz bd);have cz:=Zh bd;have af:=Zh (fun w' (h':ZrW K w' G C n' l')=>aT.out w' C n' l' _ z Z.out h' ba hz);generalize (fsC K.m c).getD k default=ty at f0 f1 af;obtain ⟨R,W⟩:=ty;dsimp only at f0 f1 af;clear ba hz bd
    go_wp2_with (go_at_call 79;refine (af.out _ HGr.out).mono ?_;rintro e w7 ⟨rfl,⟨C2,n2,l2,hg7,aM,aO⟩,b3⟩;have aj:=Zh hg7;have bn:=Zh aM;have bp:=Zh aO;have aq:=Zh b3;clear hg7 aM aO b3 g0 e2 f0 f1)
    refine ⟨⟨k+1,C2,plT a z,n2,l2,hkl,rfl,aj.out,cm.out,?_,Nat.le_trans bp.out Z.out,HUr.out.trans aq.out⟩,by simp [intOf];omega⟩;show LeT C2 (plT (J,M,N) (plT a z));rw [←Zo0 f.out.bd aW.out.2 cz.out];exact bn.out.tr (LeT.plM ak.out)
   ·obtain rfl:k=(fsC K.m c).length:=by omega
    have aH:¬ ((fsC K.m c).length:Int) < (fsC K.m c).length:=by omega
    go_wp2;exact bodyPost_ret (v:=.tuple #[]) (by simp [results,Tryz.results79,go_sem]) rfl ⟨rfl,⟨C,n',l',HGr.out,ak.out.tr (LeT.plR (co.out _ aW.out)),Nat.le_trans Z.out HLf.out⟩,HUr.out⟩
 ·have c3:(R == 2)=false:=by simpa using q2
  have aL:R=3∨R=4:=Zr5 aE.out q1 q2;have V:=Zh (fun w' (h':Zaz w' K.h K.m)=>Zrf K.m K.h ⟨R,W⟩ w' h' T.out.ok.v);have aA:=Zh (Zor T.out.ok.v (t:=⟨R,W⟩));have aB:=Zh (fun (n:Nat) (hn:(n:Int)∈ZmR K.m ⟨R,W⟩)=>Zr3 T.out.ok.v aE.out aL hn bB.out);have cu:=Zh (fun (q:R=4)=>Zr4 (m:=K.m) (ZfH aE.out (.inr q)));have a8:(ZmR K.m ⟨R,W⟩).length≤1000000:=Zq5 T.out.ok.v _;have ai:=Zh (fun (o n b:Int) w' (h':Zaz w' K.h K.m) (ho:o=15∨o=16) (h0:0≤n) (h1:n≤48)=>by have:=Zqv K.m K.h ⟨o,n,b⟩ w' h' (ZrK ho h0 h1).2;rwa [(ZrK (m:=K.m) (b:=b) ho h0 h1).1] at this);dsimp only at V aB;generalize ZmR K.m ⟨R,W⟩=ls at V aA aB a8;have t0:=aa.out.cell 0 (v:=.int .i64 R) rfl;have A:=Zh (show ∀ w',Below w2.heap.size w2 w'→Cs [(⟨G,0,none⟩,.slice K.h.co K.m.cl.length K.h.cc),(⟨G,1,none⟩,.slice K.h.so K.m.st.length K.h.sc),(⟨G,2,none⟩,.slice K.h.eo K.m.me.length K.h.ec),(⟨G,3,none⟩,.int .i64 K.m.sel),(⟨X,0,none⟩,.int .i64 R),(⟨X,1,none⟩,.int .i64 W)] w' from fun w' hb=>⟨(D.out.bk.old hb).cell 0 rfl,(D.out.bk.old hb).cell 1 rfl,(D.out.bk.old hb).cell 2 rfl,(D.out.bk.old hb).cell 3 rfl,(aa.out.old hb).cell 0 rfl,(aa.out.old hb).cell 1 rfl,trivial⟩)
  go_upto_region 12 with fail
  clear t0;refine rO (Cs [(⟨G,0,none⟩,.slice K.h.co K.m.cl.length K.h.cc),(⟨G,1,none⟩,.slice K.h.so K.m.st.length K.h.sc),(⟨G,2,none⟩,.slice K.h.eo K.m.me.length K.h.ec),(⟨G,3,none⟩,.int .i64 K.m.sel),(⟨X,0,none⟩,.int .i64 R),(⟨X,1,none⟩,.int .i64 W)]) (oL [0,1,2,3,4,105,6]) (A.out _ (Below.refl _ _).drew) ?_
  iterate 5 (refine pO ?_)
  refine oO fun Kv hK=>?_;go_simp;refine (V.out _ (T.out.md.old (Zag D.out.bw (Below.refl w2.heap.size w2).drew))).mono ?_;rintro e w3 ⟨⟨ao,bD,rfl,bT,bN⟩,hb3⟩;have cj:=Zh (show ∀ a,ao=some a→a.block ∉ [G] from fun a ha=>by have:=bN a ha;have:G<w2.heap.size:=D.out.bk.lt;have:w2.drew.heap.size=w2.heap.size:=rfl;simp only [List.mem_singleton];omega);have hb3':=Zag (Below.refl w2.heap.size w2).drew hb3;have f:=Zh (D.out.old hb3');have cr:=Zh (aa.out.old hb3');have aG:=Zh (aF.out.trans (UpL.of hb3'));have bu:=Zh bT;refine hK _ _ ⟨A.out _ hb3',?_⟩;clear hK Kv hb3 bT hb3' bN
  (refine pO ?_)
  refine Zd7 ?_;by_cases hL:ls.length=0
  ·have a3:((ls.length:Int) == 0)=true:=by simp [hL]
   go_wp2;exact bodyPost_ret (v:=.tuple #[]) (by simp [results,Tryz.results79,go_sem]) rfl ⟨rfl,⟨B,be,l,f.out,an.out,HLf.out⟩,aG.out⟩
  have a3:((ls.length:Int) == 0)=false:=beq_eq_false_iff_ne.2 (by omega);have bG:¬ (ls.length:Int)=0:=by omega
  obtain ⟨la,a7,-⟩:=ZaC bu.out (i:=0) (by omega);subst a7;have aU:=Zh (show 1≤ls.length by omega);have cl:=Zh a8;clear a8;clear A
  go_upto_region 15 with (go_at_call 139;refine (aV.out _ _ _ ls.length cl.out _ f.out).mono ?_;rintro e w4 ⟨k3,nx3,rfl,bL,au,aI⟩;have E:=Zh bL;have cv:=Zh (aG.out.trans aI);have aX:=Zh (aI.blk cr.out (by simpa using Y.out));have ag:k3<ls.length:=au aU.out;have aH:(k3:Int) < ls.length:=(by omega);obtain ⟨cK,av,ck⟩:=ZaC (Zrg bu.out aI cj.out) ag;cases av;have aw:=ZfX (0:Int) ag;clear bL au aI;generalize ls.getD k3 0=nI at ck aw)
  obtain ⟨nn,rfl⟩:∃ nn:Nat,nI=nn:=⟨nI.toNat,by have:=(aA.out _ aw).1;omega⟩;have bQ:=(aA.out _ aw).2;obtain ⟨y,b6,b7,b8⟩:=aB.out nn aw;have cy:=Zh b6;have ar:=Zh b7;have a0:=Zh b8;have ab:=Zh (ZmO (n:=(nn:Int)) (b:=true) (by omega) (by omega));have hq:∃ o:Int,(o=15∨o=16)∧((R=4∧o=16)∨((R == 4)=false∧¬ R=4∧o=15)):=by
   by_cases q:R=4
   ·exact ⟨16,.inr rfl,.inl ⟨q,rfl⟩⟩
   ·exact ⟨15,.inl rfl,.inr ⟨by simpa using q,q,rfl⟩⟩
  obtain ⟨o,ho,hq⟩:=hq;have bj:=Zh (fun w' (h':Zaz w' K.h K.m)=>ai.out o nn W w' h' ho (by omega) bQ);have t0:=aX.out.cell 0 (v:=.int .i64 R) rfl;obtain ⟨v,ax⟩:∃ v,v=ZmD nn true:=⟨_,rfl⟩;rw [←ax] at ab a0 bj;clear ck ho aw b6 b7 b8 ax aB ai V aA aL ag aH hL a3 bG;obtain ⟨J,M,N⟩:=B;have A:=Zh (show ∀ w',Below w4.heap.size w4 w'→Cs [(⟨G,8,none⟩,.int .i64 J),(⟨G,9,none⟩,.int .i64 M),(⟨G,10,none⟩,.int .i64 N),(⟨G,0,none⟩,.slice K.h.co K.m.cl.length K.h.cc),(⟨G,1,none⟩,.slice K.h.so K.m.st.length K.h.sc),(⟨G,2,none⟩,.slice K.h.eo K.m.me.length K.h.ec),(⟨G,3,none⟩,.int .i64 K.m.sel),(⟨X,1,none⟩,.int .i64 W)] w' from fun w' hb=>⟨(E.out.bk.old hb).cell 8 rfl,(E.out.bk.old hb).cell 9 rfl,(E.out.bk.old hb).cell 10 rfl,(E.out.bk.old hb).cell 0 rfl,(E.out.bk.old hb).cell 1 rfl,(E.out.bk.old hb).cell 2 rfl,(E.out.bk.old hb).cell 3 rfl,(aX.out.old hb).cell 1 rfl,trivial⟩);rcases hq with ⟨rfl,rfl⟩|⟨qb,qn,rfl⟩
  all_goals
   go_upto_region 18 with fail
   refine rE (Cs [(⟨G,8,none⟩,.int .i64 J),(⟨G,9,none⟩,.int .i64 M),(⟨G,10,none⟩,.int .i64 N),(⟨G,0,none⟩,.slice K.h.co K.m.cl.length K.h.cc),(⟨G,1,none⟩,.slice K.h.so K.m.st.length K.h.sc),(⟨G,2,none⟩,.slice K.h.eo K.m.me.length K.h.ec),(⟨G,3,none⟩,.int .i64 K.m.sel),(⟨X,1,none⟩,.int .i64 W)]) 18 (oL [0,1,2,3,4,5,6,7,8,9,10,11,12,13,114,115,116,17]) (A.out _ (Below.refl _ _).drew) ?_;clear t0
   iterate 14 (refine pE ?_)
   refine oE fun Kv hK=>?_;go_simp;refine (bj.out _ (T.out.md.old (Zag E.out.bw (Below.refl w4.heap.size w4).drew))).mono ?_;rintro e w5 ⟨rfl,hb5⟩;have HB5:=Zh (Zag (Below.refl w4.heap.size w4).drew hb5);refine hK _ _ ⟨A.out _ HB5.out,?_⟩;clear hK Kv hb5;refine oE fun Kv hK=>?_;go_simp;refine (Zqq (J,M,N) v _ E.out.bd ab.out).mono ?_;rintro e w6 ⟨rfl,hb6⟩;have HB6:=Zh (Zag HB5.out hb6);refine hK _ _ ⟨A.out _ HB6.out,?_⟩;clear hK Kv hb6;have al:=Zh (BdT.pl (a:=(J,M,N)) (b:=v) E.out.bd ab.out);obtain ⟨u,hu⟩:∃ u,u=plT (J,M,N) v:=⟨_,rfl⟩;have az:=Zh (show LeT u (plT (J,M,N) v) by rw [hu];exact LeT.refl _);rw [←hu] at al ⊢;clear hu;obtain ⟨u0,u1,u2⟩:=u;refine oE fun Kv hK=>?_;go_simp;refine hK _ _ ⟨A.out _ HB6.out,?_⟩;clear hK Kv
   (refine pE ?_)
   have I:=Zh (E.out.old HB6.out);refine sE fun Kv hK=>?_;have r0:=I.out.bk.cell 8 (v:=.int .i64 J) rfl;have r1:=I.out.bk.cell 9 (v:=.int .i64 M) rfl;have r2:=I.out.bk.cell 10 (v:=.int .i64 N) rfl;have f0:=I.out.bk.frozen 8;have f1:=I.out.bk.frozen 9;have f2:=I.out.bk.frozen 10;have rl:=I.out.bk.lt
   (try simp only [ag3])
   go_simp;refine hK _ _ ?_;clear hK Kv r0 r1 r2 f0 f1 f2 rl;have aj:=Zh (I.out.setB (C:=(u0,u1,u2)) al.out);have aq:=Zh (((cv.out.trans (UpL.of HB6.out)).trans (ZrX w6 G 8 (.int .i64 u0))).trans ((ZrX _ G 9 (.int .i64 u1)).trans (ZrX _ G 10 (.int .i64 u2))));have aY:=Zh ((((aX.out.old HB6.out).other (a:=⟨G,8,none⟩) Y.out (.int .i64 u0)).other (a:=⟨G,9,none⟩) Y.out (.int .i64 u1)).other (a:=⟨G,10,none⟩) Y.out (.int .i64 u2));generalize ((w6.setCell ⟨G,8,none⟩ (.int .i64 u0)).setCell ⟨G,9,none⟩ (.int .i64 u1)).setCell ⟨G,10,none⟩ (.int .i64 u2)=w7 at aj aq aY ⊢;clear A;go_wp2
  ·have cp:=Zh (show LeT (u0,u1,u2) (plT (J,M,N) (plT v (mlT y ((0:Nat):Int)))) by rw [show ((0:Nat):Int)=0 from rfl,Zo3,Zo2 ab.out];exact az.out)
   go_loopw [10] (fun i wr=>∃ (k:Nat) (C:T3) (n' l':Nat),k≤nn∧i=.int .i64 k∧Hid (ZrW K wr G C n' l')∧Hid (LeT C (plT (J,M,N) (plT v (mlT y k))))∧Hid (l'≤l)∧Hid (UpL [G] w wr)∧Hid (Blk wr X #[.int .i64 4,.int .i64 W] 38)) (fun i _=>nn-(intOf i).toNat)
   case atStart=>exact ⟨0,(u0,u1,u2),nx3,l,Nat.zero_le _,rfl,aj.out,cp.out,Nat.le_refl _,aq.out,aY.out⟩
   case round=>
    obtain ⟨k,C,n',l',hk,rfl,HGr,ak,Z,HUr,ap⟩:=hrel;rename World=>wk;have x0:=ap.out.cell 0 (v:=.int .i64 4) rfl;have x1:=ap.out.cell 1 (v:=.int .i64 W) rfl;by_cases hkl:k<nn
    ·have bO:(k:Int) < nn:=by omega
     have cG:IntKind.i64.wrap ((k:Int)+1)=((k+1:Nat):Int):=IntWalk.i64_in _ (by omega);have b9:=cy.out trivial (by omega);have af:=Zh (fun w' (h':ZrW K w' G C n' l')=>aT.out w' C n' l' ⟨2,W⟩ y Z.out h' (cu.out trivial) (by rw [Zrq rfl];exact b9));dsimp only at af;clear b9
     go_wp2_with (go_at_call 79;refine (af.out _ HGr.out).mono ?_;rintro e w8 ⟨rfl,⟨C2,n2,l2,bM,aN,aP⟩,bc⟩;have ci:=Zh bM;have bo:=Zh aN;have bq:=Zh aP;have cs:=Zh (bc.blk ap.out (by simpa using Y.out));have cw:=Zh (HUr.out.trans bc);clear bM aN aP bc x0 x1)
     refine ⟨⟨k+1,C2,n2,l2,hkl,rfl,ci.out,?_,Nat.le_trans bq.out Z.out,cw.out,cs.out⟩,by simp [intOf];omega⟩;show LeT C2 (plT (J,M,N) (plT v (mlT y ((k+1:Nat):Int))));have bP:=ar.out.ml (n:=(k:Int)) (by omega);rw [show ((k+1:Nat):Int)=(k:Int)+1 from rfl,Zo5 ar.out (by omega),←Zo0 ab.out bP ar.out,←Zo0 E.out.bd (ab.out.pl bP) ar.out];exact bo.out.tr (LeT.plM ak.out)
    ·obtain rfl:k=nn:=by omega
     have aH:¬ (k:Int) < k:=by omega
     go_wp2;exact bodyPost_end (v:=.tuple #[]) (by simp [results,Tryz.results79,go_sem]) rfl ⟨rfl,⟨C,n',l',HGr.out,ak.out.tr (LeT.plR a0.out),Nat.le_trans Z.out HLf.out⟩,HUr.out⟩
  ·go_loopw [10] (fun i wr=>∃ (k:Nat),i=.int .i64 k∧Hid (ZrW K wr G (u0,u1,u2) nx3 l)∧Hid (UpL [G] w wr)∧Hid (Blk wr X #[.int .i64 R,.int .i64 W] 38)) (fun _ _=>0)
   case atStart=>exact ⟨0,rfl,aj.out,aq.out,aY.out⟩
   case round=>
    obtain ⟨k,rfl,HGr,HUr,ap⟩:=hrel;rename World=>wk;have x0:=ap.out.cell 0 (v:=.int .i64 R) rfl;have HEn:=Zh (show LeT (u0,u1,u2) (plT (J,M,N) x) from az.out.tr (LeT.plR ((LeT.pl_l ab.out (ar.out.ml (n:=(nn:Int)) (by omega))).tr a0.out)));by_cases hkl:(k:Int) < nn
    ·exact j5
    ·exact j5
theorem Zr7 {K:GwK} (a:ZrV K) {G:Nat} (n:Nat):Zr1 K G n:=by
 induction n using Nat.strongRecOn with
 | _ n ih=>exact Zr6 a n ih
end
