import Derived.Test.YtcfjblcgceednaaGreatJ39
import Derived.Test.YtcfjblcgceednaaGreatJ38
set_option linter.all false
set_option maxRecDepth 100000
set_option maxHeartbeats 16000000
namespace Go.Proofs.YtcfjblcgceednaaGreat
section
open Go.RowKit
attribute [local go_sem] World.cell?_alloc_some
theorem Zsm {m:Md}{k:Nat} (X:PlX m k) {N B:Nat}{L:LQ}{ko:Option Addr}{kc:Nat}:∀ n a b,(cdM m k).length-a≤n→Seg (cdM m k) a b→ZrL N B L ko kc m k a b:=by
 intro n
 induction n with
 | zero=>intro a b v r;exact Zsf X r fun p q s l t u _ _ _=>by have:=(Zmo r);omega
 |succ n ih=>
  intro a b v r;refine Zsf X r fun p q s l t u o d f=>?_;have j:p<q:=by have:=(Zmo d).1;omega
  have x:=o.1;have g:ZrL N B L ko kc m k (p+1) q:=ih _ _ (by omega) d;have i:l=q→ZrL N B L ko kc m k (q+1) s:=fun e=>by
   rcases f with h|h
   ·omega
   ·exact ih _ _ (by omega) h.2.2
  rcases (X.opn x o.2.1).1 with h|h|h
  ·exact ZrQ X o j d f h g i
  ·exact ZrS X o j d f h g i
  ·exact ZrR X o j d f h g i
section
variable {N:Nat}{w:World}{B:Nat}{L:LQ}{ko:Option Addr}{kc:Nat}{c:List In3}{ls:List Int}{sn sc:Nat}{lf cs:Int}{tn:Nat}(H:EvA N w B L ko kc c ls sn sc lf cs tn)
include N w B L ko kc c ls sn sc lf cs tn H
theorem EvA.setQ (M:LQ) (hl:M.l=L.l) (j:Nat) (v:Value) (hX:∀ so tv,(evC ko kc c ls.length L.l so sn sc lf cs L.ov L.r L.t tv).setIfInBounds j v=evC ko kc c ls.length M.l so sn sc lf cs M.ov M.r M.t tv):
  EvA N (w.setCell ⟨B,j,none⟩ v) B M ko kc c ls sn sc lf cs tn∧FrE N w (w.setCell ⟨B,j,none⟩ v):=by
 obtain ⟨⟨so,tv,m,f,a,e,k,b,i⟩,g,h,l,d⟩:=H;rw [←hl] at a e b;exact ⟨Zqh g h l f a e k b i j v (hX so tv) d,FrE.set g f (.inr (.inr rfl)) j v⟩
theorem EvA.res:∃ (tp:Option Addr) (tc:Nat),w.cell? ⟨B,4,none⟩=some (.bool L.ov)∧w.cell? ⟨B,5,none⟩=some (.int .i64 L.r)∧w.cell? ⟨B,6,none⟩=some (.int .i64 L.t)∧w.cell? ⟨B,7,none⟩=some (.int .i64 cs)∧w.cell? ⟨B,8,none⟩=some (.slice tp tn tc)∧w.frozen? ⟨B,4,none⟩=false∧w.frozen? ⟨B,5,none⟩=false∧w.frozen? ⟨B,6,none⟩=false:=by
 obtain ⟨⟨j,i,k,a,_,_,_,_,h⟩,_⟩:=H;obtain ⟨tp,tc,rfl⟩:∃ tp tc,i=.slice tp tn tc:=by
  rcases h.2 with ⟨e,f⟩|⟨g,b,d,e,_⟩
  ·exact ⟨none,0,by rw [e,f]⟩
  ·exact ⟨_,_,e⟩
 exact ⟨tp,tc,a.cell 4 rfl,a.cell 5 rfl,a.cell 6 rfl,a.cell 7 rfl,a.cell 8 rfl,a.frozen 4,a.frozen 5,a.frozen 6⟩
end
theorem Zsn {W w:World}{R:Nat}{k l m n o:Value}{i:TypeId} (h:Blk w R #[k,l,m,n,o] i) (j:Below W.heap.size W w) (a:W.heap.size≤R) (b d e f g:Value):Blk (((((w.setCell ⟨R,0,none⟩ b).setCell ⟨R,1,none⟩ d).setCell ⟨R,2,none⟩ e).setCell ⟨R,3,none⟩ f).setCell ⟨R,4,none⟩ g) R #[b,d,e,f,g] i∧Below W.heap.size W (((((w.setCell ⟨R,0,none⟩ b).setCell ⟨R,1,none⟩ d).setCell ⟨R,2,none⟩ e).setCell ⟨R,3,none⟩ f).setCell ⟨R,4,none⟩ g):=
 ⟨((((h.set 0 b).set 1 d).set 2 e).set 3 f).set 4 g,ZcW (ZcW (ZcW (ZcW (ZcW j a _) a _) a _) a _) a _⟩
theorem Zso (m:Md) (k:Nat):htA m k 0=0:=by unfold htA pA;rw [Zo7];rfl
theorem Zsp {m:Md}{k:Nat} (X:PlX m k) (h:(m.me.getD k default).r.k=1):htA m k (cdM m k).length=1:=by
 have b:=(Zo9 _ _ _ X.ok).2.2;have a:ZeD m (m.me.getD k default).r (pA m k (cdM m k).length).stk=0:=b;unfold ZeD at a;rw [if_neg (by omega)] at a;unfold htA;split at a
 ·rename_i q;rw [q];rfl
 ·cases a
def EvR (W:World) (hi lo:Int):Ending→World→Prop:=fun e w'=>∃ (r t cs:Int) (tp:Option Addr) (tn tc:Nat),e=.returned (.agg #[.bool true,.int .i64 r,.int .i64 t,.int .i64 cs,.slice tp tn tc])∧(0≤t∧0≤cs∧cs≤hi∧(t=0→0≤lo∧lo≤cs))∧Below W.heap.size W w'
theorem Zsq {m:Md}{k:Nat} (X:PlX m k) {h:Hd}{w:World} (H:Zay w h m) (hc:(m.me.getD k default).c<0) (ao:Option Addr) (ac:Nat) (zs:List Int) (ha:Zar w ao ac zs) (hz:zs.length=(m.me.getD k default).p.length) (hw:Zm1 (gW ZmV m) m k≤10000) :
  Calls Tryz.prog 41 #[.agg (HM.mk h m),.int .i64 k,.slice ao zs.length ac,.int .i64 100000] w (EvR w (Zm1 (gW ZmV m) m k) (Zm1 (gL m) m k)):=by
 have hk:=X.hk;have bG:(k:Int) < m.me.length:=by omega
 have a1:=(ZfN X.hm X.hk).z;obtain ⟨ea,he,e0,e1,e2,e3,e4,e5,e6⟩:=H.mth hk;obtain ⟨G,T⟩:∃ G,G=(w.alloc (.cells (HM.mk h m) 26)).alloc (.cells #[.bool false,.int .i64 0,.int .i64 0,.int .i64 0,.slice none 0 0] 60):=⟨_,rfl⟩;have aq:Below w.heap.size w G:=by rw [T];exact bE
 have hx:Blk G w.heap.size (HM.mk h m) 26:=by rw [T];exact (Blk.new _ _ _).alloc _
 have hr:Blk G (w.heap.size+1) #[.bool false,.int .i64 0,.int .i64 0,.int .i64 0,.slice none 0 0] 60:=by rw [T];exact Blk.new' (w:=w.alloc (.cells (HM.mk h m) 26)) _ _ (by simp)
 have A:=Zh aq;have HX:=Zh hx;have HR:=Zh hr;have aP:=Zh T;have x2:=hx.cell 2 (v:=.slice h.eo m.me.length h.ec) rfl;rw [he] at x2 aP ⊢;go_enter Tryz.func41,Tryz.ntmps41
 go_upto_region 1 with fail
 rw [←aP.out];have g0:=(A.out.cell (Zac e0)).trans e0;have g1:=(A.out.cell (Zac e1)).trans e1;have g2:=(A.out.cell (Zac e2)).trans e2;have g3:=(A.out.cell (Zac e3)).trans e3;have g4:=(A.out.cell (Zac e4)).trans e4;have g5:=(A.out.cell (Zac e5)).trans e5;have g6:=(A.out.cell (Zac e6)).trans e6;rw [show (m.me.getD k default).k.length=(cdM m k).length from rfl] at g6;clear e0 e1 e2 e3 e4 e5 e6;obtain ⟨n,hn⟩:∃ n,n=nlA m k:=⟨_,rfl⟩;have af:(m.me.getD k default).p.length+(m.me.getD k default).l.length=n:=by rw [hn];unfold nlA ZeF;rw [if_neg (by omega)];simp
 have HN:=Zh (And.intro hn af);have Hj:=Zh H;have HZ:=Zh (And.intro hz a1);obtain ⟨pl,aw⟩:∃ z,z=(m.me.getD k default).p.length:=⟨_,rfl⟩;obtain ⟨ll,av⟩:∃ z,z=(m.me.getD k default).l.length:=⟨_,rfl⟩;rw [←aw] at g2 af;rw [←av] at g3 af;have aM:=Zh (And.intro aw av);have cy:IntKind.i64.wrap ((pl:Int)+(ll:Int))=(n:Int):=by rw [show (pl:Int)+(ll:Int)=(n:Int) by omega];exact IntWalk.i64_in _ (by omega)
 have aX:=run_make_row' (P:=Tryz.prog) 34 3 (.int .i64 0) 8 Tryz.underlying34 (by kernel_rfl) rfl .i64 .i64 n (by omega) (by omega);rw [Zcn] at aX;generalize (m.me.getD k default).n=nm at g0;generalize (m.me.getD k default).c=mc at g1 hc;have au:=Zsp X;generalize (m.me.getD k default).r.k=rk at g4 au;generalize (m.me.getD k default).r.c=rc at g5;obtain ⟨u,ag⟩:∃ u,u=G.alloc (.cells #[.string nm,.int .i64 mc,.slice (h.e k).po pl (h.e k).pc,.slice (h.e k).lo ll (h.e k).lc,.int .i64 rk,.int .i64 rc,.slice (h.e k).ko (cdM m k).length (h.e k).kc] 81):=⟨_,rfl⟩;have ar:Below G.heap.size G u:=by rw [ag];exact bE
 have HY:=Zh (show Blk u G.heap.size #[.string nm,.int .i64 mc,.slice (h.e k).po pl (h.e k).pc,.slice (h.e k).lo ll (h.e k).lc,.int .i64 rk,.int .i64 rc,.slice (h.e k).ko (cdM m k).length (h.e k).kc] 81 by rw [ag];exact Blk.new _ _ _);have bk:=Zh (hr.old ar);have aj:=Zh (Zaf aq ar);have aQ:=Zh ag;clear hn af hz a1 aw av hx hr aq T H ag ar hc
 go_upto_region 2 with fail
 rw [←aQ.out];clear g0 g1 g2 g3 g4 g5 g6 x2;have y2:=HY.out.cell 2 (v:=.slice (h.e k).po pl (h.e k).pc) rfl;have y3:=HY.out.cell 3 (v:=.slice (h.e k).lo ll (h.e k).lc) rfl;have y6:=HY.out.cell 6 (v:=.slice (h.e k).ko (cdM m k).length (h.e k).kc) rfl;refine rO (Cs [(⟨G.heap.size,2,none⟩,.slice (h.e k).po pl (h.e k).pc),(⟨G.heap.size,3,none⟩,.slice (h.e k).lo ll (h.e k).lc),(⟨G.heap.size,6,none⟩,.slice (h.e k).ko (cdM m k).length (h.e k).kc)]) (oL [0,1,2,3,4,5,6,7,8,10,109,11,112,13]) ⟨y2,y3,y6,trivial⟩ ?_
 repeat refine pO ?_
 refine oO fun Kv hK=>?_;go_simp;obtain ⟨D,ah⟩:∃ D,D=(u.alloc (.cells (Array.replicate n (.int .i64 0)) 3)).drew:=⟨_,rfl⟩;rw [←ah];have ae:Below u.heap.size u D:=by rw [ah];exact bE
 have aT:Blk D u.heap.size (Array.replicate n (.int .i64 0)) 3:=by rw [ah];exact Blk.new u _ _
 have M:=HY.out.old ae;refine hK _ _ ⟨⟨M.cell 2 rfl,M.cell 3 rfl,M.cell 6 rfl,trivial⟩,?_⟩;have bi:=Zh aT;have bn:=Zh M;have aJ:=Zh (Zaf aj.out ae);have bl:=Zh (bk.out.old ae);have aZ:u.heap.size=G.heap.size+1:=by rw [aQ.out];simp only [World.alloc,Array.size_push]
 have co:=Zh (And.intro aZ A.out.size);clear hK Kv y2 y3 y6 aX aT M ae ah aZ
 repeat refine pO ?_
 refine oO fun Kv hK=>?_;go_simp;obtain ⟨w3,U⟩:∃ w3,w3=D.alloc (.cells (evC (h.e k).ko (h.e k).kc (cdM m k) n u.heap.size none 0 0 100000 0 false 0 0 (.slice none 0 0)) 127):=⟨_,rfl⟩;have R:Below D.heap.size D w3:=by rw [U];exact bE
 have aS:Blk w3 D.heap.size (evC (h.e k).ko (h.e k).kc (cdM m k) n u.heap.size none 0 0 100000 0 false 0 0 (.slice none 0 0)) 127:=by rw [U];exact Blk.new _ _ _
 unfold evC at U;rw [←U];have O:=bn.out.old R;refine hK _ _ ⟨⟨O.cell 2 rfl,O.cell 3 rfl,O.cell 6 rfl,trivial⟩,?_⟩;have I:=Zh (Zaf aJ.out R);have q:EvA w.heap.size w3 D.heap.size ⟨u.heap.size,false,0,0⟩ (h.e k).ko (h.e k).kc (cdM m k) (List.replicate n 0) 0 0 100000 0 0:=by
  refine ⟨⟨none,.slice none 0 0,[],by rw [List.length_replicate];exact aS,?_,aj.out.size,.inl ⟨rfl,rfl,rfl⟩,(fun g hg=>by cases hg),World.ownsRow_nil _ _ _ _⟩,aJ.out.size,(Hj.out.k k hk).old I.out,fun h0 a e=>?_,by omega⟩
  ·have:=bi.out.old R;simpa using this
  ·obtain ⟨a',e',c0,_⟩:=ZaA (show Zar w (h.e k).ko (h.e k).kc (cdM m k) from Hj.out.k k hk) (i:=0) h0;rw [e] at e';cases e';have:=Zac c0;rwa [Zag] at this
 have HE:=Zh q;have aR:=Zh O;have bm:=Zh (bl.out.old R);clear hK Kv q O R aS U
 repeat refine pO ?_
 refine Zd5 ?_;have ct:w.heap.size≤u.heap.size:=aj.out.size;have aY:pl≤n∧zs.length=pl:=by have h1:=HN.out.2;have h2:=aM.out;have h3:=HZ.out.1;omega
 have bj:=Zh (Zsm X (N:=w.heap.size) (B:=D.heap.size) (L:=⟨u.heap.size,false,0,0⟩) (ko:=(h.e k).ko) (kc:=(h.e k).kc) _ 0 _ (Nat.le_refl _) (Zmq (ZfN X.hm hk).n));have a0:WA (gHJ m) (cdM m k) 0 (cdM m k).length 0≤100000∧Zm1 (gW ZmV m) m k=WA (gHJ m) (cdM m k) 0 (cdM m k).length 0∧Zm1 (gL m) m k=WA (gOJ m) (cdM m k) 0 (cdM m k).length 0:=by have h1:=ZpM X.hm ZmV hk;have h2:=Zqv X.hm hk;exact ⟨by rw [show WA (gHJ m) (cdM m k) 0 (cdM m k).length 0=Zm1 (gW ZmV m) m k from h1.symm];omega,h1,h2⟩
 have ab:=Zh a0;have bf:=Zh au;have HA:=Zh ha;have HF:=Zh (FrE.refl w.heap.size w3);have cp:=Zh X;have aN:=Zh aY;clear a0 au X hw bG ha aY;go_wp2
 go_loopw [11] (fun i wr=>∃ (j:Nat) (ls:List Int),i=.int .i64 j∧j≤pl∧Hid (EvA w.heap.size wr D.heap.size ⟨u.heap.size,false,0,0⟩ (h.e k).ko (h.e k).kc (cdM m k) ls 0 0 100000 0 0)∧ls.length=n∧Hid (FrE w.heap.size w3 wr)) (fun i _=>pl-(intOf i).toNat)
 case atStart=>exact ⟨0,_,rfl,Nat.zero_le _,HE.out,List.length_replicate,HF.out⟩
 case round=>
  obtain ⟨j,ls,rfl,hj,HE,aW,HF⟩:=hrel;rename World=>wo;have am:=Zh aW;have an:=HF.out.2 _ _ _ (by decide) (by decide) (by decide) aR.out;have y2:=an.cell 2 (v:=.slice (h.e k).po pl (h.e k).pc) rfl;have bo:=Zh an;clear an aW;by_cases hjp:j<pl
  ·have cb:(j:Int) < pl:=by omega
   have cx:IntKind.i64.wrap ((j:Int)+1)=((j+1:Nat):Int):=IntWalk.i64_in _ (by have:=HZ.out.2;have:=aM.out.1;omega);have bF:j<ls.length:=by rw [am.out];have:=aN.out;omega
   have ca:(j:Int) < ls.length:=by omega
   have aV:j<zs.length:=by have:=aN.out;omega
   have cc:(j:Int) < zs.length:=by omega
   obtain ⟨za,rfl,z0⟩:=ZaB (HA.out.old (I.out.trans HF.out.1)) aV;generalize zs.getD j 0=zv at z0;obtain ⟨ad,ap⟩:∃ ad,ad=(⟨u.heap.size,0,none⟩:Addr):=⟨_,rfl⟩;obtain ⟨-,-,-,c1,-⟩:=HE.out.cells;rw [←ap] at c1;have W:=Zh ap;clear ap
   go_upto_region 6 with fail
   clear y2;refine rO (Cs [(⟨D.heap.size,1,none⟩,.slice (some ad) ls.length ls.length),(za.add j,.int .i64 zv)]) (oL [0,1,2,3,4,5,6,7,8,9,110]) ⟨c1,z0,trivial⟩ ?_;clear c1
   repeat refine pO ?_
   refine oO fun Kv hK=>?_;obtain ⟨kl,l0,l1⟩:=HE.out.drew.loc bF;rw [show (⟨u.heap.size,0,none⟩:Addr)=ad from W.out.symm] at l0 l1;have J:=Zh (HE.out.drew.setL j zv);rw [show (⟨u.heap.size,0,none⟩:Addr)=ad from W.out.symm] at J;have bD:(ad.add j).block<wo.drew.heap.size:=by rw [Zag,W.out];exact kl
   have bg:=Zh (HF.out.drew.trans J.out.2);have bM:(za.add j).block<w.heap.size:=by obtain ⟨cR,e',q0⟩:=ZaB HA.out aV;cases e';exact Zac q0
   have z1:=J.out.2.1.cell bM;go_simp;refine hK _ _ ⟨⟨by have:=J.out.1.cells.2.2.2.1;rw [List.length_set] at this;rw [W.out] at this ⊢;exact this,z1.trans z0,trivial⟩,?_⟩;clear hK Kv l0 l1 kl bD z0 z1;refine Zd5 ?_;go_wp2;refine ⟨⟨j+1,ls.set j zv,by go_num,by omega,J.out.1,(List.length_set).trans am.out,bg.out⟩,?_⟩;simp [intOf];omega
  ·obtain rfl:j=pl:=by omega
   have y6:=bo.out.cell 6 (v:=.slice (h.e k).ko (cdM m k).length (h.e k).kc) rfl;have aL:=Zh (fun (H':EvA w.heap.size wo D.heap.size ⟨u.heap.size,false,0,0⟩ (h.e k).ko (h.e k).kc (cdM m k) ls 0 0 100000 0 0)=>bj.out wo ls 0 0 100000 0 0 H' (am.out.trans HN.out.1) (Zso m k).symm ab.out.1);have bI:¬ (j:Int) < (j:Int):=by omega
   go_upto_region 8 with (go_at_call 92;refine (aL.out HE.out).mono ?_;rintro e w5 ⟨t,cB,bP,cH,cA,r,s,rfl,q,hq,hF⟩;have ak:=Zh q;have K:=Zh hq;have bh:=Zh (HF.out.trans hF);clear q hq hF y6 y2)
   have cw:¬ t<0:=by have:=K.out.1;omega
   obtain ⟨cL,cI,r4,r5,r6,r7,r8,f4,f5,f6⟩:=ak.out.res;have Y:=Zh (ak.out.setQ ⟨u.heap.size,true,0,0⟩ rfl 4 (.bool true) (fun so C=>rfl));obtain ⟨cM,cJ,s4,s5,s6,s7,s8,g4,g5,g6⟩:=Y.out.1.res;have al:=Zh (Y.out.1.setQ ⟨u.heap.size,true,0,t⟩ rfl 6 (.int .i64 t) (fun so C=>rfl));have aa:=Zh (bh.out.trans (Y.out.2.trans al.out.2));have kb:=ak.out.cells.2.1;have bN:=Y.out.1.cells.2.1;have aU:=aa.out.2 _ _ _ (by decide) (by decide) (by decide) aR.out;have y4:=aU.cell 4 (v:=.int .i64 rk) rfl;have aO:=Zh (aa.out.2 _ _ _ (by decide) (by decide) (by decide) bm.out);clear aU bI
   go_upto_region 12 with fail
   clear r4 r5 r6 r7 r8 f4 f5 f6 s4 s5 s6 s7 s8 g4 g5 g6 kb bN;have x:=Zh al.out.1;have E:=Zh aa.out;have y:=Zh aO.out;clear al aa aO;generalize ((w5.setCell ⟨D.heap.size,4,none⟩ (.bool true)).setCell ⟨D.heap.size,6,none⟩ (.int .i64 t))=w7 at x E y y4 ⊢;by_cases htz:t=0
   ·subst htz;by_cases hrk:rk=1
    ·subst hrk;have bK:0<bP:=by have h:=(K.out.2.2.2.2.2.2.2 rfl).1;have h2:=bf.out rfl;omega
     go_upto_region 14 with (go_at_call 93;refine (Zqi x.out bK).mono ?_;rintro e w8 ⟨⟨z,rfl⟩,q,hF⟩;have be:=Zh q;have aK:=Zh hF;obtain ⟨cN,cK,r4,r5,r6,r7,r8,f4,f5,f6⟩:=q.res;have bO:=q.cells.2.1;clear q hF)
     have Z:=Zh (be.out.setQ ⟨u.heap.size,true,z,0⟩ rfl 5 (.int .i64 z) (fun so C=>rfl));have y:=Zh (Z.out.2.2 _ _ _ (by decide) (by decide) (by decide) (aK.out.2 _ _ _ (by decide) (by decide) (by decide) y.out));have x:=Zh Z.out.1;have E:=Zh (E.out.trans (aK.out.trans Z.out.2));clear Z r4 r5 r6 r7 r8 f4 f5 f6 bO;generalize (w8.setCell ⟨D.heap.size,5,none⟩ (.int .i64 z))=w9 at x E y ⊢;obtain ⟨C,F,r4,r5,r6,r7,r8,-,-,-⟩:=x.out.res;have b:=y.out;have kB:=x.out.cells.2.1;have R0:=b.cell 0 (v:=.bool false) rfl;have R1:=b.cell 1 (v:=.int .i64 0) rfl;have R2:=b.cell 2 (v:=.int .i64 0) rfl;have R3:=b.cell 3 (v:=.int .i64 0) rfl;have R4:=b.cell 4 (v:=.slice none 0 0) rfl;have F0:=b.frozen 0;have F1:=b.frozen 1;have F2:=b.frozen 2;have F3:=b.frozen 3;have F4:=b.frozen 4;have kR:=b.lt;clear b;go_wp2;have q:=Zsn y.out (I.out.trans E.out.1) (Nat.le_succ _) (.bool true) (.int .i64 z) (.int .i64 0) (.int .i64 r) (.slice C s F);have q0:=q.1.cell 0 (v:=.bool true) rfl;have q1:=q.1.cell 1 (v:=.int .i64 z) rfl;have q2:=q.1.cell 2 (v:=.int .i64 0) rfl;have q3:=q.1.cell 3 (v:=.int .i64 r) rfl;have q4:=q.1.cell 4 (v:=.slice C s F) rfl;have V:=K.out;unfold EvQ at V;have hw:=ab.out;exact bodyPost_ret (v:=.agg #[.bool true,.int .i64 z,.int .i64 0,.int .i64 r,.slice C s F]) (by simp [results,Tryz.results41,go_sem,q0,q1,q2,q3,q4]) rfl ⟨z,0,r,C,s,F,rfl,⟨V.1,by omega,by rw [hw.2.1];omega,fun e=>by rw [hw.2.2];have:=V.2.2.2.2.2.2.2 e;omega⟩,q.2⟩
    ·have cd:(rk == 1)=false:=by simpa using hrk
     obtain ⟨C,F,r4,r5,r6,r7,r8,-,-,-⟩:=x.out.res;have b:=y.out;have kB:=x.out.cells.2.1;have R0:=b.cell 0 (v:=.bool false) rfl;have R1:=b.cell 1 (v:=.int .i64 0) rfl;have R2:=b.cell 2 (v:=.int .i64 0) rfl;have R3:=b.cell 3 (v:=.int .i64 0) rfl;have R4:=b.cell 4 (v:=.slice none 0 0) rfl;have F0:=b.frozen 0;have F1:=b.frozen 1;have F2:=b.frozen 2;have F3:=b.frozen 3;have F4:=b.frozen 4;have kR:=b.lt;clear b;go_wp2;have q:=Zsn y.out (I.out.trans E.out.1) (Nat.le_succ _) (.bool true) (.int .i64 0) (.int .i64 0) (.int .i64 r) (.slice C s F);have q0:=q.1.cell 0 (v:=.bool true) rfl;have q1:=q.1.cell 1 (v:=.int .i64 0) rfl;have q2:=q.1.cell 2 (v:=.int .i64 0) rfl;have q3:=q.1.cell 3 (v:=.int .i64 r) rfl;have q4:=q.1.cell 4 (v:=.slice C s F) rfl;have V:=K.out;unfold EvQ at V;have hw:=ab.out;exact bodyPost_ret (v:=.agg #[.bool true,.int .i64 0,.int .i64 0,.int .i64 r,.slice C s F]) (by simp [results,Tryz.results41,go_sem,q0,q1,q2,q3,q4]) rfl ⟨0,0,r,C,s,F,rfl,⟨V.1,by omega,by rw [hw.2.1];omega,fun e=>by rw [hw.2.2];have:=V.2.2.2.2.2.2.2 e;omega⟩,q.2⟩
   ·have ce:(t == 0)=false:=by simpa using htz
    obtain ⟨C,F,r4,r5,r6,r7,r8,-,-,-⟩:=x.out.res;have b:=y.out;have kB:=x.out.cells.2.1;have R0:=b.cell 0 (v:=.bool false) rfl;have R1:=b.cell 1 (v:=.int .i64 0) rfl;have R2:=b.cell 2 (v:=.int .i64 0) rfl;have R3:=b.cell 3 (v:=.int .i64 0) rfl;have R4:=b.cell 4 (v:=.slice none 0 0) rfl;have F0:=b.frozen 0;have F1:=b.frozen 1;have F2:=b.frozen 2;have F3:=b.frozen 3;have F4:=b.frozen 4;have kR:=b.lt;clear b;go_wp2;have q:=Zsn y.out (I.out.trans E.out.1) (Nat.le_succ _) (.bool true) (.int .i64 0) (.int .i64 t) (.int .i64 r) (.slice C s F);have q0:=q.1.cell 0 (v:=.bool true) rfl;have q1:=q.1.cell 1 (v:=.int .i64 0) rfl;have q2:=q.1.cell 2 (v:=.int .i64 t) rfl;have q3:=q.1.cell 3 (v:=.int .i64 r) rfl;have q4:=q.1.cell 4 (v:=.slice C s F) rfl;have V:=K.out;unfold EvQ at V;have hw:=ab.out;exact bodyPost_ret (v:=.agg #[.bool true,.int .i64 0,.int .i64 t,.int .i64 r,.slice C s F]) (by simp [results,Tryz.results41,go_sem,q0,q1,q2,q3,q4]) rfl ⟨0,t,r,C,s,F,rfl,⟨V.1,by omega,by rw [hw.2.1];omega,fun e=>by rw [hw.2.2];have:=V.2.2.2.2.2.2.2 e;omega⟩,q.2⟩
end
