import Derived.Test.YtfmcclhfnpcokaaGreatG8
import Derived.Test.YtfmcclhfnpcokaaGreatG9
import Derived.Test.YtfmcclhfnpcokaaGreatG7
set_option linter.all false
set_option maxRecDepth 100000
set_option maxHeartbeats 8000000
namespace Go.Proofs.YtfmcclhfnpcokaaGreat
theorem k49{p:Prop}(h:p:=by
 go_enter Tryz.func117,Tryz.ntmps117;go_wp2;go_ret;exact ZcP (ZcT HNo.out.symm) HB3.out):p:=h
section
open Go.RowKit
attribute [local go_sem] World.cell?_alloc_some
theorem Zil (m:Md) (h:Hd) (k:Nat) (w:World) (H:Zaz w h m) (hk:k<m.me.length) (hn:m.cl.length≤10) (hl:∀ j,j<m.cl.length→((m.cl.getD j default).m.length:Int)=m.sel) (ho:∀ j:Nat,j<k→-1≤m.own j) :
  Calls Tryz.prog 117 #[.agg (HM.mk h m),.int .i64 k] w (Ret w (.bool (ZaY m k))):=by
 have aI:Blk _ w.heap.size (HM.mk h m) 26:=Blk.new w (HM.mk h m) 26;have aK:Below w.heap.size w (w.alloc (.cells (HM.mk h m) 26)):=by exact bE
 obtain ⟨V,bi,c0,c1,c2,c3,c4,c5,c6⟩:=(H.old aK).mth hk;have ac:=H.bm k hk;have C:=H.p k hk;have B:=H.l k hk;have A:=H.k k hk;generalize hx:m.me.getD k default=x at c0 c1 c2 c3 c4 c5 c6 ac C B A;obtain ⟨nm,c,pl,s,⟨N,M⟩,f⟩:=x;generalize hey:h.e k=y at c0 c1 c2 c3 c4 c5 c6 ac C B A;obtain ⟨po,pc,lo,lc,ko,L⟩:=y;dsimp only at c0 c1 c2 c3 c4 c5 c6 ac C B A;have hq:ZaY m k=(decide (-1≤c)&&decide (c<m.cl.length)&&decide (pl.length≤4)&&ZaH m.cl.length pl&&decide ((s.length:Int)≤10-pl.length-(if 0≤c then 1 else 0))&&ZaH m.cl.length s&&ZaG m.cl.length ⟨N,M⟩ 0&&decide (ZaW false f=0)&&f.all (ZaX m k)):=by simp only [ZaY,hx]
 have aJ:Blk ((w.alloc (.cells (HM.mk h m) 26)).alloc (.cells #[.string nm,.int .i64 c,.slice po pl.length pc,.slice lo s.length lc,.int .i64 N,.int .i64 M,.slice ko f.length L] 70)) (w.heap.size+1) #[.string nm,.int .i64 c,.slice po pl.length pc,.slice lo s.length lc,.int .i64 N,.int .i64 M,.slice ko f.length L] 70:=Blk.new' (w:=w.alloc (.cells (HM.mk h m) 26)) _ _ (by simp);have hX:=aI.alloc (.cells #[.string nm,.int .i64 c,.slice po pl.length pc,.slice lo s.length lc,.int .i64 N,.int .i64 M,.slice ko f.length L] 70);have u:Below w.heap.size w ((w.alloc (.cells (HM.mk h m) 26)).alloc (.cells #[.string nm,.int .i64 c,.slice po pl.length pc,.slice lo s.length lc,.int .i64 N,.int .i64 M,.slice ko f.length L] 70)):=by exact bE
 have HQ:=Zh hq;have E:=Zh hX;have HY:=Zh aJ;have Hj:=Zh H;have HL:=Zh hl;have HO:=Zh ho;have bc:=Zh C;have bb:=Zh B;have ay:=Zh A;have HB3:=Zh u;clear hX aJ H hl ho B A C u hq hx hey aI aK;obtain ⟨X,W,so,sc,eo,Y,hc,he⟩:=h;dsimp only at *;subst bi;have bJ:(k:Int) < m.me.length:=by omega
 by_cases h1:-1≤c∧c<m.cl.length∧pl.length≤4∧((s.length:Int)≤10-pl.length-(if 0≤c then 1 else 0))
 ·obtain ⟨h1,h2,h3,h4⟩:=h1;have g1:¬ c < -1:=by omega
  have g2:¬ c ≥ m.cl.length:=by omega
  have g3:¬ (pl.length:Int) > 4:=by omega
  have ae:=fun e (Z:Below w.heap.size w e)=>Ze1 m ⟨X,W,so,sc,some V,Y,hc,he⟩ pl po pc e (bc.out.old Z) (by omega);have ab:=fun e (Z:Below w.heap.size w e)=>Ze1 m ⟨X,W,so,sc,some V,Y,hc,he⟩ s lo lc e (bb.out.old Z) (by split at h4<;>omega);have af:=fun e=>ZeY m ⟨X,W,so,sc,some V,Y,hc,he⟩ ⟨N,M⟩ 0 e (by omega);generalize hq1:ZaH m.cl.length pl=q1 at ae;generalize hq2:ZaH m.cl.length s=q2 at ab;generalize hq3:ZaG m.cl.length ⟨N,M⟩ 0=q3 at af;have az:=Zh hq1;have aA:=Zh hq2;have aB:=Zh hq3;have bd:=Zh ae;have a9:=Zh ab;have be:=Zh af;have H4:=Zh h4;have HR:∀ e:World,q1=false∨q2=false∨q3=false→Below w.heap.size w e→Ret w (.bool (ZaY m k)) (.returned (.bool false)) e:=fun e hf Z=>ZcP (ZcT (by rw [HQ.out,az.out,aA.out,aB.out];rcases hf with rfl|rfl|rfl<;>simp)) Z;have T:=Zh HR;clear hq1 hq2 hq3 ae ab af HR;by_cases hc0:0≤c
  all_goals
   have bG:(pl.length:Int)+s.length+1≤11:=by have:=H4.out;split at this<;>omega
   have bH:¬ (pl.length:Int)+s.length > 10:=by have:=H4.out;split at this<;>omega
   first
    | have r:¬ (pl.length:Int)+s.length+1 > 10:=by (have:=H4.out;rw [if_pos hc0] at this;omega)
    | have r:¬ c ≥ 0:=by omega
   clear h4;go_enter Tryz.func117,Tryz.ntmps117
   go_wp2_with fail
   refine (bd.out _ HB3.out).mono ?_;rintro e1 w1 ⟨rfl,g⟩;clear c0 c1 c2 c3 c4 c5 c6;have O:=Zh (Zag HB3.out g);have bf:=Zh g;have r0:w1.cell? ⟨w.heap.size,0,none⟩=some (.slice X m.cl.length W):=(E.out.old g).cell 0 rfl;have r1:w1.cell? ⟨w.heap.size,1,none⟩=some (.slice so m.st.length sc):=(E.out.old g).cell 1 rfl;have r2:w1.cell? ⟨w.heap.size,2,none⟩=some (.slice (some V) m.me.length Y):=(E.out.old g).cell 2 rfl;have r3:w1.cell? ⟨w.heap.size,3,none⟩=some (.int .i64 m.sel):=(E.out.old g).cell 3 rfl;have rl:=(E.out.old g).lt;have x3:w1.cell? ⟨w.heap.size+1,3,none⟩=some (.slice lo s.length lc):=(HY.out.old g).cell 3 rfl;clear g;rcases q1 with _|_
   ·go_wp2;go_ret;exact T.out _ (by simp) O.out
   go_wp2_with fail
   refine (a9.out _ O.out).mono ?_;rintro e2 w2 ⟨rfl,q⟩;have au:=Zh (Zag O.out q);have U:=Zh (Zag bf.out q);have r0:=ZeX q r0;have r1:=ZeX q r1;have r2:=ZeX q r2;have r3:=ZeX q r3;have x4:w2.cell? ⟨w.heap.size+1,4,none⟩=some (.int .i64 N):=(HY.out.old U.out).cell 4 rfl;have x5:w2.cell? ⟨w.heap.size+1,5,none⟩=some (.int .i64 M):=(HY.out.old U.out).cell 5 rfl;clear q x3;rcases q2 with _|_
   ·go_wp2;go_ret;exact T.out _ (by simp) au.out
   go_wp2_with fail
   refine (be.out _).mono ?_;rintro e3 w3 ⟨rfl,u⟩;have z:=Zh (Zag au.out u);have aE:=Zh (Zag U.out u);have x6:w3.cell? ⟨w.heap.size+1,6,none⟩=some (.slice ko f.length L):=(HY.out.old aE.out).cell 6 rfl;clear u x4 x5 r0 r1 r2 r3 rl;rcases q3 with _|_
   ·go_wp2;go_ret;exact T.out _ (by simp) z.out
   go_wp2_with fail
   refine (ZgN f ko L false _ (ay.out.old z.out)).mono ?_;rintro e4 w4 ⟨rfl,aa⟩;have av:=Zh (Zag z.out aa);have bg:=Zh (Zag aE.out aa);clear aa x6;by_cases hc4:ZaW false f=0
   ·obtain ⟨bj,n,-⟩:=Zg7 hc4;have aL:(ZaW false f != 0)=false:=by simp [hc4]
    have R:=Zh hc4;have HI:=Zh n;clear n hc4;have aM:ZaY m k=f.all (ZaX m k):=by rw [HQ.out,az.out,aA.out,aB.out,R.out,decide_eq_true H4.out,decide_eq_true h1,decide_eq_true h2,decide_eq_true h3];simp
    have ax:=Zh aM;clear aM
    go_wp2_with fail
    go_loopw [7] (fun i wr=>∃ j:Nat,j≤f.length∧i=.int .i64 j∧Below w4.heap.size w4 wr∧Hid (∀ i,i<j→ZaX m k (f.getD i default)=true)) (fun i _=>f.length-(intOf i).toNat)
    case atStart=>exact ⟨0,by omega,rfl,Below.refl _ _,Zh (by omega)⟩
    case round=>
     obtain ⟨j,hj,rfl,F,q1⟩:=hrel;have a8:=Zh F;have D:=Zh (Zag av.out F);have Hbr:=Zh (Zag bg.out F);clear F;have x6:wr.cell? ⟨w.heap.size+1,6,none⟩=some (.slice ko f.length L):=(HY.out.old Hbr.out).cell 6 rfl;by_cases hjl:j<f.length
     ·obtain ⟨ak,rfl,e0,e1,e2⟩:=ZaB (ay.out.old D.out) hjl;have r0:wr.cell? ⟨w.heap.size,0,none⟩=some (.slice X m.cl.length W):=(E.out.old Hbr.out).cell 0 rfl;have r1:wr.cell? ⟨w.heap.size,1,none⟩=some (.slice so m.st.length sc):=(E.out.old Hbr.out).cell 1 rfl;have r2:wr.cell? ⟨w.heap.size,2,none⟩=some (.slice (some V) m.me.length Y):=(E.out.old Hbr.out).cell 2 rfl;have r3:wr.cell? ⟨w.heap.size,3,none⟩=some (.int .i64 m.sel):=(E.out.old Hbr.out).cell 3 rfl;have bo:(j:Int) < f.length:=by omega
      have bL:IntKind.i64.wrap ((j:Int)+1)=j+1:=IntWalk.i64_in _ (by omega);have G:=fun e Z=>ZgG m ⟨X,W,so,sc,some V,Y,hc,he⟩ k (f.getD j default) e (Hj.out.old Z) hk hn HL.out (HI.out j hjl) HO.out;generalize n:f.getD j default=ins at e0 e1 e2 G;generalize hqo:ZaX m k ins=qo at G;have I:=Zh n;have aC:=Zh hqo;have ba:=Zh G;clear n hqo G
      go_upto_region 12 with fail
      refine rO (fun e=>e.cell? ⟨w.heap.size,0,none⟩=some (.slice X m.cl.length W)∧e.cell? ⟨w.heap.size,1,none⟩=some (.slice so m.st.length sc)∧e.cell? ⟨w.heap.size,2,none⟩=some (.slice (some V) m.me.length Y)∧e.cell? ⟨w.heap.size,3,none⟩=some (.int .i64 m.sel)∧e.cell? ⟨w.heap.size+1,6,none⟩=some (.slice (some ak) f.length L)∧e.cell? (ak.add (j*3))=some (.int .i64 ins.op)∧e.cell? ⟨(ak.add (j*3)).block,(ak.add (j*3)).off+1,none⟩=some (.int .i64 ins.a)∧e.cell? ⟨(ak.add (j*3)).block,(ak.add (j*3)).off+2,none⟩=some (.int .i64 ins.b)) (oL [0,1,2,3,4,5,6,107,8]) ⟨r0,r1,r2,r3,x6,e0,e1,e2⟩ ?_
      repeat refine pO ?_
      refine oO fun K hK=>?_;go_simp;refine (ba.out _ D.out.drew).mono ?_;rintro e5 w5 ⟨rfl,J⟩;have b:Below wr.heap.size wr w5:=Zag (Below.refl _ _).drew J;go_simp;refine hK _ _ ⟨⟨ZeX b r0,ZeX b r1,ZeX b r2,ZeX b r3,ZeX b x6,ZeX b e0,ZeX b e1,ZeX b e2⟩,?_⟩;clear hK K
      repeat refine pO ?_
      refine Zd7 ?_;have a7:=Zh (Zag D.out b);have aw:=Zh (Zag a8.out b);clear b J r0 r1 r2 r3 x6 e0 e1 e2;rcases qo with _|_
      ·go_wp2;go_ret;refine ZcP (ZcT ?_) a7.out;rw [ax.out];exact (List.all_eq_false.2 ⟨ins,by rw [←I.out,List.getD_eq_getElem?_getD,List.getElem?_eq_getElem hjl];exact List.getElem_mem hjl,by rw [aC.out];decide⟩).symm
      ·go_wp2;go_roundw
       case rel=>
        refine ⟨j+1,by omega,by go_num,aw.out,Zh fun i hi=>?_⟩;by_cases hij:i<j
        ·exact q1.out i hij
        ·obtain rfl:i=j:=by omega
         rw [I.out];exact aC.out
       case measure=>simp [intOf];omega
     ·go_wp2;go_ret;refine ZcP (ZcT ?_) D.out;rw [ax.out];refine (List.all_eq_true.2 fun x hx=>?_).symm;obtain ⟨i,hi,rfl⟩:=List.getElem_of_mem hx;have:=q1.out i (by omega);rwa [List.getD_eq_getElem?_getD,List.getElem?_eq_getElem hi] at this
   ·have aL:(ZaW false f != 0)=true:=by simp [hc4]
    have R:=Zh hc4;clear hc4;go_wp2;go_ret;exact ZcP (ZcT (by rw [HQ.out,decide_eq_false R.out];simp)) av.out
 ·have aN:ZaY m k=false:=by rw [HQ.out];grind
  have HNo:=Zh aN;clear aN;by_cases g1:c < -1
  ·by_cases hc0:0≤c
   ·omega
   ·have r:¬ c ≥ 0:=by omega
    exact k49
  by_cases g2:c ≥ m.cl.length
  ·have r:c ≥ 0:=by omega
   exact k49
  by_cases g3:(pl.length:Int) > 4
  ·by_cases r:c ≥ 0
   all_goals
    go_enter Tryz.func117,Tryz.ntmps117;go_wp2;go_ret;exact ZcP (ZcT HNo.out.symm) HB3.out
  by_cases r:c ≥ 0
  ·rw [if_pos r] at h1;have g4:(pl.length:Int)+s.length+1 > 10:=by omega
   exact k49
  ·rw [if_neg r] at h1;have g4:(pl.length:Int)+s.length > 10:=by omega
   exact k49
end
section
open Go.RowKit
attribute [local go_sem] World.cell?_alloc_some
def Zim {α:Type} [Cells α] (e:TypeId) (W:World) (l:List α) (er:Int):Ending→World→Prop:=fun en w'=>(∃ ao cap,en=.returned (.tuple #[.slice ao l.length cap,.int .i64 er])∧w'.ownsRow W.heap.size e (Cells.n α) (.slice ao l.length cap) l.length (Zal l))∧Below W.heap.size W w'
def Zin {α:Type} [Cells α] (W:World) (l:List α) (er:Int):Ending→World→Prop:=fun en w'=>(∃ ao cap,en=.returned (.tuple #[.slice ao l.length cap,.int .i64 er])∧Zas w' ao cap l)∧Below W.heap.size W w'
def Zio {α:Type} [Cells α] (W:World) (l:List α) (er:Int):Ending→World→Prop:=fun en w'=>(∃ ao cap,en=.returned (.tuple #[.slice ao l.length cap,.int .i64 er])∧Zas w' ao cap l∧∀ a,ao=some a→W.heap.size≤a.block)∧Below W.heap.size W w'
theorem Zip {m:Md} (h:Za2 m=true):∀ k,k<m.cl.length→ZaL m k=true:=by simp only [Za2,Bool.and_eq_true] at h;exact ZaF.1 h.1.1.2
theorem Ziq {m:Md} (h:Za2 m=true):∀ k,k<m.me.length→ZaY m k=true:=by simp only [Za2,Bool.and_eq_true] at h;exact ZaF.1 h.1.2
theorem Zir {m:Md} (h:Za2 m=true):m.cl.length≤10∧m.me.length≤16∧0≤m.sel∧m.sel≤16∧m.st.length≤10:=by simp only [Za2,Za0,Bool.and_eq_true,decide_eq_true_eq] at h;exact ⟨h.1.1.1.1.1.1.1.1.1,h.1.1.1.1.1.1.1.1.2,h.1.1.1.1.1.1.1.2,h.1.1.1.1.1.1.2,h.1.1.1.1.1.2⟩
theorem Zis {m:Md}{k:Nat} (h:ZaY m k=true):(m.me.getD k default).p.length≤4∧(m.me.getD k default).l.length≤10∧(m.me.getD k default).k.length≤120:=by
 simp only [ZaY,Bool.and_eq_true,decide_eq_true_eq] at h;have a:=h.1.1.1.1.1.1.2;have b:=h.1.1.1.1.2;have c:=(Zg7 h.1.2).1;refine ⟨a,?_,c⟩;split at b<;>omega
theorem Zit (m:Md) (h:Hd) (k:Nat) (w:World) (H:Zaz w h m) (C:Za2 m=true) (r:k<m.me.length):Calls Tryz.prog 125 #[.agg (HM.mk h m),.int .i64 k] w (Zim 38 w (ZeH (m.me.getD k default)) 0):=by
 have D:Blk (w.alloc (.cells (HM.mk h m) 26)) w.heap.size (HM.mk h m) 26:=Blk.new w _ _;have hR:Blk ((w.alloc (.cells (HM.mk h m) 26)).alloc (.cells #[.int .i64 k] 3)) (w.heap.size+1) #[.int .i64 k] 3:=Blk.new' (w:=w.alloc (.cells (HM.mk h m) 26)) #[.int .i64 k] 3 (by simp);have j:Below w.heap.size w ((w.alloc (.cells (HM.mk h m) 26)).alloc (.cells #[.int .i64 k] 3)):=by exact bE
 have f:Zas ((w.alloc (.cells (HM.mk h m) 26)).alloc (.cells #[.int .i64 k] 3)) (some ⟨w.heap.size+1,0,none⟩) 1 [(k:Int)]:=by exact k98
 have a:=Zhm m h m.me.length [(k:Int)] _ 1 _ (H.old j) f (by simp);have e:(Za2 m&&[(k:Int)].all (inV m.me.length))=true:=by rw [C];simp [inV];omega
 rw [e] at a;have o:=Zis (Ziq C k r);generalize hxk:m.me.getD k default=x at o ⊢;generalize hlq:ZeH x=q;have F:=Zh a;have K:=Zh (D.alloc (.cells #[.int .i64 k] 3));have I:=Zh H;have s:=Zh j;have v:=Zh hxk;have u:=Zh hlq;clear a D hR j f e H hxk hlq C;have V:(k:Int) < m.me.length:=by omega
 go_enter Tryz.func125,Tryz.ntmps125
 go_wp2_with fail
 refine F.out.mono ?_;rintro Y E ⟨rfl,l⟩;have g:=Zh (Zag s.out l);have i:=K.out.old l;have W:E.cell? ⟨w.heap.size,2,none⟩=some (.slice h.eo m.me.length h.ec):=i.cell 2 rfl;have rl:=i.lt;have c:=I.out.old g.out;obtain ⟨X,n,M,N,O,P,Q,R,S⟩:=c.mth r;have B:=c.p k r;have A:=c.l k r;rw [v.out] at M N O P Q R S B A;rw [n] at W;have b:=Zfj x (h.e k) E B A (by omega);rw [u.out] at b;have t:=Zh b;have G:=Zh n;have T:¬ Zhk true=1:=by decide
 have U:Zhk true=0:=rfl;clear i c B A b n l
 go_wp2_with fail
 refine t.out.mono ?_;rintro Z w2 ⟨⟨L,y,rfl,d⟩,z⟩;have J:=Zh d;clear d;go_wp2;go_ret2;exact ⟨⟨L,y,rfl,Zef J.out g.out.size⟩,Zag g.out z⟩
theorem Ziu (m:Md) (h:Hd) (s:Nat) (w:World) (H:Zaz w h m) (o:Za2 m=true) (O:(s:Int) < m.sel):Calls Tryz.prog 211 #[.agg (HM.mk h m),.int .i64 s] w (Zio w (ZaO m s) 0):=by
 have A:Blk (w.alloc (.cells (HM.mk h m) 26)) w.heap.size (HM.mk h m) 26:=Blk.new w _ _;have hR:Blk ((w.alloc (.cells (HM.mk h m) 26)).alloc (.cells #[.int .i64 s] 3)) (w.heap.size+1) #[.int .i64 s] 3:=Blk.new' (w:=w.alloc (.cells (HM.mk h m) 26)) #[.int .i64 s] 3 (by simp);have g:Below w.heap.size w ((w.alloc (.cells (HM.mk h m) 26)).alloc (.cells #[.int .i64 s] 3)):=by exact bE
 have d:Zas ((w.alloc (.cells (HM.mk h m) 26)).alloc (.cells #[.int .i64 s] 3)) (some ⟨w.heap.size+1,0,none⟩) 1 [(s:Int)]:=by exact k98
 have c:=Zhm m h m.sel [(s:Int)] _ 1 _ (H.old g) d (by simp);have e:(Za2 m&&[(s:Int)].all (inV m.sel))=true:=by rw [o];simp [inV];omega
 rw [e] at c;have z:=Zir o;have l:=Zip o;generalize hlq:ZaO m s=q;have D:=Zh c;have I:=Zh (A.alloc (.cells #[.int .i64 s] 3));have E:=Zh H;have r:=Zh g;have u:=Zh hlq;have t:=Zh l;clear c A hR g d e H hlq o l;go_enter Tryz.func211,Tryz.ntmps211
 go_wp2_with fail
 refine D.out.mono ?_;rintro P n ⟨rfl,i⟩;have f:=Zh (Zag r.out i);have b:=I.out.old i;have R:n.cell? ⟨w.heap.size,0,none⟩=some (.slice h.co m.cl.length h.cc):=b.cell 0 rfl;have S:n.cell? ⟨w.heap.size,1,none⟩=some (.slice h.so m.st.length h.sc):=b.cell 1 rfl;have T:n.cell? ⟨w.heap.size,2,none⟩=some (.slice h.eo m.me.length h.ec):=b.cell 2 rfl;have U:n.cell? ⟨w.heap.size,3,none⟩=some (.int .i64 m.sel):=b.cell 3 rfl;have V:=b.lt;have k:=ZdT m h s n (E.out.old f.out) ⟨by omega,O⟩ z.1 (fun j N=>Zhc (t.out j N));rw [u.out] at k;have v:=Zh k;have L:¬ Zhk true=1:=by decide
 have M:Zhk true=0:=rfl;clear b k i
 go_wp2_with fail
 refine v.out.mono ?_;rintro Q W ⟨⟨J,x,rfl,C,B⟩,y⟩;have G:=Zh C;have F:=Zh B;clear C B;go_wp2;go_ret2;exact ⟨⟨J,x,rfl,G.out,fun a K=>Nat.le_trans f.out.size (F.out a K)⟩,Zag f.out y⟩
end
