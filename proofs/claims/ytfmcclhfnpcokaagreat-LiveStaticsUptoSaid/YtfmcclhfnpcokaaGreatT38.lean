import Derived.Test.YtfmcclhfnpcokaaGreatT37
import Derived.Test.YtfmcclhfnpcokaaGreatT36
set_option linter.all false
set_option maxRecDepth 100000
set_option maxHeartbeats 16000000
namespace Go.Proofs.YtfmcclhfnpcokaaGreat
theorem j2{p:Prop}(h:p:=by
 have HNe2:=Zh (show Zqp m (Zqq m r) (List.range (c+1))=stepR m (stepO m s c) c from HNe.out);have hsn2:=HSn.out.stepO HV.out HCl.out;generalize stepO m s c=s2 at hsn2 HR1 HNe2;have HSn2:=Zh hsn2;have hp:=Zsc HR1.out.qb (c:=c) (by rw [Zsf];exact HCl.out);rw [Zsh _ HCl.out] at hp;have s10:=HR1.out.bk.cell 10 (v:=.slice (some ⟨Z.q,0,none⟩) m.cl.length m.cl.length) rfl;clear hsn2;rcases hs2:s2.2 c with _|y
 ·rw [hs2] at hp;have HTd:=Zh (HTr.out _ HSn2.out _ HCl.out hs2 wq HR1.out);clear hs2
  go_wp2_with (go_at_call 144;refine HTd.out.mono ?_;rintro e wv ⟨rfl,hz7,hu7⟩;have HR2:=Zh hz7;have HU2:=Zh (HU1.out.trans hu7);clear hz7 hu7 hp s10)
  exact ⟨⟨c+1,hcl,rfl,by rw [HNe2.out];exact HR2.out,HU2.out⟩,by simp [intOf];omega⟩
 ·rw [hs2] at hp;have HR2:=Zh (show Zsq w wq S Z h m (stepR m s2 c) by rw [Ztv hs2];exact HR1.out);clear hs2;go_wp2;exact ⟨⟨c+1,hcl,rfl,by rw [HNe2.out];exact HR2.out,HU1.out⟩,by simp [intOf];omega⟩):p:=h
theorem j9{p:Prop}(h:p:=by
 obtain ⟨x0,x1,x2,x3⟩:=Zj8 HX.out
 go_wp2_with (go_at_call 21;refine (HFi.out _ Hj.out).mono ?_;rintro e w1 ⟨rfl,hb1⟩;have HB1:=Zh hb1;clear hb1 x0 x1 x2 x3)
 go_ret2;exact ⟨rfl,Zag HB.out HB1.out⟩):p:=h
theorem j13{p:Prop}(h:p:=by
 have hz:=Zmx (x:=0) (y:=0) (z:=0) HR3.out;exact ZpL (F:=X+1+1) Tryz.results33 rfl rfl rfl hz.c3.1 hz.c3.2.1 hz.c3.2.2 (Zmz (Zag HB.out HB3.out) _ _ _ HXs.out)):p:=h
section
open Go.RowKit
attribute [local go_sem] World.cell?_alloc_some
theorem Ztn {n:Nat} (a:n≤10):madeCells (Value.cells (.agg #[.int .i64 0,.int .i64 0,.int .i64 0])) (n*3)=Zr6 (List.replicate n z3):=by
 obtain rfl|rfl|rfl|rfl|rfl|rfl|rfl|rfl|rfl|rfl|rfl:n=0∨n=1∨n=2∨n=3∨n=4∨n=5∨n=6∨n=7∨n=8∨n=9∨n=10:=by omega
 all_goals kernel_rfl
theorem Zto (n:Nat) (f:n≤10) (w:World):(Instr.makeSlice 122 (.int .i64 (n:Int)) (.int .i64 (n:Int))).run Tryz.prog w=.ok (.slice (some ⟨w.heap.size,0,none⟩) n n) (w.alloc (.cells (Zr6 (List.replicate n z3)) 45)):=by
 have a:(Tryz.prog.info? 45).map (fun i=>(i.zero,i.size,i.bytes))=some (some (.agg #[.int .i64 0,.int .i64 0,.int .i64 0]),3,24):=by kernel_rfl
 obtain ⟨i,e,b⟩:=Option.map_eq_some_iff.1 a;simp only [Prod.mk.injEq] at b;obtain ⟨h,g,d⟩:=b;have c:=run_make (P:=Tryz.prog) w 122 45 i (.agg #[.int .i64 0,.int .i64 0,.int .i64 0]) Tryz.underlying122 e h .i64 .i64 n n (by omega) (Int.le_refl _) (by rw [d];omega) (by omega);simp only [Int.toNat_natCast,g] at c;rw [Ztn f] at c;exact c
theorem Ztp (n:Nat) (b:n≤10) (w:World):(Instr.makeSlice 83 (.int .i64 (n:Int)) (.int .i64 (n:Int))).run Tryz.prog w=.ok (.slice (some ⟨w.heap.size,0,none⟩) n n) (w.alloc (.cells (Zr7 (List.replicate n false)) 4)):=by have a:=run_make_row' (P:=Tryz.prog) 83 4 (.bool false) 1 Tryz.underlying83 (by kernel_rfl) rfl .i64 .i64 n (by omega) (by omega) w;rw [Zcj] at a;rw [a];simp [Zr7]
theorem Ztq {w:World}{k:Addr}{v:Value} (f:w.cell? k=some v):(∀ a,(w.alloc a).cell? k=some v)∧(∀ a b,((w.alloc a).alloc b).cell? k=some v)∧(∀ a b c,(((w.alloc a).alloc b).alloc c).cell? k=some v)∧∀ a b c d,((((w.alloc a).alloc b).alloc c).alloc d).cell? k=some v:=by
 have e:∀ {w:World},w.cell? k=some v→∀ o,(w.alloc o).cell? k=some v:=fun {w} h o=>by rw [((Below.refl w.heap.size w).alloc (Nat.le_refl _) o).cell (Zad h)];exact h
 exact ⟨fun a=>e f a,fun a b=>e (e f a) b,fun a b c=>e (e (e f a) b) c,fun a b c d=>e (e (e (e f a) b) c) d⟩
theorem Ztr (m:Md):∀ (l:List Nat) (s:Tbs) (c:Nat),Zqp m s (l++[c])=Zqo m (Zqp m s l) c
 | [],_,_=>rfl
 | d :: r,s,c=>Ztr m r (Zqo m s d) c
theorem Zts (m:Md) (s:Tbs) (c:Nat):Zqp m s (List.range (c+1))=Zqo m (Zqp m s (List.range c)) c:=by rw [List.range_succ,Ztr]
theorem Ztt {w:World}{ao:Option Addr}{cap:Nat}{l:List SH} (h:Zas w ao cap l) {i:Nat} (b:i<l.length):∃ a,ao=some a∧w.cell? (a.add i)=some (.slice (l.getD i default).ao (l.getD i default).n (l.getD i default).c):=by
 obtain ⟨a,rfl⟩:=h.some (by omega);have c:l.getD i default=l[i]:=by simp [b]
 rw [c];have:=h.cell b 0 (v:=.slice l[i].ao l[i].n l[i].c) rfl;rw [show i*Cells.n SH=i from Nat.mul_one i] at this;exact ⟨a,rfl,this⟩
theorem Ztu {m:Md}{s:Tbs}{c:Nat}{x:T3} (h:s.1 c=some x):stepO m s c=s:=by unfold stepO;rw [if_pos (by rw [h];rfl)]
theorem Ztv {m:Md}{s:Tbs}{c:Nat}{x:T3} (h:s.2 c=some x):stepR m s c=s:=by unfold stepR;rw [if_pos (by rw [h];rfl)]
def Ztw (w:World) (h:Hd) (m:Md):Ending→World→Prop:=fun e w'=>(∃ S Z,e=.returned (.tuple #[ZQ.p S,.int .i64 0])∧Zsq w w' S Z h m (Zqq m (2*m.cl.length+1)))∧Below w.heap.size w w'
theorem Ztx (m:Md) (h:Hd) (w:World) (H:Zaz w h m) (U:okL m):Calls Tryz.prog 81 #[.agg (HM.mk h m)] w (Ztw w h m):=by
 have hv:=U.v;obtain ⟨w0,Q⟩:∃ w0,w0=w.alloc (.cells (HM.mk h m) 26):=⟨_,rfl⟩;have HB:=Zh (show Below w.heap.size w w0 by rw [Q];exact bE);obtain ⟨X,hX⟩:∃ X,X=w.heap.size:=⟨_,rfl⟩;have HX:=Zh (show Blk w0 X (HM.mk h m) 26 by rw [Q,hX];exact Blk.new _ _ _);have Hj:=Zh (H.old HB.out);have HW:=Zh Q;have G:=Zh hX;have HH:=Zh H;have aq:=Zh (fun f (h':Zaz f h m)=>ZnR m h f h');rw [if_pos (show (Zmk m).2.2=0 from U)] at aq;have aX:=Zh (fun f (h':Zaz f h m)=>Ztc m h f h' hv);have I:=(Zir hv).1;have aR:=Zh (fun f S xs ty (hb:Blk f S xs ty) V W Y x3 (h':Zaz f h m)=>Zs0 (S:=S) (h:=h) hv ⟨3,0⟩ f hb V W Y x3 h');have HV:=Zh hv;clear Q H hX hv U;go_enter Tryz.func81,Tryz.ntmps81
 go_upto_region 1 with fail
 rw [←HW.out,←G.out];obtain ⟨V,W,Y,x3⟩:=Zj8 HX.out
 go_upto_region 2 with (go_at_call 21;refine (aq.out _ Hj.out).mono ?_;rintro e w1 ⟨rfl,az⟩;have ad:=Zh az;clear az V W Y x3)
 obtain ⟨V,W,Y,x3⟩:=Zj8 (HX.out.old ad.out)
 go_upto_region 5 with fail
 have a9:X+1≤w1.heap.size:=Nat.le_trans HX.out.lt ad.out.size;have au:=Zh a9;have K:=Zto m.cl.length I;have J:=Ztp m.cl.length I;obtain ⟨T0,ai⟩:∃ T,T=Zr6 (List.replicate m.cl.length z3):=⟨_,rfl⟩;obtain ⟨B0,ah⟩:∃ T,T=Zr7 (List.replicate m.cl.length false):=⟨_,rfl⟩;rw [←ai] at K;rw [←ah] at J;have ag:=Zh ai;have ac:=Zh ah;have ax:=Zh K;have aw:=Zh J;clear ai ah K J
 go_cut [6] from 18 to 28 (fun p wx=>∃ (S o r pp q:Nat),p=.pointer (some ⟨S,0,none⟩)∧Blk wx S #[.slice h.co m.cl.length h.cc,.slice h.so m.st.length h.sc,.slice h.eo m.me.length h.ec,.int .i64 m.sel,.int .i64 0,.int .i64 0,.int .i64 0,.slice (some ⟨o,0,none⟩) m.cl.length m.cl.length,.slice (some ⟨r,0,none⟩) m.cl.length m.cl.length,.slice (some ⟨pp,0,none⟩) m.cl.length m.cl.length,.slice (some ⟨q,0,none⟩) m.cl.length m.cl.length] 124∧Blk wx o T0 45∧Blk wx r T0 45∧Blk wx pp B0 4∧Blk wx q B0 4∧(X+1≤S∧X+1≤o∧X+1≤r∧X+1≤pp∧X+1≤q∧o≠r∧pp≠q)∧Below w0.heap.size w0 wx)
 case first=>
  have K:=ax.out;have J:=aw.out;have bH:=ad.out;obtain ⟨bU,bV,bW,bX⟩:=Ztq V;obtain ⟨bY,bZ,b0,b1⟩:=Ztq W;obtain ⟨b2,b3,b4,b5⟩:=Ztq Y;obtain ⟨b6,b7,b8,b9⟩:=Ztq x3
  go_region
  all_goals
   clear K J
   go_wp2_with fail
   go_meet
   repeat apply Exists.intro
   refine ⟨rfl,?_,?_,?_,?_,?_,?_,?_⟩
   ·repeat (first|(refine Blk.new' _ _ ?_;simp;done)|refine Blk.drew ?_|refine Blk.alloc ?_ _)
   ·repeat (first|(refine Blk.new' _ _ ?_;simp;done)|refine Blk.drew ?_|refine Blk.alloc ?_ _)
   ·repeat (first|(refine Blk.new' _ _ ?_;simp;done)|refine Blk.drew ?_|refine Blk.alloc ?_ _)
   ·repeat (first|(refine Blk.new' _ _ ?_;simp;done)|refine Blk.drew ?_|refine Blk.alloc ?_ _)
   ·repeat (first|(refine Blk.new' _ _ ?_;simp;done)|refine Blk.drew ?_|refine Blk.alloc ?_ _)
   ·have:=au.out;refine ⟨?_,?_,?_,?_,?_,?_,?_⟩<;>omega
   ·exact bE
 case rest=>
  obtain ⟨S,zo,zr,zp,zq,rfl,hS,hO,hR,hP,hQ,aB,P⟩:=hcut;have D:=Zh hS;have aU:=Zh (Hj.out.old P);have ab:=Zh (aR.out wc S _ _ hS rfl rfl rfl rfl (Hj.out.old P));have l:=Zh (And.intro hO (And.intro hR (And.intro hP hQ)));have n:=Zh aB;have ap:=Zh P;clear hS hO hR hP hQ aB P V W Y x3;obtain ⟨A,hA⟩:∃ A,A=ZmW m ⟨3,0⟩:=⟨_,rfl⟩;rw [←hA] at ab;have aQ:=Zh hA;clear hA;obtain ⟨A0,A1,A2⟩:=A
  go_upto_region 7 with (go_at_call 142;refine ab.out.mono ?_;rintro e w2 ⟨rfl,aj⟩;(try simp only [ag3]);have O:=Zh aj;have j:=Zh (D.out.old aj);clear aj;have s4:=j.out.cell 4 (v:=.int .i64 0) rfl;have s5:=j.out.cell 5 (v:=.int .i64 0) rfl;have s6:=j.out.cell 6 (v:=.int .i64 0) rfl;have f4:=j.out.frozen 4;have f5:=j.out.frozen 5;have f6:=j.out.frozen 6;have sl:=j.out.lt)
  clear s4 s5 s6 f4 f5 f6 sl;obtain ⟨N,B⟩:∃ N,N=((w2.setCell ⟨S,4,none⟩ (.int .i64 A0)).setCell ⟨S,5,none⟩ (.int .i64 A1)).setCell ⟨S,6,none⟩ (.int .i64 A2):=⟨_,rfl⟩;have M:zo≠S∧zr≠S∧zp≠S∧zq≠S:=⟨Zsr l.out.1 D.out (by decide),Zsr l.out.2.1 D.out (by decide),Zsr l.out.2.2.1 D.out (by decide),Zsr l.out.2.2.2 D.out (by decide)⟩;have u:=Zh (show Zsq w N S ⟨zo,zr,zp,zq⟩ h m (Zqq m 0) from by
   have bc:Below w.heap.size w N:=by rw [B];exact (((Zag HB.out (Zag ap.out O.out)).setCell (p:=⟨S,4,none⟩) (show w.heap.size≤S by have:=n.out;have:=G.out;omega) _).setCell (p:=⟨S,5,none⟩) (show w.heap.size≤S by have:=n.out;have:=G.out;omega) _).setCell (p:=⟨S,6,none⟩) (show w.heap.size≤S by have:=n.out;have:=G.out;omega) _
   have U:∀ {b:Nat}{xs:Array Value}{t:TypeId},Blk wc b xs t→b≠S→Blk N b xs t:=fun hb L=>by rw [B];exact (((hb.old O.out).other (a:=⟨S,4,none⟩) L _).other (a:=⟨S,5,none⟩) L _).other (a:=⟨S,6,none⟩) L _
   refine ⟨?_,HH.out,bc,?_,?_,?_,?_,n.out.2.2.2.2.2,?_⟩
   ·rw [←aQ.out,B];exact ((j.out.set 4 (.int .i64 A0)).set 5 (.int .i64 A1)).set 6 (.int .i64 A2)
   ·show Blk N zo (Zr6 (tbT m.cl.length (fun _=>none))) _;rw [Zsk,←ag.out];exact U l.out.1 M.1
   ·show Blk N zr (Zr6 (tbT m.cl.length (fun _=>none))) _;rw [Zsk,←ag.out];exact U l.out.2.1 M.2.1
   ·show Blk N zp (Zr7 (tbB m.cl.length (fun _=>none))) _;rw [Zsl,←ac.out];exact U l.out.2.2.1 M.2.2.1
   ·show Blk N zq (Zr7 (tbB m.cl.length (fun _=>none))) _;rw [Zsl,←ac.out];exact U l.out.2.2.2 M.2.2.2
   ·have:=n.out;have:=G.out;exact ⟨by omega,by show w.heap.size≤zo;omega,by show w.heap.size≤zr;omega,by show w.heap.size≤zp;omega,by show w.heap.size≤zq;omega⟩)
  have a4:=Zh (show Blk N X (HM.mk h m) 26 from by
   have L:X≠S:=by have:=n.out;omega
   rw [B];exact (((HX.out.old (Zag ap.out O.out)).other (a:=⟨S,4,none⟩) L _).other (a:=⟨S,5,none⟩) L _).other (a:=⟨S,6,none⟩) L _)
  rw [←B];clear B M;obtain ⟨Z,hZ⟩:∃ Z:Zsp,Z=⟨zo,zr,zp,zq⟩:=⟨_,rfl⟩;rw [←hZ] at u;clear hZ l n ag ac ax aw D aU ab O j au;obtain ⟨V,W,Y,x3⟩:=Zj8 a4.out
  go_upto_region 8 with (go_at_call 78;refine (aX.out _ u.out.mod).mono ?_;rintro e w5 ⟨⟨so,sc,g,rfl,z,aF,aD,aC⟩,aA⟩;have aS:=Zh aA;have ae:=Zh z;have aZ:=Zh aF;have aY:=Zh aD;have aW:=Zh aC;clear aA z aF aD aC V W Y x3)
  have av:=Zh (show ∀ k∈Z.s,k<N.heap.size from by
   have h2:=u.out.ob.lt;have h3:=u.out.rb.lt;have h4:=u.out.pb.lt;have h5:=u.out.qb.lt;intro k hk;simp only [Zsp.s,List.mem_cons,List.not_mem_nil,or_false] at hk;rcases hk with rfl|rfl|rfl|rfl<;>assumption)
  have a0:=Zh (show ∀ f,UpL Z.s w5 f→Zas f so sc g from fun f hu=>Zsm aZ.out hu fun a ha hm=>by have:=av.out _ hm;have:=aY.out a ha;omega);have aV:=Zh (show ∀ f,UpL Z.s w5 f→∀ c,c<m.cl.length→(g.getD c default).n=(ZmY m c).length∧Zas f (g.getD c default).ao (g.getD c default).c (nwI m c) from fun f hu c hc=>by
   obtain ⟨h1,h2⟩:=aW.out c (by rw [ae.out];exact hc);exact ⟨h1,Zsm (Zas.of_own (by rw [Zau];exact h2)) hu fun a ha hm=>by have:=av.out _ hm;have:=(h2.lt a.block (by rw [ha];rfl)).1;omega⟩)
  have ar:=Zh (u.out.old aS.out);have a2:=Zh (fun (s:Tbs) (hs:Snd m s) (c:Nat) (hc:c<m.cl.length) (L:s.1 c=none) ao cap f (H':Zsq w f S Z h m s) hr=>ZsW HV.out hs hc L ao cap f H' hr);have HTr:=Zh (fun (s:Tbs) (hs:Snd m s) (c:Nat) (hc:c<m.cl.length) (L:s.2 c=none) f (H':Zsq w f S Z h m s)=>Zs4 HV.out hs hc L f H');have z:=ae.out;have bA:=Zh I;have bJ:IntKind.i64.wrap (2*(m.cl.length:Int))=2*(m.cl.length:Int):=IntWalk.i64_in _ (by omega);have B:IntKind.i64.wrap (2*(m.cl.length:Int)+1)=2*(m.cl.length:Int)+1:=IntWalk.i64_in _ (by omega);rw [z];clear z;go_wp2
  go_loopw [8] (fun i wr=>∃ r:Nat,r≤2*m.cl.length+1∧i=.int .i64 r∧Hid (Zsq w wr S Z h m (Zqq m r))∧Hid (UpL Z.s w5 wr)) (fun i _=>2*m.cl.length+1-(intOf i).toNat)
  case atStart=>exact ⟨0,Nat.zero_le _,rfl,ar.out,UpL.refl _ _⟩
  case round=>
   obtain ⟨r,hr,rfl,af,a3⟩:=hrel;rename World=>wo;by_cases z:r<2*m.cl.length+1
   ·have bv:(r:Int) < 2*(m.cl.length:Int)+1:=by omega
    have bL:IntKind.i64.wrap ((r:Int)+1)=((r+1:Nat):Int):=IntWalk.i64_in _ (by omega);go_wp2
    go_loopw [9] (fun i wr=>∃ c:Nat,c≤m.cl.length∧i=.int .i64 c∧Hid (Zsq w wr S Z h m (Zqp m (Zqq m r) (List.range c)))∧Hid (UpL Z.s w5 wr)) (fun i _=>m.cl.length-(intOf i).toNat)
    case atStart=>exact ⟨0,Nat.zero_le _,rfl,af.out,a3.out⟩
    case round=>
     obtain ⟨c,hc,rfl,C,F⟩:=hrel;rename World=>wj;by_cases hcl:c<m.cl.length
     ·have bs:(c:Int) < m.cl.length:=by omega
      have bK:IntKind.i64.wrap ((c:Int)+1)=((c+1:Nat):Int):=IntWalk.i64_in _ (by omega);have ak:Snd m (Zqp m (Zqq m r) (List.range c)):=(Zqt HV.out r).round HV.out fun d hd=>by have:=List.mem_range.1 hd;omega
      have HNe:=Zh (Zts m (Zqq m r) c);generalize Zqp m (Zqq m r) (List.range c)=s at ak C HNe;have HSn:=Zh ak;have hp:=Zsc C.out.pb (c:=c) (by rw [Zsf];exact hcl);rw [Zsh _ hcl] at hp;have s9:=C.out.bk.cell 9 (v:=.slice (some ⟨Z.p,0,none⟩) m.cl.length m.cl.length) rfl;have HCl:=Zh hcl;obtain ⟨sd,bf,cs⟩:=Ztt (a0.out _ F.out) (i:=c) (by rw [ae.out];exact hcl);obtain ⟨aE,aG⟩:=aV.out _ F.out c hcl;rw [aE] at cs;have E:=Zh aG;generalize (g.getD c default).ao=ao at cs E;generalize (g.getD c default).c=cap at cs E;clear aE aG ak;subst bf;rcases hs1:s.1 c with _|x
      ·rw [hs1] at hp;have a1:=Zh (a2.out _ HSn.out _ HCl.out hs1 ao cap wj C.out E.out);clear hs1
       go_upto_region 16 with (go_at_call 143;refine a1.out.mono ?_;rintro e wq ⟨rfl,aJ,aH⟩;have HR1:=Zh aJ;have HU1:=Zh (F.out.trans aH);clear aJ aH hp s9 cs)
       exact j2
      ·rw [hs1] at hp;obtain ⟨wq,R⟩:∃ wq,wq=wj:=⟨_,rfl⟩;have HR1:=Zh (show Zsq w wq S Z h m (stepO m s c) by rw [R,Ztu hs1];exact C.out);have HU1:=Zh (show UpL Z.s w5 wq by rw [R];exact F.out);clear hs1
       go_upto_region 16 with fail
       rw [←R];clear R hp s9 cs;exact j2
     ·obtain rfl:c=m.cl.length:=by omega
      have bd:¬ (m.cl.length:Int) < m.cl.length:=by omega
      go_wp2;exact ⟨⟨r+1,z,rfl,C.out,F.out⟩,by simp [intOf];omega⟩
   ·obtain rfl:r=2*m.cl.length+1:=by omega
    have bd:¬ ((2*m.cl.length+1:Nat):Int) < 2*(m.cl.length:Int)+1:=by omega
    go_wp2;go_ret2;exact ⟨⟨S,Z,rfl,af.out⟩,af.out.bw⟩
end
section
open Go.RowKit
attribute [local go_sem] World.cell?_alloc_some
theorem Zty (m:Md) (h:Hd) (w:World) (H:Zaz w h m) (c:¬ okL m):Calls Tryz.prog 81 #[.agg (HM.mk h m)] w (Zhi w (.pointer none) (.int .i64 1)):=by
 obtain ⟨b,a⟩:∃ b,b=w.alloc (.cells (HM.mk h m) 26):=⟨_,rfl⟩;have HB:=Zh (show Below w.heap.size w b by rw [a];exact bE);have HX:=Zh (show Blk b w.heap.size (HM.mk h m) 26 by rw [a];exact Blk.new _ _ _);have Hj:=Zh (H.old HB.out);have d:=Zh a;have HFi:=Zh (fun w' (h':Zaz w' h m)=>ZnR m h w' h');rw [if_neg (show ¬ (Zmk m).2.2=0 from c)] at HFi;clear a H c;go_enter Tryz.func81,Tryz.ntmps81
 go_upto_region 1 with fail
 rw [←d.out];exact j9
def Ztz (w:World) (h:Hd) (m:Md):Ending→World→Prop:=fun e w'=>(∃ S Z s,e=.returned (.tuple #[ZQ.p S,.int .i64 0])∧Zsq w w' S Z h m s∧(∀ t,Zfk m t→ofV m s.1 s.2 t=Zm4 m t)∧∀ c,c<m.cl.length→s.1 c=Zm3 m c)∧Below w.heap.size w w'
theorem ZtA (m:Md) (h:Hd) (w:World) (H:Zaz w h m) (a:okL m):Calls Tryz.prog 81 #[.agg (HM.mk h m)] w (Ztz w h m):=
 (Ztx m h w H a).mono fun e w' ⟨⟨S,Z,h1,h2⟩,h3⟩=>⟨⟨S,Z,_,h1,h2,fun t d=>ZqG a.v d,fun c b=>ZqF a.v b⟩,h3⟩
theorem ZtB (m:Md) (h:Hd) (t:Ty) (w:World) (H:Zaz w h m):Calls Tryz.prog 33 #[.agg (HM.mk h m),.agg #[.int .i64 t.k,.int .i64 t.c]] w (Zqg (Zrl m t) w):=by
 obtain ⟨E,f⟩:∃ E,E=((w.alloc (.cells (HM.mk h m) 26)).alloc (.cells #[.int .i64 t.k,.int .i64 t.c] 38)).alloc (.cells #[.int .i64 0,.int .i64 0,.int .i64 0] 45):=⟨_,rfl⟩;have HB:=Zh (show Below w.heap.size w E by rw [f];exact bE);obtain ⟨X,V⟩:∃ X,X=w.heap.size:=⟨_,rfl⟩;have K:=Zh (show Blk E X (HM.mk h m) 26 by rw [f,V];exact ((Blk.new _ _ _).alloc _).alloc _);have J:=Zh (show Blk E (X+1) #[.int .i64 t.k,.int .i64 t.c] 38 by rw [f,V];exact (Blk.new' (w:=w.alloc _) _ _ (by simp)).alloc _);have HR:=Zh (show Blk E (X+1+1) (cl3 0 0 0) 45 by rw [f,V];exact Blk.new' (w:=(w.alloc _).alloc _) _ _ (by simp));have N:=Zh f;have B:=Zh V;have HXs:=Zh (show w.heap.size≤X+1+1 by omega);clear V;have Hj:=Zh (H.old HB.out);have d:=Zh (fun w'=>ZeY m h t 1 w' ⟨by omega,Int.le_refl _⟩);clear f H;by_cases ho:okL m
 ·have n:=Zh (ZtA m h E Hj.out ho);by_cases ht:Zfk m t
  ·rw [show Zrl m t=Zqf (Zm4 m t) from if_pos ⟨ho,ht⟩];rw [show ZaG m.cl.length t 1=true from ht] at d;have Q:=Zh ht;have G:=Zh (fun (wb w':World) (S:Nat) (Z:Zsp) (s:Tbs) (h':Zsq wb w' S Z h m s)=>Zst t ht w' h');obtain ⟨v,hv⟩:∃ v,v=Zm4 m t:=⟨_,rfl⟩;rw [←hv];have HV:=Zh hv;obtain ⟨tk,tc⟩:=t;dsimp only at J N d G;clear ht ho hv;rcases v with _|x
   ·rw [show Zqf none=(z3,10) from rfl];go_enter Tryz.func33,Tryz.ntmps33
    go_upto_region 1 with fail
    rw [←N.out,←B.out];obtain ⟨g,i,j,k⟩:=Zj8 K.out
    go_wp2_with (first
     | (go_at_call 81;refine n.out.mono ?_;rintro e w1 ⟨⟨S,Z,s,rfl,u,q,-⟩,b⟩;have L:=Zh u;have a:=Zh b;have I:=Zh ((q _ Q.out).trans HV.out.symm);clear u q b g i j k;obtain ⟨g,i,j,k⟩:=Zj8 (K.out.old a.out);obtain ⟨C,D⟩:=Zj9 (J.out.old a.out))
     | (go_at_call 25;refine (d.out _).mono ?_;rintro e w2 ⟨rfl,c⟩;have M:=Zh (L.out.old c);have l:=Zh (Zag a.out c);clear c g i j k C D;obtain ⟨C,D⟩:=Zj9 (J.out.old l.out))
     | (go_at_call 89;refine (G.out _ _ _ _ _ M.out).mono ?_;rw [I.out];rintro e w3 ⟨rfl,o⟩;(try simp only [ag3,Option.getD_none,Option.getD_some,Option.isSome_none,Option.isSome_some,z3]);have HB3:=Zh (Zag l.out o);have HR3:=Zh (HR.out.old HB3.out);clear o C D;obtain ⟨Y,r1,r2⟩:=HR3.out.c3;obtain ⟨R,T,U⟩:=HR3.out.f3;have rl:=HR3.out.lt))
    have hz:=(Zmx (x:=0) (y:=0) (z:=0) HR3.out).alloc (.cells #[.int .i64 0,.int .i64 0,.int .i64 0] 45);exact ZpL (F:=X+1+1) Tryz.results33 rfl rfl rfl hz.c3.1 hz.c3.2.1 hz.c3.2.2 (bal (Zmz (Zag HB.out HB3.out) _ _ _ HXs.out) _)
   ·have P:=Zh (Zre x);obtain ⟨ad,ae,af⟩:=x;obtain ⟨r,hr⟩:∃ r,r=Zqf (some (ad,ae,af)):=⟨_,rfl⟩;rw [←hr] at P ⊢;obtain ⟨⟨e0,e1,e2⟩,er⟩:=r;clear hr;go_enter Tryz.func33,Tryz.ntmps33
    go_upto_region 1 with fail
    rw [←N.out,←B.out];obtain ⟨g,i,j,k⟩:=Zj8 K.out
    go_wp2_with (first
     | (go_at_call 81;refine n.out.mono ?_;rintro e w1 ⟨⟨S,Z,s,rfl,u,q,-⟩,b⟩;have L:=Zh u;have a:=Zh b;have I:=Zh ((q _ Q.out).trans HV.out.symm);clear u q b g i j k;obtain ⟨g,i,j,k⟩:=Zj8 (K.out.old a.out);obtain ⟨C,D⟩:=Zj9 (J.out.old a.out))
     | (go_at_call 25;refine (d.out _).mono ?_;rintro e w2 ⟨rfl,c⟩;have M:=Zh (L.out.old c);have l:=Zh (Zag a.out c);clear c g i j k C D;obtain ⟨C,D⟩:=Zj9 (J.out.old l.out))
     | (go_at_call 89;refine (G.out _ _ _ _ _ M.out).mono ?_;rw [I.out];rintro e w3 ⟨rfl,o⟩;(try simp only [ag3,Option.getD_none,Option.getD_some,Option.isSome_none,Option.isSome_some,z3]);have HB3:=Zh (Zag l.out o);have HR3:=Zh (HR.out.old HB3.out);clear o C D;obtain ⟨Y,r1,r2⟩:=HR3.out.c3;obtain ⟨R,T,U⟩:=HR3.out.f3;have rl:=HR3.out.lt)
     | (go_at_call 83;refine (P.out _).mono ?_;rintro e w4 ⟨rfl,W⟩;(try simp only [ag3]);have O:=Zh (Zag (show Below w3.heap.size w3 (w3.alloc (.cells #[.int .i64 ad,.int .i64 ae,.int .i64 af] 45)) by exact bE) W);have A:=Zh (HR3.out.old O.out);clear W Y r1 r2 R T U rl;obtain ⟨Y,r1,r2⟩:=A.out.c3;obtain ⟨R,T,U⟩:=A.out.f3;have rl:=A.out.lt))
    have hz:=Zmx (x:=e0) (y:=e1) (z:=e2) A.out;exact ZpL (F:=X+1+1) Tryz.results33 rfl rfl rfl hz.c3.1 hz.c3.2.1 hz.c3.2.2 (Zmz (Zag HB.out (Zag HB3.out O.out)) _ _ _ HXs.out)
  ·rw [show Zrl m t=(z3,1) from if_neg fun e=>ht e.2];rw [show ZaG m.cl.length t 1=false from Bool.eq_false_iff.2 ht] at d;obtain ⟨tk,tc⟩:=t;dsimp only at J N d;clear ht ho;go_enter Tryz.func33,Tryz.ntmps33
   go_upto_region 1 with fail
   rw [←N.out,←B.out];obtain ⟨g,i,j,k⟩:=Zj8 K.out
   go_wp2_with (first
    | (go_at_call 81;refine n.out.mono ?_;rintro e w1 ⟨⟨S,Z,s,rfl,-,-,-⟩,b⟩;have a:=Zh b;clear b g i j k;obtain ⟨g,i,j,k⟩:=Zj8 (K.out.old a.out);obtain ⟨C,D⟩:=Zj9 (J.out.old a.out))
    | (go_at_call 25;refine (d.out _).mono ?_;rintro e w2 ⟨rfl,c⟩;have HB3:=Zh (Zag a.out c);have HR3:=Zh (HR.out.old HB3.out);clear c g i j k C D;obtain ⟨Y,r1,r2⟩:=HR3.out.c3;obtain ⟨R,T,U⟩:=HR3.out.f3;have rl:=HR3.out.lt))
   exact j13
 ·have n:=Zh (Zty m h E Hj.out ho);rw [show Zrl m t=(z3,1) from if_neg fun e=>ho e.1];clear ho d;go_enter Tryz.func33,Tryz.ntmps33
  go_upto_region 1 with fail
  rw [←N.out,←B.out];obtain ⟨g,i,j,k⟩:=Zj8 K.out
  go_wp2_with (go_at_call 81;refine n.out.mono ?_;rintro e w1 ⟨rfl,b⟩;have HB3:=Zh b;have HR3:=Zh (HR.out.old HB3.out);clear b g i j k;obtain ⟨Y,r1,r2⟩:=HR3.out.c3;obtain ⟨R,T,U⟩:=HR3.out.f3;have rl:=HR3.out.lt)
  exact j13
end
section
open Go.RowKit
attribute [local go_sem] World.cell?_alloc_some
theorem ZtC {wb:World}{S:Nat}{Z:Zsp}{h:Hd}{m:Md} (hv:Za2 m=true) {s:Tbs} (T:∀ t,Zfk m t→ofV m s.1 s.2 t=Zm4 m t) (l:List Ty) (hl:∀ t∈l,Zfk m t) (hn:l.length≤100000) (ao:Option Addr) (cap:Nat) (w:World) (H:Zsq wb w S Z h m s) (hr:Zas w ao cap l) :
  Calls Tryz.prog 82 #[ZQ.p S,.slice ao l.length cap] w (Zhi w (ag3 ((Zm0 (Zm4 m) z3 l).getD z3)) (.bool (Zm0 (Zm4 m) z3 l).isSome)):=by
 have ak:=Zh (fun X (hb:Below w.heap.size w X) t (ht:Zfk m t)=>by have:=Zst t ht X (H.old hb);rwa [T t ht] at this);have HF:=Zh (fun t (ht:Zfk m t) x (e:Zm4 m t=some x)=>Zo3 hv ht e);have HL:=Zh hl;have HR:=Zh hr;obtain ⟨v,G⟩:∃ v,v=Zm0 (Zm4 m) z3 l:=⟨_,rfl⟩;rw [←G];have HV:=Zh G;obtain ⟨U,g⟩:∃ U,U=(w.alloc (.cells #[.int .i64 0,.int .i64 0,.int .i64 0] 45)).alloc (.cells #[.int .i64 0,.int .i64 0,.int .i64 0] 45):=⟨_,rfl⟩;have HB:=Zh (show Below w.heap.size w U by rw [g];exact bE);obtain ⟨R,W⟩:∃ R,R=w.heap.size:=⟨_,rfl⟩;have al:=Zh (show Blk U R (cl3 0 0 0) 45 by rw [g,W];exact (Blk.new _ _ _).alloc _);have af:=Zh (show Blk U (R+1) (cl3 0 0 0) 45 by rw [g,W];exact Blk.new' (w:=w.alloc _) _ _ (by simp));have HW:=Zh g;have am:=Zh W;have D:=Zh (show w.heap.size≤R by omega);clear H hv T hl hr G g W;go_enter Tryz.func82,Tryz.ntmps82
 go_upto_region 2 with fail
 rw [←HW.out,←am.out];go_wp2
 go_loopw [7] (fun i wr=>∃ (k:Nat) (a:T3),k≤l.length∧i=.int .i64 k∧Hid (Below w.heap.size w wr)∧Hid (Zrz m z3 l k a)∧Hid (Blk wr R (cl3 0 0 0) 45)∧Hid (Blk wr (R+1) (cl3 a.1 a.2.1 a.2.2) 45)) (fun i _=>l.length-(intOf i).toNat)
 case atStart=>exact ⟨0,z3,Nat.zero_le _,rfl,HB.out,.zero .z,al.out,af.out⟩
 case round=>
  obtain ⟨k,a,hk,rfl,b,E,c,n⟩:=hrel;rename World=>wo;by_cases hkl:k<l.length
  ·have aJ:(k:Int) < l.length:=by omega
   have aZ:IntKind.i64.wrap ((k:Int)+1)=((k+1:Nat):Int):=IntWalk.i64_in _ (by omega);obtain ⟨ad,rfl,f0,f1⟩:=ZaA (HR.out.old b.out) hkl;have hm:=ZfX (default:Ty) hkl;have r:=HL.out _ hm;have C:=Zh (fun x (e:Zm4 m (l.getD k default)=some x)=>Zrz.next E.out hkl e (HF.out _ r x e));have B:=Zh (fun (e:Zm4 m (l.getD k default)=none)=>Zno (a:=z3) hm e);have d:=Zh (fun X hb=>ak.out X hb _ r);have A:=Zh (fun x (e:Zm4 m (l.getD k default)=some x)=>HF.out _ r x e);generalize l.getD k default=ty at f0 f1 C B d A;obtain ⟨tk,tc⟩:=ty;dsimp only at f0 f1 d;obtain ⟨fx,Q⟩:∃ fx,fx=Zm4 m ⟨tk,tc⟩:=⟨_,rfl⟩;rw [←Q] at d C B A;have an:=Zh E.out.2;obtain ⟨M,N,O⟩:=a;dsimp only at n;clear hm r Q;rcases fx with _|x
   ·have aj:=Zh (HV.out.trans (B.out rfl))
    go_wp2_with (go_at_call 89;refine (d.out _ b.out).mono ?_;rintro e V ⟨rfl,f⟩;(try simp only [ag3,Option.getD_none,Option.isSome_none,z3]);have o:=Zh f;clear f;have q:=Zh (c.out.old o.out);obtain ⟨r0,r1,r2⟩:=q.out.c3;obtain ⟨g0,g1,g2⟩:=q.out.f3;have rl:=q.out.lt)
    have I:=(Zmx (x:=0) (y:=0) (z:=0) q.out).alloc (.cells #[.int .i64 0,.int .i64 0,.int .i64 0] 45);refine bodyPost_ret (v:=.tuple #[ag3 z3,.bool false]) (by simp [results,Tryz.results82,go_sem,ag3,z3,I.c3.1,I.c3.2.1,I.c3.2.2]) rfl ⟨by rw [aj.out];rfl,bal (Zmz (Zag b.out o.out) _ _ _ D.out) _⟩
   ·have ai:=Zh (C.out x rfl);have ah:=Zh (A.out x rfl);obtain ⟨x0,x1,x2⟩:=x
    go_upto_region 8 with (go_at_call 89;refine (d.out _ b.out).mono ?_;rintro e V ⟨rfl,f⟩;(try simp only [ag3,Option.getD_some,Option.isSome_some]);have o:=Zh f;clear f)
    obtain ⟨w6,u⟩:∃ w6,w6=V.alloc (.cells #[.int .i64 x0,.int .i64 x1,.int .i64 x2] 45):=⟨_,rfl⟩;obtain ⟨Y,hY⟩:∃ Y,Y=V.heap.size:=⟨_,rfl⟩;have P:Below V.heap.size V w6:=by rw [u];exact bE
    have ap:=Zh (show Blk w6 Y (cl3 x0 x1 x2) 45 by rw [u,hY];exact Blk.new _ _ _);have K:=Zh (Zag o.out P);rw [←u,←hY];clear u hY P f0 f1;have J:=Zh (n.out.old K.out);obtain ⟨aq,ar,au⟩:=J.out.c3;obtain ⟨aB,aC,aD⟩:=ap.out.c3
    go_wp2_with (go_at_call 140;refine (Zrc (M,N,O) (x0,x1,x2) _ an.out ah.out).mono ?_;rintro e w7 ⟨rfl,F⟩;(try simp only [ag3]);have L:=Zh (Zag K.out F);have j:=Zh (J.out.old F);clear F aq ar au aB aC aD;obtain ⟨r0,r1,r2⟩:=j.out.c3;obtain ⟨g0,g1,g2⟩:=j.out.f3;have rl:=j.out.lt)
    refine ⟨⟨k+1,plT (M,N,O) (x0,x1,x2),hkl,rfl,Zmz (Zag b.out L.out) _ _ _ (show w.heap.size≤R+1 by have:=D.out;omega),ai.out,?_,Zmx j.out⟩,by simp [intOf];omega⟩;exact (((c.out.old L.out).other (a:=⟨R+1,0,none⟩) (show R≠R+1 by omega) _).other (a:=⟨R+1,1,none⟩) (show R≠R+1 by omega) _).other (a:=⟨R+1,2,none⟩) (show R≠R+1 by omega) _
  ·obtain rfl:k=l.length:=by omega
   have aY:¬ (l.length:Int) < l.length:=by omega
   have ag:=Zh (HV.out.trans E.out.fin);obtain ⟨M,N,O⟩:=a;dsimp only at n;obtain ⟨aV,aW,aX⟩:=n.out.c3;obtain ⟨r0,r1,r2⟩:=c.out.c3;obtain ⟨g0,g1,g2⟩:=c.out.f3;have rl:=c.out.lt;go_wp2;have I:=Zmx (x:=M) (y:=N) (z:=O) c.out;refine bodyPost_ret (v:=.tuple #[ag3 (M,N,O),.bool true]) (by simp [results,Tryz.results82,go_sem,ag3,I.c3.1,I.c3.2.1,I.c3.2.2]) rfl ⟨by rw [ag.out];rfl,Zmz b.out _ _ _ D.out⟩
theorem ZtD (m:Md) (h:Hd) (w:World) (H:Zaz w h m):Calls Tryz.prog 28 #[.agg (HM.mk h m)] w (Zqg (Zti m) w):=by
 obtain ⟨I,i⟩:∃ I,I=(w.alloc (.cells (HM.mk h m) 26)).alloc (.cells #[.int .i64 0,.int .i64 0,.int .i64 0] 45):=⟨_,rfl⟩;have Q:=Zh (show Below w.heap.size w I by rw [i];exact bE);obtain ⟨X,R⟩:∃ X,X=w.heap.size:=⟨_,rfl⟩;have L:=Zh (show Blk I X (HM.mk h m) 26 by rw [i,R];exact (Blk.new _ _ _).alloc _);have U:=Zh (show Blk I (X+1) (cl3 0 0 0) 45 by rw [i,R];exact Blk.new' (w:=w.alloc _) _ _ (by simp));have V:=Zh i;have D:=Zh R;have E:=Zh (show w.heap.size≤X+1 by omega);clear R;have W:=Zh (H.old Q.out);clear i H;by_cases ho:okL m
 ·have n:=Zh (ZtA m h I W.out ho);rw [show Zti m=Zqf (Zm0 (Zm4 m) z3 m.st) from if_pos ho];have B:=Zh (fun (wb w':World) (S:Nat) (Z:Zsp) (s:Tbs) (d:∀ t,Zfk m t→ofV m s.1 s.2 t=Zm4 m t) (h':Zsq wb w' S Z h m s)=>ZtC ho.v d m.st (Ztk ho.v).1 (by have:=(Ztk ho.v).2;omega) h.so h.sc w' h' h'.mod.st);generalize Zm0 (Zm4 m) z3 m.st=v at B ⊢;clear ho;rcases v with _|x
  ·rw [show Zqf none=(z3,10) from rfl];go_enter Tryz.func28,Tryz.ntmps28
   go_upto_region 1 with fail
   rw [←V.out,←D.out];obtain ⟨o,q,u,A⟩:=Zj8 L.out
   go_wp2_with (first
    | (go_at_call 81;refine n.out.mono ?_;rintro e w1 ⟨⟨S,Z,s,rfl,k,d,-⟩,c⟩;have G:=Zh k;have f:=Zh c;have C:=Zh d;clear k d c o q u A;obtain ⟨o,q,u,A⟩:=Zj8 (L.out.old f.out))
    | (go_at_call 82;refine (B.out _ _ _ _ _ C.out G.out).mono ?_;rintro e T ⟨rfl,g⟩;(try simp only [ag3,Option.getD_none,Option.isSome_none,z3]);have b:=Zh (Zag f.out g);have a:=Zh (U.out.old b.out);clear g o q u A;obtain ⟨r0,r1,r2⟩:=a.out.c3;obtain ⟨Y,f1,f2⟩:=a.out.f3;have rl:=a.out.lt))
   have j:=(Zmx (x:=0) (y:=0) (z:=0) a.out).alloc (.cells #[.int .i64 0,.int .i64 0,.int .i64 0] 45);exact ZpL (F:=X+1) Tryz.results28 rfl rfl rfl j.c3.1 j.c3.2.1 j.c3.2.2 (bal (Zmz (Zag Q.out b.out) _ _ _ E.out) _)
  ·have K:=Zh (Zre x);obtain ⟨N,O,P⟩:=x;obtain ⟨r,hr⟩:∃ r,r=Zqf (some (N,O,P)):=⟨_,rfl⟩;rw [←hr] at K ⊢;obtain ⟨⟨e0,e1,e2⟩,er⟩:=r;clear hr;go_enter Tryz.func28,Tryz.ntmps28
   go_upto_region 1 with fail
   rw [←V.out,←D.out];obtain ⟨o,q,u,A⟩:=Zj8 L.out
   go_wp2_with (first
    | (go_at_call 81;refine n.out.mono ?_;rintro e w1 ⟨⟨S,Z,s,rfl,k,d,-⟩,c⟩;have G:=Zh k;have f:=Zh c;have C:=Zh d;clear k d c o q u A;obtain ⟨o,q,u,A⟩:=Zj8 (L.out.old f.out))
    | (go_at_call 82;refine (B.out _ _ _ _ _ C.out G.out).mono ?_;rintro e T ⟨rfl,g⟩;(try simp only [ag3,Option.getD_some,Option.isSome_some]);have b:=Zh (Zag f.out g);have a:=Zh (U.out.old b.out);clear g o q u A)
    | (go_at_call 83;refine (K.out _).mono ?_;rintro e w4 ⟨rfl,M⟩;(try simp only [ag3]);have J:=Zh (Zag (show Below T.heap.size T (T.alloc (.cells #[.int .i64 N,.int .i64 O,.int .i64 P] 45)) by exact bE) M);have l:=Zh (a.out.old J.out);clear M;obtain ⟨r0,r1,r2⟩:=l.out.c3;obtain ⟨Y,f1,f2⟩:=l.out.f3;have rl:=l.out.lt))
   have j:=Zmx (x:=e0) (y:=e1) (z:=e2) l.out;exact ZpL (F:=X+1) Tryz.results28 rfl rfl rfl j.c3.1 j.c3.2.1 j.c3.2.2 (Zmz (Zag Q.out (Zag b.out J.out)) _ _ _ E.out)
 ·have n:=Zh (Zty m h I W.out ho);rw [show Zti m=(z3,1) from if_neg ho];clear ho;go_enter Tryz.func28,Tryz.ntmps28
  go_upto_region 1 with fail
  rw [←V.out,←D.out];obtain ⟨o,q,u,A⟩:=Zj8 L.out
  go_wp2_with (go_at_call 81;refine n.out.mono ?_;rintro e w1 ⟨rfl,c⟩;have b:=Zh c;have a:=Zh (U.out.old b.out);clear c o q u A;obtain ⟨r0,r1,r2⟩:=a.out.c3;obtain ⟨Y,f1,f2⟩:=a.out.f3;have rl:=a.out.lt)
  have j:=Zmx (x:=0) (y:=0) (z:=0) a.out;exact ZpL (F:=X+1) Tryz.results28 rfl rfl rfl j.c3.1 j.c3.2.1 j.c3.2.2 (Zmz (Zag Q.out b.out) _ _ _ E.out)
end
section
open Go.RowKit
attribute [local go_sem] World.cell?_alloc_some
theorem Zrr.ups {w w':World}{base:Nat}{ao:Option Addr}{cap:Nat}{zs:List Int} (h:Zrr w base ao cap zs) {S:List Nat} (hu:UpL S w w') (hn:∀ b,Zrs ao=some b→b ∉ S):Zrr w' base ao cap zs:=
 ZhM h fun q a=>hu.block q (h.lt q (by rw [←Zrt ao zs.length cap];exact a)).2 (hn q (by rw [←Zrt ao zs.length cap];exact a))
theorem Zpf.ownL {w:World}{S:Nat}{M:MsL}{h:Hd}{m:Md}{U:List Nat} (H:Zpf w S M h m U) {base:Nat}{ao:Option Addr}{cap:Nat}{zs:List Int} (ho:Zrr w base ao cap zs):∀ b,Zrs ao=some b→b ∉ M.s:=by
 intro b a q;simp only [MsL.s,List.mem_cons,List.not_mem_nil,or_false] at q;rcases q with q|q|q
 ·exact ho.map H.un.map b a q
 ·obtain ⟨f,h,-⟩:=H.kn;exact ho.map h.map b a q
 ·obtain ⟨f,h,-⟩:=H.mt;exact ho.map h.map b a q
def ZtE (m:Md):List Int × Int:=if okL m then (Zrm m m.cl.length,0) else ([],1)
theorem ZtF (m:Md) (j:Nat):(Zrm m j).length≤j:=by unfold Zrm;rw [List.length_map];exact Nat.le_trans (List.length_filter_le _ _) (by rw [List.length_range];exact Nat.le_refl _)
theorem ZtG (m:Md) (h:Hd) (w:World) (H:Zaz w h m):Calls Tryz.prog 34 #[.agg (HM.mk h m)] w (Zin w (ZtE m).1 (ZtE m).2):=by
 obtain ⟨X,hX⟩:∃ X,X=w.heap.size:=⟨_,rfl⟩;obtain ⟨R,t⟩:∃ R,R=w.alloc (.cells (HM.mk h m) 26):=⟨_,rfl⟩;have HB:=Zh (show Below w.heap.size w R by rw [t];exact bE);have W:=Zh (show Blk R X (HM.mk h m) 26 by rw [t,hX];exact Blk.new _ _ _);have Hj:=Zh (H.old HB.out);have HW:=Zh t;have G:=Zh hX;have aH:=Zh (show w.heap.size≤X by omega);clear hX;have ah:=Zh H;have o:=Zh (ZrF m h R Hj.out);clear t H;by_cases ho:okL m
 ·have hm:=ho.v;have hN:=(Zir hm).1;have HE:=Zh (show ZtE m=(Zrm m m.cl.length,0) from if_pos ho);rw [HE.out];rw [decide_eq_true ho] at o;have am:=Zh (fun B (K:Zaz B h m)=>Zr4 m h B K hm);have ak:=Zh (fun (j:Nat) (hj:j<m.cl.length) S M B (K:Zpf B S M h m [])=>Zte (S:=S) (M:=M) (h:=h) ho hj B K);clear ho hm;go_enter Tryz.func34,Tryz.ntmps34
  go_upto_region 1 with fail
  rw [←HW.out,←G.out];obtain ⟨C,T,U,V⟩:=Zj8 W.out
  go_upto_region 4 with (go_at_call 73;refine o.out.mono ?_;rintro e w1 ⟨rfl,g⟩;(try simp only [ag3]);have b:=Zh g;clear g C T U V)
  have C:=(W.out.old b.out).cell 0 (v:=.slice h.co m.cl.length h.cc) rfl
  go_wp2_with fail
  clear C
  go_loopw [4,14] (fun sl i wr=>∃ (j:Nat) (D:Option Addr) (a:Nat),j≤m.cl.length∧i=.int .i64 j∧sl=.slice D (Zrm m j).length a∧Hid (Zrr wr w.heap.size D a (Zrm m j))∧Hid (Below w.heap.size w wr)∧Hid (Blk wr X (HM.mk h m) 26)) (fun _ i _=>m.cl.length-(intOf i).toNat)
  case atStart=>exact ⟨0,none,0,Nat.zero_le _,rfl,rfl,Zrr.nil _ _,Zag HB.out b.out,W.out.old b.out⟩
  case round=>
   obtain ⟨j,D,a,hj,rfl,rfl,y,n,I⟩:=hrel;rename World=>wo;by_cases hjl:j<m.cl.length
   ·have O:(j:Int) < m.cl.length:=by omega
    have aI:IntKind.i64.wrap ((j:Int)+1)=((j+1:Nat):Int):=IntWalk.i64_in _ (by omega);have al:=Zh (fun S M B K=>ak.out j hjl S M B K);have u:=Zh (Zrn m j);have E:=Zh (show (Zrm m j).length≤1000000 by have:=ZtF m j;omega);generalize Zrm m j=cs at y u E;obtain ⟨C,T,U,V⟩:=Zj8 I.out
    go_upto_region 8 with (first
     | (go_at_call 76;refine (am.out _ (ah.out.old n.out)).mono ?_;rintro e w3 ⟨S,M,rfl,Q,r,au,L⟩;(try simp only [ag3]);have z:=Zh Q;have ac:=Zh (Zag n.out r);have F:=Zh (y.out.old r);have an:=Zh (I.out.old r);have ag:=Zh (show ∀ x∈M.s,w.heap.size≤x from fun x hx=>Nat.le_trans n.out.size (L x hx));clear Q r au L C T U V)
     | (go_at_call 90;refine (al.out S M _ z.out).mono ?_;rintro e l ⟨aA,s,ay,⟨Y,Z,y2⟩,ok,rfl,aw,hy,hn⟩;(try simp only [ag3]);have ap:=Zh (z.out.own an.out s);have ai:=Zh (F.out.ups s (z.out.ownL F.out));have ad:=Zh (s.below ac.out (Nat.le_refl _) ag.out);have HY:=Zh (And.intro hy hn);clear aA s ay aw hy hn))
    have f:=Zh (ai.out.old (show Below l.heap.size l (l.alloc (.cells #[.int .i64 Y,.int .i64 Z,.int .i64 y2] 45)) by exact bE));have q:=Zh (ap.out.old (show Below l.heap.size l (l.alloc (.cells #[.int .i64 Y,.int .i64 Z,.int .i64 y2] 45)) by exact bE));have c:=Zh (Zag ad.out (show Below l.heap.size l (l.alloc (.cells #[.int .i64 Y,.int .i64 Z,.int .i64 y2] 45)) by exact bE));cases ok
    ·have d:=Zh (show Zrm m (j+1)=cs++[(j:Int)] from by rw [u.out,(HY.out.2 (by first|rfl|trivial)).nil];rfl);generalize (l.alloc (.cells #[.int .i64 Y,.int .i64 Z,.int .i64 y2] 45))=w5 at f q c ⊢
     go_wp2_with (at_builtin;refine Zru rfl _ _ rfl w.heap.size D a cs rfl (f.out.old bE) _ (j:Int) rfl (Zr3 (Blk.new' _ _ rfl)) E.out (by have:=c.out.size;simp;omega) ?_;intro ar J w6 P A N;have aj:=Zh P;have ae:=Zh ((Zag c.out (show Below w5.heap.size w5 (w5.alloc (.cells #[.int .i64 j] 3)) by exact bE)).grown A (by have:=c.out.size;simp;omega) fun k e=>(f.out.lt k e).1);have aq:=Zh (Zr2 (q.out.alloc _) A ((f.out.old (show Below w5.heap.size w5 (w5.alloc (.cells #[.int .i64 j] 3)) by exact bE)).ne_blk (q.out.alloc _) (by decide)));clear P A N)
     exact ⟨⟨j+1,ar,J,hjl,rfl,by rw [d.out,List.length_append];rfl,(by show Zrr _ _ _ _ (Zrm m (j+1));rw [d.out];exact aj.out),ae.out,aq.out⟩,by simp [intOf];omega⟩
    ·have d:=Zh (show Zrm m (j+1)=cs from by rw [u.out,HY.out.1 (by first|rfl|trivial)];simp)
     go_wp2_with fail
     exact ⟨⟨j+1,D,a,hjl,rfl,by rw [d.out],(by show Zrr _ _ _ _ (Zrm m (j+1));rw [d.out];exact f.out),c.out,q.out⟩,by simp [intOf];omega⟩
   ·have O:¬ (j:Int) < m.cl.length:=by omega
    have ax:j=m.cl.length:=by omega
    subst ax
    go_wp2_with fail
    go_ret2;exact ⟨⟨D,a,rfl,y.out.row⟩,n.out⟩
 ·have HE:=Zh (show ZtE m=([],1) from if_neg ho);rw [HE.out];rw [decide_eq_false ho] at o;clear ho;go_enter Tryz.func34,Tryz.ntmps34
  go_upto_region 1 with fail
  rw [←HW.out,←G.out];obtain ⟨C,T,U,V⟩:=Zj8 W.out
  go_wp2_with (go_at_call 73;refine o.out.mono ?_;rintro e w1 ⟨rfl,g⟩;(try simp only [ag3]);have b:=Zh g;clear g C T U V)
  go_ret2;exact ⟨⟨none,0,rfl,Zas.nil _⟩,Zag HB.out b.out⟩
end
section
open Go.RowKit
attribute [local go_sem] World.cell?_alloc_some
theorem ZtH {m:Md}{t:Ty} (a:Za2 m=true):ZrG m t 1=ZaG m.cl.length t 1:=by
 unfold ZrG;rw [a,Bool.true_and];cases h:ZaG m.cl.length t 1
 ·rw [Bool.and_false]
 ·rw [Bool.and_true];unfold ZaG at h;simp only [Bool.and_eq_true,decide_eq_true_eq];split at h
  ·omega
  ·split at h
   ·simp at h;omega
   ·cases h
theorem ZtI (m:Md) (h:Hd) (t:Ty) (w:World) (H:Zaz w h m):Calls Tryz.prog 23 #[.agg (HM.mk h m),.agg #[.int .i64 t.k,.int .i64 t.c]] w (Zqg (Zrl m t) w):=by
 obtain ⟨N,n⟩:∃ N,N=((w.alloc (.cells (HM.mk h m) 26)).alloc (.cells #[.int .i64 t.k,.int .i64 t.c] 38)).alloc (.cells #[.int .i64 0,.int .i64 0,.int .i64 0] 45):=⟨_,rfl⟩;have HB:=Zh (show Below w.heap.size w N by rw [n];exact bE);obtain ⟨X,hX⟩:∃ X,X=w.heap.size:=⟨_,rfl⟩;have HX:=Zh (show Blk N X (HM.mk h m) 26 by rw [n,hX];exact ((Blk.new _ _ _).alloc _).alloc _);have HT:=Zh (show Blk N (X+1) #[.int .i64 t.k,.int .i64 t.c] 38 by rw [n,hX];exact (Blk.new' (w:=w.alloc _) _ _ (by simp)).alloc _);have G:=Zh (show Blk N (X+1+1) (cl3 0 0 0) 45 by rw [n,hX];exact Blk.new' (w:=(w.alloc _).alloc _) _ _ (by simp));have HW:=Zh n;have al:=Zh hX;have am:=Zh (show w.heap.size≤X+1+1 by omega);clear hX;have Hj:=Zh (H.old HB.out);have J:=Zh (ZrF m h N Hj.out);have j:=Zh (fun g (h':Zaz g h m)=>ZrH m h t 1 g h');have L:=Zh (show ∀ (x:T3) (V:Bool),(V=true→Zm4 m t=some x)→(V=false→Zpk m [] t)→∀ g,Calls Tryz.prog 75 #[ag3 x,.bool V] g (Zqg (Zqf (Zm4 m t)) g) from fun x V h1 h2 g=>by
  cases V
  ·rw [(h2 rfl).nil];exact Zqh x g
  ·rw [h1 rfl];exact Zqi x g)
 clear n H;by_cases hq:okL m∧Zfk m t
 ·obtain ⟨D,ht⟩:=hq;have hm:=D.v;have B:Zrl m t=Zqf (Zm4 m t):=if_pos ⟨D,ht⟩;rw [B];have aL:=Zh (fun g (h':Zaz g h m)=>Zr4 m h g h' hm);have O:=Zh (fun S M g (h':Zpf g S M h m [])=>Ztf D ht g h');rw [ZtH hm,show ZaG m.cl.length t 1=true from ht] at j;rw [decide_eq_true D] at J;generalize Zm4 m t=v at L O ⊢;generalize Zqf v=r at L ⊢;obtain ⟨⟨e0,e1,e2⟩,er⟩:=r;obtain ⟨tk,tc⟩:=t;dsimp only at HT HW j O;clear B D ht hm;go_enter Tryz.func23,Tryz.ntmps23
  go_upto_region 1 with fail
  rw [←HW.out,←al.out];obtain ⟨W,Y,Z,x3⟩:=Zj8 HX.out
  go_upto_region 3 with (first
   | (go_at_call 73;refine J.out.mono ?_;rintro e w1 ⟨rfl,s⟩;(try simp only [ag3]);have b:=Zh s;clear s W Y Z x3;obtain ⟨W,Y,Z,x3⟩:=Zj8 (HX.out.old b.out);obtain ⟨t0,t1⟩:=Zj9 (HT.out.old b.out))
   | (go_at_call 74;refine (j.out _ (Hj.out.old b.out)).mono ?_;rintro e w2 ⟨rfl,u⟩;(try simp only [ag3]);have i:=Zh (Zag b.out u);clear u W Y Z x3 t0 t1))
  have aO:=Zh (HX.out.old i.out);have aM:=Zh (HT.out.old i.out);have a0:=Zh (G.out.old i.out);have HC:=Zh (show ∀ g,Blk g X (HM.mk h m) 26→Blk g (X+1) #[.int .i64 tk,.int .i64 tc] 38→Cs [(⟨X,0,none⟩,.slice h.co m.cl.length h.cc),(⟨X,1,none⟩,.slice h.so m.st.length h.sc),(⟨X,2,none⟩,.slice h.eo m.me.length h.ec),(⟨X,3,none⟩,.int .i64 m.sel),(⟨X+1,0,none⟩,.int .i64 tk),(⟨X+1,1,none⟩,.int .i64 tc)] g from fun g h1 h2=>⟨h1.cell 0 rfl,h1.cell 1 rfl,h1.cell 2 rfl,h1.cell 3 rfl,h2.cell 0 rfl,h2.cell 1 rfl,trivial⟩);refine rO (Cs [(⟨X,0,none⟩,.slice h.co m.cl.length h.cc),(⟨X,1,none⟩,.slice h.so m.st.length h.sc),(⟨X,2,none⟩,.slice h.eo m.me.length h.ec),(⟨X,3,none⟩,.int .i64 m.sel),(⟨X+1,0,none⟩,.int .i64 tk),(⟨X+1,1,none⟩,.int .i64 tc)]) (oL [0,2,101,103,4,5,106,7,8,109,10]) (HC.out _ aO.out.drew aM.out.drew) ?_
  (refine pO ?_)
  (refine pO ?_)
  refine oO fun R q=>?_;go_simp;refine (aL.out _ (Hj.out.old (Zag i.out (Below.refl _ _).drew))).mono ?_;rintro e w3 ⟨S,M,rfl,ap,ao,aP,T⟩
  try simp only [ag3]
  have K:=Zh ap;have E:=Zh (Zag i.out (Zag (Below.refl _ w2).drew ao));have aI:=Zh (show ∀ x∈M.s,N.heap.size≤x from fun x hx=>by have:=T x hx;have:=i.out.size;exact Nat.le_trans this (T x hx));have ai:=Zh (HX.out.old E.out);have af:=Zh (HT.out.old E.out);have aJ:=Zh (G.out.old E.out);refine q _ _ ⟨HC.out _ ai.out af.out,?_⟩;clear q R ap ao aP T;refine oO fun R q=>?_;go_simp;refine (O.out S M _ K.out).mono ?_;rintro e w4 ⟨aU,C,aS,⟨y0,y1,y2⟩,V,rfl,aR,hy,hn⟩
  try simp only [ag3]
  have aj:=Zh (K.out.own ai.out C);have ag:=Zh (K.out.own af.out C);have aK:=Zh (K.out.own aJ.out C);have aG:=Zh (C.below E.out (Nat.le_refl _) aI.out);have aN:=Zh (L.out (y0,y1,y2) V hy hn);refine q _ _ ⟨HC.out _ aj.out ag.out,?_⟩;clear q R aU C aS aR hy hn
  (refine pO ?_)
  (refine pO ?_)
  refine oO fun R q=>?_;go_simp;refine (aN.out _).mono ?_;rintro e w5 ⟨rfl,A⟩
  try simp only [ag3]
  have ak:=Zh (aj.out.old A);have ah:=Zh (ag.out.old A);have I:=Zh (aK.out.old A);have aH:=Zh (Zag aG.out A);refine q _ _ ⟨HC.out _ ak.out ah.out,?_⟩;clear q R A
  (refine pO ?_)
  (refine pO ?_)
  refine oO fun R q=>?_;obtain ⟨r0,r1,r2⟩:=I.out.c3;obtain ⟨f0,f1,f2⟩:=I.out.f3;have rl:=I.out.lt;go_simp;have U:=Zmx (x:=e0) (y:=e1) (z:=e2) I.out;refine q _ _ ⟨HC.out _ (((ak.out.other (show X≠X+1+1 by omega) _).other (show X≠X+1+1 by omega) _).other (show X≠X+1+1 by omega) _) (((ah.out.other (show X+1≠X+1+1 by omega) _).other (show X+1≠X+1+1 by omega) _).other (show X+1≠X+1+1 by omega) _),?_⟩;clear q R r0 r1 r2 f0 f1 f2 rl
  (refine pO ?_)
  refine Zd7 ?_
  go_wp2_with fail
  exact ZpL (F:=X+1+1) Tryz.results23 rfl rfl rfl U.c3.1 U.c3.2.1 U.c3.2.2 (Zmz (Zag HB.out aH.out) _ _ _ am.out)
 ·have B:Zrl m t=(z3,1):=if_neg hq;rw [B];have hb:decide (okL m)=false∨(decide (okL m)=true∧ZrG m t 1=false):=by
   by_cases D:okL m
   ·refine .inr ⟨decide_eq_true D,?_⟩;rw [ZtH D.v];exact Bool.eq_false_iff.2 fun e=>hq ⟨D,e⟩
   ·exact .inl (decide_eq_false D)
  generalize ZrG m t 1=b2 at j hb;generalize decide (okL m)=b1 at J hb;obtain ⟨tk,tc⟩:=t;dsimp only at HT HW j;clear B hq L;rcases hb with rfl|⟨rfl,rfl⟩
  all_goals
   go_enter Tryz.func23,Tryz.ntmps23
   go_upto_region 1 with fail
   rw [←HW.out,←al.out];obtain ⟨W,Y,Z,x3⟩:=Zj8 HX.out
   go_wp2_with (first
    | (go_at_call 73;refine J.out.mono ?_;rintro e w1 ⟨rfl,s⟩;(try simp only [ag3]);have b:=Zh s;clear s W Y Z x3;obtain ⟨W,Y,Z,x3⟩:=Zj8 (HX.out.old b.out);obtain ⟨t0,t1⟩:=Zj9 (HT.out.old b.out);have f:=Zh b.out;obtain ⟨r0,r1,r2⟩:=(G.out.old f.out).c3;obtain ⟨f0,f1,f2⟩:=(G.out.old f.out).f3;have rl:=(G.out.old f.out).lt)
    | (go_at_call 74;refine (j.out _ (Hj.out.old b.out)).mono ?_;rintro e w2 ⟨rfl,u⟩;(try simp only [ag3]);have f:=Zh (Zag b.out u);clear u W Y Z x3 t0 t1 r0 r1 r2 f0 f1 f2 rl;obtain ⟨r0,r1,r2⟩:=(G.out.old f.out).c3;obtain ⟨f0,f1,f2⟩:=(G.out.old f.out).f3;have rl:=(G.out.old f.out).lt))
   have U:=Zmx (x:=0) (y:=0) (z:=0) (G.out.old f.out);exact ZpL (F:=X+1+1) Tryz.results23 rfl rfl rfl U.c3.1 U.c3.2.1 U.c3.2.2 (Zmz (Zag HB.out f.out) _ _ _ am.out)
end
