import Derived.Test.YtcfjblcgceednaaGreatJ37
set_option linter.all false
set_option maxRecDepth 100000
set_option maxHeartbeats 16000000
namespace Go.Proofs.YtcfjblcgceednaaGreat
theorem j1{p:Prop}(h:p:=by
 go_upto_region 30 with (go_at_call 92;refine (HL2.out (by trivial) _ _ _ _ _ _ HE7.out (HQ5.out.2.1) (by have h:=HNu.out;have qq:=HQ5.out;unfold EvQ at qq;unfold Bd ZmS ZmR at h;omega)).mono ?_;rintro e w8 ⟨t8,ls8,sn8,sc8,lf8,cs8,tn8,rfl,hE,hq,hF⟩;have HE8:=Zh hE;have HQ8:=Zh hq;have HO:=Zh (hF.2 _ _ _ (by decide) (by decide) (by decide) HO.out);have HF:=Zh (HF.out.trans hF);clear hE hF hq x0 x1 x2;have x0:=HO.out.cell 0 (v:=.int .i64 35) rfl;have x1:=HO.out.cell 1 (v:=.int .i64 0) rfl;have x2:=HO.out.cell 2 (v:=.int .i64 0) rfl)
 by_cases htz8:t8=0
 ·subst htz8;have HZ:=Zh (HQ8.out.2.2.2.2.2.2.2 rfl);have hlf8:0<lf8:=by have n:=HNu.out;have qq:=HQ5.out;have q8:=HQ8.out;unfold EvQ at qq q8;unfold Bd ZmS ZmR at n;omega
  go_wp2_with (go_at_call 150;refine (HP1.out _ _ _ _ _ _ _ HE8.out hlf8).mono ?_;rintro e w6 ⟨rfl,hE,hF⟩;rw [show ZmU ⟨35,0,0⟩=1 from rfl] at hE;have HE6:=Zh hE;have HO:=Zh (hF.2 _ _ _ (by decide) (by decide) (by decide) HO.out);have HF:=Zh (HF.out.trans hF);clear hE hF x0 x1 x2)
  go_ret2;have n:=HNu.out;have qq:=HQ5.out;have q8:=HQ8.out;unfold EvQ at qq q8;have zz:=HZ.out;have hx:=ZrO (n:=cs8+1-cs) (F:=Fo) (S:=So) (.inr ⟨zz.2.1,by omega⟩);exact ⟨0,_,ls8,sn8,sc8,lf8-1,cs8+1,tn8,rfl,HE6.out,⟨by omega,q8.2.1,Nat.le_trans qq.2.2.1 q8.2.2.1,by omega,by unfold Bd ZmS ZmR at *;omega,by omega,by omega,fun _=>⟨zz.1.trans ((HHt.out.2.2.2.1 (by trivial)).2.1.trans (HHt.out.2.2.2.1 (by trivial)).2.2.symm),hx.1,hx.2⟩⟩,fun _=>rfl,HF.out⟩
 ·go_wp2;go_ret2;have n:=HNu.out;have qq:=HQ5.out;have q8:=HQ8.out;unfold EvQ at qq q8;exact ⟨t8,_,ls8,sn8,sc8,lf8,cs8,tn8,rfl,HE8.out,⟨q8.1,q8.2.1,Nat.le_trans qq.2.2.1 q8.2.2.1,by omega,by unfold Bd ZmS ZmR at *;omega,by omega,by omega,fun e=>absurd e htz8⟩,fun e=>absurd e htz8,HF.out⟩):p:=h
theorem j6{p:Prop}(h:p:=by
 go_wp2;go_ret2;have n:=HNu.out;have qq:=HQ5.out;unfold EvQ at qq;exact ⟨t,_,ls5,sn5,sc5,lf5,cs5,tn5,rfl,HE5.out,⟨qq.1,qq.2.1,qq.2.2.1,by omega,by unfold ZmS ZmR at n ⊢;unfold Bd at n;omega,by omega,by omega,fun e=>absurd e htz⟩,fun e=>absurd e htz,HF.out⟩):p:=h
theorem j8{p:Prop}(h:p:=by
 have h3:=hM.2.2.2.2;rw [←hii] at h3;rcases h3 with ⟨h1,h2,_⟩|⟨n,h1,_,_,h2,_⟩
 ·exact .inl ⟨h1,h2⟩
 ·rcases hcs with ⟨h4,_⟩|⟨h4,_⟩
  ·omega
  ·exact .inr ⟨h4,h2⟩):p:=h
theorem j10{p:Prop}(h:p:=by
 rcases hcs with ⟨h1,h2⟩|⟨h1,h2,h3⟩
 ·rw [if_pos (by omega)];unfold Bd;omega
 ·rw [if_neg (by omega)];exact ZrE X.hm X.hk h3 (by unfold Bd;omega)):p:=h
theorem j11{p:Prop}(h:p:=by
 have h4:¬ alt<0:=by omega
 rw [if_neg h4] at h3;rw [if_neg h4,if_neg h4];exact hl2 h w ls _ sc lf cs tn h1 h2 rfl h3):p:=h
theorem j14{p:Prop}(h:p:=by
 rcases hcs with ⟨h1,h2⟩|⟨h1,h2,h3⟩
 ·subst h2;subst h1;exact X.one hM sg1
 ·omega):p:=h
theorem j18{p:Prop}(h:p:=by
 rcases hcs with ⟨h1,h2⟩|⟨h1,h2,h3⟩
 ·omega
 ·subst h1;exact X.two hM sg1 h3):p:=h
section
open Go.RowKit
attribute [local go_sem] World.cell?_alloc_some
theorem ZrO {n F S:Int} (h:(0≤F∧F+1≤n)∨(0≤S∧S+1≤n)):0≤ZmX (ZmY F S) 1∧ZmX (ZmY F S) 1≤n:=by
 have a:0≤ZmY F S∧ZmY F S+1≤n:=by unfold ZmY;split;omega;split<;>omega
 obtain ⟨a,b⟩:=a;generalize ZmY F S=x at a b;unfold ZmX ZmS ZmR;rw [if_neg (by omega)];omega
section
variable {N:Nat}{w:World}{B:Nat}{L:LQ}{ko:Option Addr}{kc:Nat}{c:List In3}{ls:List Int}{sn sc:Nat}{lf cs:Int}{tn:Nat}(H:EvA N w B L ko kc c ls sn sc lf cs tn)
include N w B L ko kc c ls sn sc lf cs tn H
theorem EvA.shorter {j:Nat} (hj:j≤sc) (hj2:j≤100):∃ so,w.cell? ⟨B,2,none⟩=some (.slice so sn sc)∧(so=none→sc=0)∧B<w.heap.size∧w.frozen? ⟨B,2,none⟩=false∧EvA N (w.setCell ⟨B,2,none⟩ (.slice so j sc)) B L ko kc c ls j sc lf cs tn∧FrE N w (w.setCell ⟨B,2,none⟩ (.slice so j sc)):=by
 obtain ⟨⟨so,s,t,a,n,h,d,b,o⟩,f,l,r,i⟩:=H;refine ⟨so,a.cell 2 rfl,fun e=>?_,a.lt,a.frozen 2,Zqh f l r a n h (d.shorter hj) b o 2 _ rfl (by omega),FrE.set f a (.inr (.inr rfl)) 2 _⟩;rcases d with ⟨_,_,q⟩|⟨g,u,q,_⟩
 ·exact q
 ·rw [e] at q;cases q
theorem EvA.room:sn≤sc:=by obtain ⟨⟨l,o,r,f,h,e,d,b,i⟩,n,g,j,a⟩:=H;exact d.room
end
theorem ZrP {w:World}{ko:Option Addr}{kc:Nat}{c:List In3}{p:Nat}{a:Addr}{op ia ib:Int} (h:Zar w ko kc c) (i:ko=some a) (l:p<c.length) (j:(⟨op,ia,ib⟩:In3)=c.getD p default):w.cell? (a.add (p*3))=some (.int .i64 op)∧w.cell? ⟨(a.add (p*3)).block,(a.add (p*3)).off+1,none⟩=some (.int .i64 ia)∧w.cell? ⟨(a.add (p*3)).block,(a.add (p*3)).off+2,none⟩=some (.int .i64 ib):=by obtain ⟨g,b,d,e,f⟩:=ZaA h l;rw [i] at b;obtain rfl:=Option.some.inj b;rw [←j] at d e f;exact ⟨d,e,f⟩
section
variable {m:Md}{k:Nat} (X:PlX m k) {N B:Nat}{L:LQ}{ko:Option Addr}{kc:Nat}
include X
section
variable {p q en:Nat}{alt:Int}(hM:Mat (cdM m k) p alt en)(hpq:p<q)(sg1:Seg (cdM m k) (p+1) q)(hcs:(alt=-1∧q=en)∨(alt=q∧q<en∧Seg (cdM m k) (q+1) en))
include p q en alt hM hpq sg1 hcs
theorem ZrQ (o:((cdM m k).getD p default).op=29) (ap:ZrL N B L ko kc m k (p+1) q) (hl2:alt=q→ZrL N B L ko kc m k (q+1) en):BrE N B L ko kc m k p q en alt:=by
 intro w ls sn sc lf cs tn H aq aw x ax;have hp:=hM.1;have aM:=hM.2.2.1;have aN:(p:Int) < (cdM m k).length:=by omega
 have aL:(cdM m k).length≤120:=(ZfN X.hm X.hk).z.2.2;have al:ZaV false (cdM m k)=0:=(ZpV X.hm w).code X.hk;obtain ⟨hv,ho,-⟩:=X.op hp;obtain ⟨-,ad,ae⟩:=X.opn hp (by rw [o];rfl);have af:=ZrI (X.st hp);have am:=X.le (p:=p) (by omega);have au:=X.le (p:=q) (by rcases hcs with h|h<;>omega);have U:=X.le (p:=p+1) (by omega);have aP:IntKind.i64.wrap ((p:Int)+1)=((p+1:Nat):Int):=IntWalk.i64_in _ (by omega);have aO:IntKind.i64.wrap ((en:Int)+1)=((en+1:Nat):Int):=IntWalk.i64_in _ (by omega);have aQ:IntKind.i64.wrap ((q:Int)+1)=((q+1:Nat):Int):=IntWalk.i64_in _ (by rcases hcs with h|h<;>omega);have aa:Bd (WA (gHJ m) (cdM m k) (p+1) q 0):=ZrE X.hm X.hk sg1 (by unfold Bd;omega);have ab:Bd (if alt<0 then 0 else WA (gHJ m) (cdM m k) (q+1) en 0):=by exact j10
 have an:alt=-1→htA m k q=htA m k (p+1)∧htA m k (en+1)=htA m k (p+1):=fun h=>by exact j14
 have V:alt=q→htA m k (q+1)=htA m k (p+1)∧htA m k en=htA m k q∧htA m k (en+1)=htA m k q:=fun h=>by exact j18
 have E:alt=q→∀ w ls sc lf cs tn,EvA N w B L ko kc (cdM m k) ls (htA m k (q+1)) sc lf cs tn→ls.length=nlA m k→(if alt<0 then 0 else WA (gHJ m) (cdM m k) (q+1) en 0)≤lf→Calls Tryz.prog 92 #[ZQ.p B,.int .i64 (q+1:Nat),.int .i64 en] w (EvL N w B L ko kc (cdM m k) (nlA m k) sc lf cs (if alt<0 then 0 else WA (gHJ m) (cdM m k) (q+1) en 0) (if alt<0 then 0 else WA (gOJ m) (cdM m k) (q+1) en 0) (htA m k en)):=fun h w ls sc lf cs tn h1 h2 h3=>by exact j11
 unfold brH brO at *;rw [o] at ad ae;simp only [o] at x ⊢;simp only [show ¬ (29:Int)=30 by decide,show ¬ (29:Int)=33 by decide,if_false] at x ⊢;have D:=fun w ls sc lf cs tn (h1:EvA N w B L ko kc (cdM m k) ls (htA m k (p+1)) sc lf cs tn) h2 h3=>ap w ls _ sc lf cs tn h1 h2 rfl h3;have Q:alt<0→(if alt<0 then 0 else WA (gHJ m) (cdM m k) (q+1) en 0)=0∧(if alt<0 then 0 else WA (gOJ m) (cdM m k) (q+1) en 0)=0:=fun h=>⟨if_pos h,if_pos h⟩;generalize WA (gHJ m) (cdM m k) (p+1) q 0=F at x aa D ⊢;generalize WA (gOJ m) (cdM m k) (p+1) q 0=Fo at D ⊢;generalize (if alt<0 then 0 else WA (gHJ m) (cdM m k) (q+1) en 0)=S at x ab E Q ⊢;generalize (if alt<0 then 0 else WA (gOJ m) (cdM m k) (q+1) en 0)=So at E Q ⊢;have ao:=H.iv;have ar:=H.lo;have Y:=Zh (fun w' (hb:Below w.heap.size w w')=>ZqR (cdM m k) ko kc w' (H.old hb).k al hM);obtain ⟨ca,ac,M,o1,o2⟩:=ZaA H.k hp;rw [o] at M;obtain ⟨-,kb,I,c1,-,-,-⟩:=H.cells;obtain ⟨i,hii⟩:∃ i,i=(cdM m k).getD p default:=⟨_,rfl⟩;have av:(alt=-1∧i.op≠33)∨(alt=q∧(i.op=29∨i.op=33)):=by exact j8
 rw [←hii] at o1 o2 hv ho af o
 try rw [←hii] at x ⊢
 have aD:(alt=-1∧q=en)∨(alt=q∧q<en):=by rcases hcs with h|h;exact .inl h;exact .inr ⟨h.1,h.2.1⟩
 rw [o] at av;have aj:=Zh D;have az:=Zh E;have HH:=Zh H;have HNu:=Zh (And.intro ao (And.intro x (And.intro ax (And.intro aa (And.intro ab (And.intro aq aw))))));have d:=Zh (And.intro ad (And.intro ae (And.intro an (And.intro V (And.intro am (And.intro au U))))));have aA:=Zh (And.intro hv (And.intro ho af));have ai:=Zh hii;have aB:=Zh Q;have P:=Zh (fun w' ls' sn' sc' lf' cs' tn' (H':EvA N w' B L ko kc (cdM m k) ls' sn' sc' lf' cs' tn') (h:0<lf')=>Zqm H' ⟨35,0,0⟩ (by decide) h);clear H aq aw x ax hM al hv ho af ad ae an V ap hl2 D E aa ab sg1 hcs hii X Q ao am au U ar;rw [ac] at I Y;have O:=Zh ac;clear ac;obtain ⟨op,ia,ib⟩:=i;dsimp only at M o1 o2 o aA HNu ⊢;subst o;have aK:=Zh (fun K (hb:Below w.heap.size w K)=>HH.out.old hb);rcases aD with ⟨rfl,rfl⟩|⟨rfl,aG⟩
 ·go_enter Tryz.func152,Tryz.ntmps152
  go_upto_region 5 with (go_at_call 165;refine (Y.out _ (Below.refl _ _)).mono ?_;rintro e K ⟨rfl,g⟩;have r:=Zh g;have I:=(g.cell (Zac I)).trans I;have M:=(g.cell (Zac M)).trans M;clear g)
  obtain ⟨R,l⟩:∃ R,R=K.alloc (.cells #[.int .i64 35,.int .i64 0,.int .i64 0] 78):=⟨_,rfl⟩;have j:Below K.heap.size K R:=by rw [l];exact bE
  have a:=Zh (show Blk R K.heap.size #[.int .i64 35,.int .i64 0,.int .i64 0] 78 by rw [l];exact Blk.new _ _ _);have s:=Zh (HH.out.old (Zaf r.out j));have HF:=Zh (FrE.of HH.out.lo (Zaf r.out j));have Z:=Zh l;have ay:=Zh (Zaf r.out j);clear l j
  go_upto_region 7 with fail
  rw [←Z.out];have I:=s.out.cells.2.2.1;rw [O.out] at I;have M:=(ZrP (p:=p) s.out.k O.out hp ai.out).1;have y:=a.out.cell 0 (v:=.int .i64 35) rfl;have A:=a.out.cell 1 (v:=.int .i64 0) rfl;have C:=a.out.cell 2 (v:=.int .i64 0) rfl
  go_upto_region 21 with (go_at_call 93;refine (Zqi s.out (by have:=HNu.out.2.2.2.2.2.2;have:=d.out.1;rw [if_neg (by decide)] at this;omega)).mono ?_;rintro e w4 ⟨⟨z,rfl⟩,b,hF⟩;rw [show sn-1=htA m k (p+1) by have h1:=HNu.out.2.2.2.2.2.2;have h2:=d.out.2.1;rw [if_neg (by decide)] at h2;omega] at b;have G:=Zh b;have a:=Zh (hF.2 _ _ _ (by decide) (by decide) (by decide) a.out);have HF:=Zh (HF.out.trans hF);clear b hF y A C;have y:=a.out.cell 0 (v:=.int .i64 35) rfl;have A:=a.out.cell 1 (v:=.int .i64 0) rfl;have C:=a.out.cell 2 (v:=.int .i64 0) rfl)
  ·go_upto_region 30 with (go_at_call 92;refine (aj.out _ _ _ _ _ _ G.out HNu.out.2.2.2.2.2.1 (by have h:=HNu.out;unfold ZmS ZmR at h;omega)).mono ?_;rintro e w5 ⟨t,ls5,sn5,sc5,lf5,cs5,tn5,rfl,b,W,hF⟩;have HE5:=Zh b;have HQ5:=Zh W;have a:=Zh (hF.2 _ _ _ (by decide) (by decide) (by decide) a.out);have HF:=Zh (HF.out.trans hF);clear b hF W y A C;have y:=a.out.cell 0 (v:=.int .i64 35) rfl;have A:=a.out.cell 1 (v:=.int .i64 0) rfl;have C:=a.out.cell 2 (v:=.int .i64 0) rfl)
   by_cases htz:t=0
   ·subst htz;have HZ:=Zh (HQ5.out.2.2.2.2.2.2.2 rfl);have f:0<lf5:=by have n:=HNu.out;have qq:=HQ5.out;unfold EvQ at qq;unfold ZmS ZmR at n;omega
    go_wp2_with (go_at_call 150;refine (P.out _ _ _ _ _ _ _ HE5.out f).mono ?_;rintro e w6 ⟨rfl,b,hF⟩;rw [show ZmU ⟨35,0,0⟩=1 from rfl] at b;have u:=Zh b;have a:=Zh (hF.2 _ _ _ (by decide) (by decide) (by decide) a.out);have HF:=Zh (HF.out.trans hF);clear b hF y A C)
    go_ret2;have n:=HNu.out;have qq:=HQ5.out;unfold EvQ at qq;have T:=HZ.out;have J:=ZrO (n:=cs5+1-cs) (F:=Fo) (S:=So) (.inl ⟨T.2.1,by omega⟩);exact ⟨0,_,ls5,sn5,sc5,lf5-1,cs5+1,tn5,rfl,u.out,⟨by omega,qq.2.1,qq.2.2.1,by omega,by unfold ZmS ZmR at n ⊢;omega,by omega,by omega,fun _=>⟨T.1.trans ((d.out.2.2.1 (by trivial)).1.trans (d.out.2.2.1 (by trivial)).2.symm),J.1,J.2⟩⟩,fun _=>rfl,HF.out⟩
   ·exact j6
  ·have f:0<lf:=by have n:=HNu.out;unfold Bd ZmS ZmR at n;omega
   go_wp2_with (go_at_call 150;refine (P.out _ _ _ _ _ _ _ G.out f).mono ?_;rintro e w6 ⟨rfl,b,hF⟩;rw [show ZmU ⟨35,0,0⟩=1 from rfl] at b;have u:=Zh b;have a:=Zh (hF.2 _ _ _ (by decide) (by decide) (by decide) a.out);have HF:=Zh (HF.out.trans hF);clear b hF y A C)
   go_ret2;have n:=HNu.out;have T:=aB.out (by decide);have J:=ZrO (n:=cs+1-cs) (F:=Fo) (S:=So) (.inr ⟨by omega,by omega⟩);exact ⟨0,_,ls,_,sc,lf-1,cs+1,tn,rfl,u.out,⟨by omega,n.2.2.2.2.2.1,Nat.le_refl _,by omega,by unfold ZmS ZmR;unfold Bd at n;omega,by omega,by omega,fun _=>⟨(d.out.2.2.1 (by trivial)).2.symm,J.1,J.2⟩⟩,fun _=>rfl,HF.out⟩
 ·go_enter Tryz.func152,Tryz.ntmps152
  go_upto_region 5 with (go_at_call 165;refine (Y.out _ (Below.refl _ _)).mono ?_;rintro e K ⟨rfl,g⟩;have r:=Zh g;have I:=(g.cell (Zac I)).trans I;have M:=(g.cell (Zac M)).trans M;clear g)
  obtain ⟨R,l⟩:∃ R,R=K.alloc (.cells #[.int .i64 35,.int .i64 0,.int .i64 0] 78):=⟨_,rfl⟩;have j:Below K.heap.size K R:=by rw [l];exact bE
  have a:=Zh (show Blk R K.heap.size #[.int .i64 35,.int .i64 0,.int .i64 0] 78 by rw [l];exact Blk.new _ _ _);have s:=Zh (HH.out.old (Zaf r.out j));have HF:=Zh (FrE.of HH.out.lo (Zaf r.out j));have Z:=Zh l;have ay:=Zh (Zaf r.out j);clear l j
  go_upto_region 7 with fail
  rw [←Z.out];have I:=s.out.cells.2.2.1;rw [O.out] at I;have M:=(ZrP (p:=p) s.out.k O.out hp ai.out).1;have y:=a.out.cell 0 (v:=.int .i64 35) rfl;have A:=a.out.cell 1 (v:=.int .i64 0) rfl;have C:=a.out.cell 2 (v:=.int .i64 0) rfl
  go_upto_region 21 with (go_at_call 93;refine (Zqi s.out (by have:=HNu.out.2.2.2.2.2.2;have:=d.out.1;rw [if_neg (by decide)] at this;omega)).mono ?_;rintro e w4 ⟨⟨z,rfl⟩,b,hF⟩;rw [show sn-1=htA m k (p+1) by have h1:=HNu.out.2.2.2.2.2.2;have h2:=d.out.2.1;rw [if_neg (by decide)] at h2;omega] at b;have G:=Zh b;have a:=Zh (hF.2 _ _ _ (by decide) (by decide) (by decide) a.out);have HF:=Zh (HF.out.trans hF);clear b hF y A C;have y:=a.out.cell 0 (v:=.int .i64 35) rfl;have A:=a.out.cell 1 (v:=.int .i64 0) rfl;have C:=a.out.cell 2 (v:=.int .i64 0) rfl)
  ·go_upto_region 30 with (go_at_call 92;refine (aj.out _ _ _ _ _ _ G.out HNu.out.2.2.2.2.2.1 (by have h:=HNu.out;unfold ZmS ZmR at h;omega)).mono ?_;rintro e w5 ⟨t,ls5,sn5,sc5,lf5,cs5,tn5,rfl,b,W,hF⟩;have HE5:=Zh b;have HQ5:=Zh W;have a:=Zh (hF.2 _ _ _ (by decide) (by decide) (by decide) a.out);have HF:=Zh (HF.out.trans hF);clear b hF W y A C;have y:=a.out.cell 0 (v:=.int .i64 35) rfl;have A:=a.out.cell 1 (v:=.int .i64 0) rfl;have C:=a.out.cell 2 (v:=.int .i64 0) rfl)
   by_cases htz:t=0
   ·subst htz;have HZ:=Zh (HQ5.out.2.2.2.2.2.2.2 rfl);have f:0<lf5:=by have n:=HNu.out;have qq:=HQ5.out;unfold EvQ at qq;unfold ZmS ZmR at n;omega
    go_wp2_with (go_at_call 150;refine (P.out _ _ _ _ _ _ _ HE5.out f).mono ?_;rintro e w6 ⟨rfl,b,hF⟩;rw [show ZmU ⟨35,0,0⟩=1 from rfl] at b;have u:=Zh b;have a:=Zh (hF.2 _ _ _ (by decide) (by decide) (by decide) a.out);have HF:=Zh (HF.out.trans hF);clear b hF y A C)
    go_ret2;have n:=HNu.out;have qq:=HQ5.out;unfold EvQ at qq;have T:=HZ.out;have J:=ZrO (n:=cs5+1-cs) (F:=Fo) (S:=So) (.inl ⟨T.2.1,by omega⟩);exact ⟨0,_,ls5,sn5,sc5,lf5-1,cs5+1,tn5,rfl,u.out,⟨by omega,qq.2.1,qq.2.2.1,by omega,by unfold ZmS ZmR at n ⊢;omega,by omega,by omega,fun _=>⟨T.1.trans (d.out.2.2.2.1 (by trivial)).2.2.symm,J.1,J.2⟩⟩,fun _=>rfl,HF.out⟩
   ·exact j6
  ·go_upto_region 30 with (go_at_call 92;refine (az.out (by trivial) _ _ _ _ _ _ (by have h:=G.out;rwa [←(d.out.2.2.2.1 (by trivial)).1] at h) HNu.out.2.2.2.2.2.1 (by have h:=HNu.out;unfold ZmS ZmR at h;omega)).mono ?_;rintro e w5 ⟨t,ls5,sn5,sc5,lf5,cs5,tn5,rfl,b,W,hF⟩;have HE5:=Zh b;have HQ5:=Zh W;have a:=Zh (hF.2 _ _ _ (by decide) (by decide) (by decide) a.out);have HF:=Zh (HF.out.trans hF);clear b hF W y A C;have y:=a.out.cell 0 (v:=.int .i64 35) rfl;have A:=a.out.cell 1 (v:=.int .i64 0) rfl;have C:=a.out.cell 2 (v:=.int .i64 0) rfl)
   by_cases htz:t=0
   ·subst htz;have HZ:=Zh (HQ5.out.2.2.2.2.2.2.2 rfl);have f:0<lf5:=by have n:=HNu.out;have qq:=HQ5.out;unfold EvQ at qq;unfold ZmS ZmR at n;omega
    go_wp2_with (go_at_call 150;refine (P.out _ _ _ _ _ _ _ HE5.out f).mono ?_;rintro e w6 ⟨rfl,b,hF⟩;rw [show ZmU ⟨35,0,0⟩=1 from rfl] at b;have u:=Zh b;have a:=Zh (hF.2 _ _ _ (by decide) (by decide) (by decide) a.out);have HF:=Zh (HF.out.trans hF);clear b hF y A C)
    go_ret2;have n:=HNu.out;have qq:=HQ5.out;unfold EvQ at qq;have T:=HZ.out;have J:=ZrO (n:=cs5+1-cs) (F:=Fo) (S:=So) (.inr ⟨T.2.1,by omega⟩);exact ⟨0,_,ls5,sn5,sc5,lf5-1,cs5+1,tn5,rfl,u.out,⟨by omega,qq.2.1,qq.2.2.1,by omega,by unfold ZmS ZmR at n ⊢;omega,by omega,by omega,fun _=>⟨T.1.trans ((d.out.2.2.2.1 (by trivial)).2.1.trans (d.out.2.2.2.1 (by trivial)).2.2.symm),J.1,J.2⟩⟩,fun _=>rfl,HF.out⟩
   ·exact j6
theorem ZrR (a:((cdM m k).getD p default).op=33) (af:ZrL N B L ko kc m k (p+1) q) (hl2:alt=q→ZrL N B L ko kc m k (q+1) en):BrE N B L ko kc m k p q en alt:=by
 intro w ls sn sc lf cs tn H ah am b an;have hp:=hM.1;have aN:=hM.2.2.1;have aO:(p:Int) < (cdM m k).length:=by omega
 have aM:(cdM m k).length≤120:=(ZfN X.hm X.hk).z.2.2;have ab:ZaV false (cdM m k)=0:=(ZpV X.hm w).code X.hk;obtain ⟨hv,ho,-⟩:=X.op hp;obtain ⟨-,O,P⟩:=X.opn hp (by rw [a];rfl);have Q:=ZrI (X.st hp);have ac:=X.le (p:=p) (by omega);have aj:=X.le (p:=q) (by rcases hcs with h|h<;>omega);have x:=X.le (p:=p+1) (by omega);have aR:IntKind.i64.wrap ((p:Int)+1)=((p+1:Nat):Int):=IntWalk.i64_in _ (by omega);have aQ:IntKind.i64.wrap ((en:Int)+1)=((en+1:Nat):Int):=IntWalk.i64_in _ (by omega);have aS:IntKind.i64.wrap ((q:Int)+1)=((q+1:Nat):Int):=IntWalk.i64_in _ (by rcases hcs with h|h<;>omega);have J:Bd (WA (gHJ m) (cdM m k) (p+1) q 0):=ZrE X.hm X.hk sg1 (by unfold Bd;omega);have K:Bd (if alt<0 then 0 else WA (gHJ m) (cdM m k) (q+1) en 0):=by exact j10
 have ad:alt=-1→htA m k q=htA m k (p+1)∧htA m k (en+1)=htA m k (p+1):=fun h=>by exact j14
 have y:alt=q→htA m k (q+1)=htA m k (p+1)∧htA m k en=htA m k q∧htA m k (en+1)=htA m k q:=fun h=>by exact j18
 have g:alt=q→∀ w ls sc lf cs tn,EvA N w B L ko kc (cdM m k) ls (htA m k (q+1)) sc lf cs tn→ls.length=nlA m k→(if alt<0 then 0 else WA (gHJ m) (cdM m k) (q+1) en 0)≤lf→Calls Tryz.prog 92 #[ZQ.p B,.int .i64 (q+1:Nat),.int .i64 en] w (EvL N w B L ko kc (cdM m k) (nlA m k) sc lf cs (if alt<0 then 0 else WA (gHJ m) (cdM m k) (q+1) en 0) (if alt<0 then 0 else WA (gOJ m) (cdM m k) (q+1) en 0) (htA m k en)):=fun h w ls sc lf cs tn h1 h2 h3=>by exact j11
 unfold brH brO at *;rw [a] at O P;simp only [a] at b ⊢;simp only [show ¬ (33:Int)=30 by decide,if_true,if_false] at b ⊢;have f:=fun w ls sc lf cs tn (h1:EvA N w B L ko kc (cdM m k) ls (htA m k (p+1)) sc lf cs tn) h2 h3=>af w ls _ sc lf cs tn h1 h2 rfl h3;have s:alt<0→(if alt<0 then 0 else WA (gHJ m) (cdM m k) (q+1) en 0)=0∧(if alt<0 then 0 else WA (gOJ m) (cdM m k) (q+1) en 0)=0:=fun h=>⟨if_pos h,if_pos h⟩;generalize WA (gHJ m) (cdM m k) (p+1) q 0=F at b J f ⊢;generalize WA (gOJ m) (cdM m k) (p+1) q 0=Fo at f ⊢;generalize (if alt<0 then 0 else WA (gHJ m) (cdM m k) (q+1) en 0)=S at b K g s ⊢;generalize (if alt<0 then 0 else WA (gOJ m) (cdM m k) (q+1) en 0)=So at g s ⊢;have ae:=H.iv;have ai:=H.lo;have Y:=Zh (fun w' (hb:Below w.heap.size w w')=>ZqR (cdM m k) ko kc w' (H.old hb).k ab hM);obtain ⟨ca,M,V,o1,o2⟩:=ZaA H.k hp;rw [a] at V;obtain ⟨-,kb,U,c1,-,-,-⟩:=H.cells;obtain ⟨i,hii⟩:∃ i,i=(cdM m k).getD p default:=⟨_,rfl⟩;have z:(alt=-1∧i.op≠33)∨(alt=q∧(i.op=29∨i.op=33)):=by exact j8
 rw [←hii] at o1 o2 hv ho Q a
 try rw [←hii] at b ⊢
 have aD:(alt=-1∧q=en)∨(alt=q∧q<en):=by rcases hcs with h|h;exact .inl h;exact .inr ⟨h.1,h.2.1⟩
 rw [a] at z;have ay:=Zh f;have HL2:=Zh g;have HH:=Zh H;have HNu:=Zh (And.intro ae (And.intro b (And.intro an (And.intro J (And.intro K (And.intro ah am))))));have HHt:=Zh (And.intro O (And.intro P (And.intro ad (And.intro y (And.intro ac (And.intro aj x))))));have az:=Zh (And.intro hv (And.intro ho Q));have ax:=Zh hii;have aK:=Zh s;have HP1:=Zh (fun w' ls' sn' sc' lf' cs' tn' (H':EvA N w' B L ko kc (cdM m k) ls' sn' sc' lf' cs' tn') (h:0<lf')=>Zqm H' ⟨35,0,0⟩ (by decide) h);clear H ah am b an hM ab hv ho Q O P ad y af hl2 f g J K sg1 hcs hii X s ae ac aj x ai;rw [M] at U Y;have W:=Zh M;clear M;obtain ⟨op,ia,ib⟩:=i;dsimp only at V o1 o2 a az HNu ⊢;subst a;have Z:=Zh HH.out.room;obtain ⟨rfl,aG⟩:alt=q∧q<en:=by
  rcases aD with h|h
  ·rcases z with h2|h2
   ·exact absurd rfl h2.2
   ·omega
  ·exact h
 go_enter Tryz.func152,Tryz.ntmps152
 go_upto_region 5 with (go_at_call 165;refine (Y.out _ (Below.refl _ _)).mono ?_;rintro e w2 ⟨rfl,o⟩;have D:=Zh o;have U:=(o.cell (Zac U)).trans U;have V:=(o.cell (Zac V)).trans V;clear o)
 obtain ⟨w3,u⟩:∃ w3,w3=w2.alloc (.cells #[.int .i64 35,.int .i64 0,.int .i64 0] 78):=⟨_,rfl⟩;have r:Below w2.heap.size w2 w3:=by rw [u];exact bE
 have HO:=Zh (show Blk w3 w2.heap.size #[.int .i64 35,.int .i64 0,.int .i64 0] 78 by rw [u];exact Blk.new _ _ _);have l:=Zh (HH.out.old (Zaf D.out r));have HF:=Zh (FrE.of HH.out.lo (Zaf D.out r));have aA:=Zh u;have aJ:=Zh (Zaf D.out r);clear u r
 go_upto_region 7 with fail
 rw [←aA.out];have U:=l.out.cells.2.2.1;rw [W.out] at U;have V:=(ZrP (p:=p) l.out.k W.out hp ax.out).1;have x0:=HO.out.cell 0 (v:=.int .i64 35) rfl;have x1:=HO.out.cell 1 (v:=.int .i64 0) rfl;have x2:=HO.out.cell 2 (v:=.int .i64 0) rfl;have av:=Zh (show EvA N w3 B L ko kc (cdM m k) ls (htA m k (p+1)) sc lf cs tn from by
  have h:=l.out;have h1:=HNu.out.2.2.2.2.2.2;have h2:=HHt.out.2.1;rw [if_pos (by trivial)] at h2;rwa [show htA m k (p+1)=sn by omega])
 obtain ⟨so,c2⟩:=l.out.cells.2.2.2.2.1
 go_upto_region 27 with (go_at_call 92;refine (ay.out _ _ _ _ _ _ av.out HNu.out.2.2.2.2.2.1 (by have h:=HNu.out;unfold Bd ZmS ZmR at h;omega)).mono ?_;rintro e w5 ⟨t,ao,T,d,R,G,aq,rfl,hE,hq,hF⟩;have E:=Zh hE;have HQ5:=Zh hq;have HO:=Zh (hF.2 _ _ _ (by decide) (by decide) (by decide) HO.out);have HF:=Zh (HF.out.trans hF);clear hE hF hq x0 x1 x2;have x0:=HO.out.cell 0 (v:=.int .i64 35) rfl;have x1:=HO.out.cell 1 (v:=.int .i64 0) rfl;have x2:=HO.out.cell 2 (v:=.int .i64 0) rfl)
 clear c2;by_cases htz:t=0
 ·subst htz;have HZ:=Zh (HQ5.out.2.2.2.2.2.2.2 rfl);have ag:0<R:=by have n:=HNu.out;have qq:=HQ5.out;unfold EvQ at qq;unfold Bd ZmS ZmR at n;omega
  go_wp2_with (go_at_call 150;refine (HP1.out _ _ _ _ _ _ _ E.out ag).mono ?_;rintro e w6 ⟨rfl,hE,hF⟩;rw [show ZmU ⟨35,0,0⟩=1 from rfl] at hE;have HE6:=Zh hE;have HO:=Zh (hF.2 _ _ _ (by decide) (by decide) (by decide) HO.out);have HF:=Zh (HF.out.trans hF);clear hE hF x0 x1 x2)
  go_ret2;have n:=HNu.out;have qq:=HQ5.out;unfold EvQ at qq;have zz:=HZ.out;have hx:=ZrO (n:=G+1-cs) (F:=Fo) (S:=So) (.inl ⟨zz.2.1,by omega⟩);exact ⟨0,_,ao,T,d,R-1,G+1,aq,rfl,HE6.out,⟨by omega,qq.2.1,qq.2.2.1,by omega,by unfold Bd ZmS ZmR at *;omega,by omega,by omega,fun _=>⟨zz.1.trans (HHt.out.2.2.2.1 (by trivial)).2.2.symm,hx.1,hx.2⟩⟩,fun _=>rfl,HF.out⟩
 ·have aP:t > 0:=by have:=HQ5.out.1;omega
  obtain ⟨ap,c2,h0,aT,f2,aa,I⟩:=E.out.shorter (j:=sn) (by have:=Z.out;have:=HQ5.out.2.2.1;omega) (by have:=HNu.out;omega);have HE7:=Zh (show EvA N (w5.setCell ⟨B,2,none⟩ (.slice ap sn d)) B L ko kc (cdM m k) ao (htA m k (q+1)) d R G aq from by
   have h1:=HNu.out.2.2.2.2.2.2;have h2:=HHt.out.2.1;rw [if_pos (by trivial)] at h2;rw [(HHt.out.2.2.2.1 (by trivial)).1,show htA m k (p+1)=sn by omega];exact aa)
  have HO:=Zh (I.2 _ _ _ (by decide) (by decide) (by decide) HO.out);have HF:=Zh (HF.out.trans I);have al:(sn:Int)≤d:=by have:=Z.out;have:=HQ5.out.2.2.1;omega
  have C:sn≤d:=by omega
  have A:=E.out.room;clear aa I x0 x1 x2;have x0:=HO.out.cell 0 (v:=.int .i64 35) rfl;have x1:=HO.out.cell 1 (v:=.int .i64 0) rfl;have x2:=HO.out.cell 2 (v:=.int .i64 0) rfl;have aL:Hid (T≤d∧sn≤d):=⟨A,C⟩;rcases ap with _|a5
  ·obtain rfl:=h0 rfl;obtain rfl:sn=0:=by omega
   obtain rfl:T=0:=by omega
   clear A C al h0;exact j1
  ·clear h0;exact j1
theorem ZrS (D:((cdM m k).getD p default).op=30) (aV:ZrL N B L ko kc m k (p+1) q) (hl2:alt=q→ZrL N B L ko kc m k (q+1) en):BrE N B L ko kc m k p q en alt:=by
 intro w ls sn sc lf cs tn H aX a0 E a1;have hp:=hM.1;have bM:=hM.2.2.1;have br:(p:Int) < (cdM m k).length:=by omega
 have bL:(cdM m k).length≤120:=(ZfN X.hm X.hk).z.2.2;have aP:ZaV false (cdM m k)=0:=(ZpV X.hm w).code X.hk;obtain ⟨hv,ho,-⟩:=X.op hp;obtain ⟨-,ay,az⟩:=X.opn hp (by rw [D];rfl);have aB:=ZrI (X.st hp);have aR:=X.le (p:=p) (by omega);have aZ:=X.le (p:=q) (by rcases hcs with h|h<;>omega);have an:=X.le (p:=p+1) (by omega);have bQ:IntKind.i64.wrap ((p:Int)+1)=((p+1:Nat):Int):=IntWalk.i64_in _ (by omega);have bO:IntKind.i64.wrap ((en:Int)+1)=((en+1:Nat):Int):=IntWalk.i64_in _ (by omega);have bR:IntKind.i64.wrap ((q:Int)+1)=((q+1:Nat):Int):=IntWalk.i64_in _ (by rcases hcs with h|h<;>omega);have au:Bd (WA (gHJ m) (cdM m k) (p+1) q 0):=ZrE X.hm X.hk sg1 (by unfold Bd;omega);have av:Bd (if alt<0 then 0 else WA (gHJ m) (cdM m k) (q+1) en 0):=by exact j10
 have aS:alt=-1→htA m k q=htA m k (p+1)∧htA m k (en+1)=htA m k (p+1):=fun h=>by exact j14
 have ao:alt=q→htA m k (q+1)=htA m k (p+1)∧htA m k en=htA m k q∧htA m k (en+1)=htA m k q:=fun h=>by exact j18
 have K:alt=q→∀ w ls sc lf cs tn,EvA N w B L ko kc (cdM m k) ls (htA m k (q+1)) sc lf cs tn→ls.length=nlA m k→(if alt<0 then 0 else WA (gHJ m) (cdM m k) (q+1) en 0)≤lf→Calls Tryz.prog 92 #[ZQ.p B,.int .i64 (q+1:Nat),.int .i64 en] w (EvL N w B L ko kc (cdM m k) (nlA m k) sc lf cs (if alt<0 then 0 else WA (gHJ m) (cdM m k) (q+1) en 0) (if alt<0 then 0 else WA (gOJ m) (cdM m k) (q+1) en 0) (htA m k en)):=fun h w ls sc lf cs tn h1 h2 h3=>by exact j11
 unfold brH brO at *;rw [D] at ay az;simp only [D] at E ⊢;simp only [if_true] at E ⊢;have J:=fun w ls sc lf cs tn (h1:EvA N w B L ko kc (cdM m k) ls (htA m k (p+1)) sc lf cs tn) h2 h3=>aV w ls _ sc lf cs tn h1 h2 rfl h3;have al:alt<0→(if alt<0 then 0 else WA (gHJ m) (cdM m k) (q+1) en 0)=0∧(if alt<0 then 0 else WA (gOJ m) (cdM m k) (q+1) en 0)=0:=fun h=>⟨if_pos h,if_pos h⟩;generalize WA (gHJ m) (cdM m k) (p+1) q 0=F at E au J ⊢;generalize WA (gOJ m) (cdM m k) (p+1) q 0=Fo at J ⊢;generalize (if alt<0 then 0 else WA (gHJ m) (cdM m k) (q+1) en 0)=S at E av K al ⊢;generalize (if alt<0 then 0 else WA (gOJ m) (cdM m k) (q+1) en 0)=So at K al ⊢;have aT:=H.iv;have aY:=H.lo;have aI:=Zh (fun w' (hb:Below w.heap.size w w')=>ZqR (cdM m k) ko kc w' (H.old hb).k aP hM);obtain ⟨ca,ax,o0,o1,o2⟩:=ZaA H.k hp;rw [D] at o0;obtain ⟨-,kb,T,c1,-,-,-⟩:=H.cells;obtain ⟨i,hii⟩:∃ i,i=(cdM m k).getD p default:=⟨_,rfl⟩;have Y:(alt=-1∧i.op≠33)∨(alt=q∧(i.op=29∨i.op=33)):=by exact j8
 rw [←hii] at o1 o2 hv ho aB D
 try rw [←hii] at E ⊢
 have bs:(alt=-1∧q=en)∨(alt=q∧q<en):=by rcases hcs with h|h;exact .inl h;exact .inr ⟨h.1,h.2.1⟩
 rw [D] at Y;have bk:=Zh J;have bG:=Zh K;have HH:=Zh H;have f:=Zh (And.intro aT (And.intro E (And.intro a1 (And.intro au (And.intro av (And.intro aX a0))))));have ae:=Zh (And.intro ay (And.intro az (And.intro aS (And.intro ao (And.intro aR (And.intro aZ an))))));have ag:=Zh (And.intro hv (And.intro ho aB));have V:=Zh hii;have bH:=Zh al;have bl:=Zh (fun w' ls' sn' sc' lf' cs' tn' (H':EvA N w' B L ko kc (cdM m k) ls' sn' sc' lf' cs' tn') (h:0<lf')=>Zqm H' ⟨35,0,0⟩ (by decide) h);clear H aX a0 E a1 hM aP hv ho aB ay az aS ao aV hl2 J K au av sg1 hcs hii X al aT aR aZ an aY;rw [ax] at T aI;have u:=Zh ax;clear ax;obtain ⟨op,M,ib⟩:=i;dsimp only at o0 o1 o2 D ag f ⊢;subst D;obtain ⟨rfl,rfl⟩:alt=-1∧q=en:=by
  rcases bs with h|h
  ·exact h
  ·rcases Y with h2|h2<;>omega
 go_enter Tryz.func152,Tryz.ntmps152
 go_upto_region 5 with (go_at_call 165;refine (aI.out _ (Below.refl _ _)).mono ?_;rintro e w2 ⟨rfl,ai⟩;have ar:=Zh ai;have T:=(ai.cell (Zac T)).trans T;have o0:=(ai.cell (Zac o0)).trans o0;clear ai)
 obtain ⟨w3,am⟩:∃ w3,w3=w2.alloc (.cells #[.int .i64 35,.int .i64 0,.int .i64 0] 78):=⟨_,rfl⟩;have aj:Below w2.heap.size w2 w3:=by rw [am];exact bE
 have r:=Zh (show Blk w3 w2.heap.size #[.int .i64 35,.int .i64 0,.int .i64 0] 78 by rw [am];exact Blk.new _ _ _);have ac:=Zh (HH.out.old (Zaf ar.out aj));have O:=Zh (FrE.of HH.out.lo (Zaf ar.out aj));have bm:=Zh am;have bD:=Zh (Zaf ar.out aj);clear am aj
 go_upto_region 7 with fail
 rw [←bm.out];have T:=ac.out.cells.2.2.1;rw [u.out] at T;have o0:=(ZrP (p:=p) ac.out.k u.out hp V.out).1;have x0:=r.out.cell 0 (v:=.int .i64 35) rfl;have x1:=r.out.cell 1 (v:=.int .i64 0) rfl;have x2:=r.out.cell 2 (v:=.int .i64 0) rfl;have o1:=(ZrP (p:=p) ac.out.k u.out hp V.out).2.1;have bN:=br
 go_upto_region 9 with fail
 refine rO (Cs [(⟨B,0,none⟩,.slice (some ca) (cdM m k).length kc),(⟨(ca.add (p*3)).block,(ca.add (p*3)).off+1,none⟩,.int .i64 M)]) (oL [0,2,3,4,5,6,7,8,9,101,10,11]) ⟨T,o1,trivial⟩ ?_;clear o0 o1 T c1 o2 kb x0 x1 x2
 repeat refine pO ?_
 refine oO fun Kv hK=>?_;go_simp;refine (Zqi ac.out.drew (by have:=f.out.2.2.2.2.2.2;have:=ae.out.1;rw [if_neg (by decide)] at this;omega)).mono ?_;rintro e w4 ⟨⟨z,rfl⟩,U,hF⟩;rw [show sn-1=htA m k (p+1) by have h1:=f.out.2.2.2.2.2.2;have h2:=ae.out.2.1;rw [if_neg (by decide)] at h2;omega] at U;refine hK _ _ ⟨⟨by rw [←u.out];exact U.cells.2.2.1,(ZrP (p:=p) U.k u.out hp V.out).2.1,trivial⟩,?_⟩;have bg:=Zh U;have r:=Zh (hF.2 _ _ _ (by decide) (by decide) (by decide) (r.out.drew));have O:=Zh (O.out.drew.trans hF);clear hK Kv U hF
 repeat refine pO ?_
 refine Zd5 ?_
 first
 | generalize hmn:min z M=n
 | generalize hmn:(if z≤M then z else M)=n
 have hn:n≤M:=by rw [←hmn];first|omega|(split<;>omega)
 have aA:=(ZrK ag.out.1 rfl);have I:=ag.out.2.2.2 (by trivial);have ap:=ag.out.2.1.b0;dsimp only at aA I ap;obtain ⟨jb,rfl⟩:∃ d:Nat,ib=d:=⟨ib.toNat,by omega⟩;rw [Int.toNat_natCast] at I;obtain ⟨x,hx⟩:∃ x,x=ZmS F 1:=⟨_,rfl⟩;have a2:0≤x:=by have h:=f.out.2.2.2.1;unfold Bd at h;rw [hx];unfold ZmS ZmR;omega
 have R:=Zh (And.intro hx a2);rw [←hx] at f ⊢;have HJ:=Zh (And.intro hn (And.intro aA I));clear hn aA I ap hx a2 hmn Y;go_wp2
 go_loopw [13] (fun i wr=>∃ (j:Nat) (C:List Int) (Z:Nat) (G g:Int) (aE:Nat),i=.int .i64 j∧Hid ((j:Int)≤max 0 n)∧Hid (EvA N wr B L ko kc (cdM m k) C (htA m k (p+1)) Z G g aE)∧Hid (FrE N w wr)∧Hid (Blk wr w2.heap.size #[.int .i64 35,.int .i64 0,.int .i64 0] 78)∧Hid (C.length=nlA m k∧sc≤Z∧cs≤g∧g-cs≤(j:Int)*x∧G≤lf∧lf-G≤g-cs)) (fun i _=>n.toNat-(intOf i).toNat)
 case atStart=>exact ⟨0,ls,sc,lf,cs,tn,rfl,(show ((0:Nat):Int)≤max 0 n by omega),bg.out,O.out,r.out,⟨f.out.2.2.2.2.2.1,Nat.le_refl _,by omega,by simp,by omega,by omega⟩⟩
 case round=>
  obtain ⟨j,C,Z,G,g,aE,rfl,bj,A,O,r,HC⟩:=hrel;rename World=>wo;obtain ⟨dj,W⟩:∃ d,d=(j:Int)*x:=⟨_,rfl⟩;have ab:=Zh (show C.length=nlA m k∧sc≤Z∧cs≤g∧g-cs≤dj∧G≤lf∧lf-G≤g-cs from by rw [W];exact HC.out);have aQ:0≤dj:=by rw [W];exact Int.mul_nonneg (by omega) R.out.2
  by_cases hj:(j:Int) < n
  ·have s:dj+x≤M*x:=by have h1:=Int.mul_le_mul_of_nonneg_right (show (j:Int)+1≤M by have:=HJ.out.1;omega) R.out.2;rw [Int.add_mul,Int.one_mul,←W] at h1;exact h1
   obtain ⟨y,hy⟩:∃ y,y=M*x:=⟨_,rfl⟩;rw [←hy] at s;have aO:y≤lf∧ZmT M x=y∧F+1=x:=by
    have h:=f.out;have h1:ZmT M x=min y ZmR:=by rw [hy];rfl
    rw [h1] at h ⊢;have h2:=R.out;have h3:=h.2.2.2.1;unfold Bd at h3;unfold ZmS at h2;unfold ZmR at *;omega
   have bP:IntKind.i64.wrap ((j:Int)+1)=((j+1:Nat):Int):=IntWalk.i64_in _ (by have:=HJ.out;omega);have af:=Zh (And.intro s (And.intro aO (And.intro ab.out (And.intro f.out.1 (And.intro aQ f.out.2.2.2.1)))));have bp:jb<C.length:=by rw [ab.out.1];exact HJ.out.2.2
   have bv:(jb:Int) < C.length:=by omega
   obtain ⟨ad,aw⟩:∃ ad,ad=(⟨L.l,0,none⟩:Addr):=⟨_,rfl⟩;obtain ⟨-,-,T,c1,-⟩:=A.out.cells;have o2:=(ZrP (p:=p) A.out.k u.out hp V.out).2.2;rw [u.out] at T;rw [←aw] at c1;have aa:=Zh aw;clear s aO aQ aw hy
   go_upto_region 13 with fail
   refine rO (Cs [(⟨B,1,none⟩,.slice (some ad) C.length C.length),(⟨B,0,none⟩,.slice (some ca) (cdM m k).length kc),(⟨(ca.add (p*3)).block,(ca.add (p*3)).off+2,none⟩,.int .i64 jb)]) (oL [0,1,2,3,4,5,6,7,8,9,10,11,12,13,114]) ⟨c1,T,o2,trivial⟩ ?_;clear T c1 o2
   repeat refine pO ?_
   refine oO fun Kv hK=>?_;obtain ⟨kl,l0,l1⟩:=A.out.drew.loc bp;rw [←aa.out] at l0 l1;have b:=Zh (A.out.drew.setL jb j);rw [←aa.out] at b;have bo:(ad.add jb).block<wo.drew.heap.size:=by rw [Zag,aa.out];exact kl
   go_simp;refine hK _ _ ⟨⟨by have:=b.out.1.cells.2.2.2.1;rw [List.length_set] at this;rw [aa.out] at this ⊢;exact this,by rw [←u.out];exact b.out.1.cells.2.2.1,(ZrP (p:=p) b.out.1.k u.out hp V.out).2.2,trivial⟩,?_⟩;clear hK Kv l0 l1 kl bo;refine Zd5 ?_;have bi:=Zh b.out.1;have r:=Zh (b.out.2.2 _ _ _ (by decide) (by decide) (by decide) (r.out.drew));have O:=Zh (O.out.drew.trans b.out.2);have x0:=r.out.cell 0 (v:=.int .i64 35) rfl;have x1:=r.out.cell 1 (v:=.int .i64 0) rfl;have x2:=r.out.cell 2 (v:=.int .i64 0) rfl
   go_upto_region 15 with (go_at_call 92;refine (bk.out _ _ _ _ _ _ bi.out (by rw [List.length_set];exact ab.out.1) (by have n:=af.out;omega)).mono ?_;rintro e w5 ⟨t,a4,a7,a6,aC,aL,a8,rfl,U,hq,hF⟩;have A:=Zh U;have ah:=Zh hq;have r:=Zh (hF.2 _ _ _ (by decide) (by decide) (by decide) r.out);have O:=Zh (O.out.trans hF);clear U hF hq x0 x1 x2;have x0:=r.out.cell 0 (v:=.int .i64 35) rfl;have x1:=r.out.cell 1 (v:=.int .i64 0) rfl;have x2:=r.out.cell 2 (v:=.int .i64 0) rfl)
   by_cases htz:t=0
   ·subst htz;have HZ:=Zh (ah.out.2.2.2.2.2.2.2 rfl);have aW:0<aC:=by have n:=af.out;have qq:=ah.out;unfold EvQ at qq;omega
    go_wp2_with (go_at_call 150;refine (bl.out _ _ _ _ _ _ _ A.out aW).mono ?_;rintro e w6 ⟨rfl,U,hF⟩;rw [show ZmU ⟨35,0,0⟩=1 from rfl] at U;have bh:=Zh U;have r:=Zh (hF.2 _ _ _ (by decide) (by decide) (by decide) r.out);have O:=Zh (O.out.trans hF);clear U hF x0 x1 x2)
    have e1:a7=htA m k (p+1):=HZ.out.1.trans (ae.out.2.2.1 (by trivial)).1;have e2:((j+1:Nat):Int)*x=dj+x:=by rw [Int.natCast_add,Int.natCast_one,Int.add_mul,Int.one_mul,W]
    have nn:=af.out;have qq:=ah.out;unfold EvQ at qq;refine ⟨⟨j+1,a4,a6,aC-1,aL+1,a8,rfl,(show ((j+1:Nat):Int)≤max 0 n by omega),by rw [←e1];exact bh.out,O.out,r.out,⟨qq.2.1,by omega,by omega,by rw [e2];omega,by omega,by omega⟩⟩,?_⟩;simp [intOf];omega
   ·go_wp2;go_ret2;have nn:=af.out;have qq:=ah.out;unfold EvQ at qq;exact ⟨t,_,a4,a7,a6,aC,aL,a8,rfl,A.out,⟨qq.1,qq.2.1,by omega,by omega,by rw [←R.out.1];omega,by omega,by omega,fun e=>absurd e htz⟩,fun e=>absurd e htz,O.out⟩
  ·go_wp2;go_ret2;have aU:(j:Int)≤M:=by have h1:=bj.out;have h2:=HJ.out.2.1;have h3:=HJ.out.1;omega
   have s:=Int.mul_le_mul_of_nonneg_right aU R.out.2;rw [←W] at s;have h9:dj≤ZmT M x∨g-cs≤ZmT M x:=by have h4:=A.out.iv;have h5:=f.out.1;unfold ZmT ZmR;generalize M*x=y at s;omega
   have cc:=ab.out;exact ⟨0,_,C,_,Z,G,g,aE,rfl,A.out,⟨by omega,cc.1,cc.2.1,cc.2.2.1,by rw [←R.out.1];omega,cc.2.2.2.2.1,cc.2.2.2.2.2,fun _=>⟨(ae.out.2.2.1 (by trivial)).2.symm,by omega,by omega⟩⟩,fun _=>rfl,O.out⟩
end
end
end
