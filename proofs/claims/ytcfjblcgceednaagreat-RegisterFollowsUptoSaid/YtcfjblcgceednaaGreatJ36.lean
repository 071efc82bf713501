import Derived.Test.YtcfjblcgceednaaGreatJ32
import Derived.Test.YtcfjblcgceednaaGreatJ33
set_option linter.all false
set_option maxRecDepth 100000
set_option maxHeartbeats 16000000
namespace Go.Proofs.YtcfjblcgceednaaGreat
theorem j19{p:Prop}(h:p:=by
 obtain rfl:=hR;exact ⟨rfl,Zaf HB.out HB5.out⟩):p:=h
section
open Go.RowKit
attribute [local go_sem] World.cell?_alloc_some
theorem Zq5 {w:World}{b:Nat}{t:Ty} (a:b=w.heap.size):Zar (w.alloc (.cells #[.int .i64 t.k,.int .i64 t.c] 76)) (some ⟨b,0,none⟩) 1 [t]:=by have:=ZdL (w:=w.alloc (.cells #[.int .i64 t.k,.int .i64 t.c] 76)) (b:=b) (xs:=#[.int .i64 t.k,.int .i64 t.c]) (t:=76) (Blk.new' _ _ a) (n:=1) (size:=2) rfl;exact this
end
section
open Go.RowKit
attribute [local go_sem] World.cell?_alloc_some
def Zq6 (o:Int):Bool:=decide ((0≤o∧o≤11)∨(27≤o∧o≤30)∨(33≤o∧o≤35))
theorem Zq7 (o:Int) (w:World):Calls Tryz.prog 86 #[.int .i64 o] w (Ret w (.bool (Zq6 o))):=by
 go_enter Tryz.func86,Tryz.ntmps86;go_wp2
 all_goals
  go_ret;refine ZcT (ZcX ?_) (Below.refl _ _);simp only [beq_iff_eq,beq_eq_false_iff_ne] at *;unfold Zq6
  first|exact (decide_eq_true (by omega)).symm|exact (decide_eq_false (by omega)).symm
theorem Zq8 (i:In3) (w:World):Calls Tryz.prog 85 #[ZI.i i] w (Ret w (.bool (!Zq6 i.op))):=by
 obtain ⟨d,a,b⟩:=i;dsimp only;have c:=Zh (fun w=>Zq7 d w);generalize Zq6 d=p at c ⊢;go_enter Tryz.func85,Tryz.ntmps85
 go_wp2_with (go_at_call 86;refine (c.out _).mono ?_;rintro e g ⟨rfl,f⟩)
 go_ret;exact ZcT rfl bE
def Zq9 (m:Md) (k:Nat):Bool:=([(m.me.getD k default).p,(m.me.getD k default).l,[(m.me.getD k default).r]].flatten.all fun t=>decide (t.k≤1))&&(decide ((m.me.getD k default).c<0)&&!(cdM m k).any fun i=>!Zq6 i.op)
def Zra (m:Md) (k:Int):Bool × Int:=if ZpR m k=true then (Zq9 m k.toNat,0) else (false,1)
theorem Zrb {m:Md}{k:Int} (h:¬ ZpR m k=true):(¬ (Zmg m).2.2=0)∨((Zmg m).2.2=0∧k<0)∨((Zmg m).2.2=0∧¬ k<0∧k ≥ m.me.length):=by
 unfold ZpR inV at h;simp only [Bool.and_eq_true,decide_eq_true_eq,not_and] at h;by_cases h1:(Zmg m).2.2=0
 ·have:=h h1;by_cases h0:k<0
  ·exact .inr (.inl ⟨h1,h0⟩)
  ·exact .inr (.inr ⟨h1,h0,by omega⟩)
 ·exact .inl h1
theorem Zrc (m:Md) (h:Hd) (k:Int) (w:World) (H:Zay w h m):Calls Tryz.prog 35 #[.agg (HM.mk h m),.int .i64 k] w (Zhf w (.bool (Zra m k).1) (.int .i64 (Zra m k).2)):=by
 obtain ⟨o,z⟩:∃ o,o=w.alloc (.cells (HM.mk h m) 26):=⟨_,rfl⟩;have HB:=Zh (show Below w.heap.size w o by rw [z];exact bE);have HX:=Zh (show Blk o w.heap.size (HM.mk h m) 26 by rw [z];exact Blk.new _ _ _);have Hj:=Zh (H.old HB.out);have HW:=Zh z;have Z:=Zmj o h m Hj.out;by_cases hr:ZpR m k=true
 ·obtain ⟨hm,h0,h1⟩:=ZpS hr;obtain ⟨n,rfl⟩:∃ n:Nat,k=n:=⟨k.toNat,by omega⟩;have hn:n<m.me.length:=by omega
  have hz:(Zmg m).2.2=0:=by unfold ZpR at hr;simp only [Bool.and_eq_true,decide_eq_true_eq] at hr;exact hr.1
  have he:Zra m n=(Zq9 m n,0):=by unfold Zra;rw [if_pos hr,Int.toNat_natCast]
  rw [he];obtain ⟨R,f⟩:∃ R,R=Zq9 m n:=⟨_,rfl⟩;rw [←f];unfold Zq9 at f;have ay:=ZfN hm hn;obtain ⟨aX,aY,aZ⟩:=ay.z;obtain ⟨⟨z0,z1,z2⟩,K⟩:∃ q,q=Zmg m:=⟨_,rfl⟩;rw [←K] at Z hz;dsimp only at hz;subst hz;have HV:=Zh Z;obtain ⟨p,V⟩:∃ p,p=cdM m n:=⟨_,rfl⟩;have P:=Zh (fun M (I:Below o.heap.size o M)=>(Hj.out.old I).mth hn);have HP:=Zh (fun M (I:Below o.heap.size o M)=>(Hj.out.old I).p n hn);have HL:=Zh (fun M (I:Below o.heap.size o M)=>(Hj.out.old I).l n hn);have HK:=Zh (fun M (I:Below o.heap.size o M)=>(Hj.out.old I).k n hn);have ar:cdM m n=(m.me.getD n default).k:=rfl;rw [ar] at f;generalize m.me.getD n default=x at *;generalize h.e n=y at P HP HL HK;obtain ⟨nm,c,pl,L,⟨G,F⟩,kl⟩:=x;obtain ⟨po,pc,lo,lc,ko,kc⟩:=y;dsimp only at P HP HL HK aX aY aZ f ⊢;have Q:=Zh f;clear f;have bk:¬ (n:Int) ≥ m.me.length:=by omega
  have bn:(n:Int) < m.me.length:=by omega
  have bj:¬ (n:Int) < 0:=by omega
  clear z H Z hr hm h0 h1 he ay K V ar;go_enter Tryz.func35,Tryz.ntmps35
  go_upto_region 1 with fail
  rw [←HW.out];obtain ⟨x0,x1,U,x3⟩:=Zj5 HX.out
  go_upto_region 4 with (go_at_call 82;refine HV.out.mono ?_;rintro e w1 ⟨rfl,r⟩;have g:=Zh r;clear r x0 x1 U x3;obtain ⟨x0,x1,U,x3⟩:=Zj5 (HX.out.old g.out))
  obtain ⟨ad,av,e0,e1,e2,e3,e4,e5,e6⟩:=P.out w1 g.out;rw [av] at U;clear av;obtain ⟨X,hX⟩:∃ X,X=w1.heap.size:=⟨_,rfl⟩;obtain ⟨C,E⟩:∃ C,C=w1.alloc (.cells #[.string nm,.int .i64 c,.slice po pl.length pc,.slice lo L.length lc,.int .i64 G,.int .i64 F,.slice ko kl.length kc] 81):=⟨_,rfl⟩;have aq:Below w1.heap.size w1 C:=by rw [E];exact bE
  have aA:Blk C X #[.string nm,.int .i64 c,.slice po pl.length pc,.slice lo L.length lc,.int .i64 G,.int .i64 F,.slice ko kl.length kc] 81:=by rw [E,hX];exact Blk.new _ _ _
  have d:=Zh aA;have N:=Zh (Zaf g.out aq);have l:=Zh (And.intro hX E);clear aq aA hX E
  go_upto_region 5 with fail
  rw [←l.out.1,←l.out.2];clear x0 x1 U x3 e0 e1 e2 e3 e4 e5 e6 l;have z1:=d.out.cell 1 (v:=.int .i64 c) rfl;have z2:=d.out.cell 2 (v:=.slice po pl.length pc) rfl;have z3:=d.out.cell 3 (v:=.slice lo L.length lc) rfl;have z4:=d.out.cell 4 (v:=.int .i64 G) rfl;have z5:=d.out.cell 5 (v:=.int .i64 F) rfl;have z6:=d.out.cell 6 (v:=.slice ko kl.length kc) rfl;obtain ⟨Y,hY⟩:∃ Y,Y=C.heap.size:=⟨_,rfl⟩;obtain ⟨w3,B⟩:∃ w3,w3=(C.alloc (.cells #[.int .i64 G,.int .i64 F] 76)).alloc (.cells #[.slice po pl.length pc,.slice lo L.length lc,.slice (some ⟨Y,0,none⟩) 1 1] 23):=⟨_,rfl⟩;have s:Below C.heap.size C w3:=by rw [B];exact bE
  have az:Znu w3 (some ⟨Y+1,0,none⟩) 3 [⟨po,pl.length,pc⟩,⟨lo,L.length,lc⟩,⟨some ⟨Y,0,none⟩,1,1⟩] [pl,L,[⟨G,F⟩]]:=by
   refine ⟨?_,rfl,fun i hi=>?_⟩
   ·rw [B];exact ZdL (w:=(C.alloc (.cells #[.int .i64 G,.int .i64 F] 76)).alloc _) (b:=Y+1) (xs:=#[.slice po pl.length pc,.slice lo L.length lc,.slice (some ⟨Y,0,none⟩) 1 1]) (t:=23) (Blk.new' (w:=C.alloc (.cells #[.int .i64 G,.int .i64 F] 76)) _ _ (by simp [hY])) (n:=3) (size:=1) rfl
   ·have aS:i=0∨i=1∨i=2:=by simp at hi;omega
    rcases aS with rfl|rfl|rfl
    ·exact ⟨rfl,(HP.out _ N.out).old s⟩
    ·exact ⟨rfl,(HL.out _ N.out).old s⟩
    ·refine ⟨rfl,?_⟩;have:=Zq5 (w:=C) (b:=Y) (t:=⟨G,F⟩) hY;rw [B];exact this.old bE
  have HC:=Zh (Znz w3 (some ⟨Y+1,0,none⟩) 3 3 _ _ az rfl (by decide) (by simp;omega));have al:=Zh (Zaf N.out s);have aO:=Zh (d.out.old s);have l:=Zh (And.intro hY B);generalize S:[pl,L,[⟨G,F⟩]].flatten=fl at HC Q;clear az s hY B;have aJ:=Zh (HK.out _ al.out);have aH:=Zh (show fl.length≤1000 by rw [←S];simp;omega);clear S
  go_upto_region 6 with (go_at_call 83;rw [←l.out.1,←l.out.2];refine HC.out.mono ?_;rintro e w4 ⟨⟨fo,fc,rfl,J⟩,D⟩;have HR:=Zh (Zar.of_own J);have O:=Zh (Zaf al.out D);have ap:=Zh (aO.out.old D);have aK:=Zh (aJ.out.old D);clear J D z1 z2 z3 z4 z5 z6)
  go_loopw [46] (fun i wr=>∃ j:Nat,j≤fl.length∧i=.int .i64 j∧Hid (∀ p,p<j→¬ (fl.getD p default).k > 1)∧Hid (Below w4.heap.size w4 wr)) (fun i _=>fl.length-(intOf i).toNat)
  case atStart=>exact ⟨0,Nat.zero_le _,rfl,fun p V=>by omega,Below.refl _ _⟩
  case round=>
   obtain ⟨j,hj,rfl,HN,a⟩:=hrel;rename World=>wo;have S:=aH.out;by_cases hjl:j<fl.length
   ·have aw:(j:Int) < fl.length:=by omega
    have bp:IntKind.i64.wrap ((j:Int)+1)=((j+1:Nat):Int):=IntWalk.i64_in _ (by omega);obtain ⟨ad,rfl,t0,t1⟩:=Zaz (HR.out.old a.out) hjl;obtain ⟨t,T⟩:∃ t,t=fl.getD j default:=⟨_,rfl⟩;rw [←T] at t0 t1;have bm:=Zac t0;have HT:=Zh T;clear T;obtain ⟨tk,tc⟩:=t;dsimp only at t0 t1;by_cases hk:tk > 1
    ·go_wp2;go_ret2;have f:=Q.out;rw [show fl.all (fun t=>decide (t.k≤1))=false from List.all_eq_false.2 ⟨_,ZfU default hjl,by rw [←HT.out];simpa using hk⟩,Bool.false_and] at f;obtain rfl:=f;exact ⟨rfl,Zaf HB.out (Zaf O.out (by have:=a.out;exact bE))⟩
    ·go_wp2;exact ⟨⟨j+1,hjl,rfl,fun p V=>by
      by_cases e:p=j
      ·subst e;rw [←HT.out];exact hk
      ·exact HN.out p (by omega),(by have:=a.out;exact bE)⟩,by simp [intOf];omega⟩
   ·obtain rfl:j=fl.length:=by omega
    have aw:¬ ((fl.length:Nat):Int) < fl.length:=by omega
    have f:=Q.out;rw [show fl.all (fun t=>decide (t.k≤1))=true from List.all_eq_true.2 fun t ht=>by
     obtain ⟨p,V,rfl⟩:=List.getElem_of_mem ht;have:=HN.out p V;simpa [V] using this,Bool.true_and] at f
    have z1:=(ap.out.old a.out).cell 1 (v:=.int .i64 c) rfl;have z6:=(ap.out.old a.out).cell 6 (v:=.slice ko kl.length kc) rfl;have u:=Zdn kl ko kc 85 #[] (fun i=>!Zq6 i.op) wo (by omega) (aK.out.old a.out) (fun A W=>by kernel_rfl) (fun k hk M I=>Zq8 _ _);obtain ⟨q,K⟩:∃ q,q=kl.any fun i=>!Zq6 i.op:=⟨_,rfl⟩;rw [←K] at u f;have am:=Zh u;have ao:=Zh f;clear u K f;by_cases hc:c<0
    ·go_wp2_with (go_at_call 84;refine am.out.mono ?_;rintro e w5 ⟨rfl,aR⟩)
     go_ret2;obtain rfl:R=!q:=by rw [ao.out,decide_eq_true hc,Bool.true_and]
     exact ⟨rfl,Zaf HB.out (Zaf O.out (Zaf a.out aR))⟩
    ·go_wp2;go_ret2;obtain rfl:R=false:=by rw [ao.out,decide_eq_false (show ¬ c<0 by omega),Bool.false_and]
     exact ⟨rfl,Zaf HB.out (Zaf O.out a.out)⟩
 ·have he:Zra m k=(false,1):=by unfold Zra;rw [if_neg hr]
  rw [he];dsimp only;rcases Zrb hr with hc|⟨hc,h0⟩|⟨hc,h0,h1⟩
  all_goals
   obtain ⟨⟨z0,z1,z2⟩,K⟩:∃ q,q=Zmg m:=⟨_,rfl⟩;rw [←K] at Z hc;dsimp only at hc;have HV:=Zh Z;clear z H Z hr he K;go_enter Tryz.func35,Tryz.ntmps35
   go_upto_region 1 with fail
   rw [←HW.out];obtain ⟨x0,x1,U,x3⟩:=Zj5 HX.out
   go_wp2_with (go_at_call 82;refine HV.out.mono ?_;rintro e w1 ⟨rfl,r⟩;have g:=Zh r;clear r x0 x1 U x3;obtain ⟨x0,x1,U,x3⟩:=Zj5 (HX.out.old g.out))
   go_ret2;exact ⟨rfl,Zaf HB.out g.out⟩
end
section
open Go.RowKit
attribute [local go_sem] World.cell?_alloc_some
def Zrd (p l:List Ty) (r c:Int) (k:List In3):Bool:=(p++l).all (fun t=>decide (t.k=1))&&(decide (c=-1)&&decide (r≤1))&&k.all fun i=>Zq6 i.op
theorem Zre {m:Md}{t:Ty} (h:Zfi m t):t.k=1∨t.k=2∨t.k=3∨t.k=4:=by
 unfold Zfi ZaF at h;split at h
 ·omega
 ·split at h
  ·simp only [Bool.and_eq_true,decide_eq_true_eq] at h;omega
  ·cases h
theorem Zrf {m:Md}{k:Nat} (a:ZfM m k):Zq9 m k=Zrd (m.me.getD k default).p (m.me.getD k default).l (m.me.getD k default).r.k (m.me.getD k default).c (cdM m k):=by
 have j:=a.c;have d:∀ L:List Ty,(∀ t∈L,Zfi m t)→(L.all fun t=>decide (t.k≤1))=L.all fun t=>decide (t.k=1):=fun L g=>by
  rw [Bool.eq_iff_iff,List.all_eq_true,List.all_eq_true];constructor
  ·intro q t b;have c:=q t b;have h:=Zre (g t b);simp at c ⊢;omega
  ·intro q t b;have c:=q t b;simp at c ⊢;omega
 have e:((cdM m k).all fun i=>Zq6 i.op)=!((cdM m k).any fun i=>!Zq6 i.op):=by rw [List.all_eq_not_any_not]
 have f:decide ((m.me.getD k default).c<0)=decide ((m.me.getD k default).c=-1):=by rw [decide_eq_decide];omega
 unfold Zq9 Zrd;rw [e,f];simp only [List.flatten_cons,List.flatten_nil,List.append_nil,List.all_append,List.all_cons,List.all_nil,Bool.and_true];rw [d _ a.p,d _ a.l];simp only [Bool.and_assoc,Bool.and_left_comm,Bool.and_comm]
theorem Zrg (m:Md) (h:Hd) (k:Int) (w:World) (H:Zay w h m):Calls Tryz.prog 36 #[.agg (HM.mk h m),.int .i64 k] w (Zhf w (.bool (Zra m k).1) (.int .i64 (Zra m k).2)):=by
 obtain ⟨z,F⟩:∃ z,z=w.alloc (.cells (HM.mk h m) 26):=⟨_,rfl⟩;have HB:=Zh (show Below w.heap.size w z by rw [F];exact bE);have HX:=Zh (show Blk z w.heap.size (HM.mk h m) 26 by rw [F];exact Blk.new _ _ _);have Hj:=Zh (H.old HB.out);have HW:=Zh F;have hv:=ZpY m h k z Hj.out;by_cases hr:ZpR m k=true
 ·rw [if_pos hr] at hv;obtain ⟨hm,h0,h1⟩:=ZpS hr;obtain ⟨n,rfl⟩:∃ n:Nat,k=n:=⟨k.toNat,by omega⟩;have hn:n<m.me.length:=by omega
  have ai:=ZfN hm hn;have he:Zra m n=(Zq9 m n,0):=by unfold Zra;rw [if_pos hr,Int.toNat_natCast]
  rw [he,Zrf ai];obtain ⟨R,hR⟩:∃ R,R=Zrd (m.me.getD n default).p (m.me.getD n default).l (m.me.getD n default).r.k (m.me.getD n default).c (cdM m n):=⟨_,rfl⟩;rw [←hR];obtain ⟨be,bf,bg⟩:=ai.z;have HV:=Zh hv;have V:=Zh (fun w' (hb:Below z.heap.size z w')=>(Hj.out.old hb).mth hn);have HP:=Zh (fun w' (hb:Below z.heap.size z w')=>(Hj.out.old hb).p n hn);have HL:=Zh (fun w' (hb:Below z.heap.size z w')=>(Hj.out.old hb).l n hn);have HK:=Zh (fun w' (hb:Below z.heap.size z w')=>(Hj.out.old hb).k n hn);have aK:cdM m n=(m.me.getD n default).k:=rfl;rw [aK] at hR;generalize m.me.getD n default=x at *;generalize h.e n=y at V HP HL HK;obtain ⟨nm,c,pl,f,⟨T,rc⟩,s⟩:=x;obtain ⟨po,pc,lo,lc,ko,kc⟩:=y;dsimp only at V HP HL HK be bf bg hR ⊢;have aD:=Zh hR;have bF:(n:Int) < m.me.length:=by omega
  clear hR F H hv hr hm h0 h1 he ai aK;go_enter Tryz.func36,Tryz.ntmps36
  go_upto_region 1 with fail
  rw [←HW.out];obtain ⟨x0,x1,x2,x3⟩:=Zj5 HX.out
  go_upto_region 4 with (go_at_call 87;refine HV.out.mono ?_;rintro e w1 ⟨rfl,C⟩;have A:=Zh C;clear C x0 x1 x2 x3;obtain ⟨x0,x1,x2,x3⟩:=Zj5 (HX.out.old A.out))
  obtain ⟨ad,aM,e0,e1,e2,e3,e4,e5,e6⟩:=V.out w1 A.out;rw [aM] at x2;clear aM;obtain ⟨X,hX⟩:∃ X,X=w1.heap.size:=⟨_,rfl⟩;obtain ⟨b,M⟩:∃ b,b=w1.alloc (.cells #[.string nm,.int .i64 c,.slice po pl.length pc,.slice lo f.length lc,.int .i64 T,.int .i64 rc,.slice ko s.length kc] 81):=⟨_,rfl⟩;have aJ:Below w1.heap.size w1 b:=by rw [M];exact bE
  have aR:Blk b X #[.string nm,.int .i64 c,.slice po pl.length pc,.slice lo f.length lc,.int .i64 T,.int .i64 rc,.slice ko s.length kc] 81:=by rw [M,hX];exact Blk.new _ _ _
  have I:=Zh aR;have aW:=Zh (Zaf A.out aJ);have ab:=Zh (And.intro hX M);clear aJ aR hX M
  go_upto_region 5 with fail
  rw [←ab.out.1,←ab.out.2];clear x0 x1 x2 x3 e0 e1 e2 e3 e4 e5 e6 ab;have z2:=I.out.cell 2 (v:=.slice po pl.length pc) rfl;have z3:=I.out.cell 3 (v:=.slice lo f.length lc) rfl;refine rO (Cs [(⟨X,2,none⟩,.slice po pl.length pc),(⟨X,3,none⟩,.slice lo f.length lc)]) (oL [1,2,4,5,100,103,106,7]) ⟨z2,z3,trivial⟩ ?_;have aX:=Zh (show Cs [(⟨X,2,none⟩,.slice po pl.length pc),(⟨X,3,none⟩,.slice lo f.length lc)] b.drew from ⟨z2,z3,trivial⟩);have au:=Zh aW.out.drew;clear z2 z3
  repeat refine pO ?_
  refine oO fun Kv O=>?_;go_simp;have D:Below b.drew.heap.size b.drew (b.alloc (.cells #[] 76)).drew:=(show Below b.drew.heap.size b.drew (b.drew.alloc (.cells #[] 76)) by exact bE);have ah:(b.alloc (.cells #[] 76)).drew.ownsRow b.drew.heap.size 76 2 (.slice (some ⟨b.drew.heap.size,0,none⟩) 0 0) 0 []:=World.ownsRow_made (e:=76) (base:=b.drew.heap.size) (size:=2) b.drew #[] 0 (Nat.le_refl _) (by decide) rfl;have U:=Zh (Zaf au.out D);have av:=Zh (Cs.keeps (Zox.of D) aX.out);have aE:=Zh (I.out.drew.old D);have E:=D.size;refine O _ _ ⟨av.out,?_⟩;obtain ⟨N,hN⟩:∃ N,N=b.drew.heap.size:=⟨_,rfl⟩;rw [←hN] at ah E;have aI:b.heap.size=N:=hN.symm;rw [aI];have W:=Zh ah;have ay:=Zh (show X<N by rw [hN];exact I.out.lt);have az:=Zh (show z.heap.size≤N by rw [hN];exact au.out.size);clear O Kv D ah hN aI;generalize (b.alloc (.cells #[] 76)).drew=w3 at U av aE W E ⊢
  repeat refine pO ?_
  refine oO fun Kv O=>?_;refine Zej (.tmp 21) (.tmp 23) 23 rfl N 76 2 16 Zff (.slice (some ⟨N,0,none⟩) 0 0) 0 [] rfl W.out po pl.length pc (Zak pl) rfl (HP.out _ U.out) (Zaq pl) (by omega) (by unfold maxLen;omega) E ?_;intro a4 aG w4 g J;rw [Nat.zero_add,List.nil_append] at g;rw [Nat.zero_add];have aA:=Zh g;have ar:=Zh (ZcV U.out J (fun j hj=>by cases hj;exact az.out));have ac:=Zh (aE.out.grownV J (fun e=>by have h1:=ay.out;have h2:X=N:=Option.some.inj e;omega));have a8:=Nat.le_trans E J.size;refine O _ _ ⟨⟨ac.out.cell 2 rfl,ac.out.cell 3 rfl,trivial⟩,?_⟩;clear O Kv g J E
  repeat refine pO ?_
  refine oO fun Kv O=>?_;have u:=aA.out;refine Zej (.tmp 24) (.tmp 26) 23 rfl N 76 2 16 Zff (.slice a4 pl.length aG) pl.length (Zak pl) rfl u lo f.length lc (Zak f) rfl (HL.out _ ar.out) (Zaq f) (by omega) (by unfold maxLen;omega) a8 ?_;intro bu bm w5 r af;have ae:Zak pl++Zak f=Zak (pl++f):=(Zan pl f).symm;have ag:pl.length+f.length=(pl++f).length:=List.length_append.symm;rw [ae,ag] at r;rw [ag];have aC:=Zh (Zar.of_own r);have HB5:=Zh (ZcV ar.out af (fun j hj=>Nat.le_trans az.out (u.lt j hj).1));have B:=Zh (ac.out.grownV af (fun e=>by have:=(u.lt _ e.symm).1;have:=ay.out;omega));refine O _ _ ⟨⟨B.out.cell 2 rfl,B.out.cell 3 rfl,trivial⟩,?_⟩;clear O Kv r af u ae;have aw:=Zh (show (pl++f).length≤1000 by omega);have aa:=Zh (show R=((pl++f).all (fun t=>decide (t.k=1))&&(decide (c=-1)&&decide (T≤1))&&s.all fun i=>Zq6 i.op) from aD.out);clear ag aA W aD;generalize pl++f=fl at aC aw aa ⊢
  repeat refine pO ?_
  refine Zd5 ?_;have aZ:=Zh (HK.out _ HB5.out)
  go_upto_region 7 with fail
  go_loopw [9] (fun i wr=>∃ j:Nat,j≤fl.length∧i=.int .i64 j∧Hid (∀ p,p<j→(fl.getD p default).k=1)∧wr=w5) (fun i _=>fl.length-(intOf i).toNat)
  case atStart=>exact ⟨0,Nat.zero_le _,rfl,fun p K=>by omega,rfl⟩
  case round=>
   obtain ⟨j,hj,rfl,HN,rfl⟩:=hrel;rename World=>wo;have ae:=aw.out;by_cases hjl:j<fl.length
   ·have aN:(j:Int) < fl.length:=by omega
    have bG:IntKind.i64.wrap ((j:Int)+1)=((j+1:Nat):Int):=IntWalk.i64_in _ (by omega);obtain ⟨ad,rfl,t0,t1⟩:=Zaz aC.out hjl;obtain ⟨t,aj⟩:∃ t,t=fl.getD j default:=⟨_,rfl⟩;rw [←aj] at t0 t1;have HT:=Zh aj;clear aj;obtain ⟨tk,tc⟩:=t;dsimp only at t0 t1;by_cases hk:tk=1
    ·subst hk;go_wp2;exact ⟨⟨j+1,hjl,rfl,fun p K=>by
      by_cases e:p=j
      ·subst e;rw [←HT.out]
      ·exact HN.out p (by omega),by trivial⟩,by simp [intOf];omega⟩
    ·go_wp2;go_ret2;have hR:=aa.out;rw [show fl.all (fun t=>decide (t.k=1))=false from List.all_eq_false.2 ⟨_,ZfU default hjl,by rw [←HT.out];simpa using hk⟩,Bool.false_and,Bool.false_and] at hR;exact j19
   ·obtain rfl:j=fl.length:=by omega
    have aN:¬ ((fl.length:Nat):Int) < fl.length:=by omega
    have hR:=aa.out;rw [show fl.all (fun t=>decide (t.k=1))=true from List.all_eq_true.2 fun t ht=>by
     obtain ⟨p,K,rfl⟩:=List.getElem_of_mem ht;have:=HN.out p K;simpa [K] using this,Bool.true_and] at hR
    have z1:=B.out.cell 1 (v:=.int .i64 c) rfl;have z4:=B.out.cell 4 (v:=.int .i64 T) rfl;have z6:=B.out.cell 6 (v:=.slice ko s.length kc) rfl;have G:=Zh hR;clear hR;by_cases hc:c=-1
    ·subst hc;by_cases hk1:T≤1
     ·have a6:¬ T > 1:=by omega
      go_upto_region 14 with fail
      clear z1 z4
      go_loopw [10] (fun i wr=>∃ q:Nat,q≤s.length∧i=.int .i64 q∧Hid (∀ p,p<q→Zq6 (s.getD p default).op=true)∧wr=wo) (fun i _=>s.length-(intOf i).toNat)
      case atStart=>exact ⟨0,Nat.zero_le _,rfl,fun p K=>by omega,rfl⟩
      case round=>
       obtain ⟨q,L,rfl,HQ,rfl⟩:=hrel;by_cases hql:q<s.length
       ·have aQ:(q:Int) < s.length:=by omega
        have bH:IntKind.i64.wrap ((q:Int)+1)=((q+1:Nat):Int):=IntWalk.i64_in _ (by omega);obtain ⟨kd,rfl,o0,-,-⟩:=ZaA aZ.out hql;obtain ⟨o,ho⟩:∃ o,o=(s.getD q default).op:=⟨_,rfl⟩;rw [←ho] at o0;have HO:=Zh ho;clear ho;have aP:Zq6 o=decide ((0≤o∧o≤11)∨(27≤o∧o≤30)∨(33≤o∧o≤35)):=rfl;have aB:=Zh aP;clear aP;by_cases L:(0≤o∧o≤11)∨(27≤o∧o≤30)∨(33≤o∧o≤35)
        ·have Y:=Zh (show Zq6 o=true by rw [aB.out];exact decide_eq_true L);have Z:=Zh L;clear L;go_wp2
         all_goals
          have L:=Z.out;simp only [beq_iff_eq,beq_eq_false_iff_ne] at *
          first
           | (exfalso;omega)
           | exact ⟨⟨q+1,hql,rfl,fun p K=>by
             by_cases e:p=q
             ·subst e;rw [←HO.out];exact Y.out
             ·exact HQ.out p (by omega),by trivial⟩,by simp [intOf];omega⟩
        ·have Y:=Zh (show Zq6 o=false by rw [aB.out];exact decide_eq_false L);have Z:=Zh L;clear L;go_wp2
         all_goals
          have L:=Z.out;simp only [beq_iff_eq,beq_eq_false_iff_ne] at *
          first
           | (exfalso;omega)
           | skip
         go_ret2;have hR:=G.out;rw [show (s.all fun i=>Zq6 i.op)=false from List.all_eq_false.2 ⟨_,ZfU default hql,by rw [←HO.out,Y.out];decide⟩,Bool.and_false] at hR;exact j19
       ·obtain rfl:q=s.length:=by omega
        have aQ:¬ ((s.length:Nat):Int) < s.length:=by omega
        go_wp2;go_ret2;have hR:=G.out;rw [show (s.all fun i=>Zq6 i.op)=true from List.all_eq_true.2 fun t ht=>by
         obtain ⟨p,K,rfl⟩:=List.getElem_of_mem ht;have:=HQ.out p K;simpa [K] using this,decide_eq_true hk1] at hR
        obtain rfl:R=true:=by rw [hR];simp
        exact ⟨rfl,Zaf HB.out HB5.out⟩
     ·have a6:T > 1:=by omega
      go_wp2;go_ret2;have hR:=G.out;rw [decide_eq_false (show ¬ T≤1 by omega),Bool.and_false,Bool.false_and] at hR;exact j19
    ·go_wp2;go_ret2;have hR:=G.out;rw [decide_eq_false hc,Bool.false_and,Bool.false_and] at hR;exact j19
 ·have he:Zra m k=(false,1):=by unfold Zra;rw [if_neg hr]
  rw [he];rw [if_neg hr] at hv;have HV:=Zh hv;clear F H hv hr he;go_enter Tryz.func36,Tryz.ntmps36
  go_upto_region 1 with fail
  rw [←HW.out];obtain ⟨x0,x1,x2,x3⟩:=Zj5 HX.out
  go_wp2_with (go_at_call 87;refine HV.out.mono ?_;rintro e w1 ⟨rfl,C⟩;have A:=Zh C;clear C x0 x1 x2 x3)
  go_ret2;exact ⟨rfl,Zaf HB.out A.out⟩
end
