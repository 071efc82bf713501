import Derived.Test.YtcfjblcgceednaaGreatL37
import Derived.Test.YtcfjblcgceednaaGreatL38
set_option linter.all false
set_option maxRecDepth 100000
set_option maxHeartbeats 16000000
namespace Go.Proofs.YtcfjblcgceednaaGreat
theorem j6{p:Prop}(h:p:=by
 go_enter Tryz.func47,Tryz.ntmps47
 go_wp2_with (go_at_call 87;refine HA.out.mono ?_;rintro e w1 ⟨rfl,hb1⟩)
 all_goals
  go_ret2;exact Zhg rfl rfl (Zaf HB0.out hb1)):p:=h
theorem j11{p:Prop}(h:p:=by
 clear hl hlq
 go_wp2_with fail
 refine ⟨⟨p+1,u,hpl,rfl,rfl,?_,HBp.out⟩,by simp [intOf];omega⟩;show u=max v (Zpo (gC m) (cdM m j) lock 0 (p+1));have hu:=HU.out;have h0:=Zps (g:=gC m) (l:=cdM m j) (lock:=lock) 0 p;rw [HSn.out,HLq.out];omega):p:=h
section
open Go.RowKit
theorem Zs7 {m:Md}{k:Int} (h:ZoS m k=true):(Zmg m).2.2=0:=by unfold ZoS at h;simp only [Bool.and_eq_true,decide_eq_true_eq] at h;exact h.1
theorem Zs8 {m:Md}{k:Nat} (h:(Zmg m).2.2=0) (a:k<m.me.length):Zm1 (gR false ZmV m) m k=Zm1 (gW ZmV m) m k:=
 Zsz (Zsy h).1 (Zsy h).2 (ZsV h).wt (by decide) (fun q=>by cases q) (k+1) k (by omega) a
end
section
open Go.RowKit
theorem Zs9 {m:Md} (h:(Zmg m).2.2=0) (t:Int):Pl false (Zsb (Zm0 (gR false ZmV m) m m.me.length) t):=by
 unfold Zsb;by_cases hj:t.toNat<m.me.length
 ·rw [Zm3 _ _ hj,Zs8 h hj];exact Pl.of (ZoM (Zsy h).1 (x:=ZmV) (fun k b i a=>ZoH ((ZfN (Zsy h).1 b).i i a).1) (by decide) (t.toNat+1) _ (by omega))
 ·rw [List.getD_eq_getElem?_getD,List.getElem?_eq_none (by rw [Zm2];omega)];exact Pl.of (by unfold Bd;dsimp only [Option.getD];omega)
end
section
open Go.RowKit
attribute [local go_sem] World.cell?_alloc_some
theorem Zta {m:Md} (h:(Zmg m).2.2=0) {k:Nat} (e:k<m.me.length) {a b:Nat} (g:Seg (cdM m k) a b):WA (GR ZmV false m (Zm0 (gR false ZmV m) m m.me.length)) (cdM m k) a b 0=WA (gC m) (cdM m k) a b 0:=by have f:=(Zsy h).1;have c:=ZfN f e;refine (Zrl (k:=k) (fun i d=>c.i i d) ((Zsy h).2 k e) (fun i d=>ZoH (c.i i d).1) (by decide) (fun q=>by cases q) (T':=fun t=>Zm1 (gW ZmV m) m t.toNat) (fun t j l=>?_) (fun t=>Zp9 f t.toNat) g 0 (by unfold Bd;omega)).1;unfold Zsb;rw [Zm3 _ _ (by omega),Zs8 h (by omega)]
theorem Ztb {m:Md}{c:List In3}:Zr4 4 m ZqV c:=fun i g w h H=>by
 obtain ⟨q,e⟩:∃ q,q=ZqV.wt i:=⟨_,rfl⟩
 rw [←e]
 have d:=Zh (show q=if i.op=27 then 1 else 0 from e)
 clear e g
 obtain ⟨f,a,b⟩:=i
 dsimp only at d ⊢
 by_cases ho:f=27
 ·subst ho
  go_enter Tryz.func289,Tryz.ntmps289
  go_wp2
  go_ret
  exact ZcT (ZcY (by rw [d.out];rfl)) bE
 ·have j:(f == 27)=false:=by simpa using ho
  go_enter Tryz.func289,Tryz.ntmps289;go_wp2;go_ret;exact ZcT (ZcY (by rw [d.out,if_neg ho])) bE
theorem Ztc {m:Md} (h:(Zmg m).2.2=0):MCx 4 ZqV m:=
 have a:=Zsy h
 ⟨a.1,a.2,fun _ _=>Ztb,fun _ _ i _=>ZqW i,rfl,rfl⟩
theorem Ztd {m:Md}{k:Nat} (h:(Zmg m).2.2=0) (a:k<m.me.length):Zm1 (gR false ZqV m) m k=Zm1 (gW ZqV m) m k:=
 Zsz (Zsy h).1 (Zsy h).2 (Ztc h).wt (by decide) (fun q=>by cases q) (k+1) k (by omega) a
theorem Zte (m:Md) (h:Hd) (k:Int) (w:World) (H:Zay w h m):Calls Tryz.prog 51 #[.agg (HM.mk h m),.int .i64 k] w (Zhf w (.int .i64 (ZqZ m k).1) (.int .i64 (ZqZ m k).2)):=by
 have HB0:=Zh (show Below w.heap.size w (w.alloc (.cells (HM.mk h m) 26)) by exact bE);have q:=Zh (Zpk m h k _ (H.old HB0.out));obtain ⟨A,a⟩:∃ r,r=(ZqZ m k).1:=⟨_,rfl⟩;obtain ⟨C,b⟩:∃ r,r=(ZqZ m k).2:=⟨_,rfl⟩;rw [←a,←b];have x:=Zh (Blk.new w (HM.mk h m) 26);have D:=Zh H;rcases hq:ZoS m k with _|_
 ·rw [hq] at q;have l:A=0:=by rw [a];unfold ZqZ;rw [hq];rfl
  have n:C=1:=by rw [b];unfold ZqZ;rw [hq];rfl
  have HE:=Zh (And.intro l n);clear H a b hq l n;go_enter Tryz.func51,Tryz.ntmps51
  go_wp2_with (go_at_call 87;refine q.out.mono ?_;rintro e M ⟨rfl,hb1⟩)
  exact j22
 ·rw [hq] at q;have i:=Zs7 hq;obtain ⟨K,I,J⟩:=ZoT hq;obtain ⟨k,rfl⟩:∃ d:Nat,k=d:=⟨k.toNat,by omega⟩;have f:k<m.me.length:=by omega
  have z:(k:Int) < m.me.length:=by omega
  obtain ⟨v,t⟩:∃ v,v=Zm1 (gW ZqV m) m k:=⟨_,rfl⟩;have l:A=if 1000000000<v then 0 else v:=by rw [a,t];unfold ZqZ;rw [hq,if_pos rfl,Int.toNat_natCast];split<;>rfl
  have n:C=if 1000000000<v then 6 else 0:=by rw [b,t];unfold ZqZ;rw [hq,if_pos rfl,Int.toNat_natCast];split<;>rfl
  have HE:=Zh (And.intro l n);have E:=Zh (fun w' G=>ZsX (Ztc i) false h w' (D.out.old (w':=w') G));have F:=Zh (show (Zm0 (gR false ZqV m) m m.me.length).getD k 0=v by rw [Zm3 _ _ f,Ztd i f,t]);clear H a b hq l n t K i;go_enter Tryz.func51,Tryz.ntmps51
  go_wp2_with (first
   | (go_at_call 87;refine q.out.mono ?_;rintro e M ⟨rfl,hb1⟩;have j:=Zh (Zaf HB0.out hb1);have c:=Zh (x.out.old hb1);have N:=c.out.cell 0 (v:=.slice h.co m.cl.length h.cc) rfl;have O:=c.out.cell 1 (v:=.slice h.so m.st.length h.sc) rfl;have P:=c.out.cell 2 (v:=.slice h.eo m.me.length h.ec) rfl;have Q:=c.out.cell 3 (v:=.int .i64 m.sel) rfl;clear hb1)
   | (go_at_call 95;refine (E.out _ j.out).mono ?_;rintro e T ⟨⟨B,g,rfl,s⟩,o⟩;have u:=Zh (Zaf j.out o);have S:=s.tb.cell 6 (v:=.slice (some ⟨g,0,none⟩) m.me.length m.me.length) rfl;have R:=s.tb.lt;have L:=ZpP s.nb (k:=k) (by rw [Zm2];exact f);rw [F.out] at L;clear o s N O P Q)
   | (go_at_call 96;refine (Zrv v _).mono ?_;rintro e U ⟨rfl,y⟩;rw [←HE.out.1,←HE.out.2]))
  go_ret2;exact Zhg rfl rfl (Zaf u.out y)
def RdP (w:World) (m:Md) (k:Nat):Ending→World→Prop:=fun e w'=>(∃ (o1:Option Addr) (c1:Nat) (me:List Int),e=.returned (.slice o1 me.length c1)∧Zar w' o1 c1 me∧Zsl m k me∧me.length≤16)∧Below w.heap.size w w'
theorem Ztf (m:Md) (h:Hd) (k:Nat) (w:World) (H:Zay w h m) (l:Za1 m=true) (q:k<m.me.length):Calls Tryz.prog 164 #[.agg (HM.mk h m),.int .i64 k] w (RdP w m k):=by
 have a:=Zh (show Below w.heap.size w ((w.alloc (.cells (HM.mk h m) 26)).alloc (.cells #[.int .i64 k] 3)) by exact bE);have f:=Zh (ZsP m h k _ (w.heap.size+1) 1 (H.old a.out) l q (show Zar _ (some ⟨w.heap.size+1,0,none⟩) 1 [(k:Int)] from ZdL (n:=1) (size:=1) (Blk.new' #[.int .i64 k] 3 (by simp)) rfl));clear H l;go_enter Tryz.func164,Tryz.ntmps164
 go_wp2_with (go_at_call 111;refine f.out.mono ?_;rintro e A ⟨⟨s,y,z,o,t,u,v,x,r,rfl,j,g,i⟩,b⟩;have d:=Zh (And.intro j (And.intro g i));have c:=Zh (Zaf a.out b);clear j g i b)
 go_ret;exact ⟨⟨s,o,r,rfl,d.out.1,d.out.2.1,d.out.2.2⟩,c.out⟩
def Ztg (w:World) (m:Md) (k:Nat) (lock:Int):Ending→World→Prop:=fun e w'=>(∃ v,Zsn m k lock v∧Bd v∧e=.returned (.int .i64 v))∧Below w.heap.size w w'
theorem Zth (m:Md) (h:Hd) (k:Nat) (lock:Int) (w:World) (H:Zay w h m) (r:(Zmg m).2.2=0) (hk:k<m.me.length):Calls Tryz.prog 106 #[.agg (HM.mk h m),.int .i64 k,.int .i64 lock] w (Ztg w m k lock):=by
 have hv:=(Zsy r).1;obtain ⟨C,A⟩:∃ C,C=w.alloc (.cells (HM.mk h m) 26):=⟨_,rfl⟩;have HB:=Zh (show Below w.heap.size w C by rw [A];exact bE);have HX:=Zh (show Blk C w.heap.size (HM.mk h m) 26 by rw [A];exact Blk.new _ _ _);have Hj:=Zh (H.old HB.out);have HW:=Zh A;have HT:=Zh (ZsX (ZsV r) false h C Hj.out);have aN:=Zh (fun y (hb:Below C.heap.size C y)=>Ztf m h k y (Hj.out.old hb) hv hk);have aK:=Zh (fun B g j (hj:j<m.me.length) y a b (hs:Seg (cdM m j) a b) hR=>by have:=ZsG (B:=B) (g:=g) (h:=h) ((ZsV r).at (l:=false) (L:=Zm0 (gR false ZmV m) m m.me.length) hj (Zs9 r)) (cdM m j).length a b (by omega) hs y hR;rwa [Zta r hj hs] at this);have M:=Zh hv;clear A H hv r;go_enter Tryz.func106,Tryz.ntmps106
 go_upto_region 1 with fail
 rw [←HW.out];obtain ⟨x0,x1,x2,x3⟩:=Zj5 HX.out
 go_upto_region 4 with (first
  | (go_at_call 95;refine HT.out.mono ?_;rintro e w2 ⟨⟨B,g,rfl,hR⟩,ao⟩;have F:=Zh ao;have aL:=Zh hR;clear ao hR x0 x1 x2 x3;obtain ⟨x0,x1,x2,x3⟩:=Zj5 (HX.out.old F.out))
  | (go_at_call 164;refine (aN.out _ F.out).mono ?_;rintro e w3 ⟨⟨o1,c1,s,rfl,E,av,bh⟩,N⟩;have G:=Zh (Zaf F.out N);have aM:=Zh (aL.out.old N);have am:=Zh E;have I:=Zh av;clear N E av x0 x1 x2 x3))
 go_wp2_with fail
 go_loopw [9,10] (fun o i wr=>∃ (q:Nat) (v:Int),q≤s.length∧i=.int .i64 q∧o=.int .i64 v∧Hid (v=Zqj m lock (s.take q))∧Hid (Below w3.heap.size w3 wr)) (fun _ i _=>s.length-(intOf i).toNat)
 case atStart=>exact ⟨0,0,Nat.zero_le _,rfl,rfl,rfl,Below.refl _ _⟩
 case round=>
  obtain ⟨q,v,hq,rfl,rfl,K,z⟩:=hrel;rename World=>wq;by_cases hql:q<s.length
  ·have ax:(q:Int) < s.length:=by omega
   have bk:IntKind.i64.wrap ((q:Int)+1)=((q+1:Nat):Int):=IntWalk.i64_in _ (by omega);obtain ⟨td,rfl,t0⟩:=ZaB (am.out.old z.out) hql;obtain ⟨j,U,ay⟩:=(I.out _).1 (ZfU (0:Int) hql);have ab:s.take (q+1)=s.take q++[(j:Int)]:=by rw [List.take_succ_eq_append_getElem hql,←U];congr 1;simp [hql]
   rw [U] at t0;have n:j<m.me.length:=by have:=ay.le M.out hk;omega
   have a7:(j:Int) < m.me.length:=by omega
   have bg:(cdM m j).length≤120:=(ZfN M.out n).z.2.2;have ah:=Zh (Zaf G.out z.out);obtain ⟨ad,au,-,-,-,-,-,-,e6⟩:=(Hj.out.old ah.out).mth n;rw [show (m.me.getD j default).k.length=(cdM m j).length from rfl] at e6;have x2:=(HX.out.old ah.out).cell 2 (v:=.slice h.eo m.me.length h.ec) rfl;rw [au] at x2;have ai:=Zh (show ∀ y,Below C.heap.size C y→Zar y (h.e j).ko (h.e j).kc (cdM m j) from fun y hb=>(Hj.out.old hb).k j n);have aO:=Zh (show Seg (cdM m j) 0 (cdM m j).length from Zmq (ZfN M.out n).n);have aF:=Zh (show ZaV false (cdM m j)=0 from (ZoW M.out wq).code n);have bd:=Zh ab;have aI:=Zh (show max v (Zp7 m lock j)=Zqj m lock (s.take (q+1)) by rw [ab,Zqk,←K.out,Int.toNat_natCast]);have aG:=Zh (fun a b (hs:Seg (cdM m j) a b)=>Zqb M.out n hs (acc:=0) (by unfold Bd;omega));have aJ:=Zh (aK.out B g j n);clear U ay ab au
   go_upto_region 7 with fail
   refine rO (Cs [(⟨w.heap.size,2,none⟩,.slice (some ad) m.me.length h.ec),(td.add q,.int .i64 j),(⟨(ad.add (j*7)).block,(ad.add (j*7)).off+6,none⟩,.slice (h.e j).ko (cdM m j).length (h.e j).kc)]) (oL [0,1,2,3,4,5,6,7,8,9]) ⟨x2,t0,e6,trivial⟩ ?_;clear x2 t0 e6
   repeat refine pO ?_
   refine Zd5 ?_;have bj:0≤v:=by rw [K.out];exact Zso.1
   go_wp2_with fail
   go_loopw [9,12] (fun o i wr=>∃ (p:Nat) (u:Int),p≤(cdM m j).length∧i=.int .i64 p∧o=.int .i64 u∧Hid (u=max v (Zpo (gC m) (cdM m j) lock 0 p))∧Hid (Below w3.heap.size w3 wr)) (fun _ i _=>(cdM m j).length-(intOf i).toNat)
   case atStart=>exact ⟨0,v,Nat.zero_le _,rfl,rfl,by show v=max v (Zpo (gC m) (cdM m j) lock 0 0);rw [Zpr];omega,z.out.drew⟩
   case round=>
    obtain ⟨p,u,hp,rfl,rfl,HU,HBp⟩:=hrel;rename World=>wp;have D:=Zh (Zaf G.out HBp.out);by_cases hpl:p<(cdM m j).length
    ·have aw:(p:Int) < (cdM m j).length:=by omega
     have aY:IntKind.i64.wrap ((p:Int)+1)=((p+1:Nat):Int):=IntWalk.i64_in _ (by omega);obtain ⟨kd,V,o0,o1,o2⟩:=ZaA (ai.out _ D.out) hpl;obtain ⟨lv,X⟩:∃ l,l=lkV (gC m) (cdM m j) lock p:=⟨_,rfl⟩;have aa:=Zpw (g:=gC m) (l:=cdM m j) (lock:=lock) (Nat.zero_le p);rw [←X] at aa;have HSn:=Zh aa;have aj:=Zh X;have aH:=Zh V;obtain ⟨it,T⟩:∃ q,q=(cdM m j).getD p default:=⟨_,rfl⟩;rw [←T] at o0 o1 o2;have J:=Zh T;obtain ⟨op,ia,ib⟩:=it;dsimp only at o0 o1 o2;rw [V];have bi:0≤u:=by rw [HU.out];omega
     clear X aa T V;by_cases hl:op=31∧ia=lock
     ·obtain ⟨rfl,W⟩:=hl;have W:=W.symm;subst W;obtain ⟨en,Y,Z⟩:=Zp6 (l:=cdM m j) aO.out hpl (by rw [←J.out]);have hlq:lv=ZmS (WA (gC m) (cdM m j) (p+1) en 0) 1:=by rw [aj.out];unfold lkV;rw [←J.out,if_pos ⟨rfl,rfl⟩,Zmn Y]
      have O:=aG.out _ _ Z;obtain ⟨fv,R⟩:∃ f,f=WA (gC m) (cdM m j) (p+1) en 0:=⟨_,rfl⟩;rw [←R] at hlq O;have aE:=Zh O;have HLq:=Zh hlq;have ak:=Zh (Zrq (cdM m j) (h.e j).ko (h.e j).kc wp (ai.out _ D.out) aF.out Y);have al:=Zh (fun y hR=>by have:=aJ.out y (p+1) en Z hR;rwa [←R] at this);rw [aH.out] at ak al;have a8:IntKind.i64.wrap ((p:Int)+1)=(((p+1:Nat):Nat):Int):=aY;clear Y Z hlq O R
      go_wp2_with (first
       | (go_at_call 165;refine ak.out.mono ?_;rintro e w4 ⟨rfl,ap⟩;have ag:=Zh (Zaf HBp.out ap);clear ap)
       | (go_at_call 155;refine (al.out _ (aM.out.old ag.out)).mono ?_;rintro e w5 ⟨rfl,aq⟩;have aC:=Zh (Zaf ag.out aq);clear aq)
       | (go_at_call 166;refine (Zrr fv 1 _ (by have:=aE.out;unfold Bd at this;omega) (by omega)).mono ?_;rintro e w6 ⟨rfl,ar⟩;rw [←HLq.out];have aD:=Zh (Zaf aC.out ar);clear ar))
      all_goals
       refine ⟨⟨p+1,_,hpl,rfl,rfl,?_,aD.out⟩,by simp [intOf];omega⟩;show _=max v (Zpo (gC m) (cdM m j) lock 0 (p+1));rw [HSn.out];have hu:=HU.out
       all_goals (first|omega|((repeat' split)<;>omega))
     ·have hlq:lv=0:=by rw [aj.out];unfold lkV;rw [←J.out,if_neg hl]
      have HLq:=Zh hlq;by_cases h31:op=31
      ·have aU:¬ ia=lock:=fun e=>hl ⟨h31,e⟩;have aV:(ia == lock)=false:=by simpa using aU
       subst h31;exact j11
      ·have aV:(op == 31)=false:=by simpa using h31
       exact j11
    ·have aw:¬ (p:Int) < (cdM m j).length:=by omega
     obtain rfl:p=(cdM m j).length:=by omega
     go_wp2_with fail
     refine ⟨⟨q+1,u,hql,rfl,rfl,?_,HBp.out⟩,by simp [intOf];omega⟩;show u=Zqj m lock (s.take (q+1));rw [←aI.out,HU.out];rfl
  ·have ax:¬ (q:Int) < s.length:=by omega
   have ac:=K.out;rw [List.take_of_length_le (by omega)] at ac;have an:=Zh ac;clear ac;go_wp2;go_ret;exact ⟨⟨v,⟨s,I.out,an.out⟩,by
    rw [an.out];refine Zsq M.out fun x hx=>?_;obtain ⟨j,rfl,hj⟩:=(I.out x).1 hx;have:=hj.le M.out hk;omega,rfl⟩,Zaf HB.out (Zaf G.out z.out)⟩
end
section
open Go.RowKit
attribute [local go_sem] World.cell?_alloc_some
theorem Zti (m:Md) (h:Hd) (k lock:Int) (w:World) (H:Zay w h m) (b:ZoS m k=false∨lock<0∨6≤lock):Calls Tryz.prog 47 #[.agg (HM.mk h m),.int .i64 k,.int .i64 lock] w (Zhf w (.int .i64 0) (.int .i64 1)):=by
 have a:Below w.heap.size w (w.alloc (.cells (HM.mk h m) 26)):=by exact bE
 have HA:=Zh (Zpk m h k _ (H.old a));have HB0:=Zh a;clear a H;cases hq:ZoS m k
 ·rw [hq] at HA;clear b;exact j6
 ·rw [hq] at HA b;have c:lock<0∨(¬ lock<0∧6≤lock):=by rcases b with q|q|q;cases q;exact .inl q;omega
  clear b;rcases c with c|⟨c,hl2⟩
  ·exact j6
  ·have d:lock ≥ 6:=hl2;exact j6
theorem Ztj (m:Md) (h:Hd) (k:Nat) (lock:Int) (w:World) (H:Zay w h m) (s:ZoS m k=true) (J:k<m.me.length) (K:0≤lock∧lock<6):Calls Tryz.prog 47 #[.agg (HM.mk h m),.int .i64 k,.int .i64 lock] w (Zss w m k lock):=by
 obtain ⟨c,a⟩:∃ c,c=w.alloc (.cells (HM.mk h m) 26):=⟨_,rfl⟩;have A:=Zh (show Below w.heap.size w c by rw [a];exact bE);have C:=Zh (show Blk c w.heap.size (HM.mk h m) 26 by rw [a];exact Blk.new _ _ _);have B:=Zh (H.old A.out);have I:=Zh a;have z:=Zh (Zpk m h k c B.out);rw [if_pos s] at z;have n:=Zh (fun w' (hb:Below c.heap.size c w')=>Zth m h k lock w' (B.out.old hb) (Zs7 s) J);obtain ⟨L,M⟩:=K;have D:¬ lock<0:=by omega
 have E:¬ lock ≥ 6:=by omega
 clear a H s;go_enter Tryz.func47,Tryz.ntmps47
 go_upto_region 1 with fail
 rw [←I.out];obtain ⟨t,u,x,y⟩:=Zj5 C.out
 go_upto_region 6 with (go_at_call 87;refine z.out.mono ?_;rintro e P ⟨rfl,d⟩;have b:=Zh d;clear d t u x y;obtain ⟨t,u,x,y⟩:=Zj5 (C.out.old b.out))
 refine (?_:Code.wp _ _ _ _ _)
 go_upto_region 6 with fail
 go_wp2_with (first
  | (go_at_call 106;refine (n.out _ b.out).mono ?_;rintro e Q ⟨⟨v,F,q,rfl⟩,f⟩;have G:=Zh F;have l:=Zh (Zaf b.out f);clear F f q t u x y;obtain ⟨N,g⟩:∃ r,r=if 1000000000<v then 0 else v:=⟨_,rfl⟩;obtain ⟨O,i⟩:∃ r:Int,r=if 1000000000<v then 6 else 0:=⟨_,rfl⟩;have j:=Zh (And.intro g i);clear g i)
  | (go_at_call 96;refine (Zrv v _).mono ?_;rintro e R ⟨rfl,o⟩;rw [←j.out.1,←j.out.2]))
 go_ret2;exact ⟨⟨v,G.out,by rw [←j.out.1,←j.out.2];rfl⟩,Zaf A.out (Zaf l.out o)⟩
theorem Ztk {m:Md} (b:Za1 m=true) {k:Nat} (d:k<m.me.length) {lock v:Int} (h:Zsn m k lock v):0<v↔∃ j:Nat,Rch m k j∧∃ i∈cdM m j,i.op=31∧i.a=lock:=by
 obtain ⟨L,c,rfl⟩:=h;rw [Zqm];constructor
 ·rintro ⟨x,g,e⟩;obtain ⟨j,rfl,a⟩:=(c x).1 g;rw [Int.toNat_natCast] at e;exact ⟨j,a,(Zqf b (by have:=a.le b d;omega) lock).1 e⟩
 ·rintro ⟨j,a,f⟩;refine ⟨j,(c j).2 ⟨j,rfl,a⟩,?_⟩;rw [Int.toNat_natCast];exact (Zqf b (by have:=a.le b d;omega) lock).2 f
theorem Ztl {i:In3} (h:ZaQ false i=true) (ho:i.op=31):0≤i.a∧i.a<6:=by obtain ⟨c,a,b⟩:=i;dsimp only at ho ⊢;exact j15
def UsI (m:Md) (k p:Nat) (ls:List Int):Prop:=Asc ls∧∀ x:Int,x∈ls↔0≤x∧x<p∧∃ j:Nat,Rch m k j∧∃ i∈cdM m j,i.op=31∧i.a=x
theorem UsI.yes {m:Md}{k p:Nat}{ls:List Int} (h:UsI m k p ls) (g:∃ j:Nat,Rch m k j∧∃ i∈cdM m j,i.op=31∧i.a=(p:Int)):UsI m k (p+1) (ls++[(p:Int)]):=by
 refine ⟨List.pairwise_append.2 ⟨h.1,List.pairwise_singleton _ _,fun a l b n=>by rw [List.mem_singleton.1 n];exact ((h.2 a).1 l).2.1⟩,fun x=>?_⟩;rw [List.mem_append,List.mem_singleton,h.2];constructor
 ·rintro (⟨c,f,d⟩|rfl)
  ·exact ⟨c,by omega,d⟩
  ·exact ⟨by omega,by omega,g⟩
 ·rintro ⟨c,f,d⟩;by_cases e:x=p
  ·exact .inr e
  ·exact .inl ⟨c,by omega,d⟩
theorem UsI.no {m:Md}{k p:Nat}{ls:List Int} (h:UsI m k p ls) (g:¬ ∃ j:Nat,Rch m k j∧∃ i∈cdM m j,i.op=31∧i.a=(p:Int)):UsI m k (p+1) ls:=by
 refine ⟨h.1,fun x=>?_⟩;rw [h.2];constructor
 ·rintro ⟨b,c,a⟩;exact ⟨b,by omega,a⟩
 ·rintro ⟨b,c,a⟩;refine ⟨b,?_,a⟩;by_cases e:x=p
  ·subst e;exact absurd a g
  ·omega
theorem UsI.done {m:Md} (hv:Za1 m=true) {k:Nat} (hk:k<m.me.length) {ls:List Int} (h:UsI m k 6 ls):Zs1 m k ls:=⟨h.1,fun x=>by
 rw [h.2]
 constructor
 ·rintro ⟨_,_,g⟩;exact g
 ·rintro ⟨j,b,i,a,c,rfl⟩
  have:=Ztl ((ZfN hv (k:=j) (by have:=b.le hv hk;omega)).i i a).1 c
  exact ⟨this.1,this.2,j,b,i,a,c,rfl⟩⟩
theorem Ztm (m:Md) (h:Hd) (k:Int) (w:World) (H:Zay w h m) (f:ZoS m k=false):Calls Tryz.prog 49 #[.agg (HM.mk h m),.int .i64 k] w (Zhf w (.slice none 0 0) (.int .i64 1)):=by
 have a:Below w.heap.size w (w.alloc (.cells (HM.mk h m) 26)):=by exact bE
 have d:=Zh (Zpk m h k _ (H.old a));rw [f] at d;have b:=Zh a;clear a H f;go_enter Tryz.func49,Tryz.ntmps49
 go_wp2_with (go_at_call 87;refine d.out.mono ?_;rintro e g ⟨rfl,c⟩)
 go_ret2;exact ⟨rfl,Zaf b.out c⟩
theorem Ztn (m:Md) (h:Hd) (k:Nat) (w:World) (H:Zay w h m) (C:ZoS m k=true) (O:k<m.me.length):Calls Tryz.prog 49 #[.agg (HM.mk h m),.int .i64 k] w (Zs4 w m k):=by
 have R:=(Zsy (Zs7 C)).1;obtain ⟨f,j⟩:∃ f,f=w.alloc (.cells (HM.mk h m) 26):=⟨_,rfl⟩;have Y:=Zh (show Below w.heap.size w f by rw [j];exact bE);have HX:=Zh (show Blk f w.heap.size (HM.mk h m) 26 by rw [j];exact Blk.new _ _ _);have Z:=Zh (H.old Y.out);have HW:=Zh j;have X:=Zh (Zpk m h k f Z.out);rw [if_pos C] at X;have I:=Zh (fun (lock:Int) w' (hb:Below f.heap.size f w')=>Zth m h k lock w' (Z.out.old hb) (Zs7 C) O);have L:=Zh (fun (lock v:Int) (h:Zsn m k lock v)=>Ztk R O h);have F:=Zh (fun d (h:UsI m k 6 d)=>h.done R O);clear j H C R;go_enter Tryz.func49,Tryz.ntmps49
 go_upto_region 1 with fail
 rw [←HW.out];obtain ⟨T,U,V,W⟩:=Zj5 HX.out
 go_upto_region 5 with (go_at_call 87;refine X.out.mono ?_;rintro e w1 ⟨rfl,y⟩;have D:=Zh y;clear y T U V W)
 go_wp2_with fail
 go_loopw [7,8] (fun o i wr=>∃ (p:Nat) (s:Option Addr) (a:Nat) (d:List Int),p≤6∧i=.int .i64 p∧o=.slice s d.length a∧d.length≤p∧Hid (UsI m k p d)∧Hid (Zoh wr f.heap.size s a d)∧Hid (Below f.heap.size f wr)) (fun _ i _=>6-(intOf i).toNat)
 case atStart=>exact ⟨0,none,0,[],Nat.zero_le _,rfl,rfl,Nat.zero_le _,⟨List.Pairwise.nil,fun x=>⟨fun h=>by simp at h,fun h=>by omega⟩⟩,World.ownsRow_nil _ _ _ _,D.out⟩
 case round=>
  obtain ⟨p,s,a,d,hp,rfl,rfl,ah,K,HO,g⟩:=hrel;rename World=>wr;by_cases hpl:p<6
  ·have A:(p:Int) < 6:=by omega
   have aj:IntKind.i64.wrap ((p:Int)+1)=((p+1:Nat):Int):=IntWalk.i64_in _ (by omega);obtain ⟨T,U,V,W⟩:=Zj5 (HX.out.old g.out);have J:=Zh (I.out p wr g.out)
   go_upto_region 9 with (go_at_call 106;refine J.out.mono ?_;rintro e S ⟨⟨v,hs,N,rfl⟩,r⟩;have HS:=Zh (L.out _ _ hs);have l:=Zh (HO.out.old r);have b:=Zh (Zaf g.out r);clear hs r N T U V W)
   ·rename_i B;have HY:=Zh (K.out.yes (HS.out.1 B))
    go_wp2_with (at_builtin;refine ZsO rfl (.tmp 24) (.tmp 26) rfl f.heap.size s a d rfl (l.out.old (bal (Below.refl _ S) _)) _ 1 [(p:Int)] rfl (show Zar _ (some ⟨S.heap.size,0,none⟩) 1 [(p:Int)] from ZdL (n:=1) (size:=1) (Blk.new _ #[.int .i64 p] 3) rfl) ⟨by omega,by simp⟩ (by have:=b.out.size;simp;omega) ?_;intro M t w5 us Q P c z u;have G:=Zh c;have E:=Zh ((b.out.alloc b.out.size _).trans (Zom (l.out.old (bal (Below.refl _ S) _)) z (by have:=b.out.size;simp;omega)));clear c z u)
    refine ⟨⟨p+1,M,t,us,hpl,rfl,rfl,?_,?_,G.out,E.out⟩,by simp [intOf];omega⟩
    ·simp at P;omega
    ·show UsI m k (p+1) us;rw [Q.out];exact HY.out
   ·rename_i B;have hn:¬ 0<v:=by omega
    exact ⟨⟨p+1,s,a,d,hpl,rfl,rfl,by omega,K.out.no fun q=>hn (HS.out.2 q),l.out,b.out⟩,by simp [intOf];omega⟩
  ·have A:¬ (p:Int) < 6:=by omega
   obtain rfl:p=6:=by omega
   go_wp2;go_ret2;exact ⟨⟨s,a,d,F.out d K.out,rfl,HO.out.row⟩,Zaf Y.out g.out⟩
end
