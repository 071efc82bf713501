import Derived.Test.YtfmcclhfnpcokaaGreatT29
import Derived.Test.YtfmcclhfnpcokaaGreatT34
import Derived.Test.YtfmcclhfnpcokaaGreatT33
import Derived.Test.YtfmcclhfnpcokaaGreatT32
set_option linter.all false
set_option maxRecDepth 100000
set_option maxHeartbeats 16000000
namespace Go.Proofs.YtfmcclhfnpcokaaGreat
section
open Go.RowKit
attribute [local go_sem] World.cell?_alloc_some
def NwP (m:Md) (c j p q:Nat) (zs:List Int):Prop:=zs.length≤1920*j+120*p+q∧∀ x:Int,x∈zs↔(∃ d:Nat,d<j∧ZaI m (d+1) d c=true∧ZmX m d=true∧x=d)∨(x=j∧ZaI m (j+1) j c=true∧ZqW m j p q=true)
theorem NwP.zero (m:Md) (c:Nat):NwP m c 0 0 0 []:=⟨by simp,fun x=>by simp [ZqX]⟩
theorem NwP.to {m:Md}{c j p q p' q':Nat}{zs:List Int} (h:NwP m c j p q zs) (hl:120*p+q≤120*p'+q') (hm:ZqW m j p' q'=ZqW m j p q):NwP m c j p' q' zs:=⟨by have:=h.1;omega,fun x=>by rw [hm];exact h.2 x⟩
theorem NwP.add {m:Md}{c j p q:Nat}{zs:List Int} (h:NwP m c j p q zs) (ha:ZaI m (j+1) j c=true) (hq:q<(cdM m p).length) (hi:(cdM m p).getD q default=⟨14,j,0⟩):NwP m c j p (q+1) (zs++[(j:Int)]):=by
 refine ⟨by have:=h.1;rw [List.length_append,List.length_singleton];omega,fun x=>?_⟩;rw [List.mem_append,List.mem_singleton,h.2 x,ZqY hq,hi];have:ZqV j ⟨14,j,0⟩=true:=by simp [ZqV]
 rw [this,Bool.or_true];constructor
 ·rintro ((a|⟨a,b,d⟩)|a)
  ·exact .inl a
  ·exact .inr ⟨a,b,rfl⟩
  ·exact .inr ⟨a,ha,rfl⟩
 ·rintro (a|⟨a,-,-⟩)
  ·exact .inl (.inl a)
  ·exact .inr a
theorem NwP.no {m:Md}{c j p q:Nat}{zs:List Int} (h:NwP m c j p q zs) (hv:Za2 m=true) (hp:p<m.me.length) (hq:q<(cdM m p).length) (hi:¬ (cdM m p).getD q default=⟨14,j,0⟩):NwP m c j p (q+1) zs:=by
 refine h.to (by omega) ?_;rw [ZqY hq];have:ZqV j ((cdM m p).getD q default)=false:=by
  unfold ZqV;refine decide_eq_false fun e=>hi ?_;have k:=ZsL hv hp hq e.1
  revert e k
  generalize (cdM m p).getD q default=i;obtain ⟨l,a,b⟩:=i;rintro ⟨d,f⟩ g;dsimp only at d f g;rw [d,f,g]
 rw [this,Bool.or_false]
theorem NwP.next {m:Md}{c j p:Nat}{zs:List Int} (h:NwP m c j p (cdM m p).length zs) (hv:Za2 m=true) (hp:p<m.me.length):NwP m c j (p+1) 0 zs:=
 h.to (by have:=(ZfQ hv hp).z.2.2;unfold cdM;omega) (ZqZ hp)
theorem NwP.skip {m:Md}{c j p:Nat}{zs:List Int} (h:NwP m c j p 0 zs) (hp:p<m.me.length) (hn:∀ i∈cdM m p,¬ i.op=14):NwP m c j (p+1) 0 zs:=by
 refine h.to (by omega) ?_;rw [ZqZ hp];have a:∀ q,q≤(cdM m p).length→ZqW m j p q=ZqW m j p 0:=by
  intro q
  induction q with
  | zero=>intro _;rfl
  |succ q ih=>
   intro b;rw [ZqY (by omega),ih (by omega)];have:ZqV j ((cdM m p).getD q default)=false:=decide_eq_false fun e=>hn _ (ZfX _ (by omega)) e.1;rw [this,Bool.or_false]
 exact a _ (Nat.le_refl _)
theorem NwP.cls {m:Md}{c j:Nat}{zs:List Int} (h:NwP m c j m.me.length 0 zs) (hv:Za2 m=true):NwP m c (j+1) 0 0 zs:=by
 refine ⟨by have:=h.1;have:=(Zir hv).2.1;omega,fun x=>?_⟩;rw [h.2 x,Zq0,ZqX];constructor
 ·rintro (⟨d,f,a⟩|⟨f,a,b⟩)
  ·exact .inl ⟨d,by omega,a⟩
  ·exact .inl ⟨j,by omega,a,b,f⟩
 ·rintro (⟨d,f,a,b,g⟩|⟨-,-,b⟩)
  ·by_cases e:d=j
   ·subst e;exact .inr ⟨g,a,b⟩
   ·exact .inl ⟨d,by omega,a,b,g⟩
  ·cases b
theorem NwP.off {m:Md}{c j:Nat}{zs:List Int} (h:NwP m c j 0 0 zs) (ha:ZaI m (j+1) j c=false):NwP m c (j+1) 0 0 zs:=by
 refine ⟨by have:=h.1;omega,fun x=>?_⟩;rw [h.2 x,ZqX,ZqX];constructor
 ·rintro (⟨d,f,a⟩|⟨-,-,b⟩)
  ·exact .inl ⟨d,by omega,a⟩
  ·cases b
 ·rintro (⟨d,f,a,b,g⟩|⟨-,-,b⟩)
  ·by_cases e:d=j
   ·subst e;rw [ha] at a;cases a
   ·exact .inl ⟨d,by omega,a,b,g⟩
  ·cases b
theorem NwP.fin {m:Md}{c:Nat}{zs:List Int} (h:NwP m c m.cl.length 0 0 zs):ZaN zs=(ZmY m c).map fun d:Nat=>(d:Int):=
 ZqI fun x=>by
  rw [h.2 x,ZqX]
  constructor
  ·rintro (⟨d,b,e,a,f⟩|⟨-,-,a⟩)
   ·exact ⟨d,ZqJ.2 ⟨b,e,a⟩,f⟩
   ·cases a
  ·rintro ⟨d,b,e⟩
   obtain ⟨a,f,g⟩:=ZqJ.1 b
   exact .inl ⟨d,a,f,g,e⟩
theorem Zs5 {w:World}{base base':Nat}{e:TypeId}{size:Nat}{v:Value}{n:Nat}{a:List Value} (h:w.ownsRow base e size v n a) (b:base'≤base):w.ownsRow base' e size v n a:=by
 refine ⟨h.1,?_⟩;rcases h.2 with hn|⟨g,cap,cur,hv,h1,hg⟩
 ·exact .inl hn
 ·exact .inr ⟨g,cap,cur,hv,Nat.le_trans b h1,hg⟩
theorem Zs6 (m:Md) (h:Hd) (c:Nat) (w:World) (H:Zaz w h m) (hv:Za2 m=true) (hc:c<m.cl.length):Calls Tryz.prog 138 #[.agg (HM.mk h m),.int .i64 c] w (Zec w ((ZmY m c).map fun d:Nat=>(d:Int))):=by
 obtain ⟨l,F⟩:∃ l,l=w.alloc (.cells (HM.mk h m) 26):=⟨_,rfl⟩;have HB:=Zh (show Below w.heap.size w l by rw [F];exact bE);obtain ⟨X,hX⟩:∃ X,X=w.heap.size:=⟨_,rfl⟩;have HX:=Zh (show Blk l X (HM.mk h m) 26 by rw [F,hX];exact Blk.new _ _ _);have Hj:=Zh (H.old HB.out);have HW:=Zh F;have a0:=Zh hX;have E:=Zh (Zir hv);have HV:=Zh hv;have aQ:=Zh (fun k (hk:k<m.me.length)=>(ZfQ hv hk).z.2.2);have aP:=Zh (fun j (hj:j<m.cl.length) r (h':Zaz r h m)=>ZsJ m h j c r h' hv hj hc);have aR:=Zh (fun p (hp:p<m.me.length) r (h':Zaz r h m)=>ZsN (cdM m p) (h.e p).ko (h.e p).kc r (h'.k p hp) (ZsK hv hp));have ar:=Zh (fun a (hz:NwP m c m.cl.length 0 0 a)=>hz.fin);generalize (ZmY m c).map (fun d:Nat=>(d:Int))=out at ar ⊢;clear F H hX hv hc;go_enter Tryz.func138,Tryz.ntmps138
 go_upto_region 1 with fail
 rw [←HW.out,←a0.out];go_wp2
 go_loopw [5,6] (fun o i wr=>∃ (j:Nat) (a:List Int) (J:Option Addr) (f:Nat),j≤m.cl.length∧i=.int .i64 j∧o=.slice J a.length f∧Hid (NwP m c j 0 0 a)∧Hid (wr.ownsRow l.heap.size 3 1 (.slice J a.length f) a.length (a.map (Value.int .i64)))∧Hid (Below l.heap.size l wr)) (fun _ i _=>m.cl.length-(intOf i).toNat)
 case atStart=>exact ⟨0,[],none,0,Nat.zero_le _,rfl,rfl,NwP.zero m c,World.ownsRow_nil _ _ _ _,Below.refl _ _⟩
 case round=>
  obtain ⟨j,a,J,f,hj,rfl,rfl,HN,HO,x⟩:=hrel;rename World=>wo;obtain ⟨x0,x1,x2,x3⟩:=Zj8 (HX.out.old x.out);by_cases hjl:j<m.cl.length
  ·have bi:(j:Int) < m.cl.length:=by omega
   have bA:IntKind.i64.wrap ((j:Int)+1)=((j+1:Nat):Int):=IntWalk.i64_in _ (by have:=E.out;omega);have an:=Zh (aP.out j hjl);obtain ⟨ab,Y⟩:∃ ab,ab=ZaI m (j+1) j c:=⟨_,rfl⟩;rw [←Y] at an;have ak:=Zh Y;clear Y
   go_upto_region 6 with (go_at_call 204;refine (an.out _ (Hj.out.old x.out)).mono ?_;rintro e w2 ⟨rfl,Z⟩;have P:=Zh (Zag x.out Z);have av:=Zh (ZhM HO.out fun q N=>Z.block q (HO.out.lt q N).2);clear Z x0 x1 x2 x3)
   cases ab
   ·go_wp2
    go_loopw [5,9] (fun o i wr=>o=.slice J a.length f∧i=.int .i64 0∧wr=w2) (fun _ _ _=>0)
    case atStart=>exact ⟨rfl,rfl,rfl⟩
    case round=>
     obtain ⟨rfl,rfl,rfl⟩:=hrel;have x2:=(HX.out.old P.out).cell 2 (v:=.slice h.eo m.me.length h.ec) rfl;go_wp2
     all_goals
      go_roundw
      case rel=>exact ⟨j+1,a,J,f,hjl,by go_num,rfl,HN.out.off ak.out.symm,av.out,P.out⟩
      case measure=>simp [intOf];omega
   ·go_wp2
    go_loopw [5,9] (fun o i wr=>∃ (p:Nat) (G:List Int) (bo:Option Addr) (bc:Nat),p≤m.me.length∧i=.int .i64 p∧o=.slice bo G.length bc∧Hid (NwP m c j p 0 G)∧Hid (wr.ownsRow l.heap.size 3 1 (.slice bo G.length bc) G.length (G.map (Value.int .i64)))∧Hid (Below l.heap.size l wr)) (fun _ i _=>m.me.length-(intOf i).toNat)
    case atStart=>exact ⟨0,a,J,f,Nat.zero_le _,rfl,rfl,HN.out,av.out,P.out⟩
    case round=>
     obtain ⟨p,G,bo,bc,hp,rfl,rfl,R,U,s⟩:=hrel;rename World=>wp;obtain ⟨x0,x1,x2,x3⟩:=Zj8 (HX.out.old s.out);by_cases hpl:p<m.me.length
     ·have bk:(p:Int) < m.me.length:=by omega
      have bB:IntKind.i64.wrap ((p:Int)+1)=((p+1:Nat):Int):=IntWalk.i64_in _ (by have:=E.out;omega);obtain ⟨ea,ac,-,-,-,-,-,-,e6⟩:=(Hj.out.old s.out).mth hpl;have aq:=Zh ac;rw [ac] at x2;have ap:=Zh (aR.out p hpl);have a5:=aQ.out p hpl;obtain ⟨C,hC⟩:∃ C,C=cdM m p:=⟨_,rfl⟩;rw [show (m.me.getD p default).k=C from hC.symm] at e6 a5;rw [←hC] at ap;have b:=Zh hC;clear ac hC
      go_wp2_with (go_at_call 205;refine (ap.out _ (Hj.out.old s.out)).mono ?_;rintro e w4 ⟨⟨n,bw,rfl,hn⟩,aa⟩;have am:=Zh (Zag s.out aa);have aw:=Zh (ZhM U.out fun q N=>aa.block q (U.out.lt q N).2);have aT:=Zh hn;clear aa hn x0 x1 x2 x3 e6)
      ·rename_i L;have hz:n=0:=by first|exact L|simpa using L
       go_roundw
       case rel=>exact ⟨p+1,G,bo,bc,hpl,by go_num,rfl,R.out.skip hpl (by rw [←b.out];exact aT.out hz),aw.out,am.out⟩
       case measure=>simp [intOf];omega
      ·rename_i aF;have a6:(n == 0)=false:=by first|exact aF|simpa using aF
       simp only [a6];have Q:=Zh (show ∀ r,Below l.heap.size l r→r.cell? ⟨X,2,none⟩=some (.slice (some ea) m.me.length h.ec)∧r.cell? ⟨(ea.add (p*7)).block,(ea.add (p*7)).off+6,none⟩=some (.slice (h.e p).ko C.length (h.e p).kc)∧Zas r (h.e p).ko (h.e p).kc C from fun r hb=>by
        obtain ⟨bs,K,-,-,-,-,-,-,az⟩:=(Hj.out.old hb).mth hpl;rw [aq.out] at K;cases K;rw [show (m.me.getD p default).k=C from b.out.symm] at az;exact ⟨by have:=(HX.out.old hb).cell 2 (v:=.slice h.eo m.me.length h.ec) rfl;rw [aq.out] at this;exact this,az,by rw [b.out];exact (Hj.out.old hb).k p hpl⟩)
       have aL:=Zh (fun q a (hN:NwP m c j p q a) (N:q<C.length) (hi:C.getD q default=⟨14,j,0⟩)=>hN.add ak.out.symm (by rw [←b.out];exact N) (by rw [←b.out];exact hi));have aU:=Zh (fun q a (hN:NwP m c j p q a) (N:q<C.length) (hi:¬ C.getD q default=⟨14,j,0⟩)=>hN.no HV.out hpl (by rw [←b.out];exact N) (by rw [←b.out];exact hi));have aS:=Zh (fun a (hN:NwP m c j p C.length a)=>NwP.next (m:=m) (c:=c) (j:=j) (p:=p) (by rw [←b.out];exact hN) HV.out hpl);generalize (h.e p).ko=ko at Q;generalize (h.e p).kc=kc at Q
       go_loopw [5,12] (fun o i wr=>∃ (q:Nat) (g:List Int) (co:Option Addr) (cc:Nat),q≤C.length∧i=.int .i64 q∧o=.slice co g.length cc∧Hid (NwP m c j p q g)∧Hid (wr.ownsRow l.heap.size 3 1 (.slice co g.length cc) g.length (g.map (Value.int .i64)))∧Hid (Below l.heap.size l wr)) (fun _ i _=>C.length-(intOf i).toNat)
       case atStart=>exact ⟨0,G,bo,bc,Nat.zero_le _,rfl,rfl,R.out,aw.out,am.out⟩
       case round=>
        obtain ⟨q,g,co,cc,N,rfl,rfl,D,V,t⟩:=hrel;rename World=>wq;obtain ⟨x2,e6,O⟩:=Q.out _ t.out;by_cases hql:q<C.length
        ·have bl:(q:Int) < C.length:=by omega
         have bC:IntKind.i64.wrap ((q:Int)+1)=((q+1:Nat):Int):=IntWalk.i64_in _ (by omega);obtain ⟨ka,aD,i0,i1,i2⟩:=ZaB O hql;rw [aD] at e6;have bz:g.length≤100000:=by have:=D.out.1;have:=E.out;omega
         have al:=Zh (aL.out q g D.out hql);have I:=Zh (aU.out q g D.out hql);generalize C.getD q default=ins at i0 i1 i2 al I;obtain ⟨aG,ia,ib⟩:=ins;dsimp only at i0 i1 i2;obtain ⟨qb,ad⟩:∃ qb,qb=decide ((⟨aG,ia,ib⟩:In3)=⟨14,j,0⟩):=⟨_,rfl⟩;have bu:=fun w=>(Zq9 w aG ia ib 14 j 0).trans (by rw [←ad]);have bv:=Zq3;have ax:=Zh ad;clear ad O aD;cases qb
         ·have T:=Zh (I.out (of_decide_eq_false ax.out.symm));go_wp2;go_roundw
          case rel=>exact ⟨q+1,g,co,cc,hql,by go_num,rfl,T.out,V.out,t.out⟩
          case measure=>simp [intOf];omega
         ·have T:=Zh (al.out (of_decide_eq_true ax.out.symm));have z:=V.out
          go_wp2_with (at_builtin;refine Zak rfl (.tmp 72) (.tmp 74) 27 rfl l.heap.size 3 1 8 Zcm (.slice co g.length cc) g.length (g.map (Value.int .i64)) rfl (z.alloc _) _ 1 1 [.int .i64 j] rfl (ZdN (Blk.new' #[.int .i64 j] 3 (by simp)) rfl) (by intro u hu;rw [List.mem_singleton.1 hu];rfl) (by omega) (by unfold maxLen;omega) (by have:=t.out.size;simp;omega) ?_;intro W y bD B aB;have aX:=Zh B;have aO:=Zh (ZcR (bal t.out _) aB (fun j hj=>(z.lt j hj).1));clear B aB x2 e6 i0 i1 i2)
          clear z;go_roundw
          case rel=>
           have h9:=aX.out;refine ⟨q+1,g++[(j:Int)],W,y,hql,by go_num,by rw [List.length_append];rfl,T.out,(show World.ownsRow _ _ _ _ _ _ _ from ?_),aO.out⟩;rw [List.length_append,List.map_append];exact h9
          case measure=>simp [intOf];omega
        ·obtain rfl:q=C.length:=by omega
         have aC:¬ (C.length:Int) < C.length:=by omega
         go_wp2;go_roundw
         case rel=>exact ⟨p+1,g,co,cc,hpl,by go_num,rfl,aS.out g D.out,V.out,t.out⟩
         case measure=>simp [intOf];omega
     ·obtain rfl:p=m.me.length:=by omega
      have aC:¬ (m.me.length:Int) < m.me.length:=by omega
      go_wp2;go_roundw
      case rel=>exact ⟨j+1,G,bo,bc,hjl,by go_num,rfl,R.out.cls HV.out,U.out,s.out⟩
      case measure=>simp [intOf];omega
  ·obtain rfl:j=m.cl.length:=by omega
   have aC:¬ (m.cl.length:Int) < m.cl.length:=by omega
   have aE:a.length≤1000000:=by have:=HN.out.1;have:=E.out;omega
   have HS:=Zh (fun r (hr:Zas r J f a)=>by have:=Zem a J f r hr aE;rwa [ar.out a HN.out] at this);have HR:=Zh (Zas.of_own (α:=Int) (by rw [Zau];exact HO.out))
   go_wp2_with (go_at_call 62;refine (HS.out _ HR.out).mono ?_;rintro e w1 ⟨⟨W,y,rfl,A⟩,aA⟩;have aW:=Zh A;have aN:=Zh (Zag x.out aA);have aY:=Zh x.out.size;clear A aA)
   go_ret;exact ⟨⟨W,y,rfl,Zs5 aW.out (Nat.le_trans HB.out.size aY.out)⟩,Zag HB.out aN.out⟩
end
section
open Go.RowKit
attribute [local go_sem] World.cell?_alloc_some
theorem Zs7:El Tryz.prog 106 27 1 24:=El.mk' (z:=.slice none 0 0) Tryz.underlying106 (by kernel_rfl) (by kernel_rfl) (by decide)
def nwI (m:Md) (c:Nat):List Int:=(ZmY m c).map fun d:Nat=>(d:Int)
def Zs8 (w:World) (N:Nat) (m:Md) (rows:List SH):Prop:=∀ i,i<rows.length→(rows.getD i default).n=(ZmY m i).length∧w.ownsRow N 3 1 (.slice (rows.getD i default).ao (nwI m i).length (rows.getD i default).c) (nwI m i).length ((nwI m i).map (Value.int .i64))
theorem Zs9 {w w':World}{base:Nat}{e:TypeId}{size:Nat}{v:Value}{n:Nat}{a:List Value} (h:w.ownsRow base e size v n a) (b:Below w.heap.size w w'):w'.ownsRow base e size v n a:=ZhM h fun k c=>b.block k (h.lt k c).2
theorem Zs8.old {w w':World}{N:Nat}{m:Md}{rows:List SH} (h:Zs8 w N m rows) (hb:Below w.heap.size w w'):Zs8 w' N m rows:=fun i a=>⟨(h i a).1,Zs9 (h i a).2 hb⟩
theorem Zta {w:World}{p q:Nat}{f i:TypeId}{y z:Nat}{n o:Value}{v x:Nat}{A B:List Value} (h:w.ownsRow p f y n v A) (g:w.ownsRow q i z o x B) (t:f≠i):∀ b,n.ownBlock=some b→some b≠o.ownBlock:=by
 intro b j l;rcases h.2 with ⟨rfl,-⟩|⟨k,c,r,rfl,-,s,-⟩
 ·cases j
 ·rcases g.2 with ⟨rfl,-⟩|⟨u,C,d,rfl,-,a,-⟩
  ·cases l
  ·cases j;have e:k=u:=Option.some.inj l;subst e;rw [s] at a;cases a;exact t rfl
theorem Zs8.grown {w w':World}{N:Nat}{m:Md}{rows:List SH} (h:Zs8 w N m rows) {b2:Nat}{s2:Nat}{v2:Value}{n2:Nat}{x2:List Value} (g:w.ownsRow b2 27 s2 v2 n2 x2) (hg:w.grownBy w' v2.ownBlock):Zs8 w' N m rows:=fun i a=>
 ⟨(h i a).1,Zed (h i a).2 hg (Zta (h i a).2 g (by decide))⟩
theorem Zs8.add {w:World}{N:Nat}{m:Md}{rows:List SH} (h:Zs8 w N m rows) {r:SH} (h1:r.n=(ZmY m rows.length).length) (h2:w.ownsRow N 3 1 (.slice r.ao (nwI m rows.length).length r.c) (nwI m rows.length).length ((nwI m rows.length).map (Value.int .i64))):Zs8 w N m (rows++[r]):=by
 intro i a;rw [List.length_append,List.length_singleton] at a;by_cases q:i<rows.length
 ·have:(rows++[r]).getD i default=rows.getD i default:=by simp [List.getElem?_append_left q]
  rw [this];exact h i q
 ·obtain rfl:i=rows.length:=by omega
  have:(rows++[r]).getD rows.length default=r:=by simp
  rw [this];exact ⟨h1,h2⟩
def Ztb (W:World) (m:Md):Ending→World→Prop:=fun e w'=>(∃ so sc rows,e=.returned (.slice so rows.length sc)∧rows.length=m.cl.length∧Zas w' so sc rows∧(∀ a,so=some a→W.heap.size≤a.block)∧Zs8 w' W.heap.size m rows)∧Below W.heap.size W w'
theorem Ztc (m:Md) (h:Hd) (w:World) (H:Zaz w h m) (Y:Za2 m=true):Calls Tryz.prog 78 #[.agg (HM.mk h m)] w (Ztb w m):=by
 obtain ⟨s,r⟩:∃ s,s=w.alloc (.cells (HM.mk h m) 26):=⟨_,rfl⟩;have J:=Zh (show Below w.heap.size w s by rw [r];exact bE);obtain ⟨X,W⟩:∃ X,X=w.heap.size:=⟨_,rfl⟩;have HX:=Zh (show Blk s X (HM.mk h m) 26 by rw [r,W];exact Blk.new _ _ _);have Hj:=Zh (H.old J.out);have HW:=Zh r;have V:=Zh W;have D:=Zh (Zir Y);have N:=Zh (fun c (hc:c<m.cl.length) w' (h':Zaz w' h m)=>Zs6 m h c w' h' Y hc);clear r H W Y;go_enter Tryz.func78,Tryz.ntmps78
 go_upto_region 1 with fail
 rw [←HW.out,←V.out];go_wp2
 go_loopw [3,4] (fun o i wr=>∃ (j:Nat) (b:List SH) (G:Option Addr) (F:Nat),j≤m.cl.length∧i=.int .i64 j∧o=.slice G b.length F∧b.length=j∧Hid (wr.ownsRow s.heap.size 27 1 (.slice G b.length F) b.length (Zal b))∧Hid (Zs8 wr s.heap.size m b)∧Hid (Below s.heap.size s wr)) (fun _ i _=>m.cl.length-(intOf i).toNat)
 case atStart=>exact ⟨0,[],none,0,Nat.zero_le _,rfl,rfl,rfl,World.ownsRow_nil _ _ _ _,fun i I=>by simp at I,Below.refl _ _⟩
 case round=>
  obtain ⟨j,b,G,F,hj,rfl,rfl,x,R,y,k⟩:=hrel;rename World=>wo;obtain ⟨x0,x1,x2,x3⟩:=Zj8 (HX.out.old k.out);have f:=Zh x;clear x;by_cases hjl:j<m.cl.length
  ·have ac:(j:Int) < m.cl.length:=by omega
   have ak:IntKind.i64.wrap ((j:Int)+1)=((j+1:Nat):Int):=IntWalk.i64_in _ (by have:=D.out;omega);have O:=Zh (N.out j hjl);have ai:b.length≤100:=by have:=f.out;have:=D.out;omega
   go_wp2_with (first
    | (go_at_call 138;refine (O.out _ (Hj.out.old k.out)).mono ?_;rintro e t ⟨⟨z,g,rfl,E⟩,n⟩;have A:=Zh (Zag k.out n);have d:=Zs9 R.out n;have B:=Zh (Zs5 E k.out.size);have P:=Zh (y.out.old n);clear n E x0 x1 x2 x3;rw [List.length_map])
    | (at_builtin;refine Zak rfl (.tmp 12) (.tmp 16) 106 rfl s.heap.size 27 1 24 Zs7 (.slice G b.length F) b.length (Zal b) rfl (d.alloc _) _ 1 1 [.slice z (ZmY m j).length g] rfl (ZdN (Blk.new' #[.slice z (ZmY m j).length g] 27 (by simp)) rfl) (by intro u hu;rw [List.mem_singleton.1 hu];rfl) (by omega) (by unfold maxLen;omega) (by have:=A.out.size;simp;omega) ?_;intro aa Z al l q;have T:=Zh l;have K:=Zh (ZcR (bal A.out _) q (fun j hj=>(d.lt j hj).1));have Q:=Zh ((P.out.old (show Below t.heap.size t (t.alloc (.cells #[.slice z (ZmY m j).length g] 27)) by exact bE)).grown (d.alloc _) q);have U:=Zh (Zed (Zs9 B.out (show Below t.heap.size t (t.alloc (.cells #[.slice z (ZmY m j).length g] 27)) by exact bE)) q (Zta (Zs9 B.out (show Below t.heap.size t (t.alloc (.cells #[.slice z (ZmY m j).length g] 27)) by exact bE)) (d.alloc _) (by decide)));clear l q))
   clear d;refine ⟨⟨j+1,b++[⟨z,(ZmY m j).length,g⟩],aa,Z,hjl,rfl,by rw [List.length_append];rfl,by rw [List.length_append,f.out];rfl,?_,?_,K.out⟩,by simp [intOf];omega⟩
   ·show World.ownsRow _ _ _ _ _ _ _;rw [List.length_append,Zao];exact T.out
   ·refine Zs8.add Q.out (by rw [f.out]) ?_;rw [f.out];exact U.out
  ·obtain rfl:j=m.cl.length:=by omega
   have ah:¬ (m.cl.length:Int) < m.cl.length:=by omega
   have v:=f.out;have C:=Zh J.out.size;clear f;have L:=Zh v;clear v;go_wp2;go_ret;refine ⟨⟨G,F,b,rfl,L.out,Zas.of_own R.out,fun a ha=>?_,fun i I=>⟨(y.out i I).1,Zs5 (y.out i I).2 C.out⟩⟩,Zag J.out k.out⟩;subst ha;exact Nat.le_trans C.out (R.out.lt a.block rfl).1
end
section
open Go.RowKit
attribute [local go_sem] World.cell?_alloc_some
section
variable {S:Nat}{M:MsL}{h:Hd}{m:Md}
theorem Ztd (b:okL m):∀ n,Zpl S M h m n∧Zpm S M h m n:=by
 intro n
 induction n using Nat.strongRecOn with
 |ind n ih=>
  have a:=ZsI (S:=S) (M:=M) (h:=h) b fun v c=>(ih v c).2;exact ⟨a,ZsB b a⟩
theorem Zte (b:okL m) {c:Nat} (a:c<m.cl.length) (w:World) (H:Zpf w S M h m []):Calls Tryz.prog 90 #[ZQ.p S,.int .i64 c] w (Zpj w S M h m [] (Zm3 m c) (Znv m [] c)):=
 (Ztd b m.cl.length).1 w [] c H List.nodup_nil (fun u d=>by cases d) (by simp) a
theorem Ztf (a:okL m) {t:Ty} (b:Zfk m t) (w:World) (H:Zpf w S M h m []):Calls Tryz.prog 77 #[ZQ.p S,.agg #[.int .i64 t.k,.int .i64 t.c]] w (Zpj w S M h m [] (Zm4 m t) (Zpk m [] t)):=
 (Ztd a m.cl.length).2 w [] t H List.nodup_nil (fun u c=>by cases c) (by simp) b
theorem Ztg {m:Md}{l:List Ty}{z:T3}{t:Ty} (b:t∈l) (a:Zpk m [] t):Zm0 (Zm4 m) z l=none:=Zno b a.nil
theorem Zth (ho:okL m):ZsO S M h m:=by
 intro w ao aR l H hr V hl;obtain ⟨R,hR⟩:∃ R,R=w.heap.size:=⟨_,rfl⟩;obtain ⟨w0,d⟩:∃ w0,w0=(w.alloc (.cells #[.int .i64 0,.int .i64 0,.int .i64 0] 45)).alloc (.cells #[.int .i64 0,.int .i64 0,.int .i64 0] 45):=⟨_,rfl⟩;have HB:=Zh (show Below w.heap.size w w0 by rw [d];exact bE);have HR:=Zh (show Blk w0 R (cl3 0 0 0) 45 by rw [d,hR];exact (Blk.new _ _ _).alloc _);have HO:=Zh (show Blk w0 (R+1) (cl3 0 0 0) 45 by rw [d,hR];exact Blk.new' (w:=w.alloc _) _ _ (by simp));have HW:=Zh d;have c:=Zh hR;have K:=Zh (show w.heap.size≤R by omega);have am:=Zh (show w.heap.size≤R+1 by omega);clear hR;have HH:=Zh H;have ah:=Zh ((FrO.start H).old HB.out);have J:=Zh hr;have au:=Zh V;have av:=Zh (fun w' (t:Ty) (h':Zpf w' S M h m []) (ht:Zfk m t)=>Ztf ho ht w' h');clear d H hr V;go_enter Tryz.func80,Tryz.ntmps80
 go_upto_region 2 with fail
 rw [←HW.out,←c.out]
 go_wp2_with fail
 go_loopw [13] (fun i wr=>∃ (q:Nat) (s:T3),q≤l.length∧i=.int .i64 q∧Hid (FrO w wr S M h m [])∧Hid (Zrz m z3 l q s)∧Hid (Blk wr R (cl3 0 0 0) 45)∧Hid (Blk wr (R+1) (cl3 s.1 s.2.1 s.2.2) 45)) (fun i _=>l.length-(intOf i).toNat)
 case atStart=>exact ⟨0,z3,Nat.zero_le _,rfl,ah.out,Zrz.zero .z,HR.out,HO.out⟩
 case round=>
  obtain ⟨q,s,hq,rfl,A,j,c,B⟩:=hrel;rename World=>wq;obtain ⟨s0,s1,s2⟩:=s;dsimp only at B;by_cases hql:q<l.length
  ·have T:(q:Int) < l.length:=by omega
   have aX:IntKind.i64.wrap ((q:Int)+1)=((q+1:Nat):Int):=IntWalk.i64_in _ (by omega);obtain ⟨fd,ay,X,Z⟩:=ZaA (ZmK J.out A.out.kp) hql;have I:=Zh (fun x hx hb=>j.out.next hql (x:=x) hx hb);have C:=Zh (ZfX (default:Ty) hql);have L:=Zh (au.out _ C.out);generalize l.getD q default=t at X Z I C L;have N:=Zh (fun w' (h':Zpf w' S M h m [])=>av.out w' t h' L.out);obtain ⟨tk,tc⟩:=t;dsimp only at X Z N;subst ay
   go_upto_region 5 with fail
   obtain ⟨w7,r⟩:∃ w7,w7=wq.alloc (.cells #[.int .i64 tk,.int .i64 tc] 38):=⟨_,rfl⟩;have k:Below wq.heap.size wq w7:=by rw [r];exact bE
   have ar:=Zh (show Blk w7 wq.heap.size #[.int .i64 tk,.int .i64 tc] 38 by rw [r];exact Blk.new _ _ _);have f:=Zh (A.out.old k);have an:=Zh (c.out.old k);have ak:=Zh (B.out.old k);rw [←r];clear r k X Z;obtain ⟨X,Z⟩:=Zj9 ar.out
   go_upto_region 6 with (go_at_call 77;refine (N.out _ f.out.sz).mono ?_;rintro e w8 ⟨U,o,P,⟨x0,x1,x2⟩,ok,rfl,O,W,Q⟩;(try simp only [ag3]);have ap:=Zh (f.out.sz.own an.out o);have al:=Zh (f.out.sz.own ak.out o);have ai:=Zh (f.out.call U o P);have HE:=Zh (And.intro O (And.intro W Q));clear U o P O W Q X Z)
   obtain ⟨Y,hY⟩:∃ Y,Y=w8.heap.size:=⟨_,rfl⟩;obtain ⟨w9,u⟩:∃ w9,w9=w8.alloc (.cells #[.int .i64 x0,.int .i64 x1,.int .i64 x2] 45):=⟨_,rfl⟩;have n:Below w8.heap.size w8 w9:=by rw [u];exact bE
   have aw:=Zh (show Blk w9 Y (cl3 x0 x1 x2) 45 by rw [u,hY];exact Blk.new _ _ _);have G:=Zh (ai.out.old n);have g:=Zh (ap.out.old n);have b:=Zh (al.out.old n);rw [←u,←hY];clear u n hY;cases ok
   ·obtain ⟨r0,r1,r2⟩:=g.out.c3;obtain ⟨f0,f1,f2⟩:=g.out.f3
    go_wp2_with fail
    have y:=ZsA HH.out G.out g.out K.out ((0,0,0):T3);have D:=y.2.c3.1;have E:=y.2.c3.2.1;have F:=y.2.c3.2.2;exact bodyPost_ret (v:=.tuple #[ag3 ((0,0,0):T3),.bool false]) (by simp [results,Tryz.results80,go_sem,ag3,D,E,F]) rfl (y.1.val rfl .z (fun e=>by cases e) (fun _=>Ztg C.out (HE.out.2.2 (by first|rfl|trivial))))
   ·obtain ⟨m0,m1,m2⟩:=b.out.c3;obtain ⟨y0,y1,y2⟩:=aw.out.c3;have ml:=b.out.lt
    go_wp2_with (go_at_call 85;refine (Zqb (s0,s1,s2) (x0,x1,x2) _ j.out.2 HE.out.1).mono ?_;rintro e a3 ⟨rfl,z⟩;(try simp only [ag3]);have a:=Zh z;clear z m0 m1 m2 y0 y1 y2 ml;obtain ⟨m0,m1,m2⟩:=(b.out.old a.out).c3;obtain ⟨g0,g1,g2⟩:=(b.out.old a.out).f3;have ml:=(b.out.old a.out).lt)
    refine ⟨⟨q+1,_,hql,rfl,FrO.set3 HH.out (G.out.old a.out) (b.out.old a.out) am.out _ _ _,I.out _ (HE.out.2.1 (by first|rfl|trivial)) HE.out.1,?_,Zmx (b.out.old a.out)⟩,by simp [intOf];omega⟩;exact ((((g.out.old a.out).other (show R≠R+1 by omega) _).other (show R≠R+1 by omega) _).other (show R≠R+1 by omega) _)
  ·have T:¬ (q:Int) < l.length:=by omega
   have az:q=l.length:=by omega
   subst az;have aq:=Zh j.out.2;obtain ⟨m0,m1,m2⟩:=B.out.c3;obtain ⟨r0,r1,r2⟩:=c.out.c3;obtain ⟨f0,f1,f2⟩:=c.out.f3
   go_wp2_with fail
   have y:=ZsA HH.out A.out c.out K.out (s0,s1,s2);have D:=y.2.c3.1;have E:=y.2.c3.2.1;have F:=y.2.c3.2.2;exact bodyPost_ret (v:=.tuple #[ag3 (s0,s1,s2),.bool true]) (by simp [results,Tryz.results80,go_sem,ag3,D,E,F]) rfl (y.1.val rfl aq.out (fun _=>j.out.fin) (fun e=>by cases e))
end
end
section
open Go.RowKit
attribute [local go_sem] World.cell?_alloc_some
def Zti (m:Md):T3 × Int:=if okL m then Zqf (Zm0 (Zm4 m) z3 m.st) else (z3,1)
def Ztj (m:Md) (t:Ty):Int × Int:=if okL m∧ZrG m t 3=true then (ZmU m t,0) else (0,1)
theorem Ztk {m:Md} (a:Za2 m=true):(∀ t∈m.st,Zfk m t)∧m.st.length≤10:=⟨ZfO a,(Zir a).2.2.2.2⟩
theorem Ztl (m:Md) (h:Hd) (w:World) (H:Zaz w h m):Calls Tryz.prog 27 #[.agg (HM.mk h m)] w (Zqg (Zti m) w):=by
 obtain ⟨J,j⟩:∃ J,J=(w.alloc (.cells (HM.mk h m) 26)).alloc (.cells #[.int .i64 0,.int .i64 0,.int .i64 0] 45):=⟨_,rfl⟩;have HB:=Zh (show Below w.heap.size w J by rw [j];exact bE);obtain ⟨X,hX⟩:∃ X,X=w.heap.size:=⟨_,rfl⟩;have HX:=Zh (show Blk J X (HM.mk h m) 26 by rw [j,hX];exact (Blk.new _ _ _).alloc _);have K:=Zh (show Blk J (X+1) (cl3 0 0 0) 45 by rw [j,hX];exact Blk.new' (w:=w.alloc _) _ _ (by simp));have HW:=Zh j;have V:=Zh hX;have W:=Zh (show w.heap.size≤X+1 by omega);clear hX;have Hj:=Zh (H.old HB.out);have q:=Zh (ZrF m h J Hj.out);clear j H;by_cases ho:okL m
 ·have hm:=ho.v;rw [show Zti m=Zqf (Zm0 (Zm4 m) z3 m.st) from if_pos ho];have C:=Zh (show ∀ (x:T3) (I:Bool),(I=true→Zm0 (Zm4 m) z3 m.st=some x)→(I=false→Zm0 (Zm4 m) z3 m.st=none)→∀ b,Calls Tryz.prog 75 #[ag3 x,.bool I] b (Zqg (Zqf (Zm0 (Zm4 m) z3 m.st)) b) from fun x I L h2 b=>by
   cases I
   ·rw [h2 rfl];exact Zqh x b
   ·rw [L rfl];exact Zqi x b)
  have al:=Zh (fun b (h':Zaz b h m)=>Zr4 m h b h' hm);have O:=Zh (fun S M b (h':Zpf b S M h m [])=>Zth (S:=S) (M:=M) (h:=h) ho b h.so h.sc m.st h' h'.md.st (Ztk hm).1 (by have:=(Ztk hm).2;omega));rw [decide_eq_true ho] at q;generalize Zm0 (Zm4 m) z3 m.st=v at C O ⊢;generalize Zqf v=r at C ⊢;obtain ⟨⟨e0,e1,e2⟩,er⟩:=r;clear ho hm;go_enter Tryz.func27,Tryz.ntmps27
  go_upto_region 1 with fail
  rw [←HW.out,←V.out];obtain ⟨x0,x1,x2,x3⟩:=Zj8 HX.out
  go_upto_region 3 with (go_at_call 73;refine q.out.mono ?_;rintro e w2 ⟨rfl,Z⟩;have g:=Zh Z;clear Z x0 x1 x2 x3)
  have an:=Zh (HX.out.old g.out);have aJ:=Zh (K.out.old g.out);have N:=Zh (show ∀ b,Blk b X (HM.mk h m) 26→Cs [(⟨X,0,none⟩,.slice h.co m.cl.length h.cc),(⟨X,1,none⟩,.slice h.so m.st.length h.sc),(⟨X,2,none⟩,.slice h.eo m.me.length h.ec),(⟨X,3,none⟩,.int .i64 m.sel)] b from fun b L=>⟨L.cell 0 rfl,L.cell 1 rfl,L.cell 2 rfl,L.cell 3 rfl,trivial⟩);refine rO (Cs [(⟨X,0,none⟩,.slice h.co m.cl.length h.cc),(⟨X,1,none⟩,.slice h.so m.st.length h.sc),(⟨X,2,none⟩,.slice h.eo m.me.length h.ec),(⟨X,3,none⟩,.int .i64 m.sel)]) (oL [0,2,3,101,104,5,6,107,8,9,110,11]) (N.out _ an.out.drew) ?_
  (refine pO ?_)
  (refine pO ?_)
  (refine pO ?_)
  refine oO fun D i=>?_;go_simp;refine (al.out _ (Hj.out.old (Zag g.out (Below.refl _ _).drew))).mono ?_;rintro e w3 ⟨S,M,rfl,ab,aa,ao,E⟩;have B:=Zh ab;have A:=Zh (Zag g.out (Zag (Below.refl _ w2).drew aa));have ai:=Zh (show ∀ x∈M.s,J.heap.size≤x from fun x hx=>by have:=E x hx;have:=g.out.size;exact Nat.le_trans this (E x hx));have R:=Zh (HX.out.old A.out);have aj:=Zh (K.out.old A.out);refine i _ _ ⟨N.out _ R.out,?_⟩;clear i D ab aa ao E;refine oO fun D i=>?_;go_simp;refine (O.out S M _ B.out).mono ?_;rintro e w4 ⟨ar,u,aq,⟨y0,y1,y2⟩,I,rfl,ap,hy,hn⟩
  try simp only [ag3]
  have T:=Zh (B.out.own R.out u);have ak:=Zh (B.out.own aj.out u);have ag:=Zh (u.below A.out (Nat.le_refl _) ai.out);have am:=Zh (C.out (y0,y1,y2) I hy hn);refine i _ _ ⟨N.out _ T.out,?_⟩;clear i D ar u aq ap hy hn
  (refine pO ?_)
  (refine pO ?_)
  refine oO fun D i=>?_;go_simp;refine (am.out _).mono ?_;rintro e w5 ⟨rfl,s⟩;have U:=Zh (T.out.old s);have n:=Zh (ak.out.old s);have ah:=Zh (Zag ag.out s);refine i _ _ ⟨N.out _ U.out,?_⟩;clear i D s
  (refine pO ?_)
  (refine pO ?_)
  refine oO fun D i=>?_;obtain ⟨r0,r1,r2⟩:=n.out.c3;obtain ⟨f0,f1,f2⟩:=n.out.f3;have rl:=n.out.lt;go_simp;have G:=Zmx (x:=e0) (y:=e1) (z:=e2) n.out;refine i _ _ ⟨N.out _ (((U.out.other (show X≠X+1 by omega) _).other (show X≠X+1 by omega) _).other (show X≠X+1 by omega) _),?_⟩;clear i D r0 r1 r2 f0 f1 f2 rl
  (refine pO ?_)
  refine Zd7 ?_
  go_wp2_with fail
  exact ZpL (F:=X+1) Tryz.results27 rfl rfl rfl G.c3.1 G.c3.2.1 G.c3.2.2 (Zmz (Zag HB.out ah.out) _ _ _ W.out)
 ·rw [show Zti m=(z3,1) from if_neg ho];rw [decide_eq_false ho] at q;clear ho;go_enter Tryz.func27,Tryz.ntmps27
  go_upto_region 1 with fail
  rw [←HW.out,←V.out];obtain ⟨x0,x1,x2,x3⟩:=Zj8 HX.out
  go_wp2_with (go_at_call 73;refine q.out.mono ?_;rintro e w1 ⟨rfl,Y⟩;have f:=Zh Y;clear Y x0 x1 x2 x3;obtain ⟨r0,r1,r2⟩:=(K.out.old f.out).c3;obtain ⟨f0,f1,f2⟩:=(K.out.old f.out).f3;have rl:=(K.out.old f.out).lt)
  have G:=Zmx (x:=0) (y:=0) (z:=0) (K.out.old f.out);exact ZpL (F:=X+1) Tryz.results27 rfl rfl rfl G.c3.1 G.c3.2.1 G.c3.2.2 (Zmz (Zag HB.out f.out) _ _ _ W.out)
theorem Ztm (m:Md) (h:Hd) (t:Ty) (w:World) (H:Zaz w h m):Calls Tryz.prog 31 #[.agg (HM.mk h m),.agg #[.int .i64 t.k,.int .i64 t.c]] w (Zhi w (.int .i64 (Ztj m t).1) (.int .i64 (Ztj m t).2)):=by
 obtain ⟨G,n⟩:∃ G,G=(w.alloc (.cells (HM.mk h m) 26)).alloc (.cells #[.int .i64 t.k,.int .i64 t.c] 38):=⟨_,rfl⟩;have HB:=Zh (show Below w.heap.size w G by rw [n];exact bE);obtain ⟨X,V⟩:∃ X,X=w.heap.size:=⟨_,rfl⟩;have A:=Zh (show Blk G X (HM.mk h m) 26 by rw [n,V];exact (Blk.new _ _ _).alloc _);have z:=Zh (show Blk G (X+1) #[.int .i64 t.k,.int .i64 t.c] 38 by rw [n,V];exact Blk.new' (w:=w.alloc _) _ _ (by simp));have T:=Zh n;have J:=Zh V;clear V;have R:=Zh (H.old HB.out);have r:=Zh (ZrF m h G R.out);have f:=Zh (fun i (h':Zaz i h m)=>ZrH m h t 3 i h');clear n H;by_cases hq:okL m∧ZrG m t 3=true
 ·obtain ⟨s,B⟩:=hq;have W:=s.v;have ht:Zfk m t:=by unfold ZrG at B;rw [W] at B;simp only [Bool.and_eq_true,decide_eq_true_eq] at B;exact B.2.2
  rw [show Ztj m t=(ZmU m t,0) from if_pos ⟨s,B⟩];have ad:=Zh (fun i (h':Zaz i h m)=>Zr4 m h i h' W);have y:=Zh (fun S M i (h':Zpf i S M h m [])=>ZrX (S:=S) (M:=M) (h:=h) W t ht i h');rw [B] at f;rw [decide_eq_true s] at r;generalize ZmU m t=v at y ⊢;obtain ⟨Z,Y⟩:=t;dsimp only at z T f y;clear B s W ht;go_enter Tryz.func31,Tryz.ntmps31
  go_upto_region 1 with fail
  rw [←T.out,←J.out];obtain ⟨C,D,E,F⟩:=Zj8 A.out
  go_upto_region 3 with (first
   | (go_at_call 73;refine r.out.mono ?_;rintro e w1 ⟨rfl,g⟩;have b:=Zh g;clear g C D E F;obtain ⟨C,D,E,F⟩:=Zj8 (A.out.old b.out);obtain ⟨t0,t1⟩:=Zj9 (z.out.old b.out))
   | (go_at_call 74;refine (f.out _ (R.out.old b.out)).mono ?_;rintro e w2 ⟨rfl,j⟩;have q:=Zh (Zag b.out j);clear j C D E F t0 t1))
  have af:=Zh (A.out.old q.out);have ae:=Zh (z.out.old q.out);have HC:=Zh (show ∀ i,Blk i X (HM.mk h m) 26→Blk i (X+1) #[.int .i64 Z,.int .i64 Y] 38→Cs [(⟨X,0,none⟩,.slice h.co m.cl.length h.cc),(⟨X,1,none⟩,.slice h.so m.st.length h.sc),(⟨X,2,none⟩,.slice h.eo m.me.length h.ec),(⟨X,3,none⟩,.int .i64 m.sel),(⟨X+1,0,none⟩,.int .i64 Z),(⟨X+1,1,none⟩,.int .i64 Y)] i from fun i U h2=>⟨U.cell 0 rfl,U.cell 1 rfl,U.cell 2 rfl,U.cell 3 rfl,h2.cell 0 rfl,h2.cell 1 rfl,trivial⟩);refine rO (Cs [(⟨X,0,none⟩,.slice h.co m.cl.length h.cc),(⟨X,1,none⟩,.slice h.so m.st.length h.sc),(⟨X,2,none⟩,.slice h.eo m.me.length h.ec),(⟨X,3,none⟩,.int .i64 m.sel),(⟨X+1,0,none⟩,.int .i64 Z),(⟨X+1,1,none⟩,.int .i64 Y)]) (oL [0,2,101,103,4,5]) (HC.out _ af.out.drew ae.out.drew) ?_
  (refine pO ?_)
  (refine pO ?_)
  refine oO fun Kv K=>?_;go_simp;refine (ad.out _ (R.out.old (Zag q.out (Below.refl _ _).drew))).mono ?_;rintro e w3 ⟨S,M,rfl,O,L,ai,ah⟩;have ac:=Zh O;have u:=Zh (Zag q.out (Zag (Below.refl _ w2).drew L));refine K _ _ ⟨HC.out _ (A.out.old u.out) (z.out.old u.out),?_⟩;clear K Kv O L ai ah;refine oO fun Kv K=>?_;go_simp;refine (y.out S M _ ac.out).mono ?_;rintro e w4 ⟨rfl,N⟩;have x:=Zh (Zag u.out N);refine K _ _ ⟨HC.out _ (A.out.old x.out) (z.out.old x.out),?_⟩;clear K Kv N
  (refine pO ?_)
  (refine pO ?_)
  refine Zd7 ?_
  go_wp2_with fail
  go_ret2;exact ⟨rfl,Zag HB.out x.out⟩
 ·rw [show Ztj m t=(0,1) from if_neg hq];have hb:decide (okL m)=false∨(decide (okL m)=true∧ZrG m t 3=false):=by
   by_cases s:okL m
   ·exact .inr ⟨decide_eq_true s,Bool.eq_false_iff.2 fun e=>hq ⟨s,e⟩⟩
   ·exact .inl (decide_eq_false s)
  generalize ZrG m t 3=b2 at f hb;generalize decide (okL m)=b1 at r hb;obtain ⟨Z,Y⟩:=t;dsimp only at z T f;clear hq;rcases hb with rfl|⟨rfl,rfl⟩
  all_goals
   go_enter Tryz.func31,Tryz.ntmps31
   go_upto_region 1 with fail
   rw [←T.out,←J.out];obtain ⟨C,D,E,F⟩:=Zj8 A.out
   go_wp2_with (first
    | (go_at_call 73;refine r.out.mono ?_;rintro e w1 ⟨rfl,g⟩;have b:=Zh g;have I:=Zh g;clear g C D E F;obtain ⟨C,D,E,F⟩:=Zj8 (A.out.old b.out);obtain ⟨t0,t1⟩:=Zj9 (z.out.old b.out))
    | (go_at_call 74;refine (f.out _ (R.out.old b.out)).mono ?_;rintro e w2 ⟨rfl,j⟩;have I:=Zh (Zag b.out j);clear j C D E F t0 t1))
   go_ret2;exact ⟨rfl,Zag HB.out I.out⟩
end
section
open Go.RowKit
attribute [local go_sem] World.cell?_alloc_some
section
variable {S:Nat}{M:MsL}{h:Hd}{m:Md}
theorem FrO.chg {w0 w w':World}{U V:List Nat} (H0:Zpf w0 S M h m V) (F:FrO w0 w S M h m U) {B:Nat} (hB:w0.heap.size≤B) (hc:¬ ZmL w B) (hu1:UpL [B] w w'):FrO w0 w' S M h m U:=by
 obtain ⟨⟨r,J,⟨f,K,y⟩,z,A,⟨g,C,l⟩,⟨k,D,n⟩,E⟩,a,H⟩:=F;have c:∀ x,x<w.heap.size→x≠B→w'.heap[x]?=w.heap[x]?:=fun x q o=>hu1.block x q (by simpa using o);have b:ZmJ w0 w':=fun p v s=>by have G:=H p v s;have L:=Zad s;exact (World.cell?_of_block (w:=w) (c p.block (by have:=a.size;omega) (by omega))).trans G
 have i:=fun {κ:Type} [DecidableEq κ] {enc:κ→Value}{x:Nat}{f:κ→Option Value} (hf:MpF enc w x f)=>hf.eq (w':=w') (c x hf.map.lt (fun e=>hc (e▸hf.map)));refine ⟨⟨(c S r.lt (by have:=H0.bk.lt;omega)).trans r,H0.md.keeps b,?_,i z,i A,⟨g,i C,l⟩,⟨k,i D,n⟩,E⟩,⟨hu1.os.trans a.os,hu1.tape.trans a.tape,hu1.output.trans a.output,Nat.le_trans a.size hu1.size,fun x q o=>(c x (by have:=a.size;omega) (by omega)).trans (a.block x q o)⟩,b⟩;obtain ⟨u,d,j⟩:=H0.ln;refine ⟨u,d.eq ((c _ (by have:=d.map.lt;have:=a.size;omega) (by have:=d.map.lt;omega)).trans (a.block _ d.map.lt H0.m_ne.1)),fun t I=>(j t I).keeps b⟩
theorem FrO.app {w0 w w':World}{U V:List Nat} (H0:Zpf w0 S M h m V) (F:FrO w0 w S M h m U) {base:Nat}{e:TypeId}{size:Nat}{v:Value}{n:Nat}{xs:List Value} (ho:w.ownsRow base e size v n xs) (hb:w0.heap.size≤base) (hg:w.grownBy w' v.ownBlock):FrO w0 w' S M h m U:=by
 cases hv:v.ownBlock with
 |none=>
  rw [hv] at hg;exact F.old ⟨hg.os,hg.tape,hg.output,hg.size,fun k a=>hg.block k a (by simp)⟩
 |some b=>
  rw [hv] at hg;refine FrO.chg H0 F (B:=b) (Nat.le_trans hb (World.ownsRow.lt ho b hv).1) ?_ ⟨hg.os,hg.tape,hg.output,hg.size,fun k a j=>hg.block k a fun e=>j (by rw [Option.some.inj e];simp)⟩;rintro ⟨o,c,i⟩;rcases ho.2 with ⟨q,_⟩|⟨g,l,f,q,_,d,_⟩
  ·rw [q] at hv;cases hv
  ·rw [q] at hv;have:g=b:=Option.some.inj hv;subst this;rw [i] at d;cases d
end
end
