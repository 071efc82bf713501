import Derived.Test.YtfmcclhfnpcokaaGreatU30
import Derived.Test.YtfmcclhfnpcokaaGreatU28
set_option linter.all false
set_option maxRecDepth 100000
set_option maxHeartbeats 16000000
namespace Go.Proofs.YtfmcclhfnpcokaaGreat
section
open Go.RowKit
attribute [local go_sem] World.cell?_alloc_some
theorem Zrh (m:Md) (h:Hd) (a b:Nat) (w:World) (H:Zaz w h m) (o:Za2 m=true) (I:a<m.cl.length) (J:b<m.cl.length):Calls Tryz.prog 204 #[.agg (HM.mk h m),.int .i64 a,.int .i64 b] w (Zhi w (.bool (ZaI m (a+1) a b)) (.int .i64 0)):=by
 obtain ⟨u,c⟩:∃ u,u=w.alloc (.cells (HM.mk h m) 26):=⟨_,rfl⟩;have B:=Zh (show Below w.heap.size w u by rw [c];exact bE);have A:=Zh (show Blk u w.heap.size (HM.mk h m) 26 by rw [c];exact Blk.new _ _ _);have z:=Zh (H.old B.out);have G:=Zh c;have C:ZcZ m m.cl.length:=Zc4 fun k D=>Zip o k D;have l:ZcZ m ((a:Int).toNat+1):=Zc4 fun k D=>Zip o k (by omega);have x:=Zh (fun w' (h':Zaz w' h m)=>Ze5 m h a b w' h' (by omega) l);rw [Zc1 C (b:=b) (by omega) m.cl.length a (m.cl.length+1) (a+1) (by omega) (Nat.le_refl _) (fun _=>by omega)] at x;have E:=Zh (fun w' (h':Zaz w' h m)=>Zjn m h a m.cl.length w' h' o (by omega));have F:=Zh (fun w' (h':Zaz w' h m)=>Zjn m h b m.cl.length w' h' o (by omega));generalize ZaI m (a+1) a b=v at x ⊢;clear c H o C l;go_enter Tryz.func204,Tryz.ntmps204
 go_upto_region 1 with fail
 rw [←G.out];obtain ⟨q,r,s,t⟩:=Zj8 A.out
 go_upto_region 2 with (go_at_call 61;refine (E.out _ z.out).mono ?_;rintro e K ⟨rfl,g⟩;have d:=Zh g;clear g q r s t)
 obtain ⟨q,r,s,t⟩:=Zj8 (A.out.old d.out)
 go_upto_region 4 with (go_at_call 61;refine (F.out _ (z.out.old d.out)).mono ?_;rintro e L ⟨rfl,i⟩;have f:=Zh (Zag d.out i);clear i q r s t)
 obtain ⟨q,r,s,t⟩:=Zj8 (A.out.old f.out)
 go_wp2_with (go_at_call 176;refine (x.out _ (z.out.old f.out)).mono ?_;rintro e N ⟨rfl,j⟩;have y:=Zh (Zag f.out j);clear j q r s t)
 go_ret2;exact ⟨rfl,Zag B.out y.out⟩
theorem Zri {m:Md} (c:Za2 m=true) {k:Nat} (b:k<m.me.length):ZaW false (cdM m k)=0:=by have h:=ZfQ c b;unfold ZaW cdM;rw [if_neg (by have:=h.z.2.2;omega),if_pos (List.all_eq_true.2 fun i a=>(h.i i a).1),if_pos h.n]
theorem Zrj {m:Md} (f:Za2 m=true) {k j:Nat} (e:k<m.me.length) (d:j<(cdM m k).length) (h:((cdM m k).getD j default).op=14):((cdM m k).getD j default).b=0:=by
 have c:=((ZfQ f e).i _ (ZfX (l:=cdM m k) default d)).1
 revert c h
 generalize (cdM m k).getD j default=i;intro h c;obtain ⟨g,a,b⟩:=i;dsimp only at h;subst h;simp only [ZaR,Bool.and_eq_true] at c;have:=c.1.2;simp [inR,inI,opB,ZaP] at this;show b=0;omega
def Zrk (l:List In3) (w:World):Ending→World→Prop:=fun e w'=>(∃ n:Int,0≤n∧e=.returned (.tuple #[.int .i64 n,.int .i64 0])∧(n=0→∀ i∈l,¬ i.op=14))∧Below w.heap.size w w'
theorem Zrl (l:List In3) (ao:Option Addr) (cap:Nat) (w:World) (v:Zas w ao cap l) (g:ZaW false l=0):Calls Tryz.prog 205 #[.slice ao l.length cap,.int .i64 14] w (Zrk l w):=by
 have A:l.length≤120:=by
  by_cases q:120<l.length
  ·unfold ZaW at g;rw [if_pos q] at g;cases g
  ·omega
 have x:=Zh (fun w' D=>ZgN l ao cap false w' (v.old (w':=w') D));rw [g] at x;have B:=Zh v;clear v g;go_enter Tryz.func205,Tryz.ntmps205
 go_wp2_with (go_at_call 177;refine (x.out _ (Below.refl _ _)).mono ?_;rintro e P ⟨rfl,o⟩;have t:=Zh o;clear o)
 go_loopw [7,8] (fun n i wr=>∃ (k:Nat) (c:Int),k≤l.length∧i=.int .i64 k∧n=.int .i64 c∧Hid (Below w.heap.size w wr)∧Hid (0≤c∧c≤k∧(c=0→∀ j,j<k→¬ (l.getD j default).op=14))) (fun _ i _=>l.length-(intOf i).toNat)
 case atStart=>exact ⟨0,0,Nat.zero_le _,rfl,rfl,t.out,by omega,by simp,fun _ j r=>by omega⟩
 case round=>
  obtain ⟨k,c,O,rfl,rfl,a,C⟩:=hrel;obtain ⟨p,E,b⟩:=C.out;by_cases hkl:k<l.length
  ·obtain ⟨N,rfl,J,K,L⟩:=ZaB (B.out.old a.out) hkl;have z:(k:Int) < l.length:=by omega
   have I:IntKind.i64.wrap ((k:Int)+1)=((k+1:Nat):Int):=IntWalk.i64_in _ (by omega);have H:IntKind.i64.wrap (c+1)=c+1:=IntWalk.i64_in _ (by omega);have d:=Zh b;clear b;obtain ⟨s,f⟩:∃ s,s=(l.getD k default).op:=⟨_,rfl⟩;rw [←f] at J;have u:=Zh f;clear f K L;by_cases h14:s=14
   ·subst h14;go_wp2;go_roundw
    case rel=>exact ⟨k+1,c+1,hkl,rfl,rfl,a.out,by omega,by omega,fun q=>by omega⟩
    case measure=>simp [intOf];omega
   ·have y:(s == 14)=false:=by simpa using h14
    go_wp2;go_roundw
    case rel=>
     refine ⟨k+1,c,hkl,rfl,rfl,a.out,p,by omega,fun q j r=>?_⟩;by_cases e:j=k
     ·subst e;rw [←u.out];exact h14
     ·exact d.out q j (by omega)
    case measure=>simp [intOf];omega
  ·obtain rfl:k=l.length:=by omega
   have G:¬ (l.length:Int) < l.length:=by omega
   have d:=Zh b;clear b;go_wp2;go_ret2;refine ⟨⟨c,p,rfl,fun q i F=>?_⟩,a.out⟩;obtain ⟨j,r,rfl⟩:=List.getElem_of_mem F;have:=d.out q j r;rwa [show l.getD j default=l[j] by simp [r]] at this
end
section
open Go.RowKit
attribute [local go_sem] World.cell?_alloc_some
def NwP (m:Md) (c j p q:Nat) (zs:List Int):Prop:=zs.length≤1920*j+120*p+q∧∀ x:Int,x∈zs↔(∃ d:Nat,d<j∧ZaI m (d+1) d c=true∧ZmW m d=true∧x=d)∨(x=j∧ZaI m (j+1) j c=true∧Zqg m j p q=true)
theorem NwP.zero (m:Md) (c:Nat):NwP m c 0 0 0 []:=⟨by simp,fun x=>by simp [Zqh]⟩
theorem NwP.to {m:Md}{c j p q p' q':Nat}{zs:List Int} (h:NwP m c j p q zs) (hl:120*p+q≤120*p'+q') (hm:Zqg m j p' q'=Zqg m j p q):NwP m c j p' q' zs:=⟨by have:=h.1;omega,fun x=>by rw [hm];exact h.2 x⟩
theorem NwP.add {m:Md}{c j p q:Nat}{zs:List Int} (h:NwP m c j p q zs) (ha:ZaI m (j+1) j c=true) (hq:q<(cdM m p).length) (hi:(cdM m p).getD q default=⟨14,j,0⟩):NwP m c j p (q+1) (zs++[(j:Int)]):=by
 refine ⟨by have:=h.1;rw [List.length_append,List.length_singleton];omega,fun x=>?_⟩;rw [List.mem_append,List.mem_singleton,h.2 x,Zqi hq,hi];have:Zqf j ⟨14,j,0⟩=true:=by simp [Zqf]
 rw [this,Bool.or_true];constructor
 ·rintro ((a|⟨a,b,d⟩)|a)
  ·exact .inl a
  ·exact .inr ⟨a,b,rfl⟩
  ·exact .inr ⟨a,ha,rfl⟩
 ·rintro (a|⟨a,-,-⟩)
  ·exact .inl (.inl a)
  ·exact .inr a
theorem NwP.no {m:Md}{c j p q:Nat}{zs:List Int} (h:NwP m c j p q zs) (hv:Za2 m=true) (hp:p<m.me.length) (hq:q<(cdM m p).length) (hi:¬ (cdM m p).getD q default=⟨14,j,0⟩):NwP m c j p (q+1) zs:=by
 refine h.to (by omega) ?_;rw [Zqi hq];have:Zqf j ((cdM m p).getD q default)=false:=by
  unfold Zqf;refine decide_eq_false fun e=>hi ?_;have k:=Zrj hv hp hq e.1
  revert e k
  generalize (cdM m p).getD q default=i;obtain ⟨l,a,b⟩:=i;rintro ⟨d,f⟩ g;dsimp only at d f g;rw [d,f,g]
 rw [this,Bool.or_false]
theorem NwP.next {m:Md}{c j p:Nat}{zs:List Int} (h:NwP m c j p (cdM m p).length zs) (hv:Za2 m=true) (hp:p<m.me.length):NwP m c j (p+1) 0 zs:=
 h.to (by have:=(ZfQ hv hp).z.2.2;unfold cdM;omega) (Zqj hp)
theorem NwP.skip {m:Md}{c j p:Nat}{zs:List Int} (h:NwP m c j p 0 zs) (hp:p<m.me.length) (hn:∀ i∈cdM m p,¬ i.op=14):NwP m c j (p+1) 0 zs:=by
 refine h.to (by omega) ?_;rw [Zqj hp];have a:∀ q,q≤(cdM m p).length→Zqg m j p q=Zqg m j p 0:=by
  intro q
  induction q with
  | zero=>intro _;rfl
  |succ q ih=>
   intro b;rw [Zqi (by omega),ih (by omega)];have:Zqf j ((cdM m p).getD q default)=false:=decide_eq_false fun e=>hn _ (ZfX _ (by omega)) e.1;rw [this,Bool.or_false]
 exact a _ (Nat.le_refl _)
theorem NwP.cls {m:Md}{c j:Nat}{zs:List Int} (h:NwP m c j m.me.length 0 zs) (hv:Za2 m=true):NwP m c (j+1) 0 0 zs:=by
 refine ⟨by have:=h.1;have:=(Zir hv).2.1;omega,fun x=>?_⟩;rw [h.2 x,Zqk,Zqh];constructor
 ·rintro (⟨d,f,a⟩|⟨f,a,b⟩)
  ·exact .inl ⟨d,by omega,a⟩
  ·exact .inl ⟨j,by omega,a,b,f⟩
 ·rintro (⟨d,f,a,b,g⟩|⟨-,-,b⟩)
  ·by_cases e:d=j
   ·subst e;exact .inr ⟨g,a,b⟩
   ·exact .inl ⟨d,by omega,a,b,g⟩
  ·cases b
theorem NwP.off {m:Md}{c j:Nat}{zs:List Int} (h:NwP m c j 0 0 zs) (ha:ZaI m (j+1) j c=false):NwP m c (j+1) 0 0 zs:=by
 refine ⟨by have:=h.1;omega,fun x=>?_⟩;rw [h.2 x,Zqh,Zqh];constructor
 ·rintro (⟨d,f,a⟩|⟨-,-,b⟩)
  ·exact .inl ⟨d,by omega,a⟩
  ·cases b
 ·rintro (⟨d,f,a,b,g⟩|⟨-,-,b⟩)
  ·by_cases e:d=j
   ·subst e;rw [ha] at a;cases a
   ·exact .inl ⟨d,by omega,a,b,g⟩
  ·cases b
theorem NwP.fin {m:Md}{c:Nat}{zs:List Int} (h:NwP m c m.cl.length 0 0 zs):ZaN zs=(ZmX m c).map fun d:Nat=>(d:Int):=
 Zp2 fun x=>by
  rw [h.2 x,Zqh]
  constructor
  ·rintro (⟨d,b,e,a,f⟩|⟨-,-,a⟩)
   ·exact ⟨d,Zp3.2 ⟨b,e,a⟩,f⟩
   ·cases a
  ·rintro ⟨d,b,e⟩
   obtain ⟨a,f,g⟩:=Zp3.1 b
   exact .inl ⟨d,a,f,g,e⟩
theorem Zrm {w:World}{base base':Nat}{e:TypeId}{size:Nat}{v:Value}{n:Nat}{a:List Value} (h:w.ownsRow base e size v n a) (b:base'≤base):w.ownsRow base' e size v n a:=by
 refine ⟨h.1,?_⟩;rcases h.2 with hn|⟨g,cap,cur,hv,h1,hg⟩
 ·exact .inl hn
 ·exact .inr ⟨g,cap,cur,hv,Nat.le_trans b h1,hg⟩
theorem Zrn (m:Md) (h:Hd) (c:Nat) (w:World) (H:Zaz w h m) (hv:Za2 m=true) (hc:c<m.cl.length):Calls Tryz.prog 138 #[.agg (HM.mk h m),.int .i64 c] w (Zec w ((ZmX m c).map fun d:Nat=>(d:Int))):=by
 obtain ⟨l,F⟩:∃ l,l=w.alloc (.cells (HM.mk h m) 26):=⟨_,rfl⟩;have HB:=Zh (show Below w.heap.size w l by rw [F];exact bE);obtain ⟨X,hX⟩:∃ X,X=w.heap.size:=⟨_,rfl⟩;have HX:=Zh (show Blk l X (HM.mk h m) 26 by rw [F,hX];exact Blk.new _ _ _);have Hj:=Zh (H.old HB.out);have HW:=Zh F;have a1:=Zh hX;have E:=Zh (Zir hv);have HV:=Zh hv;have aR:=Zh (fun k (hk:k<m.me.length)=>(ZfQ hv hk).z.2.2);have aQ:=Zh (fun j (hj:j<m.cl.length) r (h':Zaz r h m)=>Zrh m h j c r h' hv hj hc);have aS:=Zh (fun p (hp:p<m.me.length) r (h':Zaz r h m)=>Zrl (cdM m p) (h.e p).ko (h.e p).kc r (h'.k p hp) (Zri hv hp));have au:=Zh (fun a (hz:NwP m c m.cl.length 0 0 a)=>hz.fin);generalize (ZmX m c).map (fun d:Nat=>(d:Int))=out at au ⊢;clear F H hX hv hc;go_enter Tryz.func138,Tryz.ntmps138
 go_upto_region 1 with fail
 rw [←HW.out,←a1.out];go_wp2
 go_loopw [5,6] (fun o i wr=>∃ (j:Nat) (a:List Int) (J:Option Addr) (f:Nat),j≤m.cl.length∧i=.int .i64 j∧o=.slice J a.length f∧Hid (NwP m c j 0 0 a)∧Hid (wr.ownsRow l.heap.size 3 1 (.slice J a.length f) a.length (a.map (Value.int .i64)))∧Hid (Below l.heap.size l wr)) (fun _ i _=>m.cl.length-(intOf i).toNat)
 case atStart=>exact ⟨0,[],none,0,Nat.zero_le _,rfl,rfl,NwP.zero m c,World.ownsRow_nil _ _ _ _,Below.refl _ _⟩
 case round=>
  obtain ⟨j,a,J,f,hj,rfl,rfl,HN,HO,x⟩:=hrel;rename World=>wo;obtain ⟨x0,x1,x2,x3⟩:=Zj8 (HX.out.old x.out);by_cases hjl:j<m.cl.length
  ·have bj:(j:Int) < m.cl.length:=by omega
   have bB:IntKind.i64.wrap ((j:Int)+1)=((j+1:Nat):Int):=IntWalk.i64_in _ (by have:=E.out;omega);have ap:=Zh (aQ.out j hjl);obtain ⟨ab,Z⟩:∃ ab,ab=ZaI m (j+1) j c:=⟨_,rfl⟩;rw [←Z] at ap;have al:=Zh Z;clear Z
   go_upto_region 6 with (go_at_call 204;refine (ap.out _ (Hj.out.old x.out)).mono ?_;rintro e w2 ⟨rfl,aa⟩;have P:=Zh (Zag x.out aa);have aw:=Zh (ZhM HO.out fun q N=>aa.block q (HO.out.lt q N).2);clear aa x0 x1 x2 x3)
   cases ab
   ·go_wp2
    go_loopw [5,9] (fun o i wr=>o=.slice J a.length f∧i=.int .i64 0∧wr=w2) (fun _ _ _=>0)
    case atStart=>exact ⟨rfl,rfl,rfl⟩
    case round=>
     obtain ⟨rfl,rfl,rfl⟩:=hrel;have x2:=(HX.out.old P.out).cell 2 (v:=.slice h.eo m.me.length h.ec) rfl;go_wp2
     all_goals
      go_roundw
      case rel=>exact ⟨j+1,a,J,f,hjl,by go_num,rfl,HN.out.off al.out.symm,aw.out,P.out⟩
      case measure=>simp [intOf];omega
   ·go_wp2
    go_loopw [5,9] (fun o i wr=>∃ (p:Nat) (G:List Int) (bo:Option Addr) (bc:Nat),p≤m.me.length∧i=.int .i64 p∧o=.slice bo G.length bc∧Hid (NwP m c j p 0 G)∧Hid (wr.ownsRow l.heap.size 3 1 (.slice bo G.length bc) G.length (G.map (Value.int .i64)))∧Hid (Below l.heap.size l wr)) (fun _ i _=>m.me.length-(intOf i).toNat)
    case atStart=>exact ⟨0,a,J,f,Nat.zero_le _,rfl,rfl,HN.out,aw.out,P.out⟩
    case round=>
     obtain ⟨p,G,bo,bc,hp,rfl,rfl,R,V,s⟩:=hrel;rename World=>wp;obtain ⟨x0,x1,x2,x3⟩:=Zj8 (HX.out.old s.out);by_cases hpl:p<m.me.length
     ·have bl:(p:Int) < m.me.length:=by omega
      have bC:IntKind.i64.wrap ((p:Int)+1)=((p+1:Nat):Int):=IntWalk.i64_in _ (by have:=E.out;omega);obtain ⟨ea,ad,-,-,-,-,-,-,e6⟩:=(Hj.out.old s.out).mth hpl;have ar:=Zh ad;rw [ad] at x2;have aq:=Zh (aS.out p hpl);have a6:=aR.out p hpl;obtain ⟨C,hC⟩:∃ C,C=cdM m p:=⟨_,rfl⟩;rw [show (m.me.getD p default).k=C from hC.symm] at e6 a6;rw [←hC] at aq;have b:=Zh hC;clear ad hC
      go_wp2_with (go_at_call 205;refine (aq.out _ (Hj.out.old s.out)).mono ?_;rintro e w4 ⟨⟨n,bx,rfl,hn⟩,ac⟩;have an:=Zh (Zag s.out ac);have ax:=Zh (ZhM V.out fun q N=>ac.block q (V.out.lt q N).2);have aU:=Zh hn;clear ac hn x0 x1 x2 x3 e6)
      ·rename_i L;have hz:n=0:=by first|exact L|simpa using L
       go_roundw
       case rel=>exact ⟨p+1,G,bo,bc,hpl,by go_num,rfl,R.out.skip hpl (by rw [←b.out];exact aU.out hz),ax.out,an.out⟩
       case measure=>simp [intOf];omega
      ·rename_i aG;have a7:(n == 0)=false:=by first|exact aG|simpa using aG
       simp only [a7];have Q:=Zh (show ∀ r,Below l.heap.size l r→r.cell? ⟨X,2,none⟩=some (.slice (some ea) m.me.length h.ec)∧r.cell? ⟨(ea.add (p*7)).block,(ea.add (p*7)).off+6,none⟩=some (.slice (h.e p).ko C.length (h.e p).kc)∧Zas r (h.e p).ko (h.e p).kc C from fun r hb=>by
        obtain ⟨bt,K,-,-,-,-,-,-,aA⟩:=(Hj.out.old hb).mth hpl;rw [ar.out] at K;cases K;rw [show (m.me.getD p default).k=C from b.out.symm] at aA;exact ⟨by have:=(HX.out.old hb).cell 2 (v:=.slice h.eo m.me.length h.ec) rfl;rw [ar.out] at this;exact this,aA,by rw [b.out];exact (Hj.out.old hb).k p hpl⟩)
       have aM:=Zh (fun q a (hN:NwP m c j p q a) (N:q<C.length) (hi:C.getD q default=⟨14,j,0⟩)=>hN.add al.out.symm (by rw [←b.out];exact N) (by rw [←b.out];exact hi));have aV:=Zh (fun q a (hN:NwP m c j p q a) (N:q<C.length) (hi:¬ C.getD q default=⟨14,j,0⟩)=>hN.no HV.out hpl (by rw [←b.out];exact N) (by rw [←b.out];exact hi));have aT:=Zh (fun a (hN:NwP m c j p C.length a)=>NwP.next (m:=m) (c:=c) (j:=j) (p:=p) (by rw [←b.out];exact hN) HV.out hpl);generalize (h.e p).ko=ko at Q;generalize (h.e p).kc=kc at Q
       go_loopw [5,12] (fun o i wr=>∃ (q:Nat) (g:List Int) (co:Option Addr) (cc:Nat),q≤C.length∧i=.int .i64 q∧o=.slice co g.length cc∧Hid (NwP m c j p q g)∧Hid (wr.ownsRow l.heap.size 3 1 (.slice co g.length cc) g.length (g.map (Value.int .i64)))∧Hid (Below l.heap.size l wr)) (fun _ i _=>C.length-(intOf i).toNat)
       case atStart=>exact ⟨0,G,bo,bc,Nat.zero_le _,rfl,rfl,R.out,ax.out,an.out⟩
       case round=>
        obtain ⟨q,g,co,cc,N,rfl,rfl,D,W,t⟩:=hrel;rename World=>wq;obtain ⟨x2,e6,O⟩:=Q.out _ t.out;by_cases hql:q<C.length
        ·have bm:(q:Int) < C.length:=by omega
         have bD:IntKind.i64.wrap ((q:Int)+1)=((q+1:Nat):Int):=IntWalk.i64_in _ (by omega);obtain ⟨ka,aE,i0,i1,i2⟩:=ZaB O hql;rw [aE] at e6;have bA:g.length≤100000:=by have:=D.out.1;have:=E.out;omega
         have am:=Zh (aM.out q g D.out hql);have I:=Zh (aV.out q g D.out hql);generalize C.getD q default=ins at i0 i1 i2 am I;obtain ⟨aH,ia,ib⟩:=ins;dsimp only at i0 i1 i2;obtain ⟨qb,ae⟩:∃ qb,qb=decide ((⟨aH,ia,ib⟩:In3)=⟨14,j,0⟩):=⟨_,rfl⟩;have bv:=fun w=>(Zqo w aH ia ib 14 j 0).trans (by rw [←ae]);have bw:=Zqm;have ay:=Zh ae;clear ae O aE;cases qb
         ·have T:=Zh (I.out (of_decide_eq_false ay.out.symm));go_wp2;go_roundw
          case rel=>exact ⟨q+1,g,co,cc,hql,by go_num,rfl,T.out,W.out,t.out⟩
          case measure=>simp [intOf];omega
         ·have T:=Zh (am.out (of_decide_eq_true ay.out.symm));have z:=W.out
          go_wp2_with (at_builtin;refine Zak rfl (.tmp 72) (.tmp 74) 27 rfl l.heap.size 3 1 8 Zcm (.slice co g.length cc) g.length (g.map (Value.int .i64)) rfl (z.alloc _) _ 1 1 [.int .i64 j] rfl (ZdN (Blk.new' #[.int .i64 j] 3 (by simp)) rfl) (by intro u hu;rw [List.mem_singleton.1 hu];rfl) (by omega) (by unfold maxLen;omega) (by have:=t.out.size;simp;omega) ?_;intro Y y bF B aC;have aY:=Zh B;have aP:=Zh (ZcR (bal t.out _) aC (fun j hj=>(z.lt j hj).1));clear B aC x2 e6 i0 i1 i2)
          clear z;go_roundw
          case rel=>
           have h9:=aY.out;refine ⟨q+1,g++[(j:Int)],Y,y,hql,by go_num,by rw [List.length_append];rfl,T.out,(show World.ownsRow _ _ _ _ _ _ _ from ?_),aP.out⟩;rw [List.length_append,List.map_append];exact h9
          case measure=>simp [intOf];omega
        ·obtain rfl:q=C.length:=by omega
         have aD:¬ (C.length:Int) < C.length:=by omega
         go_wp2;go_roundw
         case rel=>exact ⟨p+1,g,co,cc,hpl,by go_num,rfl,aT.out g D.out,W.out,t.out⟩
         case measure=>simp [intOf];omega
     ·obtain rfl:p=m.me.length:=by omega
      have aD:¬ (m.me.length:Int) < m.me.length:=by omega
      go_wp2;go_roundw
      case rel=>exact ⟨j+1,G,bo,bc,hjl,by go_num,rfl,R.out.cls HV.out,V.out,s.out⟩
      case measure=>simp [intOf];omega
  ·obtain rfl:j=m.cl.length:=by omega
   have aD:¬ (m.cl.length:Int) < m.cl.length:=by omega
   have aF:a.length≤1000000:=by have:=HN.out.1;have:=E.out;omega
   have HS:=Zh (fun r (hr:Zas r J f a)=>by have:=Zem a J f r hr aF;rwa [au.out a HN.out] at this);have HR:=Zh (Zas.of_own (α:=Int) (by rw [Zau];exact HO.out))
   go_wp2_with (go_at_call 62;refine (HS.out _ HR.out).mono ?_;rintro e w1 ⟨⟨Y,y,rfl,A⟩,aB⟩;have aX:=Zh A;have aO:=Zh (Zag x.out aB);have aZ:=Zh x.out.size;clear A aB)
   go_ret;exact ⟨⟨Y,y,rfl,Zrm aX.out (Nat.le_trans HB.out.size aZ.out)⟩,Zag HB.out aO.out⟩
end
section
open Go.RowKit
attribute [local go_sem] World.cell?_alloc_some
section
variable {S:Nat}{M:MsL}{h:Hd}{m:Md}{U:List Nat}
theorem Zro (ho:okL m) (t:Ty) (ht:Zfk m t) (w:World) (H:ZoR w S M h m U):Calls Tryz.prog 136 #[ZQ.p S,.agg #[.int .i64 t.k,.int .i64 t.c]] w (Ret w (ag3 (ZmV m t))):=by
 have hm:=ho.v;obtain ⟨f,hf,N⟩:=H.ln;have HL:=Zh (Zor hm (t:=t));obtain ⟨ao,al,hv,hr⟩:=Zq6 (N t ht);obtain ⟨E,q⟩:∃ E,E=((w.alloc (.cells #[.int .i64 t.k,.int .i64 t.c] 38)).alloc (.cells #[.int .i64 0,.int .i64 0,.int .i64 0] 45)).alloc (.cells #[.int .i64 0,.int .i64 0,.int .i64 0] 45):=⟨_,rfl⟩;have HB:=Zh (show Below w.heap.size w E by rw [q];exact bE);have HT:=Zh (show Blk E w.heap.size #[.int .i64 t.k,.int .i64 t.c] 38 by rw [q];exact ((Blk.new _ _ _).alloc _).alloc _);have HR:=Zh (show Blk E (w.heap.size+1) (cl3 0 0 0) 45 by rw [q];exact (Blk.new' (w:=w.alloc _) _ _ (by simp)).alloc _);have HO:=Zh (show Blk E (w.heap.size+1+1) (cl3 0 0 0) 45 by rw [q];exact Blk.new' (w:=(w.alloc _).alloc _) _ _ (by simp));have HW:=Zh q;have HF:=Zh (hf.old HB.out);have u:=Zh hr;have W:=Zh H.bk;have aj:=Zh (H.bk.old HB.out);have Hj:=Zh H.md;have HA:=Zh (show ZmV m t=ZmU (ZmR m t) z3 from rfl);have ap:(ZmR m t).length≤1000000:=Zq5 hm t;generalize ZmV m t=ar at HA ⊢;generalize ZmR m t=l at hv u HL HA ap;have HV:=Zh hv;have HZ:=Zh (show w.heap.size+1+1<E.heap.size from HO.out.lt);have aN:=Zh (show S<w.heap.size from H.bk.lt);have ae:=Zh (fun n s (h':Zaz s h m) h0 h1=>ZqY m h n s h' ho h0 h1);clear q hf N hr H hv hm;obtain ⟨X,hX⟩:∃ X,X=w.heap.size:=⟨_,rfl⟩;have I:=Zh (show w.heap.size≤X by omega);rw [←hX] at HT HR HO HZ;have ak:=Zh hX;clear hX;go_enter Tryz.func136,Tryz.ntmps136
 go_upto_region 2 with fail
 rw [←HW.out,←ak.out];obtain ⟨t0,t1⟩:=Zj9 HT.out;have s4:=aj.out.cell 4 (v:=.map (some M.l)) rfl;refine rO (fun s=>Cs [(⟨S,4,none⟩,.map (some M.l)),(⟨X,0,none⟩,.int .i64 t.k),(⟨X,1,none⟩,.int .i64 t.c)] s∧MpF kT s M.l f) (oL [0,1,2,3,4,5,6,7]) ⟨⟨s4,t0,t1,trivial⟩,HF.out.drew⟩ ?_;clear s4 t0 t1
 (refine pO ?_)
 (refine pO ?_)
 (refine pO ?_)
 (refine pO ?_)
 (refine pO ?_)
 refine pO (v:=.slice ao l.length al) ?_ (hy:=Or.inl ⟨by rfl,fun s av=>by rw [←HV.out];exact Zq0 Zoe Tryz.underlying173 Zq1 _ _ false rfl rfl t rfl av.2⟩)
 (refine pO ?_)
 (refine pO ?_)
 refine Zd7 ?_
 go_wp2_with fail
 go_loopw [17] (fun i wr=>∃ (k:Nat) (a:T3),k≤l.length∧i=.int .i64 k∧Hid (Below w.heap.size w wr)∧Hid (ZqK l k a)∧Hid (Blk wr (X+1) (cl3 0 0 0) 45)∧Hid (Blk wr (X+1+1) (cl3 a.1 a.2.1 a.2.2) 45)) (fun i _=>l.length-(intOf i).toNat)
 case atStart=>exact ⟨0,z3,Nat.zero_le _,rfl,HB.out.drew,rfl,HR.out.drew,HO.out.drew⟩
 case round=>
  obtain ⟨k,a,hk,rfl,g,A,r,j⟩:=hrel;rename World=>wo;by_cases hkl:k<l.length
  ·have L:(k:Int) < l.length:=by omega
   have aX:IntKind.i64.wrap ((k:Int)+1)=((k+1:Nat):Int):=IntWalk.i64_in _ (by omega);obtain ⟨ad,rfl,ck⟩:=ZaC (u.out.old g.out) hkl;have O:=HL.out _ (ZfX (0:Int) hkl);have HN:=Zh (ZqK.next A.out hkl);have HD:=Zh (ZqK.bd HL.out A.out);generalize l.getD k 0=n at ck O HN;have G:=Zh (ZmO (n:=n) (b:=true) O.1 (by omega));have F:=Zh (fun s (h':Zaz s h m)=>ae.out n s h' O.1 O.2);generalize ZmD n true=v at HN G F;obtain ⟨Y,Z,a2⟩:=a;obtain ⟨v0,v1,v2⟩:=v;dsimp only at j;have ag:=Zh (Hj.out.old g.out);have s0:=(W.out.old g.out).cell 0 (v:=.slice h.co m.cl.length h.cc) rfl;have s1:=(W.out.old g.out).cell 1 (v:=.slice h.so m.st.length h.sc) rfl;have s2:=(W.out.old g.out).cell 2 (v:=.slice h.eo m.me.length h.ec) rfl;have s3:=(W.out.old g.out).cell 3 (v:=.int .i64 m.sel) rfl;obtain ⟨R,T,V⟩:=j.out.c3;clear O
   go_wp2_with (first
    | (go_at_call 149;refine (F.out _ ag.out).mono ?_;rintro e w1 ⟨rfl,J⟩;(try simp only [ag3]);have B:=Zh J;clear J R T V s0 s1 s2 s3;obtain ⟨R,T,V⟩:=(j.out.old B.out).c3;have ol:=(j.out.old B.out).lt)
    | (go_at_call 85;refine (ZpS (Y,Z,a2) (v0,v1,v2) _ HD.out G.out).mono ?_;rintro e w2 ⟨rfl,K⟩;(try simp only [ag3]);have C:=Zh (Zag B.out (Zag (show Below w1.heap.size w1 (w1.alloc (.cells #[.int .i64 v0,.int .i64 v1,.int .i64 v2] 45)) by exact bE) K));clear K R T V;have D:=Zh (j.out.old C.out);obtain ⟨R,T,V⟩:=D.out.c3;obtain ⟨f0,f1,f2⟩:=D.out.f3))
   refine ⟨⟨k+1,_,hkl,rfl,Zmz (Zag g.out C.out) _ _ _ (show w.heap.size≤X+1+1 by have:=I.out;omega),HN.out,?_,Zmx D.out⟩,by simp [intOf];omega⟩;exact ((((r.out.old C.out).other (show X+1≠X+1+1 by omega) _).other (show X+1≠X+1+1 by omega) _).other (show X+1≠X+1+1 by omega) _)
  ·have L:¬ (k:Int) < l.length:=by omega
   have an:k=l.length:=by omega
   subst an;have HE:=Zh (show a=ar from by rw [HA.out];have:=A.out;unfold ZqK at this;rw [List.take_length] at this;exact this.symm);obtain ⟨Y,Z,a2⟩:=a;dsimp only at j;obtain ⟨R,T,V⟩:=j.out.c3;obtain ⟨r0,r1,r2⟩:=r.out.c3;obtain ⟨f0,f1,f2⟩:=r.out.f3
   go_wp2_with fail
   have hz:=Zmx (x:=Y) (y:=Z) (z:=a2) r.out;have z0:=hz.c3.1;have z1:=hz.c3.2.1;have z2:=hz.c3.2.2;refine bodyPost_ret (v:=.agg #[.int .i64 Y,.int .i64 Z,.int .i64 a2]) (by simp [results,Tryz.results136,go_sem,z0,z1,z2]) rfl ⟨by rw [←HE.out];rfl,Zmz g.out _ _ _ (show w.heap.size≤X+1 by have:=I.out;omega)⟩
end
end
section
open Go.RowKit
attribute [local go_sem] World.cell?_alloc_some
section
variable {S:Nat}{M:MsL}{h:Hd}{m:Md}{n:Nat}
theorem Zrp {m:Md}{t:Ty} (q:t.k=3):Zm3 m t=some (ZmV m t):=by unfold Zm3 ZmY;rw [if_pos q]
theorem Zrq {m:Md}{t:Ty} (q:t.k=2):Zm3 m t=Zm2 m t.c.toNat:=by unfold Zm3 ZmY;rw [if_neg (by omega),if_pos q]
theorem Zrr {m:Md}{t:Ty} (q:t.k=4) (a:ZmT m t=0):Zm3 m t=some (ZmV m t):=by unfold Zm3 ZmY;rw [if_neg (by omega),if_neg (by omega),if_pos q,if_pos a]
theorem Zrs {m:Md}{t:Ty} (q:t.k=4) (a:ZmT m t≠0) {x:T3} (b:Zm2 m t.c.toNat=some x):Zm3 m t=some (plT (ZmV m t) (mlT x (ZmT m t))):=by unfold Zm3 ZmY;rw [if_neg (by omega),if_neg (by omega),if_pos q,if_neg a,b]
theorem Zrt {m:Md}{t:Ty} (q:t.k≠2∧t.k≠3∧t.k≠4):Zm3 m t=some z3:=by unfold Zm3 ZmY;rw [if_neg q.2.1,if_neg q.1,if_neg q.2.2]
theorem Zru {w0 w:World}{U V:List Nat} (f:ZoR w0 S M h m V) (F:FrO w0 w S M h m U) {R:Nat}{a b c:Int} (e:Blk w R (cl3 a b c) 45) (d:w0.heap.size≤R) (x:T3):FrO w0 (((w.setCell ⟨R,0,none⟩ (.int .i64 x.1)).setCell ⟨R,1,none⟩ (.int .i64 x.2.1)).setCell ⟨R,2,none⟩ (.int .i64 x.2.2)) S M h m U∧Blk (((w.setCell ⟨R,0,none⟩ (.int .i64 x.1)).setCell ⟨R,1,none⟩ (.int .i64 x.2.1)).setCell ⟨R,2,none⟩ (.int .i64 x.2.2)) R (cl3 x.1 x.2.1 x.2.2) 45:=
 ⟨FrO.set3 f F e d _ _ _,Zmx e⟩
theorem Zrv (ho:okL m) (hc:ZoX S M h m n):ZoY S M h m n:=by
 intro w U t H a2 hU hl ht;have hm:=ho.v;obtain ⟨w0,J⟩:∃ w0,w0=(w.alloc (.cells #[.int .i64 t.k,.int .i64 t.c] 38)).alloc (.cells #[.int .i64 0,.int .i64 0,.int .i64 0] 45):=⟨_,rfl⟩;have HB:=Zh (show Below w.heap.size w w0 by rw [J];exact bE);obtain ⟨X,hX⟩:∃ X,X=w.heap.size:=⟨_,rfl⟩;have HT:=Zh (show Blk w0 X #[.int .i64 t.k,.int .i64 t.c] 38 by rw [J,hX];exact (Blk.new _ _ _).alloc _);have E:=Zh (show Blk w0 (X+1) (cl3 0 0 0) 45 by rw [J,hX];exact Blk.new' (w:=w.alloc _) _ _ (by simp));have HW:=Zh J;have F:=Zh hX;have HX:=Zh (show w.heap.size≤X+1 by omega);have HH:=Zh H;have g:=Zh ((FrO.start H).old HB.out);have HA:=Zh (fun D U' (h':ZoR D S M h m U')=>Zro ho t ht D h');have Z:=Zh (fun D U' (h':ZoR D S M h m U')=>Zq7 hm t ht D h');have aP:=Zh ht;have q:=Zot hm t;have B:=Zh (Zow hm t);have HC:=Zh (fun D (d:Nat) (h':ZoR D S M h m U) (hd:d<m.cl.length)=>hc D U d h' a2 hU hl hd);have bw:=Zh (fun (d:Nat) (hd:d<m.cl.length) (x:T3) (e:Zm2 m d=some x)=>ZoD hm hd e);have HN:=Zh (Zir hm).1;obtain ⟨tk,tc⟩:=t;dsimp only at HT E HW HA Z;clear J H hc ho hm a2 hU hl hX;by_cases q3:tk=3
 ·subst q3;have V:=Zh (Zrp (m:=m) (t:=⟨3,tc⟩) rfl);generalize ZmV m ⟨3,tc⟩=v at HA B V;clear q;go_enter Tryz.func77,Tryz.ntmps77
  go_upto_region 1 with fail
  rw [←HW.out,←F.out];obtain ⟨z,A⟩:=Zj9 HT.out
  go_wp2_with (go_at_call 136;refine (HA.out _ _ g.out.sz).mono ?_;rintro e s ⟨rfl,i⟩;(try simp only [ag3]);have f:=Zh i;clear i z A;obtain ⟨r0,r1,r2⟩:=(E.out.old f.out).c3;obtain ⟨f0,f1,f2⟩:=(E.out.old f.out).f3)
  have r:=Zru HH.out (g.out.old f.out) (E.out.old f.out) HX.out v;have z0:=r.2.c3.1;have z1:=r.2.c3.2.1;have z2:=r.2.c3.2.2;exact bodyPost_ret (v:=.tuple #[ag3 v,.bool true]) (by simp [results,Tryz.results77,go_sem,ag3,z0,z1,z2]) rfl (r.1.val rfl B.out (fun _=>V.out) (fun e=>by cases e))
 by_cases q2:tk=2
 ·subst q2;have I:=ZfH aP.out (.inl rfl);dsimp only at I;obtain ⟨d,rfl⟩:∃ d:Nat,tc=d:=⟨tc.toNat,by omega⟩;have hd:d<m.cl.length:=by omega
  have V:=Zh (Zrq (m:=m) (t:=⟨2,d⟩) rfl);have aa:=Zh (show Znl m ⟨2,d⟩ d from ⟨.inl rfl,Int.toNat_natCast d⟩);clear q I;go_enter Tryz.func77,Tryz.ntmps77
  go_upto_region 1 with fail
  rw [←HW.out,←F.out];obtain ⟨z,A⟩:=Zj9 HT.out
  go_wp2_with (go_at_call 90;refine (HC.out _ d g.out.sz hd).mono ?_;rintro e s ⟨a3,aB,aY,⟨O,R,T⟩,ok,rfl,G,a5,a0⟩;(try simp only [ag3]);have av:=Zh (g.out.sz.own E.out aB);have bh:=Zh (g.out.call a3 aB aY);have HE:=Zh (And.intro G (And.intro a5 a0));clear a3 aB aY G a5 a0 z A;obtain ⟨r0,r1,r2⟩:=av.out.c3;obtain ⟨f0,f1,f2⟩:=av.out.f3)
  have r:=Zru HH.out bh.out av.out HX.out (O,R,T);have z0:=r.2.c3.1;have z1:=r.2.c3.2.1;have z2:=r.2.c3.2.2;exact bodyPost_ret (v:=.tuple #[ag3 (O,R,T),.bool ok]) (by simp [results,Tryz.results77,go_sem,ag3,z0,z1,z2]) rfl (r.1.val rfl HE.out.1 (fun e=>by rw [V.out];exact HE.out.2.1 e) (fun e=>⟨d,aa.out,HE.out.2.2 e⟩))
 by_cases q4:tk=4
 ·subst q4;have I:=ZfH aP.out (.inr rfl);dsimp only at I;obtain ⟨d,rfl⟩:∃ d:Nat,tc=d:=⟨tc.toNat,by omega⟩;have hd:d<m.cl.length:=by omega
  have ax:=Zh (Zrr (m:=m) (t:=⟨4,d⟩) rfl);have V:=Zh (fun hl x hx=>Zrs (m:=m) (t:=⟨4,d⟩) rfl hl (x:=x) (by rw [Int.toNat_natCast];exact hx));have aa:=Zh (fun (hl:ZmT m ⟨4,d⟩≠0)=>(show Znl m ⟨4,d⟩ d from ⟨.inr ⟨rfl,hl⟩,Int.toNat_natCast d⟩));generalize ZmV m ⟨4,d⟩=v at HA B V ax;generalize ZmT m ⟨4,d⟩=ln at Z V ax aa q;obtain ⟨K,L,N⟩:=v;clear I;by_cases q0:ln=0
  ·subst q0;go_enter Tryz.func77,Tryz.ntmps77
   go_upto_region 1 with fail
   rw [←HW.out,←F.out];obtain ⟨z,A⟩:=Zj9 HT.out
   go_wp2_with (first
    | (go_at_call 136;refine (HA.out _ _ g.out.sz).mono ?_;rintro e s ⟨rfl,i⟩;(try simp only [ag3]);have f:=Zh (Zag i (show Below s.heap.size s (s.alloc (.cells #[.int .i64 K,.int .i64 L,.int .i64 N] 45)) by exact bE));have y:=HT.out.old i;clear z A;have z:=y.cell 0 (v:=.int .i64 4) rfl;have A:=y.cell 1 (v:=.int .i64 d) rfl;clear y i)
    | (go_at_call 87;refine (Z.out _ _ (g.out.old f.out).sz).mono ?_;rintro e w2 ⟨rfl,j⟩;(try simp only [ag3]);have aK:=Zh j;have ah:=(E.out.old f.out).old j;have aV:=(Blk.new s (cl3 K L N) 45).old j;clear j z A;obtain ⟨r0,r1,r2⟩:=ah.c3;obtain ⟨f0,f1,f2⟩:=ah.f3;obtain ⟨g0,g1,g2⟩:=aV.c3;have aw:=Zh ah;clear ah aV))
   have r:=Zru HH.out ((g.out.old f.out).old aK.out) aw.out HX.out (K,L,N);have z0:=r.2.c3.1;have z1:=r.2.c3.2.1;have z2:=r.2.c3.2.2;exact bodyPost_ret (v:=.tuple #[ag3 (K,L,N),.bool true]) (by simp [results,Tryz.results77,go_sem,ag3,z0,z1,z2]) rfl (r.1.val rfl B.out (fun _=>ax.out (by first|rfl|trivial)) (fun e=>by cases e))
  ·have qb:(ln == 0)=false:=by simpa using q0
   have HQ:=Zh q0;have ar:=Zh q;go_enter Tryz.func77,Tryz.ntmps77
   go_upto_region 1 with fail
   rw [←HW.out,←F.out];obtain ⟨z,A⟩:=Zj9 HT.out
   go_upto_region 12 with (first
    | (go_at_call 136;refine (HA.out _ _ g.out.sz).mono ?_;rintro e s ⟨rfl,i⟩;(try simp only [ag3]);have f:=Zh (Zag i (show Below s.heap.size s (s.alloc (.cells #[.int .i64 K,.int .i64 L,.int .i64 N] 45)) by exact bE));have bk:=Zh i.size;have y:=HT.out.old i;clear z A;have z:=y.cell 0 (v:=.int .i64 4) rfl;have A:=y.cell 1 (v:=.int .i64 d) rfl;clear y i)
    | (go_at_call 87;refine (Z.out _ _ (g.out.old f.out).sz).mono ?_;rintro e w2 ⟨rfl,j⟩;(try simp only [ag3]);have aK:=Zh j;have aw:=Zh ((E.out.old f.out).old j);have bl:=Zh ((Blk.new s (cl3 K L N) 45).old j);have az:=(HT.out.old f.out).old j;have W:=Zh ((g.out.old f.out).old j);clear j z A;have z:=az.cell 0 (v:=.int .i64 4) rfl;have A:=az.cell 1 (v:=.int .i64 d) rfl;clear az)
    | (go_at_call 90;refine (HC.out _ d W.out.sz hd).mono ?_;rintro e w3 ⟨a4,aj,aZ,⟨O,R,T⟩,ok,rfl,G,a6,a1⟩;(try simp only [ag3]);have aO:=Zh (W.out.sz.own aw.out aj);have bm:=Zh (W.out.sz.own bl.out aj);have bi:=Zh (W.out.call a4 aj aZ);have HE:=Zh (And.intro G (And.intro a6 a1));clear a4 aj aZ G a6 a1 z A))
   obtain ⟨Y,hY⟩:∃ Y,Y=w3.heap.size:=⟨_,rfl⟩;obtain ⟨w4,ak⟩:∃ w4,w4=w3.alloc (.cells #[.int .i64 O,.int .i64 R,.int .i64 T] 45):=⟨_,rfl⟩;have ai:Below w3.heap.size w3 w4:=by rw [ak];exact bE
   have af:=Zh (show Blk w4 Y (cl3 O R T) 45 by rw [ak,hY];exact Blk.new _ _ _);have ab:=Zh (aO.out.old ai);have ad:=Zh (bm.out.old ai);have bj:=Zh (bi.out.old ai);have C:=Zh (show Y≠X+1∧s.heap.size≠X+1 from ⟨by have:=aO.out.lt;omega,by have:=E.out.lt;have:=bk.out;omega⟩);rw [←ak,←hY];clear ak ai hY;have aq:=Zh (show ∀ D,Below w4.heap.size w4 D→Cs [(⟨s.heap.size,0,none⟩,.int .i64 K),(⟨s.heap.size,1,none⟩,.int .i64 L),(⟨s.heap.size,2,none⟩,.int .i64 N),(⟨Y,0,none⟩,.int .i64 O),(⟨Y,1,none⟩,.int .i64 R),(⟨Y,2,none⟩,.int .i64 T)] D from fun D hb=>⟨(ad.out.old hb).c3.1,(ad.out.old hb).c3.2.1,(ad.out.old hb).c3.2.2,(af.out.old hb).c3.1,(af.out.old hb).c3.2.1,(af.out.old hb).c3.2.2,trivial⟩);refine rO (Cs [(⟨s.heap.size,0,none⟩,.int .i64 K),(⟨s.heap.size,1,none⟩,.int .i64 L),(⟨s.heap.size,2,none⟩,.int .i64 N),(⟨Y,0,none⟩,.int .i64 O),(⟨Y,1,none⟩,.int .i64 R),(⟨Y,2,none⟩,.int .i64 T)]) (oL [0,1,2,5,103,104,106,7]) (aq.out _ (Below.refl _ _).drew) ?_
   (refine pO ?_)
   (refine pO ?_)
   (refine pO ?_)
   (refine pO ?_)
   refine oO fun Kv hK=>?_;go_simp;refine (ZpT (O,R,T) ln _ HE.out.1 ar.out.1 (by have:=ar.out.2;omega)).mono ?_;rintro e w5 ⟨rfl,aW⟩
   try simp only [ag3]
   have aL:=Zh (Zag (Below.refl _ w4).drew aW);refine hK _ _ ⟨aq.out _ aL.out,?_⟩;clear hK Kv aW;have au:=Zh (BdT.ml (a:=(O,R,T)) (n:=ln) HE.out.1 ar.out.1);have ay:=Zh (fun e=>V.out HQ.out (O,R,T) (HE.out.2.1 e));generalize mlT (O,R,T) ln=ml at au ay;refine oO fun Kv hK=>?_;go_simp;refine (ZpQ (K,L,N) ml _ B.out au.out).mono ?_;rintro e w6 ⟨rfl,aX⟩
   try simp only [ag3]
   have u:=Zh (Zag aL.out aX);refine hK _ _ ⟨aq.out _ u.out,?_⟩;clear hK Kv aX;have aN:=Zh (BdT.pl (a:=(K,L,N)) (b:=ml) B.out au.out);generalize plT (K,L,N) ml=p at aN ay;obtain ⟨p0,p1,p2⟩:=p;refine oO fun Kv hK=>?_;obtain ⟨r0,r1,r2⟩:=(ab.out.old u.out).c3;obtain ⟨f0,f1,f2⟩:=(ab.out.old u.out).f3;have rl:=(ab.out.old u.out).lt;go_simp;have HZ:=Zh (Zru HH.out (bj.out.old u.out) (ab.out.old u.out) HX.out (p0,p1,p2));have ae:=(((ad.out.old u.out).other (a:=⟨X+1,0,none⟩) C.out.2 (.int .i64 p0)).other (a:=⟨X+1,1,none⟩) C.out.2 (.int .i64 p1)).other (a:=⟨X+1,2,none⟩) C.out.2 (.int .i64 p2);have ag:=(((af.out.old u.out).other (a:=⟨X+1,0,none⟩) C.out.1 (.int .i64 p0)).other (a:=⟨X+1,1,none⟩) C.out.1 (.int .i64 p1)).other (a:=⟨X+1,2,none⟩) C.out.1 (.int .i64 p2);refine hK _ _ ⟨⟨ae.c3.1,ae.c3.2.1,ae.c3.2.2,ag.c3.1,ag.c3.2.1,ag.c3.2.2,trivial⟩,?_⟩;clear hK Kv r0 r1 r2 f0 f1 f2 rl ae ag
   (refine pO ?_)
   refine Zd7 ?_
   go_wp2_with fail
   have z0:=HZ.out.2.c3.1;have z1:=HZ.out.2.c3.2.1;have z2:=HZ.out.2.c3.2.2;exact bodyPost_ret (v:=.tuple #[ag3 (p0,p1,p2),.bool ok]) (by simp [results,Tryz.results77,go_sem,ag3,z0,z1,z2]) rfl (HZ.out.1.val rfl aN.out (fun e=>ay.out e) (fun e=>⟨d,aa.out HQ.out,HE.out.2.2 e⟩))
 ·have V:=Zh (Zrt (m:=m) (t:=⟨tk,tc⟩) ⟨q2,q3,q4⟩);have bz:(tk == 2)=false:=by simpa using q2
  have bA:(tk == 3)=false:=by simpa using q3
  have bB:(tk == 4)=false:=by simpa using q4
  clear q q2 q3 q4;go_enter Tryz.func77,Tryz.ntmps77
  go_upto_region 1 with fail
  rw [←HW.out,←F.out];obtain ⟨z,A⟩:=Zj9 HT.out;obtain ⟨r0,r1,r2⟩:=E.out.c3;obtain ⟨f0,f1,f2⟩:=E.out.f3
  go_wp2_with fail
  have r:=Zru HH.out g.out E.out HX.out ((0,0,0):T3);have z0:=r.2.c3.1;have z1:=r.2.c3.2.1;have z2:=r.2.c3.2.2;exact bodyPost_ret (v:=.tuple #[ag3 ((0,0,0):T3),.bool true]) (by simp [results,Tryz.results77,go_sem,ag3,z0,z1,z2]) rfl (r.1.val rfl .z (fun _=>V.out) (fun e=>by cases e))
end
end
section
open Go.RowKit
attribute [local go_sem] World.cell?_alloc_some
def Zrw (w:World):Ending→World→Prop:=fun e w'=>(∃ b,e=.returned (.bool b))∧Below w.heap.size w w'
theorem Zrx (m:Md) (h:Hd) (w:World) (H:Zaz w h m):Calls Tryz.prog 20 #[.agg (HM.mk h m)] w (Zrw w):=by
  obtain ⟨z,u⟩:∃ z,z=w.alloc (.cells (HM.mk h m) 26):=⟨_,rfl⟩;have G:=Zh (show Below w.heap.size w z by rw [u];exact bE);have B:=Zh (show Blk z w.heap.size (HM.mk h m) 26 by rw [u];exact Blk.new _ _ _);have I:=Zh (H.old G.out);have K:=Zh u;have F:=H.bz;obtain ⟨Z,z2,z3⟩:=F;clear u H;go_enter Tryz.func20,Tryz.ntmps20
  go_upto_region 1 with fail
  rw [←K.out];have A:=B.out.cell 0 (v:=.slice h.co m.cl.length h.cc) rfl;have V:=B.out.cell 1 (v:=.slice h.so m.st.length h.sc) rfl;have E:=B.out.cell 2 (v:=.slice h.eo m.me.length h.ec) rfl
  go_upto_region 2 with fail
  clear A V E;go_wp2
  go_loopw [3,4] (fun s i wr=>∃ (k:Nat) (n:Int),k≤m.cl.length∧i=.int .i64 k∧s=.int .i64 n∧Hid (Below z.heap.size z wr)) (fun _ i _=>m.cl.length-(intOf i).toNat)
  case atStart=>exact ⟨0,_,Nat.zero_le _,rfl,rfl,by exact bE⟩
  case round=>
    obtain ⟨k,n,W,rfl,rfl,f⟩:=hrel;rename World=>wo;have A:=(B.out.old f.out).cell 0 (v:=.slice h.co m.cl.length h.cc) rfl;by_cases hc:k<m.cl.length∧n≤400
    · obtain ⟨j,L⟩:=hc;have x:(k:Int) < m.cl.length:=by omega
      have R:IntKind.i64.wrap ((k:Int)+1)=((k+1:Nat):Int):=IntWalk.i64_in _ (by omega);obtain ⟨b,e,-,-,C,D⟩:=(I.out.old f.out).cls j;rw [e] at A;clear e
      go_upto_region 5 with fail
      refine rO (Cs [(⟨w.heap.size,0,none⟩,.slice (some b) m.cl.length h.cc),(⟨(b.add (k*4)).block,(b.add (k*4)).off+2,none⟩,.slice (h.c k).fo (m.cl.getD k default).f.length (h.c k).fc),(⟨(b.add (k*4)).block,(b.add (k*4)).off+3,none⟩,.slice (h.c k).mo (m.cl.getD k default).m.length (h.c k).mc)]) (oL [0,1,2,3,4,5,6,7,8,9,10,11,12,13,14,15,16,17]) ⟨A,C,D,trivial⟩ ?_;clear A C D
      repeat refine pO ?_
      refine Zd7 ?_;go_wp2;exact ⟨⟨k+1,_,j,rfl,rfl,f.out.drew⟩,by simp [intOf];omega⟩
    · by_cases j:k<m.cl.length
      all_goals first
        | (have x:(k:Int) < m.cl.length:=by omega
           have L:¬ n≤400:=fun q=>hc ⟨j,q⟩;have N:400<n:=by omega
           clear hc;go_wp2)
        | (have x:¬ (k:Int) < m.cl.length:=by omega
           clear hc;go_wp2)
      all_goals
        clear A
        go_loopw [3,5] (fun s i wr=>∃ (k:Nat) (n:Int),k≤m.me.length∧i=.int .i64 k∧s=.int .i64 n∧Hid (Below z.heap.size z wr)) (fun _ i _=>m.me.length-(intOf i).toNat)
        case atStart=>exact ⟨0,_,Nat.zero_le _,rfl,rfl,f.out⟩
        case round=>
          obtain ⟨q,p,X,rfl,rfl,g⟩:=hrel;rename World=>Y;have E:=(B.out.old g.out).cell 2 (v:=.slice h.eo m.me.length h.ec) rfl;by_cases hc:q<m.me.length∧p≤3000
          · obtain ⟨r,O⟩:=hc;have y:(q:Int) < m.me.length:=by omega
            have T:IntKind.i64.wrap ((q:Int)+1)=((q+1:Nat):Int):=IntWalk.i64_in _ (by omega);obtain ⟨b,e,-,-,C,D,-,-,J⟩:=(I.out.old g.out).mth r;rw [e] at E;clear e
            go_upto_region 9 with fail
            refine rO (Cs [(⟨w.heap.size,2,none⟩,.slice (some b) m.me.length h.ec),(⟨(b.add (q*7)).block,(b.add (q*7)).off+2,none⟩,.slice (h.e q).po (m.me.getD q default).p.length (h.e q).pc),(⟨(b.add (q*7)).block,(b.add (q*7)).off+3,none⟩,.slice (h.e q).lo (m.me.getD q default).l.length (h.e q).lc),(⟨(b.add (q*7)).block,(b.add (q*7)).off+6,none⟩,.slice (h.e q).ko (m.me.getD q default).k.length (h.e q).kc)]) (oL [0,1,2,3,4,5,6,7,8,9,10,11,12,13,14,15,16,17,18,19,20,21,22,23,24,25]) ⟨E,C,D,J,trivial⟩ ?_;clear E C D J
            repeat refine pO ?_
            refine Zd7 ?_;go_wp2;exact ⟨⟨q+1,_,r,rfl,rfl,g.out.drew⟩,by simp [intOf];omega⟩
          · by_cases r:q<m.me.length
            all_goals first
              | (have y:(q:Int) < m.me.length:=by omega
                 have O:¬ p≤3000:=fun q=>hc ⟨r,q⟩;clear hc;go_wp2)
              | (have y:¬ (q:Int) < m.me.length:=by omega
                 clear hc;go_wp2)
            all_goals
              go_ret;exact ⟨⟨_,rfl⟩,Zag G.out g.out⟩
def wiV (a b:T3):Bool:=decide (a.1≤b.1)&&decide (a.2.1≤b.2.1)&&decide (a.2.2≤b.2.2)
theorem Zry {a b:T3}:wiV a b=true↔LeT a b:=by simp [wiV,LeT,and_assoc]
theorem Zrz (a b:T3) (w:World):Calls Tryz.prog 24 #[ag3 a,ag3 b] w (Ret w (.bool (wiV a b))):=by
 obtain ⟨c,d,e⟩:=a;obtain ⟨f,g,i⟩:=b;unfold ag3;go_enter Tryz.func24,Tryz.ntmps24;go_wp2
 all_goals
  go_ret;exact ZcP (ZcT (by simp [wiV];omega)) bE
end
