import Derived.Test.YtcfjblcgceednaaGreatJ35
import Derived.Test.YtcfjblcgceednaaGreatJ36
set_option linter.all false
set_option maxRecDepth 100000
set_option maxHeartbeats 8000000
namespace Go.Proofs.YtcfjblcgceednaaGreat
section
open Go.RowKit
structure RT (w:World) (B g:Nat) (h:Hd) (m:Md) (bv:Int) (l:Bool) (L:List Int):Prop where
 tb:Blk w B #[.slice h.co m.cl.length h.cc,.slice h.so m.st.length h.sc,.slice h.eo m.me.length h.ec,.int .i64 m.sel,.int .i64 bv,.bool l,.slice (some ⟨g,0,none⟩) m.me.length m.me.length] 132
 nb:Blk w g (Zp1 L) 3
 md:Zay w h m
 ln:L.length=m.me.length
theorem RT.old {w w':World}{B g:Nat}{h:Hd}{m:Md}{bv:Int}{l:Bool}{L:List Int} (H:RT w B g h m bv l L) (hb:Below w.heap.size w w'):RT w' B g h m bv l L:=⟨H.tb.old hb,H.nb.old hb,H.md.old hb,H.ln⟩
def tlV (bv:Int):Int:=if bv=0 then 1 else 0
def scV (bv:Int):Bool:=decide (bv≠0)&&decide (bv≠4)
def Zrh (bv:Int) (m:Md) (x:Ms) (c:List In3):Prop:=∀ i∈c,∀ w h,Zay w h m→Calls Tryz.prog 289 #[.agg (HM.mk h m),ZI.i i,.int .i64 bv] w (Ret w (.int .i64 (x.wt i)))
theorem Zri {m:Md}{c:List In3} (n:∀ i∈c,ZaQ false i=true):Zrh 0 m ZmV c:=fun i g w h H=>by
 have f:=Zh (fun o=>Zp0 i o (n i g))
 obtain ⟨q,d⟩:∃ q,q=ZmU i:=⟨_,rfl⟩
 rw [←d] at f
 rw [show ZmV.wt i=q from d.symm]
 clear d g
 obtain ⟨r,a,b⟩:=i
 go_enter Tryz.func289,Tryz.ntmps289
 go_wp2_with (go_at_call 214;refine (f.out _).mono ?_;rintro e s ⟨rfl,j⟩)
 go_ret
 exact ZcT rfl bE
theorem Zrj {w:World}{B g:Nat}{h:Hd}{m:Md}{bv:Int}{l:Bool}{L:List Int} (H:RT w B g h m bv l L):Calls Tryz.prog 291 #[ZQ.p B] w (Ret w (.int .i64 (tlV bv))):=by
 have e:=H.tb.cell 4 (v:=.int .i64 bv) rfl;have d:=H.tb.lt;obtain ⟨q,a⟩:∃ q,q=tlV bv:=⟨_,rfl⟩;rw [←a];unfold tlV at a;have b:=Zh a;clear a H;go_enter Tryz.func291,Tryz.ntmps291;go_wp2
 all_goals
  go_ret;refine ZcT (ZcY ?_) bE;rw [b.out];grind
theorem Zrk {a b:Int} (ha:Bl a) (d:Bl b):Bl (Zqy a b):=ZqG ha d▸Zp6 ha d
theorem Zrl {a b:Int} (ha:Bl a) (d:Bl b):Bl (max a b):=by unfold Bl at *;omega
theorem Zrm {w:World}{B g:Nat}{h:Hd}{m:Md}{bv:Int}{l:Bool}{L:List Int} (H:RT w B g h m bv l L) (i:In3) (f s o t:Int) (hf:Bl f) (hs:Bl s) (ho:0≤o∧o≤1000) (ht:0≤t∧t≤1000) (hi:i.op=30→0≤i.a∧i.a≤1000) :
  Calls Tryz.prog 290 #[ZQ.p B,ZI.i i,.int .i64 f,.int .i64 s,.int .i64 o,.int .i64 t] w (Ret w (.int .i64 (ZqB l (scV bv) i f s o t))):=by
 have ai:Bl o:=by unfold Bl;omega
 have aj:Bl t:=by unfold Bl;omega
 obtain ⟨q,hq⟩:∃ q,q=ZqB l (scV bv) i f s o t:=⟨_,rfl⟩;rw [←hq];obtain ⟨F,a,b⟩:=i;dsimp only at hi;unfold ZqB at hq;dsimp only at hq;have HQ:=Zh hq;obtain ⟨y,u⟩:∃ y,y=w.alloc (.cells #[.int .i64 F,.int .i64 a,.int .i64 b] 78):=⟨_,rfl⟩;have HB:=Zh (show Below w.heap.size w y by rw [u];exact bE);have r:=Zh (show Blk y w.heap.size #[.int .i64 F,.int .i64 a,.int .i64 b] 78 by rw [u];exact Blk.new _ _ _);have z:=Zh (H.tb.old HB.out);have j:=Zh (show Below y.heap.size y y by exact bE);have HW:=Zh u;clear u H hq;go_enter Tryz.func290,Tryz.ntmps290
 go_upto_region 1 with fail
 rw [←HW.out];have G:=r.out.cell 0 (v:=.int .i64 F) rfl;have C:=r.out.cell 1 (v:=.int .i64 a) rfl;have I:=z.out.cell 4 (v:=.int .i64 bv) rfl;have J:=z.out.cell 5 (v:=.bool l) rfl;by_cases h30:F=30
 ·subst h30;have E:=hi rfl;cases l with
  |true=>
   go_wp2;go_ret;exact ZcT (ZcY (by rw [HQ.out];rfl)) (Zaf HB.out j.out)
  |false=>
   have W:-1000≤a*ZmS f t:=by
    have h1:-1≤ZmS f t:=by unfold ZmS ZmR Bl at *;omega
    have h2:=Int.mul_le_mul_of_nonneg_left h1 E.1;omega
   have Y:a*ZmS f t≤1000000001000:=by
    by_cases h0:0≤ZmS f t
    ·exact Int.le_trans (Int.mul_le_mul E.2 (show ZmS f t≤1000000001 by unfold ZmS ZmR;omega) h0 (by decide)) (by decide)
    ·have:=Int.mul_nonpos_of_nonneg_of_nonpos E.1 (show ZmS f t≤0 by omega);omega
   have Z:-1000≤ZmT a (ZmS f t)∧ZmT a (ZmS f t)≤1000000001:=by unfold ZmT ZmR;omega
   have D:=Zh (And.intro (And.intro W Y) Z);clear W Y Z
   go_upto_region 10 with fail
   refine rO (Cs [(⟨w.heap.size,1,none⟩,.int .i64 a)]) (oL [0,1,2,3,4,105,106,107,8]) ⟨C,trivial⟩ ?_;clear G C I J
   repeat refine pO ?_
   refine oO fun O A=>?_;go_simp;refine (ZqS f t _ (by unfold Bl at hf;omega) (by omega)).mono ?_;rintro e w1 ⟨rfl,R⟩;have K:=Zh (Zaf (Below.refl y.heap.size y).drew R);refine A _ _ ⟨⟨(r.out.old K.out).cell 1 (v:=.int .i64 a) rfl,trivial⟩,?_⟩;clear A O R
   repeat refine pO ?_
   refine oO fun O A=>?_;go_simp;refine (ZqT a (ZmS f t) _ D.out.1.1 D.out.1.2).mono ?_;rintro e w2 ⟨rfl,U⟩;have M:=Zh (Zaf K.out U);refine A _ _ ⟨⟨(r.out.old M.out).cell 1 (v:=.int .i64 a) rfl,trivial⟩,?_⟩;clear A O U
   repeat refine pO ?_
   refine oO fun O A=>?_;go_simp;refine (ZqS o (ZmT a (ZmS f t)) _ (by omega) (by have:=D.out.2;omega)).mono ?_;rintro e w3 ⟨rfl,V⟩;have N:=Zh (Zaf M.out V);refine A _ _ ⟨⟨(r.out.old N.out).cell 1 (v:=.int .i64 a) rfl,trivial⟩,?_⟩;clear A O V
   repeat refine pO ?_
   refine Zd5 ?_;go_wp2;go_ret;exact ZcT (ZcY (by rw [HQ.out];rfl)) (Zaf HB.out N.out)
 ·go_wp2_with (first
   | (go_at_call 350;refine (ZqU _ _ _ (by (repeat (first|assumption|apply ZqF|apply Zrk|apply Zrl))) (by (repeat (first|assumption|apply ZqF|apply Zrk|apply Zrl)))).mono ?_;rintro e wn ⟨rfl,n⟩;have j:=Zh (Zaf j.out n);clear n G C I J;have G:=(r.out.old j.out).cell 0 (v:=.int .i64 F) rfl;have C:=(r.out.old j.out).cell 1 (v:=.int .i64 a) rfl;have I:=(z.out.old j.out).cell 4 (v:=.int .i64 bv) rfl;have J:=(z.out.old j.out).cell 5 (v:=.bool l) rfl)
   | (go_at_call 351;refine (ZqV _ _ _).mono ?_;rintro e wn ⟨rfl,n⟩;have j:=Zh (Zaf j.out n);clear n G C I J;have G:=(r.out.old j.out).cell 0 (v:=.int .i64 F) rfl;have C:=(r.out.old j.out).cell 1 (v:=.int .i64 a) rfl;have I:=(z.out.old j.out).cell 4 (v:=.int .i64 bv) rfl;have J:=(z.out.old j.out).cell 5 (v:=.bool l) rfl)
   | (go_at_call 166;refine (ZqS _ _ _ (by unfold Bl ZmS ZmR at *;omega) (by unfold Bl ZmS ZmR at *;omega)).mono ?_;rintro e wn ⟨rfl,n⟩;have j:=Zh (Zaf j.out n);clear n G C I J;have G:=(r.out.old j.out).cell 0 (v:=.int .i64 F) rfl;have C:=(r.out.old j.out).cell 1 (v:=.int .i64 a) rfl;have I:=(z.out.old j.out).cell 4 (v:=.int .i64 bv) rfl;have J:=(z.out.old j.out).cell 5 (v:=.bool l) rfl))
  all_goals
   go_ret;refine ZcT (ZcY ?_) (Zaf HB.out j.out);rw [HQ.out];unfold scV;grind
end
section
open Go.RowKit
theorem Zrn {l:List Int}{k:Nat} (h:k<l.length):l.getD k 0∈l:=by
 have:l.getD k 0=l[k]:=by simp [h]
 rw [this];exact List.getElem_mem _
def Zro (L:List Int):Int→Int:=fun t=>L.getD t.toNat 0
def Zrp (l:Bool) (T:Int→Int) (ts:List Int) (j:Nat):Int:=(ts.take j).foldl (fun a t=>Zqz l a (T t)) (-1)
theorem Zrq {l:Bool}{T:Int→Int}{a:List Int}{j:Nat} (b:j<a.length):Zrp l T a (j+1)=Zqz l (Zrp l T a j) (T (a.getD j 0)):=by
 unfold Zrp;rw [List.take_succ_eq_append_getElem b,List.foldl_append];have d:a[j]=a.getD j 0:=by simp [b]
 rw [d];rfl
theorem Zrr {m:Md} (h:Za1 m=true):m.cl.length≤10∧m.me.length≤16:=by have:=ZfJ h;unfold ZaZ at this;simp only [Bool.and_eq_true,decide_eq_true_eq] at this;omega
theorem Zrs {w:World}{B g:Nat}{h:Hd}{m:Md}{bv:Int}{l:Bool}{L:List Int} (H:RT w B g h m bv l L) (hm:Za1 m=true) (i:In3) (J:i.op=25→0≤i.a∧i.a<m.me.length) (K:i.op=26→0≤i.a∧i.a<m.sel∧∀ t∈ZaN m i.a,0≤t∧t<m.me.length) :
  Calls Tryz.prog 288 #[ZQ.p B,ZI.i i] w (Ret w (.int .i64 (ZqA l m (Zro L) i))):=by
 have ax:=Zh (show m.me.length≤1000 by have:=(Zrr hm);omega);obtain ⟨q,O⟩:∃ q,q=ZqA l m (Zro L) i:=⟨_,rfl⟩;rw [←O];obtain ⟨U,C,b⟩:=i;unfold ZqA at O;dsimp only at J K O;have Z:=Zh O;obtain ⟨E,u⟩:∃ E,E=w.alloc (.cells #[.int .i64 U,.int .i64 C,.int .i64 b] 78):=⟨_,rfl⟩;have Y:=Zh (show Below w.heap.size w E by rw [u];exact bE);have HX:=Zh (show Blk E w.heap.size #[.int .i64 U,.int .i64 C,.int .i64 b] 78 by rw [u];exact Blk.new _ _ _);have r:=Zh (H.old Y.out);have HW:=Zh u;have G:=Zh hm;clear u H O hm;go_enter Tryz.func288,Tryz.ntmps288
 go_upto_region 1 with fail
 rw [←HW.out];have x0:=HX.out.cell 0 (v:=.int .i64 U) rfl;have V:=HX.out.cell 1 (v:=.int .i64 C) rfl;by_cases e25:U=25
 ·subst e25;obtain ⟨a0,a1⟩:=J rfl;obtain ⟨a,rfl⟩:∃ a:Nat,C=a:=⟨C.toNat,by omega⟩;have W:=r.out.tb.cell 6 (v:=.slice (some ⟨g,0,none⟩) m.me.length m.me.length) rfl;have F:=Zp3 r.out.nb (k:=a) (by have:=r.out.ln;omega)
  go_upto_region 2 with fail
  refine rO (Cs [(⟨w.heap.size,1,none⟩,.int .i64 a),(⟨B,6,none⟩,.slice (some ⟨g,0,none⟩) m.me.length m.me.length),(⟨g,a,none⟩,.int .i64 (L.getD a 0))]) (oL [0,1,2,3,4,5,6,7,8]) ⟨V,W,F,trivial⟩ ?_;clear x0 V W F
  repeat refine pO ?_
  refine Zd5 ?_;go_wp2;go_ret;exact ZcT (ZcY (by rw [Z.out];unfold Zro;simp)) (by have:=Y.out;exact bE)
 ·by_cases e26:U=26
  ·subst e26;obtain ⟨a0,a1,a2⟩:=K rfl;obtain ⟨a,rfl⟩:∃ a:Nat,C=a:=⟨C.toNat,by omega⟩;have I:=Zh (fun w' hb=>Zjn m h a w' (r.out.md.old (w':=w') hb) G.out a1);obtain ⟨f,A⟩:∃ f,f=ZaN m a:=⟨_,rfl⟩;rw [←A] at I Z a2;have ae:=Zh a2;have ag:=Zh (show f.length≤1000 by rw [A];have:=ZdG m a;have:=(Zrr G.out);omega);have x2:=r.out.tb.cell 0 (v:=.slice h.co m.cl.length h.cc) rfl;have x3:=r.out.tb.cell 1 (v:=.slice h.so m.st.length h.sc) rfl;have x4:=r.out.tb.cell 2 (v:=.slice h.eo m.me.length h.ec) rfl;have x5:=r.out.tb.cell 3 (v:=.int .i64 m.sel) rfl;clear a2 A
   go_upto_region 5 with fail
   have af:=Zh (show Cs [(⟨w.heap.size,1,none⟩,.int .i64 a),(⟨B,0,none⟩,.slice h.co m.cl.length h.cc),(⟨B,1,none⟩,.slice h.so m.st.length h.sc),(⟨B,2,none⟩,.slice h.eo m.me.length h.ec),(⟨B,3,none⟩,.int .i64 m.sel)] E from ⟨V,x2,x3,x4,x5,trivial⟩);refine rO (Cs [(⟨w.heap.size,1,none⟩,.int .i64 a),(⟨B,0,none⟩,.slice h.co m.cl.length h.cc),(⟨B,1,none⟩,.slice h.so m.st.length h.sc),(⟨B,2,none⟩,.slice h.eo m.me.length h.ec),(⟨B,3,none⟩,.int .i64 m.sel)]) (oL [0,1,2,3,4,5,106,7,8,9,10,11]) ⟨V,x2,x3,x4,x5,trivial⟩ ?_;clear x0 V x2 x3 x4 x5
   repeat refine pO ?_
   refine oO fun Kv hK=>?_;go_simp;refine (I.out _ (Below.refl _ _).drew).mono ?_;rintro e w1 ⟨⟨aG,tc,rfl,R⟩,M⟩;have y:=Zh (Zaf (Below.refl E.heap.size E).drew M);have ai:=Zh R;refine hK _ _ ⟨Cs.keeps (Zox.of y.out) af.out,?_⟩;clear hK Kv M R
   repeat refine pO ?_
   refine Zd5 ?_;go_wp2;have ah:=Zh (r.out.old y.out)
   go_loopw [7,8] (fun bs j wr=>∃ n:Nat,n≤f.length∧j=.int .i64 n∧bs=.int .i64 (Zrp l (Zro L) f n)∧Hid (Below w1.heap.size w1 wr)) (fun _ j _=>f.length-(intOf j).toNat)
   case atStart=>exact ⟨0,Nat.zero_le _,rfl,rfl,by exact bE⟩
   case round=>
    obtain ⟨n,hn,rfl,rfl,s⟩:=hrel;rename World=>wo;by_cases hnl:n<f.length
    ·have au:(n:Int) < f.length:=by omega
     have aF:IntKind.i64.wrap ((n:Int)+1)=((n+1:Nat):Int):=IntWalk.i64_in _ (by have:=ag.out;omega);obtain ⟨ad,rfl,t0⟩:=ZaB (ai.out.old s.out) hnl;obtain ⟨t,ht⟩:∃ t,t=f.getD n 0:=⟨_,rfl⟩;rw [←ht] at t0;have aE:=ae.out t (by rw [ht];exact Zrn hnl);have HS:=Zh (Zrq (l:=l) (T:=Zro L) hnl);rw [←ht] at HS;obtain ⟨bs,N⟩:∃ bs,bs=Zrp l (Zro L) f n:=⟨_,rfl⟩;rw [←N] at HS ⊢;clear N ht;obtain ⟨D,rfl⟩:∃ D:Nat,t=D:=⟨t.toNat,by omega⟩;obtain ⟨x,hx⟩:∃ x,x=Zro L D:=⟨_,rfl⟩;have z:=Zh (ah.out.old s.out);have W:=z.out.tb.cell 6 (v:=.slice (some ⟨g,0,none⟩) m.me.length m.me.length) rfl;have F:=Zp3 z.out.nb (k:=D) (by have:=r.out.ln;omega);rw [show L.getD D 0=x by rw [hx];unfold Zro;rw [Int.toNat_natCast]] at F;rw [←hx] at HS;clear hx
     go_upto_region 10 with fail
     refine rO (Cs [(⟨B,6,none⟩,.slice (some ⟨g,0,none⟩) m.me.length m.me.length),(ad.add n,.int .i64 D),(⟨g,D,none⟩,.int .i64 x)]) (oL [0,1,2,3,4,5,6,7,8,9,10]) ⟨W,t0,F,trivial⟩ ?_;clear W t0 F
     repeat refine pO ?_
     refine Zd5 ?_;have x5:=(show Blk wo.drew B _ _ from z.out.tb).cell 5 (v:=.bool l) rfl;go_wp2
     all_goals
      refine ⟨⟨n+1,by omega,rfl,?_,s.out.drew⟩,by simp [intOf];omega⟩;rw [HS.out];unfold Zqz;grind
    ·obtain rfl:n=f.length:=by omega
     have aD:¬ (f.length:Int) < f.length:=by omega
     go_wp2;go_ret;refine ZcT (ZcY ?_) (Zaf Y.out (Zaf y.out s.out));rw [Z.out];unfold Zrp;rw [List.take_length];simp
  ·go_wp2;go_ret;exact ZcT (ZcY (by rw [Z.out,if_neg e25,if_pos e26])) Y.out
end
section
open Go.RowKit
def Pl (l:Bool) (n:Int):Prop:=(l=false→0≤n)∧Bl n
theorem Pl.of {l:Bool}{n:Int} (h:Bd n):Pl l n:=⟨fun _=>h.1,Bl.of h⟩
theorem Zrt {l:Bool}{a b:Int} (ha:Pl l a) (d:Pl l b):Pl l (Zqx a b):=by refine ⟨fun q=>?_,ZqF ha.2 d.2⟩;have:=ha.1 q;have:=d.1 q;unfold Zqx ZmS ZmR;rw [if_neg (by omega)];omega
theorem Zru {l:Bool}{a b:Int} (ha:Bd a) (d:Bd b):Pl l (ZmS a b):=Pl.of (ZoD ha d)
theorem Zrv {l:Bool}{a n:Int} (ha:Bl a) (b:Pl l n):Bl (Zqz l a n):=by
 unfold Zqz Pl Bl at *
 repeat' split
 all_goals omega
theorem Zrw {a n:Int} (b:0≤n):0≤Zqz false a n:=by
 unfold Zqz
 repeat' split
 all_goals simp_all
 all_goals omega
theorem Zrx {l:Bool}{T:Int→Int}:∀ (b:List Int) (a:Int),Bl a→(∀ t∈b,Pl l (T t))→Bl (b.foldl (fun a t=>Zqz l a (T t)) a)∧(l=false→(b≠[]∨0≤a)→0≤b.foldl (fun a t=>Zqz l a (T t)) a)
 | [],a,ha,_=>⟨ha,fun _ q=>by rcases q with q|q;exact absurd rfl q;exact q⟩
 |t :: b,a,ha,h=>by have d:=h t (by simp);obtain ⟨g,j⟩:=Zrx b (Zqz l a (T t)) (Zrv ha d) fun u f=>h u (by simp [f]);refine ⟨g,fun e _=>j e (.inr ?_)⟩;subst e;exact Zrw (d.1 rfl)
structure RCx (bv:Int) (x:Ms) (l:Bool) (m:Md) (k:Nat) (L:List Int):Prop where
 hm:Za1 m=true
 hk:k<m.me.length
 sd:ZqK m (cdM m k)
 ow:Zrh bv m x (cdM m k)
 wt:∀ i∈cdM m k,0≤x.wt i∧x.wt i≤1000
 tl:x.tl=tlV bv
 sc:x.sc=scV bv
 nu:∀ t,Pl l (Zro L t)
section
variable {bv:Int}{x:Ms}{l:Bool}{m:Md}{k:Nat}{L:List Int} (H:RCx bv x l m k L)
include H
theorem RCx.ok:ZfM m k:=ZfN H.hm H.hk
theorem RCx.code:ZaV false (cdM m k)=0:=(ZpV H.hm default).code H.hk
theorem RCx.opd {i:In3} (hi:i∈cdM m k):ZfR m k i:=ZfS (H.ok.i i hi).1 (H.ok.i i hi).2
theorem RCx.called {i:In3} (hi:i∈cdM m k):Pl l (ZqA l m (Zro L) i):=by
 unfold ZqA;split
 ·exact H.nu _
 ·split
  ·exact Pl.of (by unfold Bd;omega)
  ·rename_i a;obtain ⟨b,d⟩:=Zrx (l:=l) (T:=Zro L) (ZaN m i.a) (-1) (by unfold Bl;omega) fun t _=>H.nu t;exact ⟨fun e=>d e (.inl (H.sd i hi (by omega))),b⟩
theorem RCx.tlb:0≤x.tl∧x.tl≤1000:=by rw [H.tl];unfold tlV;split<;>omega
theorem RCx.pl {i:In3} (hi:i∈cdM m k):Pl l ((gR l x m (Zro L)).pl i):=by
 have a:=H.called hi;have hw:=H.wt i hi;show Pl l (if l=true∧i.op=28 then (-1:Int) else if ZqA l m (Zro L) i=-1 then (-1:Int) else ZmS (x.wt i) (ZqA l m (Zro L) i));generalize ZqA l m (Zro L) i=c at *;cases l with
 |true=>
  refine ⟨(fun q=>by cases q),?_⟩;have:=a.2;unfold Bl ZmS ZmR at *
  repeat' split
  all_goals omega
 |false=>
  have d:=a.1 rfl;have b:=a.2;unfold Bl at b;rw [if_neg (fun q=>by cases q.1),if_neg (by omega)];exact Zru (by unfold Bd;omega) (by unfold Bd;omega)
theorem RCx.brk {i:In3} (hi:i∈cdM m k) {f s:Int} (hf:Pl l f) (hs:Pl l s):Pl l ((gR l x m (Zro L)).brk i f s):=by
 have hw:=H.wt i hi;have ht:=H.tlb;have g:Pl l (x.wt i):=Pl.of (by unfold Bd;omega);have d:Pl l x.tl:=Pl.of (by unfold Bd;omega);have j:Bd (x.wt i):=by unfold Bd;omega
 have a:Bd x.tl:=by unfold Bd;omega
 show Pl l (ZqB l x.sc i f s (x.wt i) x.tl);unfold ZqB;cases l with
 |true=>
  simp only [if_true];have p:∀ n,Bl n→Pl true n:=fun n h=>⟨(fun q=>by cases q),h⟩;have r:=ZqF g.2 (Zrk (ZqF hf.2 d.2) (ZqF hs.2 d.2));have u:=ZqF g.2 (ZqF hf.2 d.2)
  repeat' split
  all_goals first|exact p _ r|exact p _ u|exact g|exact Pl.of (by unfold Bd;omega)
 |false=>
  simp only [Bool.false_eq_true,if_false];have b:Bd f:=⟨hf.1 rfl,hf.2.2⟩;have e:Bd s:=⟨hs.1 rfl,hs.2.2⟩;have o:Pl false (max (Zqx f x.tl) (Zqx s x.tl)):=by rw [ZqD b a,ZqD e a];exact Pl.of (ZoF (ZoD b a) (ZoD e a))
  by_cases h29:i.op=29
  ·rw [if_pos h29];exact Zrt g o
  ·rw [if_neg h29];by_cases h30:i.op=30
   ·rw [if_pos h30];exact Zru j (ZoE ((H.opd hi).a0 (by omega)) (ZoD b a))
   ·rw [if_neg h30];split
    ·exact Pl.of (by unfold Bd;omega)
    ·split
     ·exact Zru (ZoD j (ZoD b a)) e
     ·exact Zrt g (Zrt hf d)
theorem RCx.wa {a b:Nat} (hs:Seg (cdM m k) a b) {acc:Int} (ha:Pl l acc):Pl l (WA (gR l x m (Zro L)) (cdM m k) a b acc):=
 (ZqC (g:=gR l x m (Zro L)) (g':=gR l x m (Zro L)) hs (Pl.of (by unfold Bd;omega)) (fun _ _ e h=>⟨rfl,Zrt e h⟩) (fun i d=>⟨rfl,H.pl d⟩) (fun i d f s j hs=>⟨rfl,H.brk d j hs⟩) acc ha).2
end
end
section
open Go.RowKit
abbrev GR (x:Ms) (l:Bool) (m:Md) (L:List Int):Wg:=gR l x m (Zro L)
def Zry (B g:Nat) (h:Hd) (bv:Int) (x:Ms) (l:Bool) (m:Md) (k:Nat) (L:List Int) (a b:Nat):Prop:=∀ w,RT w B g h m bv l L →
 Calls Tryz.prog 155 #[ZQ.p B,.slice (h.e k).ko (cdM m k).length (h.e k).kc,.int .i64 a,.int .i64 b] w (Ret w (.int .i64 (WA (GR x l m L) (cdM m k) a b 0)))
theorem Zrz {c:List In3}{p b:Nat} (d:p=b∨(p<b∧ZaR (c.getD p default).op=false∧(c.getD p default).op≠34∧(c.getD p default).op≠35∧Seg c (p+1) b) ∨
  (∃ en:Nat,Mat c p (-1) en∧p<en∧en<b∧Seg c (p+1) en∧Seg c (en+1) b)∨∃ n en:Nat,Mat c p n en∧p<n∧n<en∧en<b∧Seg c (p+1) n∧Seg c (n+1) en∧Seg c (en+1) b) (f:p<b) (a:ZaR (c.getD p default).op=true) :
  ∃ (alt:Int) (en q:Nat),Mat c p alt en∧p<q∧q≤en∧en<c.length∧Seg c (p+1) q∧((alt=-1∧q=en)∨(alt=q∧q<en∧Seg c (q+1) en)):=by
 rcases d with e|⟨_,h2,_⟩|⟨en,h1,h2,h3,h4,h5⟩|⟨n,en,h1,h2,h3,h4,h5,h6,h7⟩
 ·omega
 ·rw [a] at h2;cases h2
 ·exact ⟨-1,en,en,h1,h2,Nat.le_refl _,h1.2.2.1,h4,.inl ⟨rfl,rfl⟩⟩
 ·exact ⟨n,en,n,h1,h2,by omega,h1.2.2.1,h5,.inr ⟨rfl,h3,h6⟩⟩
theorem ZrA {B g:Nat}{h:Hd}{bv:Int}{x:Ms}{l:Bool}{m:Md}{k:Nat}{L:List Int} (X:RCx bv x l m k L) {p b:Nat} (hs:Seg (cdM m k) p b) (a6:p<b) (ih:∀ a' b',p<a'→Seg (cdM m k) a' b'→Zry B g h bv x l m k L a' b') (w:World) (H:RT w B g h m bv l L) :
    Calls Tryz.prog 217 #[ZQ.p B,.slice (h.e k).ko (cdM m k).length (h.e k).kc,.int .i64 p] w (Zhf w (.int .i64 (Zq3 (GR x l m L) (cdM m k) p).1) (.int .i64 ((Zq3 (GR x l m L) (cdM m k) p).2:Int))):=by
 have hp:p<(cdM m k).length:=by have:=(Zmo hs).2;omega
 have bo:(p:Int) < (cdM m k).length:=by omega
 have bl:(cdM m k).length≤120:=X.ok.z.2.2;have bs:IntKind.i64.wrap ((p:Int)+1)=((p+1:Nat):Int):=IntWalk.i64_in _ (by omega);have aM:=H.md.k k X.hk;obtain ⟨ca,aq,o0,o1,o2⟩:=ZaA (l:=cdM m k) aM hp;have J:(cdM m k).getD p default∈cdM m k:=ZfU _ hp;obtain ⟨⟨q1,q2⟩,I⟩:∃ q,q=Zq3 (GR x l m L) (cdM m k) p:=⟨_,rfl⟩;rw [←I];dsimp only;have HD:=Zh (X.opd J);have Y:=Zh (X.wt _ J);have W:=Zh (fun j (hH:Zay j h m)=>X.ow _ J j h hH);have aj:=Zh (X.called J);have aG:=Zh (show ∀ t∈ZaN m ((cdM m k).getD p default).a,0≤t from fun t ht=>ZfT ht);have aD:=Zh (X.ok.i _ J).1;have aN:(GR x l m L).pl ((cdM m k).getD p default)=if l=true∧((cdM m k).getD p default).op=28 then (-1:Int) else if ZqA l m (Zro L) ((cdM m k).getD p default)=-1 then (-1:Int) else ZmS (x.wt ((cdM m k).getD p default)) (ZqA l m (Zro L) ((cdM m k).getD p default)):=rfl;unfold Zq3 at I;rw [aN] at I;have au:=Zrz (ZmK hs) a6;obtain ⟨i,hi⟩:∃ i,i=(cdM m k).getD p default:=⟨_,rfl⟩;rw [←hi] at o0 o1 o2 I HD Y W aj aG aD au;have bi:=Zh hi;obtain ⟨C,K,M⟩:=i;dsimp only at o0 o1 o2 I;obtain ⟨cv,aL⟩:∃ c,c=ZqA l m (Zro L) ⟨C,K,M⟩:=⟨_,rfl⟩;have aC:=Zh (fun j hR=>Zrs (w:=j) (B:=B) (g:=g) (h:=h) (bv:=bv) (l:=l) (L:=L) hR X.hm ⟨C,K,M⟩ (fun e=>⟨HD.out.a0 (by dsimp only at e ⊢;omega),by have:=(HD.out.o25 e).1;have:=X.hk;omega⟩) (fun e=>⟨HD.out.a0 (by dsimp only at e ⊢;omega),(HD.out.o26 e).1,fun t ht=>⟨aG.out t ht,by have:=(HD.out.o26 e).2 t ht;have:=X.hk;omega⟩⟩));rw [←aL] at aC aj I;obtain ⟨wt,aw⟩:∃ n,n=x.wt ⟨C,K,M⟩:=⟨_,rfl⟩;rw [←aw] at Y W I
 have a2:=Zh aw;obtain ⟨w0,ab⟩:∃ w0,w0=w.alloc (.cells #[.int .i64 C,.int .i64 K,.int .i64 M] 78):=⟨_,rfl⟩;have HB:=Zh (show Below w.heap.size w w0 by rw [ab];exact bE);have HX:=Zh (show Blk w0 w.heap.size #[.int .i64 C,.int .i64 K,.int .i64 M] 78 by rw [ab];exact Blk.new _ _ _);have HT:=Zh (H.old HB.out);have HW:=Zh ab;have ak:=Zh (show ∀ a' b',p<a'→Seg (cdM m k) a' b'→∀ j,RT j B g h m bv l L→Calls Tryz.prog 155 #[ZQ.p B,.slice (some ca) (cdM m k).length (h.e k).kc,.int .i64 a',.int .i64 b'] j (Ret j (.int .i64 (WA (GR x l m L) (cdM m k) a' b' 0))) from fun a' b' h1 h2 j hR=>by have:=ih a' b' h1 h2 j hR;rwa [aq] at this);have aV:=Zh (show ∀ j,RT j B g h m bv l L→Zar j (some ca) (h.e k).kc (cdM m k) from fun j hR=>by have:=hR.md.k k X.hk;rwa [aq] at this);have N:=Zh X;have al:=Zh au;rw [aq];clear ab H hi aw aL hs au aM J aN ih X;go_enter Tryz.func217,Tryz.ntmps217
 go_upto_region 2 with fail
 rw [←HW.out];clear o0 o1 o2;have x0:=HX.out.cell 0 (v:=.int .i64 C) rfl;rcases ho:ZaR C with _|_
 · rw [ho,if_neg (by decide)] at I;obtain ⟨e1,rfl⟩:=Prod.mk.inj I;have HO:=Zh ho;have y:=Zh e1;clear I e1 ho ak al;have t5:=HT.out.tb.cell 5 (v:=.bool l) rfl;have x1:=HX.out.cell 1 (v:=.int .i64 K) rfl;have x2:=HX.out.cell 2 (v:=.int .i64 M) rfl;by_cases hth:l=true∧C=28
   · obtain ⟨rfl,rfl⟩:=hth
     go_wp2_with (go_at_call 151;refine (ZeO _ _).mono ?_;rintro e w2 ⟨rfl,rfl⟩;rw [HO.out])
     go_ret2;exact Zhg (ZcY (by rw [y.out];simp)) (ZcY (by omega)) HB.out
   · rw [if_neg hth] at y;have af:l=true→¬ C=28:=fun a b=>hth ⟨a,b⟩;have a1:=Zh af;clear hth af
     go_upto_region 5 with (go_at_call 151;refine (ZeO _ _).mono ?_;rintro e w2 ⟨rfl,rfl⟩;rw [HO.out])
     all_goals first
       | (exfalso;rename_i e1 e2;simp at e2;exact a1.out e1 e2)
       | skip
     all_goals
       clear t5;have t0:=HT.out.tb.cell 0 (v:=.slice h.co m.cl.length h.cc) rfl
       go_upto_region 6 with (go_at_call 288;refine (aC.out _ HT.out).mono ?_;rintro e w1 ⟨rfl,O⟩;have r:=Zh O;clear O x0 x1 x2 t0)
       have Z:=Zh (HX.out.old r.out);have z:=Zh (HT.out.old r.out);by_cases hc1:cv=-1
       · rw [if_pos hc1] at y;go_wp2;go_ret2;exact Zhg (ZcY y.out.symm) (ZcY (by omega)) (Zaf HB.out r.out)
       · rw [if_neg hc1] at y;have u:=Zh (show Cs [(⟨B,0,none⟩,.slice h.co m.cl.length h.cc),(⟨B,1,none⟩,.slice h.so m.st.length h.sc),(⟨B,2,none⟩,.slice h.eo m.me.length h.ec),(⟨B,3,none⟩,.int .i64 m.sel),(⟨B,4,none⟩,.int .i64 bv),(⟨w.heap.size,0,none⟩,.int .i64 C),(⟨w.heap.size,1,none⟩,.int .i64 K),(⟨w.heap.size,2,none⟩,.int .i64 M)] w1 from ⟨z.out.tb.cell 0 rfl,z.out.tb.cell 1 rfl,z.out.tb.cell 2 rfl,z.out.tb.cell 3 rfl,z.out.tb.cell 4 rfl,Z.out.cell 0 rfl,Z.out.cell 1 rfl,Z.out.cell 2 rfl,trivial⟩)
         go_upto_region 8 with fail
         refine rO (Cs [(⟨B,0,none⟩,.slice h.co m.cl.length h.cc),(⟨B,1,none⟩,.slice h.so m.st.length h.sc),(⟨B,2,none⟩,.slice h.eo m.me.length h.ec),(⟨B,3,none⟩,.int .i64 m.sel),(⟨B,4,none⟩,.int .i64 bv),(⟨w.heap.size,0,none⟩,.int .i64 C),(⟨w.heap.size,1,none⟩,.int .i64 K),(⟨w.heap.size,2,none⟩,.int .i64 M)]) (oL [0,1,2,3,4,5,6,7,8,10,12,13,109,111,14,15]) u.out ?_
         repeat refine pO ?_
         refine oO fun Kv G=>?_;go_simp;refine (W.out _ (z.out.md.old (Below.refl _ _).drew)).mono ?_;rintro e w2 ⟨rfl,R⟩;have D:=Zh (Zaf (Below.refl w1.heap.size w1).drew R);refine G _ _ ⟨Cs.keeps (Zox.of D.out) u.out,?_⟩;clear G Kv R
         repeat refine pO ?_
         refine oO fun Kv G=>?_;go_simp;refine (ZqS wt cv _ (by have:=Y.out;omega) (by have:=aj.out.2;unfold Bl at this;omega)).mono ?_;rintro e w3 ⟨rfl,U⟩;have E:=Zh (Zaf D.out U);refine G _ _ ⟨Cs.keeps (Zox.of E.out) u.out,?_⟩;clear G Kv U
         repeat refine pO ?_
         refine Zd5 ?_;go_wp2;go_ret2;exact Zhg (ZcY y.out.symm) (ZcY (by omega)) (Zaf HB.out (Zaf r.out E.out))
 · rw [ho,if_pos rfl] at I;obtain ⟨a3,en,q,ar,bp,br,bm,aP,F⟩:=al.out ho;rw [Zmn ar] at I;obtain ⟨f,hf⟩:∃ f,f=WA (GR x l m L) (cdM m k) (p+1) q 0:=⟨_,rfl⟩;obtain ⟨s,hs⟩:∃ s,s=if a3=-1 then 0 else WA (GR x l m L) (cdM m k) (q+1) en 0:=⟨_,rfl⟩;have aO:(q1,q2)=((GR x l m L).brk ⟨C,K,M⟩ f s,en+1):=by
     rw [I,hf,hs];rcases F with ⟨rfl,rfl⟩|⟨rfl,h1,h2⟩
     · rfl
     · dsimp only;rw [if_neg (by omega),if_neg (by omega),if_neg (by omega),Int.toNat_natCast]
   obtain ⟨e1,rfl⟩:=Prod.mk.inj aO;have aX:=Zh (show Pl l f by rw [hf];exact N.out.wa aP (Pl.of (by unfold Bd;omega)));have aY:=Zh (show Pl l s by
     rw [hs];rcases F with ⟨rfl,rfl⟩|⟨rfl,h1,h2⟩
     · exact Pl.of (by unfold Bd;omega)
     · rw [if_neg (by omega)];exact N.out.wa h2 (Pl.of (by unfold Bd;omega)))
   have y:=Zh (show q1=ZqB l (scV bv) ⟨C,K,M⟩ f s wt (tlV bv) by rw [e1,←N.out.tl,←N.out.sc,a2.out];rfl);have aZ:=Zh (show ∀ j,RT j B g h m bv l L→Calls Tryz.prog 155 #[ZQ.p B,.slice (some ca) (cdM m k).length (h.e k).kc,.int .i64 ((p+1:Nat):Int),.int .i64 q] j (Ret j (.int .i64 f)) from fun j hR=>by have:=ak.out (p+1) q (by omega) aP j hR;rwa [←hf] at this);have HO:=Zh ho;have aW:=Zh (ZqR (cdM m k) (some ca) (h.e k).kc w0 (aV.out _ HT.out) N.out.code ar);have bn:IntKind.i64.wrap ((en:Int)+1)=((en+1:Nat):Int):=IntWalk.i64_in _ (by omega);have aF:=Zh hs;clear I aO e1 ho ar hf hs al;rcases F with ⟨rfl,rfl⟩|⟨rfl,bq,a7⟩
   all_goals
     go_upto_region 10 with (first
       | (go_at_call 151;refine (ZeO _ _).mono ?_;rintro e w2 ⟨rfl,rfl⟩;rw [HO.out])
       | (go_at_call 165;refine aW.out.mono ?_;rintro e w1 ⟨rfl,O⟩;have r:=Zh O;clear O x0))
     have z:=Zh (HT.out.old r.out);have Z:=Zh (HX.out.old r.out)
     go_upto_region 14 with (go_at_call 155;refine (aZ.out _ z.out).mono ?_;rintro e w2 ⟨rfl,R⟩;have D:=Zh (Zaf r.out R);clear R)
     have a0:=Zh (HT.out.old D.out);have bk:=Zh (HX.out.old D.out)
   all_goals first
     | (have V:s=0:=by have:=aF.out;simpa using this
        subst V;obtain ⟨w3,av⟩:∃ w3,w3=w2:=⟨_,rfl⟩;have E:=Zh (show Below w0.heap.size w0 w3 by rw [av];exact D.out)
        go_upto_region 16 with fail
        rw [←av];clear av)
     | (have aE:=Zh (ak.out (q+1) en (by omega) a7 w2 a0.out)
        have V:=aF.out;rw [if_neg (by omega)] at V;rw [←V] at aE;clear V
        go_upto_region 16 with (go_at_call 155;refine aE.out.mono ?_;rintro e w3 ⟨rfl,U⟩;have E:=Zh (Zaf D.out U);clear U))
   all_goals
     have A:=Zh (HT.out.old E.out);have an:=Zh (HX.out.old E.out);have u:=Zh (show Cs [(⟨B,0,none⟩,.slice h.co m.cl.length h.cc),(⟨B,1,none⟩,.slice h.so m.st.length h.sc),(⟨B,2,none⟩,.slice h.eo m.me.length h.ec),(⟨B,3,none⟩,.int .i64 m.sel),(⟨B,4,none⟩,.int .i64 bv),(⟨w.heap.size,0,none⟩,.int .i64 C),(⟨w.heap.size,1,none⟩,.int .i64 K),(⟨w.heap.size,2,none⟩,.int .i64 M)] w3 from ⟨A.out.tb.cell 0 rfl,A.out.tb.cell 1 rfl,A.out.tb.cell 2 rfl,A.out.tb.cell 3 rfl,A.out.tb.cell 4 rfl,an.out.cell 0 rfl,an.out.cell 1 rfl,an.out.cell 2 rfl,trivial⟩);refine rO (Cs [(⟨B,0,none⟩,.slice h.co m.cl.length h.cc),(⟨B,1,none⟩,.slice h.so m.st.length h.sc),(⟨B,2,none⟩,.slice h.eo m.me.length h.ec),(⟨B,3,none⟩,.int .i64 m.sel),(⟨B,4,none⟩,.int .i64 bv),(⟨w.heap.size,0,none⟩,.int .i64 C),(⟨w.heap.size,1,none⟩,.int .i64 K),(⟨w.heap.size,2,none⟩,.int .i64 M)]) (oL [0,1,2,3,4,5,6,7,8,9,10,11,12,14,17,18,113,115,116,19,20]) u.out ?_
     repeat refine pO ?_
     refine oO fun Kv G=>?_;go_simp;refine (W.out _ (A.out.md.old (Below.refl _ _).drew)).mono ?_;rintro e w4 ⟨rfl,aI⟩;have ah:=Zh (Zaf (Below.refl w3.heap.size w3).drew aI);refine G _ _ ⟨Cs.keeps (Zox.of ah.out) u.out,?_⟩;clear G Kv aI
     repeat refine pO ?_
     refine oO fun Kv G=>?_;go_simp;refine (Zrj (A.out.old ah.out)).mono ?_;rintro e w5 ⟨rfl,aJ⟩;have ai:=Zh (Zaf ah.out aJ);refine G _ _ ⟨Cs.keeps (Zox.of ai.out) u.out,?_⟩;clear G Kv aJ
     repeat refine pO ?_
     refine oO fun Kv G=>?_;go_simp;refine (Zrm (A.out.old ai.out) ⟨C,K,M⟩ f _ wt (tlV bv) aX.out.2 aY.out.2 Y.out (by unfold tlV;split<;>omega) (fun e=>ZpB aD.out e)).mono ?_;rintro e w6 ⟨rfl,aK⟩;have aB:=Zh (Zaf ai.out aK);refine G _ _ ⟨Cs.keeps (Zox.of aB.out) u.out,?_⟩;clear G Kv aK
     repeat refine pO ?_
     refine Zd5 ?_;go_wp2;go_ret2;exact Zhg (ZcY y.out.symm) (ZcY (by omega)) (Zaf HB.out (Zaf E.out aB.out))
end
section
open Go.RowKit
section
variable {x:Ms}{m:Md}{T:Int→Int}{c:List In3} (hw:∀ i∈c,0≤x.wt i∧x.wt i≤1000) (ht:0≤x.tl∧x.tl≤1000) (hT:∀ t,Bd (T t)) (ha:∀ i∈c,i.op≠1→0≤i.a)
include hw ht hT ha
theorem ZrB {a b:Nat} (s:Seg c a b):∀ acc,Bd acc→WA (gW x m T) c a b acc=ZmS acc (WA (gW x m T) c a b 0):=by
 have hm:∀ k,k<c.length→c.getD k default∈c:=fun k r=>ZfU _ r;have e:∀ a b,(gW x m T).plus a b=ZmS a b:=fun _ _=>rfl;have q:=ZoH (m:=m) hw ht hT ha;have o:=ZoI (m:=m) hw ht hT ha;have g:Bd 0:=by unfold Bd;omega
 have j:∀ acc p S,Bd acc→Bd p→Bd S→ZmS (ZmS acc p) S=ZmS acc (ZmS (ZmS 0 p) S):=fun acc p S u v y=>by unfold Bd at *;unfold ZmS ZmR;omega
 induction s with
 | nil a h=>intro acc d;rw [Zmv,Zmv];unfold Bd at d;unfold ZmS ZmR;omega
 |pl a b q1 q2 q3 q4 q5 ih=>
  intro acc d;have f:=q _ (hm a q1);rw [Zmw q2 q5,Zmw q2 q5,e,e,ih _ (ZoD d f),ih _ (ZoD g f)];exact j _ _ _ d f (ZoJ (m:=m) hw ht hT ha q5 0 g)
 |one a en b q1 q2 q3 i1 i2=>
  intro acc d;have f:=o _ (hm a q1.1) _ _ (ZoJ (m:=m) hw ht hT ha q2 0 g) g;rw [Zmx q1 q2 q3,Zmx q1 q2 q3,e,e,i2 _ (ZoD d f),i2 _ (ZoD g f)];exact j _ _ _ d f (ZoJ (m:=m) hw ht hT ha q3 0 g)
 |two a n en b q1 q2 q3 q4 i1 i2 i3=>
  intro acc d;have f:=o _ (hm a q1.1) _ _ (ZoJ (m:=m) hw ht hT ha q2 0 g) (ZoJ (m:=m) hw ht hT ha q3 0 g);rw [Zmy q1 q2 q3 q4,Zmy q1 q2 q3 q4,e,e,i3 _ (ZoD d f),i3 _ (ZoD g f)];exact j _ _ _ d f (ZoJ (m:=m) hw ht hT ha q4 0 g)
end
abbrev gHJ (m:Md):Wg:=gT ZmV m (Zm1 (gW ZmV m) m)
abbrev gOJ (m:Md):Wg:=gLT m (Zm1 (gL m) m)
theorem ZrC (g g':Wg) (c:List In3) (p:Nat):(Zq3 g c p).2=(Zq3 g' c p).2:=by
 unfold Zq3;split<;>rfl
section
variable {m:Md} (hm:Za1 m=true)
include hm
theorem ZrD (k:Nat):Bd (Zm1 (gW ZmV m) m k):=ZpL hm (x:=ZmV) (fun k b i a=>ZpG ((ZfN hm b).i i a).1) (by decide) (k+1) k (by omega)
theorem ZrE {k:Nat} (e:k<m.me.length) {a b:Nat} (f:Seg (cdM m k) a b) {acc:Int} (ha:Bd acc):Bd (WA (gHJ m) (cdM m k) a b acc):=
 ZoJ (x:=ZmV) (m:=m) (fun i d=>ZpG ((ZfN hm e).i i d).1) (by decide) (fun t=>ZrD hm t.toNat) (fun i d=>(ZfS ((ZfN hm e).i i d).1 ((ZfN hm e).i i d).2).a0) f acc ha
theorem ZrF {k:Nat} (e:k<m.me.length) {a b:Nat} (f:Seg (cdM m k) a b) {acc:Int} (ha:Bd acc):acc≤WA (gHJ m) (cdM m k) a b acc:=by
 have g:Bd 0:=by unfold Bd;omega
 have h:=ZrB (x:=ZmV) (m:=m) (fun i d=>ZpG ((ZfN hm e).i i d).1) (by decide) (fun t=>ZrD hm t.toNat) (fun i d=>(ZfS ((ZfN hm e).i i d).1 ((ZfN hm e).i i d).2).a0) f acc ha;have j:=ZrE hm e f g;have n:WA (gHJ m) (cdM m k) a b acc=ZmS acc (WA (gHJ m) (cdM m k) a b 0):=h;rw [n];unfold Bd at ha j;unfold ZmS ZmR;omega
theorem ZrG {k:Nat} (d:k<m.me.length) {p b:Nat} (j:Seg (cdM m k) p b) (o:p<b):Bd (Zq3 (gHJ m) (cdM m k) p).1:=by
 have g:Bd 0:=by unfold Bd;omega
 have a:p<(cdM m k).length:=by have:=(Zmo j).2;omega
 have hw:=fun i h=>ZpG ((ZfN hm d).i i h).1;have ha:=fun i h=>(ZfS ((ZfN hm d).i i h).1 ((ZfN hm d).i i h).2).a0;have f:=ZoI (x:=ZmV) (m:=m) (T:=fun t=>Zm1 (gW ZmV m) m t.toNat) hw (by decide) (fun t=>ZrD hm t.toNat) ha;rcases ZmK j with e|⟨_,h2,h3,h4,h5⟩|⟨en,h1,h2,h3,h4,h5⟩|⟨n,en,h1,h2,h3,h4,h5,h6,h7⟩
 ·omega
 ·unfold Zq3;rw [if_neg (by rw [h2];decide)];exact ZoH (x:=ZmV) (m:=m) hw (by decide) (fun t=>ZrD hm t.toNat) ha _ (ZfU _ a)
 ·unfold Zq3;rw [if_pos (show _=true from h1.2.1),Zmn h1];exact f _ (ZfU _ a) _ _ (ZrE hm d h4 g) g
 ·unfold Zq3;rw [if_pos (show _=true from h1.2.1),Zmn h1];dsimp only;rw [if_neg (by omega),if_neg (by omega),Int.toNat_natCast];exact f _ (ZfU _ a) _ _ (ZrE hm d h5 g) (ZrE hm d h6 g)
end
end
section
open Go.RowKit
structure PlX (m:Md) (k:Nat):Prop where
 hm:Za1 m=true
 hk:k<m.me.length
 ok:(ZeG m k).2.2=0
 pl:∀ i∈cdM m k,Zq6 i.op=true
def pA (m:Md) (k p:Nat):Ps:=psA m (ZeF (m.me.getD k default)) (cdM m k) ⟨[],[]⟩ p
def htA (m:Md) (k p:Nat):Nat:=(pA m k p).stk.length
def nlA (m:Md) (k:Nat):Nat:=(ZeF (m.me.getD k default)).length
theorem ZrH {m:Md}{i:In3} (h:(0≤i.op∧i.op≤11)∨i.op=27∨i.op=28):Zex m i=Zqr i.op:=by
 unfold Zex Zqr;rcases (show i.op=0∨i.op=1∨i.op=2∨i.op=3∨i.op=4∨i.op=5∨i.op=6∨i.op=7∨i.op=8∨i.op=9∨i.op=10∨i.op=11∨i.op=27∨i.op=28 by omega) with q|q|q|q|q|q|q|q|q|q|q|q|q|q<;>simp [q]
theorem ZrI {m:Md}{lo:List Ty}{i:In3}{s:Ps} (h:(ZeC m lo i s).1=0):(i.op=2∨i.op=3→i.a.toNat<lo.length)∧(i.op=30→i.b.toNat<lo.length):=by
 have a:∀ n:Nat,lo[n]?≠none→n<lo.length:=fun n f=>by
  rcases Nat.lt_or_ge n lo.length with q|q
  ·exact q
  ·exact absurd (List.getElem?_eq_none q) f
 by_cases q:i.op=2∨i.op=3∨i.op=30
 ·have b:i.op≠34:=by omega
  have d:i.op≠35:=by omega
  unfold ZeC at h;rw [if_neg b,if_neg d] at h;dsimp only at h;split at h
  ·cases h
  ·split at h
   ·cases h
   ·rename_i t ht;unfold ZeB at ht;rcases q with q|q|q
    ·simp [q] at ht;exact ⟨fun _=>a _ (by rw [ht];simp),fun e=>by omega⟩
    ·refine ⟨fun _=>a _ (fun e=>?_),fun e=>by omega⟩;simp [q,e,ZeA] at ht
    ·refine ⟨fun e=>by omega,fun _=>a _ (fun e=>?_)⟩;simp [q,e] at ht
 ·exact ⟨fun e=>by omega,fun e=>by omega⟩
theorem ZrJ {i:In3} (h:ZaQ false i=true) (q:i.op=28):0≤i.a∧i.a≤100:=by obtain ⟨d,a,b⟩:=i;dsimp only at q;subst q;simp [ZaQ,inR,opA,ZaO,ZaP,inI] at h;show 0≤a∧a≤100;omega
theorem ZrK {i:In3} (h:ZaQ false i=true) (q:i.op=30):0≤i.a∧i.a≤10000:=by obtain ⟨d,a,b⟩:=i;dsimp only at q;subst q;simp [ZaQ,inR,opA,ZaO,ZaP,inI] at h;show 0≤a∧a≤10000;omega
section
variable {m:Md}{k:Nat} (X:PlX m k)
include X
theorem PlX.st {p:Nat} (hp:p<(cdM m k).length):(ZeC m (ZeF (m.me.getD k default)) ((cdM m k).getD p default) (pA m k p)).1=0:=(Zo9 _ _ _ X.ok).1 p hp
theorem PlX.le {p:Nat} (hp:p≤(cdM m k).length):htA m k p≤12:=by
 have a:=(Zo9 _ _ _ X.ok).2.1 p hp;unfold htA pA;rw [show psA m (ZeF (m.me.getD k default)) (cdM m k) ⟨[],[]⟩ p=pA m k p from rfl];have d:(pA m k p).stk=(ZeG m k).1.getD p []:=a.symm;rw [d];have b:ZeH m k=ZeG m k:=Zmi X.hm X.hk;by_cases q:p<(ZeG m k).1.length
 ·rw [←b] at q ⊢;exact (ZnC q).1
 ·rw [List.getD_eq_getElem?_getD,List.getElem?_eq_none (by omega)];simp
theorem PlX.op {p:Nat} (hp:p<(cdM m k).length):let i:=(cdM m k).getD p default;ZaQ false i=true∧ZfR m k i∧Zq6 i.op=true:=by have h:=ZfU default hp;have a:=(ZfN X.hm X.hk).i _ h;exact ⟨a.1,ZfS a.1 a.2,X.pl _ h⟩
theorem PlX.plain {p:Nat} (hp:p<(cdM m k).length) (ho:ZaR ((cdM m k).getD p default).op=false) (h34:((cdM m k).getD p default).op≠34) (h35:((cdM m k).getD p default).op≠35) :
  let i:=(cdM m k).getD p default
  ((0≤i.op∧i.op≤11)∨i.op=27∨i.op=28)∧(Zqr i.op).1≤htA m k p∧htA m k (p+1)=htA m k p-(Zqr i.op).1+(Zqr i.op).2:=by
 intro i;have h:=(X.op hp).2.2;have f:i.op≠34:=h34;have g:i.op≠35:=h35;have d:(0≤i.op∧i.op≤11)∨i.op=27∨i.op=28:=by
  have e:Zq6 i.op=true:=h;unfold Zq6 at e;have j:¬ (29≤i.op∧i.op≤33):=fun q=>by have:ZaR i.op=false:=ho;unfold ZaR inI at this;simp at this;omega
  simp only [decide_eq_true_eq] at e;omega
 obtain ⟨a,b,-,-⟩:=Zpa (X.st hp) h34 h35;rw [show Zex m ((cdM m k).getD p default)=Zqr i.op from ZrH d] at a b;exact ⟨d,a,by unfold htA;rw [show pA m k (p+1)=_ from Zo8 hp];exact b⟩
theorem PlX.opn {p:Nat} (hp:p<(cdM m k).length) (ho:ZaR ((cdM m k).getD p default).op=true) :
  let i:=(cdM m k).getD p default
  (i.op=29∨i.op=30∨i.op=33)∧(if i.op=33 then 0 else 1)≤htA m k p∧htA m k (p+1)=htA m k p-(if i.op=33 then 0 else 1):=by
 intro i;have d:Zq6 i.op=true:=(X.op hp).2.2;have e:i.op=29∨i.op=30∨i.op=33:=by have f:ZaR i.op=true:=ho;unfold ZaR inI at f;unfold Zq6 at d;simp only [Bool.and_eq_true,decide_eq_true_eq] at f d;omega
 obtain ⟨a,b,-,-⟩:=Zpa (X.st hp) (show i.op≠34 by omega) (show i.op≠35 by omega);have g:Zex m i=((if i.op=33 then 0 else 1),0):=by unfold Zex;rcases e with q|q|q<;>simp [q]
 rw [show Zex m ((cdM m k).getD p default)=_ from g] at a b;exact ⟨e,a,by unfold htA;rw [show pA m k (p+1)=_ from Zo8 hp];exact b⟩
theorem PlX.one {a en:Nat} (h1:Mat (cdM m k) a (-1) en) (h2:Seg (cdM m k) (a+1) en):htA m k en=htA m k (a+1)∧htA m k (en+1)=htA m k (a+1):=by obtain ⟨b,d⟩:=Zpf (fun p e=>X.st e) h1 h2;exact ⟨congrArg List.length b,congrArg List.length d⟩
theorem PlX.two {a n en:Nat} (h1:Mat (cdM m k) a n en) (h2:Seg (cdM m k) (a+1) n) (h3:Seg (cdM m k) (n+1) en):htA m k (n+1)=htA m k (a+1)∧htA m k en=htA m k n∧htA m k (en+1)=htA m k n:=by obtain ⟨b,d,e⟩:=Zpg (fun p f=>X.st f) h1 h2 h3;exact ⟨congrArg List.length b,congrArg List.length d,congrArg List.length e⟩
end
def EvQ (t:Int) (n nl sn2 sc sc2:Nat) (lf lf2 cs cs2 hi lo:Int) (h':Nat):Prop:=0≤t∧n=nl∧sc≤sc2∧cs≤cs2∧cs2-cs≤hi∧lf2≤lf∧lf-lf2≤cs2-cs∧(t=0→sn2=h'∧0≤lo∧lo≤cs2-cs)
def EvL (N:Nat) (w:World) (B:Nat) (L:LQ) (ko:Option Addr) (kc:Nat) (c:List In3) (nl sc:Nat) (lf cs hi lo:Int) (h':Nat):Ending→World→Prop:=fun e w'=>∃ (t:Int) (ls:List Int) (sn2 sc2:Nat) (lf2 cs2:Int) (tn2:Nat),e=.returned (.int .i64 t)∧EvA N w' B L ko kc c ls sn2 sc2 lf2 cs2 tn2∧EvQ t ls.length nl sn2 sc sc2 lf lf2 cs cs2 hi lo h'∧FrE N w w'
def EvB (N:Nat) (w:World) (B:Nat) (L:LQ) (ko:Option Addr) (kc:Nat) (c:List In3) (nl sc:Nat) (lf cs hi lo:Int) (h' en:Nat):Ending→World→Prop:=fun e w'=>∃ (t nx:Int) (ls:List Int) (sn2 sc2:Nat) (lf2 cs2:Int) (tn2:Nat),e=.returned (.tuple #[.int .i64 t,.int .i64 nx])∧EvA N w' B L ko kc c ls sn2 sc2 lf2 cs2 tn2∧EvQ t ls.length nl sn2 sc sc2 lf lf2 cs cs2 hi lo h'∧(t=0→nx=((en+1:Nat):Int))∧FrE N w w'
def ZrL (N B:Nat) (L:LQ) (ko:Option Addr) (kc:Nat) (m:Md) (k a b:Nat):Prop:=∀ w ls sn sc lf cs tn,EvA N w B L ko kc (cdM m k) ls sn sc lf cs tn→ls.length=nlA m k→sn=htA m k a→WA (gHJ m) (cdM m k) a b 0≤lf →
 Calls Tryz.prog 92 #[ZQ.p B,.int .i64 a,.int .i64 b] w (EvL N w B L ko kc (cdM m k) (nlA m k) sc lf cs (WA (gHJ m) (cdM m k) a b 0) (WA (gOJ m) (cdM m k) a b 0) (htA m k b))
def brH (g:Wg) (l:List In3) (p:Nat) (F S:Int):Int:=if (l.getD p default).op=30 then ZmT (l.getD p default).a (ZmS F 1) else if (l.getD p default).op=33 then ZmS (ZmS F 1) S else max (ZmS F 1) (ZmS S 1)
def brO (l:List In3) (p:Nat) (F S:Int):Int:=if (l.getD p default).op=30 then 0 else ZmX (ZmY F S) 1
def BrE (N B:Nat) (L:LQ) (ko:Option Addr) (kc:Nat) (m:Md) (k p q en:Nat) (alt:Int):Prop:=∀ w ls sn sc lf cs tn,EvA N w B L ko kc (cdM m k) ls sn sc lf cs tn→ls.length=nlA m k→sn=htA m k p→brH (gHJ m) (cdM m k) p (WA (gHJ m) (cdM m k) (p+1) q 0) (if alt<0 then 0 else WA (gHJ m) (cdM m k) (q+1) en 0)≤lf→tn+lf≤99999 →
 Calls Tryz.prog 152 #[ZQ.p B,.int .i64 p] w (EvB N w B L ko kc (cdM m k) (nlA m k) sc lf cs (brH (gHJ m) (cdM m k) p (WA (gHJ m) (cdM m k) (p+1) q 0) (if alt<0 then 0 else WA (gHJ m) (cdM m k) (q+1) en 0)) (brO (cdM m k) p (WA (gOJ m) (cdM m k) (p+1) q 0) (if alt<0 then 0 else WA (gOJ m) (cdM m k) (q+1) en 0)) (htA m k (en+1)) en)
end
section
open Go.RowKit
theorem RCx.one {bv:Int}{x:Ms}{l:Bool}{m:Md}{k:Nat}{L:List Int} (X:RCx bv x l m k L) {p b:Nat} (hs:Seg (cdM m k) p b) (hp:p<b):Pl l (Zq3 (GR x l m L) (cdM m k) p).1:=by
 have hm:∀ f,f < (cdM m k).length→(cdM m k).getD f default∈cdM m k:=fun f g=>ZfU _ g;have d:Pl l 0:=Pl.of (by unfold Bd;omega);have a:p<(cdM m k).length:=by have:=(Zmo hs).2;omega
 rcases ZmK hs with e|⟨_,h2,h3,h4,h5⟩|⟨en,h1,h2,h3,h4,h5⟩|⟨n,en,h1,h2,h3,h4,h5,h6,h7⟩
 ·omega
 ·unfold Zq3;rw [if_neg (by rw [h2];decide)];exact X.pl (hm p a)
 ·unfold Zq3;rw [if_pos (show _=true from h1.2.1),Zmn h1];exact X.brk (hm p a) (X.wa h4 d) d
 ·unfold Zq3;rw [if_pos (show _=true from h1.2.1),Zmn h1];dsimp only;rw [if_neg (by omega),if_neg (by omega),Int.toNat_natCast];exact X.brk (hm p a) (X.wa h5 d) (X.wa h6 d)
theorem ZrM {B g:Nat}{h:Hd}{bv:Int}{x:Ms}{l:Bool}{m:Md}{k:Nat}{L:List Int} (X:RCx bv x l m k L) {a b:Nat} (S:Seg (cdM m k) a b) (Z:∀ z F,a<z→Seg (cdM m k) z F→Zry B g h bv x l m k L z F):Zry B g h bv x l m k L a b:=by
 intro w H;have Q:=Zmo S;have ah:(cdM m k).length≤120:=X.ok.z.2.2;have HO:=Zh (show ∀ p,a≤p→p<b→Seg (cdM m k) p b→∀ U,RT U B g h m bv l L→_ from fun p G A I U hR=>ZrA X I A (fun z F h4 h5=>Z z F (by omega) h5) U hR);have HR:=Zh H;have HX:=Zh X;have HS:=Zh S;clear H X S Z;go_enter Tryz.func155,Tryz.ntmps155;go_wp2
 go_loopw [9,10] (fun s i wr=>∃ (p:Nat) (d:Int),i=.int .i64 p∧s=.int .i64 d∧Hid (a≤p∧p≤b∧Seg (cdM m k) p b)∧Hid (0≤d∧Pl l d)∧Hid (WA (GR x l m L) (cdM m k) a b 0=WA (GR x l m L) (cdM m k) p b d)∧Hid (Below w.heap.size w wr)) (fun _ i _=>b-(intOf i).toNat)
 case atStart=>exact ⟨a,0,rfl,rfl,⟨Nat.le_refl _,Q.1,HS.out⟩,⟨by omega,Pl.of (by unfold Bd;omega)⟩,rfl,by exact bE⟩
 case round=>
  obtain ⟨p,d,rfl,rfl,u,n,y,E⟩:=hrel;rename World=>wo;by_cases hpb:p<b
  ·have W:(p:Int) < b:=by omega
   obtain ⟨K,M,N,s4⟩:=Zq4 (g:=GR x l m L) u.out.2.2 hpb;have J:=HX.out.one u.out.2.2 hpb;have j:=Zh (HO.out p u.out.1 hpb u.out.2.2 _ (HR.out.old E.out));have o:=Zh (y.out.trans (s4 d));obtain ⟨⟨v,nx⟩,Y⟩:∃ q,q=Zq3 (GR x l m L) (cdM m k) p:=⟨_,rfl⟩;rw [←Y] at j o J K M N;dsimp only at J K M N;have V:=Zh J;have r:=Zh (And.intro K (And.intro M N));clear Y J K M N s4;by_cases hv1:v=-1
   ·subst hv1
    go_wp2_with (go_at_call 217;refine j.out.mono ?_;rintro e w1 ⟨rfl,f⟩)
    go_ret;refine ZcT (ZcY ?_) (Zaf E.out f);rw [o.out,show (GR x l m L).plus d (-1)=-1 by show Zqx d (-1)=-1;unfold Zqx;rw [if_pos (.inr rfl)]];exact (ZqN r.out.2.2).symm
   ·go_wp2_with (first
     | (go_at_call 217;refine j.out.mono ?_;rintro e w1 ⟨rfl,f⟩;have O:=Zh (Zaf E.out f);clear f)
     | (go_at_call 166;refine (ZqS d v _ (by have:=n.out.2.2;unfold Bl at this;omega) (by have:=V.out.2;unfold Bl at this;omega)).mono ?_;rintro e w2 ⟨rfl,C⟩;have P:=Zh (Zaf O.out C);clear C))
    have G:=n.out.2.2;have A:=V.out.2;unfold Bl at G A;have I:=n.out.1;have R:Zqx d v=ZmS d v:=ZqD ⟨I,G.2⟩ ⟨by omega,A.2⟩;have D:Bd (ZmS d v):=ZoD ⟨I,G.2⟩ ⟨by omega,A.2⟩;refine ⟨⟨nx,ZmS d v,rfl,rfl,⟨by have:=u.out.1;have:=r.out.1;omega,r.out.2.1,r.out.2.2⟩,⟨D.1,Pl.of D⟩,o.out.trans (by rw [←R];rfl),P.out⟩,?_⟩;have:=r.out.1;have:=r.out.2.1;simp [intOf];omega
  ·obtain rfl:p=b:=by have:=u.out.2.1;omega
   go_wp2;go_ret;exact ZcT (ZcY (by rw [y.out,Zmv])) E.out
theorem ZrN {B g:Nat}{h:Hd}{bv:Int}{x:Ms}{l:Bool}{m:Md}{k:Nat}{L:List Int} (X:RCx bv x l m k L):∀ (n a b:Nat),(cdM m k).length-a≤n→Seg (cdM m k) a b→Zry B g h bv x l m k L a b
 | 0,a,b,hn,hs=>ZrM X hs fun e f j d=>by have:=Zmo hs;have:=Zmo d;omega
 |n+1,a,b,hn,hs=>ZrM X hs fun e f j d=>by
  by_cases hz:e≤(cdM m k).length
  ·exact ZrN X n e f (by omega) d
  ·have:=Zmo d;omega
end
