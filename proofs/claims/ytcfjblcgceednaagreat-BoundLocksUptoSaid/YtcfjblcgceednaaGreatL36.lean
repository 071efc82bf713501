import Derived.Test.YtcfjblcgceednaaGreatL32
import Derived.Test.YtcfjblcgceednaaGreatL33
set_option linter.all false
set_option maxRecDepth 100000
set_option maxHeartbeats 8000000
namespace Go.Proofs.YtcfjblcgceednaaGreat
theorem j5{p:Prop}(h:p:=by
 go_enter Tryz.func46,Tryz.ntmps46
 go_wp2_with (go_at_call 100;refine HA.out.mono ?_;rintro e w1 ⟨rfl,hb1⟩)
 all_goals
  go_ret2;exact Zhg rfl rfl (Zaf HB0.out hb1)):p:=h
section
open Go.RowKit
structure RT (w:World) (B g:Nat) (h:Hd) (m:Md) (bv:Int) (l:Bool) (L:List Int):Prop where
 tb:Blk w B #[.slice h.co m.cl.length h.cc,.slice h.so m.st.length h.sc,.slice h.eo m.me.length h.ec,.int .i64 m.sel,.int .i64 bv,.bool l,.slice (some ⟨g,0,none⟩) m.me.length m.me.length] 132
 nb:Blk w g (ZpN L) 3
 md:Zay w h m
 ln:L.length=m.me.length
theorem RT.old {w w':World}{B g:Nat}{h:Hd}{m:Md}{bv:Int}{l:Bool}{L:List Int} (H:RT w B g h m bv l L) (hb:Below w.heap.size w w'):RT w' B g h m bv l L:=⟨H.tb.old hb,H.nb.old hb,H.md.old hb,H.ln⟩
def tlV (bv:Int):Int:=if bv=0 then 1 else 0
def scV (bv:Int):Bool:=decide (bv≠0)&&decide (bv≠4)
def Zr4 (bv:Int) (m:Md) (x:Ms) (c:List In3):Prop:=∀ i∈c,∀ w h,Zay w h m→Calls Tryz.prog 289 #[.agg (HM.mk h m),ZI.i i,.int .i64 bv] w (Ret w (.int .i64 (x.wt i)))
theorem Zr5 {m:Md}{c:List In3} (n:∀ i∈c,ZaQ false i=true):Zr4 0 m ZmV c:=fun i g w h H=>by
 have f:=Zh (fun o=>Zpm i o (n i g))
 obtain ⟨q,d⟩:∃ q,q=ZmU i:=⟨_,rfl⟩
 rw [←d] at f
 rw [show ZmV.wt i=q from d.symm]
 clear d g
 obtain ⟨r,a,b⟩:=i
 go_enter Tryz.func289,Tryz.ntmps289
 go_wp2_with (go_at_call 214;refine (f.out _).mono ?_;rintro e s ⟨rfl,j⟩)
 go_ret
 exact ZcT rfl bE
theorem Zr6 {w:World}{B g:Nat}{h:Hd}{m:Md}{bv:Int}{l:Bool}{L:List Int} (H:RT w B g h m bv l L):Calls Tryz.prog 291 #[ZQ.p B] w (Ret w (.int .i64 (tlV bv))):=by
 have d:=H.tb.cell 4 (v:=.int .i64 bv) rfl;have c:=H.tb.lt;obtain ⟨q,a⟩:∃ q,q=tlV bv:=⟨_,rfl⟩;rw [←a];unfold tlV at a;have b:=Zh a;clear a H;go_enter Tryz.func291,Tryz.ntmps291;go_wp2
 all_goals
  go_ret;refine ZcT (ZcY ?_) bE;rw [b.out];grind
theorem Zr7 {a b:Int} (c:Bl a) (d:Bl b):Bl (Zra a b):=Zri c d▸Zqo c d
theorem Zr8 {a b:Int} (c:Bl a) (d:Bl b):Bl (max a b):=by unfold Bl at *;omega
theorem Zr9 {w:World}{B g:Nat}{h:Hd}{m:Md}{bv:Int}{l:Bool}{L:List Int} (H:RT w B g h m bv l L) (i:In3) (f s o t:Int) (hf:Bl f) (hs:Bl s) (ho:0≤o∧o≤1000) (ht:0≤t∧t≤1000) (hi:i.op=30→0≤i.a∧i.a≤1000) :
  Calls Tryz.prog 290 #[ZQ.p B,ZI.i i,.int .i64 f,.int .i64 s,.int .i64 o,.int .i64 t] w (Ret w (.int .i64 (Zrd l (scV bv) i f s o t))):=by
 have ag:Bl o:=by unfold Bl;omega
 have ah:Bl t:=by unfold Bl;omega
 obtain ⟨q,Y⟩:∃ q,q=Zrd l (scV bv) i f s o t:=⟨_,rfl⟩;rw [←Y];obtain ⟨F,a,b⟩:=i;dsimp only at hi;unfold Zrd at Y;dsimp only at Y;have HQ:=Zh Y;obtain ⟨y,u⟩:∃ y,y=w.alloc (.cells #[.int .i64 F,.int .i64 a,.int .i64 b] 78):=⟨_,rfl⟩;have Z:=Zh (show Below w.heap.size w y by rw [u];exact bE);have r:=Zh (show Blk y w.heap.size #[.int .i64 F,.int .i64 a,.int .i64 b] 78 by rw [u];exact Blk.new _ _ _);have z:=Zh (H.tb.old Z.out);have j:=Zh (show Below y.heap.size y y by exact bE);have HW:=Zh u;clear u H Y;go_enter Tryz.func290,Tryz.ntmps290
 go_upto_region 1 with fail
 rw [←HW.out];have G:=r.out.cell 0 (v:=.int .i64 F) rfl;have C:=r.out.cell 1 (v:=.int .i64 a) rfl;have I:=z.out.cell 4 (v:=.int .i64 bv) rfl;have J:=z.out.cell 5 (v:=.bool l) rfl;by_cases h30:F=30
 ·subst h30;have E:=hi rfl;cases l with
  |true=>
   go_wp2;go_ret;exact ZcT (ZcY (by rw [HQ.out];rfl)) (Zaf Z.out j.out)
  |false=>
   have V:-1000≤a*ZmS f t:=by
    have h1:-1≤ZmS f t:=by unfold ZmS ZmR Bl at *;omega
    have h2:=Int.mul_le_mul_of_nonneg_left h1 E.1;omega
   have W:a*ZmS f t≤1000000001000:=by
    by_cases h0:0≤ZmS f t
    ·exact Int.le_trans (Int.mul_le_mul E.2 (show ZmS f t≤1000000001 by unfold ZmS ZmR;omega) h0 (by decide)) (by decide)
    ·have:=Int.mul_nonpos_of_nonneg_of_nonpos E.1 (show ZmS f t≤0 by omega);omega
   have X:-1000≤ZmT a (ZmS f t)∧ZmT a (ZmS f t)≤1000000001:=by unfold ZmT ZmR;omega
   have D:=Zh (And.intro (And.intro V W) X);clear V W X
   go_upto_region 10 with fail
   refine rO (Cs [(⟨w.heap.size,1,none⟩,.int .i64 a)]) (oL [0,1,2,3,4,105,106,107,8]) ⟨C,trivial⟩ ?_;clear G C I J
   repeat refine pO ?_
   refine oO fun O A=>?_;go_simp;refine (Zrr f t _ (by unfold Bl at hf;omega) (by omega)).mono ?_;rintro e w1 ⟨rfl,R⟩;have K:=Zh (Zaf (Below.refl y.heap.size y).drew R);refine A _ _ ⟨⟨(r.out.old K.out).cell 1 (v:=.int .i64 a) rfl,trivial⟩,?_⟩;clear A O R
   repeat refine pO ?_
   refine oO fun O A=>?_;go_simp;refine (Zrs a (ZmS f t) _ D.out.1.1 D.out.1.2).mono ?_;rintro e w2 ⟨rfl,T⟩;have M:=Zh (Zaf K.out T);refine A _ _ ⟨⟨(r.out.old M.out).cell 1 (v:=.int .i64 a) rfl,trivial⟩,?_⟩;clear A O T
   repeat refine pO ?_
   refine oO fun O A=>?_;go_simp;refine (Zrr o (ZmT a (ZmS f t)) _ (by omega) (by have:=D.out.2;omega)).mono ?_;rintro e w3 ⟨rfl,U⟩;have N:=Zh (Zaf M.out U);refine A _ _ ⟨⟨(r.out.old N.out).cell 1 (v:=.int .i64 a) rfl,trivial⟩,?_⟩;clear A O U
   repeat refine pO ?_
   refine Zd5 ?_;go_wp2;go_ret;exact ZcT (ZcY (by rw [HQ.out];rfl)) (Zaf Z.out N.out)
 ·go_wp2_with (first
   | (go_at_call 350;refine (Zrt _ _ _ (by (repeat (first|assumption|apply Zrh|apply Zr7|apply Zr8))) (by (repeat (first|assumption|apply Zrh|apply Zr7|apply Zr8)))).mono ?_;rintro e wn ⟨rfl,n⟩;have j:=Zh (Zaf j.out n);clear n G C I J;have G:=(r.out.old j.out).cell 0 (v:=.int .i64 F) rfl;have C:=(r.out.old j.out).cell 1 (v:=.int .i64 a) rfl;have I:=(z.out.old j.out).cell 4 (v:=.int .i64 bv) rfl;have J:=(z.out.old j.out).cell 5 (v:=.bool l) rfl)
   | (go_at_call 351;refine (Zru _ _ _).mono ?_;rintro e wn ⟨rfl,n⟩;have j:=Zh (Zaf j.out n);clear n G C I J;have G:=(r.out.old j.out).cell 0 (v:=.int .i64 F) rfl;have C:=(r.out.old j.out).cell 1 (v:=.int .i64 a) rfl;have I:=(z.out.old j.out).cell 4 (v:=.int .i64 bv) rfl;have J:=(z.out.old j.out).cell 5 (v:=.bool l) rfl)
   | (go_at_call 166;refine (Zrr _ _ _ (by unfold Bl ZmS ZmR at *;omega) (by unfold Bl ZmS ZmR at *;omega)).mono ?_;rintro e wn ⟨rfl,n⟩;have j:=Zh (Zaf j.out n);clear n G C I J;have G:=(r.out.old j.out).cell 0 (v:=.int .i64 F) rfl;have C:=(r.out.old j.out).cell 1 (v:=.int .i64 a) rfl;have I:=(z.out.old j.out).cell 4 (v:=.int .i64 bv) rfl;have J:=(z.out.old j.out).cell 5 (v:=.bool l) rfl))
  all_goals
   go_ret;refine ZcT (ZcY ?_) (Zaf Z.out j.out);rw [HQ.out];unfold scV;grind
end
section
open Go.RowKit
theorem Zsa {l:List Int}{k:Nat} (h:k<l.length):l.getD k 0∈l:=by
 have:l.getD k 0=l[k]:=by simp [h]
 rw [this];exact List.getElem_mem _
def Zsb (L:List Int):Int→Int:=fun t=>L.getD t.toNat 0
def Zsc (l:Bool) (T:Int→Int) (ts:List Int) (j:Nat):Int:=(ts.take j).foldl (fun a t=>Zrb l a (T t)) (-1)
theorem Zsd {l:Bool}{T:Int→Int}{a:List Int}{j:Nat} (b:j<a.length):Zsc l T a (j+1)=Zrb l (Zsc l T a j) (T (a.getD j 0)):=by
 unfold Zsc;rw [List.take_succ_eq_append_getElem b,List.foldl_append];have c:a[j]=a.getD j 0:=by simp [b]
 rw [c];rfl
theorem Zse {m:Md} (h:Za1 m=true):m.cl.length≤10∧m.me.length≤16:=by have:=ZfJ h;unfold ZaZ at this;simp only [Bool.and_eq_true,decide_eq_true_eq] at this;omega
theorem Zsf {w:World}{B g:Nat}{h:Hd}{m:Md}{bv:Int}{l:Bool}{L:List Int} (H:RT w B g h m bv l L) (hm:Za1 m=true) (i:In3) (J:i.op=25→0≤i.a∧i.a<m.me.length) (K:i.op=26→0≤i.a∧i.a<m.sel∧∀ t∈ZaN m i.a,0≤t∧t<m.me.length) :
  Calls Tryz.prog 288 #[ZQ.p B,ZI.i i] w (Ret w (.int .i64 (Zrc l m (Zsb L) i))):=by
 have ax:=Zh (show m.me.length≤1000 by have:=(Zse hm);omega);obtain ⟨q,O⟩:∃ q,q=Zrc l m (Zsb L) i:=⟨_,rfl⟩;rw [←O];obtain ⟨U,C,b⟩:=i;unfold Zrc at O;dsimp only at J K O;have Y:=Zh O;obtain ⟨E,u⟩:∃ E,E=w.alloc (.cells #[.int .i64 U,.int .i64 C,.int .i64 b] 78):=⟨_,rfl⟩;have X:=Zh (show Below w.heap.size w E by rw [u];exact bE);have HX:=Zh (show Blk E w.heap.size #[.int .i64 U,.int .i64 C,.int .i64 b] 78 by rw [u];exact Blk.new _ _ _);have r:=Zh (H.old X.out);have HW:=Zh u;have G:=Zh hm;clear u H O hm;go_enter Tryz.func288,Tryz.ntmps288
 go_upto_region 1 with fail
 rw [←HW.out];have x0:=HX.out.cell 0 (v:=.int .i64 U) rfl;have V:=HX.out.cell 1 (v:=.int .i64 C) rfl;by_cases e25:U=25
 ·subst e25;obtain ⟨a0,a1⟩:=J rfl;obtain ⟨a,rfl⟩:∃ a:Nat,C=a:=⟨C.toNat,by omega⟩;have W:=r.out.tb.cell 6 (v:=.slice (some ⟨g,0,none⟩) m.me.length m.me.length) rfl;have F:=ZpP r.out.nb (k:=a) (by have:=r.out.ln;omega)
  go_upto_region 2 with fail
  refine rO (Cs [(⟨w.heap.size,1,none⟩,.int .i64 a),(⟨B,6,none⟩,.slice (some ⟨g,0,none⟩) m.me.length m.me.length),(⟨g,a,none⟩,.int .i64 (L.getD a 0))]) (oL [0,1,2,3,4,5,6,7,8]) ⟨V,W,F,trivial⟩ ?_;clear x0 V W F
  repeat refine pO ?_
  refine Zd5 ?_;go_wp2;go_ret;exact ZcT (ZcY (by rw [Y.out];unfold Zsb;simp)) (by have:=X.out;exact bE)
 ·by_cases e26:U=26
  ·subst e26;obtain ⟨a0,a1,a2⟩:=K rfl;obtain ⟨a,rfl⟩:∃ a:Nat,C=a:=⟨C.toNat,by omega⟩;have I:=Zh (fun w' hb=>Zjn m h a w' (r.out.md.old (w':=w') hb) G.out a1);obtain ⟨f,A⟩:∃ f,f=ZaN m a:=⟨_,rfl⟩;rw [←A] at I Y a2;have ae:=Zh a2;have ag:=Zh (show f.length≤1000 by rw [A];have:=ZdG m a;have:=(Zse G.out);omega);have x2:=r.out.tb.cell 0 (v:=.slice h.co m.cl.length h.cc) rfl;have x3:=r.out.tb.cell 1 (v:=.slice h.so m.st.length h.sc) rfl;have x4:=r.out.tb.cell 2 (v:=.slice h.eo m.me.length h.ec) rfl;have x5:=r.out.tb.cell 3 (v:=.int .i64 m.sel) rfl;clear a2 A
   go_upto_region 5 with fail
   have af:=Zh (show Cs [(⟨w.heap.size,1,none⟩,.int .i64 a),(⟨B,0,none⟩,.slice h.co m.cl.length h.cc),(⟨B,1,none⟩,.slice h.so m.st.length h.sc),(⟨B,2,none⟩,.slice h.eo m.me.length h.ec),(⟨B,3,none⟩,.int .i64 m.sel)] E from ⟨V,x2,x3,x4,x5,trivial⟩);refine rO (Cs [(⟨w.heap.size,1,none⟩,.int .i64 a),(⟨B,0,none⟩,.slice h.co m.cl.length h.cc),(⟨B,1,none⟩,.slice h.so m.st.length h.sc),(⟨B,2,none⟩,.slice h.eo m.me.length h.ec),(⟨B,3,none⟩,.int .i64 m.sel)]) (oL [0,1,2,3,4,5,106,7,8,9,10,11]) ⟨V,x2,x3,x4,x5,trivial⟩ ?_;clear x0 V x2 x3 x4 x5
   repeat refine pO ?_
   refine oO fun Kv hK=>?_;go_simp;refine (I.out _ (Below.refl _ _).drew).mono ?_;rintro e w1 ⟨⟨aG,tc,rfl,R⟩,M⟩;have y:=Zh (Zaf (Below.refl E.heap.size E).drew M);have ai:=Zh R;refine hK _ _ ⟨Cs.keeps (Znz.of y.out) af.out,?_⟩;clear hK Kv M R
   repeat refine pO ?_
   refine Zd5 ?_;go_wp2;have ah:=Zh (r.out.old y.out)
   go_loopw [7,8] (fun bs j wr=>∃ n:Nat,n≤f.length∧j=.int .i64 n∧bs=.int .i64 (Zsc l (Zsb L) f n)∧Hid (Below w1.heap.size w1 wr)) (fun _ j _=>f.length-(intOf j).toNat)
   case atStart=>exact ⟨0,Nat.zero_le _,rfl,rfl,by exact bE⟩
   case round=>
    obtain ⟨n,hn,rfl,rfl,s⟩:=hrel;rename World=>wo;by_cases hnl:n<f.length
    ·have au:(n:Int) < f.length:=by omega
     have aF:IntKind.i64.wrap ((n:Int)+1)=((n+1:Nat):Int):=IntWalk.i64_in _ (by have:=ag.out;omega);obtain ⟨ad,rfl,t0⟩:=ZaB (ai.out.old s.out) hnl;obtain ⟨t,ht⟩:∃ t,t=f.getD n 0:=⟨_,rfl⟩;rw [←ht] at t0;have aE:=ae.out t (by rw [ht];exact Zsa hnl);have Z:=Zh (Zsd (l:=l) (T:=Zsb L) hnl);rw [←ht] at Z;obtain ⟨bs,N⟩:∃ bs,bs=Zsc l (Zsb L) f n:=⟨_,rfl⟩;rw [←N] at Z ⊢;clear N ht;obtain ⟨D,rfl⟩:∃ D:Nat,t=D:=⟨t.toNat,by omega⟩;obtain ⟨x,hx⟩:∃ x,x=Zsb L D:=⟨_,rfl⟩;have z:=Zh (ah.out.old s.out);have W:=z.out.tb.cell 6 (v:=.slice (some ⟨g,0,none⟩) m.me.length m.me.length) rfl;have F:=ZpP z.out.nb (k:=D) (by have:=r.out.ln;omega);rw [show L.getD D 0=x by rw [hx];unfold Zsb;rw [Int.toNat_natCast]] at F;rw [←hx] at Z;clear hx
     go_upto_region 10 with fail
     refine rO (Cs [(⟨B,6,none⟩,.slice (some ⟨g,0,none⟩) m.me.length m.me.length),(ad.add n,.int .i64 D),(⟨g,D,none⟩,.int .i64 x)]) (oL [0,1,2,3,4,5,6,7,8,9,10]) ⟨W,t0,F,trivial⟩ ?_;clear W t0 F
     repeat refine pO ?_
     refine Zd5 ?_;have x5:=(show Blk wo.drew B _ _ from z.out.tb).cell 5 (v:=.bool l) rfl;go_wp2
     all_goals
      refine ⟨⟨n+1,by omega,rfl,?_,s.out.drew⟩,by simp [intOf];omega⟩;rw [Z.out];unfold Zrb;grind
    ·obtain rfl:n=f.length:=by omega
     have aD:¬ (f.length:Int) < f.length:=by omega
     go_wp2;go_ret;refine ZcT (ZcY ?_) (Zaf X.out (Zaf y.out s.out));rw [Y.out];unfold Zsc;rw [List.take_length];simp
  ·go_wp2;go_ret;exact ZcT (ZcY (by rw [Y.out,if_neg e25,if_pos e26])) X.out
end
section
open Go.RowKit
def Pl (l:Bool) (n:Int):Prop:=(l=false→0≤n)∧Bl n
theorem Pl.of {l:Bool}{n:Int} (h:Bd n):Pl l n:=⟨fun _=>h.1,Bl.of h⟩
theorem Zsg {l:Bool}{a b:Int} (c:Pl l a) (d:Pl l b):Pl l (Zq9 a b):=by refine ⟨fun q=>?_,Zrh c.2 d.2⟩;have:=c.1 q;have:=d.1 q;unfold Zq9 ZmS ZmR;rw [if_neg (by omega)];omega
theorem Zsh {l:Bool}{a b:Int} (c:Bd a) (d:Bd b):Pl l (ZmS a b):=Pl.of (ZnF c d)
theorem Zsi {l:Bool}{a n:Int} (b:Bl a) (c:Pl l n):Bl (Zrb l a n):=by
 unfold Zrb Pl Bl at *
 repeat' split
 all_goals omega
theorem Zsj {a n:Int} (b:0≤n):0≤Zrb false a n:=by
 unfold Zrb
 repeat' split
 all_goals simp_all
 all_goals omega
theorem Zsk {l:Bool}{T:Int→Int}:∀ (b:List Int) (a:Int),Bl a→(∀ t∈b,Pl l (T t))→Bl (b.foldl (fun a t=>Zrb l a (T t)) a)∧(l=false→(b≠[]∨0≤a)→0≤b.foldl (fun a t=>Zrb l a (T t)) a)
 | [],a,ha,_=>⟨ha,fun _ q=>by rcases q with q|q;exact absurd rfl q;exact q⟩
 |t :: b,a,ha,h=>by have c:=h t (by simp);obtain ⟨f,g⟩:=Zsk b (Zrb l a (T t)) (Zsi ha c) fun u d=>h u (by simp [d]);refine ⟨f,fun e _=>g e (.inr ?_)⟩;subst e;exact Zsj (c.1 rfl)
structure RCx (bv:Int) (x:Ms) (l:Bool) (m:Md) (k:Nat) (L:List Int):Prop where
 hm:Za1 m=true
 hk:k<m.me.length
 sd:Zrk m (cdM m k)
 ow:Zr4 bv m x (cdM m k)
 wt:∀ i∈cdM m k,0≤x.wt i∧x.wt i≤1000
 tl:x.tl=tlV bv
 sc:x.sc=scV bv
 nu:∀ t,Pl l (Zsb L t)
section
variable {bv:Int}{x:Ms}{l:Bool}{m:Md}{k:Nat}{L:List Int} (H:RCx bv x l m k L)
include H
theorem RCx.ok:ZfM m k:=ZfN H.hm H.hk
theorem RCx.code:ZaV false (cdM m k)=0:=(ZoW H.hm default).code H.hk
theorem RCx.opd {i:In3} (hi:i∈cdM m k):ZfR m k i:=ZfS (H.ok.i i hi).1 (H.ok.i i hi).2
theorem RCx.called {i:In3} (hi:i∈cdM m k):Pl l (Zrc l m (Zsb L) i):=by
 unfold Zrc;split
 ·exact H.nu _
 ·split
  ·exact Pl.of (by unfold Bd;omega)
  ·rename_i a;obtain ⟨b,c⟩:=Zsk (l:=l) (T:=Zsb L) (ZaN m i.a) (-1) (by unfold Bl;omega) fun t _=>H.nu t;exact ⟨fun e=>c e (.inl (H.sd i hi (by omega))),b⟩
theorem RCx.tlb:0≤x.tl∧x.tl≤1000:=by rw [H.tl];unfold tlV;split<;>omega
theorem RCx.pl {i:In3} (hi:i∈cdM m k):Pl l ((gR l x m (Zsb L)).pl i):=by
 have a:=H.called hi;have e:=H.wt i hi;show Pl l (if l=true∧i.op=28 then (-1:Int) else if Zrc l m (Zsb L) i=-1 then (-1:Int) else ZmS (x.wt i) (Zrc l m (Zsb L) i));generalize Zrc l m (Zsb L) i=c at *;cases l with
 |true=>
  refine ⟨(fun q=>by cases q),?_⟩;have:=a.2;unfold Bl ZmS ZmR at *
  repeat' split
  all_goals omega
 |false=>
  have d:=a.1 rfl;have b:=a.2;unfold Bl at b;rw [if_neg (fun q=>by cases q.1),if_neg (by omega)];exact Zsh (by unfold Bd;omega) (by unfold Bd;omega)
theorem RCx.brk {i:In3} (hi:i∈cdM m k) {f s:Int} (hf:Pl l f) (hs:Pl l s):Pl l ((gR l x m (Zsb L)).brk i f s):=by
 have u:=H.wt i hi;have t:=H.tlb;have e:Pl l (x.wt i):=Pl.of (by unfold Bd;omega);have c:Pl l x.tl:=Pl.of (by unfold Bd;omega);have g:Bd (x.wt i):=by unfold Bd;omega
 have a:Bd x.tl:=by unfold Bd;omega
 show Pl l (Zrd l x.sc i f s (x.wt i) x.tl);unfold Zrd;cases l with
 |true=>
  simp only [if_true];have o:∀ n,Bl n→Pl true n:=fun n h=>⟨(fun q=>by cases q),h⟩;have p:=Zrh e.2 (Zr7 (Zrh hf.2 c.2) (Zrh hs.2 c.2));have r:=Zrh e.2 (Zrh hf.2 c.2)
  repeat' split
  all_goals first|exact o _ p|exact o _ r|exact e|exact Pl.of (by unfold Bd;omega)
 |false=>
  simp only [Bool.false_eq_true,if_false];have b:Bd f:=⟨hf.1 rfl,hf.2.2⟩;have d:Bd s:=⟨hs.1 rfl,hs.2.2⟩;have j:Pl false (max (Zq9 f x.tl) (Zq9 s x.tl)):=by rw [Zrf b a,Zrf d a];exact Pl.of (ZnH (ZnF b a) (ZnF d a))
  by_cases h29:i.op=29
  ·rw [if_pos h29];exact Zsg e j
  ·rw [if_neg h29];by_cases h30:i.op=30
   ·rw [if_pos h30];exact Zsh g (ZnG ((H.opd hi).a0 (by omega)) (ZnF b a))
   ·rw [if_neg h30];split
    ·exact Pl.of (by unfold Bd;omega)
    ·split
     ·exact Zsh (ZnF g (ZnF b a)) d
     ·exact Zsg e (Zsg hf c)
theorem RCx.wa {a b:Nat} (hs:Seg (cdM m k) a b) {acc:Int} (ha:Pl l acc):Pl l (WA (gR l x m (Zsb L)) (cdM m k) a b acc):=
 (Zre (g:=gR l x m (Zsb L)) (g':=gR l x m (Zsb L)) hs (Pl.of (by unfold Bd;omega)) (fun _ _ d e=>⟨rfl,Zsg d e⟩) (fun i c=>⟨rfl,H.pl c⟩) (fun i c f s h hs=>⟨rfl,H.brk c h hs⟩) acc ha).2
end
end
section
open Go.RowKit
attribute [local go_sem] World.cell?_alloc_some
def Zsl (m:Md) (k:Nat) (L:List Int):Prop:=∀ x:Int,x∈L↔∃ j:Nat,x=j∧Rch m k j
theorem Zsm {m:Md}{k:Nat}{L:List Nat} (h:∀ j,j∈L↔Rch m k j):Zsl m k (ZqR L):=fun x=>by
 unfold ZqR
 rw [List.mem_mergeSort,List.mem_map]
 constructor
 ·rintro ⟨j,a,rfl⟩;exact ⟨j,rfl,(h j).1 a⟩
 ·rintro ⟨j,rfl,a⟩;exact ⟨j,(h j).2 a,rfl⟩
def Zsn (m:Md) (k:Nat) (lock v:Int):Prop:=∃ L,Zsl m k L∧v=Zqj m lock L
theorem Zso {m:Md}{lock:Int}{L:List Int}:0≤Zqj m lock L∧∀ k∈L,Zp7 m lock k.toNat≤Zqj m lock L:=by
 have b:∀ (L:List Int) (a:Int),a≤L.foldl (fun a k=>max a (Zp7 m lock k.toNat)) a∧∀ k∈L,Zp7 m lock k.toNat≤L.foldl (fun a k=>max a (Zp7 m lock k.toNat)) a:=by
  intro L
  induction L with
  | nil=>intro a;exact ⟨Int.le_refl _,fun _ h=>by simp at h⟩
  |cons x r ih=>
   intro a;obtain ⟨d,e⟩:=ih (max a (Zp7 m lock x.toNat));rw [List.foldl_cons];refine ⟨Int.le_trans (Int.le_max_left _ _) d,fun k c=>?_⟩;rcases List.mem_cons.1 c with rfl|c
   ·exact Int.le_trans (Int.le_max_right _ _) d
   ·exact e k c
 exact ⟨(b L 0).1,(b L 0).2⟩
theorem Zsp {m:Md}{k:Nat}{lock v u:Int} (h:Zsn m k lock v) (g:Zsn m k lock u):v=u:=by obtain ⟨L,c,rfl⟩:=h;obtain ⟨K,b,rfl⟩:=g;exact Int.le_antisymm (Zql Zso.1 fun x a=>Zso.2 x ((b x).2 ((c x).1 a))) (Zql Zso.1 fun x a=>Zso.2 x ((c x).2 ((b x).1 a)))
theorem Zsq {m:Md} (b:Za1 m=true) {lock:Int}{L:List Int} (h:∀ x∈L,0≤x∧x<m.me.length):Bd (Zqj m lock L):=
 ⟨Zso.1,Zql (by omega) fun k a=>(Zqe b (k:=k.toNat) (by have:=h k a;omega) lock).2⟩
theorem Zsr {L:List Nat}{x:Int} (h:x∈ZqR L):∃ j∈L,x=(j:Int):=by unfold ZqR at h;rw [List.mem_mergeSort] at h;obtain ⟨j,a,rfl⟩:=List.mem_map.1 h;exact ⟨j,a,rfl⟩
def Zss (w:World) (m:Md) (k:Nat) (lock:Int):Ending→World→Prop:=fun e w'=>(∃ v,Zsn m k lock v∧e=.returned (.tuple #[.int .i64 (if 1000000000<v then 0 else v),.int .i64 (if 1000000000<v then 6 else 0)]))∧Below w.heap.size w w'
theorem Zst (m:Md) (h:Hd) (k lock:Int) (w:World) (H:Zay w h m) (b:ZoS m k=false∨lock<0∨6≤lock):Calls Tryz.prog 46 #[.agg (HM.mk h m),.int .i64 k,.int .i64 lock] w (Zhf w (.int .i64 0) (.int .i64 1)):=by
 have a:Below w.heap.size w (w.alloc (.cells (HM.mk h m) 26)):=by exact bE
 have HA:=Zh (ZoU m h k _ (H.old a));have HB0:=Zh a;clear a H;cases hq:ZoS m k
 ·rw [hq] at HA;clear b;exact j5
 ·rw [hq] at HA b;have c:lock<0∨(¬ lock<0∧6≤lock):=by rcases b with q|q|q;cases q;exact .inl q;omega
  clear b;rcases c with c|⟨c,hl2⟩
  ·exact j5
  ·have d:lock ≥ 6:=hl2;exact j5
theorem Zsu (m:Md) (h:Hd) (k:Nat) (lock:Int) (w:World) (H:Zay w h m) (hr:ZoS m k=true) (hv:Za1 m=true) (hk:k<m.me.length) (hl:0≤lock∧lock<6):Calls Tryz.prog 46 #[.agg (HM.mk h m),.int .i64 k,.int .i64 lock] w (Zss w m k lock):=by
 obtain ⟨z,D⟩:∃ z,z=w.alloc (.cells (HM.mk h m) 26):=⟨_,rfl⟩;have HB:=Zh (show Below w.heap.size w z by rw [D];exact bE);have HX:=Zh (show Blk z w.heap.size (HM.mk h m) 26 by rw [D];exact Blk.new _ _ _);have Hj:=Zh (H.old HB.out);have HW:=Zh D;have HA:=Zh (ZoU m h k z Hj.out);rw [if_pos hr] at HA;have aN:=Zh (fun w' (hb:Below z.heap.size z w')=>Zrx m h k w' (Hj.out.old hb) hv hk);have aI:=Zh (fun w' (hb:Below z.heap.size z w')=>ZoR m h w' (Hj.out.old hb));have Z:=Zh hv;have aW:=Zin hv;obtain ⟨a9,ba⟩:=hl;have aZ:¬ lock<0:=by omega
 have a0:¬ lock ≥ 6:=by omega
 clear D H hr hv;go_enter Tryz.func46,Tryz.ntmps46
 go_upto_region 1 with fail
 rw [←HW.out];have W:=HX.out.cell 0 (v:=.slice h.co m.cl.length h.cc) rfl;have X:=HX.out.cell 1 (v:=.slice h.so m.st.length h.sc) rfl;have n:=HX.out.cell 2 (v:=.slice h.eo m.me.length h.ec) rfl;have Y:=HX.out.cell 3 (v:=.int .i64 m.sel) rfl
 go_upto_region 6 with (first
  | (go_at_call 100;refine HA.out.mono ?_;rintro e w1 ⟨rfl,b⟩;have I:=Zh b;have W:=(b.cell (Zac W)).trans W;have X:=(b.cell (Zac X)).trans X;have n:=(b.cell (Zac n)).trans n;have Y:=(b.cell (Zac Y)).trans Y;clear b)
  | (go_at_call 101;refine (aI.out _ I.out).mono ?_;rintro e w2 ⟨B,M,rfl,f,an,ao⟩;have ac:=Zh (Zaf I.out f);have ai:=Zh (show z.heap.size≤M from Nat.le_trans I.out.size an);have aS:=Zh (ao (Zm1 (gW ZmV m) m));have W:=(f.cell (Zac W)).trans W;have X:=(f.cell (Zac X)).trans X;have n:=(f.cell (Zac n)).trans n;have Y:=(f.cell (Zac Y)).trans Y;clear f an ao)
  | (go_at_call 102;refine (aN.out _ ac.out).mono ?_;rintro e w3 ⟨⟨L,o1,c1,rfl,av,N,G⟩,K⟩;have ae:=Zh (Zaf ac.out K);have J:=Zh (aS.out.old K);have aj:=Zh G;have ag:=Zh N;have ar:L.length≤16:=Nat.le_trans (ZnB m.me.length L av fun j hj=>by have:=((N j).1 hj).le Z.out hk;omega) aW.2.1;clear K G N av W X n Y))
 have bb:(ZqR L).length≤16:=by unfold ZqR;rw [List.length_mergeSort,List.length_map];exact ar
 clear ar
 go_loopw [9,30] (fun o i wr=>∃ (q:Nat) (v:Int),q≤(ZqR L).length∧i=.int .i64 q∧o=.int .i64 v∧Hid (v=Zqj m lock ((ZqR L).take q))∧Hid (Upd M M w3 wr)∧Hid (KnM (Zm1 (gW ZmV m) m) wr M fun _=>True)) (fun _ i _=>(ZqR L).length-(intOf i).toNat)
 case atStart=>exact ⟨0,0,Nat.zero_le _,rfl,rfl,rfl,Upd.refl _ _ _,J.out.kn.weak fun _ _=>trivial⟩
 case round=>
  obtain ⟨q,v,hq,rfl,rfl,ak,HU,HN⟩:=hrel;rename World=>wq;have A:=Zh (J.out.next HU.out HN.out);have ah:=Zh (J.out.keeps HU.out);by_cases hql:q<(ZqR L).length
  ·have ax:(q:Int) < (ZqR L).length:=by omega
   have bc:IntKind.i64.wrap ((q:Int)+1)=((q+1:Nat):Int):=IntWalk.i64_in _ (by omega);obtain ⟨td,rfl,t0⟩:=ZaB (ZnA aj.out ah.out) hql;obtain ⟨j,hj,O⟩  :=Zsr (ZfU (0:Int) hql);have aB:(ZqR L).take (q+1)=(ZqR L).take q++[(j:Int)]:=by rw [List.take_add_one,←O];congr 1;simp [hql]
   rw [O] at t0;have aA:=(ag.out j).1 hj;have g:j<m.me.length:=by have:=aA.le Z.out hk;omega
   have aY:(j:Int) < m.me.length:=by omega
   have a7:(cdM m j).length≤120:=(ZfN Z.out g).z.2.2;obtain ⟨ad,ap,-,-,-,-,-,-,e6⟩:=A.out.md.mth g;rw [show (m.me.getD j default).k.length=(cdM m j).length from rfl] at e6;have n:=ah.out _ _ ((HX.out.old ae.out).cell 2 (v:=.slice h.eo m.me.length h.ec) rfl);rw [ap] at n;have E:ZaV false (cdM m j)=0:=(ZoW Z.out wq).code g;have HP:=Zh (fun w' (hb:Below wq.heap.size wq w')=>ZmQ (cdM m j) (h.e j).ko (h.e j).kc E (cdM m j).length 0 (cdM m j).length w' (by omega) (Zar.old (A.out.md.k j g) (w':=w') hb) (Zmq (ZfN Z.out g).n));have aQ:=Zh aB;have af:=Zh (show Cs [(⟨w.heap.size,2,none⟩,.slice (some ad) m.me.length h.ec),(⟨(ad.add (j*7)).block,(ad.add (j*7)).off+6,none⟩,.slice (h.e j).ko (cdM m j).length (h.e j).kc)] wq from ⟨n,e6,trivial⟩);clear O aA aB ap E
   go_upto_region 8 with fail
   refine rO (Cs [(⟨w.heap.size,2,none⟩,.slice (some ad) m.me.length h.ec),(⟨(ad.add (j*7)).block,(ad.add (j*7)).off+6,none⟩,.slice (h.e j).ko (cdM m j).length (h.e j).kc)]) (oL [0,1,2,3,4,5,6,7,8,9,10,11,12,13,14,15,16,117,118,19,20]) ⟨n,e6,trivial⟩ ?_;clear n e6 t0
   repeat refine pO ?_
   refine oO fun Kv hK=>?_;go_simp;refine (HP.out _ (Below.refl _ _).drew).mono ?_;rintro e w4 ⟨ro,rc,aC,rfl,y,F,C⟩;have u:=Zh (Zaf (Below.refl wq.heap.size wq).drew C);have aM:=Zh (Zar.of_own y);have aJ:=Zh (F.weak (Q:=fun _=>True) fun _ _=>trivial);refine hK _ _ ⟨Cs.keeps (Znz.of u.out) af.out,?_⟩;clear hK Kv y F C;refine oO fun Kv hK=>?_;go_simp;refine (ZrM Z.out g lock ((cdM m j).length+1) 0 (cdM m j).length (by omega) w4 (fun _=>True) ro rc aC (A.out.old u.out) aM.out aJ.out).mono ?_;rintro e w5 ⟨rfl,U,au⟩;have aq:=(Znz.of u.out).trans (Znz.upd (A.out.old u.out).kn.map U);have aR:=Zh ((HU.out.trans (Upd.of u.out)).trans U);have aL:=Zh (au.weak (R:=fun _=>True) fun _ _=>trivial);refine hK _ _ ⟨Cs.keeps aq af.out,?_⟩;clear hK Kv U au aq;obtain ⟨sv,T⟩:∃ s,s=Zpo (gC m) (cdM m j) lock 0 (cdM m j).length:=⟨_,rfl⟩;rw [←T];have aO:=Zh T;clear T
   repeat refine pO ?_
   refine Zd5 ?_;go_wp2
   all_goals
    refine ⟨⟨q+1,_,hql,rfl,rfl,?_,aR.out,aL.out⟩,by simp [intOf];omega⟩;show _=Zqj m lock ((ZqR L).take (q+1));rw [aQ.out,Zqk,←ak.out,Int.toNat_natCast,show Zp7 m lock j=sv from aO.out.symm]
    all_goals (first|rfl|omega|((repeat' split)<;>omega))
  ·have ax:¬ (q:Int) < (ZqR L).length:=by omega
   have aw:(ZqR L).take q=ZqR L:=List.take_of_length_le (by omega);have V:=ak.out;rw [aw] at V;have aP:=Zh V;clear aw V;obtain ⟨r1,ay⟩:∃ r,r=if 1000000000<v then 0 else v:=⟨_,rfl⟩;obtain ⟨r2,az⟩:∃ r:Int,r=if 1000000000<v then 6 else 0:=⟨_,rfl⟩;have HE:=Zh (And.intro ay az);clear ay az
   go_wp2_with (go_at_call 105;refine (ZnS _ _).mono ?_;rintro e w4 ⟨rfl,C⟩;rw [←HE.out.1,←HE.out.2])
   go_ret2;exact ⟨⟨v,⟨ZqR L,Zsm ag.out,aP.out⟩,by rw [HE.out.1,HE.out.2];rfl⟩,Zaf (HU.out.below (Zaf HB.out ae.out) (Nat.le_refl _) (Nat.le_trans HB.out.size ai.out) (Nat.le_trans HB.out.size ai.out)) C⟩
end
section
open Go.RowKit
theorem Zsv {m:Md}{lo:List Ty}{i:In3}{s:Ps} (h:(ZeC m lo i s).1=0) (a:i.op=26):ZaN m i.a≠[]:=fun e=>by
 unfold ZeC at h
 rw [if_neg (by omega),if_neg (by omega)] at h
 have b:∀ l,ZeB m lo i l=none:=fun l=>by
  unfold ZeB Zew
  simp [a,e]
 simp only [b] at h
 split at h<;>simp at h
theorem Zsw {m:Md}{lo:List Ty}{r:Ty}:∀ (l:List In3) (n:Nat) (s:Ps),(ZeE m lo r n l s).2.2=0→Zrk m l
 | [],_,_,_=>fun i b=>by simp at b
 |i :: l,n,s,h=>by
  unfold ZeE at h;by_cases h1:(ZeC m lo i s).1=0
  ·rw [if_pos h1] at h;dsimp only at h;intro j a;rcases List.mem_cons.1 a with rfl|a
   ·exact Zsv h1
   ·refine Zsw (lo:=lo) (r:=r) l (n+1) (ZeC m lo i s).2 ?_ j a;split at h
    ·assumption
    ·exact h
  ·rw [if_neg h1] at h;exact absurd h h1
theorem Zsx {m:Md}:∀ (n k:Nat),(Zmf m n k).2.2=0→∀ j,k≤j→j<k+n→(ZeG m j).2.2=0
 | 0,k,_,j,h1,h2=>by omega
 |n+1,k,h,j,h1,h2=>by
  unfold Zmf at h;by_cases h3:(ZeG m k).2.2=0
  ·rw [if_pos h3] at h;by_cases e:j=k
   ·subst e;exact h3
   ·exact Zsx n (k+1) h j (by omega) (by omega)
  ·rw [if_neg h3] at h;exact absurd h h3
theorem Zsy {m:Md} (h:(Zmg m).2.2=0):Za1 m=true∧∀ k,k<m.me.length→Zrk m (cdM m k):=by
 unfold Zmg at h;by_cases hm:Za1 m=true
 ·rw [if_pos hm] at h;exact ⟨hm,fun k a=>Zsw _ _ _ (Zsx _ _ h k (Nat.zero_le _) (by omega))⟩
 ·rw [if_neg hm] at h;exact absurd h (by decide)
section
variable {x:Ms}{m:Md} (hm:Za1 m=true) (hsd:∀ k,k<m.me.length→Zrk m (cdM m k))
include hm hsd
theorem Zsz (d:∀ k,k<m.me.length→∀ i∈cdM m k,0≤x.wt i∧x.wt i≤1000) (c:0≤x.tl∧x.tl≤1000) (a:x.sc=true→∀ k,k<m.me.length→∀ i∈cdM m k,i.op=32→x.wt i=0):∀ n k,k<n→k<m.me.length→Zm1 (gR false x m) m k=Zm1 (gW x m) m k
 | 0,k,hn,_=>by omega
 |n+1,k,hn,hk=>by
  have b:=ZfN hm hk;rw [ZoN hm x hk,ZoL];refine (Zrl (k:=k) (fun i e=>b.i i e) (hsd k hk) (d k hk) c (fun q=>a q k hk) (T':=fun t=>Zm1 (gW x m) m t.toNat) (fun t f g=>?_) (fun t=>?_) (Zmq b.n) 0 (by unfold Bd;omega)).1
  ·rw [Zm3 _ _ (by omega)];exact Zsz d c a n _ (by omega) (by omega)
  ·exact ZoM hm (x:=x) d c (t.toNat+1) _ (by omega)
end
def ZsA (g:Wg) (l:List In3) (p:Nat):Int × Nat:=
 if ZaR (l.getD p default).op=true then
  (g.brk (l.getD p default) (WA g l (p+1) (if (mtV l p).1<0 then (mtV l p).2 else (mtV l p).1.toNat) 0) (if (mtV l p).1<0 then 0 else WA g l ((mtV l p).1.toNat+1) (mtV l p).2 0),(mtV l p).2+1)
 else (g.pl (l.getD p default),p+1)
theorem ZsB {g:Wg}{l:List In3}{p b:Nat} (h:Seg l p b) (a:p<b):p<(ZsA g l p).2∧(ZsA g l p).2≤b∧Seg l (ZsA g l p).2 b∧∀ acc,WA g l p b acc=WA g l (ZsA g l p).2 b (g.plus acc (ZsA g l p).1):=by
 rcases ZmK h with e|⟨_,h2,h3,h4,h5⟩|⟨en,h1,h2,h3,h4,h5⟩|⟨n,en,h1,h2,h3,h4,h5,h6,h7⟩
 ·omega
 ·have e:ZsA g l p=(g.pl (l.getD p default),p+1):=by unfold ZsA;rw [if_neg (by rw [h2];decide)]
  rw [e];exact ⟨Nat.lt_succ_self _,a,h5,fun acc=>Zmw h2 h5⟩
 ·have e:ZsA g l p=(g.brk (l.getD p default) (WA g l (p+1) en 0) 0,en+1):=by unfold ZsA;rw [if_pos (show _=true from h1.2.1),Zmn h1];rfl
  rw [e];exact ⟨by dsimp only;omega,by dsimp only;omega,h5,fun acc=>Zmx h1 h4 h5⟩
 ·have e:ZsA g l p=(g.brk (l.getD p default) (WA g l (p+1) n 0) (WA g l (n+1) en 0),en+1):=by unfold ZsA;rw [if_pos (show _=true from h1.2.1),Zmn h1];dsimp only;rw [if_neg (by omega),if_neg (by omega),Int.toNat_natCast]
  rw [e];exact ⟨by dsimp only;omega,by dsimp only;omega,h7,fun acc=>Zmy h1 h5 h6 h7⟩
end
section
open Go.RowKit
abbrev GR (x:Ms) (l:Bool) (m:Md) (L:List Int):Wg:=gR l x m (Zsb L)
def ZsC (B g:Nat) (h:Hd) (bv:Int) (x:Ms) (l:Bool) (m:Md) (k:Nat) (L:List Int) (a b:Nat):Prop:=∀ w,RT w B g h m bv l L →
 Calls Tryz.prog 155 #[ZQ.p B,.slice (h.e k).ko (cdM m k).length (h.e k).kc,.int .i64 a,.int .i64 b] w (Ret w (.int .i64 (WA (GR x l m L) (cdM m k) a b 0)))
theorem ZsD {c:List In3}{p b:Nat} (d:p=b∨(p<b∧ZaR (c.getD p default).op=false∧(c.getD p default).op≠34∧(c.getD p default).op≠35∧Seg c (p+1) b) ∨
  (∃ en:Nat,Mat c p (-1) en∧p<en∧en<b∧Seg c (p+1) en∧Seg c (en+1) b)∨∃ n en:Nat,Mat c p n en∧p<n∧n<en∧en<b∧Seg c (p+1) n∧Seg c (n+1) en∧Seg c (en+1) b) (f:p<b) (a:ZaR (c.getD p default).op=true) :
  ∃ (alt:Int) (en q:Nat),Mat c p alt en∧p<q∧q≤en∧en<c.length∧Seg c (p+1) q∧((alt=-1∧q=en)∨(alt=q∧q<en∧Seg c (q+1) en)):=by
 rcases d with e|⟨_,h2,_⟩|⟨en,h1,h2,h3,h4,h5⟩|⟨n,en,h1,h2,h3,h4,h5,h6,h7⟩
 ·omega
 ·rw [a] at h2;cases h2
 ·exact ⟨-1,en,en,h1,h2,Nat.le_refl _,h1.2.2.1,h4,.inl ⟨rfl,rfl⟩⟩
 ·exact ⟨n,en,n,h1,h2,by omega,h1.2.2.1,h5,.inr ⟨rfl,h3,h6⟩⟩
theorem ZsE {B g:Nat}{h:Hd}{bv:Int}{x:Ms}{l:Bool}{m:Md}{k:Nat}{L:List Int} (X:RCx bv x l m k L) {p b:Nat} (hs:Seg (cdM m k) p b) (a6:p<b) (ih:∀ a' b',p<a'→Seg (cdM m k) a' b'→ZsC B g h bv x l m k L a' b') (w:World) (H:RT w B g h m bv l L) :
    Calls Tryz.prog 217 #[ZQ.p B,.slice (h.e k).ko (cdM m k).length (h.e k).kc,.int .i64 p] w (Zhf w (.int .i64 (ZsA (GR x l m L) (cdM m k) p).1) (.int .i64 ((ZsA (GR x l m L) (cdM m k) p).2:Int))):=by
 have hp:p<(cdM m k).length:=by have:=(Zmo hs).2;omega
 have bo:(p:Int) < (cdM m k).length:=by omega
 have bl:(cdM m k).length≤120:=X.ok.z.2.2;have bs:IntKind.i64.wrap ((p:Int)+1)=((p+1:Nat):Int):=IntWalk.i64_in _ (by omega);have aL:=H.md.k k X.hk;obtain ⟨ca,ap,o0,o1,o2⟩:=ZaA (l:=cdM m k) aL hp;have J:(cdM m k).getD p default∈cdM m k:=ZfU _ hp;obtain ⟨⟨q1,q2⟩,I⟩:∃ q,q=ZsA (GR x l m L) (cdM m k) p:=⟨_,rfl⟩;rw [←I];dsimp only;have HD:=Zh (X.opd J);have W:=Zh (X.wt _ J);have V:=Zh (fun j (hH:Zay j h m)=>X.ow _ J j h hH);have ai:=Zh (X.called J);have aF:=Zh (show ∀ t∈ZaN m ((cdM m k).getD p default).a,0≤t from fun t ht=>ZfT ht);have aC:=Zh (X.ok.i _ J).1;have aM:(GR x l m L).pl ((cdM m k).getD p default)=if l=true∧((cdM m k).getD p default).op=28 then (-1:Int) else if Zrc l m (Zsb L) ((cdM m k).getD p default)=-1 then (-1:Int) else ZmS (x.wt ((cdM m k).getD p default)) (Zrc l m (Zsb L) ((cdM m k).getD p default)):=rfl;unfold ZsA at I;rw [aM] at I;have ar:=ZsD (ZmK hs) a6;obtain ⟨i,hi⟩:∃ i,i=(cdM m k).getD p default:=⟨_,rfl⟩;rw [←hi] at o0 o1 o2 I HD W V ai aF aC ar;have bi:=Zh hi;obtain ⟨C,K,M⟩:=i;dsimp only at o0 o1 o2 I;obtain ⟨cv,aK⟩:∃ c,c=Zrc l m (Zsb L) ⟨C,K,M⟩:=⟨_,rfl⟩;have aB:=Zh (fun j hR=>Zsf (w:=j) (B:=B) (g:=g) (h:=h) (bv:=bv) (l:=l) (L:=L) hR X.hm ⟨C,K,M⟩ (fun e=>⟨HD.out.a0 (by dsimp only at e ⊢;omega),by have:=(HD.out.o25 e).1;have:=X.hk;omega⟩) (fun e=>⟨HD.out.a0 (by dsimp only at e ⊢;omega),(HD.out.o26 e).1,fun t ht=>⟨aF.out t ht,by have:=(HD.out.o26 e).2 t ht;have:=X.hk;omega⟩⟩));rw [←aK] at aB ai I;obtain ⟨wt,av⟩:∃ n,n=x.wt ⟨C,K,M⟩:=⟨_,rfl⟩;rw [←av] at W V I
 have a2:=Zh av;obtain ⟨w0,aa⟩:∃ w0,w0=w.alloc (.cells #[.int .i64 C,.int .i64 K,.int .i64 M] 78):=⟨_,rfl⟩;have HB:=Zh (show Below w.heap.size w w0 by rw [aa];exact bE);have HX:=Zh (show Blk w0 w.heap.size #[.int .i64 C,.int .i64 K,.int .i64 M] 78 by rw [aa];exact Blk.new _ _ _);have HT:=Zh (H.old HB.out);have HW:=Zh aa;have aj:=Zh (show ∀ a' b',p<a'→Seg (cdM m k) a' b'→∀ j,RT j B g h m bv l L→Calls Tryz.prog 155 #[ZQ.p B,.slice (some ca) (cdM m k).length (h.e k).kc,.int .i64 a',.int .i64 b'] j (Ret j (.int .i64 (WA (GR x l m L) (cdM m k) a' b' 0))) from fun a' b' h1 h2 j hR=>by have:=ih a' b' h1 h2 j hR;rwa [ap] at this);have aV:=Zh (show ∀ j,RT j B g h m bv l L→Zar j (some ca) (h.e k).kc (cdM m k) from fun j hR=>by have:=hR.md.k k X.hk;rwa [ap] at this);have N:=Zh X;have ak:=Zh ar;rw [ap];clear aa H hi av aK hs ar aL J aM ih X;go_enter Tryz.func217,Tryz.ntmps217
 go_upto_region 2 with fail
 rw [←HW.out];clear o0 o1 o2;have x0:=HX.out.cell 0 (v:=.int .i64 C) rfl;rcases ho:ZaR C with _|_
 · rw [ho,if_neg (by decide)] at I;obtain ⟨e1,rfl⟩:=Prod.mk.inj I;have HO:=Zh ho;have y:=Zh e1;clear I e1 ho aj ak;have t5:=HT.out.tb.cell 5 (v:=.bool l) rfl;have x1:=HX.out.cell 1 (v:=.int .i64 K) rfl;have x2:=HX.out.cell 2 (v:=.int .i64 M) rfl;by_cases hth:l=true∧C=28
   · obtain ⟨rfl,rfl⟩:=hth
     go_wp2_with (go_at_call 151;refine (ZeO _ _).mono ?_;rintro e w2 ⟨rfl,rfl⟩;rw [HO.out])
     go_ret2;exact Zhg (ZcY (by rw [y.out];simp)) (ZcY (by omega)) HB.out
   · rw [if_neg hth] at y;have ae:l=true→¬ C=28:=fun a b=>hth ⟨a,b⟩;have a1:=Zh ae;clear hth ae
     go_upto_region 5 with (go_at_call 151;refine (ZeO _ _).mono ?_;rintro e w2 ⟨rfl,rfl⟩;rw [HO.out])
     all_goals first
       | (exfalso;rename_i e1 e2;simp at e2;exact a1.out e1 e2)
       | skip
     all_goals
       clear t5;have t0:=HT.out.tb.cell 0 (v:=.slice h.co m.cl.length h.cc) rfl
       go_upto_region 6 with (go_at_call 288;refine (aB.out _ HT.out).mono ?_;rintro e w1 ⟨rfl,O⟩;have r:=Zh O;clear O x0 x1 x2 t0)
       have Y:=Zh (HX.out.old r.out);have z:=Zh (HT.out.old r.out);by_cases hc1:cv=-1
       · rw [if_pos hc1] at y;go_wp2;go_ret2;exact Zhg (ZcY y.out.symm) (ZcY (by omega)) (Zaf HB.out r.out)
       · rw [if_neg hc1] at y;have u:=Zh (show Cs [(⟨B,0,none⟩,.slice h.co m.cl.length h.cc),(⟨B,1,none⟩,.slice h.so m.st.length h.sc),(⟨B,2,none⟩,.slice h.eo m.me.length h.ec),(⟨B,3,none⟩,.int .i64 m.sel),(⟨B,4,none⟩,.int .i64 bv),(⟨w.heap.size,0,none⟩,.int .i64 C),(⟨w.heap.size,1,none⟩,.int .i64 K),(⟨w.heap.size,2,none⟩,.int .i64 M)] w1 from ⟨z.out.tb.cell 0 rfl,z.out.tb.cell 1 rfl,z.out.tb.cell 2 rfl,z.out.tb.cell 3 rfl,z.out.tb.cell 4 rfl,Y.out.cell 0 rfl,Y.out.cell 1 rfl,Y.out.cell 2 rfl,trivial⟩)
         go_upto_region 8 with fail
         refine rO (Cs [(⟨B,0,none⟩,.slice h.co m.cl.length h.cc),(⟨B,1,none⟩,.slice h.so m.st.length h.sc),(⟨B,2,none⟩,.slice h.eo m.me.length h.ec),(⟨B,3,none⟩,.int .i64 m.sel),(⟨B,4,none⟩,.int .i64 bv),(⟨w.heap.size,0,none⟩,.int .i64 C),(⟨w.heap.size,1,none⟩,.int .i64 K),(⟨w.heap.size,2,none⟩,.int .i64 M)]) (oL [0,1,2,3,4,5,6,7,8,10,12,13,109,111,14,15]) u.out ?_
         repeat refine pO ?_
         refine oO fun Z G=>?_;go_simp;refine (V.out _ (z.out.md.old (Below.refl _ _).drew)).mono ?_;rintro e w2 ⟨rfl,R⟩;have D:=Zh (Zaf (Below.refl w1.heap.size w1).drew R);refine G _ _ ⟨Cs.keeps (Znz.of D.out) u.out,?_⟩;clear G Z R
         repeat refine pO ?_
         refine oO fun Z G=>?_;go_simp;refine (Zrr wt cv _ (by have:=W.out;omega) (by have:=ai.out.2;unfold Bl at this;omega)).mono ?_;rintro e w3 ⟨rfl,T⟩;have E:=Zh (Zaf D.out T);refine G _ _ ⟨Cs.keeps (Znz.of E.out) u.out,?_⟩;clear G Z T
         repeat refine pO ?_
         refine Zd5 ?_;go_wp2;go_ret2;exact Zhg (ZcY y.out.symm) (ZcY (by omega)) (Zaf HB.out (Zaf r.out E.out))
 · rw [ho,if_pos rfl] at I;obtain ⟨a3,en,q,aq,bp,br,bm,aO,F⟩:=ak.out ho;rw [Zmn aq] at I;obtain ⟨f,hf⟩:∃ f,f=WA (GR x l m L) (cdM m k) (p+1) q 0:=⟨_,rfl⟩;obtain ⟨s,hs⟩:∃ s,s=if a3=-1 then 0 else WA (GR x l m L) (cdM m k) (q+1) en 0:=⟨_,rfl⟩;have aN:(q1,q2)=((GR x l m L).brk ⟨C,K,M⟩ f s,en+1):=by
     rw [I,hf,hs];rcases F with ⟨rfl,rfl⟩|⟨rfl,h1,h2⟩
     · rfl
     · dsimp only;rw [if_neg (by omega),if_neg (by omega),if_neg (by omega),Int.toNat_natCast]
   obtain ⟨e1,rfl⟩:=Prod.mk.inj aN;have aX:=Zh (show Pl l f by rw [hf];exact N.out.wa aO (Pl.of (by unfold Bd;omega)));have aY:=Zh (show Pl l s by
     rw [hs];rcases F with ⟨rfl,rfl⟩|⟨rfl,h1,h2⟩
     · exact Pl.of (by unfold Bd;omega)
     · rw [if_neg (by omega)];exact N.out.wa h2 (Pl.of (by unfold Bd;omega)))
   have y:=Zh (show q1=Zrd l (scV bv) ⟨C,K,M⟩ f s wt (tlV bv) by rw [e1,←N.out.tl,←N.out.sc,a2.out];rfl);have aZ:=Zh (show ∀ j,RT j B g h m bv l L→Calls Tryz.prog 155 #[ZQ.p B,.slice (some ca) (cdM m k).length (h.e k).kc,.int .i64 ((p+1:Nat):Int),.int .i64 q] j (Ret j (.int .i64 f)) from fun j hR=>by have:=aj.out (p+1) q (by omega) aO j hR;rwa [←hf] at this);have HO:=Zh ho;have aW:=Zh (Zrq (cdM m k) (some ca) (h.e k).kc w0 (aV.out _ HT.out) N.out.code aq);have bn:IntKind.i64.wrap ((en:Int)+1)=((en+1:Nat):Int):=IntWalk.i64_in _ (by omega);have aE:=Zh hs;clear I aN e1 ho aq hf hs ak;rcases F with ⟨rfl,rfl⟩|⟨rfl,bq,a7⟩
   all_goals
     go_upto_region 10 with (first
       | (go_at_call 151;refine (ZeO _ _).mono ?_;rintro e w2 ⟨rfl,rfl⟩;rw [HO.out])
       | (go_at_call 165;refine aW.out.mono ?_;rintro e w1 ⟨rfl,O⟩;have r:=Zh O;clear O x0))
     have z:=Zh (HT.out.old r.out);have Y:=Zh (HX.out.old r.out)
     go_upto_region 14 with (go_at_call 155;refine (aZ.out _ z.out).mono ?_;rintro e w2 ⟨rfl,R⟩;have D:=Zh (Zaf r.out R);clear R)
     have a0:=Zh (HT.out.old D.out);have bk:=Zh (HX.out.old D.out)
   all_goals first
     | (have U:s=0:=by have:=aE.out;simpa using this
        subst U;obtain ⟨w3,au⟩:∃ w3,w3=w2:=⟨_,rfl⟩;have E:=Zh (show Below w0.heap.size w0 w3 by rw [au];exact D.out)
        go_upto_region 16 with fail
        rw [←au];clear au)
     | (have aD:=Zh (aj.out (q+1) en (by omega) a7 w2 a0.out)
        have U:=aE.out;rw [if_neg (by omega)] at U;rw [←U] at aD;clear U
        go_upto_region 16 with (go_at_call 155;refine aD.out.mono ?_;rintro e w3 ⟨rfl,T⟩;have E:=Zh (Zaf D.out T);clear T))
   all_goals
     have A:=Zh (HT.out.old E.out);have am:=Zh (HX.out.old E.out);have u:=Zh (show Cs [(⟨B,0,none⟩,.slice h.co m.cl.length h.cc),(⟨B,1,none⟩,.slice h.so m.st.length h.sc),(⟨B,2,none⟩,.slice h.eo m.me.length h.ec),(⟨B,3,none⟩,.int .i64 m.sel),(⟨B,4,none⟩,.int .i64 bv),(⟨w.heap.size,0,none⟩,.int .i64 C),(⟨w.heap.size,1,none⟩,.int .i64 K),(⟨w.heap.size,2,none⟩,.int .i64 M)] w3 from ⟨A.out.tb.cell 0 rfl,A.out.tb.cell 1 rfl,A.out.tb.cell 2 rfl,A.out.tb.cell 3 rfl,A.out.tb.cell 4 rfl,am.out.cell 0 rfl,am.out.cell 1 rfl,am.out.cell 2 rfl,trivial⟩);refine rO (Cs [(⟨B,0,none⟩,.slice h.co m.cl.length h.cc),(⟨B,1,none⟩,.slice h.so m.st.length h.sc),(⟨B,2,none⟩,.slice h.eo m.me.length h.ec),(⟨B,3,none⟩,.int .i64 m.sel),(⟨B,4,none⟩,.int .i64 bv),(⟨w.heap.size,0,none⟩,.int .i64 C),(⟨w.heap.size,1,none⟩,.int .i64 K),(⟨w.heap.size,2,none⟩,.int .i64 M)]) (oL [0,1,2,3,4,5,6,7,8,9,10,11,12,14,17,18,113,115,116,19,20]) u.out ?_
     repeat refine pO ?_
     refine oO fun Z G=>?_;go_simp;refine (V.out _ (A.out.md.old (Below.refl _ _).drew)).mono ?_;rintro e w4 ⟨rfl,aH⟩;have ag:=Zh (Zaf (Below.refl w3.heap.size w3).drew aH);refine G _ _ ⟨Cs.keeps (Znz.of ag.out) u.out,?_⟩;clear G Z aH
     repeat refine pO ?_
     refine oO fun Z G=>?_;go_simp;refine (Zr6 (A.out.old ag.out)).mono ?_;rintro e w5 ⟨rfl,aI⟩;have ah:=Zh (Zaf ag.out aI);refine G _ _ ⟨Cs.keeps (Znz.of ah.out) u.out,?_⟩;clear G Z aI
     repeat refine pO ?_
     refine oO fun Z G=>?_;go_simp;refine (Zr9 (A.out.old ah.out) ⟨C,K,M⟩ f _ wt (tlV bv) aX.out.2 aY.out.2 W.out (by unfold tlV;split<;>omega) (fun e=>ZoC aC.out e)).mono ?_;rintro e w6 ⟨rfl,aJ⟩;have aA:=Zh (Zaf ah.out aJ);refine G _ _ ⟨Cs.keeps (Znz.of aA.out) u.out,?_⟩;clear G Z aJ
     repeat refine pO ?_
     refine Zd5 ?_;go_wp2;go_ret2;exact Zhg (ZcY y.out.symm) (ZcY (by omega)) (Zaf HB.out (Zaf E.out aA.out))
end
section
open Go.RowKit
theorem RCx.one {bv:Int}{x:Ms}{l:Bool}{m:Md}{k:Nat}{L:List Int} (X:RCx bv x l m k L) {p b:Nat} (hs:Seg (cdM m k) p b) (hp:p<b):Pl l (ZsA (GR x l m L) (cdM m k) p).1:=by
 have hm:∀ d,d < (cdM m k).length→(cdM m k).getD d default∈cdM m k:=fun d f=>ZfU _ f;have c:Pl l 0:=Pl.of (by unfold Bd;omega);have a:p<(cdM m k).length:=by have:=(Zmo hs).2;omega
 rcases ZmK hs with e|⟨_,h2,h3,h4,h5⟩|⟨en,h1,h2,h3,h4,h5⟩|⟨n,en,h1,h2,h3,h4,h5,h6,h7⟩
 ·omega
 ·unfold ZsA;rw [if_neg (by rw [h2];decide)];exact X.pl (hm p a)
 ·unfold ZsA;rw [if_pos (show _=true from h1.2.1),Zmn h1];exact X.brk (hm p a) (X.wa h4 c) c
 ·unfold ZsA;rw [if_pos (show _=true from h1.2.1),Zmn h1];dsimp only;rw [if_neg (by omega),if_neg (by omega),Int.toNat_natCast];exact X.brk (hm p a) (X.wa h5 c) (X.wa h6 c)
theorem ZsF {B g:Nat}{h:Hd}{bv:Int}{x:Ms}{l:Bool}{m:Md}{k:Nat}{L:List Int} (X:RCx bv x l m k L) {a b:Nat} (Q:Seg (cdM m k) a b) (V:∀ u D,a<u→Seg (cdM m k) u D→ZsC B g h bv x l m k L u D):ZsC B g h bv x l m k L a b:=by
 intro w H;have O:=Zmo Q;have ae:(cdM m k).length≤120:=X.ok.z.2.2;have Y:=Zh (show ∀ p,a≤p→p<b→Seg (cdM m k) p b→∀ R,RT R B g h m bv l L→_ from fun p E y F R hR=>ZsE X F y (fun u D h4 h5=>V u D (by omega) h5) R hR);have Z:=Zh H;have HX:=Zh X;have HS:=Zh Q;clear H X Q V;go_enter Tryz.func155,Tryz.ntmps155;go_wp2
 go_loopw [9,10] (fun s i wr=>∃ (p:Nat) (c:Int),i=.int .i64 p∧s=.int .i64 c∧Hid (a≤p∧p≤b∧Seg (cdM m k) p b)∧Hid (0≤c∧Pl l c)∧Hid (WA (GR x l m L) (cdM m k) a b 0=WA (GR x l m L) (cdM m k) p b c)∧Hid (Below w.heap.size w wr)) (fun _ i _=>b-(intOf i).toNat)
 case atStart=>exact ⟨a,0,rfl,rfl,⟨Nat.le_refl _,O.1,HS.out⟩,⟨by omega,Pl.of (by unfold Bd;omega)⟩,rfl,by exact bE⟩
 case round=>
  obtain ⟨p,c,rfl,rfl,r,j,t,C⟩:=hrel;rename World=>wo;by_cases hpb:p<b
  ·have T:(p:Int) < b:=by omega
   obtain ⟨I,J,K,W⟩:=ZsB (g:=GR x l m L) r.out.2.2 hpb;have G:=HX.out.one r.out.2.2 hpb;have f:=Zh (Y.out p r.out.1 hpb r.out.2.2 _ (Z.out.old C.out));have n:=Zh (t.out.trans (W c));obtain ⟨⟨v,nx⟩,U⟩:∃ q,q=ZsA (GR x l m L) (cdM m k) p:=⟨_,rfl⟩;rw [←U] at f n G I J K;dsimp only at G I J K;have S:=Zh G;have o:=Zh (And.intro I (And.intro J K));clear U G I J K W;by_cases hv1:v=-1
   ·subst hv1
    go_wp2_with (go_at_call 217;refine f.out.mono ?_;rintro e w1 ⟨rfl,d⟩)
    go_ret;refine ZcT (ZcY ?_) (Zaf C.out d);rw [n.out,show (GR x l m L).plus c (-1)=-1 by show Zq9 c (-1)=-1;unfold Zq9;rw [if_pos (.inr rfl)]];exact (Zrm o.out.2.2).symm
   ·go_wp2_with (first
     | (go_at_call 217;refine f.out.mono ?_;rintro e w1 ⟨rfl,d⟩;have M:=Zh (Zaf C.out d);clear d)
     | (go_at_call 166;refine (Zrr c v _ (by have:=j.out.2.2;unfold Bl at this;omega) (by have:=S.out.2;unfold Bl at this;omega)).mono ?_;rintro e w2 ⟨rfl,z⟩;have N:=Zh (Zaf M.out z);clear z))
    have E:=j.out.2.2;have y:=S.out.2;unfold Bl at E y;have F:=j.out.1;have P:Zq9 c v=ZmS c v:=Zrf ⟨F,E.2⟩ ⟨by omega,y.2⟩;have A:Bd (ZmS c v):=ZnF ⟨F,E.2⟩ ⟨by omega,y.2⟩;refine ⟨⟨nx,ZmS c v,rfl,rfl,⟨by have:=r.out.1;have:=o.out.1;omega,o.out.2.1,o.out.2.2⟩,⟨A.1,Pl.of A⟩,n.out.trans (by rw [←P];rfl),N.out⟩,?_⟩;have:=o.out.1;have:=o.out.2.1;simp [intOf];omega
  ·obtain rfl:p=b:=by have:=r.out.2.1;omega
   go_wp2;go_ret;exact ZcT (ZcY (by rw [t.out,Zmv])) C.out
theorem ZsG {B g:Nat}{h:Hd}{bv:Int}{x:Ms}{l:Bool}{m:Md}{k:Nat}{L:List Int} (X:RCx bv x l m k L):∀ (n a b:Nat),(cdM m k).length-a≤n→Seg (cdM m k) a b→ZsC B g h bv x l m k L a b
 | 0,a,b,hn,hs=>ZsF X hs fun d e f c=>by have:=Zmo hs;have:=Zmo c;omega
 |n+1,a,b,hn,hs=>ZsF X hs fun d e f c=>by
  by_cases hz:d≤(cdM m k).length
  ·exact ZsG X n d e (by omega) c
  ·have:=Zmo c;omega
end
