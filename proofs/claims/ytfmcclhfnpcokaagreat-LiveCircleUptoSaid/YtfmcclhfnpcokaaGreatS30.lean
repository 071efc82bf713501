import Derived.Test.YtfmcclhfnpcokaaGreatG29
set_option linter.all false
set_option maxRecDepth 100000
set_option maxHeartbeats 32000000
namespace Go.Proofs.YtfmcclhfnpcokaaGreat
section
def psA (m:Md) (lo:List Ty) (l:List In3) (s:Ps) (p:Nat):Ps:=(l.take p).foldl (fun s i=>(ZeE m lo i s).2) s
theorem Zr6 (m:Md) (lo:List Ty) (l:List In3) (s:Ps):psA m lo l s 0=s:=by simp [psA]
theorem Zr7 {m:Md}{lo:List Ty}{l:List In3}{s:Ps}{p:Nat} (a:p<l.length):psA m lo l s (p+1)=(ZeE m lo (l.getD p default) (psA m lo l s p)).2:=by unfold psA;rw [Zam l p a,List.foldl_append];rfl
theorem Zr8 {m:Md}{lo:List Ty}{r:Ty}:∀ (l:List In3) (n:Nat) (s:Ps),(ZeG m lo r n l s).2.2=0→(∀ p,p<l.length→(ZeE m lo (l.getD p default) (psA m lo l s p)).1=0)∧(∀ p,p≤l.length→(ZeG m lo r n l s).1.getD p []=(psA m lo l s p).stk)∧ZeF m r (psA m lo l s l.length).stk=0
 |[],n,s,h=>by
  unfold ZeG at h ⊢;split at h
  ·rename_i q;rw [if_pos q];refine ⟨fun p a=>(by cases a),fun p a=>?_,q⟩;have c:p=0:=by simp at a;exact a
   subst c;rfl
  ·rename_i q;exact absurd h q
 |i :: l,n,s,h=>by
  unfold ZeG at h ⊢;split at h
  ·rename_i q;rw [if_pos q];dsimp only at h ⊢;split at h
   ·rename_i b;obtain ⟨d,e,f⟩:=Zr8 l (n+1) _ b;rw [if_pos b];refine ⟨fun p a=>?_,fun p a=>?_,f⟩
    ·cases p with
     | zero=>exact q
     | succ p=>exact d p (by simpa using a)
    ·cases p with
     | zero=>rfl
     | succ p=>exact e p (by simpa using a)
   ·rename_i b;exact absurd h b
  ·rename_i q;exact absurd h q
end
section
theorem Zr9 {m:Md} (hm:Za2 m=true) {lo:List Ty} (b:∀ t∈lo,Zfk m t) {k:Nat} (hk:k<m.me.length) {l:List In3}{s:Ps} (d:∀ i∈l,(0≤i.op∧i.op<36)∧ZfU m k i) (f:Wf m s l) (e:∀ p,p<l.length→(ZeE m lo (l.getD p default) (psA m lo l s p)).1=0):∀ p,p≤l.length→Wf m (psA m lo l s p) (l.drop p)
 | 0,_=>by rw [Zr6];exact f
 |p+1,hp=>by
  have a:p<l.length:=hp;have h:=Zr9 hm b hk d f e p (by omega);have g:l.drop p=l.getD p default :: l.drop (p+1):=by rw [List.drop_eq_getElem_cons a,List.getD_eq_getElem?_getD,List.getElem?_eq_getElem a];rfl
  rw [g] at h;have c:=d (l.getD p default) (by rw [List.getD_eq_getElem?_getD,List.getElem?_eq_getElem a];exact List.getElem_mem a);rw [Zr7 a];exact Zgr hm b hk c.1 c.2 h (e p a)
theorem Zsa {m:Md} (f:Za2 m=true) {k:Nat} (hk:k<m.me.length):∀ t∈ZeH (m.me.getD k default),Zfk m t:=by
 have b:=ZfQ f hk;have e:=b.c;have d:=b.p;have c:=b.l;clear b;generalize m.me.getD k default=x at e d c ⊢;intro t a;unfold ZeH at a;rcases List.mem_append.1 a with a|a
 ·rcases List.mem_append.1 a with a|a
  ·split at a
   ·rw [List.mem_singleton] at a;subst a;unfold Zfk ZaG;simp;omega
   ·cases a
  ·exact d t a
 ·exact c t a
section
variable {m:Md}(hm:Za2 m=true){k:Nat}(hk:k<m.me.length)(he:(ZeI m k).2.2=0)
include m hm k hk he
theorem Zsb {p:Nat} (d:p≤(cdM m k).length):∀ t∈ZpN m k p,Zfk m t:=by have a:=ZfQ hm hk;have h:=Zr8 _ _ _ he;have f:=Zr9 hm (Zsa hm hk) hk (fun i b=>⟨ZfT (a.i i b).1,ZfV (a.i i b).1 (a.i i b).2⟩) (Zfq a.n) h.1 p d;have e:=h.2.1 p d;intro t c;unfold ZpN ZeI at c;rw [e] at c;exact f.stk.2 t c
theorem Zsc {p:Nat} (a:p≤(cdM m k).length):∀ t∈ZeH (m.me.getD k default)++ZpN m k p,Zfk m t:=by
 intro t b;rcases List.mem_append.1 b with h|h
 ·exact Zsa hm hk t h
 ·exact Zsb hm hk he a t h
theorem Zsd {p:Nat} (a:p≤(cdM m k).length) {x:T3} (e:ZpO m k p=some x):BdT x:=
 (ZpD BdT.z (fun t b _ e=>ZpI hm (Zsc hm hk he a t b) e) e).1
theorem Zse {T:Nat→Option T3} (c:∀ j,j<k→∀ x,T j=some x→BdT x) {p:Nat} (g:p≤(cdM m k).length) {s:T3} (e:ZpP m T k p=some s):
  BdT s∧(∃ x,ZpO m k p=some x∧LeT x s)∧(p<(cdM m k).length→∀ t∈Zpl m ((cdM m k).getD p default),∃ y,T t.toNat=some y∧LeT y s):=by
 unfold ZpP at e;cases hv:ZpO m k p with
 | none=>rw [hv] at e;cases e
 |some x=>
  rw [hv] at e;dsimp only at e;have a:=Zsd hm hk he g hv;by_cases q:p<(cdM m k).length
  ·rw [if_pos q] at e;cases hb:ZpM m T ((cdM m k).getD p default) with
   | none=>rw [hb] at e;cases e
   |some y=>
    rw [hb] at e;obtain rfl:=Option.some.inj e;obtain ⟨b,d⟩:=ZpZ hm c (ZpT hm hk q) hb;refine ⟨a.pl b,⟨x,rfl,LeT.pl_l a b⟩,fun _ t i=>?_⟩;obtain ⟨z,l,f⟩:=d t i;exact ⟨z,l,f.trans (LeT.pl_r a b)⟩
  ·rw [if_neg q] at e;obtain rfl:=Option.some.inj e;exact ⟨a,⟨x,rfl,LeT.refl x⟩,fun h=>absurd h q⟩
end
theorem Zsf {m:Md} (hm:Za2 m=true) {k:Nat} (hk:k<m.me.length) (he:(ZeI m k).2.2=0) {T:Nat→Option T3} (d:∀ j,j<k→∀ x,T j=some x→BdT x):∀ (n p:Nat) (a s:T3),BdT a→p+n≤(cdM m k).length+1→ZpQ m T k n p a=some s →
  BdT s∧LeT a s∧∀ q,p≤q→q<p+n→∃ x,ZpP m T k q=some x∧LeT x s
 |0,p,a,s,ha,_,e=>by
  unfold ZpQ at e;obtain rfl:=Option.some.inj e;exact ⟨ha,LeT.refl a,fun q c b=>by omega⟩
 |n+1,p,a,s,ha,hn,e=>by
  unfold ZpQ at e;cases hv:ZpP m T k p with
  | none=>rw [hv] at e;cases e
  |some x=>
   rw [hv] at e;have l:=(Zse hm hk he d (by omega) hv).1;obtain ⟨c,b,f⟩:=Zsf hm hk he d n (p+1) (mxT a x) s (ha.mx l) (by omega) e;refine ⟨c,(LeT.mx_l a x).trans b,fun q g i=>?_⟩;by_cases hq:q=p
   ·subst hq;exact ⟨x,hv,(LeT.mx_r a x).trans b⟩
   ·exact f q (by omega) (by omega)
theorem Zsg {m:Md} (hm:Za2 m=true) (he:∀ k,k<m.me.length→(ZeI m k).2.2=0):∀ (n k:Nat),k<n→k<m.me.length→∀ x,ZpR m k=some x→BdT x
 | 0,_,h,_=>by omega
 |n+1,k,h,hk=>fun x e=>by rw [ZpX hm hk] at e;exact (Zsf hm hk (he k hk) (fun j b y a=>Zsg hm he n j (by omega) (by omega) y a) _ 0 z3 x BdT.z (by omega) e).1
end
section
open Go.RowKit
attribute [local go_sem] World.cell?_alloc_some
theorem Zsh {m:Md}:∀ (n k:Nat),(Zmj m n k).2.2=0→∀ j,k≤j→j<k+n→(ZeI m j).2.2=0
 | 0,k,_,j,h1,h2=>by omega
 |n+1,k,h,j,h1,h2=>by
  unfold Zmj at h;by_cases h3:(ZeI m k).2.2=0
  ·rw [if_pos h3] at h;by_cases e:j=k
   ·subst e;exact h3
   ·exact Zsh n (k+1) h j (by omega) (by omega)
  ·rw [if_neg h3] at h;exact absurd h h3
theorem Zsi (m:Md) (lo:List Ty) (r:Ty):∀ (l:List In3) (n:Nat) (s:Ps),(ZeG m lo r n l s).2.2=0→(ZeG m lo r n l s).1.length=l.length+1∧(ZeG m lo r n l s).2.1=0
 |[],n,s=>by
  unfold ZeG;split
  ·exact fun _=>⟨rfl,rfl⟩
  ·exact fun h=>absurd h (by assumption)
 |i :: l,n,s=>by
  unfold ZeG;split
  ·have a:=Zsi m lo r l (n+1) (ZeE m lo i s).2;dsimp only;split
   ·rename_i h;exact fun _=>⟨by simp [(a h).1],rfl⟩
   ·rename_i h;exact fun b=>absurd b h
  ·rename_i h;exact fun b=>absurd b h
theorem Zsj {m:Md}{k:Nat} (h:(ZeI m k).2.2=0):(ZeI m k).1.length=(cdM m k).length+1:=(Zsi m _ _ _ 0 _ h).1
theorem okL.pass {m:Md} (h:okL m) {k:Nat} (hk:k<m.me.length):(ZeI m k).2.2=0:=by have hm:=h.v;unfold okL Zmk at h;rw [if_pos hm] at h;exact Zsh m.me.length 0 h k (Nat.zero_le _) (by omega)
theorem Zsk {m:Md} (hm:Za2 m=true) {k:Nat} (hk:k<m.me.length) (he:(ZeI m k).2.2=0) {p:Nat} (c:p≤(cdM m k).length):((ZeI m k).1.getD p []).length≤12:=by have a:=ZfQ hm hk;have h:=Zr8 _ _ _ he;have e:=Zr9 hm (Zsa hm hk) hk (fun i b=>⟨ZfT (a.i i b).1,ZfV (a.i i b).1 (a.i i b).2⟩) (Zfq a.n) h.1 p c;have d:=h.2.1 p c;unfold ZeI;rw [d];exact e.stk.1
section
variable {S:Nat}{M:MsL}{h:Hd}{m:Md}
theorem FrO.chg {w0 w w':World}{U V:List Nat} (H0:Zp4 w0 S M h m V) (F:FrO w0 w S M h m U) {B:Nat} (hB:w0.heap.size≤B) (hc:¬ Znc w B) (hu1:UpL [B] w w'):FrO w0 w' S M h m U:=by
 obtain ⟨⟨r,I,⟨f,J,y⟩,z,A,⟨g,C,l⟩,⟨k,D,n⟩,E⟩,a,hk⟩:=F;have c:∀ x,x<w.heap.size→x≠B→w'.heap[x]?=w.heap[x]?:=fun x q o=>hu1.block x q (by simpa using o);have b:Zna w0 w':=fun p v s=>by have G:=hk p v s;have K:=Zad s;exact (World.cell?_of_block (w:=w) (c p.block (by have:=a.size;omega) (by omega))).trans G
 have i:=fun {κ:Type} [DecidableEq κ] {enc:κ→Value}{x:Nat}{f:κ→Option Value} (hf:MpF enc w x f)=>hf.eq (w':=w') (c x hf.map.lt (fun e=>hc (e▸hf.map)));refine ⟨⟨(c S r.lt (by have:=H0.bk.lt;omega)).trans r,H0.md.keeps b,?_,i z,i A,⟨g,i C,l⟩,⟨k,i D,n⟩,E⟩,⟨hu1.os.trans a.os,hu1.tape.trans a.tape,hu1.output.trans a.output,Nat.le_trans a.size hu1.size,fun x q o=>(c x (by have:=a.size;omega) (by omega)).trans (a.block x q o)⟩,b⟩;obtain ⟨u,d,j⟩:=H0.ln;refine ⟨u,d.eq ((c _ (by have:=d.map.lt;have:=a.size;omega) (by have:=d.map.lt;omega)).trans (a.block _ d.map.lt H0.m_ne.1)),fun t H=>(j t H).keeps b⟩
theorem FrO.app {w0 w w':World}{U V:List Nat} (H0:Zp4 w0 S M h m V) (F:FrO w0 w S M h m U) {base:Nat}{e:TypeId}{size:Nat}{v:Value}{n:Nat}{xs:List Value} (ho:w.ownsRow base e size v n xs) (hb:w0.heap.size≤base) (hg:w.grownBy w' v.ownBlock):FrO w0 w' S M h m U:=by
 cases hv:v.ownBlock with
 |none=>
  rw [hv] at hg;exact F.old ⟨hg.os,hg.tape,hg.output,hg.size,fun k hk=>hg.block k hk (by simp)⟩
 |some b=>
  rw [hv] at hg;refine FrO.chg H0 F (B:=b) (Nat.le_trans hb (World.ownsRow.lt ho b hv).1) ?_ ⟨hg.os,hg.tape,hg.output,hg.size,fun k hk f=>hg.block k hk fun e=>f (by rw [Option.some.inj e];simp)⟩;rintro ⟨j,c,hm⟩;rcases ho.2 with ⟨q,_⟩|⟨g,i,d,q,_,a,_⟩
  ·rw [q] at hv;cases hv
  ·rw [q] at hv;have:g=b:=Option.some.inj hv;subst this;rw [hm] at a;cases a
theorem Zsl (ho:okL m):PtC S M h m:=by
 intro w k p H hk hp;have hm:=ho.v;have j:=ho.pass hk;obtain ⟨R,hR⟩:∃ R,R=w.heap.size:=⟨_,rfl⟩;obtain ⟨Y,s⟩:∃ Y,Y=w.alloc (.cells #[.int .i64 0,.int .i64 0,.int .i64 0] 45):=⟨_,rfl⟩;have HB:=Zh (show Below w.heap.size w Y by rw [s];exact bE);have HR:=Zh (show Blk Y R (cl3 0 0 0) 45 by rw [s,hR];exact Blk.new _ _ _);have HW:=Zh s;have aj:=Zh hR;have al:=Zh (show w.heap.size≤R by omega);have ai:=Zh HR.out.lt;clear hR;have HH:=Zh H;have a:=Zh ((FrO.start H).old HB.out);have L:=Zh (fun w' (h':Zaz w' h m)=>Zit m h k w' h' hm hk);have N:=Zh (fun w' (h':Zaz w' h m)=>(by have:=ZlX h m k w' h';rwa [Zmm hm hk] at this:Calls Tryz.prog 18 #[.agg (HM.mk h m),.int .i64 k] w' (ZjO w' (ZeI m k))));have d:=Zh (show ZpO m k p=ZnY (Zn2 m) z3 (ZeH (m.me.getD k default)++(ZeI m k).1.getD p []) from rfl);have f:=Zh (show ∀ t∈ZeH (m.me.getD k default)++(ZeI m k).1.getD p [],Zfk m t from Zsc hm hk j hp);have y:=Zsj j;have I:=Zsk hm hk j hp;have ar:(ZeH (m.me.getD k default)).length≤1000:=by
  have:=Zis (Ziq hm k hk);generalize m.me.getD k default=x at this ⊢;unfold ZeH;split<;>simp<;>omega
 have F:p<(ZeI m k).1.length:=by omega
 generalize ZeH (m.me.getD k default)=lv at L d f ar;have Q:=Zh (Zr3 (S:=S) (M:=M) (h:=h) ho);generalize ZeI m k=ps at N d f I F j y;obtain ⟨ps,pn,pe⟩:=ps;dsimp only at d f I F;generalize hstv:ps.getD p []=st at d f I;have am:=Zh hstv;have aR:(p:Int) < ps.length:=by omega
 clear s H hm j y hstv;go_enter Tryz.func94,Tryz.ntmps94
 go_upto_region 1 with fail
 rw [←HW.out,←aj.out];have s0:=a.out.sz.bk.cell 0 (v:=.slice h.co m.cl.length h.cc) rfl;have s1:=a.out.sz.bk.cell 1 (v:=.slice h.so m.st.length h.sc) rfl;have s2:=a.out.sz.bk.cell 2 (v:=.slice h.eo m.me.length h.ec) rfl;have s3:=a.out.sz.bk.cell 3 (v:=.int .i64 m.sel) rfl
 go_upto_region 2 with (go_at_call 125;refine (L.out _ a.out.sz.md).mono ?_;rintro e w1 ⟨⟨ao,ap,rfl,z⟩,r⟩;(try simp only [ag3]);have O:=Zh z;have b:=Zh (a.out.old r);have ag:=Zh (HR.out.old r);have ab:=Zh r.size;clear z r s0 s1 s2 s3)
 have s0:=b.out.sz.bk.cell 0 (v:=.slice h.co m.cl.length h.cc) rfl;have s1:=b.out.sz.bk.cell 1 (v:=.slice h.so m.st.length h.sc) rfl;have s2:=b.out.sz.bk.cell 2 (v:=.slice h.eo m.me.length h.ec) rfl;have s3:=b.out.sz.bk.cell 3 (v:=.int .i64 m.sel) rfl
 go_upto_region 3 with (go_at_call 18;refine (N.out _ b.out.sz.md).mono ?_;rintro e w2 ⟨⟨so,sc,n,rfl,hs⟩,g⟩;(try simp only [ag3]);have C:=Zh hs;have c:=Zh (ZhM O.out fun q hq=>g.block q (World.ownsRow.lt O.out q hq).2);have ae:=Zh (b.out.old g);have P:=Zh (ag.out.old g);have K:=Zh (Nat.le_trans ab.out g.size);clear hs g s0 s1 s2 s3)
 have W:p<n.length:=by rw [C.out.len];exact F
 have aH:(p:Int) < n.length:=by omega
 obtain ⟨ad,rfl,c0⟩:=Zl3 (Zas.of_own C.out.own) W;obtain ⟨E,l⟩:=C.out.at_ p W;rw [am.out] at E l;generalize n.getD p default=rw0 at c0 E l;obtain ⟨bo,bn,bc⟩:=rw0;dsimp only at c0 E l;subst E;have ak:=Zh l.1;clear l
 go_wp2_with (first
  | (at_builtin;refine Zak rfl (.tmp 33) (.tmp 37) 23 rfl Y.heap.size 38 2 16 Zfh (.slice ao lv.length ap) lv.length (Zal lv) rfl c.out bo st.length bc (Zal st) rfl ak.out (Zar st) (by omega) (by unfold maxLen;omega) K.out ?_;intro T u w3 i D;have A:=Zh (FrO.app HH.out ae.out c.out HB.out.size D);have ah:=Zh (show Blk w3 R (cl3 0 0 0) 45 from (D.block R P.out.lt fun e=>by have:=(World.ownsRow.lt c.out R e.symm).1;have:=ai.out;omega).trans P.out);have B:=Zh (show Zas w3 T u (lv++st) from (by have:=i;rw [←List.length_append,←Zao] at this;exact Zas.of_own this));clear i D c0)
  | (go_at_call 80;have G:=Q.out w3 T u (lv++st) A.out.sz B.out f.out (by rw [List.length_append];omega);rw [List.length_append] at G;refine G.mono ?_;clear G;rintro e w4 ⟨X,J,V,⟨x0,x1,x2⟩,ok,rfl,U,hy,E⟩;(try simp only [ag3]);have af:=Zh (A.out.call X J V);have o:=Zh (A.out.sz.own ah.out J);have HE:=Zh (And.intro U (And.intro hy E));clear X J V U hy E;obtain ⟨r0,r1,r2⟩:=o.out.c3;obtain ⟨f0,f1,f2⟩:=o.out.f3;have rl:=o.out.lt))
 have Z:=Zrx HH.out af.out o.out al.out (x0,x1,x2);have aA:=Z.2.c3.1;have aB:=Z.2.c3.2.1;have aC:=Z.2.c3.2.2;rw [d.out];exact bodyPost_ret (v:=.tuple #[ag3 (x0,x1,x2),.bool ok]) (by simp [results,Tryz.results94,go_sem,ag3,aA,aB,aC]) rfl (Z.1.val rfl HE.out.1 HE.out.2.1 HE.out.2.2)
end
end
section
open Go.RowKit
attribute [local go_sem] World.cell?_alloc_some
section
variable {S:Nat}{M:MsL}{h:Hd}{m:Md}
theorem Zsm (ho:okL m) {k:Nat} (hk:k<m.me.length) (aS:∀ (i:In3),ZfU m k i→∀ w,Zp4 w S M h m []→Calls Tryz.prog 152 #[ZQ.p S,ZI.i i] w (Zp8 w S M h m [] (ZpM m (ZpR m) i) (ZpM m (ZpR m) i=none))):ZrY S M h m k:=by
 intro w H;have hm:=ho.v;have cw:=ho.pass hk;obtain ⟨g,hg,K⟩:=H.mt;obtain ⟨R,hR⟩:∃ R,R=w.heap.size:=⟨_,rfl⟩;obtain ⟨w0,ak⟩:∃ w0,w0=w.alloc (.cells #[.int .i64 0,.int .i64 0,.int .i64 0] 45):=⟨_,rfl⟩;have HB:=Zh (show Below w.heap.size w w0 by rw [ak];exact bE);have HR:=Zh (show Blk w0 R (cl3 0 0 0) 45 by rw [ak,hR];exact Blk.new _ _ _);have HW:=Zh ak;have bt:=Zh hR;have au:=Zh (show w.heap.size≤R by omega);clear hR;have HH:=Zh H;have bd:=Zh ((FrO.start H).old HB.out);have HG:=Zh (hg.old HB.out);have HN:=Zh (Zir hm).2.1;have HV:=Zh hm;have cG:=Zh ho;have b7:=Zh hk;have cJ:(k:Int) < m.me.length:=by omega
 have b4:=Zh aS;have bp:=Zh (fun (p:Nat) (hp:p≤(cdM m k).length) w' (h':Zp4 w' S M h m [])=>Zsl (S:=S) (M:=M) (h:=h) ho w' k p h' hk hp);have cc:=Zh (fun (p:Nat) (hp:p≤(cdM m k).length) (x:T3) (e:ZpO m k p=some x)=>Zsd hm hk cw hp e);have ce:=Zh (ZrR.zero hm hk);have s8:=(H.bk.old HB.out).cell 8 (v:=.map (some M.t)) rfl;obtain ⟨r0,r1,r2⟩:=HR.out.c3;obtain ⟨f0,f1,f2⟩:=HR.out.f3;have rl:=HR.out.lt;rcases K.at (d:=k) with hno|⟨⟨W,X,Z⟩,hy,hyc⟩
 rotate_left
 ·have HY:=Zh hy;have cm:=Zh hyc;have cl:=Zh (Zsg hm (fun k hk=>ho.pass hk) (k+1) k (by omega) hk _ hyc);clear ak hg K H hy hyc aS;go_enter Tryz.func96,Tryz.ntmps96
  go_upto_region 1 with fail
  rw [←HW.out,←bt.out]
  go_upto_region 2 with (at_lookup;refine ZrE Znm Tryz.underlying174 rfl _ _ true rfl (M:=M.t) rfl HG.out (Zrl _) (k:Int) rfl (.tuple #[.agg #[.int .i64 W,.int .i64 X,.int .i64 Z],.bool true]) (by rw [HY.out];rfl) ?_)
  obtain ⟨Y,hY⟩:∃ Y,Y=w0.heap.size:=⟨_,rfl⟩;obtain ⟨w1,D⟩:∃ w1,w1=w0.alloc (.cells #[.int .i64 W,.int .i64 X,.int .i64 Z] 45):=⟨_,rfl⟩;have I:Below w0.heap.size w0 w1:=by rw [D];exact bE
  have cj:=Zh (show Blk w1 Y (cl3 W X Z) 45 by rw [D,hY];exact Blk.new _ _ _);have E:=Zh (HR.out.old I);have ao:=Zh (bd.out.old I);rw [←D,←hY];clear D hY I s8 r0 r1 r2 f0 f1 f2 rl;obtain ⟨r0,r1,r2⟩:=E.out.c3;obtain ⟨f0,f1,f2⟩:=E.out.f3;obtain ⟨cT,cU,cV⟩:=cj.out.c3;have rl:=E.out.lt
  go_wp2_with fail
  have u:=Zrx HH.out ao.out E.out au.out (W,X,Z);have z0:=u.2.c3.1;have z1:=u.2.c3.2.1;have z2:=u.2.c3.2.2;exact bodyPost_ret (v:=.tuple #[ag3 (W,X,Z),.bool true]) (by simp [results,Tryz.results96,go_sem,ag3,z0,z1,z2]) rfl (u.1.val rfl cl.out (fun _=>cm.out) (fun e=>by cases e))
 have b8:=Zh hno;obtain ⟨w1,D⟩:∃ w1,w1=w0.alloc (.cells #[.int .i64 0,.int .i64 0,.int .i64 0] 45):=⟨_,rfl⟩;have I:Below w0.heap.size w0 w1:=by rw [D];exact bE
 have ci:=Zh D;have ao:=Zh (bd.out.old I);have E:=Zh (HR.out.old I);have aI:=Zh (show (cdM m k).length≤120 from (ZfQ hm hk).z.2.2);have bm:=Zh (show ∀ i∈cdM m k,ZfU m k i from fun i hi=>ZfV ((ZfQ hm hk).i i hi).1 ((ZfQ hm hk).i i hi).2);clear ak hg K H hno aS D I;go_enter Tryz.func96,Tryz.ntmps96
 go_upto_region 1 with fail
 rw [←HW.out,←bt.out]
 go_upto_region 4 with (at_lookup;refine ZrE Znm Tryz.underlying174 rfl _ _ true rfl (M:=M.t) rfl HG.out (Zrl _) (k:Int) rfl (.tuple #[.agg #[.int .i64 0,.int .i64 0,.int .i64 0],.bool false]) (by rw [b8.out];rfl) ?_)
 rw [←ci.out];clear s8 r0 r1 r2 f0 f1 f2 rl
 go_upto_region 5 with fail
 obtain ⟨O,hO⟩:∃ O,O=w1.heap.size:=⟨_,rfl⟩;obtain ⟨w3,aB⟩:∃ w3,w3=w1.alloc (.cells #[.int .i64 0,.int .i64 0,.int .i64 0] 45):=⟨_,rfl⟩;have aR:Below w1.heap.size w1 w3:=by rw [aB];exact bE
 have b9:=Zh (show Blk w3 O (cl3 0 0 0) 45 by rw [aB,hO];exact Blk.new _ _ _);have aJ:=Zh (ao.out.old aR);have cf:=Zh (E.out.old aR);have B:=Zh (show w.heap.size≤O∧O≠R from ⟨by have:=ao.out.up.size;omega,by have:=E.out.lt;omega⟩);rw [←aB,←hO];clear aB aR hO;obtain ⟨ad,ct,-,-,-,-,-,-,e6⟩:=aJ.out.sz.md.mth hk;have s2:=aJ.out.sz.bk.cell 2 (v:=.slice h.eo m.me.length h.ec) rfl;rw [ct] at s2;rw [show (m.me.getD k default).k.length=(cdM m k).length from rfl] at e6;have ap:=Zh (show ∀ w',Zaz w' h m→Zas w' (h.e k).ko (h.e k).kc (cdM m k) from fun w' h'=>h'.k k hk);generalize (h.e k).ko=ko at e6 ap;generalize (h.e k).kc=kc at e6 ap;have aN:=Zh (fun (p:Nat) (a x:T3) (h1:ZrR m k p a) (h2:p≤(cdM m k).length) (h3:ZpP m (ZpR m) k p=some x) (h4:BdT x)=>h1.next h2 h3 h4);have ae:=Zh (fun (p:Nat) (a:T3) (h1:ZrR m k p a) (h2:p≤(cdM m k).length) (h3:ZpP m (ZpR m) k p=none)=>h1.no h2 h3);have bn:=Zh (fun (a:T3) (h1:ZrR m k ((cdM m k).length+1) a)=>h1.fin);have bo:=Zh (fun (p:Nat) (h1:¬ p<(cdM m k).length)=>ZrS (m:=m) (T:=ZpR m) h1);have bq:=Zh (fun (p:Nat) (h1:p<(cdM m k).length) (x y:T3) (h2:ZpO m k p=some x) (h3:ZpM m (ZpR m) ((cdM m k).getD p default)=some y)=>ZrT (m:=m) (T:=ZpR m) h1 h2 h3);have aG:=Zh (fun (p:Nat) (h1:p<(cdM m k).length) (h3:ZpM m (ZpR m) ((cdM m k).getD p default)=none)=>ZrV (m:=m) (T:=ZpR m) h1 h3);generalize cdM m k=cd at e6 ap bp cc aI bm aN ae bn bo bq aG;have cy:IntKind.i64.wrap ((cd.length:Int)+1)=((cd.length+1:Nat):Int):=IntWalk.i64_in _ (by have:=aI.out;omega)
 go_wp2_with fail
 clear s2 e6 cy
 go_loopw [38] (fun i wr=>∃ (p:Nat) (a:T3),p≤cd.length+1∧i=.int .i64 p∧Hid (FrO w wr S M h m [])∧Hid (ZrR m k p a)∧Hid (Blk wr R (cl3 0 0 0) 45)∧Hid (Blk wr O (cl3 a.1 a.2.1 a.2.2) 45)) (fun i _=>cd.length+1-(intOf i).toNat)
 case atStart=>exact ⟨0,z3,Nat.zero_le _,rfl,aJ.out,ce.out,cf.out,b9.out⟩
 case round=>
  obtain ⟨p,a,hp,rfl,J,C,bu,aM⟩:=hrel;rename World=>wo;obtain ⟨a0,a1,a2⟩:=a;dsimp only at aM;by_cases hpl:p<cd.length+1
  ·have bM:(p:Int) < ((cd.length+1:Nat):Int):=by omega
   have ai:p≤cd.length:=by omega
   have cK:IntKind.i64.wrap ((p:Int)+1)=((p+1:Nat):Int):=IntWalk.i64_in _ (by have:=aI.out;omega)
   go_upto_region 10 with (go_at_call 94;refine (bp.out p ai _ J.out.sz).mono ?_;rintro e w4 ⟨bN,aA,bF,⟨x0,x1,x2⟩,ok,rfl,bC,bQ,bH⟩;(try simp only [ag3]);have bs:=Zh (J.out.sz.own bu.out aA);have bk:=Zh (J.out.sz.own aM.out aA);have be:=Zh (J.out.call bN aA bF);have HE:=Zh (And.intro bC (And.intro bQ bH));clear bN aA bF bC bQ bH)
   obtain ⟨Y,hY⟩:∃ Y,Y=w4.heap.size:=⟨_,rfl⟩;obtain ⟨w5,aC⟩:∃ w5,w5=w4.alloc (.cells #[.int .i64 x0,.int .i64 x1,.int .i64 x2] 45):=⟨_,rfl⟩;have ay:Below w4.heap.size w4 w5:=by rw [aC];exact bE
   have bx:=Zh (show Blk w5 Y (cl3 x0 x1 x2) 45 by rw [aC,hY];exact Blk.new _ _ _);have q:=Zh (be.out.old ay);have r:=Zh (bs.out.old ay);have j:=Zh (bk.out.old ay);have G:=Zh (show w.heap.size≤Y∧Y≠R∧Y≠O from ⟨by have:=be.out.up.size;omega,by have:=bs.out.lt;omega,by have:=bk.out.lt;omega⟩);rw [←aC,←hY];clear aC ay hY;cases ok
   ·obtain ⟨r0,r1,r2⟩:=r.out.c3;obtain ⟨f0,f1,f2⟩:=r.out.f3;have rl:=r.out.lt
    go_wp2_with fail
    have u:=Zrx HH.out q.out r.out au.out ((0,0,0):T3);have z0:=u.2.c3.1;have z1:=u.2.c3.2.1;have z2:=u.2.c3.2.2;exact bodyPost_ret (v:=.tuple #[ag3 ((0,0,0):T3),.bool false]) (by simp [results,Tryz.results96,go_sem,ag3,z0,z1,z2]) rfl (u.1.val rfl .z (fun e=>by cases e) (fun _=>ae.out p _ C.out ai (ZrU (HE.out.2.2 (by first|rfl|trivial)))))
   ·have HX:=Zh (HE.out.2.1 (by first|rfl|trivial));by_cases hpi:p<cd.length
    ·have bL:(p:Int) < cd.length:=by omega
     obtain ⟨kd,cv,L,N,U⟩:=ZaB (ap.out _ q.out.sz.md) hpi;have am:=Zh (fun w' (h':Zp4 w' S M h m [])=>b4.out _ (bm.out _ (ZfX (default:In3) hpi)) w' h');have aP:=Zh (fun y hy=>bq.out p hpi _ y HX.out hy);have aL:=Zh (fun hy=>aG.out p hpi hy);generalize cd.getD p default=it at L N U am aP aL;obtain ⟨op,ia,ib⟩:=it;dsimp only at L N U am;subst cv;generalize ZpM m (ZpR m) ⟨op,ia,ib⟩=bv at am aP aL
     go_upto_region 14 with (go_at_call 152;refine (am.out _ q.out.sz).mono ?_;rintro e w6 ⟨bP,aj,bG,⟨W,X,Z⟩,cA,rfl,bD,bR,bI⟩;(try simp only [ag3]);have cg:=Zh (q.out.sz.own r.out aj);have ca:=Zh (q.out.sz.own j.out aj);have ck:=Zh (q.out.sz.own bx.out aj);have b5:=Zh (q.out.call bP aj bG);have an:=Zh (And.intro bD (And.intro bR bI));clear bP aj bG bD bR bI L N U)
     obtain ⟨V,hV⟩:∃ V,V=w6.heap.size:=⟨_,rfl⟩;obtain ⟨w7,aD⟩:∃ w7,w7=w6.alloc (.cells #[.int .i64 W,.int .i64 X,.int .i64 Z] 45):=⟨_,rfl⟩;have ag:Below w6.heap.size w6 w7:=by rw [aD];exact bE
     have ch:=Zh (show Blk w7 V (cl3 W X Z) 45 by rw [aD,hV];exact Blk.new _ _ _);have bf:=Zh (b5.out.old ag);have af:=Zh (cg.out.old ag);have cb:=Zh (ca.out.old ag);have F:=Zh (ck.out.old ag);rw [←aD,←hV];clear aD ag hV;cases cA
     ·obtain ⟨r0,r1,r2⟩:=af.out.c3;obtain ⟨f0,f1,f2⟩:=af.out.f3;have rl:=af.out.lt
      go_wp2_with fail
      have u:=Zrx HH.out bf.out af.out au.out ((0,0,0):T3);have z0:=u.2.c3.1;have z1:=u.2.c3.2.1;have z2:=u.2.c3.2.2;exact bodyPost_ret (v:=.tuple #[ag3 ((0,0,0):T3),.bool false]) (by simp [results,Tryz.results96,go_sem,ag3,z0,z1,z2]) rfl (u.1.val rfl .z (fun e=>by cases e) (fun _=>ae.out p _ C.out ai (aL.out (an.out.2.2 (by first|rfl|trivial)))))
     ·have ar:=Zh (aP.out _ (an.out.2.1 (by first|rfl|trivial)));obtain ⟨m0,m1,m2⟩:=F.out.c3;obtain ⟨v0,v1,v2⟩:=ch.out.c3;have ml:=F.out.lt;have ac:=Zh (BdT.pl (a:=(x0,x1,x2)) (b:=(W,X,Z)) HE.out.1 an.out.1);have ab:=Zh C.out.2
      go_upto_region 17 with (go_at_call 85;refine (Zpd (x0,x1,x2) (W,X,Z) _ HE.out.1 an.out.1).mono ?_;rintro e w8 ⟨rfl,ah⟩;generalize plT (x0,x1,x2) (W,X,Z)=s at ar ac ⊢;obtain ⟨s0,s1,s2⟩:=s;(try simp only [ag3]);have f:=Zh ah;clear ah m0 m1 m2 v0 v1 v2 ml;obtain ⟨m0,m1,m2⟩:=(F.out.old f.out).c3;obtain ⟨g0,g1,g2⟩:=(F.out.old f.out).f3;have ml:=(F.out.old f.out).lt)
      have bi:=Zh (FrO.set3 HH.out (bf.out.old f.out) (F.out.old f.out) G.out.1 s0 s1 s2);have bz:=Zh (Zmx (x:=s0) (y:=s1) (z:=s2) (F.out.old f.out));have A:=Zh (show Blk (((w8.setCell ⟨Y,0,none⟩ (.int .i64 s0)).setCell ⟨Y,1,none⟩ (.int .i64 s1)).setCell ⟨Y,2,none⟩ (.int .i64 s2)) O (cl3 a0 a1 a2) 45 from (((cb.out.old f.out).other (fun e=>G.out.2.2 e.symm) _).other (fun e=>G.out.2.2 e.symm) _).other (fun e=>G.out.2.2 e.symm) _);have bw:=Zh (show Blk (((w8.setCell ⟨Y,0,none⟩ (.int .i64 s0)).setCell ⟨Y,1,none⟩ (.int .i64 s1)).setCell ⟨Y,2,none⟩ (.int .i64 s2)) R (cl3 0 0 0) 45 from (((af.out.old f.out).other (fun e=>G.out.2.1 e.symm) _).other (fun e=>G.out.2.1 e.symm) _).other (fun e=>G.out.2.1 e.symm) _);clear m0 m1 m2 g0 g1 g2 ml;generalize ((w8.setCell ⟨Y,0,none⟩ (.int .i64 s0)).setCell ⟨Y,1,none⟩ (.int .i64 s1)).setCell ⟨Y,2,none⟩ (.int .i64 s2)=w9 at bi bz A bw ⊢;obtain ⟨L,N,U⟩:=A.out.c3;obtain ⟨m0,m1,m2⟩:=bz.out.c3;have ol:=A.out.lt
      go_wp2_with (go_at_call 85;refine (Zpf (a0,a1,a2) (s0,s1,s2) _ ab.out ac.out).mono ?_;rintro e cS ⟨rfl,aH⟩;(try simp only [ag3]);have n:=Zh aH;clear aH L N U m0 m1 m2 ol;obtain ⟨L,N,U⟩:=(A.out.old n.out).c3;obtain ⟨g0,g1,g2⟩:=(A.out.old n.out).f3;have ol:=(A.out.old n.out).lt)
      refine ⟨⟨p+1,_,hpl,rfl,FrO.set3 HH.out (bi.out.old n.out) (A.out.old n.out) B.out.1 _ _ _,aN.out p _ _ C.out ai ar.out ac.out,?_,Zmx (A.out.old n.out)⟩,by simp [intOf];omega⟩;exact ((((bw.out.old n.out).other (fun e=>B.out.2 e.symm) _).other (fun e=>B.out.2 e.symm) _).other (fun e=>B.out.2 e.symm) _)
    ·have bL:¬ (p:Int) < cd.length:=by omega
     have ar:=Zh (show ZpP m (ZpR m) k p=some (x0,x1,x2) by rw [bo.out p hpi];exact HX.out);obtain ⟨L,N,U⟩:=j.out.c3;obtain ⟨W,X,Z⟩:=bx.out.c3;have ol:=j.out.lt;have ab:=Zh C.out.2
     go_wp2_with (go_at_call 85;refine (Zpf (a0,a1,a2) (x0,x1,x2) _ ab.out HE.out.1).mono ?_;rintro e w8 ⟨rfl,ah⟩;(try simp only [ag3]);have f:=Zh ah;clear ah L N U W X Z ol;obtain ⟨L,N,U⟩:=(j.out.old f.out).c3;obtain ⟨g0,g1,g2⟩:=(j.out.old f.out).f3;have ol:=(j.out.old f.out).lt)
     refine ⟨⟨p+1,_,hpl,rfl,FrO.set3 HH.out (q.out.old f.out) (j.out.old f.out) B.out.1 _ _ _,aN.out p _ _ C.out ai ar.out HE.out.1,?_,Zmx (j.out.old f.out)⟩,by simp [intOf];omega⟩;exact ((((r.out.old f.out).other (fun e=>B.out.2 e.symm) _).other (fun e=>B.out.2 e.symm) _).other (fun e=>B.out.2 e.symm) _)
  ·have bM:¬ (p:Int) < ((cd.length+1:Nat):Int):=by omega
   have cx:p=cd.length+1:=by omega
   subst cx;have bh:=Zh (bn.out _ C.out);have bl:=Zh C.out.2
   go_upto_region 19 with fail
   obtain ⟨gk,K,bK⟩:=J.out.sz.mt;have HK:=Zh K.drew;have bj:=Zh bK;have bg:=Zh (J.out.old (Below.refl _ wo).drew);have aO:=Zh bu.out.drew;have aq:=Zh aM.out.drew;have s8:=bg.out.sz.bk.cell 8 (v:=.map (some M.t)) rfl;obtain ⟨L,N,U⟩:=aq.out.c3;clear K bK;refine rO (Cs [(⟨S,8,none⟩,.map (some M.t)),(⟨O,0,none⟩,.int .i64 a0),(⟨O,1,none⟩,.int .i64 a1),(⟨O,2,none⟩,.int .i64 a2)]) (oL [0,1,2,3,4,5,106]) ⟨s8,L,N,U,trivial⟩ ?_;clear s8 L N U
   iterate 6 (refine pO ?_)
   refine oO fun Kv hK=>?_;refine Znv Znm Tryz.underlying174 _ _ _ rfl (M:=M.t) rfl HK.out (k:Int) rfl (.agg #[.int .i64 a0,.int .i64 a1,.int .i64 a2]) rfl ?_;intro w5 bO az;have q:=Zh (bg.out.putT az bO (bj.out.put (y:=(a0,a1,a2)) b7.out bh.out));have r:=Zh (show Blk w5 R (cl3 0 0 0) 45 from (az.block _ aO.out.lt fun e=>Zp1 aO.out HK.out.map (Option.some.inj e)).trans aO.out);have j:=Zh (show Blk w5 O (cl3 a0 a1 a2) 45 from (az.block _ aq.out.lt fun e=>Zp1 aq.out HK.out.map (Option.some.inj e)).trans aq.out);refine hK _ _ ⟨⟨q.out.sz.bk.cell 8 rfl,j.out.c3.1,j.out.c3.2.1,j.out.c3.2.2,trivial⟩,Zd7 ?_⟩;clear hK Kv bO az;obtain ⟨L,N,U⟩:=j.out.c3;obtain ⟨r0,r1,r2⟩:=r.out.c3;obtain ⟨f0,f1,f2⟩:=r.out.f3;have rl:=r.out.lt
   go_wp2_with fail
   have u:=Zrx HH.out q.out r.out au.out (a0,a1,a2);have z0:=u.2.c3.1;have z1:=u.2.c3.2.1;have z2:=u.2.c3.2.2;exact bodyPost_ret (v:=.tuple #[ag3 (a0,a1,a2),.bool true]) (by simp [results,Tryz.results96,go_sem,ag3,z0,z1,z2]) rfl (u.1.val rfl bl.out (fun _=>bh.out) (fun e=>by cases e))
end
end
section
open Go.RowKit
attribute [local go_sem] World.cell?_alloc_some
theorem Zsn (l:List Int) (ao:Option Addr) (cap:Nat) (n:Int) (w:World) (o:Zas w ao cap l) (z:l.length≤1000000):Calls Tryz.prog 38 #[.slice ao l.length cap,.int .i64 n] w (Ret w (.bool (decide (n∈l)))):=by
 have s:=Zh o;obtain ⟨v,d⟩:∃ v,v=decide (n∈l):=⟨_,rfl⟩;rw [←d];have j:=Zh d;clear o d;go_enter Tryz.func38,Tryz.ntmps38;go_wp2
 go_loopw [5] (fun i wr=>∃ k:Nat,k≤l.length∧i=.int .i64 k∧Hid (Below w.heap.size w wr)∧Hid (n ∉ l.take k)) (fun i _=>l.length-(intOf i).toNat)
 case atStart=>exact ⟨0,Nat.zero_le _,rfl,Below.refl _ _,by show n ∉ l.take 0;simp⟩
 case round=>
  obtain ⟨k,hk,rfl,c,g⟩:=hrel;by_cases hkl:k<l.length
  ·have b:(k:Int) < l.length:=by omega
   have u:IntKind.i64.wrap ((k:Int)+1)=((k+1:Nat):Int):=IntWalk.i64_in _ (by omega);obtain ⟨y,rfl,t⟩:=ZaC (s.out.old c.out) hkl;have hm:=ZfX (0:Int) hkl;have a:l.take (k+1)=l.take k++[l.getD k 0]:=by rw [List.take_succ_eq_append_getElem hkl];simp [hkl]
   obtain ⟨x,r⟩:∃ x,x=l.getD k 0:=⟨_,rfl⟩;rw [←r] at t hm a;have f:=Zh (And.intro hm a);clear hm a r;by_cases e:x=n
   ·subst e;go_wp2;go_ret;exact ZcP (ZcT (by rw [j.out,decide_eq_true f.out.1])) c.out
   ·have A:(x == n)=false:=by simpa using e
    go_wp2;refine ⟨⟨k+1,hkl,rfl,c.out,?_⟩,by simp [intOf];omega⟩;show n ∉ l.take (k+1);rw [f.out.2,List.mem_append,List.mem_singleton];exact fun q=>q.elim g.out fun q=>e q.symm
  ·have b:¬ (k:Int) < l.length:=by omega
   go_wp2;go_ret;have p:=g.out;rw [List.take_of_length_le (by omega)] at p;exact ZcP (ZcT (by rw [j.out,decide_eq_false p])) c.out
end
section
open Go.RowKit
attribute [local go_sem] World.cell?_alloc_some
def Zso (w:World):Ending→World→Prop:=fun e w'=>(∃ b,e=.returned (.bool b))∧Below w.heap.size w w'
theorem Zsp (m:Md) (h:Hd) (w:World) (H:Zaz w h m):Calls Tryz.prog 20 #[.agg (HM.mk h m)] w (Zso w):=by
  obtain ⟨z,u⟩:∃ z,z=w.alloc (.cells (HM.mk h m) 26):=⟨_,rfl⟩;have G:=Zh (show Below w.heap.size w z by rw [u];exact bE);have B:=Zh (show Blk z w.heap.size (HM.mk h m) 26 by rw [u];exact Blk.new _ _ _);have I:=Zh (H.old G.out);have K:=Zh u;have F:=H.bz;obtain ⟨X,Y,z3⟩:=F;clear u H;go_enter Tryz.func20,Tryz.ntmps20
  go_upto_region 1 with fail
  rw [←K.out];have A:=B.out.cell 0 (v:=.slice h.co m.cl.length h.cc) rfl;have U:=B.out.cell 1 (v:=.slice h.so m.st.length h.sc) rfl;have E:=B.out.cell 2 (v:=.slice h.eo m.me.length h.ec) rfl
  go_upto_region 2 with fail
  clear A U E;go_wp2
  go_loopw [3,4] (fun s i wr=>∃ (k:Nat) (n:Int),k≤m.cl.length∧i=.int .i64 k∧s=.int .i64 n∧Hid (Below z.heap.size z wr)) (fun _ i _=>m.cl.length-(intOf i).toNat)
  case atStart=>exact ⟨0,_,Nat.zero_le _,rfl,rfl,by exact bE⟩
  case round=>
    obtain ⟨k,n,hk,rfl,rfl,f⟩:=hrel;rename World=>wo;have A:=(B.out.old f.out).cell 0 (v:=.slice h.co m.cl.length h.cc) rfl;by_cases hc:k<m.cl.length∧n≤400
    · obtain ⟨j,L⟩:=hc;have x:(k:Int) < m.cl.length:=by omega
      have R:IntKind.i64.wrap ((k:Int)+1)=((k+1:Nat):Int):=IntWalk.i64_in _ (by omega);obtain ⟨b,e,-,-,C,D⟩:=(I.out.old f.out).cls j;rw [e] at A;clear e
      go_upto_region 5 with fail
      refine rO (Cs [(⟨w.heap.size,0,none⟩,.slice (some b) m.cl.length h.cc),(⟨(b.add (k*4)).block,(b.add (k*4)).off+2,none⟩,.slice (h.c k).fo (m.cl.getD k default).f.length (h.c k).fc),(⟨(b.add (k*4)).block,(b.add (k*4)).off+3,none⟩,.slice (h.c k).mo (m.cl.getD k default).m.length (h.c k).mc)]) (oL [0,1,2,3,4,5,6,7,8,9,10,11,12,13,14,15,16,17]) ⟨A,C,D,trivial⟩ ?_;clear A C D
      repeat refine pO ?_
      refine Zd7 ?_;go_wp2;exact ⟨⟨k+1,_,j,rfl,rfl,f.out.drew⟩,by simp [intOf];omega⟩
    · by_cases j:k<m.cl.length
      all_goals first
        | (have x:(k:Int) < m.cl.length:=by omega
           have L:¬ n≤400:=fun q=>hc ⟨j,q⟩;have N:400<n:=by omega
           clear hc;go_wp2)
        | (have x:¬ (k:Int) < m.cl.length:=by omega
           clear hc;go_wp2)
      all_goals
        clear A
        go_loopw [3,5] (fun s i wr=>∃ (k:Nat) (n:Int),k≤m.me.length∧i=.int .i64 k∧s=.int .i64 n∧Hid (Below z.heap.size z wr)) (fun _ i _=>m.me.length-(intOf i).toNat)
        case atStart=>exact ⟨0,_,Nat.zero_le _,rfl,rfl,f.out⟩
        case round=>
          obtain ⟨q,p,V,rfl,rfl,g⟩:=hrel;rename World=>W;have E:=(B.out.old g.out).cell 2 (v:=.slice h.eo m.me.length h.ec) rfl;by_cases hc:q<m.me.length∧p≤3000
          · obtain ⟨r,O⟩:=hc;have y:(q:Int) < m.me.length:=by omega
            have T:IntKind.i64.wrap ((q:Int)+1)=((q+1:Nat):Int):=IntWalk.i64_in _ (by omega);obtain ⟨b,e,-,-,C,D,-,-,J⟩:=(I.out.old g.out).mth r;rw [e] at E;clear e
            go_upto_region 9 with fail
            refine rO (Cs [(⟨w.heap.size,2,none⟩,.slice (some b) m.me.length h.ec),(⟨(b.add (q*7)).block,(b.add (q*7)).off+2,none⟩,.slice (h.e q).po (m.me.getD q default).p.length (h.e q).pc),(⟨(b.add (q*7)).block,(b.add (q*7)).off+3,none⟩,.slice (h.e q).lo (m.me.getD q default).l.length (h.e q).lc),(⟨(b.add (q*7)).block,(b.add (q*7)).off+6,none⟩,.slice (h.e q).ko (m.me.getD q default).k.length (h.e q).kc)]) (oL [0,1,2,3,4,5,6,7,8,9,10,11,12,13,14,15,16,17,18,19,20,21,22,23,24,25]) ⟨E,C,D,J,trivial⟩ ?_;clear E C D J
            repeat refine pO ?_
            refine Zd7 ?_;go_wp2;exact ⟨⟨q+1,_,r,rfl,rfl,g.out.drew⟩,by simp [intOf];omega⟩
          · by_cases r:q<m.me.length
            all_goals first
              | (have y:(q:Int) < m.me.length:=by omega
                 have O:¬ p≤3000:=fun q=>hc ⟨r,q⟩;clear hc;go_wp2)
              | (have y:¬ (q:Int) < m.me.length:=by omega
                 clear hc;go_wp2)
            all_goals
              go_ret;exact ⟨⟨_,rfl⟩,Zag G.out g.out⟩
def wiV (a b:T3):Bool:=decide (a.1≤b.1)&&decide (a.2.1≤b.2.1)&&decide (a.2.2≤b.2.2)
theorem Zsq {a b:T3}:wiV a b=true↔LeT a b:=by simp [wiV,LeT,and_assoc]
theorem Zsr (a b:T3) (w:World):Calls Tryz.prog 24 #[ag3 a,ag3 b] w (Ret w (.bool (wiV a b))):=by
 obtain ⟨c,d,e⟩:=a;obtain ⟨f,g,i⟩:=b;unfold ag3;go_enter Tryz.func24,Tryz.ntmps24;go_wp2
 all_goals
  go_ret;exact ZcP (ZcT (by simp [wiV];omega)) bE
end
