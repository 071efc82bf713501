import Derived.Test.YtfmcclhfnpcokaaGreatT31
set_option linter.all false
set_option maxRecDepth 100000
set_option maxHeartbeats 32000000
namespace Go.Proofs.YtfmcclhfnpcokaaGreat
section
open Go.RowKit
attribute [local go_sem] World.cell?_alloc_some
section
variable {S:Nat}{M:MsL}{h:Hd}{m:Md}{U:List Nat}
theorem Zsu (ho:okL m) (t:Ty) (ht:Zfk m t) (w:World) (H:Zpf w S M h m U):Calls Tryz.prog 136 #[ZQ.p S,.agg #[.int .i64 t.k,.int .i64 t.c]] w (Ret w (ag3 (ZmW m t))):=by
 have hm:=ho.v;obtain ⟨f,hf,N⟩:=H.ln;have HL:=Zh (ZoS hm (t:=t));obtain ⟨ao,al,hv,hr⟩:=ZrW (N t ht);obtain ⟨E,q⟩:∃ E,E=((w.alloc (.cells #[.int .i64 t.k,.int .i64 t.c] 38)).alloc (.cells #[.int .i64 0,.int .i64 0,.int .i64 0] 45)).alloc (.cells #[.int .i64 0,.int .i64 0,.int .i64 0] 45):=⟨_,rfl⟩;have HB:=Zh (show Below w.heap.size w E by rw [q];exact bE);have HT:=Zh (show Blk E w.heap.size #[.int .i64 t.k,.int .i64 t.c] 38 by rw [q];exact ((Blk.new _ _ _).alloc _).alloc _);have HR:=Zh (show Blk E (w.heap.size+1) (cl3 0 0 0) 45 by rw [q];exact (Blk.new' (w:=w.alloc _) _ _ (by simp)).alloc _);have HO:=Zh (show Blk E (w.heap.size+1+1) (cl3 0 0 0) 45 by rw [q];exact Blk.new' (w:=(w.alloc _).alloc _) _ _ (by simp));have HW:=Zh q;have HF:=Zh (hf.old HB.out);have u:=Zh hr;have W:=Zh H.bk;have aj:=Zh (H.bk.old HB.out);have Hj:=Zh H.md;have HA:=Zh (show ZmW m t=ZmV (ZmS m t) z3 from rfl);have ap:(ZmS m t).length≤1000000:=ZrV hm t;generalize ZmW m t=ar at HA ⊢;generalize ZmS m t=l at hv u HL HA ap;have HV:=Zh hv;have HZ:=Zh (show w.heap.size+1+1<E.heap.size from HO.out.lt);have aN:=Zh (show S<w.heap.size from H.bk.lt);have ae:=Zh (fun n s (h':Zaz s h m) h0 h1=>ZrO m h n s h' ho h0 h1);clear q hf N hr H hv hm;obtain ⟨X,hX⟩:∃ X,X=w.heap.size:=⟨_,rfl⟩;have I:=Zh (show w.heap.size≤X by omega);rw [←hX] at HT HR HO HZ;have ak:=Zh hX;clear hX;go_enter Tryz.func136,Tryz.ntmps136
 go_upto_region 2 with fail
 rw [←HW.out,←ak.out];obtain ⟨t0,t1⟩:=Zj9 HT.out;have s4:=aj.out.cell 4 (v:=.map (some M.l)) rfl;refine rO (fun s=>Cs [(⟨S,4,none⟩,.map (some M.l)),(⟨X,0,none⟩,.int .i64 t.k),(⟨X,1,none⟩,.int .i64 t.c)] s∧MpF kT s M.l f) (oL [0,1,2,3,4,5,6,7]) ⟨⟨s4,t0,t1,trivial⟩,HF.out.drew⟩ ?_;clear s4 t0 t1
 (refine pO ?_)
 (refine pO ?_)
 (refine pO ?_)
 (refine pO ?_)
 (refine pO ?_)
 refine pO (v:=.slice ao l.length al) ?_ (hy:=Or.inl ⟨by rfl,fun s av=>by rw [←HV.out];exact ZrQ ZoG Tryz.underlying173 ZrR _ _ false rfl rfl t rfl av.2⟩)
 (refine pO ?_)
 (refine pO ?_)
 refine Zd7 ?_
 go_wp2_with fail
 go_loopw [17] (fun i wr=>∃ (k:Nat) (a:T3),k≤l.length∧i=.int .i64 k∧Hid (Below w.heap.size w wr)∧Hid (ZrA l k a)∧Hid (Blk wr (X+1) (cl3 0 0 0) 45)∧Hid (Blk wr (X+1+1) (cl3 a.1 a.2.1 a.2.2) 45)) (fun i _=>l.length-(intOf i).toNat)
 case atStart=>exact ⟨0,z3,Nat.zero_le _,rfl,HB.out.drew,rfl,HR.out.drew,HO.out.drew⟩
 case round=>
  obtain ⟨k,a,hk,rfl,g,A,r,j⟩:=hrel;rename World=>wo;by_cases hkl:k<l.length
  ·have L:(k:Int) < l.length:=by omega
   have aX:IntKind.i64.wrap ((k:Int)+1)=((k+1:Nat):Int):=IntWalk.i64_in _ (by omega);obtain ⟨ad,rfl,ck⟩:=ZaC (u.out.old g.out) hkl;have O:=HL.out _ (ZfX (0:Int) hkl);have HN:=Zh (ZrA.next A.out hkl);have HD:=Zh (ZrA.bd HL.out A.out);generalize l.getD k 0=n at ck O HN;have G:=Zh (ZmP (n:=n) (b:=true) O.1 (by omega));have F:=Zh (fun s (h':Zaz s h m)=>ae.out n s h' O.1 O.2);generalize ZmE n true=v at HN G F;obtain ⟨Y,Z,a2⟩:=a;obtain ⟨v0,v1,v2⟩:=v;dsimp only at j;have ag:=Zh (Hj.out.old g.out);have s0:=(W.out.old g.out).cell 0 (v:=.slice h.co m.cl.length h.cc) rfl;have s1:=(W.out.old g.out).cell 1 (v:=.slice h.so m.st.length h.sc) rfl;have s2:=(W.out.old g.out).cell 2 (v:=.slice h.eo m.me.length h.ec) rfl;have s3:=(W.out.old g.out).cell 3 (v:=.int .i64 m.sel) rfl;obtain ⟨R,T,V⟩:=j.out.c3;clear O
   go_wp2_with (first
    | (go_at_call 149;refine (F.out _ ag.out).mono ?_;rintro e w1 ⟨rfl,J⟩;(try simp only [ag3]);have B:=Zh J;clear J R T V s0 s1 s2 s3;obtain ⟨R,T,V⟩:=(j.out.old B.out).c3;have ol:=(j.out.old B.out).lt)
    | (go_at_call 85;refine (Zqd (Y,Z,a2) (v0,v1,v2) _ HD.out G.out).mono ?_;rintro e w2 ⟨rfl,K⟩;(try simp only [ag3]);have C:=Zh (Zag B.out (Zag (show Below w1.heap.size w1 (w1.alloc (.cells #[.int .i64 v0,.int .i64 v1,.int .i64 v2] 45)) by exact bE) K));clear K R T V;have D:=Zh (j.out.old C.out);obtain ⟨R,T,V⟩:=D.out.c3;obtain ⟨f0,f1,f2⟩:=D.out.f3))
   refine ⟨⟨k+1,_,hkl,rfl,Zmz (Zag g.out C.out) _ _ _ (show w.heap.size≤X+1+1 by have:=I.out;omega),HN.out,?_,Zmx D.out⟩,by simp [intOf];omega⟩;exact ((((r.out.old C.out).other (show X+1≠X+1+1 by omega) _).other (show X+1≠X+1+1 by omega) _).other (show X+1≠X+1+1 by omega) _)
  ·have L:¬ (k:Int) < l.length:=by omega
   have an:k=l.length:=by omega
   subst an;have HE:=Zh (show a=ar from by rw [HA.out];have:=A.out;unfold ZrA at this;rw [List.take_length] at this;exact this.symm);obtain ⟨Y,Z,a2⟩:=a;dsimp only at j;obtain ⟨R,T,V⟩:=j.out.c3;obtain ⟨r0,r1,r2⟩:=r.out.c3;obtain ⟨f0,f1,f2⟩:=r.out.f3
   go_wp2_with fail
   have hz:=Zmx (x:=Y) (y:=Z) (z:=a2) r.out;have z0:=hz.c3.1;have z1:=hz.c3.2.1;have z2:=hz.c3.2.2;refine bodyPost_ret (v:=.agg #[.int .i64 Y,.int .i64 Z,.int .i64 a2]) (by simp [results,Tryz.results136,go_sem,z0,z1,z2]) rfl ⟨by rw [←HE.out];rfl,Zmz g.out _ _ _ (show w.heap.size≤X+1 by have:=I.out;omega)⟩
end
end
section
open Go.RowKit
attribute [local go_sem] World.cell?_alloc_some
section
variable {S:Nat}{M:MsL}{h:Hd}{m:Md}{n:Nat}
theorem Zsv {m:Md}{t:Ty} (q:t.k=3):Zm4 m t=some (ZmW m t):=by unfold Zm4 ZmZ;rw [if_pos q]
theorem Zsw {m:Md}{t:Ty} (q:t.k=2):Zm4 m t=Zm3 m t.c.toNat:=by unfold Zm4 ZmZ;rw [if_neg (by omega),if_pos q]
theorem Zsx {m:Md}{t:Ty} (q:t.k=4) (a:ZmU m t=0):Zm4 m t=some (ZmW m t):=by unfold Zm4 ZmZ;rw [if_neg (by omega),if_neg (by omega),if_pos q,if_pos a]
theorem Zsy {m:Md}{t:Ty} (q:t.k=4) (a:ZmU m t≠0) {x:T3} (b:Zm3 m t.c.toNat=some x):Zm4 m t=some (plT (ZmW m t) (mlT x (ZmU m t))):=by unfold Zm4 ZmZ;rw [if_neg (by omega),if_neg (by omega),if_pos q,if_neg a,b]
theorem Zsz {m:Md}{t:Ty} (q:t.k≠2∧t.k≠3∧t.k≠4):Zm4 m t=some z3:=by unfold Zm4 ZmZ;rw [if_neg q.2.1,if_neg q.1,if_neg q.2.2]
theorem ZsA {w0 w:World}{U V:List Nat} (f:Zpf w0 S M h m V) (F:FrO w0 w S M h m U) {R:Nat}{a b c:Int} (e:Blk w R (cl3 a b c) 45) (d:w0.heap.size≤R) (x:T3):FrO w0 (((w.setCell ⟨R,0,none⟩ (.int .i64 x.1)).setCell ⟨R,1,none⟩ (.int .i64 x.2.1)).setCell ⟨R,2,none⟩ (.int .i64 x.2.2)) S M h m U∧Blk (((w.setCell ⟨R,0,none⟩ (.int .i64 x.1)).setCell ⟨R,1,none⟩ (.int .i64 x.2.1)).setCell ⟨R,2,none⟩ (.int .i64 x.2.2)) R (cl3 x.1 x.2.1 x.2.2) 45:=
 ⟨FrO.set3 f F e d _ _ _,Zmx e⟩
theorem ZsB (ho:okL m) (hc:Zpl S M h m n):Zpm S M h m n:=by
 intro w U t H a2 hU hl ht;have hm:=ho.v;obtain ⟨w0,J⟩:∃ w0,w0=(w.alloc (.cells #[.int .i64 t.k,.int .i64 t.c] 38)).alloc (.cells #[.int .i64 0,.int .i64 0,.int .i64 0] 45):=⟨_,rfl⟩;have HB:=Zh (show Below w.heap.size w w0 by rw [J];exact bE);obtain ⟨X,hX⟩:∃ X,X=w.heap.size:=⟨_,rfl⟩;have HT:=Zh (show Blk w0 X #[.int .i64 t.k,.int .i64 t.c] 38 by rw [J,hX];exact (Blk.new _ _ _).alloc _);have E:=Zh (show Blk w0 (X+1) (cl3 0 0 0) 45 by rw [J,hX];exact Blk.new' (w:=w.alloc _) _ _ (by simp));have HW:=Zh J;have F:=Zh hX;have HX:=Zh (show w.heap.size≤X+1 by omega);have HH:=Zh H;have g:=Zh ((FrO.start H).old HB.out);have HA:=Zh (fun D U' (h':Zpf D S M h m U')=>Zsu ho t ht D h');have Z:=Zh (fun D U' (h':Zpf D S M h m U')=>ZrX hm t ht D h');have aP:=Zh ht;have q:=ZoU hm t;have B:=Zh (ZoW hm t);have HC:=Zh (fun D (d:Nat) (h':Zpf D S M h m U) (hd:d<m.cl.length)=>hc D U d h' a2 hU hl hd);have bw:=Zh (fun (d:Nat) (hd:d<m.cl.length) (x:T3) (e:Zm3 m d=some x)=>Zo2 hm hd e);have HN:=Zh (Zir hm).1;obtain ⟨tk,tc⟩:=t;dsimp only at HT E HW HA Z;clear J H hc ho hm a2 hU hl hX;by_cases q3:tk=3
 ·subst q3;have V:=Zh (Zsv (m:=m) (t:=⟨3,tc⟩) rfl);generalize ZmW m ⟨3,tc⟩=v at HA B V;clear q;go_enter Tryz.func77,Tryz.ntmps77
  go_upto_region 1 with fail
  rw [←HW.out,←F.out];obtain ⟨z,A⟩:=Zj9 HT.out
  go_wp2_with (go_at_call 136;refine (HA.out _ _ g.out.sz).mono ?_;rintro e s ⟨rfl,i⟩;(try simp only [ag3]);have f:=Zh i;clear i z A;obtain ⟨r0,r1,r2⟩:=(E.out.old f.out).c3;obtain ⟨f0,f1,f2⟩:=(E.out.old f.out).f3)
  have r:=ZsA HH.out (g.out.old f.out) (E.out.old f.out) HX.out v;have z0:=r.2.c3.1;have z1:=r.2.c3.2.1;have z2:=r.2.c3.2.2;exact bodyPost_ret (v:=.tuple #[ag3 v,.bool true]) (by simp [results,Tryz.results77,go_sem,ag3,z0,z1,z2]) rfl (r.1.val rfl B.out (fun _=>V.out) (fun e=>by cases e))
 by_cases q2:tk=2
 ·subst q2;have I:=ZfH aP.out (.inl rfl);dsimp only at I;obtain ⟨d,rfl⟩:∃ d:Nat,tc=d:=⟨tc.toNat,by omega⟩;have hd:d<m.cl.length:=by omega
  have V:=Zh (Zsw (m:=m) (t:=⟨2,d⟩) rfl);have aa:=Zh (show Znm m ⟨2,d⟩ d from ⟨.inl rfl,Int.toNat_natCast d⟩);clear q I;go_enter Tryz.func77,Tryz.ntmps77
  go_upto_region 1 with fail
  rw [←HW.out,←F.out];obtain ⟨z,A⟩:=Zj9 HT.out
  go_wp2_with (go_at_call 90;refine (HC.out _ d g.out.sz hd).mono ?_;rintro e s ⟨a3,aB,aY,⟨O,R,T⟩,ok,rfl,G,a5,a0⟩;(try simp only [ag3]);have av:=Zh (g.out.sz.own E.out aB);have bh:=Zh (g.out.call a3 aB aY);have HE:=Zh (And.intro G (And.intro a5 a0));clear a3 aB aY G a5 a0 z A;obtain ⟨r0,r1,r2⟩:=av.out.c3;obtain ⟨f0,f1,f2⟩:=av.out.f3)
  have r:=ZsA HH.out bh.out av.out HX.out (O,R,T);have z0:=r.2.c3.1;have z1:=r.2.c3.2.1;have z2:=r.2.c3.2.2;exact bodyPost_ret (v:=.tuple #[ag3 (O,R,T),.bool ok]) (by simp [results,Tryz.results77,go_sem,ag3,z0,z1,z2]) rfl (r.1.val rfl HE.out.1 (fun e=>by rw [V.out];exact HE.out.2.1 e) (fun e=>⟨d,aa.out,HE.out.2.2 e⟩))
 by_cases q4:tk=4
 ·subst q4;have I:=ZfH aP.out (.inr rfl);dsimp only at I;obtain ⟨d,rfl⟩:∃ d:Nat,tc=d:=⟨tc.toNat,by omega⟩;have hd:d<m.cl.length:=by omega
  have ax:=Zh (Zsx (m:=m) (t:=⟨4,d⟩) rfl);have V:=Zh (fun hl x hx=>Zsy (m:=m) (t:=⟨4,d⟩) rfl hl (x:=x) (by rw [Int.toNat_natCast];exact hx));have aa:=Zh (fun (hl:ZmU m ⟨4,d⟩≠0)=>(show Znm m ⟨4,d⟩ d from ⟨.inr ⟨rfl,hl⟩,Int.toNat_natCast d⟩));generalize ZmW m ⟨4,d⟩=v at HA B V ax;generalize ZmU m ⟨4,d⟩=ln at Z V ax aa q;obtain ⟨K,L,N⟩:=v;clear I;by_cases q0:ln=0
  ·subst q0;go_enter Tryz.func77,Tryz.ntmps77
   go_upto_region 1 with fail
   rw [←HW.out,←F.out];obtain ⟨z,A⟩:=Zj9 HT.out
   go_wp2_with (first
    | (go_at_call 136;refine (HA.out _ _ g.out.sz).mono ?_;rintro e s ⟨rfl,i⟩;(try simp only [ag3]);have f:=Zh (Zag i (show Below s.heap.size s (s.alloc (.cells #[.int .i64 K,.int .i64 L,.int .i64 N] 45)) by exact bE));have y:=HT.out.old i;clear z A;have z:=y.cell 0 (v:=.int .i64 4) rfl;have A:=y.cell 1 (v:=.int .i64 d) rfl;clear y i)
    | (go_at_call 87;refine (Z.out _ _ (g.out.old f.out).sz).mono ?_;rintro e w2 ⟨rfl,j⟩;(try simp only [ag3]);have aK:=Zh j;have ah:=(E.out.old f.out).old j;have aV:=(Blk.new s (cl3 K L N) 45).old j;clear j z A;obtain ⟨r0,r1,r2⟩:=ah.c3;obtain ⟨f0,f1,f2⟩:=ah.f3;obtain ⟨g0,g1,g2⟩:=aV.c3;have aw:=Zh ah;clear ah aV))
   have r:=ZsA HH.out ((g.out.old f.out).old aK.out) aw.out HX.out (K,L,N);have z0:=r.2.c3.1;have z1:=r.2.c3.2.1;have z2:=r.2.c3.2.2;exact bodyPost_ret (v:=.tuple #[ag3 (K,L,N),.bool true]) (by simp [results,Tryz.results77,go_sem,ag3,z0,z1,z2]) rfl (r.1.val rfl B.out (fun _=>ax.out (by first|rfl|trivial)) (fun e=>by cases e))
  ·have qb:(ln == 0)=false:=by simpa using q0
   have HQ:=Zh q0;have ar:=Zh q;go_enter Tryz.func77,Tryz.ntmps77
   go_upto_region 1 with fail
   rw [←HW.out,←F.out];obtain ⟨z,A⟩:=Zj9 HT.out
   go_upto_region 12 with (first
    | (go_at_call 136;refine (HA.out _ _ g.out.sz).mono ?_;rintro e s ⟨rfl,i⟩;(try simp only [ag3]);have f:=Zh (Zag i (show Below s.heap.size s (s.alloc (.cells #[.int .i64 K,.int .i64 L,.int .i64 N] 45)) by exact bE));have bk:=Zh i.size;have y:=HT.out.old i;clear z A;have z:=y.cell 0 (v:=.int .i64 4) rfl;have A:=y.cell 1 (v:=.int .i64 d) rfl;clear y i)
    | (go_at_call 87;refine (Z.out _ _ (g.out.old f.out).sz).mono ?_;rintro e w2 ⟨rfl,j⟩;(try simp only [ag3]);have aK:=Zh j;have aw:=Zh ((E.out.old f.out).old j);have bl:=Zh ((Blk.new s (cl3 K L N) 45).old j);have az:=(HT.out.old f.out).old j;have W:=Zh ((g.out.old f.out).old j);clear j z A;have z:=az.cell 0 (v:=.int .i64 4) rfl;have A:=az.cell 1 (v:=.int .i64 d) rfl;clear az)
    | (go_at_call 90;refine (HC.out _ d W.out.sz hd).mono ?_;rintro e w3 ⟨a4,aj,aZ,⟨O,R,T⟩,ok,rfl,G,a6,a1⟩;(try simp only [ag3]);have aO:=Zh (W.out.sz.own aw.out aj);have bm:=Zh (W.out.sz.own bl.out aj);have bi:=Zh (W.out.call a4 aj aZ);have HE:=Zh (And.intro G (And.intro a6 a1));clear a4 aj aZ G a6 a1 z A))
   obtain ⟨Y,hY⟩:∃ Y,Y=w3.heap.size:=⟨_,rfl⟩;obtain ⟨w4,ak⟩:∃ w4,w4=w3.alloc (.cells #[.int .i64 O,.int .i64 R,.int .i64 T] 45):=⟨_,rfl⟩;have ai:Below w3.heap.size w3 w4:=by rw [ak];exact bE
   have af:=Zh (show Blk w4 Y (cl3 O R T) 45 by rw [ak,hY];exact Blk.new _ _ _);have ab:=Zh (aO.out.old ai);have ad:=Zh (bm.out.old ai);have bj:=Zh (bi.out.old ai);have C:=Zh (show Y≠X+1∧s.heap.size≠X+1 from ⟨by have:=aO.out.lt;omega,by have:=E.out.lt;have:=bk.out;omega⟩);rw [←ak,←hY];clear ak ai hY;have aq:=Zh (show ∀ D,Below w4.heap.size w4 D→Cs [(⟨s.heap.size,0,none⟩,.int .i64 K),(⟨s.heap.size,1,none⟩,.int .i64 L),(⟨s.heap.size,2,none⟩,.int .i64 N),(⟨Y,0,none⟩,.int .i64 O),(⟨Y,1,none⟩,.int .i64 R),(⟨Y,2,none⟩,.int .i64 T)] D from fun D hb=>⟨(ad.out.old hb).c3.1,(ad.out.old hb).c3.2.1,(ad.out.old hb).c3.2.2,(af.out.old hb).c3.1,(af.out.old hb).c3.2.1,(af.out.old hb).c3.2.2,trivial⟩);refine rO (Cs [(⟨s.heap.size,0,none⟩,.int .i64 K),(⟨s.heap.size,1,none⟩,.int .i64 L),(⟨s.heap.size,2,none⟩,.int .i64 N),(⟨Y,0,none⟩,.int .i64 O),(⟨Y,1,none⟩,.int .i64 R),(⟨Y,2,none⟩,.int .i64 T)]) (oL [0,1,2,5,103,104,106,7]) (aq.out _ (Below.refl _ _).drew) ?_
   (refine pO ?_)
   (refine pO ?_)
   (refine pO ?_)
   (refine pO ?_)
   refine oO fun Kv hK=>?_;go_simp;refine (Zqe (O,R,T) ln _ HE.out.1 ar.out.1 (by have:=ar.out.2;omega)).mono ?_;rintro e w5 ⟨rfl,aW⟩
   try simp only [ag3]
   have aL:=Zh (Zag (Below.refl _ w4).drew aW);refine hK _ _ ⟨aq.out _ aL.out,?_⟩;clear hK Kv aW;have au:=Zh (BdT.ml (a:=(O,R,T)) (n:=ln) HE.out.1 ar.out.1);have ay:=Zh (fun e=>V.out HQ.out (O,R,T) (HE.out.2.1 e));generalize mlT (O,R,T) ln=ml at au ay;refine oO fun Kv hK=>?_;go_simp;refine (Zqb (K,L,N) ml _ B.out au.out).mono ?_;rintro e w6 ⟨rfl,aX⟩
   try simp only [ag3]
   have u:=Zh (Zag aL.out aX);refine hK _ _ ⟨aq.out _ u.out,?_⟩;clear hK Kv aX;have aN:=Zh (BdT.pl (a:=(K,L,N)) (b:=ml) B.out au.out);generalize plT (K,L,N) ml=p at aN ay;obtain ⟨p0,p1,p2⟩:=p;refine oO fun Kv hK=>?_;obtain ⟨r0,r1,r2⟩:=(ab.out.old u.out).c3;obtain ⟨f0,f1,f2⟩:=(ab.out.old u.out).f3;have rl:=(ab.out.old u.out).lt;go_simp;have HZ:=Zh (ZsA HH.out (bj.out.old u.out) (ab.out.old u.out) HX.out (p0,p1,p2));have ae:=(((ad.out.old u.out).other (a:=⟨X+1,0,none⟩) C.out.2 (.int .i64 p0)).other (a:=⟨X+1,1,none⟩) C.out.2 (.int .i64 p1)).other (a:=⟨X+1,2,none⟩) C.out.2 (.int .i64 p2);have ag:=(((af.out.old u.out).other (a:=⟨X+1,0,none⟩) C.out.1 (.int .i64 p0)).other (a:=⟨X+1,1,none⟩) C.out.1 (.int .i64 p1)).other (a:=⟨X+1,2,none⟩) C.out.1 (.int .i64 p2);refine hK _ _ ⟨⟨ae.c3.1,ae.c3.2.1,ae.c3.2.2,ag.c3.1,ag.c3.2.1,ag.c3.2.2,trivial⟩,?_⟩;clear hK Kv r0 r1 r2 f0 f1 f2 rl ae ag
   (refine pO ?_)
   refine Zd7 ?_
   go_wp2_with fail
   have z0:=HZ.out.2.c3.1;have z1:=HZ.out.2.c3.2.1;have z2:=HZ.out.2.c3.2.2;exact bodyPost_ret (v:=.tuple #[ag3 (p0,p1,p2),.bool ok]) (by simp [results,Tryz.results77,go_sem,ag3,z0,z1,z2]) rfl (HZ.out.1.val rfl aN.out (fun e=>ay.out e) (fun e=>⟨d,aa.out HQ.out,HE.out.2.2 e⟩))
 ·have V:=Zh (Zsz (m:=m) (t:=⟨tk,tc⟩) ⟨q2,q3,q4⟩);have bz:(tk == 2)=false:=by simpa using q2
  have bA:(tk == 3)=false:=by simpa using q3
  have bB:(tk == 4)=false:=by simpa using q4
  clear q q2 q3 q4;go_enter Tryz.func77,Tryz.ntmps77
  go_upto_region 1 with fail
  rw [←HW.out,←F.out];obtain ⟨z,A⟩:=Zj9 HT.out;obtain ⟨r0,r1,r2⟩:=E.out.c3;obtain ⟨f0,f1,f2⟩:=E.out.f3
  go_wp2_with fail
  have r:=ZsA HH.out g.out E.out HX.out ((0,0,0):T3);have z0:=r.2.c3.1;have z1:=r.2.c3.2.1;have z2:=r.2.c3.2.2;exact bodyPost_ret (v:=.tuple #[ag3 ((0,0,0):T3),.bool true]) (by simp [results,Tryz.results77,go_sem,ag3,z0,z1,z2]) rfl (r.1.val rfl .z (fun _=>V.out) (fun e=>by cases e))
end
end
section
open Go.RowKit
attribute [local go_sem] World.cell?_alloc_some
theorem ZsC {κ:Type} [DecidableEq κ] {enc:κ→Value}{i g:TypeId} (K:ZoC i enc) {t:TypeId} (q:Tryz.prog.underlying t=some (.map i g)) {z:Value}{w:World}{c:Array Oper}{b:List Oper}{o:Oper}{a:Act}{Q:Exit→Act→World→Prop} (l:o.guard=none) (m x:Operand) (e:Bool) (d:o.op=Op.lookup t m x e) {M:Nat}{f:κ→Option Value} (p:a.eval m=.map (some M)) (H:MpF enc w M f) (v:(zeroValue g).run Tryz.prog w=.ok z w) (k:κ) (s:a.eval x=enc k) (u:Value) (r:(if e then .tuple #[(f k).getD z,.bool (f k).isSome] else (f k).getD z)=u)
  (j:wpList Tryz.prog c Q b (a.put o.dst u) w):wpList Tryz.prog c Q (o :: b) a w:=by
 subst r;exact ZoI K q l m x e d p H v k s j
theorem ZsD (U:List Nat) (c:Nat):(unF U (c:Int)).getD (.bool false)=.bool (decide (c∈U)):=by have:=Zpi (U:=U) (c:=c);unfold unF at this ⊢;exact j15
theorem ZsE (m:Md) (d:Nat):(mdF m (d:Int)).getD (.bool false)=.bool (ZmX m d):=by
 unfold mdF;rw [Int.toNat_natCast];cases h:ZmX m d
 ·rw [if_neg (by rintro ⟨-,q⟩;cases q)];rfl
 ·rw [if_pos ⟨by omega,rfl⟩];rfl
theorem ZsF {w:World}{M:Nat}{f:Int→Option Value} (H:MpF kI w M f) (k:Int) (ty:TypeId) (cs:Array Bool):∃ w',(invoke (.builtin .delete #[150,3] ty cs) #[.map (some M),.int .i64 k]).run Tryz.prog w=.ok (.value (.tuple #[])) w'∧MpF kI w' M (fun j=>if j=k then none else f j)∧w.grownBy w' (some M):=by obtain ⟨w',b,c,d⟩:=H.del ZoE Tryz.underlying150 (ty:=ty) k;refine ⟨w',?_,c,d⟩;have a:(Builtin.delete_ #[150,3] ty #[.map (some M),.int .i64 k]).run Tryz.prog w=.ok (.tuple #[]) w':=b;simp [invoke,builtin,a,Result.andThen]
section
variable {S:Nat}{M:MsL}{h:Hd}{m:Md}{n:Nat}
theorem ZsG {w0 w:World}{U:List Nat}{c:Nat} (i:c ∉ U) (F:FrO w0 w S M h m (c :: U)) {R:Nat}{d:Array Value}{t:TypeId} (a:Blk w R d t) (ty:TypeId) (cs:Array Bool):∃ w',(invoke (.builtin .delete #[150,3] ty cs) #[.map (some M.u),.int .i64 c]).run Tryz.prog w=.ok (.value (.tuple #[])) w'∧FrO w0 w' S M h m U∧Blk w' R d t:=by obtain ⟨w',f,g,b⟩:=ZsF F.sz.un c ty cs;exact ⟨w',f,F.putU b (g.congr fun j=>Zph i j),(b.block _ a.lt fun e=>Zpc a F.sz.un.map (Option.some.inj e)).trans a⟩
theorem ZsH {P:Program}{b:Func}{R:Ending→World→Prop}{a:Act}{w w':World}{v:Value} (c:ZnM P a.defers w w') (d:(results b a.tmps).run P w'=.ok v w') (h:R (.returned v) w'):ZnN P b R .ret a w:=⟨w',v,c,d,h⟩
theorem ZsI (ho:okL m) (ih:∀ v,v<n→Zpm S M h m v):Zpl S M h m n:=by
 intro w U c H am hU hl hc;have hm:=ho.v;obtain ⟨g,hg,T⟩:=H.kn;obtain ⟨R,hR⟩:∃ R,R=w.heap.size:=⟨_,rfl⟩;obtain ⟨w0,ab⟩:∃ w0,w0=w.alloc (.cells #[.int .i64 0,.int .i64 0,.int .i64 0] 45):=⟨_,rfl⟩;have HB:=Zh (show Below w.heap.size w w0 by rw [ab];exact bE);have HR:=Zh (show Blk w0 R (cl3 0 0 0) 45 by rw [ab,hR];exact Blk.new _ _ _);have HW:=Zh ab;have aa:=Zh hR;have ay:=Zh (show w.heap.size≤R by omega);clear hR;have HH:=Zh H;have bv:=Zh ((FrO.start H).old HB.out);have HG:=Zh (hg.old HB.out);have HN:=Zh (Zir hm).1;have HV:=Zh hm;have cw:=Zh ho;have aX:=Zh hc;have s7:=(H.bk.old HB.out).cell 7 (v:=.map (some M.k)) rfl;obtain ⟨r0,r1,r2⟩:=HR.out.c3;obtain ⟨f0,f1,f2⟩:=HR.out.f3;have rl:=HR.out.lt;rcases T.at (d:=c) with hno|⟨⟨y0,y1,y2⟩,hy,hyc⟩
 rotate_left
 ·have HY:=Zh hy;have cN:=Zh hyc;have cM:=Zh (Zo2 hm hc hyc);clear ab hg T H hy hyc am hU hl ih;refine ZnQ Tryz.func90 rfl ?_;simp only [Tryz.ntmps90,List.size_toArray,List.length_cons,List.length_nil,Nat.reduceAdd,Nat.reduceSub,Array.replicate_succ,Array.replicate_zero,List.push_toArray,List.append_toArray,List.nil_append,List.cons_append]
  go_upto_region 1 with fail
  rw [←HW.out,←aa.out]
  go_upto_region 2 with (at_lookup;refine ZsC ZoE Tryz.underlying174 rfl _ _ true rfl (M:=M.k) rfl HG.out (ZrT _) (c:Int) rfl (.tuple #[.agg #[.int .i64 y0,.int .i64 y1,.int .i64 y2],.bool true]) (by rw [HY.out];rfl) ?_)
  obtain ⟨Y,hY⟩:∃ Y,Y=w0.heap.size:=⟨_,rfl⟩;obtain ⟨w1,D⟩:∃ w1,w1=w0.alloc (.cells #[.int .i64 y0,.int .i64 y1,.int .i64 y2] 45):=⟨_,rfl⟩;have A:Below w0.heap.size w0 w1:=by rw [D];exact bE
  have cK:=Zh (show Blk w1 Y (cl3 y0 y1 y2) 45 by rw [D,hY];exact Blk.new _ _ _);have u:=Zh (HR.out.old A);have E:=Zh (bv.out.old A);rw [←D,←hY];clear D hY A s7 r0 r1 r2 f0 f1 f2 rl;obtain ⟨r0,r1,r2⟩:=u.out.c3;obtain ⟨f0,f1,f2⟩:=u.out.f3;obtain ⟨dm,dn,dp⟩:=cK.out.c3;have rl:=u.out.lt
  go_wp2_with fail
  have V:=ZsA HH.out E.out u.out ay.out (y0,y1,y2);have z0:=V.2.c3.1;have z1:=V.2.c3.2.1;have z2:=V.2.c3.2.2;exact ZsH (v:=.tuple #[ag3 (y0,y1,y2),.bool true]) rfl (by simp [results,Tryz.results90,go_sem,ag3,z0,z1,z2]) (V.1.val rfl cM.out (fun _=>cN.out) (fun e=>by cases e))
 have bD:=Zh hno;have HU:=Zh (H.un.old HB.out);have s6:=(H.bk.old HB.out).cell 6 (v:=.map (some M.u)) rfl;obtain ⟨w1,D⟩:∃ w1,w1=w0.alloc (.cells #[.int .i64 0,.int .i64 0,.int .i64 0] 45):=⟨_,rfl⟩;have A:Below w0.heap.size w0 w1:=by rw [D];exact bE
 have bN:=Zh D;have aW:=Zh A;have E:=Zh (bv.out.old A);have u:=Zh (HR.out.old A);clear D A;by_cases hin:c∈U
 ·have Z:=Zh hin;clear ab hg T H hno am hU hl ih;refine ZnQ Tryz.func90 rfl ?_;simp only [Tryz.ntmps90,List.size_toArray,List.length_cons,List.length_nil,Nat.reduceAdd,Nat.reduceSub,Array.replicate_succ,Array.replicate_zero,List.push_toArray,List.append_toArray,List.nil_append,List.cons_append]
  go_upto_region 1 with fail
  rw [←HW.out,←aa.out]
  go_upto_region 4 with (at_lookup;refine ZsC ZoE Tryz.underlying174 rfl _ _ true rfl (M:=M.k) rfl HG.out (ZrT _) (c:Int) rfl (.tuple #[.agg #[.int .i64 0,.int .i64 0,.int .i64 0],.bool false]) (by rw [bD.out];rfl) ?_)
  rw [←bN.out];clear s6 s7 r0 r1 r2 f0 f1 f2 rl;have s6:=E.out.sz.bk.cell 6 (v:=.map (some M.u)) rfl;obtain ⟨r0,r1,r2⟩:=u.out.c3;obtain ⟨f0,f1,f2⟩:=u.out.f3;have rl:=u.out.lt
  go_wp2_with (at_lookup;refine ZsC ZoE Tryz.underlying150 rfl _ _ false rfl (M:=M.u) rfl (HU.out.old aW.out) (ZrS _) (c:Int) rfl (.bool true) (by rw [if_neg (by decide),ZsD,decide_eq_true Z.out]) ?_)
  have V:=ZsA HH.out E.out u.out ay.out ((0,0,0):T3);have z0:=V.2.c3.1;have z1:=V.2.c3.2.1;have z2:=V.2.c3.2.2;exact ZsH (v:=.tuple #[ag3 ((0,0,0):T3),.bool false]) rfl (by simp [results,Tryz.results90,go_sem,ag3,z0,z1,z2]) (V.1.val rfl .z (fun e=>by cases e) (fun _=>.inr ⟨c,Z.out,.refl c⟩))
 have aP:(c :: U).length≤m.cl.length:=ZmM _ _ (List.nodup_cons.2 ⟨hin,am⟩) fun k hk=>by
  rcases List.mem_cons.1 hk with rfl|e
  ·exact hc
  ·exact hU k e
 rw [List.length_cons] at aP;have Z:=Zh hin;have cG:=Zh (fun w' (t:Ty) (h':Zpf w' S M h m (c :: U)) (ht:Zfk m t)=>ih (n-1) (by omega) w' (c :: U) t h' (List.nodup_cons.2 ⟨hin,am⟩) (fun k hk=>by
  rcases List.mem_cons.1 hk with rfl|e
  ·exact hc
  ·exact hU k e) (by rw [List.length_cons];omega) ht)
 clear ab hg T H hno am hU hl ih aP hin;refine ZnQ Tryz.func90 rfl ?_;simp only [Tryz.ntmps90,List.size_toArray,List.length_cons,List.length_nil,Nat.reduceAdd,Nat.reduceSub,Array.replicate_succ,Array.replicate_zero,List.push_toArray,List.append_toArray,List.nil_append,List.cons_append]
 go_upto_region 1 with fail
 rw [←HW.out,←aa.out]
 go_upto_region 4 with (at_lookup;refine ZsC ZoE Tryz.underlying174 rfl _ _ true rfl (M:=M.k) rfl HG.out (ZrT _) (c:Int) rfl (.tuple #[.agg #[.int .i64 0,.int .i64 0,.int .i64 0],.bool false]) (by rw [bD.out];rfl) ?_)
 rw [←bN.out];clear s6 s7 r0 r1 r2 f0 f1 f2 rl;have s6:=E.out.sz.bk.cell 6 (v:=.map (some M.u)) rfl;obtain ⟨r0,r1,r2⟩:=u.out.c3;obtain ⟨f0,f1,f2⟩:=u.out.f3;have rl:=u.out.lt
 go_upto_region 7 with (first
  | (at_lookup;refine ZsC ZoE Tryz.underlying150 rfl _ _ false rfl (M:=M.u) rfl (HU.out.old aW.out) (ZrS _) (c:Int) rfl (.bool false) (by rw [if_neg (by decide),ZsD,decide_eq_false Z.out]) ?_)
  | (at_mapUpdate;refine ZoM ZoE Tryz.underlying150 rfl _ _ _ rfl (M:=M.u) rfl (HU.out.old aW.out) (c:Int) rfl (.bool true) rfl ?_;intro w2 bY be;have aY:=Zh (E.out.putU be (bY.congr fun j=>Zpg j));have bI:=Zh (show Blk w2 R (cl3 0 0 0) 45 from (be.block _ u.out.lt fun e=>Zpc u.out E.out.sz.un.map (Option.some.inj e)).trans u.out);clear bY be r0 r1 r2 f0 f1 f2 rl s6;have s6:=aY.out.sz.bk.cell 6 (v:=.map (some M.u)) rfl))
 go_upto_region 8 with fail
 clear s6;obtain ⟨O,hO⟩:∃ O,O=w2.heap.size:=⟨_,rfl⟩;obtain ⟨w3,aG⟩:∃ w3,w3=w2.alloc (.cells #[.int .i64 0,.int .i64 0,.int .i64 0] 45):=⟨_,rfl⟩;have bd:Below w2.heap.size w2 w3:=by rw [aG];exact bE
 have cr:=Zh (show Blk w3 O (cl3 0 0 0) 45 by rw [aG,hO];exact Blk.new _ _ _);have bw:=Zh (aY.out.old bd);have cy:=Zh (bI.out.old bd);have av:=Zh (show w.heap.size≤O∧O≠R from ⟨by have:=aY.out.up.size;omega,by have:=bI.out.lt;omega⟩);have cJ:=Zh aG;have cx:=Zh hO;clear aG bd hO
 go_upto_region 9 with fail
 rw [←cJ.out,←cx.out];have X:=bw.out.sz.bk.cell 0 (v:=.slice h.co m.cl.length h.cc) rfl
 go_wp2_with fail
 clear X
 go_loopw [52] (fun i wr=>∃ (j:Nat) (a:T3),j≤m.cl.length∧i=.int .i64 j∧Hid (FrO w wr S M h m (c :: U))∧Hid (Zry m c j a)∧Hid (Blk wr R (cl3 0 0 0) 45)∧Hid (Blk wr O (cl3 a.1 a.2.1 a.2.2) 45)) (fun i _=>m.cl.length-(intOf i).toNat)
 case atStart=>exact ⟨0,z3,Nat.zero_le _,rfl,bw.out,Zry.zero m c,cy.out,cr.out⟩
 case round=>
  obtain ⟨j,a,hj,rfl,r,ah,ax,ai⟩:=hrel;rename World=>wo;obtain ⟨a0,a1,a2⟩:=a;dsimp only at ai;by_cases hjl:j<m.cl.length
  ·have bS:(j:Int) < m.cl.length:=by omega
   have dh:IntKind.i64.wrap ((j:Int)+1)=((j+1:Nat):Int):=IntWalk.i64_in _ (by have:=HN.out;omega);have ac:=Zh (fun w' (h':Zaz w' h m)=>Zhn m h j c w' h');have bQ:(Za2 m&&inV m.cl.length j&&inV m.cl.length c&&ZaI m ((j:Int).toNat+1) j c)=ZaI m (j+1) j c:=by
    rw [HV.out];unfold inV;rw [Int.toNat_natCast];have e1:(decide ((0:Int)≤(j:Int))&&decide ((j:Int) < (m.cl.length:Int)))=true:=by simp;omega
    have e2:(decide ((0:Int)≤(c:Int))&&decide ((c:Int) < (m.cl.length:Int)))=true:=by simp;omega
    rw [e1,e2];rfl
   rw [bQ] at ac;have az:=Zh (fun (q:(ZaI m (j+1) j c&&ZmX m j)=false)=>ah.out.skip q);have G:=Zh (fun (q:(ZaI m (j+1) j c&&ZmX m j)=true) s hs hb=>ah.out.next q (s:=s) hs hb);have bC:=Zh r.out.sz.ma;have a4:=Zh (ZsE m j);have ag:=Zh (fun (q:(ZaI m (j+1) j c&&ZmX m j)=true)=>(ZqJ.2 ⟨hjl,by simpa using q⟩:j∈ZmY m c));generalize ZaI m (j+1) j c=bb at ac az G ag;generalize ZmX m j=mm at az G a4 ag;have X:=r.out.sz.bk.cell 0 (v:=.slice h.co m.cl.length h.cc) rfl;have s1:=r.out.sz.bk.cell 1 (v:=.slice h.so m.st.length h.sc) rfl;have s2:=r.out.sz.bk.cell 2 (v:=.slice h.eo m.me.length h.ec) rfl;have s3:=r.out.sz.bk.cell 3 (v:=.int .i64 m.sel) rfl;clear bQ;cases bb
   ·go_wp2_with (first
     | (go_at_call 148;refine (ac.out _ r.out.sz.md).mono ?_;rintro e w4 ⟨rfl,C⟩;(try simp only [ag3]);have f:=Zh C;clear C X s1 s2 s3))
    exact ⟨⟨j+1,(a0,a1,a2),hjl,rfl,r.out.old f.out,az.out rfl,ax.out.old f.out,ai.out.old f.out⟩,by simp [intOf];omega⟩
   cases mm
   ·go_wp2_with (first
     | (go_at_call 148;refine (ac.out _ r.out.sz.md).mono ?_;rintro e w4 ⟨rfl,C⟩;(try simp only [ag3]);have f:=Zh C;clear C X s1 s2 s3;have s5:=(r.out.old f.out).sz.bk.cell 5 (v:=.map (some M.a)) rfl;have bU:(Instr.lookup 150 (.map (some M.a)) (.int .i64 (j:Int)) false).run Tryz.prog w4=.ok (.bool false) w4:=(by have hq:=(bC.out.old f.out).look ZoE Tryz.underlying150 (ZrS _) (j:Int) false;rw [if_neg (by decide),a4.out] at hq;exact hq)))
    exact ⟨⟨j+1,(a0,a1,a2),hjl,rfl,r.out.old f.out,az.out rfl,ax.out.old f.out,ai.out.old f.out⟩,by simp [intOf];omega⟩
   ·have hm:=HV.out;have bK:=Zh (Zna hm hjl);have bB:=Zh (show (fsC m j).length≤7 by
     have:=Zip hm j hjl;simp only [ZaL,Bool.and_eq_true,decide_eq_true_eq] at this;unfold fsC;omega)
    have bJ:=Zh (fun w' (h':Zaz w' h m)=>ZrN m h j w' h' cw.out hjl);have bO:=Zh (ZoX hm hjl);have G:=Zh (G.out rfl);have ag:=Zh (ag.out rfl);generalize szC m j=z at bJ bO G;obtain ⟨z0,z1,z2⟩:=z;clear hm
    go_upto_region 14 with (first
     | (go_at_call 148;refine (ac.out _ r.out.sz.md).mono ?_;rintro e w4 ⟨rfl,C⟩;(try simp only [ag3]);have f:=Zh C;clear C X s1 s2 s3;have s5:=(r.out.old f.out).sz.bk.cell 5 (v:=.map (some M.a)) rfl;have bU:(Instr.lookup 150 (.map (some M.a)) (.int .i64 (j:Int)) false).run Tryz.prog w4=.ok (.bool true) w4:=(by have hq:=(bC.out.old f.out).look ZoE Tryz.underlying150 (ZrS _) (j:Int) false;rw [if_neg (by decide),a4.out] at hq;exact hq)))
    clear s5 bU;have X:=(r.out.old f.out).sz.bk.cell 0 (v:=.slice h.co m.cl.length h.cc) rfl;have s1:=(r.out.old f.out).sz.bk.cell 1 (v:=.slice h.so m.st.length h.sc) rfl;have s2:=(r.out.old f.out).sz.bk.cell 2 (v:=.slice h.eo m.me.length h.ec) rfl;have s3:=(r.out.old f.out).sz.bk.cell 3 (v:=.int .i64 m.sel) rfl
    go_upto_region 15 with (go_at_call 149;refine (bJ.out _ (r.out.old f.out).sz.md).mono ?_;rintro e w5 ⟨rfl,aD⟩;(try simp only [ag3]);have ae:=Zh ((r.out.old f.out).old aD);have K:=Zh ((ax.out.old f.out).old aD);have I:=Zh ((ai.out.old f.out).old aD);clear aD X s1 s2 s3)
    obtain ⟨Sm,ba⟩:∃ Sm,Sm=w5.heap.size:=⟨_,rfl⟩;obtain ⟨w6,aH⟩:∃ w6,w6=w5.alloc (.cells #[.int .i64 z0,.int .i64 z1,.int .i64 z2] 45):=⟨_,rfl⟩;have aE:Below w5.heap.size w5 w6:=by rw [aH];exact bE
    have cC:=Zh (show Blk w6 Sm (cl3 z0 z1 z2) 45 by rw [aH,ba];exact Blk.new _ _ _);have aZ:=Zh (ae.out.old aE);have cz:=Zh (K.out.old aE);have cs:=Zh (I.out.old aE);have L:=Zh (show w.heap.size≤Sm∧Sm≠R∧Sm≠O from ⟨by have:=ae.out.up.size;omega,by have:=K.out.lt;omega,by have:=I.out.lt;omega⟩);rw [←aH,←ba];clear aH aE ba;obtain ⟨ad,cS,-,e1,e2,-⟩:=aZ.out.sz.md.cls hjl;have X:=aZ.out.sz.bk.cell 0 (v:=.slice h.co m.cl.length h.cc) rfl;rw [cS] at X;rw [show (m.cl.getD j default).f.length=(fsC m j).length from rfl] at e2;have W:=Zh (fun w' (h':Zaz w' h m)=>(show Zas w' (h.c j).fo (h.c j).fc (fsC m j) from h'.f j hjl));generalize (h.c j).fo=fo at e2 W;generalize (h.c j).fc=fc at e2 W;generalize hfl:fsC m j=fl at e2 W bK bB G;have cl:=Zh hfl;clear hfl;clear e1
    go_wp2_with fail
    clear X e2
    go_loopw [96] (fun i wr=>∃ (q:Nat) (s:T3),q≤fl.length∧i=.int .i64 q∧Hid (FrO w wr S M h m (c :: U))∧Hid (Zrz m (z0,z1,z2) fl q s)∧Hid (Blk wr R (cl3 0 0 0) 45)∧Hid (Blk wr O (cl3 a0 a1 a2) 45)∧Hid (Blk wr Sm (cl3 s.1 s.2.1 s.2.2) 45)) (fun i _=>fl.length-(intOf i).toNat)
    case atStart=>exact ⟨0,(z0,z1,z2),Nat.zero_le _,rfl,aZ.out,Zrz.zero bO.out,cz.out,cs.out,cC.out⟩
    case round=>
     obtain ⟨q,s,hq,rfl,a3,aj,aa,J,a5⟩:=hrel;rename World=>wq;obtain ⟨X,s1,s2⟩:=s;dsimp only at a5;by_cases hql:q<fl.length
     ·have bX:(q:Int) < fl.length:=by omega
      have di:IntKind.i64.wrap ((q:Int)+1)=((q+1:Nat):Int):=IntWalk.i64_in _ (by have:=bB.out;omega);obtain ⟨fd,cU,t0,t1⟩:=ZaA (W.out _ a3.out.sz.md) hql;have bF:=Zh (fun x hx hb=>aj.out.next hql (x:=x) hx hb);have a6:=Zh (ZfX (default:Ty) hql);have bL:=Zh (bK.out _ a6.out);generalize fl.getD q default=t at t0 t1 bF a6 bL;subst cU;have bM:=Zh (fun w' (h':Zpf w' S M h m (c :: U))=>cG.out w' t h' bL.out);obtain ⟨tk,tc⟩:=t;dsimp only at t0 t1 bM
      go_upto_region 18 with fail
      obtain ⟨w7,aI⟩:∃ w7,w7=wq.alloc (.cells #[.int .i64 tk,.int .i64 tc] 38):=⟨_,rfl⟩;have ak:Below wq.heap.size wq w7:=by rw [aI];exact bE
      have cF:=Zh (show Blk w7 wq.heap.size #[.int .i64 tk,.int .i64 tc] 38 by rw [aI];exact Blk.new _ _ _);have af:=Zh (a3.out.old ak);have cA:=Zh (aa.out.old ak);have ct:=Zh (J.out.old ak);have cp:=Zh (a5.out.old ak);rw [←aI];clear aI ak t0 t1;obtain ⟨t0,t1⟩:=Zj9 cF.out
      go_upto_region 19 with (go_at_call 77;refine (bM.out _ af.out.sz).mono ?_;rintro e w8 ⟨b0,an,bT,⟨x0,x1,x2⟩,ok,rfl,bR,b1,bV⟩;(try simp only [ag3]);have cB:=Zh (af.out.sz.own cA.out an);have cu:=Zh (af.out.sz.own ct.out an);have cq:=Zh (af.out.sz.own cp.out an);have ck:=Zh (af.out.call b0 an bT);have HE:=Zh (And.intro bR (And.intro b1 bV));clear b0 an bT bR b1 bV t0 t1)
      obtain ⟨Y,hY⟩:∃ Y,Y=w8.heap.size:=⟨_,rfl⟩;obtain ⟨w9,aJ⟩:∃ w9,w9=w8.alloc (.cells #[.int .i64 x0,.int .i64 x1,.int .i64 x2] 45):=⟨_,rfl⟩;have al:Below w8.heap.size w8 w9:=by rw [aJ];exact bE
      have cL:=Zh (show Blk w9 Y (cl3 x0 x1 x2) 45 by rw [aJ,hY];exact Blk.new _ _ _);have bx:=Zh (ck.out.old al);have aw:=Zh (cB.out.old al);have cv:=Zh (cu.out.old al);have F:=Zh (cq.out.old al);rw [←aJ,←hY];clear aJ al hY;cases ok
      ·obtain ⟨r0,r1,r2⟩:=aw.out.c3;obtain ⟨f0,f1,f2⟩:=aw.out.f3
       go_wp2_with fail
       have V:=ZsA HH.out bx.out aw.out ay.out ((0,0,0):T3);obtain ⟨wz,hd,hF,N⟩:=ZsG Z.out V.1 V.2 _ _;have bk:=N.c3.1;have bl:=N.c3.2.1;have bm:=N.c3.2.2;exact ZsH (v:=.tuple #[ag3 ((0,0,0):T3),.bool false]) ⟨_,_,_,_,_,rfl,hd⟩ (by simp [results,Tryz.results90,go_sem,ag3,bk,bl,bm]) (hF.val rfl .z (fun e=>by cases e) (fun _=>by
        obtain ⟨d,h1,h2⟩:=HE.out.2.2 (by first|rfl|trivial);exact Znv.up HV.out aX.out ⟨j,ag.out,_,(by rw [cl.out];exact a6.out),h1⟩ h2))
      ·obtain ⟨m0,m1,m2⟩:=F.out.c3;obtain ⟨y0,y1,y2⟩:=cL.out.c3;have ml:=F.out.lt
       go_wp2_with (go_at_call 85;refine (Zqb (X,s1,s2) (x0,x1,x2) _ aj.out.2 HE.out.1).mono ?_;rintro e cZ ⟨rfl,B⟩;(try simp only [ag3]);have b:=Zh B;clear B m0 m1 m2 y0 y1 y2 ml;obtain ⟨m0,m1,m2⟩:=(F.out.old b.out).c3;obtain ⟨g0,g1,g2⟩:=(F.out.old b.out).f3;have ml:=(F.out.old b.out).lt)
       refine ⟨⟨q+1,_,hql,rfl,FrO.set3 HH.out (bx.out.old b.out) (F.out.old b.out) L.out.1 _ _ _,bF.out _ (HE.out.2.1 (by first|rfl|trivial)) HE.out.1,?_,?_,Zmx (F.out.old b.out)⟩,by simp [intOf];omega⟩
       ·exact ((((aw.out.old b.out).other (fun e=>L.out.2.1 e.symm) _).other (fun e=>L.out.2.1 e.symm) _).other (fun e=>L.out.2.1 e.symm) _)
       ·exact ((((cv.out.old b.out).other (fun e=>L.out.2.2 e.symm) _).other (fun e=>L.out.2.2 e.symm) _).other (fun e=>L.out.2.2 e.symm) _)
     ·have bX:¬ (q:Int) < fl.length:=by omega
      have cY:q=fl.length:=by omega
      subst cY;have cE:=Zh (G.out (X,s1,s2) aj.out.fin aj.out.2);obtain ⟨o0,o1,o2⟩:=J.out.c3;obtain ⟨m0,m1,m2⟩:=a5.out.c3;have cD:=Zh aj.out.2
      go_wp2_with (go_at_call 85;refine (Zqd (a0,a1,a2) (X,s1,s2) _ ah.out.2 cD.out).mono ?_;rintro e cZ ⟨rfl,B⟩;(try simp only [ag3]);have b:=Zh B;clear B m0 m1 m2 o0 o1 o2;obtain ⟨o0,o1,o2⟩:=(J.out.old b.out).c3;obtain ⟨g0,g1,g2⟩:=(J.out.old b.out).f3;have ol:=(J.out.old b.out).lt)
      refine ⟨⟨j+1,_,hjl,rfl,FrO.set3 HH.out (a3.out.old b.out) (J.out.old b.out) av.out.1 _ _ _,cE.out,?_,Zmx (J.out.old b.out)⟩,by simp [intOf];omega⟩;exact ((((aa.out.old b.out).other (fun e=>av.out.2 e.symm) _).other (fun e=>av.out.2 e.symm) _).other (fun e=>av.out.2 e.symm) _)
  ·have bS:¬ (j:Int) < m.cl.length:=by omega
   have cV:j=m.cl.length:=by omega
   subst cV;have bA:=Zh (ah.out.fin HV.out aX.out);have bG:=Zh ah.out.2
   go_upto_region 25 with fail
   obtain ⟨gk,T,bW⟩:=r.out.sz.kn;have HK:=Zh T.drew;have co:=Zh bW;have bz:=Zh (r.out.old (Below.refl _ wo).drew);have a7:=Zh ax.out.drew;have au:=Zh ai.out.drew;have s7:=bz.out.sz.bk.cell 7 (v:=.map (some M.k)) rfl;obtain ⟨o0,o1,o2⟩:=au.out.c3;clear T bW;refine rO (Cs [(⟨S,7,none⟩,.map (some M.k)),(⟨O,0,none⟩,.int .i64 a0),(⟨O,1,none⟩,.int .i64 a1),(⟨O,2,none⟩,.int .i64 a2)]) (oL [0,1,2,3,4,5,106]) ⟨s7,o0,o1,o2,trivial⟩ ?_;clear s7 o0 o1 o2
   iterate 6 (refine pO ?_)
   refine oO fun Kv hK=>?_;refine ZoN ZoE Tryz.underlying174 _ _ _ rfl (M:=M.k) rfl HK.out (c:Int) rfl (.agg #[.int .i64 a0,.int .i64 a1,.int .i64 a2]) rfl ?_;intro w5 bZ aF;have ae:=Zh (bz.out.putK aF bZ (co.out.put (y:=(a0,a1,a2)) aX.out bA.out));have K:=Zh (show Blk w5 R (cl3 0 0 0) 45 from (aF.block _ a7.out.lt fun e=>Zpc a7.out HK.out.map (Option.some.inj e)).trans a7.out);have I:=Zh (show Blk w5 O (cl3 a0 a1 a2) 45 from (aF.block _ au.out.lt fun e=>Zpc au.out HK.out.map (Option.some.inj e)).trans au.out);refine hK _ _ ⟨⟨ae.out.sz.bk.cell 7 rfl,I.out.c3.1,I.out.c3.2.1,I.out.c3.2.2,trivial⟩,Zd7 ?_⟩;clear hK Kv bZ aF;obtain ⟨o0,o1,o2⟩:=I.out.c3;obtain ⟨r0,r1,r2⟩:=K.out.c3;obtain ⟨f0,f1,f2⟩:=K.out.f3;have rl:=K.out.lt
   go_wp2_with fail
   have V:=ZsA HH.out ae.out K.out ay.out (a0,a1,a2);obtain ⟨wz,hd,hF,N⟩:=ZsG Z.out V.1 V.2 _ _;have bk:=N.c3.1;have bl:=N.c3.2.1;have bm:=N.c3.2.2;exact ZsH (v:=.tuple #[ag3 (a0,a1,a2),.bool true]) ⟨_,_,_,_,_,rfl,hd⟩ (by simp [results,Tryz.results90,go_sem,ag3,bk,bl,bm]) (hF.val rfl bG.out (fun _=>bA.out) (fun e=>by cases e))
end
end
section
open Go.RowKit
attribute [local go_sem] World.cell?_alloc_some
theorem ZsJ (m:Md) (h:Hd) (a b:Nat) (w:World) (H:Zaz w h m) (o:Za2 m=true) (I:a<m.cl.length) (J:b<m.cl.length):Calls Tryz.prog 204 #[.agg (HM.mk h m),.int .i64 a,.int .i64 b] w (Zhi w (.bool (ZaI m (a+1) a b)) (.int .i64 0)):=by
 obtain ⟨u,c⟩:∃ u,u=w.alloc (.cells (HM.mk h m) 26):=⟨_,rfl⟩;have B:=Zh (show Below w.heap.size w u by rw [c];exact bE);have A:=Zh (show Blk u w.heap.size (HM.mk h m) 26 by rw [c];exact Blk.new _ _ _);have z:=Zh (H.old B.out);have G:=Zh c;have C:ZcZ m m.cl.length:=Zc4 fun k D=>Zip o k D;have l:ZcZ m ((a:Int).toNat+1):=Zc4 fun k D=>Zip o k (by omega);have x:=Zh (fun w' (h':Zaz w' h m)=>Ze5 m h a b w' h' (by omega) l);rw [Zc1 C (b:=b) (by omega) m.cl.length a (m.cl.length+1) (a+1) (by omega) (Nat.le_refl _) (fun _=>by omega)] at x;have E:=Zh (fun w' (h':Zaz w' h m)=>Zjn m h a m.cl.length w' h' o (by omega));have F:=Zh (fun w' (h':Zaz w' h m)=>Zjn m h b m.cl.length w' h' o (by omega));generalize ZaI m (a+1) a b=v at x ⊢;clear c H o C l;go_enter Tryz.func204,Tryz.ntmps204
 go_upto_region 1 with fail
 rw [←G.out];obtain ⟨q,r,s,t⟩:=Zj8 A.out
 go_upto_region 2 with (go_at_call 61;refine (E.out _ z.out).mono ?_;rintro e K ⟨rfl,g⟩;have d:=Zh g;clear g q r s t)
 obtain ⟨q,r,s,t⟩:=Zj8 (A.out.old d.out)
 go_upto_region 4 with (go_at_call 61;refine (F.out _ (z.out.old d.out)).mono ?_;rintro e L ⟨rfl,i⟩;have f:=Zh (Zag d.out i);clear i q r s t)
 obtain ⟨q,r,s,t⟩:=Zj8 (A.out.old f.out)
 go_wp2_with (go_at_call 176;refine (x.out _ (z.out.old f.out)).mono ?_;rintro e N ⟨rfl,j⟩;have y:=Zh (Zag f.out j);clear j q r s t)
 go_ret2;exact ⟨rfl,Zag B.out y.out⟩
theorem ZsK {m:Md} (c:Za2 m=true) {k:Nat} (b:k<m.me.length):ZaW false (cdM m k)=0:=by have h:=ZfQ c b;unfold ZaW cdM;rw [if_neg (by have:=h.z.2.2;omega),if_pos (List.all_eq_true.2 fun i a=>(h.i i a).1),if_pos h.n]
theorem ZsL {m:Md} (f:Za2 m=true) {k j:Nat} (e:k<m.me.length) (d:j<(cdM m k).length) (h:((cdM m k).getD j default).op=14):((cdM m k).getD j default).b=0:=by
 have c:=((ZfQ f e).i _ (ZfX (l:=cdM m k) default d)).1
 revert c h
 generalize (cdM m k).getD j default=i;intro h c;obtain ⟨g,a,b⟩:=i;dsimp only at h;subst h;simp only [ZaR,Bool.and_eq_true] at c;have:=c.1.2;simp [inR,inI,opB,ZaP] at this;show b=0;omega
def ZsM (l:List In3) (w:World):Ending→World→Prop:=fun e w'=>(∃ n:Int,0≤n∧e=.returned (.tuple #[.int .i64 n,.int .i64 0])∧(n=0→∀ i∈l,¬ i.op=14))∧Below w.heap.size w w'
theorem ZsN (l:List In3) (ao:Option Addr) (cap:Nat) (w:World) (v:Zas w ao cap l) (g:ZaW false l=0):Calls Tryz.prog 205 #[.slice ao l.length cap,.int .i64 14] w (ZsM l w):=by
 have A:l.length≤120:=by
  by_cases q:120<l.length
  ·unfold ZaW at g;rw [if_pos q] at g;cases g
  ·omega
 have x:=Zh (fun w' D=>ZgN l ao cap false w' (v.old (w':=w') D));rw [g] at x;have B:=Zh v;clear v g;go_enter Tryz.func205,Tryz.ntmps205
 go_wp2_with (go_at_call 177;refine (x.out _ (Below.refl _ _)).mono ?_;rintro e P ⟨rfl,o⟩;have t:=Zh o;clear o)
 go_loopw [7,8] (fun n i wr=>∃ (k:Nat) (c:Int),k≤l.length∧i=.int .i64 k∧n=.int .i64 c∧Hid (Below w.heap.size w wr)∧Hid (0≤c∧c≤k∧(c=0→∀ j,j<k→¬ (l.getD j default).op=14))) (fun _ i _=>l.length-(intOf i).toNat)
 case atStart=>exact ⟨0,0,Nat.zero_le _,rfl,rfl,t.out,by omega,by simp,fun _ j r=>by omega⟩
 case round=>
  obtain ⟨k,c,O,rfl,rfl,a,C⟩:=hrel;obtain ⟨p,E,b⟩:=C.out;by_cases hkl:k<l.length
  ·obtain ⟨N,rfl,J,K,L⟩:=ZaB (B.out.old a.out) hkl;have z:(k:Int) < l.length:=by omega
   have I:IntKind.i64.wrap ((k:Int)+1)=((k+1:Nat):Int):=IntWalk.i64_in _ (by omega);have H:IntKind.i64.wrap (c+1)=c+1:=IntWalk.i64_in _ (by omega);have d:=Zh b;clear b;obtain ⟨s,f⟩:∃ s,s=(l.getD k default).op:=⟨_,rfl⟩;rw [←f] at J;have u:=Zh f;clear f K L;by_cases h14:s=14
   ·subst h14;go_wp2;go_roundw
    case rel=>exact ⟨k+1,c+1,hkl,rfl,rfl,a.out,by omega,by omega,fun q=>by omega⟩
    case measure=>simp [intOf];omega
   ·have y:(s == 14)=false:=by simpa using h14
    go_wp2;go_roundw
    case rel=>
     refine ⟨k+1,c,hkl,rfl,rfl,a.out,p,by omega,fun q j r=>?_⟩;by_cases e:j=k
     ·subst e;rw [←u.out];exact h14
     ·exact d.out q j (by omega)
    case measure=>simp [intOf];omega
  ·obtain rfl:k=l.length:=by omega
   have G:¬ (l.length:Int) < l.length:=by omega
   have d:=Zh b;clear b;go_wp2;go_ret2;refine ⟨⟨c,p,rfl,fun q i F=>?_⟩,a.out⟩;obtain ⟨j,r,rfl⟩:=List.getElem_of_mem F;have:=d.out q j r;rwa [show l.getD j default=l[j] by simp [r]] at this
end
section
open Go.RowKit
def ZsO (S:Nat) (M:MsL) (h:Hd) (m:Md):Prop:=∀ w ao cap (l:List Ty),Zpf w S M h m []→Zas w ao cap l→(∀ t∈l,Zfk m t)→l.length≤100000 →
 Calls Tryz.prog 80 #[ZQ.p S,.slice ao l.length cap] w (Zpj w S M h m [] (Zm0 (Zm4 m) z3 l) (Zm0 (Zm4 m) z3 l=none))
end
