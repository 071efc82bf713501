import Derived.Test.YtfmcclhfnpcokaaGreatG29
set_option linter.all false
set_option maxRecDepth 100000
set_option maxHeartbeats 32000000
namespace Go.Proofs.YtfmcclhfnpcokaaGreat
theorem kC0{p:Prop}(h:p:=by
 have i1:=HI.out.cell 1 (v:=.int .i64 ia) rfl;have i2:=HI.out.cell 2 (v:=.int .i64 ib) rfl
 go_wp2_with (go_at_call 77;refine (HC.out _ HF0.out.sz).mono ?_;rintro e w1 ⟨hs1,hu1,hk1,⟨x0,x1,x2⟩,ok,rfl,hbx,hy1,hn1⟩;(try simp only [ag3]);have HR1:=Zh (HF0.out.sz.own HR.out hu1);have HF1:=Zh (HF0.out.call hs1 hu1 hk1);have HE:=Zh (And.intro hbx (And.intro hy1 hn1));clear hs1 hu1 hk1 hbx hy1 hn1 i0 i1 i2;obtain ⟨r0,r1,r2⟩:=HR1.out.c3;obtain ⟨f0,f1,f2⟩:=HR1.out.f3;have rl:=HR1.out.lt)
 have hz:=Zrx HH.out HF1.out HR1.out HXs.out (x0,x1,x2);have z0:=hz.2.c3.1;have z1:=hz.2.c3.2.1;have z2:=hz.2.c3.2.2;exact bodyPost_ret (v:=.tuple #[ag3 (x0,x1,x2),.bool ok]) (by simp [results,Tryz.results152,go_sem,ag3,z0,z1,z2]) rfl (hz.1.val rfl HE.out.1 HE.out.2.1 (fun e=>HNo.out (HE.out.2.2 e)))):p:=h
section
open Go.RowKit
attribute [local go_sem] World.cell?_alloc_some
section
variable {S:Nat}{M:MsL}{h:Hd}{m:Md}
theorem Zss {m:Md}{T:Nat→Option T3}{i:In3} (h:i.op=25):ZpM m T i=T i.a.toNat:=by unfold ZpM;rw [if_pos h]
theorem Zst {m:Md}{T:Nat→Option T3}{i:In3} (h:i.op=26):ZpM m T i=ZpL T z3 (ZaO m i.a):=by unfold ZpM;rw [if_neg (by omega),if_pos h]
theorem Zsu {m:Md}{T:Nat→Option T3}{i:In3} (h:i.op=14):ZpM m T i=Zn2 m ⟨2,i.a⟩:=by unfold ZpM;rw [if_neg (by omega),if_neg (by omega),if_pos h]
theorem Zsv {m:Md}{T:Nat→Option T3}{i:In3} (h:i.op=15):ZpM m T i=Zn2 m ⟨3,0⟩:=by unfold ZpM;rw [if_neg (by omega),if_neg (by omega),if_neg (by omega),if_pos h]
theorem Zsw {m:Md}{T:Nat→Option T3}{i:In3} (h:i.op=16):ZpM m T i=Zn2 m ⟨4,i.b⟩:=by unfold ZpM;rw [if_neg (by omega),if_neg (by omega),if_neg (by omega),if_neg (by omega),if_pos h]
theorem Zsx {m:Md}{T:Nat→Option T3}{i:In3} (h:i.op≠14∧i.op≠15∧i.op≠16∧i.op≠25∧i.op≠26):ZpM m T i=some z3:=by unfold ZpM;rw [if_neg h.2.2.2.1,if_neg h.2.2.2.2,if_neg h.1,if_neg h.2.1,if_neg h.2.2.1]
theorem Zsy {w:World}{ao:Option Addr}{cap:Nat}{l:List Int} (h:Zas w ao cap l) {B:Nat} (d:∀ a,ao=some a→a.block≠B) (i:Nat) (v:Value):Zas (w.setCell ⟨B,i,none⟩ v) ao cap l:=
 ⟨h.1,h.2.1,fun j u e=>by
  obtain ⟨a,b,c⟩:=h.2.2 j u e
  exact ⟨a,b,(World.cell?_of_block (w:=w) (Below.heap_setCell _ _ _ _ (show (a.add j).block≠B from (by rw [Zah];exact d a b)))).trans c⟩⟩
theorem Zsz (m:Md) (s:Int):(ZaO m s).length≤m.cl.length:=by unfold ZaO;refine Nat.le_trans (ZdC _) (Nat.le_trans (List.length_filter_le _ _) ?_);rw [List.length_map];exact Nat.le_refl _
theorem ZsA (ho:okL m) {k:Nat} (hk:k<m.me.length) (ih:∀ j,j<k→ZrY S M h m j) (i:In3) (g:ZfU m k i) (w:World) (H:Zp4 w S M h m []):Calls Tryz.prog 152 #[ZQ.p S,ZI.i i] w (Zp8 w S M h m [] (ZpM m (ZpR m) i) (ZpM m (ZpR m) i=none)):=by
 have hm:=ho.v;obtain ⟨X,hX⟩:∃ X,X=w.heap.size:=⟨_,rfl⟩;obtain ⟨V,F⟩:∃ V,V=(w.alloc (.cells #[.int .i64 i.op,.int .i64 i.a,.int .i64 i.b] 72)).alloc (.cells #[.int .i64 0,.int .i64 0,.int .i64 0] 45):=⟨_,rfl⟩;have HB:=Zh (show Below w.heap.size w V by rw [F];exact bE);have HI:=Zh (show Blk V X #[.int .i64 i.op,.int .i64 i.a,.int .i64 i.b] 72 by rw [F,hX];exact (Blk.new _ _ _).alloc _);have HR:=Zh (show Blk V (X+1) (cl3 0 0 0) 45 by rw [F,hX];exact Blk.new' (w:=w.alloc _) _ _ (by simp));have HW:=Zh F;have n:=Zh hX;have HXs:=Zh (show w.heap.size≤X+1 by omega);have HH:=Zh H;have HF0:=Zh ((FrO.start H).old HB.out);have an:=Zh ih;have af:=Zh (fun (t:Ty) (ht:Zfk m t) G (K:Zp4 G S M h m [])=>Zr1 ho ht G K);have bs:=Zh ho;have HV:=Zh hm;clear hX F H ih;obtain ⟨r,ia,ib⟩:=i;dsimp only at HI HW;by_cases q14:r=14
 ·subst q14;have W:=Zh (show Zfk m ⟨2,ia⟩ from by have Z:=g.a0 (show (14:Int)≠1 by decide);have I:=g.o14 (.inl rfl);dsimp only at Z I;unfold Zfk ZaG;simp;omega);have HC:=Zh (fun G K=>af.out ⟨2,ia⟩ W.out G K);rw [show ZpM m (ZpR m) ⟨14,ia,ib⟩=Zn2 m ⟨2,ia⟩ from Zsu rfl];dsimp only at HC;have HNo:=Zh (fun (q:Zp9 m [] ⟨2,ia⟩)=>q.nil);generalize Zn2 m ⟨2,ia⟩=v at HC HNo ⊢;clear g;go_enter Tryz.func152,Tryz.ntmps152
  go_upto_region 1 with fail
  rw [←HW.out,←n.out];have i0:=HI.out.cell 0 (v:=.int .i64 14) rfl;exact kC0
 have bn:(r == 14)=false:=by simpa using q14
 by_cases q15:r=15
 ·subst q15;have W:=Zh (show Zfk m ⟨3,0⟩ from by unfold Zfk ZaG;simp);have HC:=Zh (fun G K=>af.out ⟨3,0⟩ W.out G K);rw [show ZpM m (ZpR m) ⟨15,ia,ib⟩=Zn2 m ⟨3,0⟩ from Zsv rfl];dsimp only at HC;have HNo:=Zh (fun (q:Zp9 m [] ⟨3,0⟩)=>q.nil);generalize Zn2 m ⟨3,0⟩=v at HC HNo ⊢;clear g;go_enter Tryz.func152,Tryz.ntmps152
  go_upto_region 1 with fail
  rw [←HW.out,←n.out];have i0:=HI.out.cell 0 (v:=.int .i64 15) rfl;exact kC0
 have bo:(r == 15)=false:=by simpa using q15
 by_cases q16:r=16
 ·subst q16;have W:=Zh (show Zfk m ⟨4,ib⟩ from by have Z:=g.b0;have I:=g.o16 rfl;dsimp only at Z I;unfold Zfk ZaG;simp;omega);have HC:=Zh (fun G K=>af.out ⟨4,ib⟩ W.out G K);rw [show ZpM m (ZpR m) ⟨16,ia,ib⟩=Zn2 m ⟨4,ib⟩ from Zsw rfl];dsimp only at HC;have HNo:=Zh (fun (q:Zp9 m [] ⟨4,ib⟩)=>q.nil);generalize Zn2 m ⟨4,ib⟩=v at HC HNo ⊢;clear g;go_enter Tryz.func152,Tryz.ntmps152
  go_upto_region 1 with fail
  rw [←HW.out,←n.out];have i0:=HI.out.cell 0 (v:=.int .i64 16) rfl;exact kC0
 have bp:(r == 16)=false:=by simpa using q16
 by_cases q25:r=25
 ·subst q25;have Z:=g.a0 (show (25:Int)≠1 by decide);have I:=(g.o25 rfl).1;dsimp only at Z I;obtain ⟨j,rfl⟩:∃ j:Nat,ia=j:=⟨ia.toNat,by omega⟩;have hj:j<k:=by omega
  have HC:=Zh (an.out j hj);rw [show ZpM m (ZpR m) ⟨25,j,ib⟩=ZpR m j from (Zss rfl).trans (by rw [Int.toNat_natCast])];unfold ZrY at HC;generalize ZpR m j=v at HC ⊢;clear g;go_enter Tryz.func152,Tryz.ntmps152
  go_upto_region 1 with fail
  rw [←HW.out,←n.out];have i0:=HI.out.cell 0 (v:=.int .i64 25) rfl;have i1:=HI.out.cell 1 (v:=.int .i64 j) rfl;have i2:=HI.out.cell 2 (v:=.int .i64 ib) rfl
  go_wp2_with (go_at_call 96;refine (HC.out _ HF0.out.sz).mono ?_;rintro e w1 ⟨hs1,hu1,hk1,⟨x0,x1,x2⟩,ok,rfl,hbx,hy1,hn1⟩;(try simp only [ag3]);have HR1:=Zh (HF0.out.sz.own HR.out hu1);have HF1:=Zh (HF0.out.call hs1 hu1 hk1);have HE:=Zh (And.intro hbx (And.intro hy1 hn1));clear hs1 hu1 hk1 hbx hy1 hn1 i0 i1 i2;obtain ⟨r0,r1,r2⟩:=HR1.out.c3;obtain ⟨f0,f1,f2⟩:=HR1.out.f3;have rl:=HR1.out.lt)
  have hz:=Zrx HH.out HF1.out HR1.out HXs.out (x0,x1,x2);have z0:=hz.2.c3.1;have z1:=hz.2.c3.2.1;have z2:=hz.2.c3.2.2;exact bodyPost_ret (v:=.tuple #[ag3 (x0,x1,x2),.bool ok]) (by simp [results,Tryz.results152,go_sem,ag3,z0,z1,z2]) rfl (hz.1.val rfl HE.out.1 HE.out.2.1 HE.out.2.2)
 have bq:(r == 25)=false:=by simpa using q25
 by_cases q26:r=26
 ·subst q26;have Z:=g.a0 (show (26:Int)≠1 by decide);have I:=g.o26 rfl;dsimp only at Z I;obtain ⟨s,rfl⟩:∃ s:Nat,ia=s:=⟨ia.toNat,by omega⟩;have W:=Zh (fun G (K:Zaz G h m)=>Ziu m h s G K HV.out I.1);rw [show ZpM m (ZpR m) ⟨26,s,ib⟩=ZpL (ZpR m) z3 (ZaO m s) from Zst rfl];have ap:=Zh (show ∀ q,q<(ZaO m s).length→∃ j:Nat,(ZaO m s).getD q 0=j∧ZrY S M h m j from fun q hq=>by
   have hm:=ZfX (0:Int) hq;have h3:=ZfW hm;have h4:=I.2 _ hm;exact ⟨((ZaO m s).getD q 0).toNat,by omega,an.out _ (by omega)⟩)
  have aq:=Zh (show (ZaO m s).length≤10 from Nat.le_trans (Zsz m s) (Zir HV.out).1);have aw:=Zh (ZrW.zero (ZpR m) (ZaO m s));have au:=Zh (fun q a (h0:ZrW (ZpR m) (ZaO m s) q a) (hq:q<(ZaO m s).length) x hx hb=>h0.next hq (x:=x) hx hb);have av:=Zh (fun q a (h0:ZrW (ZpR m) (ZaO m s) q a) (hq:q<(ZaO m s).length) hx=>h0.no hq hx);have ar:=Zh (fun a (h0:ZrW (ZpR m) (ZaO m s) (ZaO m s).length a)=>h0.fin);generalize ZaO m s=l at W ap aq aw au av ar ⊢;obtain ⟨O,hO⟩:∃ O,O=V.heap.size:=⟨_,rfl⟩;obtain ⟨w1,R⟩:∃ w1,w1=V.alloc (.cells #[.int .i64 0,.int .i64 0,.int .i64 0] 45):=⟨_,rfl⟩;have L:Below V.heap.size V w1:=by rw [R];exact bE
  have ay:=Zh (show Blk w1 O (cl3 0 0 0) 45 by rw [R,hO];exact Blk.new _ _ _);have HF1:=Zh (HF0.out.old L);have am:=Zh (HI.out.old L);have HR1:=Zh (HR.out.old L);have aW:=Zh R;have aT:=Zh hO;have J:=Zh (show w.heap.size≤O∧O≠X+1 from ⟨by have:=HB.out.size;omega,by have:=HR.out.lt;omega⟩);clear g Z I R L hO;go_enter Tryz.func152,Tryz.ntmps152
  go_upto_region 1 with fail
  rw [←HW.out,←n.out];have i0:=HI.out.cell 0 (v:=.int .i64 26) rfl
  go_upto_region 6 with fail
  rw [←aW.out,←aT.out];clear i0;refine rO (Cs [(⟨S,0,none⟩,.slice h.co m.cl.length h.cc),(⟨S,1,none⟩,.slice h.so m.st.length h.sc),(⟨S,2,none⟩,.slice h.eo m.me.length h.ec),(⟨S,3,none⟩,.int .i64 m.sel),(⟨X,1,none⟩,.int .i64 s)]) (oL [0,1,2,3,4,5,106,7,8,9,10,11]) ⟨HF1.out.sz.bk.cell 0 rfl,HF1.out.sz.bk.cell 1 rfl,HF1.out.sz.bk.cell 2 rfl,HF1.out.sz.bk.cell 3 rfl,am.out.cell 1 rfl,trivial⟩ ?_
  iterate 6 (refine pO ?_)
  have al:=Zh (HF1.out.old (Below.refl _ w1).drew);refine oO fun Kv hK=>?_;go_simp;refine (W.out _ al.out.sz.md).mono ?_;rintro e w2 ⟨⟨ao,a4,rfl,ab,aa⟩,D⟩;have u:=Zh (al.out.old D);have aP:=Zh (am.out.drew.old D);have aU:=Zh (HR1.out.drew.old D);have aR:=Zh (ay.out.drew.old D);have aC:=Zh ab;have aQ:=Zh (show ∀ a,ao=some a→a.block≠O from fun a ha=>by have h3:=aa a ha;have h4:=ay.out.drew.lt;omega);refine hK _ _ ⟨⟨u.out.sz.bk.cell 0 rfl,u.out.sz.bk.cell 1 rfl,u.out.sz.bk.cell 2 rfl,u.out.sz.bk.cell 3 rfl,aP.out.cell 1 rfl,trivial⟩,?_⟩;clear hK Kv ab aa D
  iterate 5 (refine pO ?_)
  refine Zd7 ?_
  go_wp2_with fail
  go_loopw [37] (fun i wr=>∃ (q:Nat) (a:T3),q≤l.length∧i=.int .i64 q∧Hid (FrO w wr S M h m [])∧Hid (ZrW (ZpR m) l q a)∧Hid (Blk wr (X+1) (cl3 0 0 0) 45)∧Hid (Blk wr O (cl3 a.1 a.2.1 a.2.2) 45)∧Hid (Zas wr ao a4 l)) (fun i _=>l.length-(intOf i).toNat)
  case atStart=>exact ⟨0,z3,Nat.zero_le _,rfl,u.out,aw.out,aU.out,aR.out,aC.out⟩
  case round=>
   obtain ⟨q,a,hq,rfl,y,z,C,ae,az⟩:=hrel;rename World=>wo;obtain ⟨a0,a1,a2⟩:=a;dsimp only at ae;by_cases hql:q<l.length
   ·have aG:(q:Int) < l.length:=by omega
    have bx:IntKind.i64.wrap ((q:Int)+1)=((q+1:Nat):Int):=IntWalk.i64_in _ (by have:=aq.out;omega);obtain ⟨ad,a7,c0⟩:=ZaC az.out hql;obtain ⟨j,hj,hc⟩:=ap.out q hql;rw [hj] at c0;have HC:=Zh hc;unfold ZrY at HC;have ax:=Zh (fun x hx hb=>au.out q _ z.out hql x hx hb);have HNo:=Zh (fun hx=>av.out q _ z.out hql hx);rw [hj,Int.toNat_natCast] at ax HNo;have A:=Zh aQ.out;subst a7;clear hj hc
    go_upto_region 11 with (go_at_call 96;refine (HC.out _ y.out.sz).mono ?_;rintro e w4 ⟨aH,N,ah,⟨x0,x1,x2⟩,ok,rfl,hbx,aI,aF⟩;(try simp only [ag3]);have aV:=Zh (y.out.sz.own C.out N);have aS:=Zh (y.out.sz.own ae.out N);have aA:=Zh (Znb az.out ah);have aN:=Zh (y.out.call aH N ah);have HE:=Zh (And.intro hbx (And.intro aI aF));clear aH N ah hbx aI aF c0)
    obtain ⟨Y,hY⟩:∃ Y,Y=w4.heap.size:=⟨_,rfl⟩;obtain ⟨w5,U⟩:∃ w5,w5=w4.alloc (.cells #[.int .i64 x0,.int .i64 x1,.int .i64 x2] 45):=⟨_,rfl⟩;have E:Below w4.heap.size w4 w5:=by rw [U];exact bE
    have aX:=Zh (show Blk w5 Y (cl3 x0 x1 x2) 45 by rw [U,hY];exact Blk.new _ _ _);have ak:=Zh (aN.out.old E);have B:=Zh (aV.out.old E);have f:=Zh (aS.out.old E);have aB:=Zh (aA.out.old E);rw [←U,←hY];clear U E hY;cases ok
    ·obtain ⟨r0,r1,r2⟩:=B.out.c3;obtain ⟨f0,f1,f2⟩:=B.out.f3;have rl:=B.out.lt
     go_wp2_with fail
     have hz:=Zrx HH.out ak.out B.out HXs.out ((0,0,0):T3);have z0:=hz.2.c3.1;have z1:=hz.2.c3.2.1;have z2:=hz.2.c3.2.2;exact bodyPost_ret (v:=.tuple #[ag3 ((0,0,0):T3),.bool false]) (by simp [results,Tryz.results152,go_sem,ag3,z0,z1,z2]) rfl (hz.1.val rfl .z (fun e=>by cases e) (fun _=>HNo.out (HE.out.2.2 (by first|rfl|trivial))))
    ·have HX:=Zh (HE.out.2.1 (by first|rfl|trivial));have ac:=Zh z.out.2;obtain ⟨o0,o1,o2⟩:=f.out.c3;obtain ⟨y0,y1,y2⟩:=aX.out.c3;have ol:=f.out.lt
     go_wp2_with (go_at_call 85;refine (Zpf (a0,a1,a2) (x0,x1,x2) _ ac.out HE.out.1).mono ?_;rintro e w8 ⟨rfl,aD⟩;(try simp only [ag3]);have b:=Zh aD;clear aD o0 o1 o2 y0 y1 y2 ol;obtain ⟨o0,o1,o2⟩:=(f.out.old b.out).c3;obtain ⟨g0,g1,g2⟩:=(f.out.old b.out).f3;have ol:=(f.out.old b.out).lt)
     refine ⟨⟨q+1,_,hql,rfl,FrO.set3 HH.out (ak.out.old b.out) (f.out.old b.out) J.out.1 _ _ _,ax.out _ HX.out HE.out.1,?_,Zmx (f.out.old b.out),Zsy (Zsy (Zsy (aB.out.old b.out) A.out _ _) A.out _ _) A.out _ _⟩,by simp [intOf];omega⟩;exact ((((B.out.old b.out).other (fun e=>J.out.2 e.symm) _).other (fun e=>J.out.2 e.symm) _).other (fun e=>J.out.2 e.symm) _)
   ·have aG:¬ (q:Int) < l.length:=by omega
    have ba:q=l.length:=by omega
    subst ba;have aO:=Zh (ar.out _ z.out);have ac:=Zh z.out.2;obtain ⟨o0,o1,o2⟩:=ae.out.c3;obtain ⟨r0,r1,r2⟩:=C.out.c3;obtain ⟨f0,f1,f2⟩:=C.out.f3;have rl:=C.out.lt
    go_wp2_with fail
    have hz:=Zrx HH.out y.out C.out HXs.out (a0,a1,a2);have z0:=hz.2.c3.1;have z1:=hz.2.c3.2.1;have z2:=hz.2.c3.2.2;exact bodyPost_ret (v:=.tuple #[ag3 (a0,a1,a2),.bool true]) (by simp [results,Tryz.results152,go_sem,ag3,z0,z1,z2]) rfl (hz.1.val rfl ac.out (fun _=>aO.out) (fun e=>by cases e))
 have br:(r == 26)=false:=by simpa using q26
 have HN:=Zh (Zsx (m:=m) (T:=ZpR m) (i:=⟨r,ia,ib⟩) ⟨q14,q15,q16,q25,q26⟩);generalize ZpM m (ZpR m) ⟨r,ia,ib⟩=v at HN ⊢;clear g q14 q15 q16 q25 q26;go_enter Tryz.func152,Tryz.ntmps152
 go_upto_region 1 with fail
 rw [←HW.out,←n.out];have i0:=HI.out.cell 0 (v:=.int .i64 r) rfl;obtain ⟨r0,r1,r2⟩:=HR.out.c3;obtain ⟨f0,f1,f2⟩:=HR.out.f3;have rl:=HR.out.lt
 go_wp2_with fail
 have hz:=Zrx HH.out HF0.out HR.out HXs.out ((0,0,0):T3);have z0:=hz.2.c3.1;have z1:=hz.2.c3.2.1;have z2:=hz.2.c3.2.2;exact bodyPost_ret (v:=.tuple #[ag3 ((0,0,0):T3),.bool true]) (by simp [results,Tryz.results152,go_sem,ag3,z0,z1,z2]) rfl (hz.1.val rfl .z (fun _=>HN.out) (fun e=>by cases e))
end
end
section
open Go.RowKit
attribute [local go_sem] World.cell?_alloc_some
theorem Zrz.ups {w w':World}{base:Nat}{ao:Option Addr}{cap:Nat}{zs:List Int} (h:Zrz w base ao cap zs) {S:List Nat} (hu:UpL S w w') (hn:∀ b,ZrA ao=some b→b ∉ S):Zrz w' base ao cap zs:=
 ZhM h fun q a=>hu.block q (h.lt q (by rw [←ZrB ao zs.length cap];exact a)).2 (hn q (by rw [←ZrB ao zs.length cap];exact a))
theorem Zp4.ownL {w:World}{S:Nat}{M:MsL}{h:Hd}{m:Md}{U:List Nat} (H:Zp4 w S M h m U) {base:Nat}{ao:Option Addr}{cap:Nat}{zs:List Int} (ho:Zrz w base ao cap zs):∀ b,ZrA ao=some b→b ∉ M.s:=by
 intro b a q;simp only [MsL.s,List.mem_cons,List.not_mem_nil,or_false] at q;rcases q with q|q|q
 ·exact ho.map H.un.map b a q
 ·obtain ⟨f,h,-⟩:=H.kn;exact ho.map h.map b a q
 ·obtain ⟨f,h,-⟩:=H.mt;exact ho.map h.map b a q
def ZsB (m:Md):List Int × Int:=if okL m then (ZqL m m.cl.length,0) else ([],1)
theorem ZsC (m:Md) (j:Nat):(ZqL m j).length≤j:=by unfold ZqL;rw [List.length_map];exact Nat.le_trans (List.length_filter_le _ _) (by rw [List.length_range];exact Nat.le_refl _)
theorem ZsD (m:Md) (h:Hd) (w:World) (H:Zaz w h m):Calls Tryz.prog 34 #[.agg (HM.mk h m)] w (Zin w (ZsB m).1 (ZsB m).2):=by
 obtain ⟨X,hX⟩:∃ X,X=w.heap.size:=⟨_,rfl⟩;obtain ⟨R,t⟩:∃ R,R=w.alloc (.cells (HM.mk h m) 26):=⟨_,rfl⟩;have HB:=Zh (show Below w.heap.size w R by rw [t];exact bE);have W:=Zh (show Blk R X (HM.mk h m) 26 by rw [t,hX];exact Blk.new _ _ _);have Hj:=Zh (H.old HB.out);have HW:=Zh t;have G:=Zh hX;have aH:=Zh (show w.heap.size≤X by omega);clear hX;have ah:=Zh H;have o:=Zh (ZqU m h R Hj.out);clear t H;by_cases ho:okL m
 ·have hm:=ho.v;have hN:=(Zir hm).1;have HE:=Zh (show ZsB m=(ZqL m m.cl.length,0) from if_pos ho);rw [HE.out];rw [decide_eq_true ho] at o;have am:=Zh (fun B (K:Zaz B h m)=>ZrQ m h B K hm);have ak:=Zh (fun (j:Nat) (hj:j<m.cl.length) S M B (K:Zp4 B S M h m [])=>Zr0 (S:=S) (M:=M) (h:=h) ho hj B K);clear ho hm;go_enter Tryz.func34,Tryz.ntmps34
  go_upto_region 1 with fail
  rw [←HW.out,←G.out];obtain ⟨C,T,U,V⟩:=Zj8 W.out
  go_upto_region 4 with (go_at_call 73;refine o.out.mono ?_;rintro e w1 ⟨rfl,g⟩;(try simp only [ag3]);have b:=Zh g;clear g C T U V)
  have C:=(W.out.old b.out).cell 0 (v:=.slice h.co m.cl.length h.cc) rfl
  go_wp2_with fail
  clear C
  go_loopw [4,14] (fun sl i wr=>∃ (j:Nat) (D:Option Addr) (a:Nat),j≤m.cl.length∧i=.int .i64 j∧sl=.slice D (ZqL m j).length a∧Hid (Zrz wr w.heap.size D a (ZqL m j))∧Hid (Below w.heap.size w wr)∧Hid (Blk wr X (HM.mk h m) 26)) (fun _ i _=>m.cl.length-(intOf i).toNat)
  case atStart=>exact ⟨0,none,0,Nat.zero_le _,rfl,rfl,Zrz.nil _ _,Zag HB.out b.out,W.out.old b.out⟩
  case round=>
   obtain ⟨j,D,a,hj,rfl,rfl,y,n,I⟩:=hrel;rename World=>wo;by_cases hjl:j<m.cl.length
   ·have O:(j:Int) < m.cl.length:=by omega
    have aI:IntKind.i64.wrap ((j:Int)+1)=((j+1:Nat):Int):=IntWalk.i64_in _ (by omega);have al:=Zh (fun S M B K=>ak.out j hjl S M B K);have u:=Zh (ZqM m j);have E:=Zh (show (ZqL m j).length≤1000000 by have:=ZsC m j;omega);generalize ZqL m j=cs at y u E;obtain ⟨C,T,U,V⟩:=Zj8 I.out
    go_upto_region 8 with (first
     | (go_at_call 76;refine (am.out _ (ah.out.old n.out)).mono ?_;rintro e w3 ⟨S,M,rfl,Q,r,au,L⟩;(try simp only [ag3]);have z:=Zh Q;have ac:=Zh (Zag n.out r);have F:=Zh (y.out.old r);have an:=Zh (I.out.old r);have ag:=Zh (show ∀ x∈M.s,w.heap.size≤x from fun x hx=>Nat.le_trans n.out.size (L x hx));clear Q r au L C T U V)
     | (go_at_call 90;refine (al.out S M _ z.out).mono ?_;rintro e l ⟨aA,s,ay,⟨Y,Z,y2⟩,ok,rfl,aw,hy,hn⟩;(try simp only [ag3]);have ap:=Zh (z.out.own an.out s);have ai:=Zh (F.out.ups s (z.out.ownL F.out));have ad:=Zh (s.below ac.out (Nat.le_refl _) ag.out);have HY:=Zh (And.intro hy hn);clear aA s ay aw hy hn))
    have f:=Zh (ai.out.old (show Below l.heap.size l (l.alloc (.cells #[.int .i64 Y,.int .i64 Z,.int .i64 y2] 45)) by exact bE));have q:=Zh (ap.out.old (show Below l.heap.size l (l.alloc (.cells #[.int .i64 Y,.int .i64 Z,.int .i64 y2] 45)) by exact bE));have c:=Zh (Zag ad.out (show Below l.heap.size l (l.alloc (.cells #[.int .i64 Y,.int .i64 Z,.int .i64 y2] 45)) by exact bE));cases ok
    ·have d:=Zh (show ZqL m (j+1)=cs++[(j:Int)] from by rw [u.out,(HY.out.2 (by first|rfl|trivial)).nil];rfl);generalize (l.alloc (.cells #[.int .i64 Y,.int .i64 Z,.int .i64 y2] 45))=w5 at f q c ⊢
     go_wp2_with (at_builtin;refine ZrC rfl _ _ rfl w.heap.size D a cs rfl (f.out.old bE) _ (j:Int) rfl (ZrP (Blk.new' _ _ rfl)) E.out (by have:=c.out.size;simp;omega) ?_;intro ar J w6 P A N;have aj:=Zh P;have ae:=Zh ((Zag c.out (show Below w5.heap.size w5 (w5.alloc (.cells #[.int .i64 j] 3)) by exact bE)).grown A (by have:=c.out.size;simp;omega) fun k e=>(f.out.lt k e).1);have aq:=Zh (ZrO (q.out.alloc _) A ((f.out.old (show Below w5.heap.size w5 (w5.alloc (.cells #[.int .i64 j] 3)) by exact bE)).ne_blk (q.out.alloc _) (by decide)));clear P A N)
     exact ⟨⟨j+1,ar,J,hjl,rfl,by rw [d.out,List.length_append];rfl,(by show Zrz _ _ _ _ (ZqL m (j+1));rw [d.out];exact aj.out),ae.out,aq.out⟩,by simp [intOf];omega⟩
    ·have d:=Zh (show ZqL m (j+1)=cs from by rw [u.out,HY.out.1 (by first|rfl|trivial)];simp)
     go_wp2_with fail
     exact ⟨⟨j+1,D,a,hjl,rfl,by rw [d.out],(by show Zrz _ _ _ _ (ZqL m (j+1));rw [d.out];exact f.out),c.out,q.out⟩,by simp [intOf];omega⟩
   ·have O:¬ (j:Int) < m.cl.length:=by omega
    have ax:j=m.cl.length:=by omega
    subst ax
    go_wp2_with fail
    go_ret2;exact ⟨⟨D,a,rfl,y.out.row⟩,n.out⟩
 ·have HE:=Zh (show ZsB m=([],1) from if_neg ho);rw [HE.out];rw [decide_eq_false ho] at o;clear ho;go_enter Tryz.func34,Tryz.ntmps34
  go_upto_region 1 with fail
  rw [←HW.out,←G.out];obtain ⟨C,T,U,V⟩:=Zj8 W.out
  go_wp2_with (go_at_call 73;refine o.out.mono ?_;rintro e w1 ⟨rfl,g⟩;(try simp only [ag3]);have b:=Zh g;clear g C T U V)
  go_ret2;exact ⟨⟨none,0,rfl,Zas.nil _⟩,Zag HB.out b.out⟩
end
