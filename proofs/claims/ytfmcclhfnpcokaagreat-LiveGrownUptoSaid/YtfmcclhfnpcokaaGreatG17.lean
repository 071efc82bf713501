import Derived.Test.YtfmcclhfnpcokaaGreatG13
set_option linter.all false
set_option maxRecDepth 100000
set_option maxHeartbeats 4000000
namespace Go.Proofs.YtfmcclhfnpcokaaGreat
theorem k21{p:Prop}(h:p:=by
 have HB1:=Zh hb1;clear hW1 hb1 hX hwt
 go_wp2_with (go_at_call 191;refine HEq.out.mono ?_;rintro r w3 ⟨⟨v,rfl⟩,hc3,hu3⟩;have HC3:=Zh hc3;have HU3:=Zh hu3;clear hc3 hu3)
 have k6:=HC3.out.cells.2.2.2.2.2.2.2.1;have f6:w3.frozen? ⟨K,6,none⟩=false:=Blk.frozen HC3.out 6;have hlo3:¬ ((oc:Int) < (n:Int)):=by omega
 refine rE (fun w':World=>w'.cell? ⟨K,6,none⟩=some (.slice (some ad) ln oc)) 14 (oL [0,1,2,3,4,5,6,7,8,9,10,11,112,113]) k6 ?_
 repeat refine pE ?_
 refine oE fun Kv hK=>?_;go_simp;refine hK _ _ ⟨k6,?_⟩;clear hK Kv;refine oE fun Kv hK=>?_;go_simp;refine hK _ _ ⟨k6,?_⟩;clear hK Kv;refine sE fun Kv hK=>?_;go_simp;refine hK _ _ ?_;clear hK Kv;go_wp2;go_end0;exact HEE.out _ ((Upd.of HB1.out).trans HU3.out).drew (Ck.drew HC3.out) _):p:=h
theorem k27{p:Prop}(h:p:=by
 have hba:(⟨g,0,none⟩:Addr).add (br.length*4)=⟨g,br.length*4,none⟩:=by
  unfold Addr.add;split
  ·rename_i q;rw [q]
  ·simp
 have hlen:=h.1;rw [List.length_append,hf] at hlen;have hl4:(Cells.cells b).length=4:=rfl;have hn:n=br.length+1:=by omega
 have hc:∀ j,j<4→w.cell? ⟨g,br.length*4+j,none⟩=(Cells.cells b)[j]?:=fun j hj=>by rw [h.cellAt (br.length*4+j) (by omega),List.getElem?_append_right (by omega),hf];congr 1;omega
 refine ⟨_,rfl,hba,?_,?_,?_,?_,fun j=>h.frozenAt j⟩
 ·rw [hba];exact hc 0 (by omega)
 ·rw [hba];exact hc 1 (by omega)
 ·rw [hba];exact hc 2 (by omega)
 ·rw [hba];exact hc 3 (by omega)):p:=h
theorem k40{p:Prop}(h:p:=by
 repeat refine pO ?_
 refine oO fun Kv hK=>?_;go_simp;refine HD.out.mono ?_;rintro r w4 ⟨⟨v4,rfl⟩,hu4,hd4⟩;have HU4:=Zh ((Upd.refl K K W2).drew.trans hu4);have HD4:=Zh hd4;refine hK _ _ ⟨HS.out _ HU4.out,?_⟩;clear hK Kv hu4 hd4;refine Zd7 ?_;go_wp2;go_end0;exact ⟨⟨_,rfl⟩,HU2.out.trans HU4.out,HD4.out⟩):p:=h
theorem k48{p:Prop}(h:p:=by
 have h1:=(H.at_ j (by rw [hb];simp;omega)).upd hu hK hB;rw [hs,hb] at h1;rwa [show (br++[b]).getD j default=br.getD j default by simp [List.getElem?_append_left hj],show (r++[o]).getD j default=r.getD j default by simp [List.getElem?_append_left (show j<r.length by omega)]] at h1):p:=h
theorem k52{p:Prop}(h:p:=by
 have hl:=H.op.len;rw [hs] at hl;simp only [List.length_append,List.length_cons,List.length_nil] at hl;have hne:bs≠[]:=by intro h;rw [h] at hl;simp at hl
 refine ⟨bs.dropLast,bs.getLast hne,(List.dropLast_concat_getLast hne).symm,by simp;omega⟩):p:=h
theorem k59{p:Prop}(h:p:=by
 have hM:=Hj.old (hu.below H.hb (Nat.le_refl _) H.hK H.hK);obtain ⟨ad,h1,-,-,h2,-,h3,h4,-⟩:=hM.mth hj;have h5:=hM.p j hj;rw [heo] at h1;cases h1;rw [←hma,←hx] at h2 h3 h4;rw [←hx] at h5;exact ⟨h2,h3,h4,h5⟩):p:=h
theorem k64{p:Prop}(h:p:=by
 refine ⟨g,rfl,H.ne _ rfl,hbb,(Array.getElem?_eq_some_iff.1 hg).1,hnt,hle,?_⟩;have h2:=hown;rw [show Zal bs=Zal br++Cells.cells b by rw [hb,Zao,Zap]] at h2;exact h2):p:=h
theorem k74{p:Prop}(h:p:=by
 have h1:=HWt.out;rw [←HMi.out] at h1;simpa using h1):p:=h
section
open Go.RowKit
theorem ZjX (r:Ty):(ZhB r).length=if r.k=0 then 0 else 1:=by unfold ZhB;split<;>rfl
section
variable {w0 w:World}{K:Nat}{h:Hd}{m:Md}{lo:Option Addr}{lc:Nat}{ls:List Ty}{s:Ps}{so:Option Addr}{sc:Nat}{oo:Option Addr}{oc:Nat}{bs:List VB}{i:In3}(hm:Za2 m=true)(HW:Zfl m s.stk)(H:St w0 w K h m lo lc ls s so sc oo oc bs)(Hj:Zaz w0 h m)(hd:s.opn.length≤6){j:Nat}(hj:j<m.me.length){ea:Addr}(heo:h.eo=some ea)
include w0 w K h m lo lc ls s so sc oo oc bs i hm HW H Hj hd j hj ea heo
theorem ZjY (ar:i.op=25) (ap:j=i.a.toNat):
  Calls Tryz.prog 266 #[ZQ.p K,.pointer (some (ea.add (j*7))),.int .i64 (-1)] w (ZhV w K h m lo lc ls oo oc bs (ZhS m ls i s)):=by
 obtain ⟨x,hx⟩:∃ x,x=m.me.getD j default:=⟨_,rfl⟩;obtain ⟨g,hma⟩:∃ a,a=ea.add (j*7):=⟨_,rfl⟩;have Z:=ZfQ hm hj;rw [←hma];have aM:x.p.length≤4:=by rw [hx];exact Z.z.1
 have av:∀ t∈x.p,Zfk m t:=by rw [hx];exact Z.p
 have Y:∀ e,Upd K K w e→e.cell? ⟨g.block,g.off+2,none⟩=some (.slice (h.e j).po x.p.length (h.e j).pc)∧e.cell? ⟨g.block,g.off+4,none⟩=some (.int .i64 x.r.k)∧e.cell? ⟨g.block,g.off+5,none⟩=some (.int .i64 x.r.c)∧Zas e (h.e j).po (h.e j).pc x.p:=fun e hu=>by exact k59
 have am:∀ e,Upd K K w e→Zaz e h m:=fun e hu=>Hj.old (hu.below H.hb (Nat.le_refl _) H.hK H.hK);have kl:=Blk.lt H.ck;obtain ⟨y,q⟩:∃ y,y=((((w.alloc (.cells #[ZQ.p K] 163)).alloc (.cells #[.pointer (some g)] 167)).alloc (.cells #[.int .i64 (-1)] 3)).alloc (.cells #[.int .i64 0] 3)):=⟨_,rfl⟩;have G:Below w.heap.size w y:=by rw [q];exact bE
 have bf:y.heap.size=w.heap.size+4:=by rw [q];simp
 have b0:Blk y w.heap.size #[ZQ.p K] 163:=by rw [q];exact (((Blk.new w _ _).alloc _).alloc _).alloc _
 have b1:Blk y (w.heap.size+1) #[.pointer (some g)] 167:=by rw [q];exact ((Blk.new' (w:=w.alloc (.cells #[ZQ.p K] 163)) _ _ (by simp)).alloc _).alloc _
 have b2:Blk y (w.heap.size+2) #[.int .i64 (-1)] 3:=by rw [q];exact (Blk.new' (w:=(w.alloc (.cells #[ZQ.p K] 163)).alloc (.cells #[.pointer (some g)] 167)) _ _ (by simp)).alloc _
 have b3:Blk y (w.heap.size+3) #[.int .i64 0] 3:=by rw [q];exact Blk.new' (w:=((w.alloc (.cells #[ZQ.p K] 163)).alloc (.cells #[.pointer (some g)] 167)).alloc (.cells #[.int .i64 (-1)] 3)) _ _ (by simp)
 have T:=Zh (And.intro b0 (And.intro b1 (And.intro b2 b3)));have m1:=(Y y (Upd.of G));obtain ⟨m2,m4,m5,-⟩:=m1;have V:=Zh Y;have aA:=Zh am;have HH:=Zh (H.old G);have U:=Zh G;have HX:=Zh hx;have aD:=Zh q;have aB:=Zh av;have a7:=Zh H.ck.noTy;have ak:=Zh HW;have c1:=b1.cell 0 (v:=.pointer (some g)) rfl;have c2:=b2.cell 0 (v:=.int .i64 (-1)) rfl;obtain ⟨rk,ac⟩:∃ k,k=x.r.k:=⟨_,rfl⟩;obtain ⟨rq,ae⟩:∃ k,k=x.r.c:=⟨_,rfl⟩;have aw:x.r=⟨rk,rq⟩:=by rw [ac,ae]
 rw [←ac] at m4;rw [←ae] at m5;have HR:=Zh aw;obtain ⟨np,aa⟩:∃ n,n=x.p.length:=⟨_,rfl⟩;rw [←aa] at m2;have HN:=Zh aa;have aW:np≤4:=by omega
 obtain ⟨tk,J⟩:∃ t,t=np:=⟨_,rfl⟩;have F:=Zh J;clear J;clear hx Z Y am H Hj HW G q av b0 b1 b2 b3 hma ac ae aw aa aM;go_enter Tryz.func266,Tryz.ntmps266
 go_upto_region 4 with fail
 rw [←aD.out]
 go_wp2_with (go_at_call 132;refine (ZhC ⟨rk,rq⟩ _).mono ?_;rintro r C ⟨R,O,rfl,I,-,ao⟩;have aC:=Zh I;have D:=Zh ao;clear I ao)
 obtain ⟨N,ab⟩:∃ n,n=(ZhB (⟨rk,rq⟩:Ty)).length:=⟨_,rfl⟩;rw [←ab];have E:=Zh ab;clear ab m2 m4 m5 c1 c2;have b4:=Blk.new C #[.slice R N O] 23;have X:Below y.heap.size y (C.alloc (.cells #[.slice R N O] 23)):=bal D.out _;have bg:=D.out.size;obtain ⟨W2,W⟩:∃ W2,W2=C.alloc (.cells #[.slice R N O] 23):=⟨_,rfl⟩;rw [←W] at b4 X ⊢;have al:=Zh (show ZeR W2 R O (ZhB ⟨rk,rq⟩) from by
  have h0:=aC.out;rw [W];exact h0.upd (K:=K) (B:=K) (Upd.of bE) ⟨by have:=U.out.size;omega,fun xs z hx=>by
   have hk:=(Ck.old HH.out.ck D.out);rw [show C.heap[K]?=_ from hk] at hx;cases hx⟩ ⟨by have:=U.out.size;omega,fun xs z hx=>by
   have hk:=(Ck.old HH.out.ck D.out);rw [show C.heap[K]?=_ from hk] at hx;cases hx⟩)
 have f:=Zh X;have az:=Zh b4;have an:=(Upd.of (K:=K) (B:=K) U.out).bel f.out;have HU2:=Zh an;have s0:=(T.out.1.old f.out).cell 0 (v:=.pointer (some ⟨K,0,none⟩)) rfl;have s1:=(T.out.2.1.old f.out).cell 0 (v:=.pointer (some g)) rfl;have s3:=(T.out.2.2.2.old f.out).cell 0 (v:=.int .i64 0) rfl;have s4:=b4.cell 0 (v:=.slice R N O) rfl;have hS:∀ e,Upd K K W2 e→(fun e:World=>e.cell? ⟨w.heap.size,0,none⟩=some (.pointer (some ⟨K,0,none⟩))∧e.cell? ⟨w.heap.size+1,0,none⟩=some (.pointer (some g))∧e.cell? ⟨w.heap.size+3,0,none⟩=some (.int .i64 0)∧e.cell? ⟨C.heap.size,0,none⟩=some (.slice R N O)∧e.cell? ⟨g.block,g.off+2,none⟩=some (.slice (h.e j).po np (h.e j).pc)) e:=fun e hu=>⟨hu.cell s0 (by show w.heap.size≠K;omega) (by show w.heap.size≠K;omega),hu.cell s1 (by show w.heap.size+1≠K;omega) (by show w.heap.size+1≠K;omega),hu.cell s3 (by show w.heap.size+3≠K;omega) (by show w.heap.size+3≠K;omega),hu.cell s4 (by show C.heap.size≠K;omega) (by show C.heap.size≠K;omega),by rw [HN.out];exact (V.out _ (HU2.out.trans hu)).1⟩;have HS:=Zh hS;have HD:=Zh (show Calls Tryz.prog 185 #[ZQ.p K,.int .i64 tk,.int .i64 N,.func (Fn.func 306) #[] #[.pointer (some ⟨w.heap.size+2,0,none⟩),.pointer (some ⟨w.heap.size,0,none⟩),.pointer (some ⟨w.heap.size+1,0,none⟩),.pointer (some ⟨w.heap.size+3,0,none⟩),.pointer (some ⟨C.heap.size,0,none⟩)]] W2.drew (ZhV W2.drew K h m lo lc ls oo oc bs (ZhS m ls i s)) from
  Zh1 ak.out ((HH.out.old f.out).old bE) hd tk N 306 _ (by rw [Zgn ar,←ap,←HX.out,←HN.out,E.out,ZjX,←HR.out,F.out]) (by have:=F.out;omega) (by rw [E.out];have:=ZiX ⟨rk,rq⟩;omega) (fun _ _=>rfl) (fun l hl aI w3 aP tc hu aH au=>by
   have u:Upd K K W2 w3:=(Upd.refl K K W2).drew.trans hu;have af:=HU2.out.trans u;have aK:∀ t∈l,Zfk m t:=fun t ht=>ak.out.2 t (List.mem_of_mem_drop (by rw [aI];exact ht));have aN:=(T.out.2.2.1.old f.out).upd u (by omega) (by omega);have aG:=(T.out.1.old f.out).upd u (by omega) (by omega);have aL:=(T.out.2.1.old f.out).upd u (by omega) (by omega);have aO:=(T.out.2.2.2.old f.out).upd u (by omega) (by omega);have aq:=az.out.upd u (by omega) (by omega);have I:=al.out.upd u (Ck.noTy (HH.out.ck.old f.out)) (Ck.noTy (HH.out.ck.old f.out));rw [E.out] at aq;have M:l.length=0+x.p.length:=by rw [hl];have:=F.out;have:=HN.out;omega
   have A:=au;rw [←hl] at A ⊢;refine (Zix K h m _ _ _ l x.p (h.e j).po (h.e j).pc g (-1) 0 R O (ZhB ⟨rk,rq⟩) (w.heap.size+2) w.heap.size (w.heap.size+1) (w.heap.size+3) C.heap.size aP tc _ w3 aH (fun e L=>aA.out e (af.trans L)) aN aG aL aO aq I (fun e L=>⟨(V.out e (af.trans L)).1,(V.out e (af.trans L)).2.2.2⟩) A M (by have:=HN.out;omega) (by decide) (by decide)).mono ?_;exact fun r w2 hp=>hp.imp fun bi e' hq=>by obtain ⟨h1,h2⟩:=hq;rw [h1,h2,E.out,ZjX];have hr:=ZiZ (ls:=ls) hm ar (x:=x) (by rw [HX.out,ap]) (by rw [M,Nat.zero_add]) aK aB.out;rw [HR.out] at hr;exact hr))
 clear b4 X W an s0 s1 s3 s4 hS;have J:=F.out.symm;subst J;have be:IntKind.i64.wrap ((np:Nat):Int)=((np:Nat):Int):=IntWalk.i64_in _ (by omega);refine rO (fun e:World=>e.cell? ⟨w.heap.size,0,none⟩=some (.pointer (some ⟨K,0,none⟩))∧e.cell? ⟨w.heap.size+1,0,none⟩=some (.pointer (some g))∧e.cell? ⟨w.heap.size+3,0,none⟩=some (.int .i64 0)∧e.cell? ⟨C.heap.size,0,none⟩=some (.slice R N O)∧e.cell? ⟨g.block,g.off+2,none⟩=some (.slice (h.e j).po np (h.e j).pc)) (oL [0,1,2,3,4,5,6,7,8,9,10,111]) (HS.out _ (Upd.refl K K W2).drew) ?_;exact k40
theorem ZjZ (aA:i.op=26) {M:Nat} (aT:i.a=M) (V:Zey m i=some (m.me.getD j default)) (aZ:∀ c:Int,0≤c→c<m.cl.length→M<(m.cl.getD c.toNat default).m.length) (bn:M≤1000):
  Calls Tryz.prog 266 #[ZQ.p K,.pointer (some (ea.add (j*7))),.int .i64 M] w (ZhV w K h m lo lc ls oo oc bs (ZhS m ls i s)):=by
 obtain ⟨x,hx⟩:∃ x,x=m.me.getD j default:=⟨_,rfl⟩;obtain ⟨g,hma⟩:∃ a,a=ea.add (j*7):=⟨_,rfl⟩;have ae:=ZfQ hm hj;rw [←hma];have aW:x.p.length≤4:=by rw [hx];exact ae.z.1
 have aC:∀ t∈x.p,Zfk m t:=by rw [hx];exact ae.p
 have ac:∀ e,Upd K K w e→e.cell? ⟨g.block,g.off+2,none⟩=some (.slice (h.e j).po x.p.length (h.e j).pc)∧e.cell? ⟨g.block,g.off+4,none⟩=some (.int .i64 x.r.k)∧e.cell? ⟨g.block,g.off+5,none⟩=some (.int .i64 x.r.c)∧Zas e (h.e j).po (h.e j).pc x.p:=fun e hu=>by exact k59
 have ar:∀ e,Upd K K w e→Zaz e h m:=fun e hu=>Hj.old (hu.below H.hb (Nat.le_refl _) H.hK H.hK);have kl:=Blk.lt H.ck;obtain ⟨I,u⟩:∃ I,I=((((w.alloc (.cells #[ZQ.p K] 163)).alloc (.cells #[.pointer (some g)] 167)).alloc (.cells #[.int .i64 M] 3)).alloc (.cells #[.int .i64 1] 3)):=⟨_,rfl⟩;have O:Below w.heap.size w I:=by rw [u];exact bE
 have bq:I.heap.size=w.heap.size+4:=by rw [u];simp
 have b0:Blk I w.heap.size #[ZQ.p K] 163:=by rw [u];exact (((Blk.new w _ _).alloc _).alloc _).alloc _
 have b1:Blk I (w.heap.size+1) #[.pointer (some g)] 167:=by rw [u];exact ((Blk.new' (w:=w.alloc (.cells #[ZQ.p K] 163)) _ _ (by simp)).alloc _).alloc _
 have b2:Blk I (w.heap.size+2) #[.int .i64 M] 3:=by rw [u];exact (Blk.new' (w:=(w.alloc (.cells #[ZQ.p K] 163)).alloc (.cells #[.pointer (some g)] 167)) _ _ (by simp)).alloc _
 have b3:Blk I (w.heap.size+3) #[.int .i64 1] 3:=by rw [u];exact Blk.new' (w:=((w.alloc (.cells #[ZQ.p K] 163)).alloc (.cells #[.pointer (some g)] 167)).alloc (.cells #[.int .i64 M] 3)) _ _ (by simp)
 have Y:=Zh (And.intro b0 (And.intro b1 (And.intro b2 b3)));have m1:=(ac I (Upd.of O));obtain ⟨m2,m4,m5,-⟩:=m1;have E:=Zh ac;have an:=Zh ar;have HH:=Zh (H.old O);have Z:=Zh O;have HX:=Zh hx;have aP:=Zh u;have aN:=Zh aC;have bi:=Zh H.ck.noTy;have ao:=Zh HW;have c1:=b1.cell 0 (v:=.pointer (some g)) rfl;have c2:=b2.cell 0 (v:=.int .i64 M) rfl;obtain ⟨rk,ai⟩:∃ k,k=x.r.k:=⟨_,rfl⟩;obtain ⟨rq,aj⟩:∃ k,k=x.r.c:=⟨_,rfl⟩;have aH:x.r=⟨rk,rq⟩:=by rw [ai,aj]
 rw [←ai] at m4;rw [←aj] at m5;have HR:=Zh aH;obtain ⟨np,af⟩:∃ n,n=x.p.length:=⟨_,rfl⟩;rw [←af] at m2;have HN:=Zh af;have a8:np≤4:=by omega
 obtain ⟨tk,aF⟩:∃ t,t=np+1:=⟨_,rfl⟩;have G:=Zh aF;clear aF;clear hx ae ac ar H Hj HW O u aC b0 b1 b2 b3 hma ai aj aH af aW;go_enter Tryz.func266,Tryz.ntmps266
 go_upto_region 4 with fail
 rw [←aP.out]
 go_wp2_with (go_at_call 132;refine (ZhC ⟨rk,rq⟩ _).mono ?_;rintro r D ⟨U,T,rfl,L,-,av⟩;have aO:=Zh L;have N:=Zh av;clear L av)
 obtain ⟨X,ag⟩:∃ n,n=(ZhB (⟨rk,rq⟩:Ty)).length:=⟨_,rfl⟩;rw [←ag];have F:=Zh ag;clear ag m2 m4 m5 c1 c2;have b4:=Blk.new D #[.slice U X T] 23;have ab:Below I.heap.size I (D.alloc (.cells #[.slice U X T] 23)):=bal N.out _;have bt:=N.out.size;obtain ⟨W2,aa⟩:∃ W2,W2=D.alloc (.cells #[.slice U X T] 23):=⟨_,rfl⟩;rw [←aa] at b4 ab ⊢;have aq:=Zh (show ZeR W2 U T (ZhB ⟨rk,rq⟩) from by
  have h0:=aO.out;rw [aa];exact h0.upd (K:=K) (B:=K) (Upd.of bE) ⟨by have:=Z.out.size;omega,fun xs z hx=>by
   have W:=(Ck.old HH.out.ck N.out);rw [show D.heap[K]?=_ from W] at hx;cases hx⟩ ⟨by have:=Z.out.size;omega,fun xs z hx=>by
   have W:=(Ck.old HH.out.ck N.out);rw [show D.heap[K]?=_ from W] at hx;cases hx⟩)
 have f:=Zh ab;have aM:=Zh b4;have au:=(Upd.of (K:=K) (B:=K) Z.out).bel f.out;have HU2:=Zh au;have s0:=(Y.out.1.old f.out).cell 0 (v:=.pointer (some ⟨K,0,none⟩)) rfl;have s1:=(Y.out.2.1.old f.out).cell 0 (v:=.pointer (some g)) rfl;have s3:=(Y.out.2.2.2.old f.out).cell 0 (v:=.int .i64 1) rfl;have s4:=b4.cell 0 (v:=.slice U X T) rfl;have hS:∀ e,Upd K K W2 e→(fun e:World=>e.cell? ⟨w.heap.size,0,none⟩=some (.pointer (some ⟨K,0,none⟩))∧e.cell? ⟨w.heap.size+1,0,none⟩=some (.pointer (some g))∧e.cell? ⟨w.heap.size+3,0,none⟩=some (.int .i64 1)∧e.cell? ⟨D.heap.size,0,none⟩=some (.slice U X T)∧e.cell? ⟨g.block,g.off+2,none⟩=some (.slice (h.e j).po np (h.e j).pc)) e:=fun e hu=>⟨hu.cell s0 (by show w.heap.size≠K;omega) (by show w.heap.size≠K;omega),hu.cell s1 (by show w.heap.size+1≠K;omega) (by show w.heap.size+1≠K;omega),hu.cell s3 (by show w.heap.size+3≠K;omega) (by show w.heap.size+3≠K;omega),hu.cell s4 (by show D.heap.size≠K;omega) (by show D.heap.size≠K;omega),by rw [HN.out];exact (E.out _ (HU2.out.trans hu)).1⟩;have HS:=Zh hS;have HD:=Zh (show Calls Tryz.prog 185 #[ZQ.p K,.int .i64 tk,.int .i64 X,.func (Fn.func 306) #[] #[.pointer (some ⟨w.heap.size+2,0,none⟩),.pointer (some ⟨w.heap.size,0,none⟩),.pointer (some ⟨w.heap.size+1,0,none⟩),.pointer (some ⟨w.heap.size+3,0,none⟩),.pointer (some ⟨D.heap.size,0,none⟩)]] W2.drew (ZhV W2.drew K h m lo lc ls oo oc bs (ZhS m ls i s)) from
  Zh1 ao.out ((HH.out.old f.out).old bE) hd tk X 306 _ (by rw [Zgo aA,V,←HX.out];show (x.p.length+1,if x.r.k=0 then 0 else 1)=_;rw [G.out,HN.out,F.out,ZjX,←HR.out]) (by have:=G.out;omega) (by rw [F.out];have:=ZiX ⟨rk,rq⟩;omega) (fun _ _=>rfl) (fun l hl aS w3 aK tc hu ax aB=>by
   have A:Upd K K W2 w3:=(Upd.refl K K W2).drew.trans hu;have C:=HU2.out.trans A;have ay:∀ t∈l,Zfk m t:=fun t ht=>ao.out.2 t (List.mem_of_mem_drop (by rw [aS];exact ht));have aD:=(Y.out.2.2.1.old f.out).upd A (by omega) (by omega);have aw:=(Y.out.1.old f.out).upd A (by omega) (by omega);have az:=(Y.out.2.1.old f.out).upd A (by omega) (by omega);have aG:=(Y.out.2.2.2.old f.out).upd A (by omega) (by omega);have ah:=aM.out.upd A (by omega) (by omega);have L:=aq.out.upd A (Ck.noTy (HH.out.ck.old f.out)) (Ck.noTy (HH.out.ck.old f.out));rw [F.out] at ah;have J:l.length=1+x.p.length:=by rw [hl];have:=G.out;have:=HN.out;omega
   have y:=aB;rw [←hl] at y ⊢;have hr:=fun (e0:Int) he=>Zi0 (ls:=ls) (e0:=e0) hm aA (x:=x) (by rw [HX.out];exact V) J ay aN.out he;rw [HR.out] at hr;have aE:i.a.toNat=M:=by rw [aT];exact Int.toNat_natCast _
   by_cases W:(l.getD 0 default).k=2
   ·have R:=ZfH (ay _ (ZfX _ (by omega))) (.inl W);have aU:=aZ _ R.1 R.2;refine (Ziz K h m _ _ _ l x.p (h.e j).po (h.e j).pc g M 1 U T (ZhB ⟨rk,rq⟩) (w.heap.size+2) w.heap.size (w.heap.size+1) (w.heap.size+3) D.heap.size aK tc _ w3 ax (fun e q=>an.out e (C.trans q)) aD aw az aG ah L (fun e q=>⟨(E.out e (C.trans q)).1,(E.out e (C.trans q)).2.2.2⟩) y J (by have:=HN.out;omega) (by decide) (by omega) rfl W ⟨R.1,R.2,by rw [Int.toNat_natCast];exact aU⟩).mono ?_;exact fun r w2 hp=>hp.imp fun a0 e' hq=>by obtain ⟨h1,h2⟩:=hq;rw [h1,h2,F.out,ZjX];exact hr _ (by rw [ZiB,aE,Int.toNat_natCast])
   ·refine (Ziy K h m _ _ _ l x.p (h.e j).po (h.e j).pc g M 1 U T (ZhB ⟨rk,rq⟩) (w.heap.size+2) w.heap.size (w.heap.size+1) (w.heap.size+3) D.heap.size aK tc _ w3 ax (fun e q=>an.out e (C.trans q)) aD aw az aG ah L (fun e q=>⟨(E.out e (C.trans q)).1,(E.out e (C.trans q)).2.2.2⟩) y J (by have:=HN.out;omega) (by decide) (by omega) rfl W).mono ?_;exact fun r w2 hp=>hp.imp fun a0 e' hq=>by obtain ⟨h1,h2⟩:=hq;rw [h1,h2,F.out,ZjX];exact hr _ (by rw [decide_eq_false W];rfl)))
 clear b4 ab aa au s0 s1 s3 s4 hS;have a9:(1:Int)+(np:Int)=(tk:Int):=by have:=G.out;omega
 have bp:IntKind.i64.wrap ((tk:Nat):Int)=((tk:Nat):Int):=IntWalk.i64_in _ (by have:=G.out;omega);refine rO (fun e:World=>e.cell? ⟨w.heap.size,0,none⟩=some (.pointer (some ⟨K,0,none⟩))∧e.cell? ⟨w.heap.size+1,0,none⟩=some (.pointer (some g))∧e.cell? ⟨w.heap.size+3,0,none⟩=some (.int .i64 1)∧e.cell? ⟨D.heap.size,0,none⟩=some (.slice U X T)∧e.cell? ⟨g.block,g.off+2,none⟩=some (.slice (h.e j).po np (h.e j).pc)) (oL [0,1,2,3,4,5,6,7,8,9,10,111]) (HS.out _ (Upd.refl K K W2).drew) ?_;exact k40
end
end
section
open Go.RowKit
theorem Zj0 {w:World}{base:Nat}{e:TypeId}{size g cap n:Nat}{p:List Value} (h:w.ownsRow base e size (.slice (some ⟨g,0,none⟩) n cap) n p) {m:Nat} (hm:m≤n):w.ownsRow base e size (.slice (some ⟨g,0,none⟩) m cap) m (p.take (m*size)):=by
 obtain ⟨t,u⟩:=h;have d:m*size≤n*size:=Nat.mul_le_mul_right _ hm;rcases u with ⟨q,_⟩|⟨z,l,f,y,v,x,A,c,k,a⟩
 ·cases q
 ·cases y;refine ⟨by rw [List.length_take,t];exact Nat.min_eq_left d,.inr ⟨g,cap,f,rfl,v,x,by omega,c,k,?_⟩⟩;rw [←a,List.take_take,Nat.min_eq_left d]
theorem Upd.setB {K B:Nat}{a b:World} (h:Upd K B a b) (j:Nat) (v:Value):Upd K B a (b.setCell ⟨B,j,none⟩ v):=
 h.trans ⟨rfl,rfl,rfl,by simp [World.setCell],fun k _ _ c=>Below.heap_setCell _ _ _ _ c⟩
section
variable {w0 w:World}{K:Nat}{h:Hd}{m:Md}{lo:Option Addr}{lc:Nat}{ls:List Ty}{s:Ps}{so:Option Addr}{sc:Nat}{oo:Option Addr}{oc:Nat}{bs:List VB}{i:In3}{r:List Opn}{o:Opn}{br:List VB}{b:VB}
theorem St.last (H:St w0 w K h m lo lc ls s so sc oo oc bs) (hs:s.opn=r++[o]):∃ br b,bs=br++[b]∧br.length=r.length:=by exact k52
theorem St.top (H:St w0 w K h m lo lc ls s so sc oo oc bs) (hs:s.opn=r++[o]) (hb:bs=br++[b]) (hl:br.length=r.length):ZhJ w b o∧∃ g,oo=some ⟨g,0,none⟩∧g≠K∧w0.heap.size≤g∧g<w.heap.size∧ZeS w g∧bs.length≤oc∧w.ownsRow w0.heap.size 232 4 (.slice (some ⟨g,0,none⟩) bs.length oc) bs.length (Zal br++Cells.cells b):=by
 have a:=H.op.at_ br.length (by rw [hb];simp);rw [hs,hb] at a;rw [show (br++[b]).getD br.length default=b by simp,hl,show (r++[o]).getD r.length default=o by simp] at a;refine ⟨a,?_⟩;have hown:=H.op.own;rcases hown.2 with ⟨_,d⟩|⟨g,c,e,f,hbb,hg,hle,_⟩
 ·rw [hb] at d;simp at d
 ·cases f;have hnt:=H.op.noTy H.ck.noTy;exact k64
theorem ZhJ.of_upd {w':World}{B:Nat} (H:ZhK w w0.heap.size oo oc bs s.opn) (hu:Upd K B w w') (hK:ZeS w K) (hB:ZeS w B) (hs:s.opn=r++[o]) (hb:bs=br++[b]) (hl:br.length=r.length) {j:Nat} (hj:j<br.length):ZhJ w' (br.getD j default) (r.getD j default):=by exact k48
theorem Zj1 (H:St w0 w K h m lo lc ls s so sc oo oc bs) (M:i.op=34) (N:s.opn=r++[o]) (F:bs=br++[b]) (C:br.length=r.length) {g:Nat} (z:oo=some ⟨g,0,none⟩) {Q u W3:World} (hd:Q=w.drew)
  (l:u=(Q.setCell ⟨g,br.length*4+2,none⟩ (.slice so s.stk.length sc)).setCell ⟨g,br.length*4+3,none⟩ (.bool true)) (E:Below u.heap.size u W3) {f:Option Addr}{D:Nat} (J:ZeR W3 f D o.beg) (v:Value) :
  ZhX w0 w K h m lo lc ls oo (ZeE m ls i s) (.returned v) (W3.setCell ⟨K,5,none⟩ (.slice f o.beg.length D)):=by
 obtain ⟨G,X,y,q,L,U,d,W,A⟩:=H.top N F C;rw [z] at y;cases y;subst z;have O:Upd K g w u:=by rw [l,hd];exact ((Upd.refl K g w).drew.setB _ _).setB _ _
 have P:Upd K g w W3:=O.bel E;have a:Upd K g w (W3.setCell ⟨K,5,none⟩ (.slice f o.beg.length D)):=P.set 5 _;have I:Ck u K h m (.slice lo ls.length lc) (.slice so s.stk.length sc) (.slice (some ⟨g,0,none⟩) bs.length oc) 0:=by rw [l,hd];exact Ck.other (Ck.other (Ck.drew H.ck) q.symm _ _) q.symm _ _
 have p:=I.old E;have t:ZeE m ls i s=(0,⟨o.beg,r++[{ o with past:=s.stk,mid:=true }]⟩):=by unfold ZeE;rw [if_pos M,N];simp
 refine ⟨⟨v,rfl⟩,a,?_⟩;rw [t];have x:bs.length=br.length+1:=by rw [F];simp
 have c:(br++[({ b with fo:=so,fn:=s.stk.length,fc:=sc,mid:=true }:VB)]).length=bs.length:=by rw [x];simp
 refine .inl ⟨rfl,f,D,some ⟨g,0,none⟩,oc,br++[{ b with fo:=so,fn:=s.stk.length,fc:=sc,mid:=true }],?_⟩;refine ⟨?_,J.upd ((Upd.refl K K W3).set 5 _) p.noTy p.noTy,⟨?_,by simp [C],fun j hj=>?_⟩,H.tl.upd a H.ck.noTy d,a.below H.hb (Nat.le_refl _) H.hK L,H.hK⟩
 ·rw [c];exact p.setS _
 ·rw [c,Zao,Zap];have R:=((show Q.ownsRow w0.heap.size 232 4 (.slice (some ⟨g,0,none⟩) bs.length oc) bs.length (Zal br++Cells.cells b) by rw [hd];exact A).stored (br.length*4+2) (.slice so s.stk.length sc)).1;have B:=(R.stored (br.length*4+3) (.bool true)).1;rw [←l] at B;have T:(Zal br).length=br.length*4:=Zan br;have e:((Zal br++Cells.cells b).set (br.length*4+2) (Value.slice so s.stk.length sc)).set (br.length*4+3) (.bool true)=Zal br++Cells.cells ({ b with fo:=so,fn:=s.stk.length,fc:=sc,mid:=true }:VB):=by rw [←T,List.set_append_right (h:=by omega),List.set_append_right (h:=by omega)];congr 1;rw [show (Zal br).length+2-(Zal br).length=2 by omega,show (Zal br).length+3-(Zal br).length=3 by omega];rfl
  rw [e] at B;have S:W3.ownsRow w0.heap.size 232 4 (.slice (some ⟨g,0,none⟩) bs.length oc) bs.length (Zal br++Cells.cells ({ b with fo:=so,fn:=s.stk.length,fc:=sc,mid:=true }:VB)):=ZhM B fun k V=>E.block k (B.lt k V).2;exact ownsRow_setCell_other S (by intro e;exact q (Option.some.inj e)) _
 ·rw [c,x] at hj;by_cases hjl:j<br.length
  ·rw [show (br++[({ b with fo:=so,fn:=s.stk.length,fc:=sc,mid:=true }:VB)]).getD j default=br.getD j default by simp [List.getElem?_append_left hjl],show (r++[({ o with past:=s.stk,mid:=true }:Opn)]).getD j default=r.getD j default by simp [List.getElem?_append_left (show j<r.length by omega)]];exact ZhJ.of_upd H.op a H.ck.noTy d N F C hjl
  ·obtain rfl:j=br.length:=by omega
   rw [show (br++[({ b with fo:=so,fn:=s.stk.length,fc:=sc,mid:=true }:VB)]).getD br.length default={ b with fo:=so,fn:=s.stk.length,fc:=sc,mid:=true } by simp,show (r++[({ o with past:=s.stk,mid:=true }:Opn)]).getD br.length default={ o with past:=s.stk,mid:=true } by rw [C];simp];have n:=G.upd a H.ck.noTy d;exact ⟨n.op,rfl,n.bn,rfl,n.bg,H.ts.upd a H.ck.noTy d⟩
def eqE (st want:List Ty):Int:=if st.length≠want.length then 12 else if st=want then 0 else 11
theorem Zj2 (H:St w0 w K h m lo lc ls s so sc oo oc bs) (y:i.op=35) (z:s.opn=r++[o]) (t:bs=br++[b]) (x:br.length=r.length) {g:Nat} (n:oo=some ⟨g,0,none⟩) {W3:World} (G:Upd K K w W3) {c:List Ty} (I:c=if o.mid then o.past else o.beg)
  (d:Ck W3 K h m (.slice lo ls.length lc) (.slice so s.stk.length sc) (.slice oo bs.length oc) (eqE s.stk c)) (v:Value) :
  ZhX w0 w K h m lo lc ls oo (ZeE m ls i s) (.returned v) (W3.setCell ⟨K,6,none⟩ (.slice oo br.length oc)):=by
 obtain ⟨B,J,f,l,C,u,D,F,p⟩:=H.top z t x;rw [n] at f;cases f;have a:Upd K K w (W3.setCell ⟨K,6,none⟩ (.slice oo br.length oc)):=G.set 6 _;refine ⟨⟨v,rfl⟩,a.more,?_⟩;unfold eqE at d;have e:ZeE m ls i s=if s.stk.length≠c.length then (12,s) else if s.stk=c then (0,⟨s.stk,r⟩) else (11,s):=by unfold ZeE;rw [if_neg (by omega),if_pos y,z,I];simp
 rw [e];by_cases h1:s.stk.length≠c.length
 ·rw [if_pos h1] at d ⊢;exact .inr ⟨(by intro q;cases q),_,_,d.setO _⟩
 ·rw [if_neg h1] at d ⊢;by_cases h2:s.stk=c
  ·rw [if_pos h2] at d ⊢;refine .inl ⟨rfl,so,sc,oo,oc,br,d.setO _,H.ts.upd a H.ck.noTy H.ck.noTy,⟨?_,x,fun j hj=>ZhJ.of_upd H.op a H.ck.noTy H.ck.noTy z t x hj⟩,H.tl.upd a H.ck.noTy H.ck.noTy,a.below H.hb (Nat.le_refl _) H.hK H.hK,H.hK⟩;subst n;have A:=Zj0 p (m:=br.length) (by rw [t];simp);rw [show (Zal br++Cells.cells b).take (br.length*4)=Zal br from List.take_left' (Zan br)] at A;exact ZhM A fun k E=>by cases E;exact a.block g u l l
  ·rw [if_neg h2] at d ⊢;exact .inr ⟨(by intro q;cases q),_,_,d.setO _⟩
end
theorem Zj3 (K:Nat) (h:Hd) (m:Md) (L O:Value) (so:Option Addr) (sc:Nat) (f:List Ty) (wo:Option Addr) (wc:Nat) (e:List Ty) (w:World) (H:Ck w K h m L (.slice so f.length sc) O 0) (U:Zas w so sc f) (hw:Zas w wo wc e) (hl:f.length≤1000) :
  Calls Tryz.prog 191 #[ZQ.p K,.slice wo e.length wc] w fun r w'=>(∃ v,r=.returned v)∧Ck w' K h m L (.slice so f.length sc) O (eqE f e)∧Upd K K w w':=by
 have k5:=H.cells.2.2.2.2.2.2.1;have E:=Zh H;have G:=Zh (Zg1 f e so wo sc wc w U hw (by omega));clear H U hw;by_cases h1:f.length=e.length
 ·have HL:=Zh h1;obtain ⟨n,g⟩:∃ n,n=f.length:=⟨_,rfl⟩;obtain ⟨q,N⟩:∃ q,q=decide (f=e):=⟨_,rfl⟩;rw [←N] at G;have W:=Zh N;rw [←h1,←g] at G ⊢;rw [←g] at k5 E;have HN:=Zh g;clear h1 g N;have HW:=Zh (show ∀ w',Below w.heap.size w w'→Calls Tryz.prog 187 #[ZQ.p K,.bool q] w' fun r D=>(∃ v,r=.returned v)∧Ck D K h m L (.slice so n sc) O (ZeV 0 q)∧Upd K K w' D from fun w' hb=>ZeW K h m L _ O 0 q w' (E.out.old hb));have T:eqE f e=ZeV 0 q:=by unfold eqE;rw [if_neg (by rw [HL.out];simp),ZiB,W.out];simp
  have J:=Zh T;clear T;obtain ⟨R,B⟩:∃ R,R=eqE f e:=⟨_,rfl⟩;rw [←B];have I:=Zh B;clear B;go_enter Tryz.func191,Tryz.ntmps191
  go_wp2_with (first|(go_at_call 253;refine G.out.mono ?_;rintro r w2 ⟨rfl,C⟩)|(go_at_call 187;refine (HW.out _ C).mono ?_;rintro r Z ⟨⟨v,rfl⟩,y,A⟩;have F:=Zh y;have M:=Zh A;clear y A))
  go_end0;refine ⟨⟨_,rfl⟩,?_,(Upd.of C).trans M.out⟩;rw [I.out,J.out];exact F.out
 ·have HL:=Zh h1;obtain ⟨n,g⟩:∃ n,n=f.length:=⟨_,rfl⟩;obtain ⟨Y,z⟩:∃ n,n=e.length:=⟨_,rfl⟩;rw [←g,←z] at h1;rw [show eqE f e=12 from if_pos (by rw [←g,←z];exact h1),←g,←z];rw [←g] at k5 E;have X:((n:Int) == (Y:Int))=false:=by simp;omega
  have V:=Zh (ZeU K h m L (.slice so n sc) O 0 12 w E.out);clear g z h1;go_enter Tryz.func191,Tryz.ntmps191
  go_wp2_with (go_at_call 252;refine V.out.mono ?_;rintro r Z ⟨⟨v,rfl⟩,y,A⟩)
  refine bodyPost_ret (results_none rfl _ _ _) rfl ?_;exact ⟨⟨_,rfl⟩,y,A⟩
end
section
open Go.RowKit
theorem Zj4 {w:World}{base g oc n:Nat}{br:List VB}{b:VB} (h:w.ownsRow base 232 4 (.slice (some ⟨g,0,none⟩) n oc) n (Zal br++Cells.cells b)):∃ a,a=(⟨g,0,none⟩:Addr).add (br.length*4)∧a=⟨g,br.length*4,none⟩ ∧
  w.cell? a=some (.int .i64 b.op)∧w.cell? ⟨a.block,a.off+1,none⟩=some (.slice b.bo b.bn b.bc)∧w.cell? ⟨a.block,a.off+2,none⟩=some (.slice b.fo b.fn b.fc)∧w.cell? ⟨a.block,a.off+3,none⟩=some (.bool b.mid)∧(∀ j,w.frozen? ⟨g,j,none⟩=false):=by
 have hf:(Zal br).length=br.length*4:=Zan br;have c:h.1=h.1:=rfl;exact k27
section
variable {w0 w:World}{K:Nat}{h:Hd}{m:Md}{lo:Option Addr}{lc:Nat}{ls:List Ty}{s:Ps}{so:Option Addr}{sc:Nat}{oo:Option Addr}{oc:Nat}{bs:List VB}{i:In3}{r:List Opn}{o:Opn}(H:St w0 w K h m lo lc ls s so sc oo oc bs)
include w0 w K h m lo lc ls s so sc oo oc bs i r o H
theorem Zj5 (W:i.op=34) (Z:s.opn=r++[o]) (hd:s.opn.length≤6) (ax:o.beg.length≤12):
  Calls Tryz.prog 129 #[ZQ.p K] w (ZhX w0 w K h m lo lc ls oo (ZeE m ls i s)):=by
 obtain ⟨br,b,hb,hl⟩:=H.last Z;obtain ⟨L,g,R,ay,az,aA,ak,aC,D⟩:=H.top Z hb hl;obtain ⟨e,z,A,x0,x1,x2,x3,N⟩:=Zj4 D;have aj:e.block=g:=by rw [A]
 have k5:=H.ck.cells.2.2.2.2.2.2.1;have k6:=H.ck.cells.2.2.2.2.2.2.2.1;have kl:=Blk.lt H.ck;obtain ⟨ad,G⟩:∃ a,a=(⟨g,0,none⟩:Addr):=⟨_,rfl⟩;rw [R,←G] at k6;rw [←G] at z;obtain ⟨n,hn⟩:∃ n,n=br.length:=⟨_,rfl⟩;obtain ⟨T,B⟩:∃ n,n=bs.length:=⟨_,rfl⟩;have am:T=n+1:=by rw [B,hn,hb];simp
 rw [←B] at k6;rw [←hn] at z;have aB:n<T:=by omega
 have ar:(n:Int) < T:=by omega
 have ao:=H.op.len;have aD:IntKind.i64.wrap ((T:Int)-1)=(n:Int):=by rw [show (T:Int)-1=(n:Int) by omega];exact IntWalk.i64_in _ (by omega)
 have aE:(T:Int)-1=(n:Int):=by omega
 have aF:IntKind.i64.wrap (n:Int)=(n:Int):=IntWalk.i64_in _ (by omega);have f2:=N (br.length*4+2);have f3:=N (br.length*4+3);have X:(⟨e.block,e.off+2,none⟩:Addr)=⟨g,br.length*4+2,none⟩:=by rw [A]
 have Y:(⟨e.block,e.off+3,none⟩:Addr)=⟨g,br.length*4+3,none⟩:=by rw [A]
 rw [←X] at f2;rw [←Y] at f3;have E:=Zh (fun (W3:World) (h3:Below ((w.drew.setCell ⟨g,br.length*4+2,none⟩ (.slice so s.stk.length sc)).setCell ⟨g,br.length*4+3,none⟩ (.bool true)).heap.size ((w.drew.setCell ⟨g,br.length*4+2,none⟩ (.slice so s.stk.length sc)).setCell ⟨g,br.length*4+3,none⟩ (.bool true)) W3) (U:Option Addr) (tc:Nat) (hcl:ZeR W3 U tc o.beg) (v:Value)=>Zj1 H W Z hb hl R rfl rfl h3 hcl v);rw [←X,←Y] at E;have I:ZeR ((w.drew.setCell ⟨e.block,e.off+2,none⟩ (.slice so s.stk.length sc)).setCell ⟨e.block,e.off+3,none⟩ (.bool true)) b.bo b.bc o.beg:=by rw [X,Y];exact L.bg.upd (((Upd.refl K g w).drew.setB _ _).setB _ _) H.ck.noTy ak
 have C:((w.drew.setCell ⟨e.block,e.off+2,none⟩ (.slice so s.stk.length sc)).setCell ⟨e.block,e.off+3,none⟩ (.bool true)).cell? ⟨e.block,e.off+1,none⟩=some (.slice b.bo b.bn b.bc):=by rw [World.cell?_setCell_other (h:=by intro q;have:=congrArg Addr.off q;simp at this),World.cell?_setCell_other (h:=by intro q;have:=congrArg Addr.off q;simp at this)];exact x1
 have O:((w.drew.setCell ⟨e.block,e.off+2,none⟩ (.slice so s.stk.length sc)).setCell ⟨e.block,e.off+3,none⟩ (.bool true)).cell? ⟨K,5,none⟩=some (.slice so s.stk.length sc):=by rw [World.cell?_setCell_other (h:=by intro q;have:=congrArg Addr.block q;simp at this;omega),World.cell?_setCell_other (h:=by intro q;have:=congrArg Addr.block q;simp at this;omega)];exact k5
 have M:Blk ((w.drew.setCell ⟨e.block,e.off+2,none⟩ (.slice so s.stk.length sc)).setCell ⟨e.block,e.off+3,none⟩ (.bool true)) K (ckC h m (.slice lo ls.length lc) (.slice so s.stk.length sc) (.slice oo bs.length oc) 0) 166:=Ck.other (Ck.other (Ck.drew H.ck) (by omega) _ _) (by omega) _ _;obtain ⟨bn,J⟩:∃ n,n=b.bn:=⟨_,rfl⟩;rw [←J] at x1 C;have ac:=Zh (J.trans L.bn);obtain ⟨W2,F⟩:∃ W2,W2=(w.drew.setCell ⟨e.block,e.off+2,none⟩ (.slice so s.stk.length sc)).setCell ⟨e.block,e.off+3,none⟩ (.bool true):=⟨_,rfl⟩;rw [←F] at E I C O M;have ag:=Zh (show W2=((w.setCell ⟨e.block,e.off+2,none⟩ (.slice so s.stk.length sc)).setCell ⟨e.block,e.off+3,none⟩ (.bool true)).drew from F.trans rfl);have ab:=Zh I;have V:=Zh M;have ah:=Zh C;have ae:=Zh O;have aa:=Zh z;have au:=Zh B;clear aj z F I M C O J Z hb hl W H D A L X Y N R G hn B am ao x0 x1;go_enter Tryz.func129,Tryz.ntmps129
 go_wp2_with fail
 refine rO (fun w':World=>w'.cell? ⟨K,6,none⟩=some (.slice (some ad) T oc)) (oL [0,1,2,3,4,5,6,7,8,9,10,11]) k6 ?_
 repeat refine pO ?_
 refine Zd7 ?_;rw [←aa.out]
 go_upto_region 2 with fail
 rw [←ag.out];have y1:=ah.out;have y5:=ae.out
 go_wp2_with (go_at_call 126;rw [ac.out];refine (ZhE _ b.bo b.bc o.beg ab.out.1 (by omega)).mono ?_;rintro r w3 ⟨⟨U,tc,rfl,f⟩,y⟩;have z5:=(Blk.old V.out y).frozen 5;have z6:=(Blk.old V.out y).cell 5 (v:=.slice so s.stk.length sc) rfl;have af:=Zh f;have HB3:=Zh y;clear f y)
 go_end0;exact E.out _ HB3.out U tc (ZeR.own af.out) _
theorem Zj6 (V:i.op=35) (Y:s.opn=r++[o]) (hd:s.opn.length≤6) (ay:s.stk.length≤12):
  Calls Tryz.prog 130 #[ZQ.p K] w (ZhX w0 w K h m lo lc ls oo (ZeE m ls i s)):=by
 obtain ⟨br,b,hb,hl⟩:=H.last Y;obtain ⟨E,g,A,ar,au,aw,av,aj,J⟩:=H.top Y hb hl;obtain ⟨f,I,U,x0,Z,x2,x3,ag⟩:=Zj4 J;have af:f.block=g:=by rw [U]
 have k5:=H.ck.cells.2.2.2.2.2.2.1;have k6:=H.ck.cells.2.2.2.2.2.2.2.1;have kl:=Blk.lt H.ck;obtain ⟨ad,z⟩:∃ a,a=(⟨g,0,none⟩:Addr):=⟨_,rfl⟩;rw [A,←z] at k6;rw [←z] at I;obtain ⟨n,X⟩:∃ n,n=br.length:=⟨_,rfl⟩;obtain ⟨ln,F⟩:∃ n,n=bs.length:=⟨_,rfl⟩;have ai:ln=n+1:=by rw [F,X,hb];simp
 rw [←F] at k6;rw [←X] at I;have ax:n<ln:=by omega
 have an:(n:Int) < ln:=by omega
 have ak:=H.op.len;have az:IntKind.i64.wrap ((ln:Int)-1)=(n:Int):=by rw [show (ln:Int)-1=(n:Int) by omega];exact IntWalk.i64_in _ (by omega)
 have aA:(ln:Int)-1=(n:Int):=by omega
 have aB:IntKind.i64.wrap (n:Int)=(n:Int):=IntWalk.i64_in _ (by omega);obtain ⟨e,y⟩:∃ l,l=if o.mid then o.past else o.beg:=⟨_,rfl⟩;have HEE:=Zh (fun (W3:World) (hu:Upd K K w W3) hc (v:Value)=>Zj2 (i:=i) (W3:=W3) H V Y hb hl A hu y hc v);rw [←F,←X,A,←z] at HEE;have M:=H.ck;rw [A,←z,←F] at M;obtain ⟨B,L⟩:∃ n,n=b.bn:=⟨_,rfl⟩;obtain ⟨C,N⟩:∃ n,n=b.fn:=⟨_,rfl⟩;obtain ⟨W,G⟩:∃ n,n=b.mid:=⟨_,rfl⟩;rw [←L] at Z;rw [←N] at x2;rw [←G] at x3;have R:=Zh E;have ac:=Zh (L.trans E.bn);have ae:=Zh (N.trans E.fn);have HMi:=Zh (G.trans E.mid);have hS:∀ w',Below w.heap.size w w'→(fun w':World=>w'.cell? ⟨K,6,none⟩=some (.slice (some ad) ln oc)∧w'.cell? f=some (.int .i64 b.op)∧w'.cell? ⟨f.block,f.off+1,none⟩=some (.slice b.bo B b.bc)∧w'.cell? ⟨f.block,f.off+2,none⟩=some (.slice b.fo C b.fc)∧w'.cell? ⟨f.block,f.off+3,none⟩=some (.bool W)) w':=fun w' D=>⟨(D.cell (Zad k6)).trans k6,(D.cell (Zad x0)).trans x0,(D.cell (Zad Z)).trans Z,(D.cell (Zad x2)).trans x2,(D.cell (Zad x3)).trans x3⟩;have HS:=Zh hS;have HC:=Zh M;have T:=Zh H.ts;have aq:=Zh H.ck.noTy;have O:=Zh I;have HWt:=Zh y;have ao:ln≤oc:=by omega
 have ap:n≤oc:=by omega
 rw [A,←z];clear af I hS M L N G E Y hb hl V H J U ag A z X F ai ak x0 Z x2 x3 k5 k6 y aj;rcases W with _|_
 ·go_enter Tryz.func130,Tryz.ntmps130
  go_wp2_with fail
  refine rO (fun w':World=>w'.cell? ⟨K,6,none⟩=some (.slice (some ad) ln oc)∧w'.cell? f=some (.int .i64 b.op)∧w'.cell? ⟨f.block,f.off+1,none⟩=some (.slice b.bo B b.bc)∧w'.cell? ⟨f.block,f.off+2,none⟩=some (.slice b.fo C b.fc)∧w'.cell? ⟨f.block,f.off+3,none⟩=some (.bool false)) (oL [0,1,2,3,4,5,6,7,8,9,10,11,112,113]) (HS.out _ bE) ?_
  iterate 11 (refine pO ?_)
  rw [←O.out]
  repeat refine pO ?_
  refine oO fun Kv hK=>?_;go_simp;refine hK _ _ ⟨HS.out _ bE,?_⟩;clear hK Kv;refine oO fun Kv hK=>?_;go_simp;refine hK _ _ ⟨HS.out _ bE,?_⟩;clear hK Kv;refine Zd7 ?_;obtain ⟨q,hW1⟩:∃ q,q=(w.alloc (.cells #[.int .i64 b.op,.slice b.bo B b.bc,.slice b.fo C b.fc,.bool false] 232)).drew:=⟨_,rfl⟩;have hb1:Below w.heap.size w q:=by rw [hW1];exact bE
  have hX:Blk q w.heap.size #[.int .i64 b.op,.slice b.bo B b.bc,.slice b.fo C b.fc,.bool false] 232:=by rw [hW1];exact Blk.drew (Blk.new w _ _)
  rw [←hW1];have y1:=hX.cell 1 (v:=.slice b.bo B b.bc) rfl;have y2:=hX.cell 2 (v:=.slice b.fo C b.fc) rfl;have y3:=hX.cell 3 (v:=.bool false) rfl;have hwt:e=o.beg:=by exact k74
  have HEq:=Zh (show Calls Tryz.prog 191 #[ZQ.p K,.slice b.bo B b.bc] q fun r w'=>(∃ v,r=.returned v)∧Ck w' K h m (.slice lo ls.length lc) (.slice so s.stk.length sc) (.slice (some ad) ln oc) (eqE s.stk e)∧Upd K K q w' from by
   have h1:=Zj3 K h m (.slice lo ls.length lc) (.slice (some ad) ln oc) so sc s.stk b.bo b.bc e q (HC.out.old hb1) (T.out.1.old hb1) (by rw [hwt];exact R.out.bg.1.old hb1) (by omega);rw [show B=e.length by rw [hwt];exact ac.out];exact h1)
  exact k21
 ·go_enter Tryz.func130,Tryz.ntmps130
  go_wp2_with fail
  refine rO (fun w':World=>w'.cell? ⟨K,6,none⟩=some (.slice (some ad) ln oc)∧w'.cell? f=some (.int .i64 b.op)∧w'.cell? ⟨f.block,f.off+1,none⟩=some (.slice b.bo B b.bc)∧w'.cell? ⟨f.block,f.off+2,none⟩=some (.slice b.fo C b.fc)∧w'.cell? ⟨f.block,f.off+3,none⟩=some (.bool true)) (oL [0,1,2,3,4,5,6,7,8,9,10,11,112,113]) (HS.out _ bE) ?_
  iterate 11 (refine pO ?_)
  rw [←O.out]
  repeat refine pO ?_
  refine oO fun Kv hK=>?_;go_simp;refine hK _ _ ⟨HS.out _ bE,?_⟩;clear hK Kv;refine oO fun Kv hK=>?_;go_simp;refine hK _ _ ⟨HS.out _ bE,?_⟩;clear hK Kv;refine Zd7 ?_;obtain ⟨q,hW1⟩:∃ q,q=(w.alloc (.cells #[.int .i64 b.op,.slice b.bo B b.bc,.slice b.fo C b.fc,.bool true] 232)).drew:=⟨_,rfl⟩;have hb1:Below w.heap.size w q:=by rw [hW1];exact bE
  have hX:Blk q w.heap.size #[.int .i64 b.op,.slice b.bo B b.bc,.slice b.fo C b.fc,.bool true] 232:=by rw [hW1];exact Blk.drew (Blk.new w _ _)
  rw [←hW1];have y1:=hX.cell 1 (v:=.slice b.bo B b.bc) rfl;have y2:=hX.cell 2 (v:=.slice b.fo C b.fc) rfl;have y3:=hX.cell 3 (v:=.bool true) rfl;have hwt:e=o.past:=by exact k74
  have HEq:=Zh (show Calls Tryz.prog 191 #[ZQ.p K,.slice b.fo C b.fc] q fun r w'=>(∃ v,r=.returned v)∧Ck w' K h m (.slice lo ls.length lc) (.slice so s.stk.length sc) (.slice (some ad) ln oc) (eqE s.stk e)∧Upd K K q w' from by
   have h1:=Zj3 K h m (.slice lo ls.length lc) (.slice (some ad) ln oc) so sc s.stk b.fo b.fc e q (HC.out.old hb1) (T.out.1.old hb1) (by rw [hwt];exact R.out.ps.1.old hb1) (by omega);rw [show C=e.length by rw [hwt];exact ae.out];exact h1)
  exact k21
end
end
