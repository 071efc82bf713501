import Derived.Test.YtfmcclhfnpcokaaGreatG28
set_option linter.all false
set_option maxRecDepth 100000
set_option maxHeartbeats 32000000
namespace Go.Proofs.YtfmcclhfnpcokaaGreat
theorem j0{p:Prop}(h:p:=by
 intro st w1 hg1 hE1;rw [HWl.out];have HE1:=Zh hE1;have HG1:=Zh hg1;have HS5:=Zh (HS4.out.map HFb.out.map hg1);have HO1:=Zh (HOb.out.grown hg1 fun q hq e=>HOb.out.map HFb.out.map q hq (Option.some.inj e).symm);have HB1:=Zh (ZrO HBl.out hg1 fun e=>Zp1 HBl.out HFb.out.map (Option.some.inj e).symm);refine hK _ _ ⟨HS5.out.cs,?_⟩;clear hK Kv hg1 hE1
 (refine pO ?_)
 (refine pO ?_)
 refine oO fun Kv hK=>?_;refine ZrD _ _ rfl w0.heap.size ao cap zs rfl HO1.out b ia rfl (ZrP HB1.out) HZl.out (by have:=HIb.out.bw.size;have:=HG1.out.size;omega) ?_;intro ao' cap' w3 ho3 hg3 hat3;have HS6:=Zh (HS5.out.app HO1.out hg3);have HE3:=Zh (HE1.out.eq (hg3.block _ HE1.out.1.lt fun e=>HO1.out.map HE1.out.1 _ e.symm rfl));have HA3:=Zh (And.intro ho3 (And.intro hg3 hat3));refine hK _ _ ⟨HS6.out.cs,?_⟩;clear hK Kv ho3 hg3 hat3;refine oO fun Kv hK=>?_;refine Znt _ _ _ rfl (M:=MM.l) rfl HE3.out rfl _ rfl ?_;intro w4 hs4 hg4;refine hK _ _ ⟨(HS6.out.map HE3.out.1 hg4).cs,Zd7 ?_⟩;have HEnd:=Zh (HFin.out wb w1 w1 w3 w4 ao' cap' HIb.out HLb.out HNe.out HOb.out HG1.out HE1.out.1 (Below.refl _ _) HA3.out.2.1 HA3.out.2.2 HA3.out.1 hg4 hs4);clear hK Kv hs4 hg4
 go_wp2_with fail
 exact ⟨⟨p+1,hpl,rfl,HEnd.out⟩,by simp [intOf];omega⟩):p:=h
section
open Go.RowKit
attribute [local go_sem] World.cell?_alloc_some
theorem ZrE {κ:Type} [DecidableEq κ] {enc:κ→Value}{j g:TypeId} (K:Znk j enc) {t:TypeId} (v:Tryz.prog.underlying t=some (.map j g)) {z:Value}{w:World}{c:Array Oper}{b:List Oper}{o:Oper}{a:Act}{Q:Exit→Act→World→Prop} (r:o.guard=none) (m x:Operand) (e:Bool) (d:o.op=Op.lookup t m x e) {M:Nat}{f:κ→Option Value} (s:a.eval m=.map (some M)) (H:MpF enc w M f) (B:(zeroValue g).run Tryz.prog w=.ok z w) (k:κ) (A:a.eval x=enc k) (u:Value) (y:(if e then .tuple #[(f k).getD z,.bool (f k).isSome] else (f k).getD z)=u)
  (q:wpList Tryz.prog c Q b (a.put o.dst u) w):wpList Tryz.prog c Q (o :: b) a w:=by
 subst y;exact Znq K v r m x e d s H B k A q
theorem ZrF (U:List Nat) (c:Nat):(unF U (c:Int)).getD (.bool false)=.bool (decide (c∈U)):=by have:=Zp7 (U:=U) (c:=c);unfold unF at this ⊢;exact j7
theorem ZrG (m:Md) (d:Nat):(mdF m (d:Int)).getD (.bool false)=.bool (ZnV m d):=by
 unfold mdF;rw [Int.toNat_natCast];cases h:ZnV m d
 ·rw [if_neg (by rintro ⟨-,q⟩;cases q)];rfl
 ·rw [if_pos ⟨by omega,rfl⟩];rfl
theorem ZrH {w:World}{M:Nat}{f:Int→Option Value} (H:MpF kI w M f) (k:Int) (ty:TypeId) (cs:Array Bool):∃ w',(invoke (.builtin .delete #[150,3] ty cs) #[.map (some M),.int .i64 k]).run Tryz.prog w=.ok (.value (.tuple #[])) w'∧MpF kI w' M (fun j=>if j=k then none else f j)∧w.grownBy w' (some M):=by obtain ⟨w',b,c,d⟩:=H.del Znm Tryz.underlying150 (ty:=ty) k;refine ⟨w',?_,c,d⟩;have a:(Builtin.delete_ #[150,3] ty #[.map (some M),.int .i64 k]).run Tryz.prog w=.ok (.tuple #[]) w':=b;simp [invoke,builtin,a,Result.andThen]
section
variable {S:Nat}{M:MsL}{h:Hd}{m:Md}{n:Nat}
theorem ZrI {w0 w:World}{U:List Nat}{c:Nat} (o:c ∉ U) (F:FrO w0 w S M h m (c :: U)) {R:Nat}{d:Array Value}{t:TypeId} (a:Blk w R d t) (ty:TypeId) (cs:Array Bool):∃ w',(invoke (.builtin .delete #[150,3] ty cs) #[.map (some M.u),.int .i64 c]).run Tryz.prog w=.ok (.value (.tuple #[])) w'∧FrO w0 w' S M h m U∧Blk w' R d t:=by obtain ⟨w',f,g,b⟩:=ZrH F.sz.un c ty cs;exact ⟨w',f,F.putU b (g.congr fun j=>Zp6 o j),(b.block _ a.lt fun e=>Zp1 a F.sz.un.map (Option.some.inj e)).trans a⟩
theorem ZrJ {P:Program}{b:Func}{R:Ending→World→Prop}{a:Act}{w w':World}{v:Value} (c:ZmE P a.defers w w') (d:(results b a.tmps).run P w'=.ok v w') (h:R (.returned v) w'):ZmF P b R .ret a w:=⟨w',v,c,d,h⟩
theorem ZrK (ho:okL m) (ih:∀ v,v<n→Zqb S M h m v):Zqa S M h m n:=by
 intro w U c H ao hU hl hc;have hm:=ho.v;obtain ⟨g,hg,W⟩:=H.kn;obtain ⟨R,hR⟩:∃ R,R=w.heap.size:=⟨_,rfl⟩;obtain ⟨w0,ae⟩:∃ w0,w0=w.alloc (.cells #[.int .i64 0,.int .i64 0,.int .i64 0] 45):=⟨_,rfl⟩;have HB:=Zh (show Below w.heap.size w w0 by rw [ae];exact bE);have HR:=Zh (show Blk w0 R (cl3 0 0 0) 45 by rw [ae,hR];exact Blk.new _ _ _);have HW:=Zh ae;have ac:=Zh hR;have aA:=Zh (show w.heap.size≤R by omega);clear hR;have HH:=Zh H;have bx:=Zh ((FrO.start H).old HB.out);have HG:=Zh (hg.old HB.out);have HN:=Zh (Zir hm).1;have HV:=Zh hm;have cy:=Zh ho;have aZ:=Zh hc;have s7:=(H.bk.old HB.out).cell 7 (v:=.map (some M.k)) rfl;obtain ⟨r0,r1,r2⟩:=HR.out.c3;obtain ⟨f0,f1,f2⟩:=HR.out.f3;have rl:=HR.out.lt;rcases W.at (d:=c) with hno|⟨⟨y0,y1,y2⟩,hy,hyc⟩
 rotate_left
 ·have HY:=Zh hy;have cP:=Zh hyc;have cO:=Zh (ZpH hm hc hyc);clear ae hg W H hy hyc ao hU hl ih;refine ZmI Tryz.func90 rfl ?_;simp only [Tryz.ntmps90,List.size_toArray,List.length_cons,List.length_nil,Nat.reduceAdd,Nat.reduceSub,Array.replicate_succ,Array.replicate_zero,List.push_toArray,List.append_toArray,List.nil_append,List.cons_append]
  go_upto_region 1 with fail
  rw [←HW.out,←ac.out]
  go_upto_region 2 with (at_lookup;refine ZrE Znm Tryz.underlying174 rfl _ _ true rfl (M:=M.k) rfl HG.out (Zrl _) (c:Int) rfl (.tuple #[.agg #[.int .i64 y0,.int .i64 y1,.int .i64 y2],.bool true]) (by rw [HY.out];rfl) ?_)
  obtain ⟨Y,hY⟩:∃ Y,Y=w0.heap.size:=⟨_,rfl⟩;obtain ⟨w1,D⟩:∃ w1,w1=w0.alloc (.cells #[.int .i64 y0,.int .i64 y1,.int .i64 y2] 45):=⟨_,rfl⟩;have A:Below w0.heap.size w0 w1:=by rw [D];exact bE
  have cM:=Zh (show Blk w1 Y (cl3 y0 y1 y2) 45 by rw [D,hY];exact Blk.new _ _ _);have u:=Zh (HR.out.old A);have E:=Zh (bx.out.old A);rw [←D,←hY];clear D hY A s7 r0 r1 r2 f0 f1 f2 rl;obtain ⟨r0,r1,r2⟩:=u.out.c3;obtain ⟨f0,f1,f2⟩:=u.out.f3;obtain ⟨dp,dq,dr⟩:=cM.out.c3;have rl:=u.out.lt
  go_wp2_with fail
  have X:=Zrx HH.out E.out u.out aA.out (y0,y1,y2);have z0:=X.2.c3.1;have z1:=X.2.c3.2.1;have z2:=X.2.c3.2.2;exact ZrJ (v:=.tuple #[ag3 (y0,y1,y2),.bool true]) rfl (by simp [results,Tryz.results90,go_sem,ag3,z0,z1,z2]) (X.1.val rfl cO.out (fun _=>cP.out) (fun e=>by cases e))
 have bG:=Zh hno;have HU:=Zh (H.un.old HB.out);have s6:=(H.bk.old HB.out).cell 6 (v:=.map (some M.u)) rfl;obtain ⟨w1,D⟩:∃ w1,w1=w0.alloc (.cells #[.int .i64 0,.int .i64 0,.int .i64 0] 45):=⟨_,rfl⟩;have A:Below w0.heap.size w0 w1:=by rw [D];exact bE
 have bP:=Zh D;have aY:=Zh A;have E:=Zh (bx.out.old A);have u:=Zh (HR.out.old A);clear D A;by_cases hin:c∈U
 ·have ab:=Zh hin;clear ae hg W H hno ao hU hl ih;refine ZmI Tryz.func90 rfl ?_;simp only [Tryz.ntmps90,List.size_toArray,List.length_cons,List.length_nil,Nat.reduceAdd,Nat.reduceSub,Array.replicate_succ,Array.replicate_zero,List.push_toArray,List.append_toArray,List.nil_append,List.cons_append]
  go_upto_region 1 with fail
  rw [←HW.out,←ac.out]
  go_upto_region 4 with (at_lookup;refine ZrE Znm Tryz.underlying174 rfl _ _ true rfl (M:=M.k) rfl HG.out (Zrl _) (c:Int) rfl (.tuple #[.agg #[.int .i64 0,.int .i64 0,.int .i64 0],.bool false]) (by rw [bG.out];rfl) ?_)
  rw [←bP.out];clear s6 s7 r0 r1 r2 f0 f1 f2 rl;have s6:=E.out.sz.bk.cell 6 (v:=.map (some M.u)) rfl;obtain ⟨r0,r1,r2⟩:=u.out.c3;obtain ⟨f0,f1,f2⟩:=u.out.f3;have rl:=u.out.lt
  go_wp2_with (at_lookup;refine ZrE Znm Tryz.underlying150 rfl _ _ false rfl (M:=M.u) rfl (HU.out.old aY.out) (Zrk _) (c:Int) rfl (.bool true) (by rw [if_neg (by decide),ZrF,decide_eq_true ab.out]) ?_)
  have X:=Zrx HH.out E.out u.out aA.out ((0,0,0):T3);have z0:=X.2.c3.1;have z1:=X.2.c3.2.1;have z2:=X.2.c3.2.2;exact ZrJ (v:=.tuple #[ag3 ((0,0,0):T3),.bool false]) rfl (by simp [results,Tryz.results90,go_sem,ag3,z0,z1,z2]) (X.1.val rfl .z (fun e=>by cases e) (fun _=>.inr ⟨c,ab.out,.refl c⟩))
 have aR:(c :: U).length≤m.cl.length:=Znd _ _ (List.nodup_cons.2 ⟨hin,ao⟩) fun k hk=>by
  rcases List.mem_cons.1 hk with rfl|e
  ·exact hc
  ·exact hU k e
 rw [List.length_cons] at aR;have ab:=Zh hin;have cI:=Zh (fun w' (t:Ty) (h':Zp4 w' S M h m (c :: U)) (ht:Zfk m t)=>ih (n-1) (by omega) w' (c :: U) t h' (List.nodup_cons.2 ⟨hin,ao⟩) (fun k hk=>by
  rcases List.mem_cons.1 hk with rfl|e
  ·exact hc
  ·exact hU k e) (by rw [List.length_cons];omega) ht)
 clear ae hg W H hno ao hU hl ih aR hin;refine ZmI Tryz.func90 rfl ?_;simp only [Tryz.ntmps90,List.size_toArray,List.length_cons,List.length_nil,Nat.reduceAdd,Nat.reduceSub,Array.replicate_succ,Array.replicate_zero,List.push_toArray,List.append_toArray,List.nil_append,List.cons_append]
 go_upto_region 1 with fail
 rw [←HW.out,←ac.out]
 go_upto_region 4 with (at_lookup;refine ZrE Znm Tryz.underlying174 rfl _ _ true rfl (M:=M.k) rfl HG.out (Zrl _) (c:Int) rfl (.tuple #[.agg #[.int .i64 0,.int .i64 0,.int .i64 0],.bool false]) (by rw [bG.out];rfl) ?_)
 rw [←bP.out];clear s6 s7 r0 r1 r2 f0 f1 f2 rl;have s6:=E.out.sz.bk.cell 6 (v:=.map (some M.u)) rfl;obtain ⟨r0,r1,r2⟩:=u.out.c3;obtain ⟨f0,f1,f2⟩:=u.out.f3;have rl:=u.out.lt
 go_upto_region 7 with (first
  | (at_lookup;refine ZrE Znm Tryz.underlying150 rfl _ _ false rfl (M:=M.u) rfl (HU.out.old aY.out) (Zrk _) (c:Int) rfl (.bool false) (by rw [if_neg (by decide),ZrF,decide_eq_false ab.out]) ?_)
  | (at_mapUpdate;refine Znu Znm Tryz.underlying150 rfl _ _ _ rfl (M:=M.u) rfl (HU.out.old aY.out) (c:Int) rfl (.bool true) rfl ?_;intro w2 b0 bg;have a3:=Zh (E.out.putU bg (b0.congr fun j=>Zp5 j));have bK:=Zh (show Blk w2 R (cl3 0 0 0) 45 from (bg.block _ u.out.lt fun e=>Zp1 u.out E.out.sz.un.map (Option.some.inj e)).trans u.out);clear b0 bg r0 r1 r2 f0 f1 f2 rl s6;have s6:=a3.out.sz.bk.cell 6 (v:=.map (some M.u)) rfl))
 go_upto_region 8 with fail
 clear s6;obtain ⟨O,hO⟩:∃ O,O=w2.heap.size:=⟨_,rfl⟩;obtain ⟨w3,aI⟩:∃ w3,w3=w2.alloc (.cells #[.int .i64 0,.int .i64 0,.int .i64 0] 45):=⟨_,rfl⟩;have bf:Below w2.heap.size w2 w3:=by rw [aI];exact bE
 have ct:=Zh (show Blk w3 O (cl3 0 0 0) 45 by rw [aI,hO];exact Blk.new _ _ _);have bz:=Zh (a3.out.old bf);have cA:=Zh (bK.out.old bf);have ax:=Zh (show w.heap.size≤O∧O≠R from ⟨by have:=a3.out.up.size;omega,by have:=bK.out.lt;omega⟩);have cL:=Zh aI;have cz:=Zh hO;clear aI bf hO
 go_upto_region 9 with fail
 rw [←cL.out,←cz.out];have s0:=bz.out.sz.bk.cell 0 (v:=.slice h.co m.cl.length h.cc) rfl
 go_wp2_with fail
 clear s0
 go_loopw [52] (fun i wr=>∃ (j:Nat) (a:T3),j≤m.cl.length∧i=.int .i64 j∧Hid (FrO w wr S M h m (c :: U))∧Hid (Zqu m c j a)∧Hid (Blk wr R (cl3 0 0 0) 45)∧Hid (Blk wr O (cl3 a.1 a.2.1 a.2.2) 45)) (fun i _=>m.cl.length-(intOf i).toNat)
 case atStart=>exact ⟨0,z3,Nat.zero_le _,rfl,bz.out,Zqu.zero m c,cA.out,ct.out⟩
 case round=>
  obtain ⟨j,a,hj,rfl,r,aj,az,ak⟩:=hrel;rename World=>wo;obtain ⟨a0,a1,a2⟩:=a;dsimp only at ak;by_cases hjl:j<m.cl.length
  ·have bU:(j:Int) < m.cl.length:=by omega
   have dj:IntKind.i64.wrap ((j:Int)+1)=((j+1:Nat):Int):=IntWalk.i64_in _ (by have:=HN.out;omega);have af:=Zh (fun w' (h':Zaz w' h m)=>Zhn m h j c w' h');have bS:(Za2 m&&inV m.cl.length j&&inV m.cl.length c&&ZaI m ((j:Int).toNat+1) j c)=ZaI m (j+1) j c:=by
    rw [HV.out];unfold inV;rw [Int.toNat_natCast];have e1:(decide ((0:Int)≤(j:Int))&&decide ((j:Int) < (m.cl.length:Int)))=true:=by simp;omega
    have e2:(decide ((0:Int)≤(c:Int))&&decide ((c:Int) < (m.cl.length:Int)))=true:=by simp;omega
    rw [e1,e2];rfl
   rw [bS] at af;have aB:=Zh (fun (q:(ZaI m (j+1) j c&&ZnV m j)=false)=>aj.out.skip q);have G:=Zh (fun (q:(ZaI m (j+1) j c&&ZnV m j)=true) s hs hb=>aj.out.next q (s:=s) hs hb);have bF:=Zh r.out.sz.ma;have a6:=Zh (ZrG m j);have ai:=Zh (fun (q:(ZaI m (j+1) j c&&ZnV m j)=true)=>(Zqn.2 ⟨hjl,by simpa using q⟩:j∈ZnW m c));generalize ZaI m (j+1) j c=bb at af aB G ai;generalize ZnV m j=mm at aB G a6 ai;have s0:=r.out.sz.bk.cell 0 (v:=.slice h.co m.cl.length h.cc) rfl;have s1:=r.out.sz.bk.cell 1 (v:=.slice h.so m.st.length h.sc) rfl;have s2:=r.out.sz.bk.cell 2 (v:=.slice h.eo m.me.length h.ec) rfl;have s3:=r.out.sz.bk.cell 3 (v:=.int .i64 m.sel) rfl;clear bS;cases bb
   ·go_wp2_with (first
     | (go_at_call 148;refine (af.out _ r.out.sz.md).mono ?_;rintro e w4 ⟨rfl,C⟩;(try simp only [ag3]);have f:=Zh C;clear C s0 s1 s2 s3))
    exact ⟨⟨j+1,(a0,a1,a2),hjl,rfl,r.out.old f.out,aB.out rfl,az.out.old f.out,ak.out.old f.out⟩,by simp [intOf];omega⟩
   cases mm
   ·go_wp2_with (first
     | (go_at_call 148;refine (af.out _ r.out.sz.md).mono ?_;rintro e w4 ⟨rfl,C⟩;(try simp only [ag3]);have f:=Zh C;clear C s0 s1 s2 s3;have s5:=(r.out.old f.out).sz.bk.cell 5 (v:=.map (some M.a)) rfl;have bW:(Instr.lookup 150 (.map (some M.a)) (.int .i64 (j:Int)) false).run Tryz.prog w4=.ok (.bool false) w4:=(by have hq:=(bF.out.old f.out).look Znm Tryz.underlying150 (Zrk _) (j:Int) false;rw [if_neg (by decide),a6.out] at hq;exact hq)))
    exact ⟨⟨j+1,(a0,a1,a2),hjl,rfl,r.out.old f.out,aB.out rfl,az.out.old f.out,ak.out.old f.out⟩,by simp [intOf];omega⟩
   ·have hm:=HV.out;have bM:=Zh (Zn8 hm hjl);have bD:=Zh (show (fsC m j).length≤7 by
     have:=Zip hm j hjl;simp only [ZaL,Bool.and_eq_true,decide_eq_true_eq] at this;unfold fsC;omega)
    have bL:=Zh (fun w' (h':Zaz w' h m)=>Zq2 m h j w' h' cy.out hjl);have bQ:=Zh (ZpC hm hjl);have G:=Zh (G.out rfl);have ai:=Zh (ai.out rfl);generalize szC m j=z at bL bQ G;obtain ⟨z0,z1,z2⟩:=z;clear hm
    go_upto_region 14 with (first
     | (go_at_call 148;refine (af.out _ r.out.sz.md).mono ?_;rintro e w4 ⟨rfl,C⟩;(try simp only [ag3]);have f:=Zh C;clear C s0 s1 s2 s3;have s5:=(r.out.old f.out).sz.bk.cell 5 (v:=.map (some M.a)) rfl;have bW:(Instr.lookup 150 (.map (some M.a)) (.int .i64 (j:Int)) false).run Tryz.prog w4=.ok (.bool true) w4:=(by have hq:=(bF.out.old f.out).look Znm Tryz.underlying150 (Zrk _) (j:Int) false;rw [if_neg (by decide),a6.out] at hq;exact hq)))
    clear s5 bW;have s0:=(r.out.old f.out).sz.bk.cell 0 (v:=.slice h.co m.cl.length h.cc) rfl;have s1:=(r.out.old f.out).sz.bk.cell 1 (v:=.slice h.so m.st.length h.sc) rfl;have s2:=(r.out.old f.out).sz.bk.cell 2 (v:=.slice h.eo m.me.length h.ec) rfl;have s3:=(r.out.old f.out).sz.bk.cell 3 (v:=.int .i64 m.sel) rfl
    go_upto_region 15 with (go_at_call 149;refine (bL.out _ (r.out.old f.out).sz.md).mono ?_;rintro e w5 ⟨rfl,aF⟩;(try simp only [ag3]);have ag:=Zh ((r.out.old f.out).old aF);have L:=Zh ((az.out.old f.out).old aF);have J:=Zh ((ak.out.old f.out).old aF);clear aF s0 s1 s2 s3)
    obtain ⟨Sm,bd⟩:∃ Sm,Sm=w5.heap.size:=⟨_,rfl⟩;obtain ⟨w6,aJ⟩:∃ w6,w6=w5.alloc (.cells #[.int .i64 z0,.int .i64 z1,.int .i64 z2] 45):=⟨_,rfl⟩;have aG:Below w5.heap.size w5 w6:=by rw [aJ];exact bE
    have cE:=Zh (show Blk w6 Sm (cl3 z0 z1 z2) 45 by rw [aJ,bd];exact Blk.new _ _ _);have a4:=Zh (ag.out.old aG);have cB:=Zh (L.out.old aG);have cu:=Zh (J.out.old aG);have N:=Zh (show w.heap.size≤Sm∧Sm≠R∧Sm≠O from ⟨by have:=ag.out.up.size;omega,by have:=L.out.lt;omega,by have:=J.out.lt;omega⟩);rw [←aJ,←bd];clear aJ aG bd;obtain ⟨ad,cU,-,e1,e2,-⟩:=a4.out.sz.md.cls hjl;have s0:=a4.out.sz.bk.cell 0 (v:=.slice h.co m.cl.length h.cc) rfl;rw [cU] at s0;rw [show (m.cl.getD j default).f.length=(fsC m j).length from rfl] at e2;have Z:=Zh (fun w' (h':Zaz w' h m)=>(show Zas w' (h.c j).fo (h.c j).fc (fsC m j) from h'.f j hjl));generalize (h.c j).fo=fo at e2 Z;generalize (h.c j).fc=fc at e2 Z;generalize hfl:fsC m j=fl at e2 Z bM bD G;have cn:=Zh hfl;clear hfl;clear e1
    go_wp2_with fail
    clear s0 e2
    go_loopw [96] (fun i wr=>∃ (q:Nat) (s:T3),q≤fl.length∧i=.int .i64 q∧Hid (FrO w wr S M h m (c :: U))∧Hid (Zqv m (z0,z1,z2) fl q s)∧Hid (Blk wr R (cl3 0 0 0) 45)∧Hid (Blk wr O (cl3 a0 a1 a2) 45)∧Hid (Blk wr Sm (cl3 s.1 s.2.1 s.2.2) 45)) (fun i _=>fl.length-(intOf i).toNat)
    case atStart=>exact ⟨0,(z0,z1,z2),Nat.zero_le _,rfl,a4.out,Zqv.zero bQ.out,cB.out,cu.out,cE.out⟩
    case round=>
     obtain ⟨q,s,hq,rfl,a5,al,ac,K,a7⟩:=hrel;rename World=>wq;obtain ⟨s0,s1,s2⟩:=s;dsimp only at a7;by_cases hql:q<fl.length
     ·have bZ:(q:Int) < fl.length:=by omega
      have dk:IntKind.i64.wrap ((q:Int)+1)=((q+1:Nat):Int):=IntWalk.i64_in _ (by have:=bD.out;omega);obtain ⟨fd,cW,t0,t1⟩:=ZaA (Z.out _ a5.out.sz.md) hql;have bH:=Zh (fun x hx hb=>al.out.next hql (x:=x) hx hb);have a8:=Zh (ZfX (default:Ty) hql);have bN:=Zh (bM.out _ a8.out);generalize fl.getD q default=t at t0 t1 bH a8 bN;subst cW;have bO:=Zh (fun w' (h':Zp4 w' S M h m (c :: U))=>cI.out w' t h' bN.out);obtain ⟨tk,tc⟩:=t;dsimp only at t0 t1 bO
      go_upto_region 18 with fail
      obtain ⟨w7,aK⟩:∃ w7,w7=wq.alloc (.cells #[.int .i64 tk,.int .i64 tc] 38):=⟨_,rfl⟩;have am:Below wq.heap.size wq w7:=by rw [aK];exact bE
      have cH:=Zh (show Blk w7 wq.heap.size #[.int .i64 tk,.int .i64 tc] 38 by rw [aK];exact Blk.new _ _ _);have ah:=Zh (a5.out.old am);have cC:=Zh (ac.out.old am);have cv:=Zh (K.out.old am);have cr:=Zh (a7.out.old am);rw [←aK];clear aK am t0 t1;obtain ⟨t0,t1⟩:=Zj9 cH.out
      go_upto_region 19 with (go_at_call 77;refine (bO.out _ ah.out.sz).mono ?_;rintro e w8 ⟨b2,ap,bV,⟨x0,x1,x2⟩,ok,rfl,bT,b3,bX⟩;(try simp only [ag3]);have cD:=Zh (ah.out.sz.own cC.out ap);have cw:=Zh (ah.out.sz.own cv.out ap);have cs:=Zh (ah.out.sz.own cr.out ap);have cm:=Zh (ah.out.call b2 ap bV);have HE:=Zh (And.intro bT (And.intro b3 bX));clear b2 ap bV bT b3 bX t0 t1)
      obtain ⟨Y,hY⟩:∃ Y,Y=w8.heap.size:=⟨_,rfl⟩;obtain ⟨w9,aL⟩:∃ w9,w9=w8.alloc (.cells #[.int .i64 x0,.int .i64 x1,.int .i64 x2] 45):=⟨_,rfl⟩;have an:Below w8.heap.size w8 w9:=by rw [aL];exact bE
      have cN:=Zh (show Blk w9 Y (cl3 x0 x1 x2) 45 by rw [aL,hY];exact Blk.new _ _ _);have bA:=Zh (cm.out.old an);have ay:=Zh (cD.out.old an);have cx:=Zh (cw.out.old an);have F:=Zh (cs.out.old an);rw [←aL,←hY];clear aL an hY;cases ok
      ·obtain ⟨r0,r1,r2⟩:=ay.out.c3;obtain ⟨f0,f1,f2⟩:=ay.out.f3
       go_wp2_with fail
       have X:=Zrx HH.out bA.out ay.out aA.out ((0,0,0):T3);obtain ⟨wz,hd,hF,V⟩:=ZrI ab.out X.1 X.2 _ _;have bm:=V.c3.1;have bn:=V.c3.2.1;have bo:=V.c3.2.2;exact ZrJ (v:=.tuple #[ag3 ((0,0,0):T3),.bool false]) ⟨_,_,_,_,_,rfl,hd⟩ (by simp [results,Tryz.results90,go_sem,ag3,bm,bn,bo]) (hF.val rfl .z (fun e=>by cases e) (fun _=>by
        obtain ⟨d,h1,h2⟩:=HE.out.2.2 (by first|rfl|trivial);exact Zot.up HV.out aZ.out ⟨j,ai.out,_,(by rw [cn.out];exact a8.out),h1⟩ h2))
      ·obtain ⟨m0,m1,m2⟩:=F.out.c3;obtain ⟨y0,y1,y2⟩:=cN.out.c3;have ml:=F.out.lt
       go_wp2_with (go_at_call 85;refine (Zpd (s0,s1,s2) (x0,x1,x2) _ al.out.2 HE.out.1).mono ?_;rintro e c1 ⟨rfl,B⟩;(try simp only [ag3]);have b:=Zh B;clear B m0 m1 m2 y0 y1 y2 ml;obtain ⟨m0,m1,m2⟩:=(F.out.old b.out).c3;obtain ⟨g0,g1,g2⟩:=(F.out.old b.out).f3;have ml:=(F.out.old b.out).lt)
       refine ⟨⟨q+1,_,hql,rfl,FrO.set3 HH.out (bA.out.old b.out) (F.out.old b.out) N.out.1 _ _ _,bH.out _ (HE.out.2.1 (by first|rfl|trivial)) HE.out.1,?_,?_,Zmx (F.out.old b.out)⟩,by simp [intOf];omega⟩
       ·exact ((((ay.out.old b.out).other (fun e=>N.out.2.1 e.symm) _).other (fun e=>N.out.2.1 e.symm) _).other (fun e=>N.out.2.1 e.symm) _)
       ·exact ((((cx.out.old b.out).other (fun e=>N.out.2.2 e.symm) _).other (fun e=>N.out.2.2 e.symm) _).other (fun e=>N.out.2.2 e.symm) _)
     ·have bZ:¬ (q:Int) < fl.length:=by omega
      have c0:q=fl.length:=by omega
      subst c0;have cG:=Zh (G.out (s0,s1,s2) al.out.fin al.out.2);obtain ⟨o0,o1,o2⟩:=K.out.c3;obtain ⟨m0,m1,m2⟩:=a7.out.c3;have cF:=Zh al.out.2
      go_wp2_with (go_at_call 85;refine (Zpf (a0,a1,a2) (s0,s1,s2) _ aj.out.2 cF.out).mono ?_;rintro e c1 ⟨rfl,B⟩;(try simp only [ag3]);have b:=Zh B;clear B m0 m1 m2 o0 o1 o2;obtain ⟨o0,o1,o2⟩:=(K.out.old b.out).c3;obtain ⟨g0,g1,g2⟩:=(K.out.old b.out).f3;have ol:=(K.out.old b.out).lt)
      refine ⟨⟨j+1,_,hjl,rfl,FrO.set3 HH.out (a5.out.old b.out) (K.out.old b.out) ax.out.1 _ _ _,cG.out,?_,Zmx (K.out.old b.out)⟩,by simp [intOf];omega⟩;exact ((((ac.out.old b.out).other (fun e=>ax.out.2 e.symm) _).other (fun e=>ax.out.2 e.symm) _).other (fun e=>ax.out.2 e.symm) _)
  ·have bU:¬ (j:Int) < m.cl.length:=by omega
   have cX:j=m.cl.length:=by omega
   subst cX;have bC:=Zh (aj.out.fin HV.out aZ.out);have bI:=Zh aj.out.2
   go_upto_region 25 with fail
   obtain ⟨gk,W,bY⟩:=r.out.sz.kn;have HK:=Zh W.drew;have cq:=Zh bY;have bB:=Zh (r.out.old (Below.refl _ wo).drew);have a9:=Zh az.out.drew;have aw:=Zh ak.out.drew;have s7:=bB.out.sz.bk.cell 7 (v:=.map (some M.k)) rfl;obtain ⟨o0,o1,o2⟩:=aw.out.c3;clear W bY;refine rO (Cs [(⟨S,7,none⟩,.map (some M.k)),(⟨O,0,none⟩,.int .i64 a0),(⟨O,1,none⟩,.int .i64 a1),(⟨O,2,none⟩,.int .i64 a2)]) (oL [0,1,2,3,4,5,106]) ⟨s7,o0,o1,o2,trivial⟩ ?_;clear s7 o0 o1 o2
   iterate 6 (refine pO ?_)
   refine oO fun Kv hK=>?_;refine Znv Znm Tryz.underlying174 _ _ _ rfl (M:=M.k) rfl HK.out (c:Int) rfl (.agg #[.int .i64 a0,.int .i64 a1,.int .i64 a2]) rfl ?_;intro w5 b1 aH;have ag:=Zh (bB.out.putK aH b1 (cq.out.put (y:=(a0,a1,a2)) aZ.out bC.out));have L:=Zh (show Blk w5 R (cl3 0 0 0) 45 from (aH.block _ a9.out.lt fun e=>Zp1 a9.out HK.out.map (Option.some.inj e)).trans a9.out);have J:=Zh (show Blk w5 O (cl3 a0 a1 a2) 45 from (aH.block _ aw.out.lt fun e=>Zp1 aw.out HK.out.map (Option.some.inj e)).trans aw.out);refine hK _ _ ⟨⟨ag.out.sz.bk.cell 7 rfl,J.out.c3.1,J.out.c3.2.1,J.out.c3.2.2,trivial⟩,Zd7 ?_⟩;clear hK Kv b1 aH;obtain ⟨o0,o1,o2⟩:=J.out.c3;obtain ⟨r0,r1,r2⟩:=L.out.c3;obtain ⟨f0,f1,f2⟩:=L.out.f3;have rl:=L.out.lt
   go_wp2_with fail
   have X:=Zrx HH.out ag.out L.out aA.out (a0,a1,a2);obtain ⟨wz,hd,hF,V⟩:=ZrI ab.out X.1 X.2 _ _;have bm:=V.c3.1;have bn:=V.c3.2.1;have bo:=V.c3.2.2;exact ZrJ (v:=.tuple #[ag3 (a0,a1,a2),.bool true]) ⟨_,_,_,_,_,rfl,hd⟩ (by simp [results,Tryz.results90,go_sem,ag3,bm,bn,bo]) (hF.val rfl bI.out (fun _=>bC.out) (fun e=>by cases e))
end
end
section
open Go.RowKit
attribute [local go_sem] World.cell?_alloc_some
def SzR (w:World) (h:Hd) (m:Md):Ending→World→Prop:=fun e w'=>∃ S M,e=.returned (.pointer (some ⟨S,0,none⟩))∧Zp4 w' S M h m []∧Below w.heap.size w w'∧w.heap.size≤S∧∀ x∈M.s,w.heap.size≤x
theorem ZrL {i:In3} (h:i.op=15):∀ u,LnT u→(ZnO u i=true↔u=⟨3,0⟩):=fun u a=>by
 obtain ⟨k,c⟩:=u
 unfold ZnO LnT at *
 simp only [decide_eq_true_eq,Ty.mk.injEq] at *
 omega
theorem ZrM {i:In3} (h:i.op=16):∀ u,LnT u→(ZnO u i=true↔u=⟨4,i.b⟩):=fun u a=>by
 obtain ⟨k,c⟩:=u
 unfold ZnO LnT at *
 simp only [decide_eq_true_eq,Ty.mk.injEq] at *
 omega
theorem ZrN {m:Md} (hm:Za2 m=true) {t:Ty}{k p:Nat} (b:k<m.me.length) (e:p<(cdM m k).length):(Zq7 m t k p).length≤1000000:=by
 have a:∀ n,n≤m.me.length→(Zq7 m t n 0).length≤120*n:=by exact j1
 have h1:=a k (by omega);have h2:(cdM m k).length≤120:=(ZfQ hm b).z.2.2;have c:=(Zir hm).2.1;have h3:=Zrm t ((cdM m k).take p);have h4:(Zq7 m t k p).length=(Zq7 m t k 0).length+(ZnP t ((cdM m k).take p)).length:=by unfold Zq7;simp [ZnP]
 have d:((cdM m k).take p).length≤p:=by rw [List.length_take];omega
 omega
theorem ZrO {w w':World}{B:Nat}{b:Array Value}{t:TypeId}{a:Option Nat} (h:Blk w B b t) (c:w.grownBy w' a) (d:a≠some B):Blk w' B b t:=(c.block _ h.lt fun e=>d e.symm).trans h
theorem ZrP {w:World}{b:Nat}{n:Int} (h:Blk w b #[.int .i64 n] 3):Zas w (some ⟨b,0,none⟩) 1 [n]:=ZdN (n:=1) (size:=1) h rfl
def B3L (w:World) (S T I:Nat) (h:Hd) (m:Md) (M:MsL) (t:Ty) (i:In3):Prop:=Blk w S #[.slice h.co m.cl.length h.cc,.slice h.so m.st.length h.sc,.slice h.eo m.me.length h.ec,.int .i64 m.sel,.map (some M.l),.map (some M.a),.map (some M.u),.map (some M.k),.map (some M.t)] 176∧Blk w T #[.int .i64 t.k,.int .i64 t.c] 38∧Blk w I #[.int .i64 i.op,.int .i64 i.a,.int .i64 i.b] 72
section
variable {w w':World}{S T I:Nat}{h:Hd}{m:Md}{M:MsL}{t:Ty}{i:In3}(H:B3L w S T I h m M t i)
include w w' S T I h m M t i H
theorem B3L.old (hb:Below w.heap.size w w'):B3L w' S T I h m M t i:=⟨H.1.old hb,H.2.1.old hb,H.2.2.old hb⟩
theorem B3L.map {X:Nat} (hm:Znc w X) (hg:w.grownBy w' (some X)):B3L w' S T I h m M t i:=
 ⟨ZrO H.1 hg fun e=>Zp1 H.1 hm (Option.some.inj e).symm,ZrO H.2.1 hg fun e=>Zp1 H.2.1 hm (Option.some.inj e).symm,ZrO H.2.2 hg fun e=>Zp1 H.2.2 hm (Option.some.inj e).symm⟩
theorem B3L.app {base:Nat} {ao:Option Addr} {cap:Nat} {zs:List Int} (ho:Zrz w base ao cap zs) (hg:w.grownBy w' (ZrA ao)):B3L w' S T I h m M t i:=
 ⟨ZrO H.1 hg (ho.ne_blk H.1 (by decide)),ZrO H.2.1 hg (ho.ne_blk H.2.1 (by decide)),ZrO H.2.2 hg (ho.ne_blk H.2.2 (by decide))⟩
end
theorem B3L.cs {w:World}{S T I:Nat}{h:Hd}{m:Md}{M:MsL}{t:Ty}{i:In3} (H:B3L w S T I h m M t i):Cs [(⟨S,4,none⟩,.map (some M.l)),(⟨T,0,none⟩,.int .i64 t.k),(⟨T,1,none⟩,.int .i64 t.c),(⟨I,1,none⟩,.int .i64 i.a)] w:=
 ⟨H.1.cell 4 rfl,H.2.1.cell 0 rfl,H.2.1.cell 1 rfl,H.2.2.cell 1 rfl,trivial⟩
theorem ZrQ (m:Md) (h:Hd) (w0:World) (H:Zaz w0 h m) (hv:Za2 m=true):Calls Tryz.prog 76 #[.agg (HM.mk h m)] w0 (SzR w0 h m):=by
 obtain ⟨X,hX⟩:∃ X,X=w0.heap.size:=⟨_,rfl⟩;obtain ⟨w1,ag⟩:∃ w1,w1=w0.alloc (.cells (HM.mk h m) 26):=⟨_,rfl⟩;have HB:=Zh (show Below w0.heap.size w0 w1 by rw [ag];exact bE);have HX:=Zh (show Blk w1 X (HM.mk h m) 26 by rw [ag,hX];exact Blk.new _ _ _);have HW:=Zh ag;have aZ:=Zh hX;obtain ⟨B,hB⟩:∃ B,B=w1.heap.size:=⟨_,rfl⟩;obtain ⟨A,ax⟩:∃ A,A=B+1+1+1+1+1:=⟨_,rfl⟩;obtain ⟨MM,aw⟩:∃ MM:MsL,MM=⟨B,B+1,B+1+1,B+1+1+1,B+1+1+1+1⟩:=⟨_,rfl⟩;obtain ⟨w2,ah⟩:∃ w2,w2=(((((w1.alloc (.map #[] 0)).alloc (.map #[] 0)).alloc (.map #[] 0)).alloc (.map #[] 0)).alloc (.map #[] 0)).alloc (.cells #[.slice h.co m.cl.length h.cc,.slice h.so m.st.length h.sc,.slice h.eo m.me.length h.ec,.int .i64 m.sel,.map (some B),.map (some (B+1)),.map (some (B+1+1)),.map (some (B+1+1+1)),.map (some (B+1+1+1+1))] 176):=⟨_,rfl⟩;have HI:=Zh (show SzI w0 w2 A MM h m 0 0 by rw [ah,ax,aw];exact SzI.init H HB.out hB);have aX:=Zh ah;have aY:=Zh (show Blk w2 X (HM.mk h m) 26 by rw [ah];exact ((((((HX.out.alloc _).alloc _).alloc _).alloc _).alloc _).alloc _));have aD:=Zh (show w0.heap.size≤A∧∀ x∈MM.s,w0.heap.size≤x from by
  have:=HB.out.size;refine ⟨by omega,fun x hx=>?_⟩;rw [aw] at hx;simp only [MsL.s,List.mem_cons,List.not_mem_nil,or_false] at hx;omega)
 have HV:=Zh hv;have Hj:=Zh H;have HN:=Zh (Zir hv).2.1;have aS:=Zh hB;have aV:=Zh ax;clear ag ah hX hB H aw hv ax;have ba:=@run_makeMap Tryz.prog;go_enter Tryz.func76,Tryz.ntmps76
 go_upto_region 1 with fail
 rw [←HW.out,←aZ.out];obtain ⟨x0,x1,x2,x3⟩:=Zj8 HX.out
 go_upto_region 2 with fail
 clear ba x0 x1 x2 x3;rw [←aS.out,←aX.out,←aV.out];have x2:=aY.out.cell 2 (v:=.slice h.eo m.me.length h.ec) rfl
 go_wp2_with fail
 clear x2
 go_loopw [21] (fun i wr=>∃ k:Nat,k≤m.me.length∧i=.int .i64 k∧Hid (SzI w0 wr A MM h m k 0)) (fun i _=>m.me.length-(intOf i).toNat)
 case atStart=>exact ⟨0,Nat.zero_le _,rfl,HI.out⟩
 case round=>
  obtain ⟨k,bH,rfl,ab⟩:=hrel;rename World=>wo;by_cases hk:k<m.me.length
  ·have a7:(k:Int) < m.me.length:=by omega
   have bI:IntKind.i64.wrap ((k:Int)+1)=((k+1:Nat):Int):=IntWalk.i64_in _ (by have:=HN.out;omega);obtain ⟨ad,aK,e0,e1,e2,e3,e4,e5,e6⟩:=(Hj.out.old ab.out.bw).mth hk;have af:=ZfQ HV.out hk;have aC:=Zh (show (cdM m k).length≤120 from af.z.2.2);have aE:=Zh (show ∀ i∈cdM m k,ZfU m k i from fun i hi=>ZfV (af.i i hi).1 (af.i i hi).2);have ac:=Zh (show ∀ w',Zaz w' h m→Zas w' (h.e k).ko (h.e k).kc (cdM m k) from fun w' h'=>h'.k k hk);have al:=Zh (fun w' (h':SzI w0 w' A MM h m k (cdM m k).length)=>h'.next hk);rw [show (m.me.getD k default).k.length=(cdM m k).length from rfl] at e6;generalize h.e k=y at e2 e3 e6 ac;generalize m.me.getD k default=x at e0 e1 e2 e3 e4 e5;obtain ⟨nm,c,pl,ll,⟨rk,rc⟩,bL⟩:=x;obtain ⟨po,pc,lo,lc,ko,kc⟩:=y;dsimp only at e0 e1 e2 e3 e4 e5 e6 ac;generalize hcd:cdM m k=cd at e6 ac aC aE al;have aB:=Zh hcd;clear af hcd;rw [aK];clear aK
   go_upto_region 5 with fail
   obtain ⟨Z,hZ⟩:∃ Z,Z=wo.heap.size:=⟨_,rfl⟩;obtain ⟨w3,ai⟩:∃ w3,w3=wo.alloc (.cells #[.string nm,.int .i64 c,.slice po pl.length pc,.slice lo ll.length lc,.int .i64 rk,.int .i64 rc,.slice ko cd.length kc] 70):=⟨_,rfl⟩;have aI:Below wo.heap.size wo w3:=by rw [ai];exact bE
   have a0:=Zh (show Blk w3 Z #[.string nm,.int .i64 c,.slice po pl.length pc,.slice lo ll.length lc,.int .i64 rk,.int .i64 rc,.slice ko cd.length kc] 70 by rw [ai,hZ];exact Blk.new _ _ _);have aT:=Zh (ab.out.old aI);rw [←ai,←hZ];clear ai aI hZ e0 e1 e2 e3 e4 e5 e6;have z6:=a0.out.cell 6 (v:=.slice ko cd.length kc) rfl
   go_wp2_with fail
   clear z6
   go_loopw [28] (fun i wr=>∃ p:Nat,p≤cd.length∧i=.int .i64 p∧Hid (SzI w0 wr A MM h m k p)) (fun i _=>cd.length-(intOf i).toNat)
   case atStart=>exact ⟨0,Nat.zero_le _,rfl,aT.out⟩
   case round=>
    obtain ⟨p,hp,rfl,ap⟩:=hrel;rename World=>wp;by_cases hpl:p<cd.length
    ·have aN:(p:Int) < cd.length:=by omega
     have bJ:IntKind.i64.wrap ((p:Int)+1)=((p+1:Nat):Int):=IntWalk.i64_in _ (by have:=aC.out;omega);obtain ⟨kd,a9,o0,o1,o2⟩:=ZaB (ac.out _ (Hj.out.old ap.out.bw)) hpl;have am:=aE.out _ (ZfX (default:In3) hpl);have N:p<(cdM m k).length:=by rw [aB.out];exact hpl
     have W:cd.getD p default=(cdM m k).getD p default:=by rw [aB.out]
     obtain ⟨it,aM⟩:∃ q,q=cd.getD p default:=⟨_,rfl⟩;rw [←aM] at o0 o1 o2 am W;have j:=Zh W;subst a9;obtain ⟨op,ia,J⟩:=it;dsimp only at o0 o1 o2;clear aM W
     go_upto_region 8 with fail
     obtain ⟨I,hI⟩:∃ I,I=wp.heap.size:=⟨_,rfl⟩;obtain ⟨K,aj⟩:∃ K,K=wp.alloc (.cells #[.int .i64 op,.int .i64 ia,.int .i64 J] 72):=⟨_,rfl⟩;have aJ:Below wp.heap.size wp K:=by rw [aj];exact bE
     have u:=Zh (show Blk K I #[.int .i64 op,.int .i64 ia,.int .i64 J] 72 by rw [aj,hI];exact Blk.new _ _ _);have HS5:=Zh (ap.out.old aJ);rw [←aj,←hI];clear aj aJ hI o0 o1 o2;have i0:=u.out.cell 0 (v:=.int .i64 op) rfl;have i1:=u.out.cell 1 (v:=.int .i64 ia) rfl;have i2:=u.out.cell 2 (v:=.int .i64 J) rfl;by_cases q14:op=14
     ·subst q14;have aH:=am.a0 (show (14:Int)≠1 by decide);dsimp only at aH;have aq:=Zh (fun w w' (h':SzI w0 w A MM h m k p)=>h'.new (w':=w') N (by rw [←j.out]) (by rw [←j.out];exact aH));rw [←j.out] at aq;dsimp only at aq
      go_upto_region 10 with fail
      clear i0 i1 i2;have s5:=HS5.out.bk.cell 5 (v:=.map (some MM.a)) rfl;have i1:=u.out.cell 1 (v:=.int .i64 ia) rfl;refine rO (Cs [(⟨A,5,none⟩,.map (some MM.a)),(⟨I,1,none⟩,.int .i64 ia)]) (oL [0,1,2,3,4,5,106]) ⟨s5,i1,trivial⟩ ?_
      repeat refine pO ?_
      have L:=Zh (HS5.out.old (Below.refl _ K).drew);refine oO fun Kv hK=>?_;refine Znv Znm Tryz.underlying150 _ _ _ rfl (M:=MM.a) rfl L.out.ma ia rfl (.bool true) rfl ?_;intro w7 aO ae;refine hK _ _ ⟨⟨(ZrO L.out.bk ae fun e=>Zp1 L.out.bk L.out.ma.map (Option.some.inj e).symm).cell 5 rfl,(ZrO u.out.drew ae fun e=>Zp1 u.out.drew L.out.ma.map (Option.some.inj e).symm).cell 1 rfl,trivial⟩,Zd7 ?_⟩;have HEnd:=Zh (aq.out K.drew w7 L.out ae aO);clear hK Kv aO ae s5 i1
      go_wp2_with fail
      exact ⟨⟨p+1,hpl,rfl,HEnd.out⟩,by simp [intOf];omega⟩
     have bw:(op == 14)=false:=by simpa using q14
     by_cases q15:op=15
     ·subst q15
      go_upto_region 13 with fail
      clear i0 i1 i2;obtain ⟨T,hT⟩:∃ T,T=K.heap.size:=⟨_,rfl⟩;obtain ⟨G,r⟩:∃ G,G=K.alloc (.cells #[.int .i64 3,.int .i64 0] 38):=⟨_,rfl⟩;have F:Below K.heap.size K G:=by rw [r];exact bE
      have ar:=Zh (show Blk G T #[.int .i64 3,.int .i64 0] 38 by rw [r,hT];exact Blk.new _ _ _);have R:=Zh (HS5.out.old F);have an:=Zh (u.out.old F);rw [←r,←hT];clear r F hT;have V:LnT ⟨3,0⟩:=.inl ⟨rfl,rfl⟩;have E:=Zh (show B3L G.drew A T I h m MM ⟨3,0⟩ ⟨15,ia,J⟩ from ⟨R.out.bk.drew,ar.out.drew,an.out.drew⟩);have C:=Zh (R.out.old (Below.refl _ G).drew);obtain ⟨f,hf,hL⟩:=C.out.ln;have O:=Zh hf;have U:=Zh hL;obtain ⟨ao,cap,z,aa,Y⟩:=hL.get V;have HWl:=Zh z;have D:=Zh aa;have HNe:=Zh Y;have HZl:=Zh (ZrN HV.out (t:=⟨3,0⟩) hk N);have HFin:=Zh (fun w w1 w2 w3 w4 ao' cap' (hI:SzI w0 w A MM h m k p)=>hI.len (t:=⟨3,0⟩) (f:=f) (w1:=w1) (w2:=w2) (w3:=w3) (w4:=w4) (ao:=ao) (ao':=ao') (cap':=cap') (cap:=cap) N V (by rw [←j.out];exact ZrL rfl) (by rw [←j.out];show (15:Int)≠14;decide));rw [←j.out] at HFin;dsimp only at HFin;generalize Zq7 m ⟨3,0⟩ k p=zs at HWl D HZl HFin;clear hf hL z aa Y;refine rO (Cs [(⟨A,4,none⟩,.map (some MM.l)),(⟨T,0,none⟩,.int .i64 3),(⟨T,1,none⟩,.int .i64 0),(⟨I,1,none⟩,.int .i64 ia)]) (oL [0,1,2,3,4,5,6,107,108,9,11,110,112]) E.out.cs ?_
      repeat refine pO ?_
      generalize G.drew=wd at E C O U D ⊢;refine oO fun Kv hK=>?_;go_simp;obtain ⟨b,hb⟩:∃ b,b=wd.heap.size:=⟨_,rfl⟩;obtain ⟨wb,s⟩:∃ wb,wb=wd.alloc (.cells #[.int .i64 ia] 3):=⟨_,rfl⟩;have g:Below wd.heap.size wd wb:=by rw [s];exact bE
      have HBl:=Zh (show Blk wb b #[.int .i64 ia] 3 by rw [s,hb];exact Blk.new _ _ _);rw [←s,←hb];have HIb:=Zh (C.out.old g);have HS4:=Zh (E.out.old g);have HOb:=Zh (D.out.old g);have HFb:=Zh (O.out.old g);have HLb:=Zh (U.out.old g);refine hK _ _ ⟨HS4.out.cs,?_⟩;clear hK Kv s hb g;refine oO fun Kv hK=>?_;refine Zns Zno Tryz.underlying173 _ _ rfl (M:=MM.l) (f:=f) rfl HFb.out (Zrj _) ⟨3,0⟩ rfl ?_;exact j0
     have bx:(op == 15)=false:=by simpa using q15
     by_cases q16:op=16
     ·subst q16
      go_upto_region 16 with fail
      clear i0 i1 i2;obtain ⟨T,hT⟩:∃ T,T=K.heap.size:=⟨_,rfl⟩;obtain ⟨G,r⟩:∃ G,G=K.alloc (.cells #[.int .i64 4,.int .i64 J] 38):=⟨_,rfl⟩;have F:Below K.heap.size K G:=by rw [r];exact bE
      have ar:=Zh (show Blk G T #[.int .i64 4,.int .i64 J] 38 by rw [r,hT];exact Blk.new _ _ _);have R:=Zh (HS5.out.old F);have an:=Zh (u.out.old F);rw [←r,←hT];clear r F hT;have V:LnT ⟨4,J⟩:=.inr rfl;have E:=Zh (show B3L G.drew A T I h m MM ⟨4,J⟩ ⟨16,ia,J⟩ from ⟨R.out.bk.drew,ar.out.drew,an.out.drew⟩);have C:=Zh (R.out.old (Below.refl _ G).drew);obtain ⟨f,hf,hL⟩:=C.out.ln;have O:=Zh hf;have U:=Zh hL;obtain ⟨ao,cap,z,aa,Y⟩:=hL.get V;have HWl:=Zh z;have D:=Zh aa;have HNe:=Zh Y;have HZl:=Zh (ZrN HV.out (t:=⟨4,J⟩) hk N);have HFin:=Zh (fun w w1 w2 w3 w4 ao' cap' (hI:SzI w0 w A MM h m k p)=>hI.len (t:=⟨4,J⟩) (f:=f) (w1:=w1) (w2:=w2) (w3:=w3) (w4:=w4) (ao:=ao) (ao':=ao') (cap':=cap') (cap:=cap) N V (by rw [←j.out];exact ZrM rfl) (by rw [←j.out];show (16:Int)≠14;decide));rw [←j.out] at HFin;dsimp only at HFin;generalize Zq7 m ⟨4,J⟩ k p=zs at HWl D HZl HFin;clear hf hL z aa Y;refine rO (Cs [(⟨A,4,none⟩,.map (some MM.l)),(⟨T,0,none⟩,.int .i64 4),(⟨T,1,none⟩,.int .i64 J),(⟨I,1,none⟩,.int .i64 ia)]) (oL [0,1,2,3,4,5,6,107,108,9,11,110,112]) E.out.cs ?_
      repeat refine pO ?_
      generalize G.drew=wd at E C O U D ⊢;refine oO fun Kv hK=>?_;go_simp;obtain ⟨b,hb⟩:∃ b,b=wd.heap.size:=⟨_,rfl⟩;obtain ⟨wb,s⟩:∃ wb,wb=wd.alloc (.cells #[.int .i64 ia] 3):=⟨_,rfl⟩;have g:Below wd.heap.size wd wb:=by rw [s];exact bE
      have HBl:=Zh (show Blk wb b #[.int .i64 ia] 3 by rw [s,hb];exact Blk.new _ _ _);rw [←s,←hb];have HIb:=Zh (C.out.old g);have HS4:=Zh (E.out.old g);have HOb:=Zh (D.out.old g);have HFb:=Zh (O.out.old g);have HLb:=Zh (U.out.old g);refine hK _ _ ⟨HS4.out.cs,?_⟩;clear hK Kv s hb g;refine oO fun Kv hK=>?_;refine Zns Zno Tryz.underlying173 _ _ rfl (M:=MM.l) (f:=f) rfl HFb.out (Zrj _) ⟨4,J⟩ rfl ?_;exact j0
     have bz:(op == 16)=false:=by simpa using q16
     have aU:=Zh (HS5.out.skip N (by rw [←j.out];exact ⟨q14,q15,q16⟩))
     go_wp2_with fail
     exact ⟨⟨p+1,hpl,rfl,aU.out⟩,by simp [intOf];omega⟩
    ·have aN:¬ (p:Int) < cd.length:=by omega
     have bb:p=cd.length:=by omega
     subst bb
     go_wp2_with fail
     exact ⟨⟨k+1,hk,rfl,al.out _ ap.out⟩,by simp [intOf];omega⟩
  ·have a7:¬ (k:Int) < m.me.length:=by omega
   have a8:k=m.me.length:=by omega
   subst a8
   go_wp2_with fail
   go_ret;exact ⟨A,MM,rfl,ab.out.fin,ab.out.bw,aD.out.1,aD.out.2⟩
end
section
open Go.RowKit
def ZrR (m:Md) (k p:Nat) (a:T3):Prop:=ZpR m k=ZpQ m (ZpR m) k ((cdM m k).length+1-p) p a∧BdT a
theorem ZrR.zero {m:Md} (hm:Za2 m=true) {k:Nat} (hk:k<m.me.length):ZrR m k 0 z3:=⟨ZpX hm hk,.z⟩
theorem ZrR.step {m:Md}{k p:Nat}{a:T3} (h:ZrR m k p a) (hp:p≤(cdM m k).length):ZpR m k=match ZpP m (ZpR m) k p with|none=>none|some x=>ZpQ m (ZpR m) k ((cdM m k).length-p) (p+1) (mxT a x):=by rw [h.1,show (cdM m k).length+1-p=(cdM m k).length-p+1 by omega];rfl
theorem ZrR.next {m:Md}{k p:Nat}{a x:T3} (h:ZrR m k p a) (hp:p≤(cdM m k).length) (hx:ZpP m (ZpR m) k p=some x) (hb:BdT x):ZrR m k (p+1) (mxT a x):=by refine ⟨?_,h.2.mx hb⟩;rw [h.step hp,hx,show (cdM m k).length+1-(p+1)=(cdM m k).length-p by omega]
theorem ZrR.no {m:Md}{k p:Nat}{a:T3} (h:ZrR m k p a) (hp:p≤(cdM m k).length) (hx:ZpP m (ZpR m) k p=none):ZpR m k=none:=by rw [h.step hp,hx]
theorem ZrR.fin {m:Md}{k:Nat}{a:T3} (h:ZrR m k ((cdM m k).length+1) a):ZpR m k=some a:=by rw [h.1,Nat.sub_self];rfl
section
variable {m:Md}{T:Nat→Option T3}{k p:Nat}
include m T k p
theorem ZrS (a:¬ p<(cdM m k).length):ZpP m T k p=ZpO m k p:=by
 unfold ZpP;cases ZpO m k p with
 | none=>rfl
 | some x=>dsimp only;rw [if_neg a]
theorem ZrT (a:p<(cdM m k).length) {x y:T3} (b:ZpO m k p=some x) (hy:ZpM m T ((cdM m k).getD p default)=some y):ZpP m T k p=some (plT x y):=by unfold ZpP;rw [b];dsimp only;rw [if_pos a,hy]
theorem ZrU (a:ZpO m k p=none):ZpP m T k p=none:=by unfold ZpP;rw [a]
theorem ZrV (a:p<(cdM m k).length) (hy:ZpM m T ((cdM m k).getD p default)=none):ZpP m T k p=none:=by
 unfold ZpP;cases ZpO m k p with
 | none=>rfl
 | some x=>dsimp only;rw [if_pos a,hy]
end
def ZrW (T:Nat→Option T3) (l:List Int) (q:Nat) (a:T3):Prop:=ZpL T z3 l=ZpL T a (l.drop q)∧BdT a
theorem ZrW.zero (T:Nat→Option T3) (l:List Int):ZrW T l 0 z3:=⟨rfl,.z⟩
section
variable {T:Nat→Option T3}{l:List Int}
include T l
theorem ZrW.step {q:Nat} {a:T3} (h:ZrW T l q a) (hq:q<l.length):ZpL T z3 l=match T (l.getD q 0).toNat with|none=>none|some x=>ZpL T (mxT a x) (l.drop (q+1)):=by
 have:l.drop q=l.getD q 0 :: l.drop (q+1):=by rw [List.drop_eq_getElem_cons hq];simp [hq]
 rw [h.1,this];rfl
theorem ZrW.next {q:Nat} {a x:T3} (h:ZrW T l q a) (hq:q<l.length) (hx:T (l.getD q 0).toNat=some x) (hb:BdT x):ZrW T l (q+1) (mxT a x):=by refine ⟨?_,h.2.mx hb⟩;rw [h.step hq,hx]
theorem ZrW.no {q:Nat} {a:T3} (h:ZrW T l q a) (hq:q<l.length) (hx:T (l.getD q 0).toNat=none):ZpL T z3 l=none:=by rw [h.step hq,hx]
theorem ZrW.fin {a:T3} (h:ZrW T l l.length a):ZpL T z3 l=some a:=by rw [h.1,List.drop_length];rfl
end
def ZrX (S:Nat) (M:MsL) (h:Hd) (m:Md):Prop:=∀ w ao cap (l:List Ty),Zp4 w S M h m []→Zas w ao cap l→(∀ t∈l,Zfk m t)→l.length≤100000 →
 Calls Tryz.prog 80 #[ZQ.p S,.slice ao l.length cap] w (Zp8 w S M h m [] (ZnY (Zn2 m) z3 l) (ZnY (Zn2 m) z3 l=none))
def PtC (S:Nat) (M:MsL) (h:Hd) (m:Md):Prop:=∀ w (k p:Nat),Zp4 w S M h m []→k<m.me.length→p≤(cdM m k).length →
 Calls Tryz.prog 94 #[ZQ.p S,.int .i64 k,.int .i64 p] w (Zp8 w S M h m [] (ZpO m k p) (ZpO m k p=none))
def ZrY (S:Nat) (M:MsL) (h:Hd) (m:Md) (k:Nat):Prop:=∀ w,Zp4 w S M h m [] →
 Calls Tryz.prog 96 #[ZQ.p S,.int .i64 k] w (Zp8 w S M h m [] (ZpR m k) (ZpR m k=none))
end
section
open Go.RowKit
attribute [local go_sem] World.cell?_alloc_some
section
variable {S:Nat}{M:MsL}{h:Hd}{m:Md}
theorem ZrZ (b:okL m):∀ n,Zqa S M h m n∧Zqb S M h m n:=by
 intro n
 induction n using Nat.strongRecOn with
 | ind n ih=>
  have a:=ZrK (S:=S) (M:=M) (h:=h) b fun v c=>(ih v c).2;exact ⟨a,Zry b a⟩
theorem Zr0 (b:okL m) {c:Nat} (a:c<m.cl.length) (w:World) (H:Zp4 w S M h m []):Calls Tryz.prog 90 #[ZQ.p S,.int .i64 c] w (Zp8 w S M h m [] (Zn1 m c) (Zot m [] c)):=
 (ZrZ b m.cl.length).1 w [] c H List.nodup_nil (fun u d=>by cases d) (by simp) a
theorem Zr1 (a:okL m) {t:Ty} (b:Zfk m t) (w:World) (H:Zp4 w S M h m []):Calls Tryz.prog 77 #[ZQ.p S,.agg #[.int .i64 t.k,.int .i64 t.c]] w (Zp8 w S M h m [] (Zn2 m t) (Zp9 m [] t)):=
 (ZrZ a m.cl.length).2 w [] t H List.nodup_nil (fun u c=>by cases c) (by simp) b
theorem Zr2 {m:Md}{l:List Ty}{z:T3}{t:Ty} (b:t∈l) (a:Zp9 m [] t):ZnY (Zn2 m) z l=none:=Zom b a.nil
theorem Zr3 (ho:okL m):ZrX S M h m:=by
 intro w ao aV l H hr aa hl;obtain ⟨R,hR⟩:∃ R,R=w.heap.size:=⟨_,rfl⟩;obtain ⟨w0,d⟩:∃ w0,w0=(w.alloc (.cells #[.int .i64 0,.int .i64 0,.int .i64 0] 45)).alloc (.cells #[.int .i64 0,.int .i64 0,.int .i64 0] 45):=⟨_,rfl⟩;have HB:=Zh (show Below w.heap.size w w0 by rw [d];exact bE);have HR:=Zh (show Blk w0 R (cl3 0 0 0) 45 by rw [d,hR];exact (Blk.new _ _ _).alloc _);have HO:=Zh (show Blk w0 (R+1) (cl3 0 0 0) 45 by rw [d,hR];exact Blk.new' (w:=w.alloc _) _ _ (by simp));have HW:=Zh d;have c:=Zh hR;have O:=Zh (show w.heap.size≤R by omega);have ar:=Zh (show w.heap.size≤R+1 by omega);clear hR;have HH:=Zh H;have al:=Zh ((FrO.start H).old HB.out);have N:=Zh hr;have ay:=Zh aa;have az:=Zh (fun w' (t:Ty) (h':Zp4 w' S M h m []) (ht:Zfk m t)=>Zr1 ho ht w' h');clear d H hr aa;go_enter Tryz.func80,Tryz.ntmps80
 go_upto_region 2 with fail
 rw [←HW.out,←c.out]
 go_wp2_with fail
 go_loopw [13] (fun i wr=>∃ (q:Nat) (s:T3),q≤l.length∧i=.int .i64 q∧Hid (FrO w wr S M h m [])∧Hid (Zqv m z3 l q s)∧Hid (Blk wr R (cl3 0 0 0) 45)∧Hid (Blk wr (R+1) (cl3 s.1 s.2.1 s.2.2) 45)) (fun i _=>l.length-(intOf i).toNat)
 case atStart=>exact ⟨0,z3,Nat.zero_le _,rfl,al.out,Zqv.zero .z,HR.out,HO.out⟩
 case round=>
  obtain ⟨q,s,hq,rfl,C,j,c,D⟩:=hrel;rename World=>wq;obtain ⟨s0,s1,s2⟩:=s;dsimp only at D;by_cases hql:q<l.length
  ·have X:(q:Int) < l.length:=by omega
   have a1:IntKind.i64.wrap ((q:Int)+1)=((q+1:Nat):Int):=IntWalk.i64_in _ (by omega);obtain ⟨fd,aC,t0,t1⟩:=ZaA (Znb N.out C.out.kp) hql;have L:=Zh (fun x hx hb=>j.out.next hql (x:=x) hx hb);have E:=Zh (ZfX (default:Ty) hql);have P:=Zh (ay.out _ E.out);generalize l.getD q default=t at t0 t1 L E P;have Q:=Zh (fun w' (h':Zp4 w' S M h m [])=>az.out w' t h' P.out);obtain ⟨tk,tc⟩:=t;dsimp only at t0 t1 Q;subst aC
   go_upto_region 5 with fail
   obtain ⟨w7,y⟩:∃ w7,w7=wq.alloc (.cells #[.int .i64 tk,.int .i64 tc] 38):=⟨_,rfl⟩;have o:Below wq.heap.size wq w7:=by rw [y];exact bE
   have ax:=Zh (show Blk w7 wq.heap.size #[.int .i64 tk,.int .i64 tc] 38 by rw [y];exact Blk.new _ _ _);have f:=Zh (C.out.old o);have au:=Zh (c.out.old o);have ap:=Zh (D.out.old o);rw [←y];clear y o t0 t1;obtain ⟨t0,t1⟩:=Zj9 ax.out
   go_upto_region 6 with (go_at_call 77;refine (Q.out _ f.out.sz).mono ?_;rintro e w8 ⟨Z,u,V,⟨x0,x1,x2⟩,ok,rfl,U,ab,W⟩;(try simp only [ag3]);have av:=Zh (f.out.sz.own au.out u);have aq:=Zh (f.out.sz.own ap.out u);have am:=Zh (f.out.call Z u V);have HE:=Zh (And.intro U (And.intro ab W));clear Z u V U ab W t0 t1)
   obtain ⟨Y,hY⟩:∃ Y,Y=w8.heap.size:=⟨_,rfl⟩;obtain ⟨w9,z⟩:∃ w9,w9=w8.alloc (.cells #[.int .i64 x0,.int .i64 x1,.int .i64 x2] 45):=⟨_,rfl⟩;have r:Below w8.heap.size w8 w9:=by rw [z];exact bE
   have aA:=Zh (show Blk w9 Y (cl3 x0 x1 x2) 45 by rw [z,hY];exact Blk.new _ _ _);have K:=Zh (am.out.old r);have g:=Zh (av.out.old r);have b:=Zh (aq.out.old r);rw [←z,←hY];clear z r hY;cases ok
   ·obtain ⟨r0,r1,r2⟩:=g.out.c3;obtain ⟨f0,f1,f2⟩:=g.out.f3
    go_wp2_with fail
    have A:=Zrx HH.out K.out g.out O.out ((0,0,0):T3);have F:=A.2.c3.1;have G:=A.2.c3.2.1;have J:=A.2.c3.2.2;exact bodyPost_ret (v:=.tuple #[ag3 ((0,0,0):T3),.bool false]) (by simp [results,Tryz.results80,go_sem,ag3,F,G,J]) rfl (A.1.val rfl .z (fun e=>by cases e) (fun _=>Zr2 E.out (HE.out.2.2 (by first|rfl|trivial))))
   ·obtain ⟨m0,m1,m2⟩:=b.out.c3;obtain ⟨y0,y1,y2⟩:=aA.out.c3;have ml:=b.out.lt
    go_wp2_with (go_at_call 85;refine (Zpd (s0,s1,s2) (x0,x1,x2) _ j.out.2 HE.out.1).mono ?_;rintro e a7 ⟨rfl,B⟩;(try simp only [ag3]);have a:=Zh B;clear B m0 m1 m2 y0 y1 y2 ml;obtain ⟨m0,m1,m2⟩:=(b.out.old a.out).c3;obtain ⟨g0,g1,g2⟩:=(b.out.old a.out).f3;have ml:=(b.out.old a.out).lt)
    refine ⟨⟨q+1,_,hql,rfl,FrO.set3 HH.out (K.out.old a.out) (b.out.old a.out) ar.out _ _ _,L.out _ (HE.out.2.1 (by first|rfl|trivial)) HE.out.1,?_,Zmx (b.out.old a.out)⟩,by simp [intOf];omega⟩;exact ((((g.out.old a.out).other (show R≠R+1 by omega) _).other (show R≠R+1 by omega) _).other (show R≠R+1 by omega) _)
  ·have X:¬ (q:Int) < l.length:=by omega
   have aD:q=l.length:=by omega
   subst aD;have aw:=Zh j.out.2;obtain ⟨m0,m1,m2⟩:=D.out.c3;obtain ⟨r0,r1,r2⟩:=c.out.c3;obtain ⟨f0,f1,f2⟩:=c.out.f3
   go_wp2_with fail
   have A:=Zrx HH.out C.out c.out O.out (s0,s1,s2);have F:=A.2.c3.1;have G:=A.2.c3.2.1;have J:=A.2.c3.2.2;exact bodyPost_ret (v:=.tuple #[ag3 (s0,s1,s2),.bool true]) (by simp [results,Tryz.results80,go_sem,ag3,F,G,J]) rfl (A.1.val rfl aw.out (fun _=>j.out.fin) (fun e=>by cases e))
end
end
section
open Go.RowKit
attribute [local go_sem] World.cell?_alloc_some
theorem Zr4 {m:Md}{t:Ty} (a:Za2 m=true):ZqV m t 1=ZaG m.cl.length t 1:=by
 unfold ZqV;rw [a,Bool.true_and];cases h:ZaG m.cl.length t 1
 ·rw [Bool.and_false]
 ·rw [Bool.and_true];unfold ZaG at h;simp only [Bool.and_eq_true,decide_eq_true_eq];split at h
  ·omega
  ·split at h
   ·simp at h;omega
   ·cases h
theorem Zr5 (m:Md) (h:Hd) (t:Ty) (w:World) (H:Zaz w h m):Calls Tryz.prog 23 #[.agg (HM.mk h m),.agg #[.int .i64 t.k,.int .i64 t.c]] w (Zpi (ZqJ m t) w):=by
 obtain ⟨R,q⟩:∃ R,R=((w.alloc (.cells (HM.mk h m) 26)).alloc (.cells #[.int .i64 t.k,.int .i64 t.c] 38)).alloc (.cells #[.int .i64 0,.int .i64 0,.int .i64 0] 45):=⟨_,rfl⟩;have HB:=Zh (show Below w.heap.size w R by rw [q];exact bE);obtain ⟨X,hX⟩:∃ X,X=w.heap.size:=⟨_,rfl⟩;have HX:=Zh (show Blk R X (HM.mk h m) 26 by rw [q,hX];exact ((Blk.new _ _ _).alloc _).alloc _);have HT:=Zh (show Blk R (X+1) #[.int .i64 t.k,.int .i64 t.c] 38 by rw [q,hX];exact (Blk.new' (w:=w.alloc _) _ _ (by simp)).alloc _);have J:=Zh (show Blk R (X+1+1) (cl3 0 0 0) 45 by rw [q,hX];exact Blk.new' (w:=(w.alloc _).alloc _) _ _ (by simp));have HW:=Zh q;have ao:=Zh hX;have ap:=Zh (show w.heap.size≤X+1+1 by omega);clear hX;have Hj:=Zh (H.old HB.out);have L:=Zh (ZqU m h R Hj.out);have j:=Zh (fun w' (h':Zaz w' h m)=>ZqW m h t 1 w' h');have O:=Zh (show ∀ (x:T3) (Z:Bool),(Z=true→Zn2 m t=some x)→(Z=false→Zp9 m [] t)→∀ w',Calls Tryz.prog 75 #[ag3 x,.bool Z] w' (Zpi (Zph (Zn2 m t)) w') from fun x Z h1 h2 w'=>by
  cases Z
  ·rw [(h2 rfl).nil];exact Zpj x w'
  ·rw [h1 rfl];exact Zpk x w')
 clear q H;by_cases hq:okL m∧Zfk m t
 ·obtain ⟨E,ht⟩:=hq;have hm:=E.v;have C:ZqJ m t=Zph (Zn2 m t):=if_pos ⟨E,ht⟩;rw [C];have aO:=Zh (fun w' (h':Zaz w' h m)=>ZrQ m h w' h' hm);have U:=Zh (fun S M w' (h':Zp4 w' S M h m [])=>Zr1 E ht w' h');rw [Zr4 hm,show ZaG m.cl.length t 1=true from ht] at j;rw [decide_eq_true E] at L;generalize Zn2 m t=v at O U ⊢;generalize Zph v=r at O ⊢;obtain ⟨⟨e0,e1,e2⟩,er⟩:=r;obtain ⟨tk,tc⟩:=t;dsimp only at HT HW j U;clear C E ht hm;go_enter Tryz.func23,Tryz.ntmps23
  go_upto_region 1 with fail
  rw [←HW.out,←ao.out];obtain ⟨x0,x1,x2,x3⟩:=Zj8 HX.out
  go_upto_region 3 with (first
   | (go_at_call 73;refine L.out.mono ?_;rintro e w1 ⟨rfl,u⟩;(try simp only [ag3]);have b:=Zh u;clear u x0 x1 x2 x3;obtain ⟨x0,x1,x2,x3⟩:=Zj8 (HX.out.old b.out);obtain ⟨t0,t1⟩:=Zj9 (HT.out.old b.out))
   | (go_at_call 74;refine (j.out _ (Hj.out.old b.out)).mono ?_;rintro e w2 ⟨rfl,A⟩;(try simp only [ag3]);have g:=Zh (Zag b.out A);clear A x0 x1 x2 x3 t0 t1))
  have aR:=Zh (HX.out.old g.out);have aP:=Zh (HT.out.old g.out);have a3:=Zh (J.out.old g.out);have HC:=Zh (show ∀ w',Blk w' X (HM.mk h m) 26→Blk w' (X+1) #[.int .i64 tk,.int .i64 tc] 38→Cs [(⟨X,0,none⟩,.slice h.co m.cl.length h.cc),(⟨X,1,none⟩,.slice h.so m.st.length h.sc),(⟨X,2,none⟩,.slice h.eo m.me.length h.ec),(⟨X,3,none⟩,.int .i64 m.sel),(⟨X+1,0,none⟩,.int .i64 tk),(⟨X+1,1,none⟩,.int .i64 tc)] w' from fun w' h1 h2=>⟨h1.cell 0 rfl,h1.cell 1 rfl,h1.cell 2 rfl,h1.cell 3 rfl,h2.cell 0 rfl,h2.cell 1 rfl,trivial⟩);refine rO (Cs [(⟨X,0,none⟩,.slice h.co m.cl.length h.cc),(⟨X,1,none⟩,.slice h.so m.st.length h.sc),(⟨X,2,none⟩,.slice h.eo m.me.length h.ec),(⟨X,3,none⟩,.int .i64 m.sel),(⟨X+1,0,none⟩,.int .i64 tk),(⟨X+1,1,none⟩,.int .i64 tc)]) (oL [0,2,101,103,4,5,106,7,8,109,10]) (HC.out _ aR.out.drew aP.out.drew) ?_
  (refine pO ?_)
  (refine pO ?_)
  refine oO fun V s=>?_;go_simp;refine (aO.out _ (Hj.out.old (Zag g.out (Below.refl _ _).drew))).mono ?_;rintro e w3 ⟨S,M,rfl,au,ar,aS,W⟩
  try simp only [ag3]
  have N:=Zh au;have G:=Zh (Zag g.out (Zag (Below.refl _ w2).drew ar));have aL:=Zh (show ∀ x∈M.s,R.heap.size≤x from fun x hx=>by have:=W x hx;have:=g.out.size;exact Nat.le_trans this (W x hx));have al:=Zh (HX.out.old G.out);have ai:=Zh (HT.out.old G.out);have aM:=Zh (J.out.old G.out);refine s _ _ ⟨HC.out _ al.out ai.out,?_⟩;clear s V au ar aS W;refine oO fun V s=>?_;go_simp;refine (U.out S M _ N.out).mono ?_;rintro e w4 ⟨aX,D,aV,⟨y0,y1,y2⟩,Z,rfl,aU,hy,hn⟩
  try simp only [ag3]
  have am:=Zh (N.out.own al.out D);have aj:=Zh (N.out.own ai.out D);have aN:=Zh (N.out.own aM.out D);have aJ:=Zh (D.below G.out (Nat.le_refl _) aL.out);have aQ:=Zh (O.out (y0,y1,y2) Z hy hn);refine s _ _ ⟨HC.out _ am.out aj.out,?_⟩;clear s V aX D aV aU hy hn
  (refine pO ?_)
  (refine pO ?_)
  refine oO fun V s=>?_;go_simp;refine (aQ.out _).mono ?_;rintro e w5 ⟨rfl,B⟩
  try simp only [ag3]
  have an:=Zh (am.out.old B);have ak:=Zh (aj.out.old B);have K:=Zh (aN.out.old B);have aK:=Zh (Zag aJ.out B);refine s _ _ ⟨HC.out _ an.out ak.out,?_⟩;clear s V B
  (refine pO ?_)
  (refine pO ?_)
  refine oO fun V s=>?_;obtain ⟨r0,r1,r2⟩:=K.out.c3;obtain ⟨f0,f1,f2⟩:=K.out.f3;have rl:=K.out.lt;go_simp;have Y:=Zmx (x:=e0) (y:=e1) (z:=e2) K.out;refine s _ _ ⟨HC.out _ (((an.out.other (show X≠X+1+1 by omega) _).other (show X≠X+1+1 by omega) _).other (show X≠X+1+1 by omega) _) (((ak.out.other (show X+1≠X+1+1 by omega) _).other (show X+1≠X+1+1 by omega) _).other (show X+1≠X+1+1 by omega) _),?_⟩;clear s V r0 r1 r2 f0 f1 f2 rl
  (refine pO ?_)
  refine Zd7 ?_
  go_wp2_with fail
  exact ZoN (F:=X+1+1) Tryz.results23 rfl rfl rfl Y.c3.1 Y.c3.2.1 Y.c3.2.2 (Zmz (Zag HB.out aK.out) _ _ _ ap.out)
 ·have C:ZqJ m t=(z3,1):=if_neg hq;rw [C];have hb:decide (okL m)=false∨(decide (okL m)=true∧ZqV m t 1=false):=by
   by_cases E:okL m
   ·refine .inr ⟨decide_eq_true E,?_⟩;rw [Zr4 E.v];exact Bool.eq_false_iff.2 fun e=>hq ⟨E,e⟩
   ·exact .inl (decide_eq_false E)
  generalize ZqV m t 1=b2 at j hb;generalize decide (okL m)=b1 at L hb;obtain ⟨tk,tc⟩:=t;dsimp only at HT HW j;clear C hq O;rcases hb with rfl|⟨rfl,rfl⟩
  all_goals
   go_enter Tryz.func23,Tryz.ntmps23
   go_upto_region 1 with fail
   rw [←HW.out,←ao.out];obtain ⟨x0,x1,x2,x3⟩:=Zj8 HX.out
   go_wp2_with (first
    | (go_at_call 73;refine L.out.mono ?_;rintro e w1 ⟨rfl,u⟩;(try simp only [ag3]);have b:=Zh u;clear u x0 x1 x2 x3;obtain ⟨x0,x1,x2,x3⟩:=Zj8 (HX.out.old b.out);obtain ⟨t0,t1⟩:=Zj9 (HT.out.old b.out);have f:=Zh b.out;obtain ⟨r0,r1,r2⟩:=(J.out.old f.out).c3;obtain ⟨f0,f1,f2⟩:=(J.out.old f.out).f3;have rl:=(J.out.old f.out).lt)
    | (go_at_call 74;refine (j.out _ (Hj.out.old b.out)).mono ?_;rintro e w2 ⟨rfl,A⟩;(try simp only [ag3]);have f:=Zh (Zag b.out A);clear A x0 x1 x2 x3 t0 t1 r0 r1 r2 f0 f1 f2 rl;obtain ⟨r0,r1,r2⟩:=(J.out.old f.out).c3;obtain ⟨f0,f1,f2⟩:=(J.out.old f.out).f3;have rl:=(J.out.old f.out).lt))
   have Y:=Zmx (x:=0) (y:=0) (z:=0) (J.out.old f.out);exact ZoN (F:=X+1+1) Tryz.results23 rfl rfl rfl Y.c3.1 Y.c3.2.1 Y.c3.2.2 (Zmz (Zag HB.out f.out) _ _ _ ap.out)
end
