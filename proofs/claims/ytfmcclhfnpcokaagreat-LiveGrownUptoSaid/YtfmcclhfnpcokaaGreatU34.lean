import Derived.Test.YtfmcclhfnpcokaaGreatU33
import Derived.Test.YtfmcclhfnpcokaaGreatU31
set_option linter.all false
set_option maxRecDepth 100000
set_option maxHeartbeats 32000000
namespace Go.Proofs.YtfmcclhfnpcokaaGreat
section
open Go.RowKit
attribute [local go_sem] World.cell?_alloc_some
theorem ZrA {κ:Type} [DecidableEq κ] {enc:κ→Value}{i g:TypeId} (K:Zoa i enc) {t:TypeId} (q:Tryz.prog.underlying t=some (.map i g)) {z:Value}{w:World}{c:Array Oper}{b:List Oper}{o:Oper}{a:Act}{Q:Exit→Act→World→Prop} (l:o.guard=none) (m x:Operand) (e:Bool) (d:o.op=Op.lookup t m x e) {M:Nat}{f:κ→Option Value} (p:a.eval m=.map (some M)) (H:MpF enc w M f) (v:(zeroValue g).run Tryz.prog w=.ok z w) (k:κ) (s:a.eval x=enc k) (u:Value) (r:(if e then .tuple #[(f k).getD z,.bool (f k).isSome] else (f k).getD z)=u)
  (j:wpList Tryz.prog c Q b (a.put o.dst u) w):wpList Tryz.prog c Q (o :: b) a w:=by
 subst r;exact Zog K q l m x e d p H v k s j
theorem ZrB (U:List Nat) (c:Nat):(unF U (c:Int)).getD (.bool false)=.bool (decide (c∈U)):=by have:=ZoU (U:=U) (c:=c);unfold unF at this ⊢;exact j6
theorem ZrC (m:Md) (d:Nat):(mdF m (d:Int)).getD (.bool false)=.bool (ZmW m d):=by
 unfold mdF;rw [Int.toNat_natCast];cases h:ZmW m d
 ·rw [if_neg (by rintro ⟨-,q⟩;cases q)];rfl
 ·rw [if_pos ⟨by omega,rfl⟩];rfl
theorem ZrD {w:World}{M:Nat}{f:Int→Option Value} (H:MpF kI w M f) (k:Int) (ty:TypeId) (cs:Array Bool):∃ w',(invoke (.builtin .delete #[150,3] ty cs) #[.map (some M),.int .i64 k]).run Tryz.prog w=.ok (.value (.tuple #[])) w'∧MpF kI w' M (fun j=>if j=k then none else f j)∧w.grownBy w' (some M):=by obtain ⟨w',b,c,d⟩:=H.del Zoc Tryz.underlying150 (ty:=ty) k;refine ⟨w',?_,c,d⟩;have a:(Builtin.delete_ #[150,3] ty #[.map (some M),.int .i64 k]).run Tryz.prog w=.ok (.tuple #[]) w':=b;simp [invoke,builtin,a,Result.andThen]
section
variable {S:Nat}{M:MsL}{h:Hd}{m:Md}{n:Nat}
theorem ZrE {w0 w:World}{U:List Nat}{c:Nat} (i:c ∉ U) (F:FrO w0 w S M h m (c :: U)) {R:Nat}{d:Array Value}{t:TypeId} (a:Blk w R d t) (ty:TypeId) (cs:Array Bool):∃ w',(invoke (.builtin .delete #[150,3] ty cs) #[.map (some M.u),.int .i64 c]).run Tryz.prog w=.ok (.value (.tuple #[])) w'∧FrO w0 w' S M h m U∧Blk w' R d t:=by obtain ⟨w',f,g,b⟩:=ZrD F.sz.un c ty cs;exact ⟨w',f,F.putU b (g.congr fun j=>ZoT i j),(b.block _ a.lt fun e=>ZoO a F.sz.un.map (Option.some.inj e)).trans a⟩
theorem ZrF {P:Program}{b:Func}{R:Ending→World→Prop}{a:Act}{w w':World}{v:Value} (c:Znx P a.defers w w') (d:(results b a.tmps).run P w'=.ok v w') (h:R (.returned v) w'):Zny P b R .ret a w:=⟨w',v,c,d,h⟩
theorem ZrG (ho:okL m) (ih:∀ v,v<n→ZoY S M h m v):ZoX S M h m n:=by
 intro w U c H am hU hl hc;have hm:=ho.v;obtain ⟨g,hg,T⟩:=H.kn;obtain ⟨R,hR⟩:∃ R,R=w.heap.size:=⟨_,rfl⟩;obtain ⟨w0,ab⟩:∃ w0,w0=w.alloc (.cells #[.int .i64 0,.int .i64 0,.int .i64 0] 45):=⟨_,rfl⟩;have HB:=Zh (show Below w.heap.size w w0 by rw [ab];exact bE);have HR:=Zh (show Blk w0 R (cl3 0 0 0) 45 by rw [ab,hR];exact Blk.new _ _ _);have HW:=Zh ab;have aa:=Zh hR;have ay:=Zh (show w.heap.size≤R by omega);clear hR;have HH:=Zh H;have bv:=Zh ((FrO.start H).old HB.out);have HG:=Zh (hg.old HB.out);have HN:=Zh (Zir hm).1;have HV:=Zh hm;have cw:=Zh ho;have aX:=Zh hc;have s7:=(H.bk.old HB.out).cell 7 (v:=.map (some M.k)) rfl;obtain ⟨r0,r1,r2⟩:=HR.out.c3;obtain ⟨f0,f1,f2⟩:=HR.out.f3;have rl:=HR.out.lt;rcases T.at (d:=c) with hno|⟨⟨y0,y1,y2⟩,hy,hyc⟩
 rotate_left
 ·have HY:=Zh hy;have cN:=Zh hyc;have cM:=Zh (ZoD hm hc hyc);clear ab hg T H hy hyc am hU hl ih;refine ZnB Tryz.func90 rfl ?_;simp only [Tryz.ntmps90,List.size_toArray,List.length_cons,List.length_nil,Nat.reduceAdd,Nat.reduceSub,Array.replicate_succ,Array.replicate_zero,List.push_toArray,List.append_toArray,List.nil_append,List.cons_append]
  go_upto_region 1 with fail
  rw [←HW.out,←aa.out]
  go_upto_region 2 with (at_lookup;refine ZrA Zoc Tryz.underlying174 rfl _ _ true rfl (M:=M.k) rfl HG.out (Zq3 _) (c:Int) rfl (.tuple #[.agg #[.int .i64 y0,.int .i64 y1,.int .i64 y2],.bool true]) (by rw [HY.out];rfl) ?_)
  obtain ⟨Y,hY⟩:∃ Y,Y=w0.heap.size:=⟨_,rfl⟩;obtain ⟨w1,D⟩:∃ w1,w1=w0.alloc (.cells #[.int .i64 y0,.int .i64 y1,.int .i64 y2] 45):=⟨_,rfl⟩;have A:Below w0.heap.size w0 w1:=by rw [D];exact bE
  have cK:=Zh (show Blk w1 Y (cl3 y0 y1 y2) 45 by rw [D,hY];exact Blk.new _ _ _);have u:=Zh (HR.out.old A);have E:=Zh (bv.out.old A);rw [←D,←hY];clear D hY A s7 r0 r1 r2 f0 f1 f2 rl;obtain ⟨r0,r1,r2⟩:=u.out.c3;obtain ⟨f0,f1,f2⟩:=u.out.f3;obtain ⟨dm,dn,dp⟩:=cK.out.c3;have rl:=u.out.lt
  go_wp2_with fail
  have V:=Zru HH.out E.out u.out ay.out (y0,y1,y2);have z0:=V.2.c3.1;have z1:=V.2.c3.2.1;have z2:=V.2.c3.2.2;exact ZrF (v:=.tuple #[ag3 (y0,y1,y2),.bool true]) rfl (by simp [results,Tryz.results90,go_sem,ag3,z0,z1,z2]) (V.1.val rfl cM.out (fun _=>cN.out) (fun e=>by cases e))
 have bD:=Zh hno;have HU:=Zh (H.un.old HB.out);have s6:=(H.bk.old HB.out).cell 6 (v:=.map (some M.u)) rfl;obtain ⟨w1,D⟩:∃ w1,w1=w0.alloc (.cells #[.int .i64 0,.int .i64 0,.int .i64 0] 45):=⟨_,rfl⟩;have A:Below w0.heap.size w0 w1:=by rw [D];exact bE
 have bN:=Zh D;have aW:=Zh A;have E:=Zh (bv.out.old A);have u:=Zh (HR.out.old A);clear D A;by_cases hin:c∈U
 ·have Z:=Zh hin;clear ab hg T H hno am hU hl ih;refine ZnB Tryz.func90 rfl ?_;simp only [Tryz.ntmps90,List.size_toArray,List.length_cons,List.length_nil,Nat.reduceAdd,Nat.reduceSub,Array.replicate_succ,Array.replicate_zero,List.push_toArray,List.append_toArray,List.nil_append,List.cons_append]
  go_upto_region 1 with fail
  rw [←HW.out,←aa.out]
  go_upto_region 4 with (at_lookup;refine ZrA Zoc Tryz.underlying174 rfl _ _ true rfl (M:=M.k) rfl HG.out (Zq3 _) (c:Int) rfl (.tuple #[.agg #[.int .i64 0,.int .i64 0,.int .i64 0],.bool false]) (by rw [bD.out];rfl) ?_)
  rw [←bN.out];clear s6 s7 r0 r1 r2 f0 f1 f2 rl;have s6:=E.out.sz.bk.cell 6 (v:=.map (some M.u)) rfl;obtain ⟨r0,r1,r2⟩:=u.out.c3;obtain ⟨f0,f1,f2⟩:=u.out.f3;have rl:=u.out.lt
  go_wp2_with (at_lookup;refine ZrA Zoc Tryz.underlying150 rfl _ _ false rfl (M:=M.u) rfl (HU.out.old aW.out) (Zq2 _) (c:Int) rfl (.bool true) (by rw [if_neg (by decide),ZrB,decide_eq_true Z.out]) ?_)
  have V:=Zru HH.out E.out u.out ay.out ((0,0,0):T3);have z0:=V.2.c3.1;have z1:=V.2.c3.2.1;have z2:=V.2.c3.2.2;exact ZrF (v:=.tuple #[ag3 ((0,0,0):T3),.bool false]) rfl (by simp [results,Tryz.results90,go_sem,ag3,z0,z1,z2]) (V.1.val rfl .z (fun e=>by cases e) (fun _=>.inr ⟨c,Z.out,.refl c⟩))
 have aP:(c :: U).length≤m.cl.length:=ZmL _ _ (List.nodup_cons.2 ⟨hin,am⟩) fun k hk=>by
  rcases List.mem_cons.1 hk with rfl|e
  ·exact hc
  ·exact hU k e
 rw [List.length_cons] at aP;have Z:=Zh hin;have cG:=Zh (fun w' (t:Ty) (h':ZoR w' S M h m (c :: U)) (ht:Zfk m t)=>ih (n-1) (by omega) w' (c :: U) t h' (List.nodup_cons.2 ⟨hin,am⟩) (fun k hk=>by
  rcases List.mem_cons.1 hk with rfl|e
  ·exact hc
  ·exact hU k e) (by rw [List.length_cons];omega) ht)
 clear ab hg T H hno am hU hl ih aP hin;refine ZnB Tryz.func90 rfl ?_;simp only [Tryz.ntmps90,List.size_toArray,List.length_cons,List.length_nil,Nat.reduceAdd,Nat.reduceSub,Array.replicate_succ,Array.replicate_zero,List.push_toArray,List.append_toArray,List.nil_append,List.cons_append]
 go_upto_region 1 with fail
 rw [←HW.out,←aa.out]
 go_upto_region 4 with (at_lookup;refine ZrA Zoc Tryz.underlying174 rfl _ _ true rfl (M:=M.k) rfl HG.out (Zq3 _) (c:Int) rfl (.tuple #[.agg #[.int .i64 0,.int .i64 0,.int .i64 0],.bool false]) (by rw [bD.out];rfl) ?_)
 rw [←bN.out];clear s6 s7 r0 r1 r2 f0 f1 f2 rl;have s6:=E.out.sz.bk.cell 6 (v:=.map (some M.u)) rfl;obtain ⟨r0,r1,r2⟩:=u.out.c3;obtain ⟨f0,f1,f2⟩:=u.out.f3;have rl:=u.out.lt
 go_upto_region 7 with (first
  | (at_lookup;refine ZrA Zoc Tryz.underlying150 rfl _ _ false rfl (M:=M.u) rfl (HU.out.old aW.out) (Zq2 _) (c:Int) rfl (.bool false) (by rw [if_neg (by decide),ZrB,decide_eq_false Z.out]) ?_)
  | (at_mapUpdate;refine Zok Zoc Tryz.underlying150 rfl _ _ _ rfl (M:=M.u) rfl (HU.out.old aW.out) (c:Int) rfl (.bool true) rfl ?_;intro w2 bY be;have aY:=Zh (E.out.putU be (bY.congr fun j=>ZoS j));have bI:=Zh (show Blk w2 R (cl3 0 0 0) 45 from (be.block _ u.out.lt fun e=>ZoO u.out E.out.sz.un.map (Option.some.inj e)).trans u.out);clear bY be r0 r1 r2 f0 f1 f2 rl s6;have s6:=aY.out.sz.bk.cell 6 (v:=.map (some M.u)) rfl))
 go_upto_region 8 with fail
 clear s6;obtain ⟨O,hO⟩:∃ O,O=w2.heap.size:=⟨_,rfl⟩;obtain ⟨w3,aG⟩:∃ w3,w3=w2.alloc (.cells #[.int .i64 0,.int .i64 0,.int .i64 0] 45):=⟨_,rfl⟩;have bd:Below w2.heap.size w2 w3:=by rw [aG];exact bE
 have cr:=Zh (show Blk w3 O (cl3 0 0 0) 45 by rw [aG,hO];exact Blk.new _ _ _);have bw:=Zh (aY.out.old bd);have cy:=Zh (bI.out.old bd);have av:=Zh (show w.heap.size≤O∧O≠R from ⟨by have:=aY.out.up.size;omega,by have:=bI.out.lt;omega⟩);have cJ:=Zh aG;have cx:=Zh hO;clear aG bd hO
 go_upto_region 9 with fail
 rw [←cJ.out,←cx.out];have X:=bw.out.sz.bk.cell 0 (v:=.slice h.co m.cl.length h.cc) rfl
 go_wp2_with fail
 clear X
 go_loopw [52] (fun i wr=>∃ (j:Nat) (a:T3),j≤m.cl.length∧i=.int .i64 j∧Hid (FrO w wr S M h m (c :: U))∧Hid (ZqI m c j a)∧Hid (Blk wr R (cl3 0 0 0) 45)∧Hid (Blk wr O (cl3 a.1 a.2.1 a.2.2) 45)) (fun i _=>m.cl.length-(intOf i).toNat)
 case atStart=>exact ⟨0,z3,Nat.zero_le _,rfl,bw.out,ZqI.zero m c,cy.out,cr.out⟩
 case round=>
  obtain ⟨j,a,hj,rfl,r,ah,ax,ai⟩:=hrel;rename World=>wo;obtain ⟨a0,a1,a2⟩:=a;dsimp only at ai;by_cases hjl:j<m.cl.length
  ·have bS:(j:Int) < m.cl.length:=by omega
   have dh:IntKind.i64.wrap ((j:Int)+1)=((j+1:Nat):Int):=IntWalk.i64_in _ (by have:=HN.out;omega);have ac:=Zh (fun w' (h':Zaz w' h m)=>Zhn m h j c w' h');have bQ:(Za2 m&&inV m.cl.length j&&inV m.cl.length c&&ZaI m ((j:Int).toNat+1) j c)=ZaI m (j+1) j c:=by
    rw [HV.out];unfold inV;rw [Int.toNat_natCast];have e1:(decide ((0:Int)≤(j:Int))&&decide ((j:Int) < (m.cl.length:Int)))=true:=by simp;omega
    have e2:(decide ((0:Int)≤(c:Int))&&decide ((c:Int) < (m.cl.length:Int)))=true:=by simp;omega
    rw [e1,e2];rfl
   rw [bQ] at ac;have az:=Zh (fun (q:(ZaI m (j+1) j c&&ZmW m j)=false)=>ah.out.skip q);have G:=Zh (fun (q:(ZaI m (j+1) j c&&ZmW m j)=true) s hs hb=>ah.out.next q (s:=s) hs hb);have bC:=Zh r.out.sz.ma;have a4:=Zh (ZrC m j);have ag:=Zh (fun (q:(ZaI m (j+1) j c&&ZmW m j)=true)=>(Zp3.2 ⟨hjl,by simpa using q⟩:j∈ZmX m c));generalize ZaI m (j+1) j c=bb at ac az G ag;generalize ZmW m j=mm at az G a4 ag;have X:=r.out.sz.bk.cell 0 (v:=.slice h.co m.cl.length h.cc) rfl;have s1:=r.out.sz.bk.cell 1 (v:=.slice h.so m.st.length h.sc) rfl;have s2:=r.out.sz.bk.cell 2 (v:=.slice h.eo m.me.length h.ec) rfl;have s3:=r.out.sz.bk.cell 3 (v:=.int .i64 m.sel) rfl;clear bQ;cases bb
   ·go_wp2_with (first
     | (go_at_call 148;refine (ac.out _ r.out.sz.md).mono ?_;rintro e w4 ⟨rfl,C⟩;(try simp only [ag3]);have f:=Zh C;clear C X s1 s2 s3))
    exact ⟨⟨j+1,(a0,a1,a2),hjl,rfl,r.out.old f.out,az.out rfl,ax.out.old f.out,ai.out.old f.out⟩,by simp [intOf];omega⟩
   cases mm
   ·go_wp2_with (first
     | (go_at_call 148;refine (ac.out _ r.out.sz.md).mono ?_;rintro e w4 ⟨rfl,C⟩;(try simp only [ag3]);have f:=Zh C;clear C X s1 s2 s3;have s5:=(r.out.old f.out).sz.bk.cell 5 (v:=.map (some M.a)) rfl;have bU:(Instr.lookup 150 (.map (some M.a)) (.int .i64 (j:Int)) false).run Tryz.prog w4=.ok (.bool false) w4:=(by have hq:=(bC.out.old f.out).look Zoc Tryz.underlying150 (Zq2 _) (j:Int) false;rw [if_neg (by decide),a4.out] at hq;exact hq)))
    exact ⟨⟨j+1,(a0,a1,a2),hjl,rfl,r.out.old f.out,az.out rfl,ax.out.old f.out,ai.out.old f.out⟩,by simp [intOf];omega⟩
   ·have hm:=HV.out;have bK:=Zh (Zm9 hm hjl);have bB:=Zh (show (fsC m j).length≤7 by
     have:=Zip hm j hjl;simp only [ZaL,Bool.and_eq_true,decide_eq_true_eq] at this;unfold fsC;omega)
    have bJ:=Zh (fun w' (h':Zaz w' h m)=>ZqX m h j w' h' cw.out hjl);have bO:=Zh (Zoy hm hjl);have G:=Zh (G.out rfl);have ag:=Zh (ag.out rfl);generalize szC m j=z at bJ bO G;obtain ⟨z0,z1,z2⟩:=z;clear hm
    go_upto_region 14 with (first
     | (go_at_call 148;refine (ac.out _ r.out.sz.md).mono ?_;rintro e w4 ⟨rfl,C⟩;(try simp only [ag3]);have f:=Zh C;clear C X s1 s2 s3;have s5:=(r.out.old f.out).sz.bk.cell 5 (v:=.map (some M.a)) rfl;have bU:(Instr.lookup 150 (.map (some M.a)) (.int .i64 (j:Int)) false).run Tryz.prog w4=.ok (.bool true) w4:=(by have hq:=(bC.out.old f.out).look Zoc Tryz.underlying150 (Zq2 _) (j:Int) false;rw [if_neg (by decide),a4.out] at hq;exact hq)))
    clear s5 bU;have X:=(r.out.old f.out).sz.bk.cell 0 (v:=.slice h.co m.cl.length h.cc) rfl;have s1:=(r.out.old f.out).sz.bk.cell 1 (v:=.slice h.so m.st.length h.sc) rfl;have s2:=(r.out.old f.out).sz.bk.cell 2 (v:=.slice h.eo m.me.length h.ec) rfl;have s3:=(r.out.old f.out).sz.bk.cell 3 (v:=.int .i64 m.sel) rfl
    go_upto_region 15 with (go_at_call 149;refine (bJ.out _ (r.out.old f.out).sz.md).mono ?_;rintro e w5 ⟨rfl,aD⟩;(try simp only [ag3]);have ae:=Zh ((r.out.old f.out).old aD);have K:=Zh ((ax.out.old f.out).old aD);have I:=Zh ((ai.out.old f.out).old aD);clear aD X s1 s2 s3)
    obtain ⟨Sm,ba⟩:∃ Sm,Sm=w5.heap.size:=⟨_,rfl⟩;obtain ⟨w6,aH⟩:∃ w6,w6=w5.alloc (.cells #[.int .i64 z0,.int .i64 z1,.int .i64 z2] 45):=⟨_,rfl⟩;have aE:Below w5.heap.size w5 w6:=by rw [aH];exact bE
    have cC:=Zh (show Blk w6 Sm (cl3 z0 z1 z2) 45 by rw [aH,ba];exact Blk.new _ _ _);have aZ:=Zh (ae.out.old aE);have cz:=Zh (K.out.old aE);have cs:=Zh (I.out.old aE);have L:=Zh (show w.heap.size≤Sm∧Sm≠R∧Sm≠O from ⟨by have:=ae.out.up.size;omega,by have:=K.out.lt;omega,by have:=I.out.lt;omega⟩);rw [←aH,←ba];clear aH aE ba;obtain ⟨ad,cS,-,e1,e2,-⟩:=aZ.out.sz.md.cls hjl;have X:=aZ.out.sz.bk.cell 0 (v:=.slice h.co m.cl.length h.cc) rfl;rw [cS] at X;rw [show (m.cl.getD j default).f.length=(fsC m j).length from rfl] at e2;have W:=Zh (fun w' (h':Zaz w' h m)=>(show Zas w' (h.c j).fo (h.c j).fc (fsC m j) from h'.f j hjl));generalize (h.c j).fo=fo at e2 W;generalize (h.c j).fc=fc at e2 W;generalize hfl:fsC m j=fl at e2 W bK bB G;have cl:=Zh hfl;clear hfl;clear e1
    go_wp2_with fail
    clear X e2
    go_loopw [96] (fun i wr=>∃ (q:Nat) (s:T3),q≤fl.length∧i=.int .i64 q∧Hid (FrO w wr S M h m (c :: U))∧Hid (ZqJ m (z0,z1,z2) fl q s)∧Hid (Blk wr R (cl3 0 0 0) 45)∧Hid (Blk wr O (cl3 a0 a1 a2) 45)∧Hid (Blk wr Sm (cl3 s.1 s.2.1 s.2.2) 45)) (fun i _=>fl.length-(intOf i).toNat)
    case atStart=>exact ⟨0,(z0,z1,z2),Nat.zero_le _,rfl,aZ.out,ZqJ.zero bO.out,cz.out,cs.out,cC.out⟩
    case round=>
     obtain ⟨q,s,hq,rfl,a3,aj,aa,J,a5⟩:=hrel;rename World=>wq;obtain ⟨X,s1,s2⟩:=s;dsimp only at a5;by_cases hql:q<fl.length
     ·have bX:(q:Int) < fl.length:=by omega
      have di:IntKind.i64.wrap ((q:Int)+1)=((q+1:Nat):Int):=IntWalk.i64_in _ (by have:=bB.out;omega);obtain ⟨fd,cU,t0,t1⟩:=ZaA (W.out _ a3.out.sz.md) hql;have bF:=Zh (fun x hx hb=>aj.out.next hql (x:=x) hx hb);have a6:=Zh (ZfX (default:Ty) hql);have bL:=Zh (bK.out _ a6.out);generalize fl.getD q default=t at t0 t1 bF a6 bL;subst cU;have bM:=Zh (fun w' (h':ZoR w' S M h m (c :: U))=>cG.out w' t h' bL.out);obtain ⟨tk,tc⟩:=t;dsimp only at t0 t1 bM
      go_upto_region 18 with fail
      obtain ⟨w7,aI⟩:∃ w7,w7=wq.alloc (.cells #[.int .i64 tk,.int .i64 tc] 38):=⟨_,rfl⟩;have ak:Below wq.heap.size wq w7:=by rw [aI];exact bE
      have cF:=Zh (show Blk w7 wq.heap.size #[.int .i64 tk,.int .i64 tc] 38 by rw [aI];exact Blk.new _ _ _);have af:=Zh (a3.out.old ak);have cA:=Zh (aa.out.old ak);have ct:=Zh (J.out.old ak);have cp:=Zh (a5.out.old ak);rw [←aI];clear aI ak t0 t1;obtain ⟨t0,t1⟩:=Zj9 cF.out
      go_upto_region 19 with (go_at_call 77;refine (bM.out _ af.out.sz).mono ?_;rintro e w8 ⟨b0,an,bT,⟨x0,x1,x2⟩,ok,rfl,bR,b1,bV⟩;(try simp only [ag3]);have cB:=Zh (af.out.sz.own cA.out an);have cu:=Zh (af.out.sz.own ct.out an);have cq:=Zh (af.out.sz.own cp.out an);have ck:=Zh (af.out.call b0 an bT);have HE:=Zh (And.intro bR (And.intro b1 bV));clear b0 an bT bR b1 bV t0 t1)
      obtain ⟨Y,hY⟩:∃ Y,Y=w8.heap.size:=⟨_,rfl⟩;obtain ⟨w9,aJ⟩:∃ w9,w9=w8.alloc (.cells #[.int .i64 x0,.int .i64 x1,.int .i64 x2] 45):=⟨_,rfl⟩;have al:Below w8.heap.size w8 w9:=by rw [aJ];exact bE
      have cL:=Zh (show Blk w9 Y (cl3 x0 x1 x2) 45 by rw [aJ,hY];exact Blk.new _ _ _);have bx:=Zh (ck.out.old al);have aw:=Zh (cB.out.old al);have cv:=Zh (cu.out.old al);have F:=Zh (cq.out.old al);rw [←aJ,←hY];clear aJ al hY;cases ok
      ·obtain ⟨r0,r1,r2⟩:=aw.out.c3;obtain ⟨f0,f1,f2⟩:=aw.out.f3
       go_wp2_with fail
       have V:=Zru HH.out bx.out aw.out ay.out ((0,0,0):T3);obtain ⟨wz,hd,hF,N⟩:=ZrE Z.out V.1 V.2 _ _;have bk:=N.c3.1;have bl:=N.c3.2.1;have bm:=N.c3.2.2;exact ZrF (v:=.tuple #[ag3 ((0,0,0):T3),.bool false]) ⟨_,_,_,_,_,rfl,hd⟩ (by simp [results,Tryz.results90,go_sem,ag3,bk,bl,bm]) (hF.val rfl .z (fun e=>by cases e) (fun _=>by
        obtain ⟨d,h1,h2⟩:=HE.out.2.2 (by first|rfl|trivial);exact Znu.up HV.out aX.out ⟨j,ag.out,_,(by rw [cl.out];exact a6.out),h1⟩ h2))
      ·obtain ⟨m0,m1,m2⟩:=F.out.c3;obtain ⟨y0,y1,y2⟩:=cL.out.c3;have ml:=F.out.lt
       go_wp2_with (go_at_call 85;refine (ZpQ (X,s1,s2) (x0,x1,x2) _ aj.out.2 HE.out.1).mono ?_;rintro e cZ ⟨rfl,B⟩;(try simp only [ag3]);have b:=Zh B;clear B m0 m1 m2 y0 y1 y2 ml;obtain ⟨m0,m1,m2⟩:=(F.out.old b.out).c3;obtain ⟨g0,g1,g2⟩:=(F.out.old b.out).f3;have ml:=(F.out.old b.out).lt)
       refine ⟨⟨q+1,_,hql,rfl,FrO.set3 HH.out (bx.out.old b.out) (F.out.old b.out) L.out.1 _ _ _,bF.out _ (HE.out.2.1 (by first|rfl|trivial)) HE.out.1,?_,?_,Zmx (F.out.old b.out)⟩,by simp [intOf];omega⟩
       ·exact ((((aw.out.old b.out).other (fun e=>L.out.2.1 e.symm) _).other (fun e=>L.out.2.1 e.symm) _).other (fun e=>L.out.2.1 e.symm) _)
       ·exact ((((cv.out.old b.out).other (fun e=>L.out.2.2 e.symm) _).other (fun e=>L.out.2.2 e.symm) _).other (fun e=>L.out.2.2 e.symm) _)
     ·have bX:¬ (q:Int) < fl.length:=by omega
      have cY:q=fl.length:=by omega
      subst cY;have cE:=Zh (G.out (X,s1,s2) aj.out.fin aj.out.2);obtain ⟨o0,o1,o2⟩:=J.out.c3;obtain ⟨m0,m1,m2⟩:=a5.out.c3;have cD:=Zh aj.out.2
      go_wp2_with (go_at_call 85;refine (ZpS (a0,a1,a2) (X,s1,s2) _ ah.out.2 cD.out).mono ?_;rintro e cZ ⟨rfl,B⟩;(try simp only [ag3]);have b:=Zh B;clear B m0 m1 m2 o0 o1 o2;obtain ⟨o0,o1,o2⟩:=(J.out.old b.out).c3;obtain ⟨g0,g1,g2⟩:=(J.out.old b.out).f3;have ol:=(J.out.old b.out).lt)
      refine ⟨⟨j+1,_,hjl,rfl,FrO.set3 HH.out (a3.out.old b.out) (J.out.old b.out) av.out.1 _ _ _,cE.out,?_,Zmx (J.out.old b.out)⟩,by simp [intOf];omega⟩;exact ((((aa.out.old b.out).other (fun e=>av.out.2 e.symm) _).other (fun e=>av.out.2 e.symm) _).other (fun e=>av.out.2 e.symm) _)
  ·have bS:¬ (j:Int) < m.cl.length:=by omega
   have cV:j=m.cl.length:=by omega
   subst cV;have bA:=Zh (ah.out.fin HV.out aX.out);have bG:=Zh ah.out.2
   go_upto_region 25 with fail
   obtain ⟨gk,T,bW⟩:=r.out.sz.kn;have HK:=Zh T.drew;have co:=Zh bW;have bz:=Zh (r.out.old (Below.refl _ wo).drew);have a7:=Zh ax.out.drew;have au:=Zh ai.out.drew;have s7:=bz.out.sz.bk.cell 7 (v:=.map (some M.k)) rfl;obtain ⟨o0,o1,o2⟩:=au.out.c3;clear T bW;refine rO (Cs [(⟨S,7,none⟩,.map (some M.k)),(⟨O,0,none⟩,.int .i64 a0),(⟨O,1,none⟩,.int .i64 a1),(⟨O,2,none⟩,.int .i64 a2)]) (oL [0,1,2,3,4,5,106]) ⟨s7,o0,o1,o2,trivial⟩ ?_;clear s7 o0 o1 o2
   iterate 6 (refine pO ?_)
   refine oO fun Kv hK=>?_;refine Zol Zoc Tryz.underlying174 _ _ _ rfl (M:=M.k) rfl HK.out (c:Int) rfl (.agg #[.int .i64 a0,.int .i64 a1,.int .i64 a2]) rfl ?_;intro w5 bZ aF;have ae:=Zh (bz.out.putK aF bZ (co.out.put (y:=(a0,a1,a2)) aX.out bA.out));have K:=Zh (show Blk w5 R (cl3 0 0 0) 45 from (aF.block _ a7.out.lt fun e=>ZoO a7.out HK.out.map (Option.some.inj e)).trans a7.out);have I:=Zh (show Blk w5 O (cl3 a0 a1 a2) 45 from (aF.block _ au.out.lt fun e=>ZoO au.out HK.out.map (Option.some.inj e)).trans au.out);refine hK _ _ ⟨⟨ae.out.sz.bk.cell 7 rfl,I.out.c3.1,I.out.c3.2.1,I.out.c3.2.2,trivial⟩,Zd7 ?_⟩;clear hK Kv bZ aF;obtain ⟨o0,o1,o2⟩:=I.out.c3;obtain ⟨r0,r1,r2⟩:=K.out.c3;obtain ⟨f0,f1,f2⟩:=K.out.f3;have rl:=K.out.lt
   go_wp2_with fail
   have V:=Zru HH.out ae.out K.out ay.out (a0,a1,a2);obtain ⟨wz,hd,hF,N⟩:=ZrE Z.out V.1 V.2 _ _;have bk:=N.c3.1;have bl:=N.c3.2.1;have bm:=N.c3.2.2;exact ZrF (v:=.tuple #[ag3 (a0,a1,a2),.bool true]) ⟨_,_,_,_,_,rfl,hd⟩ (by simp [results,Tryz.results90,go_sem,ag3,bk,bl,bm]) (hF.val rfl bG.out (fun _=>bA.out) (fun e=>by cases e))
end
end
section
open Go.RowKit
attribute [local go_sem] World.cell?_alloc_some
section
variable {S:Nat}{M:MsL}{h:Hd}{m:Md}
theorem ZrH (b:okL m):∀ n,ZoX S M h m n∧ZoY S M h m n:=by
 intro n
 induction n using Nat.strongRecOn with
 |ind n ih=>
  have a:=ZrG (S:=S) (M:=M) (h:=h) b fun v c=>(ih v c).2;exact ⟨a,Zrv b a⟩
theorem ZrI (a:okL m) {t:Ty} (b:Zfk m t) (w:World) (H:ZoR w S M h m []):Calls Tryz.prog 77 #[ZQ.p S,.agg #[.int .i64 t.k,.int .i64 t.c]] w (ZoV w S M h m [] (Zm3 m t) (ZoW m [] t)):=
 (ZrH a m.cl.length).2 w [] t H List.nodup_nil (fun u c=>by cases c) (by simp) b
end
end
section
open Go.RowKit
attribute [local go_sem] World.cell?_alloc_some
section
variable {S:Nat}{M:MsL}{h:Hd}{m:Md}
theorem FrO.chg {w0 w w':World}{U V:List Nat} (H0:ZoR w0 S M h m V) (F:FrO w0 w S M h m U) {B:Nat} (hB:w0.heap.size≤B) (hc:¬ ZmK w B) (hu1:UpL [B] w w'):FrO w0 w' S M h m U:=by
 obtain ⟨⟨s,K,⟨f,L,z⟩,A,C,⟨g,D,l⟩,⟨k,E,o⟩,G⟩,a,I⟩:=F;have c:∀ x,x<w.heap.size→x≠B→w'.heap[x]?=w.heap[x]?:=fun x r q=>hu1.block x r (by simpa using q);have b:ZmI w0 w':=fun p v u=>by have H:=I p v u;have N:=Zad u;exact (World.cell?_of_block (w:=w) (c p.block (by have:=a.size;omega) (by omega))).trans H
 have i:=fun {κ:Type} [DecidableEq κ] {enc:κ→Value}{x:Nat}{f:κ→Option Value} (hf:MpF enc w x f)=>hf.eq (w':=w') (c x hf.map.lt (fun e=>hc (e▸hf.map)));refine ⟨⟨(c S s.lt (by have:=H0.bk.lt;omega)).trans s,H0.md.keeps b,?_,i A,i C,⟨g,i D,l⟩,⟨k,i E,o⟩,G⟩,⟨hu1.os.trans a.os,hu1.tape.trans a.tape,hu1.output.trans a.output,Nat.le_trans a.size hu1.size,fun x r q=>(c x (by have:=a.size;omega) (by omega)).trans (a.block x r q)⟩,b⟩;obtain ⟨y,d,j⟩:=H0.ln;refine ⟨y,d.eq ((c _ (by have:=d.map.lt;have:=a.size;omega) (by have:=d.map.lt;omega)).trans (a.block _ d.map.lt H0.m_ne.1)),fun t J=>(j t J).keeps b⟩
theorem FrO.app {w0 w w':World}{U V:List Nat} (H0:ZoR w0 S M h m V) (F:FrO w0 w S M h m U) {base:Nat}{e:TypeId}{size:Nat}{v:Value}{n:Nat}{xs:List Value} (ho:w.ownsRow base e size v n xs) (hb:w0.heap.size≤base) (hg:w.grownBy w' v.ownBlock):FrO w0 w' S M h m U:=by
 cases hv:v.ownBlock with
 |none=>
  rw [hv] at hg;exact F.old ⟨hg.os,hg.tape,hg.output,hg.size,fun k a=>hg.block k a (by simp)⟩
 |some b=>
  rw [hv] at hg;refine FrO.chg H0 F (B:=b) (Nat.le_trans hb (World.ownsRow.lt ho b hv).1) ?_ ⟨hg.os,hg.tape,hg.output,hg.size,fun k a j=>hg.block k a fun e=>j (by rw [Option.some.inj e];simp)⟩;rintro ⟨o,c,i⟩;rcases ho.2 with ⟨q,_⟩|⟨g,l,f,q,_,d,_⟩
  ·rw [q] at hv;cases hv
  ·rw [q] at hv;have:g=b:=Option.some.inj hv;subst this;rw [i] at d;cases d
end
end
