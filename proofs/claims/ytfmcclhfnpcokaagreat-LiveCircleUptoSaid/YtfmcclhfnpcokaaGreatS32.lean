import Derived.Test.YtfmcclhfnpcokaaGreatS30
import Derived.Test.YtfmcclhfnpcokaaGreatS31
set_option linter.all false
set_option maxRecDepth 100000
set_option maxHeartbeats 32000000
namespace Go.Proofs.YtfmcclhfnpcokaaGreat
theorem kC1{p:Prop}(h:p:=by
 refine oO fun Kv hK=>?_;obtain ⟨r0,r1,r2⟩:=HZ5.out.c3;obtain ⟨f0,f1,f2⟩:=HZ5.out.f3;have rl:=HZ5.out.lt;go_simp;have hZ4:=Zmx (x:=b0) (y:=b1) (z:=b2) HZ5.out;have hb4:=Zmz HBe.out (.int .i64 b0) (.int .i64 b1) (.int .i64 b2) HNe.out.1;have hA4:=((HA6.out.other (a:=⟨PB,0,none⟩) HNe.out.2 (.int .i64 b0)).other (a:=⟨PB,1,none⟩) HNe.out.2 (.int .i64 b1)).other (a:=⟨PB,2,none⟩) HNe.out.2 (.int .i64 b2);refine hK _ _ ⟨HCs.out _ hb4,?_⟩;clear hK Kv r0 r1 r2 f0 f1 f2 rl
 (refine pO ?_)
 refine Zd7 ?_;have HA4:=Zh hA4;have HZ4:=Zh hZ4;have HB4:=Zh hb4;clear hA4 hZ4 hb4;by_cases hb0:eb=0
 ·obtain ⟨ha0,hle⟩:=HLa.out hb0;subst hb0;subst ha0;have HWi:=Zh (Zsq.2 hle);obtain ⟨p0,p1,p2⟩:=HA4.out.c3;obtain ⟨q0,q1,q2⟩:=HZ4.out.c3;have pl:=HA4.out.lt;have ql:=HZ4.out.lt
  go_wp2_with (first
   | (go_at_call 24;refine (Zsr (a0,a1,a2) (b0,b1,b2) _).mono ?_;rintro e w6 ⟨rfl,hb6⟩;rw [HWi.out];have HB6:=Zh (Zag HB4.out hb6);clear hb6)
   | (go_at_call 22;refine (Zpb _).mono ?_;rintro e wz ⟨rfl,hbz⟩))
  go_ret;exact ZcP rfl (Zag HB.out (Zag HB6.out hbz))
 ·have hbn:(eb == 0)=false:=by simpa using hb0
  rcases HEr.out with q|q|q
  ·exact absurd q hb0
  all_goals
   subst q
   go_wp2_with (go_at_call 22;refine (Zpb _).mono ?_;rintro e wz ⟨rfl,hbz⟩)
   go_ret;exact ZcP rfl (Zag HB.out (Zag HB4.out hbz))):p:=h
section
open Go.RowKit
theorem ZsE : Tryz.prog.fieldsOf 72 = #[⟨"Op", 3, 0, false, "", "", 0⟩, ⟨"A", 3, 1, false, "", "", 8⟩, ⟨"B", 3, 2, false, "", "", 16⟩] := by kernel_rfl
theorem ZsF (w:World) (op:BinOp) (x y:Operand) (a ys:Array Value):Sem.run Tryz.prog (eqGuard op 72 x y (.agg a) (.agg ys)) w=.ok () w:=run_eqGuard_agg w op 72 x y a ys (by kernel_rfl)
end
section
open Go.RowKit
theorem ZsG (w:World) (a b c x y z:Int):Sem.run Tryz.prog (Op.equalIn 10000 72 (.agg #[.int .i64 a,.int .i64 b,.int .i64 c]) (.agg #[.int .i64 x,.int .i64 y,.int .i64 z])) w=.ok (decide ((⟨a,b,c⟩:In3)=⟨x,y,z⟩)) w:=by
 have h:Tryz.prog.underlying 72=some (.struct (Tryz.prog.fieldsOf 72)):=by kernel_rfl
 rw [run_equalIn_agg _ _ _ _ _ h (by kernel_rfl),ZsE];have e:∀ (x y z:Int) w,Sem.run Tryz.prog (part 3 #[.int .i64 x,.int .i64 y,.int .i64 z] 0) w=.ok (.int .i64 x) w:=fun x y z w=>by kernel_rfl
 have f:∀ (x y z:Int) w,Sem.run Tryz.prog (part 3 #[.int .i64 x,.int .i64 y,.int .i64 z] 1) w=.ok (.int .i64 y) w:=fun x y z w=>by kernel_rfl
 have g:∀ (x y z:Int) w,Sem.run Tryz.prog (part 3 #[.int .i64 x,.int .i64 y,.int .i64 z] 2) w=.ok (.int .i64 z) w:=fun x y z w=>by kernel_rfl
 have d:∀ (x y:Int) w,Sem.run Tryz.prog (Op.equalIn 9999 3 (.int .i64 x) (.int .i64 y)) w=.ok (x == y) w:=fun x y w=>run_equalIn_int w 9998 3 .i64 .i64 x y Tryz.underlying3;simp only [Op.eqFields,Sem.run_bind,e,f,g,d,Result.andThen_ok];by_cases h1:a=x<;>by_cases h2:b=y<;>by_cases h3:c=z<;>simp [h1,h2,h3,Op.eqFields,e,f,g,d]
theorem ZsH (w:World) (a b c x y z:Int):Sem.run Tryz.prog (binOp .eql 72 (.agg #[.int .i64 a,.int .i64 b,.int .i64 c]) (.agg #[.int .i64 x,.int .i64 y,.int .i64 z])) w=.ok (.bool (decide ((⟨a,b,c⟩:In3)=⟨x,y,z⟩))) w:=by rw [run_eql_struct,ZsG];rfl
theorem ZsI {m:Md} (b:Za2 m=true) {d:Nat} (a:d<m.cl.length):(fsC m d).length≤7:=by have h:=Zip b d a;unfold ZaL at h;simp only [Bool.and_eq_true,decide_eq_true_eq] at h;have:=h.1.1.1.1.2;exact this
theorem ZsJ {m:Md}{k j:Nat}{c:Nat} (b:k<m.me.length) (a:j<(cdM m k).length) (h:(cdM m k).getD j default=⟨14,c,0⟩):ZnV m c=true:=by
 unfold ZnV;rw [List.any_eq_true];refine ⟨m.me.getD k default,by simp [b],?_⟩;rw [List.any_eq_true];refine ⟨(cdM m k).getD j default,?_,?_⟩
 ·have:(cdM m k).getD j default=(cdM m k)[j]:=by simp [a]
  rw [this];exact List.getElem_mem a
 ·rw [h];simp
end
section
open Go.RowKit
attribute [local go_sem] World.cell?_alloc_some
theorem ZsK (m:Md) (h:Hd) (w:World) (H:Zaz w h m):Calls Tryz.prog 21 #[.agg (HM.mk h m)] w (Ret w (.int .i64 (if (Zmk m).2.2=0 then 0 else 1))):=by
 have j:=Zh (fun w' n=>Zjm m h w' (H.old (w':=w') n));have r:=Zh (fun w' n=>Zmo w' h m (H.old (w':=w') n));have b:Za2 m=false→(Zmk m).2.2=1:=fun q=>by unfold Zmk;rw [if_neg (by rw [q];decide)]
 obtain ⟨q,f⟩:∃ q:Int,q=if (Zmk m).2.2=0 then 0 else 1:=⟨_,rfl⟩;rw [←f];obtain ⟨⟨E,F,G⟩,o⟩:∃ z,z=Zmk m:=⟨_,rfl⟩;rw [←o] at r f b;dsimp only at f b;have u:=Zh f;have c:=Zh (show Below w.heap.size w (w.alloc (.cells (HM.mk h m) 26)) by exact bE);have l:=Zh (Blk.new w (HM.mk h m) 26);rcases hm:Za2 m with _|_
 ·have s:q=1:=by rw [f,b hm];rfl
  have t:=Zh s;rw [hm] at j;clear H o f hm b s;go_enter Tryz.func21,Tryz.ntmps21
  go_wp2_with (go_at_call 60;refine (j.out _ c.out).mono ?_;rintro e x ⟨rfl,a⟩)
  go_ret;exact ZcP (ZcU t.out.symm) (Zag c.out a)
 ·rw [hm] at j;clear H o f hm b;go_enter Tryz.func21,Tryz.ntmps21
  go_wp2_with (first
   | (go_at_call 60;refine (j.out _ c.out).mono ?_;rintro e x ⟨rfl,a⟩;have g:=Zh (Zag c.out a);have d:=Zh (l.out.old a);have A:=d.out.cell 0 (v:=.slice h.co m.cl.length h.cc) rfl;have B:=d.out.cell 1 (v:=.slice h.so m.st.length h.sc) rfl;have C:=d.out.cell 2 (v:=.slice h.eo m.me.length h.ec) rfl;have D:=d.out.cell 3 (v:=.int .i64 m.sel) rfl;clear a)
   | (go_at_call 49;refine (r.out _ g.out).mono ?_;rintro e y ⟨rfl,i⟩;have k:=Zh (Zag g.out i);clear i))
  all_goals
   go_ret;refine ZcP (ZcU ?_) k.out;rw [u.out];grind
theorem ZsL (m:Md) (h:Hd) (c:Int) (w:World) (H:Zaz w h m):Calls Tryz.prog 4 #[.agg (HM.mk h m),.int .i64 c] w (Ret w (.bool true)):=by
 obtain ⟨T,ab⟩:∃ T,T=w.alloc (.cells (HM.mk h m) 26):=⟨_,rfl⟩;have HB:=Zh (show Below w.heap.size w T by rw [ab];exact bE);obtain ⟨X,hX⟩:∃ X,X=w.heap.size:=⟨_,rfl⟩;have J:=Zh (show Blk T X (HM.mk h m) 26 by rw [ab,hX];exact Blk.new _ _ _);have O:=Zh (H.old HB.out);have HW:=Zh ab;have aj:=Zh hX;have B:=Zh (fun A (h':Zaz A h m)=>ZsK m h A h');clear ab H hX;by_cases hin:0≤c∧c<m.cl.length
 ·obtain ⟨h0,h1⟩:=hin;obtain ⟨d,rfl⟩:∃ d:Nat,c=d:=⟨c.toNat,by omega⟩;have hd:d<m.cl.length:=by omega
  obtain ⟨Z,aa,-,e1,-,-⟩:=O.out.cls hd;rw [show (m.cl.getD d default).sup=m.sup d from rfl] at e1;have i:=Zh (show ∀ A,Below T.heap.size T A→A.cell? ⟨(Z.add (d*4)).block,(Z.add (d*4)).off+1,none⟩=some (.int .i64 (m.sup d)) from fun A hb=>(hb.cell (Zad e1)).trans e1);have K:=Zh aa;have HCs:=Zh (show ∀ A,Below T.heap.size T A→Cs [(⟨X,0,none⟩,.slice (some Z) m.cl.length h.cc),(⟨X,1,none⟩,.slice h.so m.st.length h.sc),(⟨X,2,none⟩,.slice h.eo m.me.length h.ec),(⟨X,3,none⟩,.int .i64 m.sel),(⟨(Z.add (d*4)).block,(Z.add (d*4)).off+1,none⟩,.int .i64 (m.sup d))] A from fun A hb=>⟨(J.out.old hb).cell 0 (v:=.slice (some Z) m.cl.length h.cc) (by rw [←aa];rfl),(J.out.old hb).cell 1 rfl,(J.out.old hb).cell 2 rfl,(J.out.old hb).cell 3 rfl,i.out A hb,trivial⟩);rw [aa] at B;clear e1 aa;by_cases hq:okL m∧0≤m.sup d
  ·obtain ⟨ho,hs⟩:=hq;have aB:¬ m.sup d<0:=by omega
   have Y:=Zh (fun A (h':Zaz A h m)=>Zr5 m h ⟨2,d⟩ A h');have I:=Zh (fun A (h':Zaz A h m)=>Zr5 m h ⟨2,m.sup d⟩ A h');have HLa:=Zh (ZqS ho hd hs);have HEr:=Zh (ZqT ho hd hs);rw [if_pos (show (Zmk m).2.2=0 from ho)] at B;rw [K.out] at Y I;generalize m.sup d=s at i HCs I HLa HEr aB;generalize ZqJ m ⟨2,d⟩=ra at Y HLa;generalize ZqJ m ⟨2,s⟩=rb at I HLa HEr;obtain ⟨⟨a0,a1,a2⟩,ea⟩:=ra;obtain ⟨⟨b0,b1,b2⟩,eb⟩:=rb;dsimp only at HLa HEr Y I;clear ho hs h0;go_enter Tryz.func4,Tryz.ntmps4
   go_upto_region 1 with fail
   rw [←HW.out,←aj.out];obtain ⟨j,D,E,F⟩:=Zj8 J.out;have R:=i.out _ (Below.refl _ _)
   go_upto_region 3 with (first
    | (go_at_call 20;refine (Zsp m h _ O.out).mono ?_;rintro e w1 ⟨⟨b,rfl⟩,r⟩;have f:=Zh r;clear r;clear j D E F R;obtain ⟨j,D,E,F⟩:=Zj8 (J.out.old f.out);rw [K.out] at j;have R:=i.out _ f.out)
    | (go_at_call 21;refine (B.out _ (O.out.old f.out)).mono ?_;rintro e ar ⟨rfl,g⟩;have f:=Zh (Zag f.out g);clear g;clear j D E F R;obtain ⟨j,D,E,F⟩:=Zj8 (J.out.old f.out);rw [K.out] at j;have R:=i.out _ f.out)
    | (go_at_call 22;refine (Zpb _).mono ?_;rintro e wz ⟨rfl,hbz⟩))
   ·go_ret;exact ZcP rfl (Zag HB.out (Zag f.out hbz))
   go_upto_region 4 with (go_at_call 23;refine (Y.out _ (O.out.old f.out)).mono ?_;rintro e w2 ⟨rfl,ap⟩;have am:=Zh (Zag f.out ap);clear ap j D E F R)
   obtain ⟨PA,ak⟩:∃ PA,PA=w2.heap.size:=⟨_,rfl⟩;obtain ⟨U,ac⟩:∃ U,U=w2.alloc (.cells #[.int .i64 a0,.int .i64 a1,.int .i64 a2] 45):=⟨_,rfl⟩;have aq:Below w2.heap.size w2 U:=by rw [ac];exact bE
   have ah:=Zh (show Blk U PA (cl3 a0 a1 a2) 45 by rw [ac,ak];exact Blk.new _ _ _);have W:=Zh (Zag am.out aq);rw [←ac,←ak];clear ac aq ak;refine rO (Cs [(⟨X,0,none⟩,.slice (some Z) m.cl.length h.cc),(⟨X,1,none⟩,.slice h.so m.st.length h.sc),(⟨X,2,none⟩,.slice h.eo m.me.length h.ec),(⟨X,3,none⟩,.int .i64 m.sel),(⟨(Z.add (d*4)).block,(Z.add (d*4)).off+1,none⟩,.int .i64 s)]) (.plain 0 (.plain 1 (.plain 2 (.plain 3 (.plain 4 (.plain 5 (.plain 6 (.plain 7 (.two 8 12 (oL [9,10,11,112,113,14]) (oL [108,9,10,11,113,14])))))))))) (HCs.out _ (Zag W.out (Below.refl _ U).drew)) ?_
   iterate 8 (refine pO ?_)
   refine Zd6 ?_ ?_
   ·refine Zd4 _ (by rfl) (by rfl) fun Kv hK=>?_;go_simp;have G:=Zh (Zag W.out (Below.refl _ U).drew);refine (I.out _ (O.out.old G.out)).mono ?_;rintro e w4 ⟨rfl,hb4⟩;have ai:=Zh (Zag G.out hb4);have V:=Zh (ah.out.drew.old hb4);refine hK _ _ ⟨HCs.out _ ai.out,?_⟩;clear hK Kv hb4
    (refine pO ?_)
    (refine pO ?_)
    (refine pO ?_)
    refine oO fun Kv hK=>?_;go_simp;obtain ⟨PB,C⟩:∃ PB,PB=w4.heap.size:=⟨_,rfl⟩;obtain ⟨w5,N⟩:∃ w5,w5=w4.alloc (.cells (cl3 0 0 0) 45):=⟨_,rfl⟩;have u:Below w4.heap.size w4 w5:=by rw [N];exact bE
    have HZ5:=Zh (show Blk w5 PB (cl3 0 0 0) 45 by rw [N,C];exact Blk.new _ _ _);have HA6:=Zh (V.out.old u);have HBe:=Zh (Zag ai.out u);have HNe:=Zh (show T.heap.size≤PB∧PA≠PB from ⟨by have:=ai.out.size;omega,by have:=V.out.lt;omega⟩);have n:cl3 0 0 0=#[.int .i64 0,.int .i64 0,.int .i64 0]:=rfl;rw [n] at N;rw [←N,←C];clear n;refine hK _ _ ⟨HCs.out _ HBe.out,?_⟩;clear hK Kv N u C;exact kC1
   ·refine Zd4 _ (by rfl) (by rfl) fun Kv hK=>?_;go_simp;obtain ⟨PB,C⟩:∃ PB,PB=U.heap.size:=⟨_,rfl⟩;obtain ⟨w4,M⟩:∃ w4,w4=(U.alloc (.cells (cl3 0 0 0) 45)).drew:=⟨_,rfl⟩;have hb4:Below U.heap.size U w4:=by rw [M];exact bE
    have an:=Zh (show Blk w4 PB (cl3 0 0 0) 45 by rw [M,C];exact (Blk.new _ _ _).drew);have V:=Zh (ah.out.old hb4);have G:=Zh (Zag W.out hb4);have HNe:=Zh (show T.heap.size≤PB∧PA≠PB from ⟨by have:=W.out.size;omega,by have:=ah.out.lt;omega⟩);have n:cl3 0 0 0=#[.int .i64 0,.int .i64 0,.int .i64 0]:=rfl;rw [n] at M;rw [←M,←C];clear n;refine hK _ _ ⟨HCs.out _ G.out,?_⟩;clear hK Kv M hb4 C;refine oO fun Kv hK=>?_;go_simp;refine (I.out _ (O.out.old G.out)).mono ?_;rintro e w5 ⟨rfl,u⟩;have HBe:=Zh (Zag G.out u);have HA6:=Zh (V.out.old u);have HZ5:=Zh (an.out.old u);refine hK _ _ ⟨HCs.out _ HBe.out,?_⟩;clear hK Kv u
    (refine pO ?_)
    (refine pO ?_)
    (refine pO ?_)
    exact kC1
  ·have L:¬ okL m∨(okL m∧m.sup d<0):=by
    by_cases ho:okL m
    ·exact .inr ⟨ho,by have:¬ 0≤m.sup d:=fun e=>hq ⟨ho,e⟩;omega⟩
    ·exact .inl ho
   generalize m.sup d=s at i HCs L;clear hq h0;have af:((if (Zmk m).2.2=0 then (0:Int) else 1)=1)∨((if (Zmk m).2.2=0 then (0:Int) else 1)=0∧s<0):=by
    rcases L with q|⟨q,q2⟩
    ·exact .inl (if_neg q)
    ·exact .inr ⟨if_pos q,q2⟩
   generalize (if (Zmk m).2.2=0 then (0:Int) else 1)=fq at B af;clear L;rcases af with rfl|⟨rfl,hs⟩
   all_goals
    go_enter Tryz.func4,Tryz.ntmps4
    go_upto_region 1 with fail
    rw [←HW.out,←aj.out];obtain ⟨j,D,E,F⟩:=Zj8 J.out;have R:=i.out _ (Below.refl _ _)
    go_wp2_with (first
     | (go_at_call 20;refine (Zsp m h _ O.out).mono ?_;rintro e w1 ⟨⟨b,rfl⟩,r⟩;have f:=Zh r;clear r;clear j D E F R;obtain ⟨j,D,E,F⟩:=Zj8 (J.out.old f.out);rw [K.out] at j;have R:=i.out _ f.out)
     | (go_at_call 21;refine (B.out _ (O.out.old f.out)).mono ?_;rintro e ar ⟨rfl,g⟩;have f:=Zh (Zag f.out g);clear g;clear j D E F R;obtain ⟨j,D,E,F⟩:=Zj8 (J.out.old f.out);rw [K.out] at j;have R:=i.out _ f.out)
     | (go_at_call 22;refine (Zpb _).mono ?_;rintro e wz ⟨rfl,hbz⟩))
    all_goals
     go_ret;exact ZcP rfl (Zag HB.out (Zag f.out hbz))
 ·generalize (if (Zmk m).2.2=0 then (0:Int) else 1)=fq at B;have L:c<0∨(0≤c∧(m.cl.length:Int)≤c):=by omega
  clear hin;rcases L with hc|⟨hc0,hc⟩
  all_goals
   go_enter Tryz.func4,Tryz.ntmps4
   go_upto_region 1 with fail
   rw [←HW.out,←aj.out];obtain ⟨j,D,E,F⟩:=Zj8 J.out
   go_wp2_with (first
    | (go_at_call 20;refine (Zsp m h _ O.out).mono ?_;rintro e w1 ⟨⟨b,rfl⟩,r⟩;have f:=Zh r;clear r;clear j D E F;obtain ⟨j,D,E,F⟩:=Zj8 (J.out.old f.out))
    | (go_at_call 21;refine (B.out _ (O.out.old f.out)).mono ?_;rintro e ar ⟨rfl,g⟩;have f:=Zh (Zag f.out g);clear g;clear j D E F;obtain ⟨j,D,E,F⟩:=Zj8 (J.out.old f.out))
    | (go_at_call 22;refine (Zpb _).mono ?_;rintro e wz ⟨rfl,hbz⟩))
   all_goals
    go_ret;exact ZcP rfl (Zag HB.out (Zag f.out hbz))
end
section
open Go.RowKit
attribute [local go_sem] World.cell?_alloc_some
theorem ZsM {S:Nat}{M:MsL}{h:Hd}{m:Md} (b:okL m):∀ k,k<m.me.length→ZrY S M h m k:=by
 intro k
 induction k using Nat.strongRecOn with
 |ind k ih=>
  intro a;exact Zsm b a fun i c w H=>ZsA b a (fun j d=>ih j d (by omega)) i c w H
theorem ZsN (m:Md) (h:Hd) (k:Int) (w:World) (H:Zaz w h m):Calls Tryz.prog 41 #[.agg (HM.mk h m),.int .i64 k] w (Zpi (ZqK m k) w):=by
 obtain ⟨C,d⟩:∃ C,C=(w.alloc (.cells (HM.mk h m) 26)).alloc (.cells #[.int .i64 0,.int .i64 0,.int .i64 0] 45):=⟨_,rfl⟩;have W:=Zh (show Below w.heap.size w C by rw [d];exact bE);obtain ⟨X,V⟩:∃ X,X=w.heap.size:=⟨_,rfl⟩;have J:=Zh (show Blk C X (HM.mk h m) 26 by rw [d,V];exact (Blk.new _ _ _).alloc _);have E:=Zh (show Blk C (X+1) (cl3 0 0 0) 45 by rw [d,V];exact Blk.new' (w:=w.alloc _) _ _ (by simp));have HW:=Zh d;have K:=Zh V;have L:=Zh (show w.heap.size≤X+1 by omega);clear V;have Hj:=Zh (H.old W.out);have i:=Zh (ZqU m h C Hj.out);clear d H;by_cases hq:okL m∧0≤k∧k<m.me.length
 ·obtain ⟨l,h0,h1⟩:=hq;obtain ⟨j,rfl⟩:∃ j:Nat,k=j:=⟨k.toNat,by omega⟩;have hj:j<m.me.length:=by omega
  have hm:=l.v;have c:ZqK m j=Zph (ZpR m j):=by unfold ZqK;rw [if_pos ⟨l,h0,h1⟩,Int.toNat_natCast]
  rw [c];have o:=Zh (show ∀ (x:T3) (B:Bool),(B=true→ZpR m j=some x)→(B=false→ZpR m j=none)→∀ f,Calls Tryz.prog 75 #[ag3 x,.bool B] f (Zpi (Zph (ZpR m j)) f) from fun x B h1 h2 f=>by
   cases B
   ·rw [h2 rfl];exact Zpj x f
   ·rw [h1 rfl];exact Zpk x f)
  have ad:=Zh (fun f (h':Zaz f h m)=>ZrQ m h f h' hm);have I:=Zh (fun S M f (h':Zp4 f S M h m [])=>ZsM (S:=S) (M:=M) (h:=h) l j hj f h');rw [decide_eq_true l] at i;generalize ZpR m j=v at o I ⊢;generalize Zph v=r at o ⊢;obtain ⟨⟨e0,e1,e2⟩,er⟩:=r;clear c l hm h0;go_enter Tryz.func41,Tryz.ntmps41
  go_upto_region 1 with fail
  rw [←HW.out,←K.out];obtain ⟨R,T,n,U⟩:=Zj8 J.out
  go_upto_region 3 with (go_at_call 73;refine i.out.mono ?_;rintro e w2 ⟨rfl,O⟩;have b:=Zh O;clear O R T n U;have n:=(J.out.old b.out).cell 2 (v:=.slice h.eo m.me.length h.ec) rfl)
  clear n;obtain ⟨R,T,n,U⟩:=Zj8 (J.out.old b.out)
  go_wp2_with (first
   | (go_at_call 76;refine (ad.out _ (Hj.out.old b.out)).mono ?_;rintro e w3 ⟨S,M,rfl,Q,P,ag,s⟩;have G:=Zh Q;have D:=Zh (Zag b.out P);have aa:=Zh (show ∀ x∈M.s,C.heap.size≤x from fun x hx=>by have:=s x hx;have:=b.out.size;exact Nat.le_trans this (s x hx));have ab:=Zh (E.out.old D.out);clear Q P ag s R T n U)
   | (go_at_call 96;refine (I.out S M _ G.out).mono ?_;rintro e w4 ⟨aj,u,ai,⟨y0,y1,y2⟩,B,rfl,ah,hy,hn⟩;(try simp only [ag3]);have ac:=Zh (G.out.own ab.out u);have Y:=Zh (u.below D.out (Nat.le_refl _) aa.out);have ae:=Zh (o.out (y0,y1,y2) B hy hn);clear aj u ai ah hy hn)
   | (go_at_call 75;refine (ae.out _).mono ?_;rintro e w5 ⟨rfl,t⟩;(try simp only [ag3]);have g:=Zh (ac.out.old t);have Z:=Zh (Zag Y.out t);clear t;obtain ⟨r0,r1,r2⟩:=g.out.c3;obtain ⟨f0,f1,f2⟩:=g.out.f3;have rl:=g.out.lt))
  have A:=Zmx (x:=e0) (y:=e1) (z:=e2) g.out;exact ZoN (F:=X+1) Tryz.results41 rfl rfl rfl A.c3.1 A.c3.2.1 A.c3.2.2 (Zmz (Zag W.out Z.out) _ _ _ L.out)
 ·have c:ZqK m k=(z3,1):=if_neg hq;rw [c];have hb:decide (okL m)=false∨(decide (okL m)=true∧k<0)∨(decide (okL m)=true∧0≤k∧(m.me.length:Int)≤k):=by
   by_cases l:okL m
   ·rw [decide_eq_true l];have:¬ (0≤k∧k<m.me.length):=fun e=>hq ⟨l,e⟩;have:k<0∨(0≤k∧(m.me.length:Int)≤k):=by omega
    rcases this with q|q
    ·exact .inr (.inl ⟨rfl,q⟩)
    ·exact .inr (.inr ⟨rfl,q⟩)
   ·exact .inl (decide_eq_false l)
  generalize decide (okL m)=b1 at i hb;clear c hq;rcases hb with rfl|⟨rfl,hk0⟩|⟨rfl,hk0,hk1⟩
  all_goals
   go_enter Tryz.func41,Tryz.ntmps41
   go_upto_region 1 with fail
   rw [←HW.out,←K.out];obtain ⟨R,T,n,U⟩:=Zj8 J.out
   go_wp2_with (go_at_call 73;refine i.out.mono ?_;rintro e w1 ⟨rfl,N⟩;have a:=Zh N;clear N R T n U;have n:=(J.out.old a.out).cell 2 (v:=.slice h.eo m.me.length h.ec) rfl;obtain ⟨r0,r1,r2⟩:=(E.out.old a.out).c3;obtain ⟨f0,f1,f2⟩:=(E.out.old a.out).f3;have rl:=(E.out.old a.out).lt)
   have A:=Zmx (x:=0) (y:=0) (z:=0) (E.out.old a.out);exact ZoN (F:=X+1) Tryz.results41 rfl rfl rfl A.c3.1 A.c3.2.1 A.c3.2.2 (Zmz (Zag W.out a.out) _ _ _ L.out)
end
