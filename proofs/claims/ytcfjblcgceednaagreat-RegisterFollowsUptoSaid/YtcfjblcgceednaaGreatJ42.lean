import Derived.Test.YtcfjblcgceednaaGreatJ41
import Derived.Test.YtcfjblcgceednaaGreatJ40
set_option linter.all false
set_option maxRecDepth 100000
set_option maxHeartbeats 16000000
namespace Go.Proofs.YtcfjblcgceednaaGreat
theorem j0{p:Prop}(h:p:=by
 have HR:=Zh HE9.out.1;have HBc:=Zh HE9.out.2;refine hK _ _ ⟨⟨(HX.out.old (Zaf HB1.out HBc.out)).cell 0 rfl,(HX.out.old (Zaf HB1.out HBc.out)).cell 1 rfl,(HX.out.old (Zaf HB1.out HBc.out)).cell 2 rfl,(HX.out.old (Zaf HB1.out HBc.out)).cell 3 rfl,trivial⟩,?_⟩;clear hK Kv HE9;refine Zd5 ?_;obtain ⟨x0,x1,x2,x3⟩:=Zj5 (HX.out.old (Zaf HB1.out HBc.out));have q3:=HR.out.cell 3 (v:=.int .i64 cs) rfl
 go_upto_region 6 with (first
  | (go_at_call 37;refine (Zr9 m h n _ (Hj.out.old (Zaf HB1.out HBc.out))).mono ?_;rintro e wa ⟨rfl,hba⟩;have HBa:=Zh (Zaf HBc.out hba);have HRa:=Zh (HR.out.old hba);clear hba x0 x1 x2 x3 q3;obtain ⟨x0,x1,x2,x3⟩:=Zj5 (HX.out.old (Zaf HB1.out HBa.out)))
  | (go_at_call 43;refine (Zr5 m h n _ (Hj.out.old (Zaf HB1.out HBa.out))).mono ?_;rintro e wb ⟨rfl,hbb⟩;have HBb:=Zh (Zaf HBa.out hbb);have HRb:=Zh (HRa.out.old hbb);clear hbb x0 x1 x2 x3))
 have q0:=HRb.out.cell 0 (v:=.bool true) rfl;have q2:=HRb.out.cell 2 (v:=.int .i64 tr) rfl;have q3:=HRb.out.cell 3 (v:=.int .i64 cs) rfl;obtain ⟨g0,g1⟩:=HG.out;have HL:=Zh (Zsr hmo X.hk HNum.out gw2);have hcs:=HNum.out.2.1;have hcw:=HNum.out.2.2.1;rw [g0,g1];clear g0 g1;obtain ⟨lv,hlv⟩:∃ x,x=(Zqw m n).1:=⟨_,rfl⟩;obtain ⟨le,hle⟩:∃ x,x=(Zqw m n).2:=⟨_,rfl⟩;rw [←hlv,←hle] at HL ⊢;obtain ⟨W,hW⟩:∃ x,x=Zm1 (gW ZmV m) m n:=⟨_,rfl⟩;rw [←hW] at gw2 hcw ⊢;clear hlv hle hW;have hw1:IntKind.i64.wrap (3*cs)=3*cs:=IntWalk.i64_in _ (by omega);have hw2:IntKind.i64.wrap (3*cs+10)=3*cs+10:=IntWalk.i64_in _ (by omega);have hd:(3*cs+10 > 3*W+10)=False:=eq_false (by omega)
 go_upto_region 8 with fail
 by_cases ht0:tr=0
 ·subst ht0;obtain ⟨rfl,hlv⟩:=HL.out rfl;have hge:(cs ≥ lv)=True:=eq_true hlv;exact j17
 exact j17):p:=h
theorem j2{p:Prop}(h:p:=by
 refine oO fun Kv hK=>?_;go_simp;refine (Zsq X (Hj.out.old (Zaf HB1.out HBc.out)) hc bo bc ys (HYr.out.2 _ HYb.out) HYr.out.1 (by omega)).mono ?_;rintro e we ⟨r,tr,cs,tp,tn,tc,rfl,hnum,hbe⟩;have HNum:=Zh hnum;have HBc:=Zh (Zaf HBc.out hbe);have HR:=Zh (HR.out.old hbe);refine hK _ _ ⟨⟨(HX.out.old (Zaf HB1.out HBc.out)).cell 0 rfl,(HX.out.old (Zaf HB1.out HBc.out)).cell 1 rfl,(HX.out.old (Zaf HB1.out HBc.out)).cell 2 rfl,(HX.out.old (Zaf HB1.out HBc.out)).cell 3 rfl,trivial⟩,?_⟩;clear hK Kv hnum hbe;refine oO fun Kv hK=>?_;have R0:=HR.out.cell 0 (v:=.bool false) rfl;have R1:=HR.out.cell 1 (v:=.int .i64 0) rfl;have R2:=HR.out.cell 2 (v:=.int .i64 0) rfl;have R3:=HR.out.cell 3 (v:=.int .i64 0) rfl;have R4:=HR.out.cell 4 (v:=.slice none 0 0) rfl;have F0:=HR.out.frozen 0;have F1:=HR.out.frozen 1;have F2:=HR.out.frozen 2;have F3:=HR.out.frozen 3;have F4:=HR.out.frozen 4;have kR:=HR.out.lt;have HE9:=Zh (Zsn HR.out HBc.out HRz.out (.bool true) (.int .i64 r) (.int .i64 tr) (.int .i64 cs) (.slice tp tn tc));go_simp;clear R0 R1 R2 R3 R4 F0 F1 F2 F3 F4 kR;generalize (((((we).setCell ⟨R,0,none⟩ (.bool true)).setCell ⟨R,1,none⟩ (.int .i64 r)).setCell ⟨R,2,none⟩ (.int .i64 tr)).setCell ⟨R,3,none⟩ (.int .i64 cs)).setCell ⟨R,4,none⟩ (.slice tp tn tc)=w9 at HE9 hK ⊢;exact j0):p:=h
theorem j17{p:Prop}(h:p:=by
 go_wp2_with (go_at_call 33;refine (Zpq _).mono ?_;rintro e wz ⟨rfl,hbz⟩)
 go_ret;exact ZcT rfl (Zaf HB.out (Zaf HB1.out (Zaf HBb.out hbz)))):p:=h
section
open Go.RowKit
attribute [local go_sem] World.cell?_alloc_some
theorem Zsr {m:Md}{n:Nat} (a:(Zmg m).2.2=0) (i:n<m.me.length) {b cs:Int} (h:0≤b∧0≤cs∧cs≤Zm1 (gW ZmV m) m n∧(b=0→0≤Zm1 (gL m) m n∧Zm1 (gL m) m n≤cs)) (j:Zm1 (gW ZmV m) m n≤9997):b=0→(Zqw m n).2=0∧(Zqw m n).1≤cs:=by
 intro e;obtain ⟨f,c⟩:=h.2.2.2 e;have g:=h.2.2.1;have d:ZpR m n=true:=by unfold ZpR inV;simp only [Bool.and_eq_true,decide_eq_true_eq];exact ⟨a,by omega⟩
 have:Zqw m n=(Zm1 (gL m) m n,0):=by unfold Zqw;rw [if_pos d,Int.toNat_natCast,if_neg (by omega),if_neg (by omega)]
 rw [this];exact ⟨rfl,c⟩
theorem Zss (m:Md) (h:Hd) (k:Int) (G:Option Addr) (F:Nat) (E:List Int) (w:World) (H:Zay w h m) (ha:Zar w G F E):Calls Tryz.prog 9 #[.agg (HM.mk h m),.int .i64 k,.slice G E.length F] w (Ret w (.bool true)):=by
 obtain ⟨I,y⟩:∃ I,I=w.alloc (.cells (HM.mk h m) 26):=⟨_,rfl⟩;have HB:=Zh (show Below w.heap.size w I by rw [y];exact bE);have HX:=Zh (show Blk I w.heap.size (HM.mk h m) 26 by rw [y];exact Blk.new _ _ _);have Hj:=Zh (H.old HB.out);have T:=Zh y;have O:=Zh (ha.old HB.out);clear y H ha;by_cases hl:(E.length:Int) > 100
 ·go_enter Tryz.func9,Tryz.ntmps9
  go_upto_region 1 with fail
  rw [←T.out]
  go_wp2_with (go_at_call 33;refine (Zpq _).mono ?_;rintro e V ⟨rfl,z⟩)
  go_ret;exact ZcT rfl (Zaf HB.out z)
 go_enter Tryz.func9,Tryz.ntmps9
 go_upto_region 1 with fail
 rw [←T.out];obtain ⟨x0,x1,x2,x3⟩:=Zj5 HX.out
 go_upto_region 3 with (first
  | (go_at_call 40;refine (Zsl m h k _ Hj.out).mono ?_;rintro e A ⟨b,rfl,D,B⟩;have HB1:=Zh B;have K:=Zh D;clear B D x0 x1 x2 x3;obtain ⟨x0,x1,x2,x3⟩:=Zj5 (HX.out.old HB1.out))
  | (go_at_call 33;refine (Zpq _).mono ?_;rintro e V ⟨rfl,z⟩))
 ·go_ret;exact ZcT rfl (Zaf HB.out (Zaf HB1.out z))
 -- behind the tests
 have M:b=true:=by cases b<;>simp_all
 subst M;obtain ⟨g0,g1⟩:=K.out rfl;obtain ⟨n,rfl,X,hc,U,gw2,hmo⟩:=Zsj g0 g1;have C:=(ZfN X.hm X.hk).z.1;have HBc:=Zh (Below.refl A.heap.size A).drew;have HG:=Zh (And.intro g0 U);clear g0 g1 U;refine rO (Cs [(⟨w.heap.size,0,none⟩,.slice h.co m.cl.length h.cc),(⟨w.heap.size,1,none⟩,.slice h.so m.st.length h.sc),(⟨w.heap.size,2,none⟩,.slice h.eo m.me.length h.ec),(⟨w.heap.size,3,none⟩,.int .i64 m.sel)]) (.plain 0 (.plain 1 (.plain 2 (.plain 3 (.plain 4 (.two 5 7 (.two 6 7 (.one 7 (.one 8 .done)) (.one 6 (.one 8 .done))) (oL [105,106,108]))))))) ⟨x0,x1,x2,x3,trivial⟩ ?_;clear x0 x1 x2 x3
 repeat refine pO ?_
 generalize A.drew=wd at HBc ⊢;refine Zd4 ?_ ?_
 ·refine Zd2 _ (by rfl) (by rfl) fun Kv hK=>?_;go_simp;refine (Zsi X.hk C _ (Hj.out.old (Zaf HB1.out HBc.out)) G F E (O.out.old (Zaf HB1.out HBc.out))).mono ?_;rintro e q ⟨ys,bo,bc,rfl,u,s,i⟩;have HYr:=Zh (And.intro u (fun N (L:Below q.heap.size q N)=>s.old L));have J:=Zh i;have HBc:=Zh (Zaf HBc.out i);have HYb:=Zh (Below.refl q.heap.size q);refine hK _ _ ⟨⟨(HX.out.old (Zaf HB1.out HBc.out)).cell 0 rfl,(HX.out.old (Zaf HB1.out HBc.out)).cell 1 rfl,(HX.out.old (Zaf HB1.out HBc.out)).cell 2 rfl,(HX.out.old (Zaf HB1.out HBc.out)).cell 3 rfl,trivial⟩,?_⟩;clear hK Kv u s i;refine Zd4 ?_ ?_
  ·refine Zd2 _ (by rfl) (by rfl) fun Kv hK=>?_;go_simp;refine (Zsq X (Hj.out.old (Zaf HB1.out HBc.out)) hc bo bc ys (HYr.out.2 _ HYb.out) HYr.out.1 (by omega)).mono ?_;rintro e we ⟨r,tr,cs,tp,tn,tc,rfl,hnum,hbe⟩;have HNum:=Zh hnum;have HBc:=Zh (Zaf HBc.out hbe);refine hK _ _ ⟨⟨(HX.out.old (Zaf HB1.out HBc.out)).cell 0 rfl,(HX.out.old (Zaf HB1.out HBc.out)).cell 1 rfl,(HX.out.old (Zaf HB1.out HBc.out)).cell 2 rfl,(HX.out.old (Zaf HB1.out HBc.out)).cell 3 rfl,trivial⟩,?_⟩;clear hK Kv hnum hbe;refine oO fun Kv hK=>?_;go_simp;obtain ⟨wr,f⟩:∃ wr,wr=(we).alloc (.cells #[.bool false,.int .i64 0,.int .i64 0,.int .i64 0,.slice none 0 0] 60):=⟨_,rfl⟩;have g:Below (we).heap.size (we) wr:=by rw [f];exact bE
   obtain ⟨R,j⟩:∃ R,R=(we).heap.size:=⟨_,rfl⟩;have HR:=Zh (show Blk wr R #[.bool false,.int .i64 0,.int .i64 0,.int .i64 0,.slice none 0 0] 60 by rw [f];exact Blk.new' _ _ j);have HRz:=Zh (show A.heap.size≤R by rw [j];exact HBc.out.size);rw [←j,←f];have HBc:=Zh (Zaf HBc.out g);refine hK _ _ ⟨⟨(HX.out.old (Zaf HB1.out HBc.out)).cell 0 rfl,(HX.out.old (Zaf HB1.out HBc.out)).cell 1 rfl,(HX.out.old (Zaf HB1.out HBc.out)).cell 2 rfl,(HX.out.old (Zaf HB1.out HBc.out)).cell 3 rfl,trivial⟩,?_⟩;clear hK Kv g f j;refine oO fun Kv hK=>?_;have R0:=HR.out.cell 0 (v:=.bool false) rfl;have R1:=HR.out.cell 1 (v:=.int .i64 0) rfl;have R2:=HR.out.cell 2 (v:=.int .i64 0) rfl;have R3:=HR.out.cell 3 (v:=.int .i64 0) rfl;have R4:=HR.out.cell 4 (v:=.slice none 0 0) rfl;have F0:=HR.out.frozen 0;have F1:=HR.out.frozen 1;have F2:=HR.out.frozen 2;have F3:=HR.out.frozen 3;have F4:=HR.out.frozen 4;have kR:=HR.out.lt;have HE9:=Zh (Zsn HR.out HBc.out HRz.out (.bool true) (.int .i64 r) (.int .i64 tr) (.int .i64 cs) (.slice tp tn tc));go_simp;clear R0 R1 R2 R3 R4 F0 F1 F2 F3 F4 kR;generalize (((((wr).setCell ⟨R,0,none⟩ (.bool true)).setCell ⟨R,1,none⟩ (.int .i64 r)).setCell ⟨R,2,none⟩ (.int .i64 tr)).setCell ⟨R,3,none⟩ (.int .i64 cs)).setCell ⟨R,4,none⟩ (.slice tp tn tc)=w9 at HE9 hK ⊢;exact j0
  ·refine Zd2 _ (by rfl) (by rfl) fun Kv hK=>?_;go_simp;obtain ⟨wr,f⟩:∃ wr,wr=(q).alloc (.cells #[.bool false,.int .i64 0,.int .i64 0,.int .i64 0,.slice none 0 0] 60):=⟨_,rfl⟩;have g:Below (q).heap.size (q) wr:=by rw [f];exact bE
   obtain ⟨R,j⟩:∃ R,R=(q).heap.size:=⟨_,rfl⟩;have HR:=Zh (show Blk wr R #[.bool false,.int .i64 0,.int .i64 0,.int .i64 0,.slice none 0 0] 60 by rw [f];exact Blk.new' _ _ j);have HRz:=Zh (show A.heap.size≤R by rw [j];exact HBc.out.size);rw [←j,←f];have HBc:=Zh (Zaf HBc.out g);have HYb:=Zh (Zaf HYb.out g);refine hK _ _ ⟨⟨(HX.out.old (Zaf HB1.out HBc.out)).cell 0 rfl,(HX.out.old (Zaf HB1.out HBc.out)).cell 1 rfl,(HX.out.old (Zaf HB1.out HBc.out)).cell 2 rfl,(HX.out.old (Zaf HB1.out HBc.out)).cell 3 rfl,trivial⟩,?_⟩;clear hK Kv g f j;exact j2
 ·refine Zd2 _ (by rfl) (by rfl) fun Kv hK=>?_;go_simp;obtain ⟨wr,f⟩:∃ wr,wr=(wd).alloc (.cells #[.bool false,.int .i64 0,.int .i64 0,.int .i64 0,.slice none 0 0] 60):=⟨_,rfl⟩;have g:Below (wd).heap.size (wd) wr:=by rw [f];exact bE
  obtain ⟨R,j⟩:∃ R,R=(wd).heap.size:=⟨_,rfl⟩;have HR:=Zh (show Blk wr R #[.bool false,.int .i64 0,.int .i64 0,.int .i64 0,.slice none 0 0] 60 by rw [f];exact Blk.new' _ _ j);have HRz:=Zh (show A.heap.size≤R by rw [j];exact HBc.out.size);rw [←j,←f];have HBc:=Zh (Zaf HBc.out g);refine hK _ _ ⟨⟨(HX.out.old (Zaf HB1.out HBc.out)).cell 0 rfl,(HX.out.old (Zaf HB1.out HBc.out)).cell 1 rfl,(HX.out.old (Zaf HB1.out HBc.out)).cell 2 rfl,(HX.out.old (Zaf HB1.out HBc.out)).cell 3 rfl,trivial⟩,?_⟩;clear hK Kv g f j;refine oO fun Kv hK=>?_;go_simp;refine (Zsi X.hk C _ (Hj.out.old (Zaf HB1.out HBc.out)) G F E (O.out.old (Zaf HB1.out HBc.out))).mono ?_;rintro e q ⟨ys,bo,bc,rfl,u,s,i⟩;have HYr:=Zh (And.intro u (fun N (L:Below q.heap.size q N)=>s.old L));have J:=Zh i;have HBc:=Zh (Zaf HBc.out i);have HYb:=Zh (Below.refl q.heap.size q);have HR:=Zh (HR.out.old i);refine hK _ _ ⟨⟨(HX.out.old (Zaf HB1.out HBc.out)).cell 0 rfl,(HX.out.old (Zaf HB1.out HBc.out)).cell 1 rfl,(HX.out.old (Zaf HB1.out HBc.out)).cell 2 rfl,(HX.out.old (Zaf HB1.out HBc.out)).cell 3 rfl,trivial⟩,?_⟩;clear hK Kv u s i;exact j2
end
