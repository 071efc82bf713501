/- Joined texts. The first: escape.solve on isochronlaw16.sane's module: the first part. -/
import Derived.Test.YtcfjblcgceednaaGreatE34
import Derived.Test.YtcfjblcgceednaaGreatE32
import Derived.Test.YtcfjblcgceednaaGreatE31
set_option linter.all false
set_option linter.unusedVariables false
set_option linter.unusedSimpArgs false
set_option maxRecDepth 100000
set_option maxHeartbeats 16000000
namespace Go.Proofs.YtcfjblcgceednaaGreat
section
open Go.RowKit
attribute [local go_sem] World.cell?_alloc_some
theorem ZnT (k c:Int) (w:World):Calls Tryz.prog 129 #[.agg #[.int .i64 k,.int .i64 c]] w (Ret w (.bool (decide (k ≥ 2)))):=by
 go_enter Tryz.func129,Tryz.ntmps129
 go_wp2
 go_ret
 exact ZcT rfl bE
def Fst (w:World) (N F k:Nat):Prop:=(k=0∧Blk w F #[.slice none 0 0,.slice none 0 0,.int .i64 0] 86)∨(k=1∧∃ ao cap,Blk w F #[.slice ao 1 cap,.slice none 0 0,.int .i64 0] 86∧Zar w ao cap [(⟨-9,0⟩:Rg)]∧1≤cap∧Lie (fun b=>N≤b∧b≠F∧b<w.heap.size) ao)
structure SR where
 lo:Option Addr
 ln:Nat
 lc:Nat
 so:Option Addr
 sn:Nat
 sc:Nat
 o:Int
instance:Inhabited SR:=⟨⟨none,0,0,none,0,0,0⟩⟩
instance:Cells SR:=⟨3,by decide,fun t=>[.slice t.lo t.ln t.lc,.slice t.so t.sn t.sc,.int .i64 t.o],fun _=>rfl,by
 intro x u hu;simp only [List.mem_cons,List.not_mem_nil,or_false] at hu;rcases hu with rfl|rfl|rfl<;>rfl⟩
theorem ZnU:El Tryz.prog 87 86 3 56:=El.mk' (z:=.agg #[.slice none 0 0,.slice none 0 0,.int .i64 0]) Tryz.underlying87 (by kernel_rfl) (by kernel_rfl) (by decide)
def SrP (w:World) (x:Sta) (r:SR):Prop:=r.ln=x.l.length∧r.sn=x.s.length∧r.o=x.o∧Znz w r.lo r.lc r.so r.sc x
theorem ZnV {w:World}{Q:Nat→Prop}{G T:Nat}{X:Nat→Sta}{i n:Nat}{C:Array Value} (H:Ahd w Q G T X i n C):∀ k,k≤i→∃ R:List SR,R.length=k∧Zak R=C.toList.take (k*3)∧∀ j,j<k→SrP w (X j) (R.getD j default)∧Lie (·≠G) (R.getD j default).lo∧Lie (·≠G) (R.getD j default).so:=by
 intro k
 induction k with
 | zero=>intro _;exact ⟨[],rfl,by simp [Zak],fun j hj=>absurd hj (by omega)⟩
 |succ k ih=>
  intro hk
  obtain ⟨R,h1,h2,h3⟩:=ih (by omega)
  obtain ⟨lo,lc,so,sc,e0,e1,e2,e3,e4,e5⟩:=H.e k hk
  refine ⟨R++[⟨lo,(X k).l.length,lc,so,(X k).s.length,sc,(X k).o⟩],by simp [h1],?_,fun j hj=>?_⟩
  ·rw [Zan,h2,show (k+1)*3=k*3+1+1+1 by omega,List.take_add_one,List.take_add_one,List.take_add_one,Array.getElem?_toList,Array.getElem?_toList,Array.getElem?_toList,e0,e1,e2]
   simp [Zak,Cells.cells]
  ·by_cases e:j=k
   ·subst e
    rw [List.getD_eq_getElem?_getD,List.getElem?_append_right (by omega),h1]
    simp
    exact ⟨⟨rfl,rfl,rfl,e3⟩,e4.w fun _ h=>h.1,e5.w fun _ h=>h.1⟩
   ·rw [List.getD_eq_getElem?_getD,List.getElem?_append_left (by omega),←List.getD_eq_getElem?_getD]
    exact h3 j (by omega)
def ZnW (w:World):Ending→World→Prop:=fun e w'=>∃ ao cap,∃ R:List SR,e=.returned (.slice ao 7 cap)∧R.length=7∧Zar w' ao cap R∧7≤cap∧(∀ j,j<7→SrP w' (ZnN j) (R.getD j default))∧Below w.heap.size w w'
theorem ZnX (ad:Addr):ad.add 0=ad:=by
 obtain ⟨b,o,s⟩:=ad
 cases s<;>simp [Addr.add]
def ZnY:Md:=⟨[⟨⟨#[]⟩,-1,[⟨2,0⟩],[]⟩],[],[⟨⟨#[]⟩,-1,[⟨2,0⟩],[],⟨0,0⟩,ZnM⟩],0⟩
theorem ZnZ:Za1 ZnY=true:=by kernel_rfl
theorem Zn0:ZeF (ZnY.me.getD 0 default)=[⟨2,0⟩]:=by kernel_rfl
theorem Zn1:ZmJ ZnY 0=([⟨2,0⟩],⟨0,0⟩,0):=by kernel_rfl
theorem Zn2:ZeH ZnY 0=([[],[⟨2,0⟩],[⟨2,0⟩,⟨2,0⟩],[],[⟨2,0⟩],[⟨2,0⟩,⟨2,0⟩],[]],0,0):=by kernel_rfl
theorem Zn3 (m:Md) (h:Hd) (w:World) (H:Zay w h m) (hm:m=ZnY):Calls Tryz.prog 67 #[.agg #[.slice h.co m.cl.length h.cc,.slice h.so m.st.length h.sc,.slice h.eo m.me.length h.ec,.int .i64 m.sel],.int .i64 0] w (ZnW w):=by
  have hv:Za1 m=true:=by rw [hm];exact ZnZ
  have hk:0<m.me.length:=by rw [hm];decide
  have hk2:(0:Int) < m.me.length:=by omega
  obtain ⟨w0,hw0⟩:∃ w0,w0=w.alloc (.cells #[.slice h.co m.cl.length h.cc,.slice h.so m.st.length h.sc,.slice h.eo m.me.length h.ec,.int .i64 m.sel] 26):=⟨_,rfl⟩
  have HB:=Zh (show Below w.heap.size w w0 by rw [hw0];exact bE)
  have HX:=Zh (show Blk w0 w.heap.size #[.slice h.co m.cl.length h.cc,.slice h.so m.st.length h.sc,.slice h.eo m.me.length h.ec,.int .i64 m.sel] 26 by rw [hw0];exact Blk.new _ _ _)
  have HM:=Zh (H.old HB.out)
  have HW:=Zh hw0
  have HMo:=Zh H
  have HMm:=Zh hm
  have HV:=Zh hv
  have HLo:=Zh (show ZeF (m.me.getD 0 default)=[⟨2,0⟩] by rw [hm];exact Zn0)
  have HKe:=Zh (show (m.me.getD 0 default).k=ZnM by rw [hm];rfl)
  have HSi:=Zh (show ZmJ m 0=([⟨2,0⟩],⟨0,0⟩,0) by rw [hm];exact Zn1)
  clear hw0 H hm hv
  go_enter Tryz.func67,Tryz.ntmps67
  go_upto_region 1 with fail
  rw [←HW.out]
  obtain ⟨ea,hea,e0,e1,e2,e3,e4,e5,e6⟩:=HM.out.mth hk
  have x0:=HX.out.cell 0 (v:=.slice h.co m.cl.length h.cc) rfl
  have x1:=HX.out.cell 1 (v:=.slice h.so m.st.length h.sc) rfl
  have x2:=HX.out.cell 2 (v:=.slice h.eo m.me.length h.ec) rfl
  have x3:=HX.out.cell 3 (v:=.int .i64 m.sel) rfl
  rw [hea] at x2
  have HEa:=Zh hea
  have HE6:=Zh e6
  clear e0 e1 e2 e3 e4 e5 e6 hea
  refine rO (Cs [(⟨w.heap.size,0,none⟩,.slice h.co m.cl.length h.cc),(⟨w.heap.size,1,none⟩,.slice h.so m.st.length h.sc),(⟨w.heap.size,2,none⟩,.slice (some ea) m.me.length h.ec),(⟨w.heap.size,3,none⟩,.int .i64 m.sel)]) (oL [0,1,2,3,4,5,106,7]) ⟨x0,x1,x2,x3,trivial⟩ ?_
  repeat refine pO ?_
  refine oO fun Kv hK=>?_
  go_simp
  obtain ⟨A,hA⟩:∃ A,A=w0.heap.size:=⟨_,rfl⟩
  obtain ⟨w1,hw1⟩:∃ w1,w1=(w0.alloc (.cells #[.slice h.co m.cl.length h.cc,.slice h.so m.st.length h.sc,.slice (some ea) m.me.length h.ec,.int .i64 m.sel,.pointer (some ea),.slice none 0 0] 160)).drew:=⟨_,rfl⟩
  have hb1:Below w0.heap.size w0 w1:=by rw [hw1];exact bE
  have HA1:=Zh (show Blk w1 A #[.slice h.co m.cl.length h.cc,.slice h.so m.st.length h.sc,.slice (some ea) m.me.length h.ec,.int .i64 m.sel,.pointer (some ea),.slice none 0 0] 160 by rw [hw1];exact (Blk.new' _ _ hA).drew)
  rw [←hA,←hw1]
  have HX1:=Zh (HX.out.old hb1)
  have HM1:=Zh (HM.out.old hb1)
  have HB1:=Zh (Zaf HB.out hb1)
  have HAw:=Zh (show w.heap.size<A by rw [hA];exact HX.out.lt)
  refine hK _ _ ⟨⟨HX1.out.cell 0 rfl,HX1.out.cell 1 rfl,by have:=HX1.out.cell 2 (v:=.slice h.eo m.me.length h.ec) rfl;rwa [HEa.out] at this,HX1.out.cell 3 rfl,trivial⟩,?_⟩
  clear hK Kv hw1 hb1 hA x0 x1 x2 x3
  repeat refine pO ?_
  refine Zd5 ?_
  have HVm:=Zh (show Calls Tryz.prog 65 #[.agg #[.slice h.co m.cl.length h.cc,.slice h.so m.st.length h.sc,.slice (some ea) m.me.length h.ec,.int .i64 m.sel],.int .i64 0] w1 _ by have:=ZlT h m 0 w1 HM1.out;rwa [HEa.out] at this)
  have x0:=HX1.out.cell 0 (v:=.slice h.co m.cl.length h.cc) rfl
  have x1:=HX1.out.cell 1 (v:=.slice h.so m.st.length h.sc) rfl
  have x2:=HX1.out.cell 2 (v:=.slice h.eo m.me.length h.ec) rfl
  have x3:=HX1.out.cell 3 (v:=.int .i64 m.sel) rfl
  rw [HEa.out] at x2
  go_upto_region 3 with (go_at_call 65;refine HVm.out.mono ?_;rintro e w2 ⟨⟨so,sc,rows,rfl,hs2⟩,hb2⟩;have HA2:=Zh (HA1.out.old hb2);have HX2:=Zh (HX1.out.old hb2);have HM2:=Zh (HM1.out.old hb2);have HB2:=Zh (Zaf HB1.out hb2);have a5:=HA2.out.cell 5 (v:=.slice none 0 0) rfl;have f5:=HA2.out.frozen 5;have al:=HA2.out.lt;clear hs2 hb2 x0 x1 x2 x3)
  have hA3:=HA2.out.set 5 (.slice so rows.length sc)
  have hU3:=(Upd.refl A A w2).set 5 (.slice so rows.length sc)
  have hB3:Below w.heap.size w _:=ZcW (j:=5) HB2.out (b:=A) (by have:=HAw.out;omega) (.slice so rows.length sc)
  have hX3:=HX2.out.other (a:=⟨A,5,none⟩) (by have:=HAw.out;show w.heap.size≠A;omega) (.slice so rows.length sc)
  have hM3:=HMo.out.old hB3
  generalize w2.setCell _ _=w3 at hA3 hU3 hB3 hX3 hM3 ⊢
  have HA3:=Zh hA3
  have HB3:=Zh hB3
  have HX3:=Zh hX3
  have HM3:=Zh hM3
  clear hA3 hU3 hB3 hX3 hM3 a5 f5 al
  have HVl:=Zh (show Calls Tryz.prog 126 #[.agg #[.slice h.co m.cl.length h.cc,.slice h.so m.st.length h.sc,.slice (some ea) m.me.length h.ec,.int .i64 m.sel],.int .i64 0] w3 _ by have:=Zip m h 0 w3 HM3.out HV.out hk;rw [HLo.out] at this;rwa [HEa.out] at this)
  have x0:=HX3.out.cell 0 (v:=.slice h.co m.cl.length h.cc) rfl
  have x1:=HX3.out.cell 1 (v:=.slice h.so m.st.length h.sc) rfl
  have x2:=HX3.out.cell 2 (v:=.slice h.eo m.me.length h.ec) rfl
  have x3:=HX3.out.cell 3 (v:=.int .i64 m.sel) rfl
  rw [HEa.out] at x2
  go_upto_region 4 with (go_at_call 126;refine HVl.out.mono ?_;rintro e w4 ⟨⟨lo,lc,rfl,hl4⟩,hb4⟩;have HLw:=Zh hl4;have HA4:=Zh (HA3.out.old hb4);have HX4:=Zh (HX3.out.old hb4);have HM4:=Zh (HM3.out.old hb4);have HB4:=Zh (Zaf HB3.out hb4);clear hl4 hb4 x0 x1 x2 x3)
  have HVs:=Zh (show Calls Tryz.prog 127 #[.agg #[.slice h.co m.cl.length h.cc,.slice h.so m.st.length h.sc,.slice (some ea) m.me.length h.ec,.int .i64 m.sel],.int .i64 0] w4 _ by have:=ZmL w4 h m HM4.out 0;rw [HSi.out] at this;rwa [HEa.out] at this)
  have x0:=HX4.out.cell 0 (v:=.slice h.co m.cl.length h.cc) rfl
  have x1:=HX4.out.cell 1 (v:=.slice h.so m.st.length h.sc) rfl
  have x2:=HX4.out.cell 2 (v:=.slice h.eo m.me.length h.ec) rfl
  have x3:=HX4.out.cell 3 (v:=.int .i64 m.sel) rfl
  rw [HEa.out] at x2
  go_upto_region 5 with (go_at_call 127;refine HVs.out.mono ?_;rintro e w5 ⟨go,gc,rfl,hg5,hb5⟩;have HGi:=Zh hg5;have HL5:=Zh hb5;have HA5:=Zh (HA4.out.old hb5);have HX5:=Zh (HX4.out.old hb5);have HM5:=Zh (HM4.out.old hb5);have HB5:=Zh (Zaf HB4.out hb5);clear hg5 hb5 x0 x1 x2 x3)
  obtain ⟨F,hF⟩:∃ F,F=w5.heap.size+1:=⟨_,rfl⟩
  have HFe:=Zh hF
  obtain ⟨w6,hw6⟩:∃ w6,w6=(w5.alloc (.cells #[.int .i64 0,.int .i64 0] 76)).alloc (.cells #[.slice none 0 0,.slice none 0 0,.int .i64 0] 86):=⟨_,rfl⟩
  have HF6:=Zh (show Blk w6 F #[.slice none 0 0,.slice none 0 0,.int .i64 0] 86 by rw [hw6];exact Blk.new' _ _ (by simp [hF]))
  have HB6:=Zh (show Below w5.heap.size w5 w6 by rw [hw6];exact bE)
  have HW6:=Zh hw6
  clear hF hw6
  go_upto_region 6 with fail
  rw [←HFe.out,←HW6.out]
  have HLr:=Zh (Zar.of_own HLw.out)
  go_wp2
  go_loopw [50] (fun i wr=>∃ k:Nat,k≤1∧i=.int .i64 k∧Hid (Below w5.heap.size w5 wr)∧Hid (Fst wr (w5.heap.size) F k)) (fun i _=>1-(intOf i).toNat)
  case atStart=>exact ⟨0,Nat.zero_le _,rfl,HB6.out,.inl ⟨rfl,HF6.out⟩⟩
  case round=>
    obtain ⟨k,hk1,rfl,HBr,HFr⟩:=hrel
    rename World=>wr
    rcases HFr.out with ⟨rfl,hF0⟩|⟨rfl,ao,cap,hF1,hr1,hc1,hl1⟩
    · obtain ⟨ad,rfl,t0,t1⟩:=Zaz ((HLr.out.old HL5.out).old HBr.out) (i:=0) (by decide)
      rw [Nat.zero_mul,ZnX] at t0 t1
      have t0:wr.cell? ad=some (.int .i64 2):=t0
      have t1:wr.cell? ⟨ad.block,ad.off+1,none⟩=some (.int .i64 0):=t1
      have HFk:=Zh hF0
      clear hF0
      obtain ⟨q,hq⟩:∃ q,q=wr.heap.size:=⟨_,rfl⟩
      obtain ⟨wq,hwq⟩:∃ wq,wq=wr.alloc (.cells #[.int .i64 2,.int .i64 0] 76):=⟨_,rfl⟩
      have hbq:Below wr.heap.size wr wq:=by rw [hwq];exact bE
      have HQt:=Zh (show Blk wq q #[.int .i64 2,.int .i64 0] 76 by rw [hwq];exact Blk.new' _ _ hq)
      have HFq:=Zh (HFk.out.old hbq)
      have HBq:=Zh (Zaf HBr.out hbq)
      have HQq:=Zh (And.intro hq hwq)
      go_upto_region 9 with fail
      rw [←HQq.out.1,←HQq.out.2]
      clear hq hwq hbq t0 t1
      go_upto_region 10 with (go_at_call 128;refine (Zmv _).mono ?_;rintro e wn ⟨rfl,hbn⟩;have HBn:=Zh hbn;have HQn:=Zh (HQt.out.old hbn);have HFn:=Zh (HFq.out.old hbn);clear hbn)
      obtain ⟨r,hr⟩:∃ r,r=wn.heap.size:=⟨_,rfl⟩
      obtain ⟨wm,hwm⟩:∃ wm,wm=wn.alloc (.cells #[.int .i64 9,.int .i64 (-9)] 44):=⟨_,rfl⟩
      have hbm:Below wn.heap.size wn wm:=by rw [hwm];exact bE
      have HRm:=Zh (show Blk wm r #[.int .i64 9,.int .i64 (-9)] 44 by rw [hwm];exact Blk.new' _ _ hr)
      have HQm:=Zh (HQn.out.old hbm)
      have HFm:=Zh (HFn.out.old hbm)
      have HBm:=Zh (Zaf (Zaf HBq.out HBn.out) hbm)
      have HNe:=Zh (show q<r∧F<r by rw [hr];exact ⟨HQn.out.lt,HFn.out.lt⟩)
      rw [←hr,←hwm]
      clear hr hwm hbm
      have q0:=HQm.out.cell 0 (v:=.int .i64 2) rfl
      have q1:=HQm.out.cell 1 (v:=.int .i64 0) rfl
      have r0:=HRm.out.cell 0 (v:=.int .i64 9) rfl
      have r1:=HRm.out.cell 1 (v:=.int .i64 (-9)) rfl
      have rf0:=HRm.out.frozen 0
      have rf1:=HRm.out.frozen 1
      have rl:=HRm.out.lt
      go_upto_region 12 with (go_at_call 129;refine (ZnT 2 0 _).mono ?_;rintro e wi ⟨rfl,hbi⟩;have HBi:=Zh hbi;have HRi:=Zh (HRm.out.old hbi);have HFi:=Zh (HFm.out.old hbi);have r0:=HRi.out.cell 0 (v:=.int .i64 9) rfl;have r1:=HRi.out.cell 1 (v:=.int .i64 (-9)) rfl;have rf0:=HRi.out.frozen 0;have rf1:=HRi.out.frozen 1;have rl:=HRi.out.lt;clear hbi)
      have hRj:=(HRi.out.set 0 (.int .i64 (-9))).set 1 (.int .i64 0)
      have hFj:=(HFi.out.other (a:=⟨r,0,none⟩) (by have:=HNe.out;show F≠r;omega) (.int .i64 (-9))).other (a:=⟨r,1,none⟩) (by have:=HNe.out;show F≠r;omega) (.int .i64 0)
      have hBj:=ZcW (j:=1) (ZcW (j:=0) (Zaf HBm.out HBi.out) (b:=r) (by have:=HNe.out;have:=HFe.out;omega) (.int .i64 (-9))) (b:=r) (by have:=HNe.out;have:=HFe.out;omega) (.int .i64 0)
      generalize (wi.setCell _ _).setCell _ _=wj at hRj hFj hBj ⊢
      have HRj:=Zh hRj
      have HFj:=Zh hFj
      have HBj:=Zh hBj
      clear hRj hFj hBj q0 q1 r0 r1 rf0 rf1 rl
      have r0:=HRj.out.cell 0 (v:=.int .i64 (-9)) rfl
      have r1:=HRj.out.cell 1 (v:=.int .i64 0) rfl
      have g0:=HFj.out.cell 0 (v:=.slice none 0 0) rfl
      have HO:=Zh (World.ownsRow_nil (wj.alloc (.cells #[.int .i64 (-9),.int .i64 0] 44)) (wj.heap.size+1) 44 2)
      go_wp2_with (at_builtin;refine Zaj rfl (.tmp 66) (.tmp 68) 39 rfl (wj.heap.size+1) 44 2 16 Zmo (.slice none 0 0) 0 [] rfl HO.out (some ⟨wj.heap.size,0,none⟩) 1 1 (Zak [(⟨-9,0⟩:Rg)]) rfl (Zm1 (t:=⟨-9,0⟩) rfl) (Zaq _) (by omega) (by unfold maxLen;omega) (by simp) ?_
                   intro ao1 cap1 w7 hown hg
                   have hbg:=((Below.refl wj.heap.size wj).alloc (Nat.le_refl _) (.cells #[.int .i64 (-9),.int .i64 0] 44)).grown hg (by simp) (by intro k hk;simp [Value.ownBlock] at hk)
                   simp only [Nat.zero_add,List.nil_append] at hown ⊢
                   have HOw:=Zh hown
                   have HBg:=Zh hbg
                   have HF7:=Zh (HFj.out.old hbg)
                   have g0:=HF7.out.cell 0 (v:=.slice none 0 0) rfl
                   have gf:=HF7.out.frozen 0
                   have gl:=HF7.out.lt
                   clear hown hg hbg r0 r1)
      have hli:=Zml HOw.out
      have hFr:=HFj.out.lt
      have hU:=(Upd.refl F F w7).set 0 (.slice ao1 1 cap1)
      have hFe:=HFe.out
      have hj5:=HBj.out.size
      exact ⟨⟨1,Nat.le_refl _,rfl,ZcW (j:=0) (Zaf HBj.out HBg.out) (b:=F) (by omega) _,.inr ⟨rfl,ao1,cap1,HF7.out.set 0 _,Zm8 (Zar.of_own (l:=[(⟨-9,0⟩:Rg)]) HOw.out) hU (hli.w fun b h=>by show b≠F;omega),ZnB HOw.out,hli.w fun b h=>⟨by omega,by omega,by simp [World.setCell];omega⟩⟩⟩,by simp [intOf]⟩
    · have HFk:=Zh hF1
      have HRk:=Zh hr1
      have HLk:=Zh hl1
      clear hF1 hr1 hl1
      obtain ⟨ea',hea,e0,e1,e2,e3,e4,e5,e6⟩:=((HM5.out.old HBr.out).mth hk)
      obtain rfl:ea=ea':=by have:=HEa.out;rw [hea] at this;exact (Option.some.inj this).symm
      rw [Nat.zero_mul,ZnX,HKe.out] at e6
      have a4:=(HA5.out.old HBr.out).cell 4 (v:=.pointer (some ea)) rfl
      have HE6r:=Zh e6
      clear e0 e1 e2 e3 e4 e5 hea
      go_upto_region 15 with fail
      obtain ⟨PB,hPB⟩:∃ PB,PB=wr.heap.size:=⟨_,rfl⟩
      obtain ⟨wp,hwp⟩:∃ wp,wp=wr.alloc (.cells #[.slice (h.e 0).ko ZnM.length (h.e 0).kc,.func (Fn.func 130) #[.pointer (some ⟨A,0,none⟩)] #[],.func (Fn.func 131) #[] #[],.func (Fn.func 132) #[] #[],.func (Fn.func 133) #[] #[],.slice none 0 0] 172):=⟨_,rfl⟩
      have hbp:Below wr.heap.size wr wp:=by rw [hwp];exact bE
      rw [←hPB,←hwp]
      have HPb:=Zh (show Blk wp PB #[.slice (h.e 0).ko 6 (h.e 0).kc,doF A,.func (Fn.func 131) #[] #[],.func (Fn.func 132) #[] #[],.func (Fn.func 133) #[] #[],.slice none 0 0] 172 by rw [hwp];exact Blk.new' _ _ hPB)
      have HBp:=Zh (Zaf HBr.out hbp)
      have HKr:=Zh (show Zar wr (h.e 0).ko (h.e 0).kc ZnM by have:=(HM5.out.old HBr.out).k 0 hk;rwa [HKe.out] at this)
      have HAn:=Zh (AnC.keeps (w:=wr) ⟨a4,HE6r.out,HKr.out⟩ (ZmV.of hbp))
      have hlt:A<PB∧ea.block<PB:=by rw [hPB];exact ⟨Zac a4,Zac (a:=⟨ea.block,ea.off+6,none⟩) HE6r.out⟩
      have hsz:PB<wp.heap.size:=HPb.out.lt
      have HKl:=Zh (show Lie (fun b=>b≠PB∧b<wp.heap.size) (h.e 0).ko from fun a ha=>by
        obtain ⟨ad,had,o0,-,-⟩:=ZaA HKr.out (i:=0) (by decide)
        rw [ha] at had
        obtain rfl:=Option.some.inj had
        rw [Nat.zero_mul,ZnX] at o0
        have:=Zac o0
        exact ⟨by omega,by omega⟩)
      have HSs:=Zh (show Znz wp ao cap none 0 (ZnN 0) from ⟨HRk.out.old hbp,Zar.nil _,hc1,Nat.le_refl _⟩)
      have HL9:=Zh (show Lie (fun b=>b≠PB∧b<wp.heap.size∧True) ao from HLk.out.w fun b hb=>⟨by omega,by omega,trivial⟩)
      have HFp:=Zh (HFk.out.old hbp)
      have HSo:=Zh (ZnS A PB ea (h.e 0).ko (h.e 0).kc (.func (Fn.func 131) #[] #[]) (.func (Fn.func 132) #[] #[]) (.func (Fn.func 133) #[] #[]) wp HAn.out ⟨by omega,by omega,HKl.out⟩ HPb.out (fun _=>True) (fun _ _=>trivial) ao none cap 0 HSs.out HL9.out (fun a ha=>by cases ha))
      have HPe:=Zh (And.intro hPB hbp)
      clear hPB hwp hbp hlt hsz a4 e6
      have g0:=HFp.out.cell 0 (v:=.slice ao 1 cap) rfl
      have g1:=HFp.out.cell 1 (v:=.slice none 0 0) rfl
      have g2:=HFp.out.cell 2 (v:=.int .i64 0) rfl
      go_upto_region 16 with (go_at_call 134;refine HSo.out.mono ?_;rintro e ws ⟨lo',lc',so',sc',G,T,C,he,hs9,ha9,hl9,hz9,hG9,hu9⟩;obtain rfl:e=.returned (.tuple #[.slice (some ⟨G,0,none⟩) 6 6,.agg #[.slice lo' 1 lc',.slice so' 0 sc',.int .i64 0]]):=he;have HS9:=Zh hs9;have HA9:=Zh ha9;have HG9:=Zh hG9;have HL8:=Zh (And.intro hl9 hz9);have HU9:=Zh hu9;clear hs9 ha9 hl9 hz9 hG9 hu9 g0 g1 g2)
      obtain ⟨wt,hwt⟩:∃ wt,wt=ws.alloc (.cells #[.slice lo' 1 lc',.slice so' 0 sc',.int .i64 0] 86):=⟨_,rfl⟩
      obtain ⟨E,hE⟩:∃ E,E=ws.heap.size:=⟨_,rfl⟩
      have hbt:Below ws.heap.size ws wt:=by rw [hwt];exact bE
      have HEt:=Zh (show Blk wt E #[.slice lo' 1 lc',.slice so' 0 sc',.int .i64 0] 86 by rw [hwt];exact Blk.new' _ _ hE)
      rw [←hwt,←hE]
      have HAt:=Zh (HA9.out.old hbt)
      have HSt:=Zh (HS9.out.old hbt)
      have HBt:=Zh hbt
      have HEe:=Zh hE
      clear hwt hE hbt
      obtain ⟨R,hR1,hR2,hR3⟩:=ZnV HAt.out 6 (Nat.le_refl _)
      rw [List.take_of_length_le (by have:=HAt.out.z;simp;omega)] at hR2
      have hGs:=HAt.out.b.lt
      have HO:=Zh (show (wt.alloc (.cells #[.slice lo' 1 lc',.slice so' 0 sc',.int .i64 0] 86)).ownsRow (min G wt.heap.size) 86 3 (.slice (some ⟨G,0,none⟩) 6 6) 6 (Zak R) from ⟨by rw [Zam,hR1];rfl,.inr ⟨G,6,C,rfl,Nat.min_le_left _ _,HAt.out.b.alloc _,Nat.le_refl _,by unfold maxLen;omega,HAt.out.z,by rw [hR2];exact List.take_of_length_le (by have:=HAt.out.z;simp;omega)⟩⟩)
      have HRs:=Zh (And.intro hR1 hR3)
      clear hR1 hR2 hR3
      have g0:=HEt.out.cell 0 (v:=.slice lo' 1 lc') rfl
      have g1:=HEt.out.cell 1 (v:=.slice so' 0 sc') rfl
      have g2:=HEt.out.cell 2 (v:=.int .i64 0) rfl
      have HNe:=Zh (show G≠E by have:=HA9.out.b.lt;have:=HEe.out;omega)
      go_wp2_with (at_builtin;refine Zaj rfl (.tmp 89) (.tmp 91) 87 rfl (min G wt.heap.size) 86 3 56 ZnU (.slice (some ⟨G,0,none⟩) 6 6) 6 (Zak R) rfl HO.out (some ⟨wt.heap.size,0,none⟩) 1 1 (Zak [(⟨lo',1,lc',so',0,sc',0⟩:SR)]) rfl (ZdL (Blk.new' _ _ rfl) (n:=1) (size:=3) rfl) (Zaq _) (by omega) (by unfold maxLen;omega) (by simp;omega) ?_
                   intro ao1 cap1 w7 hown hg
                   rw [←Zan] at hown
                   have hu7:=((Upd.refl G G wt).alloc (.cells #[.slice lo' 1 lc',.slice so' 0 sc',.int .i64 0] 86)).grown hg (by intro k hk;simp [Value.ownBlock] at hk;omega)
                   have HOw:=Zh hown
                   have HU7:=Zh hu7
                   clear hown hg hu7 g0 g1 g2)
      have hw5:=HB5.out.size
      have hwr:=HBr.out.size
      have hwp:=HPe.out.2.size
      have hPq:=HPe.out.1
      have hGq:=HG9.out
      have hb1:=Zaf (Zaf HB5.out HBr.out) HPe.out.2
      have hb2:=HU9.out.below hb1 (Nat.le_refl _) (by omega) (by omega)
      have hb4:=HU7.out.below (Zaf hb2 HBt.out) (Nat.le_refl _) (by omega) (by omega)
      have hl7:(R++[(⟨lo',1,lc',so',0,sc',0⟩:SR)]).length=7:=by rw [List.length_append,HRs.out.1];rfl
      go_ret
      refine ⟨ao1,cap1,R++[(⟨lo',1,lc',so',0,sc',0⟩:SR)],rfl,hl7,Zar.of_own (by rw [hl7];exact HOw.out),ZnB HOw.out,fun j hj=>?_,hb4⟩
      by_cases e:j=6
      · subst e
        rw [List.getD_eq_getElem?_getD,List.getElem?_append_right (by rw [HRs.out.1];exact Nat.le_refl _),HRs.out.1]
        exact ⟨rfl,rfl,rfl,HSt.out.upd HU7.out (HL8.out.1.w fun _ h=>⟨h.1,h.1⟩) (HL8.out.2.w fun _ h=>⟨h.1,h.1⟩)⟩
      · rw [List.getD_eq_getElem?_getD,List.getElem?_append_left (by rw [HRs.out.1];omega),←List.getD_eq_getElem?_getD]
        obtain ⟨⟨h1,h2,h3,h4⟩,h5,h6⟩:=HRs.out.2 j (by omega)
        exact ⟨h1,h2,h3,h4.upd HU7.out (h5.w fun _ h=>⟨h,h⟩) (h6.w fun _ h=>⟨h,h⟩)⟩
end
section
open Go.RowKit
def Zn4 (w:World) (M:Nat) (K:List Nat) (V:Nat→Bool):Prop:=K.Nodup∧(∀ k∈K,k<1000)∧∃ D:DataW Unit,w.ownsMap Tryz.prog 3 (plainElem Tryz.prog 4) M K.length D∧Maps.size D=K.length∧(∀ k:Nat,Maps.has D (.int .i64 k)=decide (k∈K))∧(∀ k:Nat,k∈K→D.atKey (.int .i64 k) (.lit (.bool false))=.lit (.bool (V k)))∧∀ kl,Maps.has D kl=true→∃ k:Nat,k∈K∧kl=.int .i64 k
theorem Zn4.made (w:World) (V:Nat→Bool):Zn4 (w.alloc (.map #[] 0)) w.heap.size [] V:=
 ⟨List.nodup_nil,fun _ h=>by simp at h,_,World.ownsMap_made _ _ _ _,rfl,fun k=>by simp [Maps.has],fun k h=>by simp at h,fun kl h=>by simp [Maps.has] at h⟩
theorem Zn4.map {w:World}{M:Nat}{K:List Nat}{V:Nat→Bool} (H:Zn4 w M K V):ZmX w M:=by
 obtain ⟨_,_,D,⟨es,c,h,_⟩,_⟩:=H
 exact ⟨es,c,h⟩
theorem Zn4.put {w:World}{M:Nat}{K:List Nat}{V:Nat→Bool} (H:Zn4 w M K V) (Hl:K.length≤1000) (k:Nat) (hk:k<1000) (v:Bool):∃ w',(Instr.mapUpdate 152 (.map (some M)) (.int .i64 k) (.bool v)).run Tryz.prog w=.ok () w'∧Zn4 w' M (Znb k K) (fun j=>if j=k then v else V j)∧w.grownBy w' (some M):=by
 have hl:K.length≤1000:=Hl
 obtain ⟨h1,h2,D,h3,h4,h5,h6,h7⟩:=H
 obtain ⟨w',hr,hw,hg⟩:=h3.update ZmY Tryz.underlying152 (by unfold maxLen;omega) (Zm0 (k:=k) (by omega)) (plainElem_bool Tryz.underlying4 v)
 refine ⟨w',hr,?_,hg⟩
 have ht:=h3.tidy ZmY
 have hs:=Maps.size_put (k:=.int .i64 k) ht (.lit (.bool v))
 rw [h5 k] at hs
 have hsz:Maps.size (D.put (.int .i64 k) (.lit (.bool v)))=(Znb k K).length:=by
  rw [hs,h4]
  unfold Znb
  by_cases e:k∈K
  ·rw [if_pos e];simp [e]
  ·rw [if_neg e];simp [e]
 refine ⟨?_,fun j hj=>?_,_,by have:=Zm9 hw;rwa [hsz] at this,hsz,fun j=>?_,fun j hj=>?_,fun kl hkl=>?_⟩
 ·unfold Znb
  split
  ·exact h1
  ·rename_i e;exact List.nodup_cons.2 ⟨e,h1⟩
 ·rcases Znc.1 hj with rfl|e
  ·exact hk
  ·exact h2 j e
 ·by_cases e:j=k
  ·subst e;rw [Maps.has_put_same (k:=.int .i64 j) ht.isMap trivial];simp [Znc]
  ·rw [Maps.has_put_other (by intro q;cases q;omega),h5];simp [Znc,e]
 ·by_cases e:j=k
  ·subst e;rw [Maps.atKey_put_same (k:=.int .i64 j) ht.isMap trivial];dsimp only;rw [if_pos rfl]
  ·rw [Maps.atKey_put_other (by intro q;cases q;omega)];dsimp only;rw [if_neg e]
   exact h6 j ((Znc.1 hj).resolve_left e)
 ·by_cases e:kl=.int .i64 k
  ·exact ⟨k,Znc.2 (.inl rfl),e⟩
  ·rw [Maps.has_put_other e] at hkl
   obtain ⟨j,hj,e2⟩:=h7 kl hkl
   exact ⟨j,Znc.2 (.inr hj),e2⟩
theorem Zn5 {w:World}{o:Oper}{a:Act}{Q:Exit→Act→World→Prop}{Kv:Act→World→Prop} (m x v:Operand) (hop:o.op=Op.mapUpdate 152 m x v) {M:Nat}{K:List Nat}{V:Nat→Bool} (hm:a.eval m=.map (some M)) (H:Zn4 w M K V) (k:Nat) (hx:a.eval x=.int .i64 k) (vv:Bool) (hv:a.eval v=.bool vv) (Hl:K.length≤1000) (hk:k<1000)
  (hK:∀ w',Zn4 w' M (Znb k K) (fun j=>if j=k then vv else V j)→w.grownBy w' (some M)→Kv (a.put o.dst undef) w'):o.wp Tryz.prog a w Kv Q:=by
 obtain ⟨w',hrun,r1,r2⟩:=H.put Hl k hk vv
 unfold Oper.wp
 simp [execOp,hop,hm,hx,hv,hrun,Result.andThen]
 exact hK w' r1 r2
def Zn6 (w:World) (M r:Nat) (K ds:List Nat) (V:Nat→Bool) (cnt:Nat):Prop:=∃ (D:DataW Unit) (left:Lit→Bool),w.ranges Tryz.prog 3 (plainElem Tryz.prog 4) M r K.length D left cnt∧(∀ kl,left kl=true→∃ k:Nat,k∈K∧kl=.int .i64 k∧k ∉ ds)∧(∀ k:Nat,k∈K→k ∉ ds→left (.int .i64 k)=true)∧ds.Nodup∧(∀ k∈ds,k∈K)∧∀ k:Nat,k∈K→D.atKey (.int .i64 k) (.lit (.bool false))=.lit (.bool (V k))
theorem Zn6.left_eq {w:World}{M r:Nat}{K ds:List Nat}{V:Nat→Bool}{cnt:Nat} (H:Zn6 w M r K ds V cnt):w.rangeLeft M r=cnt:=by
 obtain ⟨D,left,h,h1⟩:=H
 exact h.left_eq
theorem Zn6.kept {w w':World}{M r:Nat}{K ds:List Nat}{V:Nat→Bool}{cnt:Nat} (H:Zn6 w M r K ds V cnt) (hb:Below w.heap.size w w'):Zn6 w' M r K ds V cnt:=by
 obtain ⟨D,left,h,h1⟩:=H
 refine ⟨D,left,?_,h1⟩
 have hM:M<w.heap.size:=by
  obtain ⟨es,c,h0,_⟩:=h.owns
  exact Classical.byContradiction fun e=>by rw [Array.getElem?_eq_none (by omega)] at h0;cases h0
 exact h.kept (row:=none) ⟨hb.os,hb.tape,hb.output,hb.size,fun i hi _=>hb.block i hi⟩ (by simp) (by simp)
section
variable {w:World}{ops:Array Oper}{rest:List Oper}{o:Oper}{a:Act}{Q:Exit→Act→World→Prop}(hg:o.guard=none)
include w ops rest o a Q hg
theorem Zn7 (m:Operand) (hop:o.op=Op.range 152 m) {M:Nat} {K:List Nat} {V:Nat→Bool} (hm:a.eval m=.map (some M)) (H:Zn4 w M K V) (hK:∀ w' cnt,Zn6 w' M w.heap.size K [] V cnt→Below w.heap.size w w'→w'.heap.size=w.heap.size+1→wpList Tryz.prog ops Q rest (a.put o.dst (.pointer (some ⟨w.heap.size,0,none⟩))) w'):wpList Tryz.prog ops Q (o :: rest) a w:=by
 obtain ⟨h1,h2,D,h3,h4,h5,h6,h7⟩:=H
 refine wpList_range_own w hg m 152 hop 3 4 ZmY Tryz.underlying152 _ M K.length D hm h3 fun w' hr hg' hs=>hK w' (Maps.size D) ?_ ⟨hg'.os,hg'.tape,hg'.output,hg'.size,fun i hi=>hg'.block i hi (by simp)⟩ hs
 exact ⟨D,_,hr,fun kl hkl=>by obtain ⟨k,hk,e⟩:=h7 kl hkl;exact ⟨k,hk,e,by simp⟩,fun k hk _=>by rw [h5];simpa using hk,List.nodup_nil,fun _ h=>by simp at h,h6⟩
theorem Zn8 (it:Operand) (hop:o.op=Op.next it false) {M r:Nat} {K ds:List Nat} {V:Nat→Bool} {cnt:Nat} (hit:a.eval it=.pointer (some ⟨r,0,none⟩)) (H:Zn6 w M r K ds V cnt) (hDone:(∀ k∈K,k∈ds)→wpList Tryz.prog ops Q rest (a.put o.dst (.tuple #[.bool false])) w) (hMore:∀ (k:Nat) (w':World) (cnt':Nat),k∈K→k ∉ ds→Zn6 w' M r K (k :: ds) V cnt'→cnt' < cnt→w.grownBy w' (some r)→(Instr.entry (.pointer (some ⟨r,0,none⟩))).run Tryz.prog w'=.ok (.tuple #[.int .i64 k,.bool (V k)]) w'→wpList Tryz.prog ops Q rest (a.put o.dst (.tuple #[.bool true,.int .i64 k,.bool (V k)])) w'):wpList Tryz.prog ops Q (o :: rest) a w:=by
 obtain ⟨D,left,h,h1,h2,h3,h4,h5⟩:=H
 have hki:(Tryz.prog).underlying 3=some (.int .i64):=Tryz.underlying3
 refine wpList_next_ranges w hg it hop 3 ZmY _ (Value.int .i64) Value.bool (fun key kl hkey=>by obtain ⟨x,rfl,_⟩:=Maps.keyOf_int_inv hki hkey;exact ⟨x,rfl⟩) (fun v y hv=>by obtain ⟨c,rfl,_⟩:=Zna hv;exact ⟨c,rfl⟩) M r K.length D left cnt hit h (fun _ h0=>hDone fun k hk=>Classical.byContradiction fun e=>by have:=h2 k hk e;rw [h0] at this;cases this) ?_
 intro x c kl y w' cnt' hkey hl hy hat hr hlt hg' hs hen
 obtain ⟨x',hx,rfl,-⟩:=Maps.keyOf_int_inv hki hkey
 cases hx
 obtain ⟨k,hk,e,hkd⟩:=h1 _ hl
 cases e
 have hcv:c=V k:=by
  have:=h5 k hk
  obtain ⟨b,hb,rfl⟩:=Zna hy
  cases hb
  rw [hat] at this
  simpa using this
 subst hcv
 refine hMore k w' cnt' hk hkd ⟨D,_,hr,fun kl hkl=>?_,fun j hj hjd=>?_,List.nodup_cons.2 ⟨hkd,h3⟩,fun j hj=>?_,h5⟩ hlt hg' hen
 ·simp only [Bool.and_eq_true,Bool.not_eq_true'] at hkl
  obtain ⟨j,hj,rfl,hjd⟩:=h1 _ hkl.1
  refine ⟨j,hj,rfl,fun e=>?_⟩
  rcases List.mem_cons.1 e with rfl|e
  ·have:=hkl.2;simp [Lit.sameKey] at this
  ·exact hjd e
 ·have hne:j≠k:=fun e=>hjd (by simp [e])
  simp only [Bool.and_eq_true,Bool.not_eq_true']
  exact ⟨h2 j hj fun e=>hjd (by simp [e]),by simp [Lit.sameKey];omega⟩
 ·rcases List.mem_cons.1 hj with rfl|e
  ·exact hk
  ·exact h4 j e
end
theorem Zn6.grown {w w':World}{M r:Nat}{K ds:List Nat}{V:Nat→Bool}{cnt:Nat}{row:Option Nat} (H:Zn6 w M r K ds V cnt) (hg:w.grownBy w' row) (hM:some M≠row) (hr:some r≠row):Zn6 w' M r K ds V cnt:=by
 obtain ⟨D,left,h,h1⟩:=H
 exact ⟨D,left,h.kept hg hM hr,h1⟩
end
section
open Go.RowKit
attribute [local go_sem] World.cell?_alloc_some
def stK (k:Nat):List Nat:=if k≤2 then [] else if k≤5 then [2] else [5,2]
def stV (k:Nat):Bool:=decide (k=2)
def stT:List (List Ty):=[[],[⟨2,0⟩],[⟨2,0⟩,⟨2,0⟩],[],[⟨2,0⟩],[⟨2,0⟩,⟨2,0⟩],[]]
theorem Zn4.congr {w:World}{M:Nat}{K:List Nat}{V V':Nat→Bool} (H:Zn4 w M K V) (h:∀ k∈K,V k=V' k):Zn4 w M K V':=by
 obtain ⟨h1,h2,D,h3,h4,h5,h6,h7⟩:=H
 exact ⟨h1,h2,D,h3,h4,h5,fun k hk=>by rw [h6 k hk,h k hk],h7⟩
theorem Zn4.keepB {w w':World}{M:Nat}{K:List Nat}{V:Nat→Bool} (H:Zn4 w M K V) (hb:Below w.heap.size w w'):Zn4 w' M K V:=by
 obtain ⟨h1,h2,D,h3,h4⟩:=H
 exact ⟨h1,h2,D,h3.kept (row:=none) ⟨hb.os,hb.tape,hb.output,hb.size,fun i hi _=>hb.block i hi⟩ (by simp),h4⟩
theorem Zn9 {w:World}{ao:Option Addr}{cap:Nat}{l:List SR} (h:Zar w ao cap l) {i:Nat} (hi:i<l.length):∃ ad,ao=some ad∧w.cell? (ad.add (i*3))=some (.slice (l.getD i default).lo (l.getD i default).ln (l.getD i default).lc)∧w.cell? ⟨(ad.add (i*3)).block,(ad.add (i*3)).off+1,none⟩=some (.slice (l.getD i default).so (l.getD i default).sn (l.getD i default).sc)∧w.cell? ⟨(ad.add (i*3)).block,(ad.add (i*3)).off+2,none⟩=some (.int .i64 (l.getD i default).o):=by
 have hx:l[i]=l.getD i default:=by simp [hi]
 obtain ⟨ad,ha⟩:=h.some (by omega)
 rw [ha] at h
 exact ⟨ad,ha,h.cell hi 0 (by rw [hx];rfl),h.cell hi 1 (by rw [hx];rfl),h.cell hi 2 (by rw [hx];rfl)⟩
def Zoa (w:World) (K:List Nat) (V:Nat→Bool):Ending→World→Prop:=fun e w'=>∃ M,e=.returned (.map (some M))∧Zn4 w' M K V∧w.heap.size≤M∧Below w.heap.size w w'
theorem Zob (m:Md) (h:Hd) (w:World) (H:Zay w h m) (hm:m=ZnY):Calls Tryz.prog 139 #[.agg #[.slice h.co m.cl.length h.cc,.slice h.so m.st.length h.sc,.slice h.eo m.me.length h.ec,.int .i64 m.sel],.int .i64 0] w (Zoa w [5,2] stV):=by
 have hk:0<m.me.length:=by rw [hm];decide
 have hk2:(0:Int) < m.me.length:=by omega
 have hmm:=@run_makeMap Tryz.prog
 obtain ⟨w0,hw0⟩:∃ w0,w0=w.alloc (.cells #[.slice h.co m.cl.length h.cc,.slice h.so m.st.length h.sc,.slice h.eo m.me.length h.ec,.int .i64 m.sel] 26):=⟨_,rfl⟩
 have HB:=Zh (show Below w.heap.size w w0 by rw [hw0];exact bE)
 have HX:=Zh (show Blk w0 w.heap.size #[.slice h.co m.cl.length h.cc,.slice h.so m.st.length h.sc,.slice h.eo m.me.length h.ec,.int .i64 m.sel] 26 by rw [hw0];exact Blk.new _ _ _)
 have HW:=Zh hw0
 have HMo:=Zh H
 have HMm:=Zh hm
 have HVm:=Zh (fun w' (hb:Below w.heap.size w w')=>(by have:=ZlT h m 0 w' (H.old hb);rwa [show ZeH m 0=(stT,0,0) by rw [hm];exact Zn2] at this:Calls Tryz.prog 65 #[.agg #[.slice h.co m.cl.length h.cc,.slice h.so m.st.length h.sc,.slice h.eo m.me.length h.ec,.int .i64 m.sel],.int .i64 0] w' (ZjL w' (stT,0,0))))
 have HSo:=Zh (fun w' (hb:Below w.heap.size w w')=>Zn3 m h w' (H.old hb) hm)
 clear hw0 H hm
 go_enter Tryz.func139,Tryz.ntmps139
 go_upto_region 1 with fail
 rw [←HW.out]
 go_upto_region 2 with fail
 clear hmm
 obtain ⟨M,hM⟩:∃ M,M=w0.heap.size:=⟨_,rfl⟩
 obtain ⟨w1,hw1⟩:∃ w1,w1=w0.alloc (.map #[] 0):=⟨_,rfl⟩
 have hb1:Below w0.heap.size w0 w1:=by rw [hw1];exact bE
 have HBo1:=Zh (show Zn4 w1 M [] stV by rw [hw1,hM];exact Zn4.made w0 stV)
 rw [←hM,←hw1]
 have HX1:=Zh (HX.out.old hb1)
 have HB1:=Zh (Zaf HB.out hb1)
 have HMl:=Zh (show w.heap.size<M by rw [hM];exact HX.out.lt)
 clear hM hw1 hb1
 have x0:=HX1.out.cell 0 (v:=.slice h.co m.cl.length h.cc) rfl
 have x1:=HX1.out.cell 1 (v:=.slice h.so m.st.length h.sc) rfl
 have x2:=HX1.out.cell 2 (v:=.slice h.eo m.me.length h.ec) rfl
 have x3:=HX1.out.cell 3 (v:=.int .i64 m.sel) rfl
 go_upto_region 3 with (go_at_call 65;refine (HVm.out _ HB1.out).mono ?_;rintro e w2 ⟨⟨so,sc,rows,rfl,hs2⟩,hb2⟩;have HT2:=Zh hs2;have HRl:=Zh hs2.len;have HX2:=Zh (HX1.out.old hb2);have HB2:=Zh (Zaf HB1.out hb2);have HK2:=Zh hb2;clear hs2 hb2 x0 x1 x2 x3)
 have hr7:rows.length=7:=HRl.out
 rw [hr7]
 have HR7:=Zh hr7
 clear hr7
 have x0:=HX2.out.cell 0 (v:=.slice h.co m.cl.length h.cc) rfl
 have x1:=HX2.out.cell 1 (v:=.slice h.so m.st.length h.sc) rfl
 have x2:=HX2.out.cell 2 (v:=.slice h.eo m.me.length h.ec) rfl
 have x3:=HX2.out.cell 3 (v:=.int .i64 m.sel) rfl
 go_wp2_with (go_at_call 67;refine (HSo.out _ HB2.out).mono ?_;rintro e w3 ⟨ao,cap,R,rfl,hR1,hR2,hc7,hR3,hb3⟩;have HR3:=Zh (And.intro hR1 (And.intro hR2 hR3));have HX3:=Zh (HX2.out.old hb3);have HB3:=Zh (Zaf HB2.out hb3);have HT3:=Zh (HT2.out.old hb3);have HK3:=Zh (Zaf HK2.out hb3);clear hR1 hR2 hR3 hb3 x0 x1 x2 x3)
 have HBo3:=Zh (show Zn4 w3 M [] stV from HBo1.out.keepB HK3.out)
 go_loopw [30] (fun i wr=>∃ k:Nat,k≤6∧i=.int .i64 k∧Hid (Below w.heap.size w wr)∧Hid (ZmV w3 wr)∧Hid (Zn4 wr M (stK k) stV)) (fun i _=>6-(intOf i).toNat)
 case atStart=>exact ⟨0,by omega,rfl,HB3.out,ZmV.refl _,HBo3.out⟩
 case round=>
  obtain ⟨k,hk6,rfl,HBr,HKr,HMr⟩:=hrel
  rename World=>wr
  by_cases hkl:k<6
  ·have hkl2:(k:Int) < 6:=by omega
   have hwk:IntKind.i64.wrap ((k:Int)+1)=((k+1:Nat):Int):=IntWalk.i64_in _ (by omega)
   obtain ⟨ad,rfl,r0,r1,r2⟩:=Zn9 (ZmW HR3.out.2.1 HKr.out) (show k<R.length by rw [HR3.out.1];omega)
   obtain ⟨hn1,hn2,-,hsa⟩:=HR3.out.2.2 k (by omega)
   obtain ⟨⟨lo,ln,lc,sto,sn,stc,so'⟩,hrr⟩:∃ r,r=R.getD k default:=⟨_,rfl⟩
   rw [←hrr] at r0 r1 r2 hn1 hn2 hsa
   dsimp only at r0 r1 r2 hn1 hn2 hsa
   have HSa:=Zh (hsa.keeps HKr.out)
   have hrk:k<rows.length:=by rw [HR7.out];omega
   obtain ⟨td,rfl,t0⟩:=ZlZ (ZmW (Zar.of_own HT3.out.own) HKr.out) hrk
   have hat:=HT3.out.at_ k hrk
   obtain ⟨⟨to',tn,tc⟩,htt⟩:∃ r,r=rows.getD k default:=⟨_,rfl⟩
   rw [←htt] at t0 hat
   dsimp only at t0 hat
   have HTa:=Zh (And.intro hat.1 (ZmW hat.2.1 HKr.out))
   have HMr2:=Zh (HMo.out.old HBr.out)
   obtain ⟨ea,hea,-,-,-,-,-,-,e6⟩:=HMr2.out.mth hk
   have hck:(m.me.getD 0 default).k=ZnM:=by rw [HMm.out];rfl
   have hrc:=HMr2.out.k 0 hk
   rw [hck] at e6 hrc
   obtain ⟨cd,hcd,o0,o1,o2⟩:=ZaA hrc (show k<ZnM.length from hkl)
   rw [hcd] at e6
   have x2:=HKr.out _ _ (HX3.out.cell 2 (v:=.slice h.eo m.me.length h.ec) rfl)
   have x0:=HKr.out _ _ (HX3.out.cell 0 (v:=.slice h.co m.cl.length h.cc) rfl)
   rw [hea] at x2
   clear hsa hat hrr htt hrc hea
   rw [Nat.zero_mul,ZnX,show ZnM.length=6 from rfl] at e6
   have hk7:(k:Int) < 7:=by omega
   have lr:=Zac r0
   have lt:=Zac t0
   have lo0:=Zac o0
   have le:=Zac (a:=⟨ea.block,ea.off+6,none⟩) e6
   have lx:=Zac (a:=⟨w.heap.size,2,none⟩) x2
   by_cases h18:k=2∨k=5
   ·have hop:ZnM.getD k default=⟨18,0,0⟩:=by rcases h18 with rfl|rfl<;>rfl
    have hs2:(ZnN k).s.length=2:=by rcases h18 with rfl|rfl<;>rfl
    have ht2:stT.getD k []=[⟨2,0⟩,⟨2,0⟩]:=by rcases h18 with rfl|rfl<;>rfl
    rw [hop] at o0 o1 o2
    have htn:=HTa.out.1
    rw [ht2] at htn
    obtain rfl:tn=2:=htn
    have hrt:=HTa.out.2
    rw [ht2] at hrt
    have HRt:=Zh hrt
    rw [hs2] at hn2
    subst hn2
    clear hop hrt hs2 ht2
    go_upto_region 11 with fail
    obtain ⟨S,hS⟩:∃ S,S=wr.heap.size:=⟨_,rfl⟩
    obtain ⟨wb,hwb⟩:∃ wb,wb=(wr.alloc (.cells #[.slice lo (ZnN k).l.length lc,.slice sto 2 stc,.int .i64 so'] 86)).alloc (.cells #[.int .i64 18,.int .i64 0,.int .i64 0] 78):=⟨_,rfl⟩
    have hbb:Below wr.heap.size wr wb:=by rw [hwb];exact bE
    have HSb:=Zh (show Blk wb S #[.slice lo (ZnN k).l.length lc,.slice sto 2 stc,.int .i64 so'] 86 by rw [hwb,hS];exact (Blk.new wr _ _).alloc _)
    have HIb:=Zh (show Blk wb (S+1) #[.int .i64 18,.int .i64 0,.int .i64 0] 78 by rw [hwb];exact Blk.new' _ _ (by simp [hS]))
    rw [←hwb,←hS]
    have hcl:0<m.cl.length:=by rw [HMm.out];decide
    have hcl2:(0:Int) < m.cl.length:=by omega
    have HMb:=Zh (HMr2.out.old hbb)
    obtain ⟨ca,hca,-,-,c2,-⟩:=HMb.out.cls hcl
    have hcf:(m.cl.getD 0 default).f=[⟨2,0⟩]:=by rw [HMm.out];rfl
    have hrf:=HMb.out.f 0 hcl
    rw [hcf] at c2 hrf
    obtain ⟨fa,hfa,f0,f1⟩:=Zaz hrf (i:=0) (by decide)
    rw [hfa] at c2
    obtain ⟨ta,hta,y0,y1⟩:=Zaz (Zar.old HRt.out hbb) (i:=0) (by decide)
    subst hta
    rw [Nat.zero_mul,ZnX] at c2 f0 f1 y0 y1
    have x0b:=(ZmV.of hbb) _ _ x0
    rw [hca] at x0b
    clear hca
    have HBb:=Zh hbb
    clear hwb hbb hS
    have i1:=HIb.out.cell 1 (v:=.int .i64 0) rfl
    have c2:wb.cell? ⟨ca.block,ca.off+2,none⟩=some (.slice (some fa) 1 (h.c 0).fc):=c2
    have f0:wb.cell? fa=some (.int .i64 2):=f0
    have f1:wb.cell? ⟨fa.block,fa.off+1,none⟩=some (.int .i64 0):=f1
    have y1:wb.cell? ⟨ta.block,ta.off+1,none⟩=some (.int .i64 0):=y1
    refine rO (Cs [(⟨w.heap.size,0,none⟩,.slice (some ca) m.cl.length h.cc),(⟨ca.block,ca.off+2,none⟩,.slice (some fa) 1 (h.c 0).fc),(fa,.int .i64 2),(⟨fa.block,fa.off+1,none⟩,.int .i64 0),(⟨ta.block,ta.off+1,none⟩,.int .i64 0),(⟨S+1,1,none⟩,.int .i64 0)]) (oL [0,1,2,3,4,5,6,7,8,9,10,11,12,13,14,115]) ⟨x0b,c2,f0,f1,y1,i1,trivial⟩ ?_
    (refine pO ?_)
    (refine pO ?_)
    (refine pO ?_)
    (refine pO ?_)
    refine pO (v:=.int .i64 0) ?_ (hy:=Or.inl ⟨rfl,fun w hSw=>by rfl⟩)
    repeat refine pO ?_
    refine oO fun Kv hK=>?_
    go_simp
    refine (ZnT 2 0 _).mono ?_
    rintro e wi ⟨rfl,hbi⟩
    have hkk:=ZmV.of (show Below wb.heap.size wb wi from (show Below wb.heap.size wb wb.drew by exact bE).trans hbi)
    refine hK _ _ ⟨⟨hkk _ _ x0b,hkk _ _ c2,hkk _ _ f0,hkk _ _ f1,hkk _ _ y1,hkk _ _ i1,trivial⟩,?_⟩
    have HSi:=Zh (HSb.out.old (show Below wb.heap.size wb wi from (show Below wb.heap.size wb wb.drew by exact bE).trans hbi))
    have HBi:=Zh (Zaf HBb.out (show Below wb.heap.size wb wi from (show Below wb.heap.size wb wb.drew by exact bE).trans hbi))
    clear hK Kv hbi hkk x0b c2 f0 f1 y0 y1 i1
    refine Zd5 ?_
    go_upto_region 12 with fail
    have hl2:(ZnN k).s.length=2:=by rcases h18 with rfl|rfl<;>rfl
    have hsr:=HSa.out.s.old HBi.out
    obtain ⟨la,hla,z0,z1⟩:=Zmn hsr (i:=0) (by omega)
    obtain ⟨la',hla',v0,v1⟩:=Zmn hsr (i:=1) (by omega)
    obtain rfl:la=la':=Option.some.inj (hla.symm.trans hla')
    subst hla
    rw [Nat.zero_mul,ZnX] at z0 z1
    have hfv:Zms ((ZnN k).s.getD 1 default) ((ZnN k).s.getD 0 default)=stV k:=by rcases h18 with rfl|rfl<;>rfl
    obtain ⟨⟨al,ah⟩,ha⟩:∃ a,a=(ZnN k).s.getD 0 default:=⟨_,rfl⟩
    obtain ⟨⟨bl,bh⟩,hb⟩:∃ a,a=(ZnN k).s.getD 1 default:=⟨_,rfl⟩
    rw [←ha] at z0 z1 hfv
    rw [←hb] at v0 v1 hfv
    dsimp only at z0 z1 v0 v1
    have s1:=HSi.out.cell 1 (v:=.slice (some la) 2 stc) rfl
    rw [Nat.one_mul] at v0 v1
    have v0:wi.cell? ⟨la.block,la.off+2,none⟩=some (.int .i64 bl):=v0
    have v1:wi.cell? ⟨la.block,la.off+2+1,none⟩=some (.int .i64 bh):=v1
    refine rO (Cs [(⟨S,1,none⟩,.slice (some la) 2 stc),(la,.int .i64 al),(⟨la.block,la.off+1,none⟩,.int .i64 ah),(⟨la.block,la.off+2,none⟩,.int .i64 bl),(⟨la.block,la.off+2+1,none⟩,.int .i64 bh)]) (oL [0,1,2,3,4,5,6,7,8,9,10,11,12,13,114,115]) ⟨s1,z0,z1,v0,v1,trivial⟩ ?_
    iterate 5 (refine pO ?_)
    refine pO (v:=.int .i64 1) ?_ (hy:=Or.inl ⟨rfl,fun w hSw=>by rfl⟩)
    refine pO (v:=.pointer (some (la.add 2))) ?_
    iterate 4 (refine pO ?_)
    refine pO (v:=.int .i64 0) ?_ (hy:=Or.inl ⟨rfl,fun w hSw=>by rfl⟩)
    repeat refine pO ?_
    refine oO fun Kv hK=>?_
    go_simp
    refine (Zmy ⟨bl,bh⟩ ⟨al,ah⟩ _).mono ?_
    rintro e wf ⟨rfl,hbf⟩
    rw [hfv]
    have hb2:Below wi.heap.size wi wf:=(show Below wi.heap.size wi wi.drew by exact bE).trans hbf
    have hkf:=ZmV.of hb2
    have HBf:=Zh (Zaf HBi.out hb2)
    have hc5:Cs [(⟨S,1,none⟩,.slice (some la) 2 stc),(la,.int .i64 al),(⟨la.block,la.off+1,none⟩,.int .i64 ah),(⟨la.block,la.off+2,none⟩,.int .i64 bl),(⟨la.block,la.off+2+1,none⟩,.int .i64 bh)] wf:=⟨hkf _ _ s1,hkf _ _ z0,hkf _ _ z1,hkf _ _ v0,hkf _ _ v1,trivial⟩
    refine hK _ _ ⟨hc5,?_⟩
    have HMf:=Zh (HMr.out.keepB HBf.out)
    clear hK Kv hkf hbf hb2
    have HC5:=Zh hc5
    have hsl:(stK k).length≤1000:=by rcases h18 with rfl|rfl<;>decide
    refine oO fun Kv hK=>?_
    refine Zn5 _ _ _ rfl (M:=M) (K:=stK k) (V:=stV) rfl HMf.out k rfl (stV k) rfl hsl (by omega) ?_
    intro wz hbz hgz
    have hkz:=ZnF HMf.out.map hgz
    have HKz:=Zh ((HKr.out.trans (ZmV.of HBf.out)).trans hkz)
    have HBz:=Zh (ZcV (HBr.out.trans (HBf.out.mono HBr.out.size)) hgz (fun j hj=>by cases hj;exact Nat.le_of_lt HMl.out))
    have hst:stK (k+1)=Znb k (stK k):=by rcases h18 with rfl|rfl<;>rfl
    have HZz:=Zh (show Zn4 wz M (stK (k+1)) stV by
     rw [hst]
     exact hbz.congr fun j _=>by
      by_cases e:j=k
      ·subst e;rw [if_pos rfl]
      ·rw [if_neg e])
    refine hK _ _ ⟨Cs.keeps hkz HC5.out,?_⟩
    clear hK Kv hkz hgz hbz
    refine Zd5 ?_
    go_wp2
    exact ⟨⟨k+1,hkl,rfl,HBz.out,HKz.out,HZz.out⟩,by simp [intOf];omega⟩
   ·have hop:∃ op,(ZnM.getD k default).op=op∧op≠18∧op≠20∧op≠23:=by
     have:k=0∨k=1∨k=3∨k=4:=by omega
     rcases this with rfl|rfl|rfl|rfl<;>exact ⟨_,rfl,by decide,by decide,by decide⟩
    obtain ⟨op,hop,n18,n20,n23⟩:=hop
    rw [hop] at o0
    clear hop
    have hst:stK (k+1)=stK k:=by
     have:k=0∨k=1∨k=3∨k=4:=by omega
     rcases this with rfl|rfl|rfl|rfl<;>rfl
    have HSt:=Zh hst
    clear hst
    go_wp2
    refine ⟨⟨k+1,hkl,rfl,Zaf HBr.out bE,HKr.out.trans (ZmV.of bE),?_⟩,by simp [intOf];omega⟩
    show Zn4 _ M (stK (k+1)) stV
    rw [HSt.out]
    exact HMr.out.keepB bE
  ·have hkl2:¬ (k:Int) < 6:=by omega
   obtain rfl:k=6:=by omega
   go_wp2
   go_ret
   exact ⟨M,rfl,HMr.out,Nat.le_of_lt HMl.out,HBr.out⟩
end
end Go.Proofs.YtcfjblcgceednaaGreat
