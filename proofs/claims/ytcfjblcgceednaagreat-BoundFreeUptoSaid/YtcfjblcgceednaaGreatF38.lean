/- Joined texts. The first: link.Reach of one method. -/
import Derived.Test.YtcfjblcgceednaaGreatF35
set_option linter.all false
set_option linter.unusedVariables false
set_option linter.unusedSimpArgs false
set_option maxRecDepth 100000
set_option maxHeartbeats 8000000
namespace Go.Proofs.YtcfjblcgceednaaGreat
section
open Go.RowKit
attribute [local go_sem] World.cell?_alloc_some
theorem Zq6 {m:Md}{k:Nat}{L:List Nat} (hk:k∈L) (h:∀ j∈L,j∈([]:List Nat)∨(Rch m k j∧∀ t:Nat,(t:Int)∈ZpQ m j→t∈L)) (j:Nat):j∈L↔Rch m k j:=by
 constructor
 ·intro hj
  rcases h j hj with e|e
  ·simp at e
  ·exact e.1
 ·intro hr
  induction hr with
  | refl=>exact hk
  |step i j _ h2 ih=>
   rcases h i ih with e|e
   ·simp at e
   ·exact e.2 j h2
def Zq7 (w:World) (m:Md) (k:Nat):Ending→World→Prop:=fun e w'=>(∃ (L L2 L3:List Nat) (o1 o2 o3:Option Addr) (c1 c2 c3:Nat),e=.returned (.tuple #[.slice o1 (Zqz L).length c1,.slice o2 (Zqz L2).length c2,.slice o3 (Zqz L3).length c3,.int .i64 0])∧L.Nodup∧(∀ j,j∈L↔Rch m k j)∧Zar w' o1 c1 (Zqz L))∧Below w.heap.size w w'
theorem Zq8 (m:Md) (h:Hd) (k:Nat) (w:World) (A:Nat) (cap:Nat) (H:Zay w h m) (hv:Za1 m=true) (hk:k<m.me.length) (hr:Zar w (some ⟨A,0,none⟩) cap [(k:Int)]):Calls Tryz.prog 159 #[.agg #[.slice h.co m.cl.length h.cc,.slice h.so m.st.length h.sc,.slice h.eo m.me.length h.ec,.int .i64 m.sel],.slice (some ⟨A,0,none⟩) 1 cap] w (Zq7 w m k):=by
 obtain ⟨w0,hw0⟩:∃ w0,w0=w.alloc (.cells #[.slice h.co m.cl.length h.cc,.slice h.so m.st.length h.sc,.slice h.eo m.me.length h.ec,.int .i64 m.sel] 26):=⟨_,rfl⟩
 have hb:=(show Below w.heap.size w w0 by rw [hw0];exact bE)
 have HB:=Zh hb
 have HX:=Zh (show Blk w0 w.heap.size #[.slice h.co m.cl.length h.cc,.slice h.so m.st.length h.sc,.slice h.eo m.me.length h.ec,.int .i64 m.sel] 26 by rw [hw0];exact Blk.new _ _ _)
 have HM:=Zh (H.old HB.out)
 have HR:=Zh (show Zar w0 (some ⟨A,0,none⟩) cap [(k:Int)] from ZnG hr (ZnF.of hb))
 have HA:=Zh (Zhj m h m.me.length [(k:Int)] (some ⟨A,0,none⟩) cap w0 HM.out HR.out (by simp))
 have he:Zhh (Za1 m&&[(k:Int)].all (inV m.me.length))=0:=by
  have:inV m.me.length k=true:=by unfold inV;simp;omega
  rw [hv];simp [this,Zhh]
 rw [he] at HA
 have hmm:=@run_makeMap Tryz.prog
 have HW:=Zh hw0
 have hk2:(k:Int) < m.me.length:=by omega
 have HMt:=Zh (fun B M1 M2 M3=>ZqT (B:=B) (M1:=M1) (M2:=M2) (M3:=M3) (h:=h) hv k hk)
 clear hw0 H hr hb he
 go_enter Tryz.func159,Tryz.ntmps159
 go_upto_region 1 with fail
 rw [←HW.out]
 have x0:=HX.out.cell 0 (v:=.slice h.co m.cl.length h.cc) rfl
 have x1:=HX.out.cell 1 (v:=.slice h.so m.st.length h.sc) rfl
 have x2:=HX.out.cell 2 (v:=.slice h.eo m.me.length h.ec) rfl
 have x3:=HX.out.cell 3 (v:=.int .i64 m.sel) rfl
 go_upto_region 5 with (go_at_call 176;refine HA.out.mono ?_;rintro e w1 ⟨rfl,hb1⟩;have HX1:=Zh (HX.out.old hb1);have HM1:=Zh (HM.out.old hb1);have HR1:=Zh (ZnG HR.out (ZnF.of hb1));have HB1:=Zh (Zaf HB.out hb1);have hs1:=hb1.size;have x0:=ZnF.of hb1 _ _ x0;have x1:=ZnF.of hb1 _ _ x1;have x2:=ZnF.of hb1 _ _ x2;have x3:=ZnF.of hb1 _ _ x3;clear hb1)
 obtain ⟨M,hM⟩:∃ M,M=w1.heap.size:=⟨_,rfl⟩
 obtain ⟨w5,hw5⟩:∃ w5,w5=(((w1.alloc (.map #[] 0)).alloc (.map #[] 0)).alloc (.map #[] 0)).alloc (.cells #[.slice h.co m.cl.length h.cc,.slice h.so m.st.length h.sc,.slice h.eo m.me.length h.ec,.int .i64 m.sel,.map (some M),.map (some (M+1)),.map (some (M+1+1))] 241):=⟨_,rfl⟩
 have hb5:Below w1.heap.size w1 w5:=by rw [hw5];exact bE
 have hrc:Zqc w5 (M+1+1+1) M (M+1) (M+1+1) h m [] [] []:=by
  refine ⟨?_,HM1.out.old hb5,?_,?_,?_,by omega,by omega,by omega⟩
  ·rw [hw5];exact Blk.new' _ _ (by simp [hM])
  ·rw [hw5,hM];exact (Zp4.made w1).old bE
  ·rw [hw5,hM]
   have:=Zp4.made (w1.alloc (.map #[] 0))
   rw [show (w1.alloc (.map #[] 0)).heap.size=w1.heap.size+1 by simp] at this
   exact this.old bE
  ·rw [hw5,hM]
   have:=Zp4.made ((w1.alloc (.map #[] 0)).alloc (.map #[] 0))
   rw [show ((w1.alloc (.map #[] 0)).alloc (.map #[] 0)).heap.size=w1.heap.size+1+1 by simp] at this
   exact this.old bE
 have HRc:=Zh hrc
 have HK5:=Zh (ZnF.of hb5)
 have HB5:=Zh (show Below w.heap.size w w5 from Zaf HB1.out hb5)
 have hs5:w5.heap.size=M+1+1+1+1:=by rw [hw5];simp [hM]
 have hMw:w.heap.size≤M:=by have:=HB1.out.size;omega
 rw [←hM]
 rw [←hw5]
 clear hrc hb5 hw5 hM x0 x1 x2 x3 hmm HA
 go_upto_region 6 with fail
 go_loopw [29] (fun i wr=>∃ (q:Nat) (L1 L2 L3:List Nat),q≤1∧i=.int .i64 q∧Hid (Zqc wr (M+1+1+1) M (M+1) (M+1+1) h m L1 L2 L3)∧Hid (∀ k∈L2,k<m.cl.length)∧Hid (Below w.heap.size w wr)∧Hid (ZnF w1 wr)∧Hid (q=0→L1=[])∧Hid (q=1→k∈L1∧∀ j∈L1,j∈([]:List Nat)∨(Rch m k j∧∀ t:Nat,(t:Int)∈ZpQ m j→t∈L1))) (fun i _=>1-(intOf i).toNat)
 case atStart=>exact ⟨0,[],[],[],by omega,rfl,HRc.out,fun k hk=>by simp at hk,HB5.out,HK5.out,fun _=>rfl,fun h=>by omega⟩
 case round=>
  obtain ⟨q,L1,L2,L3,hq,rfl,HH,HL,HBq,HKq,H0,H1⟩:=hrel
  have hq2:q=0∨q=1:=by omega
  rcases hq2 with rfl|rfl
  ·obtain rfl:=H0.out rfl
   obtain ⟨td,htd,t0⟩:=ZaB (ZnG HR1.out HKq.out) (i:=0) (by simp)
   obtain rfl:=Option.some.inj htd
   clear htd
   rename World=>wq
   have t0:wq.cell? ⟨A,0,none⟩=some (Value.int .i64 (k:Int)):=t0
   have hl0:=Zac t0
   go_wp2_with (go_at_call 221;refine (HMt.out _ _ _ _ _ [] L2 L3 HH.out HL.out).mono ?_;rintro e w7 ⟨rfl,P1,P2,P3,hh7,hall7,hu7,hk7,hs7,hn7,hj7⟩;have HE:=Zh (And.intro hh7 (And.intro hall7 (And.intro hu7 hk7)));have HR7:=Zh (And.intro hn7 hj7);clear hh7 hall7 hu7 hk7 hs7 hn7 hj7)
   exact ⟨⟨1,P1,P2,P3,Nat.le_refl _,rfl,HE.out.1,HE.out.2.1,HE.out.2.2.1.below HBq.out (Nat.le_refl _) (fun x hx=>by simp at hx;omega),HKq.out.trans HE.out.2.2.2,fun h=>by omega,fun _=>HR7.out⟩,by simp [intOf]⟩
  ·rename World=>wq
   have HF:=Zh (Zq6 (H1.out rfl).1 (H1.out rfl).2)
   clear H0 H1
   go_upto_region 10 with fail
   have x4:=HH.out.bk.cell 4 (v:=.map (some M)) rfl
   have x5:=HH.out.bk.cell 5 (v:=.map (some (M+1))) rfl
   have x6:=HH.out.bk.cell 6 (v:=.map (some (M+1+1))) rfl
   have HC:=Zh (show Cs [(⟨M+1+1+1,4,none⟩,.map (some M)),(⟨M+1+1+1,5,none⟩,.map (some (M+1))),(⟨M+1+1+1,6,none⟩,.map (some (M+1+1)))] wq.drew from ⟨x4,x5,x6,trivial⟩)
   refine rO (Cs [(⟨M+1+1+1,4,none⟩,.map (some M)),(⟨M+1+1+1,5,none⟩,.map (some (M+1))),(⟨M+1+1+1,6,none⟩,.map (some (M+1+1)))]) (oL [0,1,2,3,5,6,7,8,10,11,12,13,104,109,114,15,16,17,18]) ⟨x4,x5,x6,trivial⟩ ?_
   clear x4 x5 x6
   repeat refine pO ?_
   refine oO fun Kv hK=>?_
   go_simp
   refine (ZqC wq.drew M L1 HH.out.drew.s1).mono ?_
   rintro e1 v1 ⟨⟨o1,c1,rfl,hr1,-⟩,hb1⟩
   have HO1:=Zh hr1
   have HD1:=Zh (HH.out.drew.old hb1)
   have HC1:=Zh (Cs.keeps (ZnF.of hb1) HC.out)
   have HB1':=Zh (Zaf HBq.out.drew hb1)
   refine hK _ _ ⟨HC1.out,?_⟩
   clear hK Kv hr1 hb1
   repeat refine pO ?_
   refine oO fun Kv hK=>?_
   go_simp
   refine (ZqC v1 (M+1) L2 HD1.out.s2).mono ?_
   rintro e2 v2 ⟨⟨o2,c2,rfl,-,-⟩,hb2⟩
   have HO2:=Zh (ZnG HO1.out (ZnF.of hb2))
   have HD2:=Zh (HD1.out.old hb2)
   have HC2:=Zh (Cs.keeps (ZnF.of hb2) HC1.out)
   have HB2':=Zh (Zaf HB1'.out hb2)
   refine hK _ _ ⟨HC2.out,?_⟩
   clear hK Kv hb2
   repeat refine pO ?_
   refine oO fun Kv hK=>?_
   go_simp
   refine (ZqC v2 (M+1+1) L3 HD2.out.s3).mono ?_
   rintro e3 v3 ⟨⟨o3,c3,rfl,-,-⟩,hb3⟩
   have HO3:=Zh (ZnG HO2.out (ZnF.of hb3))
   have HB3':=Zh (Zaf HB2'.out hb3)
   refine hK _ _ ⟨Cs.keeps (ZnF.of hb3) HC2.out,?_⟩
   clear hK Kv hb3
   repeat refine pO ?_
   refine Zd5 ?_
   go_wp2
   exact bodyPost_ret (v:=.tuple #[.slice o1 (Zqz L1).length c1,.slice o2 (Zqz L2).length c2,.slice o3 (Zqz L3).length c3,.int .i64 0]) (by simp [results,Tryz.results159,go_sem]) rfl ⟨⟨L1,L2,L3,o1,o2,o3,c1,c2,c3,rfl,HH.out.s1.1,HF.out,HO3.out⟩,HB3'.out⟩
end
section
open Go.RowKit
attribute [local go_sem] World.cell?_alloc_some
def Zq9 (w:World) (m:Md) (k:Nat):Ending→World→Prop:=fun e w'=>(∃ (L:List Nat) (o1:Option Addr) (c1:Nat),e=.returned (.slice o1 (Zqz L).length c1)∧L.Nodup∧(∀ j,j∈L↔Rch m k j)∧Zar w' o1 c1 (Zqz L))∧Below w.heap.size w w'
theorem Zra (m:Md) (h:Hd) (k:Nat) (w:World) (H:Zay w h m) (hv:Za1 m=true) (hk:k<m.me.length):Calls Tryz.prog 102 #[.agg #[.slice h.co m.cl.length h.cc,.slice h.so m.st.length h.sc,.slice h.eo m.me.length h.ec,.int .i64 m.sel],.int .i64 k] w (Zq9 w m k):=by
 obtain ⟨w0,hw0⟩:∃ w0,w0=w.alloc (.cells #[.slice h.co m.cl.length h.cc,.slice h.so m.st.length h.sc,.slice h.eo m.me.length h.ec,.int .i64 m.sel] 26):=⟨_,rfl⟩
 have hb:=(show Below w.heap.size w w0 by rw [hw0];exact bE)
 have HB:=Zh hb
 have HX:=Zh (show Blk w0 w.heap.size #[.slice h.co m.cl.length h.cc,.slice h.so m.st.length h.sc,.slice h.eo m.me.length h.ec,.int .i64 m.sel] 26 by rw [hw0];exact Blk.new _ _ _)
 have HM:=Zh (H.old HB.out)
 have HW:=Zh hw0
 have hb1:Below w0.heap.size w0 (w0.alloc (.cells #[.int .i64 k] 3)):=by exact bE
 have HR:=Zh (Zq8 m h k (w0.alloc (.cells #[.int .i64 k] 3)) w0.heap.size 1 (HM.out.old hb1) hv hk (show Zar _ _ 1 [(k:Int)] from ZdL (Blk.new w0 #[.int .i64 k] 3) (n:=1) (size:=1) rfl))
 have HB1:=Zh (Zaf hb hb1)
 clear hw0 H hb hb1
 go_enter Tryz.func102,Tryz.ntmps102
 go_upto_region 1 with fail
 rw [←HW.out]
 have x0:=HX.out.cell 0 (v:=.slice h.co m.cl.length h.cc) rfl
 have x1:=HX.out.cell 1 (v:=.slice h.so m.st.length h.sc) rfl
 have x2:=HX.out.cell 2 (v:=.slice h.eo m.me.length h.ec) rfl
 have x3:=HX.out.cell 3 (v:=.int .i64 m.sel) rfl
 go_upto_region 2 with (go_at_call 159;refine HR.out.mono ?_;rintro e w2 ⟨⟨L,L2,L3,o1,o2,o3,c1,c2,c3,rfl,hnd,hif,hrow⟩,hb2⟩;have HE:=Zh (And.intro hnd (And.intro hif hrow));have HB2:=Zh (Zaf HB1.out hb2);clear hnd hif hrow hb2)
 go_wp2
 go_ret
 exact ⟨⟨L,o1,c1,rfl,HE.out.1,HE.out.2.1,HE.out.2.2⟩,HB2.out⟩
end
section
open Go.RowKit
attribute [local go_sem] World.cell?_alloc_some
theorem Zrb {L:List Nat}{x:Int} (h:x∈Zqz L):∃ j∈L,x=(j:Int):=by
 unfold Zqz at h
 rw [List.mem_mergeSort] at h
 obtain ⟨j,hj,rfl⟩:=List.mem_map.1 h
 exact ⟨j,hj,rfl⟩
theorem Zrc (m:Md) (h:Hd) (k:Nat) (w:World) (H:Zay w h m) (hr:ZoY m k=true) (hv:Za1 m=true) (hk:k<m.me.length) (hn:∀ j,Rch m k j→∀ i∈cdM m j,i.op≠31):Calls Tryz.prog 48 #[.agg #[.slice h.co m.cl.length h.cc,.slice h.so m.st.length h.sc,.slice h.eo m.me.length h.ec,.int .i64 m.sel],.int .i64 k] w (fun e w'=>(∃ c,e=.returned (.tuple #[.slice none 0 c,.int .i64 0]))∧Below w.heap.size w w'):=by
 obtain ⟨w0,hw0⟩:∃ w0,w0=w.alloc (.cells #[.slice h.co m.cl.length h.cc,.slice h.so m.st.length h.sc,.slice h.eo m.me.length h.ec,.int .i64 m.sel] 26):=⟨_,rfl⟩
 have HB:=Zh (show Below w.heap.size w w0 by rw [hw0];exact bE)
 have HX:=Zh (show Blk w0 w.heap.size #[.slice h.co m.cl.length h.cc,.slice h.so m.st.length h.sc,.slice h.eo m.me.length h.ec,.int .i64 m.sel] 26 by rw [hw0];exact Blk.new _ _ _)
 have HM:=Zh (H.old HB.out)
 have HW:=Zh hw0
 have HA:=Zh (Zo0 m h k w0 HM.out)
 rw [if_pos hr] at HA
 have HRe:=Zh (fun w' (hb:Below w0.heap.size w0 w')=>Zra m h k w' (HM.out.old hb) hv hk)
 have HN:=Zh hn
 have HV:=Zh hv
 have hsz:=Zin hv
 clear hw0 H hr hn hv
 go_enter Tryz.func48,Tryz.ntmps48
 go_upto_region 1 with fail
 rw [←HW.out]
 have x0:=HX.out.cell 0 (v:=.slice h.co m.cl.length h.cc) rfl;have x1:=HX.out.cell 1 (v:=.slice h.so m.st.length h.sc) rfl;have x2:=HX.out.cell 2 (v:=.slice h.eo m.me.length h.ec) rfl;have x3:=HX.out.cell 3 (v:=.int .i64 m.sel) rfl
 go_upto_region 6 with (first
  | (go_at_call 100;refine HA.out.mono ?_;rintro e w1 ⟨rfl,hb1⟩;have HB1:=Zh hb1;have x0:=(hb1.cell (Zac x0)).trans x0;have x1:=(hb1.cell (Zac x1)).trans x1;have x2:=(hb1.cell (Zac x2)).trans x2;have x3:=(hb1.cell (Zac x3)).trans x3;clear hb1)
  | (go_at_call 102;refine (HRe.out _ HB1.out).mono ?_;rintro e w2 ⟨⟨L,o1,c1,rfl,hnd,hif,hrow⟩,hb2⟩;have HB2:=Zh (Zaf HB1.out hb2);have HRow:=Zh hrow;have HIf:=Zh (show ∀ j∈L,Rch m k j from fun j hj=>(hif j).1 hj);have hll:L.length≤16:=Nat.le_trans (ZnH m.me.length L hnd fun j hj=>by have:=((hif j).1 hj).le HV.out hk;omega) hsz.2.1;clear hb2 hrow hif hnd x0 x1 x2 x3))
 have hsl:(Zqz L).length=L.length:=by unfold Zqz;rw [List.length_mergeSort,List.length_map]
 go_loopw [7,22] (fun o i wr=>∃ q:Nat,q≤(Zqz L).length∧i=.int .i64 q∧o=.slice none 0 0∧Hid (Below w0.heap.size w0 wr)∧Hid (Below w2.heap.size w2 wr)) (fun _ i _=>(Zqz L).length-(intOf i).toNat)
 case atStart=>exact ⟨0,Nat.zero_le _,rfl,rfl,HB2.out,Below.refl _ _⟩
 case round=>
  obtain ⟨q,hq,rfl,rfl,HBq,HBs⟩:=hrel
  rename World=>wq
  by_cases hql:q<(Zqz L).length
  ·have hql2:(q:Int) < (Zqz L).length:=by omega
   have hwq:IntKind.i64.wrap ((q:Int)+1)=((q+1:Nat):Int):=IntWalk.i64_in _ (by omega)
   obtain ⟨td,rfl,t0⟩:=ZaB (ZnG HRow.out (ZnF.of HBs.out)) hql
   obtain ⟨j,hj,hjx⟩:=Zrb (ZfU (0:Int) hql)
   rw [hjx] at t0
   have hrj:=HIf.out j hj
   have hjm:j<m.me.length:=by have:=hrj.le HV.out hk;omega
   have hjm2:(j:Int) < m.me.length:=by omega
   have HNo:=Zh (HN.out j hrj)
   have hkl:(cdM m j).length≤120:=(ZfN HV.out hjm).z.2.2
   obtain ⟨ad,heo,-,-,-,-,-,-,e6⟩:=(HM.out.old HBq.out).mth hjm
   rw [show (m.me.getD j default).k.length=(cdM m j).length from rfl] at e6
   have x2:=(HX.out.old HBq.out).cell 2 (v:=.slice h.eo m.me.length h.ec) rfl
   rw [heo] at x2
   have HKo:=Zh (show Zar wq (h.e j).ko (h.e j).kc (cdM m j) from (HM.out.old HBq.out).k j hjm)
   generalize (h.e j).ko=ko at e6 HKo
   generalize (h.e j).kc=kc at e6 HKo
   generalize cdM m j=cd at e6 HKo HNo hkl
   clear hjx hrj
   go_upto_region 9 with fail
   clear t0 x2 e6
   go_loopw [7,33] (fun o i wr=>∃ p:Nat,p≤cd.length∧i=.int .i64 p∧o=.slice none 0 0∧Hid (Below wq.heap.size wq wr)) (fun _ i _=>cd.length-(intOf i).toNat)
   case atStart=>exact ⟨0,Nat.zero_le _,rfl,rfl,Below.refl _ _⟩
   case round=>
    obtain ⟨p,hp,rfl,rfl,HBp⟩:=hrel
    rename World=>wp
    by_cases hpl:p<cd.length
    ·have hpl2:(p:Int) < cd.length:=by omega
     have hwp:IntKind.i64.wrap ((p:Int)+1)=((p+1:Nat):Int):=IntWalk.i64_in _ (by omega)
     obtain ⟨kd,rfl,o0,o1',o2⟩:=ZaA (ZnG HKo.out (ZnF.of HBp.out)) hpl
     have hop:=HNo.out (cd.getD p default) (ZfU _ hpl)
     obtain ⟨i,hi⟩:∃ i,i=cd.getD p default:=⟨_,rfl⟩
     rw [←hi] at o0 o1' o2 hop
     obtain ⟨op,ia,ib⟩:=i
     dsimp only at o0 o1' o2 hop
     have hop2:(op == 31)=false:=by simpa using hop
     have hl0:=Zac o0
     clear hi
     go_wp2_with fail
     all_goals exact ⟨⟨p+1,hpl,rfl,rfl,bal HBp.out _⟩,by simp [intOf];omega⟩
    ·have hpl2:¬ (p:Int) < cd.length:=by omega
     go_wp2_with fail
     all_goals exact ⟨⟨q+1,hql,rfl,rfl,Zaf HBq.out HBp.out,Zaf HBs.out HBp.out⟩,by simp [intOf];omega⟩
  ·have hql2:¬ (q:Int) < (Zqz L).length:=by omega
   go_wp2_with fail
   refine (ZdJ (base:=wq.heap.size) (e:=3) none 0 0 [] wq (World.ownsRow_nil _ _ _ _) (by omega) (Nat.le_refl _)).mono ?_
   rintro e1 w3 ⟨rfl,-,hb3⟩
   have HB3:=Zh (Zaf HBq.out hb3)
   clear hb3
   go_wp2_with fail
   refine (ZdK (base:=w3.heap.size) (e:=3) none 0 0 [] w3 (World.ownsRow_nil _ _ _ _) (by omega) (Nat.le_refl _) (by decide)).mono ?_
   rintro e2 w4 ⟨rfl,-,hb4⟩
   have HB4:=Zh (Zaf HB3.out hb4)
   clear hb4
   go_wp2
   exact bodyPost_ret (v:=.tuple #[.slice none 0 0,.int .i64 0]) (by simp [results,Tryz.results48,go_sem,show Lib.compact ([]:List Int)=[] from rfl]) rfl ⟨⟨0,rfl⟩,Zaf HB.out HB4.out⟩
end
end Go.Proofs.YtcfjblcgceednaaGreat
