/- Joined texts. The first: link.reached: classes and types. -/
import Derived.Test.YtcfjblcgceednaaGreatE31
set_option linter.all false
set_option linter.unusedVariables false
set_option linter.unusedSimpArgs false
set_option maxRecDepth 100000
set_option maxHeartbeats 16000000
namespace Go.Proofs.YtcfjblcgceednaaGreat
section
open Go.RowKit
structure Ups (S:List Nat) (a b:World):Prop where
 os:b.os=a.os
 tape:b.tape=a.tape
 output:b.output=a.output
 size:a.heap.size≤b.heap.size
 block:∀ k,k<a.heap.size→k ∉ S→b.heap[k]?=a.heap[k]?
theorem Ups.refl (S:List Nat) (w:World):Ups S w w:=⟨rfl,rfl,rfl,Nat.le_refl _,fun _ _ _=>rfl⟩
theorem Ups.trans {S:List Nat}{a b c:World} (h:Ups S a b) (k:Ups S b c):Ups S a c:=
 ⟨k.os.trans h.os,k.tape.trans h.tape,k.output.trans h.output,Nat.le_trans h.size k.size,fun i hi h1=>(k.block i (Nat.lt_of_lt_of_le hi h.size) h1).trans (h.block i hi h1)⟩
theorem Ups.of {S:List Nat}{a b:World} (h:Below a.heap.size a b):Ups S a b:=⟨h.os,h.tape,h.output,h.size,fun k hk _=>h.block k hk⟩
theorem Ups.grown {S:List Nat}{a b:World}{M:Nat} (hg:a.grownBy b (some M)) (hM:M∈S):Ups S a b:=
 ⟨hg.os,hg.tape,hg.output,hg.size,fun q hq h1=>hg.block q hq fun e=>h1 (by cases e;exact hM)⟩
theorem Ups.below {S:List Nat}{N:Nat}{w0 a b:World} (h:Ups S a b) (hb:Below N w0 a) (hN:N≤w0.heap.size) (hS:∀ k∈S,N≤k):Below N w0 b:=
 ⟨h.os.trans hb.os,h.tape.trans hb.tape,h.output.trans hb.output,Nat.le_trans hb.size h.size,fun k hk=>(h.block k (by have:=hb.size;omega) (fun q=>by have:=hS k q;omega)).trans (hb.block k hk)⟩
theorem Zqk {w w':World}{M:Nat} (hm:IsMap w M) (hg:w.grownBy w' (some M)):ZnF w w':=fun p v hc=>by
 obtain ⟨es,c,hm⟩:=hm
 have hne:p.block≠M:=fun e=>by unfold World.cell? at hc;rw [e,hm] at hc;simp at hc
 exact (World.cell?_of_block (w:=w) (hg.block _ (Zac hc) fun e=>hne (Option.some.inj e))).trans hc
end
section
open Go.RowKit
attribute [local go_sem] World.cell?_alloc_some
theorem Rch.head {m:Md}{n c j:Nat} (h:Rch m c j) (hc:(c:Int)∈ZpS m n):Rch m n j:=by
 induction h with
 | refl=>exact .step n c .refl hc
 | step i j _ h2 ih=>exact .step i j ih h2
def RmL (m:Md) (K1:List Nat) (n q:Nat) (L:List Nat):Prop:=(∀ k∈K1,k∈L)∧n∈L∧(∀ p,p<q→∀ t:Nat,(t:Int)=(ZpS m n).getD p 0→t∈L)∧∀ j∈L,j=n∨j∈K1∨(Rch m n j∧∀ t:Nat,(t:Int)∈ZpS m j→t∈L)
theorem RmL.start (m:Md) (K1:List Nat) (n:Nat):RmL m K1 n 0 (n :: K1):=
 ⟨fun k hk=>by simp [hk],by simp,fun p hp=>by omega,fun j hj=>by rcases List.mem_cons.1 hj with e|e<;>simp [e]⟩
theorem RmL.next {m:Md}{K1:List Nat}{n q c:Nat}{L L':List Nat} (H:RmL m K1 n q L) (hq:q<(ZpS m n).length) (hc:(c:Int)=(ZpS m n).getD q 0) (hs:∀ k∈L,k∈L') (hcm:c∈L') (hj:∀ j∈L',j∈L∨(Rch m c j∧∀ t:Nat,(t:Int)∈ZpS m j→t∈L')):RmL m K1 n (q+1) L':=by
 obtain ⟨h1,h2,h3,h4⟩:=H
 have hcc:(c:Int)∈ZpS m n:=by rw [hc];exact ZfU _ hq
 refine ⟨fun k hk=>hs k (h1 k hk),hs n h2,fun p hp t ht=>?_,fun j hj'=>?_⟩
 ·by_cases e:p=q
  ·subst e
   have:t=c:=by omega
   rw [this];exact hcm
  ·exact hs t (h3 p (by omega) t ht)
 ·rcases hj j hj' with e|⟨e1,e2⟩
  ·rcases h4 j e with e|e|⟨e1,e2⟩
   ·exact .inl e
   ·exact .inr (.inl e)
   ·exact .inr (.inr ⟨e1,fun t ht=>hs t (e2 t ht)⟩)
  ·exact .inr (.inr ⟨e1.head hcc,e2⟩)
theorem RmL.fin {m:Md}{K1:List Nat}{n:Nat}{L:List Nat} (H:RmL m K1 n (ZpS m n).length L):(∀ k∈K1,k∈L)∧n∈L∧∀ j∈L,j∈K1∨(Rch m n j∧∀ t:Nat,(t:Int)∈ZpS m j→t∈L):=by
 obtain ⟨h1,h2,h3,h4⟩:=H
 refine ⟨h1,h2,fun j hj=>?_⟩
 rcases h4 j hj with rfl|e|e
 ·refine .inr ⟨.refl,fun t ht=>?_⟩
  obtain ⟨p,hp,e⟩:=List.getElem_of_mem ht
  exact h3 p hp t (by simp [hp,e])
 ·exact .inl e
 ·exact .inr e
theorem Ups.drew {S:List Nat}{a b:World} (h:Ups S a b):Ups S a b.drew:=⟨h.os,h.tape,h.output,h.size,h.block⟩
end
section
open Go.RowKit
attribute [local go_sem] World.cell?_alloc_some
theorem Zql (m:Md) (h:Hd) (k:Nat) (w:World) (H:Zay w h m) (hv:Za1 m=true) (hk:k<m.me.length):Calls Tryz.prog 116 #[.agg #[.slice h.co m.cl.length h.cc,.slice h.so m.st.length h.sc,.slice h.eo m.me.length h.ec,.int .i64 m.sel],.int .i64 k] w (Zik w (ZpS m k) 0):=by
 have hX:Blk (w.alloc (.cells #[.slice h.co m.cl.length h.cc,.slice h.so m.st.length h.sc,.slice h.eo m.me.length h.ec,.int .i64 m.sel] 26)) w.heap.size #[.slice h.co m.cl.length h.cc,.slice h.so m.st.length h.sc,.slice h.eo m.me.length h.ec,.int .i64 m.sel] 26:=Blk.new w _ _
 have hR:Blk ((w.alloc (.cells #[.slice h.co m.cl.length h.cc,.slice h.so m.st.length h.sc,.slice h.eo m.me.length h.ec,.int .i64 m.sel] 26)).alloc (.cells #[.int .i64 k] 3)) (w.heap.size+1) #[.int .i64 k] 3:=Blk.new' (w:=w.alloc (.cells #[.slice h.co m.cl.length h.cc,.slice h.so m.st.length h.sc,.slice h.eo m.me.length h.ec,.int .i64 m.sel] 26)) #[.int .i64 k] 3 (by simp)
 have hb0:Below w.heap.size w ((w.alloc (.cells #[.slice h.co m.cl.length h.cc,.slice h.so m.st.length h.sc,.slice h.eo m.me.length h.ec,.int .i64 m.sel] 26)).alloc (.cells #[.int .i64 k] 3)):=by exact bE
 have hrow:Zar ((w.alloc (.cells #[.slice h.co m.cl.length h.cc,.slice h.so m.st.length h.sc,.slice h.eo m.me.length h.ec,.int .i64 m.sel] 26)).alloc (.cells #[.int .i64 k] 3)) (some ⟨w.heap.size+1,0,none⟩) 1 [(k:Int)]:=by
  unfold Zar
  rw [Zat]
  exact ZdL hR rfl
 have hask:=Zhj m h m.me.length [(k:Int)] _ 1 _ (H.old hb0) hrow (by simp)
 have e:(Za1 m&&[(k:Int)].all (inV m.me.length))=true:=by rw [hv];simp [inV];omega
 rw [e] at hask
 have HC:=Zh (fun w' (hb:Below w.heap.size w w')=>ZpW m h k w' (H.old hb) hv hk)
 generalize ZpS m k=q at HC ⊢
 have HA:=Zh hask
 have HX:=Zh (hX.alloc (.cells #[.int .i64 k] 3))
 have HB0:=Zh hb0
 clear hask hX hR hb0 hrow e H hv
 go_enter Tryz.func116,Tryz.ntmps116
 go_wp2_with fail
 refine HA.out.mono ?_
 rintro e1 w1 ⟨rfl,hb1⟩
 have HB1:=Zh (Zaf HB0.out hb1)
 have hX1:=HX.out.old hb1
 have r0:w1.cell? ⟨w.heap.size,0,none⟩=some (.slice h.co m.cl.length h.cc):=hX1.cell 0 rfl
 have r1:w1.cell? ⟨w.heap.size,1,none⟩=some (.slice h.so m.st.length h.sc):=hX1.cell 1 rfl
 have r2:w1.cell? ⟨w.heap.size,2,none⟩=some (.slice h.eo m.me.length h.ec):=hX1.cell 2 rfl
 have r3:w1.cell? ⟨w.heap.size,3,none⟩=some (.int .i64 m.sel):=hX1.cell 3 rfl
 have rl:=hX1.lt
 have HTg:=Zh (HC.out _ HB1.out)
 have he0:¬ Zhh true=1:=by decide
 have he1:Zhh true=0:=rfl
 clear hX1 hb1
 go_wp2_with fail
 refine HTg.out.mono ?_
 rintro e2 w2 ⟨⟨ao,cap,rfl,hr,hn⟩,hb2⟩
 have HO:=Zh hr
 have HN:=Zh hn
 clear hr hn
 go_wp2
 go_ret2
 exact ⟨⟨ao,cap,rfl,HO.out,fun a ha=>Nat.le_trans HB1.out.size (HN.out a ha)⟩,Zaf HB1.out hb2⟩
def Zqm (Bs Bm Bc Bv:Nat):Value:=.func (Fn.func 115) #[] #[.pointer (some ⟨Bs,0,none⟩),.pointer (some ⟨Bm,0,none⟩),.pointer (some ⟨Bc,0,none⟩),.pointer (some ⟨Bv,0,none⟩)]
structure Zqn (w:World) (Bs Bm Bc Bv M1 M2:Nat) (h:Hd) (m:Md) (K:List Nat) (C:Nat→Nat):Prop where
 cs:Cs [(⟨Bs,0,none⟩,.map (some M1)),(⟨Bc,0,none⟩,.map (some M2)),(⟨Bv,0,none⟩,Zqm Bs Bm Bc Bv),(⟨Bm,0,none⟩,.slice h.co m.cl.length h.cc),(⟨Bm,1,none⟩,.slice h.so m.st.length h.sc),(⟨Bm,2,none⟩,.slice h.eo m.me.length h.ec),(⟨Bm,3,none⟩,.int .i64 m.sel)] w
 md:Zay w h m
 s1:Zp9 w M1 K
 c2:Zqh w M2 C
 ne:M1≠M2
section
variable {w w':World}{Bs Bm Bc Bv M1 M2:Nat}{h:Hd}{m:Md}{K:List Nat}{C:Nat→Nat}
theorem Zqn.old (H:Zqn w Bs Bm Bc Bv M1 M2 h m K C) (hb:Below w.heap.size w w'):Zqn w' Bs Bm Bc Bv M1 M2 h m K C:=
 ⟨Cs.keeps (ZnF.of hb) H.cs,H.md.old hb,H.s1.old hb,H.c2.old hb,H.ne⟩
theorem Zqn.put1 (H:Zqn w Bs Bm Bc Bv M1 M2 h m K C) (hg:w.grownBy w' (some M1)) {L:List Nat} (hs:Zp9 w' M1 L):Zqn w' Bs Bm Bc Bv M1 M2 h m L C:=
 ⟨Cs.keeps (Zqk H.s1.map hg) H.cs,H.md.keeps (Zqk H.s1.map hg),hs,H.c2.eq (hg.block _ H.c2.map.lt fun e=>H.ne (Option.some.inj e).symm),H.ne⟩
theorem Zqn.put2 (H:Zqn w Bs Bm Bc Bv M1 M2 h m K C) (hg:w.grownBy w' (some M2)) {C':Nat→Nat} (hs:Zqh w' M2 C'):Zqn w' Bs Bm Bc Bv M1 M2 h m K C':=
 ⟨Cs.keeps (Zqk H.c2.map hg) H.cs,H.md.keeps (Zqk H.c2.map hg),H.s1.eq (hg.block _ H.s1.map.lt fun e=>H.ne (Option.some.inj e)),hs,H.ne⟩
end
def Zqo (m:Md) (K:List Nat) (C:Nat→Nat) (L:List Nat) (C':Nat→Nat):Prop:=(∀ o,C' o≤120*L.length)∧∀ o:Nat,0<C' o↔0<C o∨∃ j∈L,j ∉ K∧∃ i∈cdM m j,i.op=o
theorem Zqo.trans {m:Md}{K L P:List Nat}{C C1 C2:Nat→Nat} (h1:Zqo m K C L C1) (h2:Zqo m L C1 P C2) (hk:∀ k∈K,k∈L) (hl:∀ k∈L,k∈P):Zqo m K C P C2:=by
 refine ⟨h2.1,fun o=>?_⟩
 rw [h2.2,h1.2]
 constructor
 ·rintro ((h|⟨j,hj,hn,hi⟩)|⟨j,hj,hn,hi⟩)
  ·exact .inl h
  ·exact .inr ⟨j,hl j hj,hn,hi⟩
  ·exact .inr ⟨j,hj,fun e=>hn (hk j e),hi⟩
 ·rintro (h|⟨j,hj,hn,hi⟩)
  ·exact .inl (.inl h)
  ·by_cases e:j∈L
   ·exact .inl (.inr ⟨j,e,hn,hi⟩)
   ·exact .inr ⟨j,hj,e,hi⟩
def Zqp (w:World) (Bs Bm Bc Bv M1 M2:Nat) (h:Hd) (m:Md) (K:List Nat) (C:Nat→Nat) (n:Nat):Ending→World→Prop:=fun e w'=>e=.returned (.tuple #[])∧∃ L C',Zqn w' Bs Bm Bc Bv M1 M2 h m L C'∧Ups [M1,M2] w w'∧ZnF w w'∧(∀ k∈K,k∈L)∧n∈L∧(∀ j∈L,j∈K∨(Rch m n j∧∀ t:Nat,(t:Int)∈ZpS m j→t∈L))∧Zqo m K C L C'
def Zqq (n Bs Bm Bc Bv:Nat):Array Value:=#[.int .i64 n,.pointer (some ⟨Bs,0,none⟩),.pointer (some ⟨Bm,0,none⟩),.pointer (some ⟨Bc,0,none⟩),.pointer (some ⟨Bv,0,none⟩)]
def Zqr (Bs Bm Bc Bv M1 M2:Nat) (h:Hd) (m:Md) (n:Nat):Prop:=∀ w K C,Zqn w Bs Bm Bc Bv M1 M2 h m K C→(∀ o,C o≤120*K.length) →
 Calls Tryz.prog 115 (Zqq n Bs Bm Bc Bv) w (Zqp w Bs Bm Bc Bv M1 M2 h m K C n)
section
variable {Bs Bm Bc Bv M1 M2:Nat}{h:Hd}{m:Md}{n:Nat}
theorem Zqs (hv:Za1 m=true) (hn:n<m.me.length) (ih:∀ c,c<n→Zqr Bs Bm Bc Bv M1 M2 h m c):Zqr Bs Bm Bc Bv M1 M2 h m n:=by
 intro w K C H hC
 have hsz:=Zin hv
 have hn10:n<1000:=by omega
 have hn2:(n:Int) < m.me.length:=by omega
 have HH:=Zh H
 have HS:=Zh H.s1
 have HC:=Zh hC
 have hcs:=H.cs
 obtain ⟨c0,c1,c2,x0,x1,x2,x3,-⟩:=hcs
 unfold Zqq
 by_cases hin:n∈K
 ·have HIn:=Zh (show decide (n∈K)=true from decide_eq_true hin)
  clear H hC
  go_enter Tryz.func115,Tryz.ntmps115
  go_wp2_with (at_lookup;refine Zqd rfl _ _ rfl (M:=M1) (K:=K) rfl HS.out n rfl hn10 ?_;rw [HIn.out])
  exact bodyPost_ret (v:=.tuple #[]) (by simp [results,Tryz.results115,go_sem]) rfl ⟨rfl,K,C,HH.out,Ups.refl _ _,ZnF.refl _,fun _ h=>h,hin,fun j hj=>.inl hj,HC.out,fun o=>⟨.inl,fun q=>q.elim id fun ⟨j,h1,h2,_⟩=>absurd h1 h2⟩⟩
 ·have HIn:=Zh (show decide (n∈K)=false from decide_eq_false hin)
  have HIs:=Zh (show Zqa n K=n :: K from if_neg hin)
  have HNi:=Zh hin
  have hok:=ZfN hv hn
  have hkl:(cdM m n).length≤120:=hok.z.2.2
  obtain ⟨ad,heo,-,-,-,-,-,-,e6⟩:=H.md.mth hn
  rw [heo] at x2
  have HKo:=Zh (H.md.k n hn)
  have HOp:=Zh (show ∀ i∈cdM m n,0≤i.op∧i.op<36 from fun i hi=>ZfQ (hok.i i hi).1)
  have HCal:=Zh (fun w' (H':Zay w' h m)=>Zql m h n w' H' hv hn)
  have HIh:=Zh (show ∀ q,q<(ZpS m n).length→∃ c:Nat,(ZpS m n).getD q 0=c∧Zqr Bs Bm Bc Bv M1 M2 h m c from fun q hq=>by
   obtain ⟨h0,h1⟩:=ZpZ hv hn (ZfU (0:Int) hq)
   exact ⟨((ZpS m n).getD q 0).toNat,by omega,ih _ (by omega)⟩)
  have HTl:=Zh (show (ZpS m n).length≤1200 from Zp0 hv hn)
  rw [show (m.me.getD n default).k=cdM m n from rfl] at e6 HKo
  have HKl:=Zh (show K.length≤1000 from H.s1.len)
  generalize (h.e n).ko=ko at e6 HKo
  generalize (h.e n).kc=kc at e6 HKo
  clear H hC hin hok heo hsz
  go_enter Tryz.func115,Tryz.ntmps115
  go_upto_region 2 with (first
   | (at_lookup;refine Zqd rfl _ _ rfl (M:=M1) (K:=K) rfl HS.out n rfl hn10 ?_;rw [HIn.out])
   | (at_mapUpdate;refine Zqe rfl _ _ _ rfl (M:=M1) (K:=K) rfl HS.out n rfl rfl hn10 ?_;intro w1 hs1 hg1;rw [HIs.out] at hs1;have HH1:=Zh (HH.out.put1 hg1 hs1);have hkk:=Zqk HS.out.map hg1;have HU1:=Zh (Ups.grown (S:=[M1,M2]) hg1 (by simp));have x2:=hkk _ _ x2;have e6:=hkk _ _ e6;have HK1:=Zh hkk;clear hs1 hg1 hkk))
  clear c0 c1 c2 x0 x1 x3
  go_upto_region 3 with fail
  clear x2 e6
  go_loopw [24] (fun i wr=>∃ (j:Nat) (C1:Nat→Nat),j≤(cdM m n).length∧i=.int .i64 j∧Hid (Zqn wr Bs Bm Bc Bv M1 M2 h m (n :: K) C1)∧Hid ((∀ o,C1 o≤120*K.length+j)∧∀ o:Nat,0<C1 o↔0<C o∨∃ x,x<j∧((cdM m n).getD x default).op=o)∧Hid (Ups [M1,M2] w wr)∧Hid (ZnF w wr)) (fun i _=>(cdM m n).length-(intOf i).toNat)
  case atStart=>exact ⟨0,C,Nat.zero_le _,rfl,HH1.out,⟨fun o=>by have:=HC.out o;omega,fun o=>⟨.inl,fun q=>q.elim id fun ⟨x,h1,_⟩=>by omega⟩⟩,HU1.out,HK1.out⟩
  case round=>
   obtain ⟨j,C1,hj,rfl,HHr,HCr,HU,HKe⟩:=hrel
   rename World=>wo
   by_cases hjl:j<(cdM m n).length
   ·have hjl2:(j:Int) < (cdM m n).length:=by omega
    have hwj:IntKind.i64.wrap ((j:Int)+1)=((j+1:Nat):Int):=IntWalk.i64_in _ (by omega)
    obtain ⟨ad2,rfl,o0,o1,o2⟩:=ZaA (ZnG HKo.out HKe.out) hjl
    have hop:=HOp.out ((cdM m n).getD j default) (ZfU _ hjl)
    obtain ⟨i,hi⟩:∃ i,i=(cdM m n).getD j default:=⟨_,rfl⟩
    rw [←hi] at o0 o1 o2 hop
    obtain ⟨op,ia,ib⟩:=i
    dsimp only at o0 o1 o2 hop
    obtain ⟨o,rfl⟩:∃ o:Nat,op=o:=⟨op.toNat,by omega⟩
    have ho:o<1000:=by omega
    have HI:=Zh hi
    have hl0:=Zac o0
    have hc1:=HCr.out.1 o
    have hkn:=HKl.out
    have hco:C1 o<1000000:=by omega
    have hwo:IntKind.i64.wrap ((C1 o:Int)+1)=(C1 o:Int)+1:=IntWalk.i64_in _ (by omega)
    have hcs:=HHr.out.cs
    obtain ⟨-,c1,-,-,-,-,-,-⟩:=hcs
    have hc1l:=Zac c1
    obtain ⟨B,hB⟩:∃ B,B=wo.heap.size:=⟨_,rfl⟩
    have HX:=Zh (show Blk (wo.alloc (.cells #[.int .i64 o,.int .i64 ia,.int .i64 ib] 78)) B #[.int .i64 o,.int .i64 ia,.int .i64 ib] 78 by rw [hB];exact Blk.new _ _ _)
    have HBb:=Zh (show Below wo.heap.size wo (wo.alloc (.cells #[.int .i64 o,.int .i64 ia,.int .i64 ib] 78)) by exact bE)
    have HHa:=Zh (HHr.out.old HBb.out)
    clear hi hop hc1 hkn
    go_wp2_with (first
     | (at_lookup;refine Zqi rfl _ _ rfl (M:=M2) (C:=C1) rfl HHa.out.c2 o rfl ho ?_)
     | (at_mapUpdate;refine Zqj rfl _ _ _ rfl (M:=M2) (C:=C1) rfl HHa.out.c2 o rfl rfl ho hco ?_;intro w2 hs2 hg2;have HH2:=Zh (HHa.out.put2 hg2 hs2);have HU2:=Zh ((Ups.of (S:=[M1,M2]) HBb.out).trans (Ups.grown (S:=[M1,M2]) hg2 (by simp)));have HK2:=Zh ((ZnF.of HBb.out).trans (Zqk HHa.out.c2.map hg2));clear hs2 hg2))
    refine ⟨⟨j+1,_,hjl,rfl,HH2.out,⟨fun p=>?_,fun p=>?_⟩,HU.out.trans HU2.out,HKe.out.trans HK2.out⟩,by simp [intOf];omega⟩
    ·have h1:=HCr.out.1 p
     split
     ·rename_i e;subst e;omega
     ·omega
    ·have h1:=HCr.out.2 p
     by_cases e:p=o
     ·subst e
      rw [if_pos rfl]
      exact ⟨fun _=>.inr ⟨j,by omega,by rw [←HI.out]⟩,fun _=>by omega⟩
     ·rw [if_neg e,h1]
      constructor
      ·rintro (q|⟨x,hx,hxo⟩)
       ·exact .inl q
       ·exact .inr ⟨x,by omega,hxo⟩
      ·rintro (q|⟨x,hx,hxo⟩)
       ·exact .inl q
       ·refine .inr ⟨x,?_,hxo⟩
        by_cases e2:x=j
        ·subst e2;rw [←HI.out] at hxo;dsimp only at hxo;omega
        ·omega
   ·obtain rfl:j=(cdM m n).length:=by omega
    have hjl2:¬ (((cdM m n).length:Nat):Int) < (cdM m n).length:=by omega
    have HC3:=Zh (show Zqo m K C (n :: K) C1 from ⟨fun o=>by have:=HCr.out.1 o;rw [List.length_cons];omega,fun o=>by
     rw [HCr.out.2 o]
     constructor
     ·rintro (q|⟨x,hx,hxo⟩)
      ·exact .inl q
      ·exact .inr ⟨n,by simp,HNi.out,_,ZfU _ hx,hxo⟩
     ·rintro (q|⟨x,hx,hxn,i,hi,hio⟩)
      ·exact .inl q
      ·rcases List.mem_cons.1 hx with rfl|e
       ·obtain ⟨p,hp,rfl⟩:=List.getElem_of_mem hi
        exact .inr ⟨p,hp,by simpa [hp] using hio⟩
       ·exact absurd e hxn⟩)
    clear HCr
    go_upto_region 7 with fail
    obtain ⟨y0,y1,y2,z0,z1,z2,z3,-⟩:=HHr.out.cs
    go_upto_region 8 with (go_at_call 116;refine (HCal.out _ HHr.out.md).mono ?_;rintro e w6 ⟨⟨uo,uc,rfl,hr6,-⟩,hb6⟩;have HR6:=Zh hr6;have HH6:=Zh (HHr.out.old hb6);have HU6:=Zh (HU.out.trans (Ups.of hb6));have HK6:=Zh (HKe.out.trans (ZnF.of hb6));clear hr6 hb6)
    clear y0 y1 y2 z0 z1 z2 z3
    go_upto_region 9 with fail
    go_loopw [42] (fun i wr=>∃ (q:Nat) (N1:List Nat) (C2:Nat→Nat),q≤(ZpS m n).length∧i=.int .i64 q∧Hid (Zqn wr Bs Bm Bc Bv M1 M2 h m N1 C2)∧Hid (Zqo m K C N1 C2)∧Hid (Ups [M1,M2] w wr)∧Hid (ZnF w wr)∧Hid (ZnF w6 wr)∧Hid (RmL m K n q N1)) (fun i _=>(ZpS m n).length-(intOf i).toNat)
    case atStart=>exact ⟨0,n :: K,C1,Nat.zero_le _,rfl,HH6.out,HC3.out,HU6.out,HK6.out,ZnF.refl _,RmL.start _ _ _⟩
    case round=>
     obtain ⟨q,N1,C2,hq,rfl,HHq,HCq,HUq,HKq,HKs,HRm⟩:=hrel
     rename World=>wq
     have htl:=HTl.out
     by_cases hql:q<(ZpS m n).length
     ·have hql2:(q:Int) < (ZpS m n).length:=by omega
      have hwq:IntKind.i64.wrap ((q:Int)+1)=((q+1:Nat):Int):=IntWalk.i64_in _ (by omega)
      obtain ⟨td,rfl,t0⟩:=ZaB (ZnG HR6.out HKs.out) hql
      obtain ⟨d,hd,hmc⟩:=HIh.out q hql
      rw [hd] at t0
      have HMc:=Zh hmc
      have HNx:=Zh (fun L'=>HRm.out.next (L':=L') hql hd.symm)
      have HN1:=Zh HRm.out.1
      obtain ⟨-,-,y2,-,-,-,-,-⟩:=HHq.out.cs
      unfold Zqm at y2
      clear hmc hd HRm htl
      go_wp2_with (go_at_call 115;refine (HMc.out _ N1 C2 HHq.out HCq.out.1).mono ?_;rintro e w7 ⟨rfl,P1,C7,hh7,hu7,hk7,hs7,hn7,hj7,hc7⟩;have HE:=Zh (And.intro hh7 (And.intro hu7 (And.intro hk7 (And.intro hs7 hc7))));have HR7:=Zh (HNx.out P1 hs7 hn7 hj7);clear hh7 hu7 hk7 hs7 hn7 hj7 hc7)
      exact ⟨⟨q+1,P1,C7,hql,rfl,HE.out.1,HCq.out.trans HE.out.2.2.2.2 HN1.out HE.out.2.2.2.1,HUq.out.trans HE.out.2.1,HKq.out.trans HE.out.2.2.1,HKs.out.trans HE.out.2.2.1,HR7.out⟩,by simp [intOf];omega⟩
     ·have hql2:¬ (q:Int) < (ZpS m n).length:=by omega
      obtain rfl:q=(ZpS m n).length:=by omega
      clear htl
      go_wp2_with fail
      have h9:=HRm.out.fin
      exact bodyPost_ret (v:=.tuple #[]) (by simp [results,Tryz.results115,go_sem]) rfl ⟨rfl,N1,C2,HHq.out,HUq.out,HKq.out,h9.1,h9.2.1,h9.2.2,HCq.out⟩
theorem Zqt (hv:Za1 m=true):∀ n,n<m.me.length→Zqr Bs Bm Bc Bv M1 M2 h m n:=by
 intro n
 induction n using Nat.strongRecOn with
 | ind n ih=>exact fun hn=>Zqs hv hn fun c hc=>ih c hc (by omega)
end
end
end Go.Proofs.YtcfjblcgceednaaGreat
