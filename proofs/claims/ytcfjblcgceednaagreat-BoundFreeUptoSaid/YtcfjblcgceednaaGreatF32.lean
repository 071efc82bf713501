/- Joined texts. The first: Sets of small numbers in memory: a map from int to bool. -/
import Derived.Test.YtcfjblcgceednaaGreatG29
set_option linter.all false
set_option linter.unusedVariables false
set_option linter.unusedSimpArgs false
set_option maxRecDepth 100000
set_option maxHeartbeats 8000000
namespace Go.Proofs.YtcfjblcgceednaaGreat
section
open Go.RowKit
theorem Zp2 {w:World}{b n:Nat}{D:DataW Unit} (h:w.ownsMap Tryz.prog 3 (plainElem Tryz.prog 4) b n D):w.ownsMap Tryz.prog 3 (plainElem Tryz.prog 4) b (Maps.size D) D:=by
 obtain ⟨es,c,h1,h2,h3,rfl⟩:=h
 refine ⟨es,c,h1,h2,?_,rfl⟩
 show es.size≤List.length _
 rw [length_sorted]
 simp
theorem Zp3 {v:Value}{z:DataW Unit × List MemPlace} (h:plainElem (H:=Unit) Tryz.prog 4 v=some z):∃ b,v=.bool b∧z=(.lit (.bool b),[]):=by
 unfold plainElem at h
 rw [show (Tryz.prog).underlying 4=some .bool from Tryz.underlying4] at h
 cases v<;>simp at h
 exact ⟨_,rfl,h.symm⟩
def Zp4 (w:World) (M:Nat) (K:List Nat):Prop:=K.Nodup∧(∀ k∈K,k<1000)∧∃ D:DataW Unit,w.ownsMap Tryz.prog 3 (plainElem Tryz.prog 4) M K.length D∧Maps.size D=K.length∧(∀ k:Nat,Maps.has D (.int .i64 k)=decide (k∈K))∧(∀ k:Nat,D.atKey (.int .i64 k) (.lit (.bool false))=.lit (.bool (decide (k∈K))))∧∀ kl,Maps.has D kl=true→∃ k:Nat,k∈K∧kl=.int .i64 k
def Zp5 (k:Nat) (K:List Nat):List Nat:=if k∈K then K else k :: K
theorem Zp6 {k j:Nat}{K:List Nat}:j∈Zp5 k K↔j=k∨j∈K:=by
 unfold Zp5
 split
 ·constructor
  ·exact .inr
  ·rintro (rfl|h)<;>assumption
 ·simp
theorem Zp4.made (w:World):Zp4 (w.alloc (.map #[] 0)) w.heap.size []:=
 ⟨List.nodup_nil,fun _ h=>by simp at h,_,World.ownsMap_made _ _ _ _,rfl,fun k=>by simp [Maps.has],fun k=>rfl,fun kl h=>by simp [Maps.has] at h⟩
theorem Zp4.map {w:World}{M:Nat}{K:List Nat} (H:Zp4 w M K):IsMap w M:=by
 obtain ⟨_,_,D,⟨es,c,h,_⟩,_⟩:=H
 exact ⟨es,c,h⟩
theorem Zp4.eq {w w':World}{M:Nat}{K:List Nat} (H:Zp4 w M K) (h:w'.heap[M]?=w.heap[M]?):Zp4 w' M K:=by
 obtain ⟨h1,h2,D,⟨es,c,h3,h4⟩,h5⟩:=H
 exact ⟨h1,h2,D,⟨es,c,h.trans h3,h4⟩,h5⟩
theorem Zp4.old {w w':World}{M:Nat}{K:List Nat} (H:Zp4 w M K) (hb:Below w.heap.size w w'):Zp4 w' M K:=H.eq (hb.block M H.map.lt)
theorem Zp4.len {w:World}{M:Nat}{K:List Nat} (H:Zp4 w M K):K.length≤1000:=ZnH 1000 K H.1 H.2.1
theorem Zp7 (w:World):(zeroValue 4).run Tryz.prog w=.ok (.bool false) w:=by kernel_rfl
theorem Zp8 {w:World}{ops:Array Oper}{rest:List Oper}{o:Oper}{a:Act}{Q:Exit→Act→World→Prop} (hg:o.guard=none) (m x:Operand) (hop:o.op=Op.lookup 152 m x false) {M:Nat}{K:List Nat} (hm:a.eval m=.map (some M)) (H:Zp4 w M K) (k:Nat) (hx:a.eval x=.int .i64 k) (hk:k<1000)
  (hK:wpList Tryz.prog ops Q rest (a.put o.dst (.bool (decide (k∈K)))) w):wpList Tryz.prog ops Q (o :: rest) a w:=by
 obtain ⟨h1,h2,D,h3,h4,h5,h6,h7⟩:=H
 refine wpList_plain hg fun K' hK'=>?_
 obtain ⟨v,ps,hrun,hv⟩:=h3.lookup Zn1 Tryz.underlying152 (Zp7 w) (zd:=.lit (.bool false)) (zp:=[]) (plainElem_bool Tryz.underlying4 false) (Zn4 (k:=k) (by omega))
 rw [h6 k] at hv
 obtain ⟨b,rfl,hz⟩:=Zp3 hv
 have hb:decide (k∈K)=b:=by
  have h:=congrArg Prod.fst hz
  simpa using h
 subst hb
 unfold Oper.wp
 simp [execOp,hop,hm,hx,hrun,Result.andThen]
 exact hK' _ _ hK
theorem Zp4.put {w:World}{M:Nat}{K:List Nat} (H:Zp4 w M K) (k:Nat) (hk:k<1000):∃ w',(Instr.mapUpdate 152 (.map (some M)) (.int .i64 k) (.bool true)).run Tryz.prog w=.ok () w'∧Zp4 w' M (Zp5 k K)∧w.grownBy w' (some M):=by
 have hl:=H.len
 obtain ⟨h1,h2,D,h3,h4,h5,h6,h7⟩:=H
 obtain ⟨w',hr,hw,hg⟩:=h3.update Zn1 Tryz.underlying152 (by unfold maxLen;omega) (Zn4 (k:=k) (by omega)) (plainElem_bool Tryz.underlying4 true)
 refine ⟨w',hr,?_,hg⟩
 have ht:=h3.tidy Zn1
 have hs:=Maps.size_put (k:=.int .i64 k) ht (.lit (.bool true))
 rw [h5 k] at hs
 have hsz:Maps.size (D.put (.int .i64 k) (.lit (.bool true)))=(Zp5 k K).length:=by
  rw [hs,h4]
  unfold Zp5
  by_cases e:k∈K
  ·rw [if_pos e];simp [e]
  ·rw [if_neg e];simp [e]
 refine ⟨?_,fun j hj=>?_,_,by have:=Zp2 hw;rwa [hsz] at this,hsz,fun j=>?_,fun j=>?_,fun kl hkl=>?_⟩
 ·unfold Zp5
  split
  ·exact h1
  ·rename_i e;exact List.nodup_cons.2 ⟨e,h1⟩
 ·rcases Zp6.1 hj with rfl|e
  ·exact hk
  ·exact h2 j e
 ·by_cases e:j=k
  ·subst e;rw [Maps.has_put_same (k:=.int .i64 j) ht.isMap trivial];simp [Zp6]
  ·rw [Maps.has_put_other (by intro q;cases q;omega),h5];simp [Zp6,e]
 ·by_cases e:j=k
  ·subst e;rw [Maps.atKey_put_same (k:=.int .i64 j) ht.isMap trivial];simp [Zp6]
  ·rw [Maps.atKey_put_other (by intro q;cases q;omega),h6];simp [Zp6,e]
 ·by_cases e:kl=.int .i64 k
  ·exact ⟨k,Zp6.2 (.inl rfl),e⟩
  ·rw [Maps.has_put_other e] at hkl
   obtain ⟨j,hj,e2⟩:=h7 kl hkl
   exact ⟨j,Zp6.2 (.inr hj),e2⟩
theorem Zp9 {w:World}{ops:Array Oper}{rest:List Oper}{o:Oper}{a:Act}{Q:Exit→Act→World→Prop} (hg:o.guard=none) (m x v:Operand) (hop:o.op=Op.mapUpdate 152 m x v) {M:Nat}{K:List Nat} (hm:a.eval m=.map (some M)) (H:Zp4 w M K) (k:Nat) (hx:a.eval x=.int .i64 k) (hv:a.eval v=.bool true) (hk:k<1000)
  (hK:∀ w',Zp4 w' M (Zp5 k K)→w.grownBy w' (some M)→wpList Tryz.prog ops Q rest (a.put o.dst undef) w'):wpList Tryz.prog ops Q (o :: rest) a w:=by
 refine wpList_plain hg fun K' hK'=>?_
 obtain ⟨w',hrun,r1,r2⟩:=H.put k hk
 unfold Oper.wp
 simp [execOp,hop,hm,hx,hv,hrun,Result.andThen]
 exact hK' _ _ (hK w' r1 r2)
theorem Zqa {w:World}{o:Oper}{a:Act}{Q:Exit→Act→World→Prop}{Kv:Act→World→Prop} (m x v:Operand) (hop:o.op=Op.mapUpdate 152 m x v) {M:Nat}{K:List Nat} (hm:a.eval m=.map (some M)) (H:Zp4 w M K) (k:Nat) (hx:a.eval x=.int .i64 k) (hv:a.eval v=.bool true) (hk:k<1000)
  (hK:∀ w',Zp4 w' M (Zp5 k K)→w.grownBy w' (some M)→Kv (a.put o.dst undef) w'):o.wp Tryz.prog a w Kv Q:=by
 obtain ⟨w',hrun,r1,r2⟩:=H.put k hk
 unfold Oper.wp
 simp [execOp,hop,hm,hx,hv,hrun,Result.andThen]
 exact hK w' r1 r2
end
section
open Go.RowKit
structure Ups (S:List Nat) (a b:World):Prop where
 os:b.os=a.os
 tape:b.tape=a.tape
 output:b.output=a.output
 size:a.heap.size≤b.heap.size
 block:∀ k,k<a.heap.size→k ∉ S→b.heap[k]?=a.heap[k]?
theorem Ups.refl (S:List Nat) (w:World):Ups S w w:=⟨rfl,rfl,rfl,Nat.le_refl _,fun _ _ _=>rfl⟩
theorem Ups.trans {S:List Nat}{a b c:World} (h:Ups S a b) (k:Ups S b c):Ups S a c:=
 ⟨k.os.trans h.os,k.tape.trans h.tape,k.output.trans h.output,Nat.le_trans h.size k.size,fun i hi h1=>(k.block i (Nat.lt_of_lt_of_le hi h.size) h1).trans (h.block i hi h1)⟩
theorem Ups.of {S:List Nat}{a b:World} (h:Below a.heap.size a b):Ups S a b:=⟨h.os,h.tape,h.output,h.size,fun k hk _=>h.block k hk⟩
theorem Ups.grown {S:List Nat}{a b:World}{M:Nat} (hg:a.grownBy b (some M)) (hM:M∈S):Ups S a b:=
 ⟨hg.os,hg.tape,hg.output,hg.size,fun q hq h1=>hg.block q hq fun e=>h1 (by cases e;exact hM)⟩
theorem Ups.below {S:List Nat}{N:Nat}{w0 a b:World} (h:Ups S a b) (hb:Below N w0 a) (hN:N≤w0.heap.size) (hS:∀ k∈S,N≤k):Below N w0 b:=
 ⟨h.os.trans hb.os,h.tape.trans hb.tape,h.output.trans hb.output,Nat.le_trans hb.size h.size,fun k hk=>(h.block k (by have:=hb.size;omega) (fun q=>by have:=hS k q;omega)).trans (hb.block k hk)⟩
theorem Zqb {w w':World}{M:Nat} (hm:IsMap w M) (hg:w.grownBy w' (some M)):ZnF w w':=fun p v hc=>by
 obtain ⟨es,c,hm⟩:=hm
 have hne:p.block≠M:=fun e=>by unfold World.cell? at hc;rw [e,hm] at hc;simp at hc
 exact (World.cell?_of_block (w:=w) (hg.block _ (Zac hc) fun e=>hne (Option.some.inj e))).trans hc
structure Zqc (w:World) (B M1 M2 M3:Nat) (h:Hd) (m:Md) (K1 K2 K3:List Nat):Prop where
 bk:Blk w B #[.slice h.co m.cl.length h.cc,.slice h.so m.st.length h.sc,.slice h.eo m.me.length h.ec,.int .i64 m.sel,.map (some M1),.map (some M2),.map (some M3)] 241
 md:Zay w h m
 s1:Zp4 w M1 K1
 s2:Zp4 w M2 K2
 s3:Zp4 w M3 K3
 n12:M1≠M2
 n13:M1≠M3
 n23:M2≠M3
section
variable {w w':World}{B M1 M2 M3:Nat}{h:Hd}{m:Md}{K1 K2 K3:List Nat}
section
variable (H:Zqc w B M1 M2 M3 h m K1 K2 K3)
include H
theorem Zqc.old (hb:Below w.heap.size w w'):Zqc w' B M1 M2 M3 h m K1 K2 K3:=
 ⟨H.bk.old hb,H.md.old hb,H.s1.old hb,H.s2.old hb,H.s3.old hb,H.n12,H.n13,H.n23⟩
theorem Zqc.put1 (hg:w.grownBy w' (some M1)) {L:List Nat} (hs:Zp4 w' M1 L):Zqc w' B M1 M2 M3 h m L K2 K3:=
 ⟨(hg.block B H.bk.lt fun e=>ZnI H.bk H.s1.map (Option.some.inj e)).trans H.bk,H.md.keeps (Zqb H.s1.map hg),hs,H.s2.eq (hg.block _ H.s2.map.lt fun e=>H.n12 (Option.some.inj e).symm),H.s3.eq (hg.block _ H.s3.map.lt fun e=>H.n13 (Option.some.inj e).symm),H.n12,H.n13,H.n23⟩
theorem Zqc.put2 (hg:w.grownBy w' (some M2)) {L:List Nat} (hs:Zp4 w' M2 L):Zqc w' B M1 M2 M3 h m K1 L K3:=
 ⟨(hg.block B H.bk.lt fun e=>ZnI H.bk H.s2.map (Option.some.inj e)).trans H.bk,H.md.keeps (Zqb H.s2.map hg),H.s1.eq (hg.block _ H.s1.map.lt fun e=>H.n12 (Option.some.inj e)),hs,H.s3.eq (hg.block _ H.s3.map.lt fun e=>H.n23 (Option.some.inj e).symm),H.n12,H.n13,H.n23⟩
theorem Zqc.put3 (hg:w.grownBy w' (some M3)) {L:List Nat} (hs:Zp4 w' M3 L):Zqc w' B M1 M2 M3 h m K1 K2 L:=
 ⟨(hg.block B H.bk.lt fun e=>ZnI H.bk H.s3.map (Option.some.inj e)).trans H.bk,H.md.keeps (Zqb H.s3.map hg),H.s1.eq (hg.block _ H.s1.map.lt fun e=>H.n13 (Option.some.inj e)),H.s2.eq (hg.block _ H.s2.map.lt fun e=>H.n23 (Option.some.inj e)),hs,H.n12,H.n13,H.n23⟩
end
end
def RcP (w:World) (B M1 M2 M3:Nat) (h:Hd) (m:Md) (K1 K2 K3:List Nat):Ending→World→Prop:=fun e w'=>e=.returned (.tuple #[])∧∃ L,Zqc w' B M1 M2 M3 h m K1 L K3∧(∀ k∈K2,k∈L)∧(∀ k∈L,k<m.cl.length)∧Ups [M1,M2,M3] w w'∧ZnF w w'
def Zqd (B M1 M2 M3:Nat) (h:Hd) (m:Md) (u:Nat):Prop:=∀ w K1 K2 K3 n,Zqc w B M1 M2 M3 h m K1 K2 K3→(∀ k∈K2,k<m.cl.length)→m.cl.length-K2.length≤u→n<m.cl.length →
 Calls Tryz.prog 298 #[.pointer (some ⟨B,0,none⟩),.int .i64 n] w (RcP w B M1 M2 M3 h m K1 K2 K3)
def Zqe (B M1 M2 M3:Nat) (h:Hd) (m:Md) (u:Nat):Prop:=∀ w K1 K2 K3 lo lc (l:List Ty),Zqc w B M1 M2 M3 h m K1 K2 K3→(∀ k∈K2,k<m.cl.length)→m.cl.length-K2.length≤u→Zar w lo lc l→l.length≤1000→(∀ t∈l,t.k=2∨t.k=4→0≤t.c∧t.c<m.cl.length) →
 Calls Tryz.prog 297 #[.pointer (some ⟨B,0,none⟩),.slice lo l.length lc] w (RcP w B M1 M2 M3 h m K1 K2 K3)
theorem Zqf {K L:List Nat} (hn:K.Nodup) (hs:∀ k∈K,k∈L):K.length≤L.length:=by
 induction K generalizing L with
 | nil=>simp
 |cons a K ih=>
  have h1:=List.nodup_cons.1 hn
  have ha:a∈L:=hs a (by simp)
  have:=ih (L:=L.erase a) h1.2 fun k hk=>by
   have hne:k≠a:=fun e=>h1.1 (e▸hk)
   exact (List.mem_erase_of_ne hne).2 (hs k (by simp [hk]))
  rw [List.length_erase_of_mem ha] at this
  have:0<L.length:=List.length_pos_of_mem ha
  simp only [List.length_cons];omega
section
variable {B M1 M2 M3:Nat}{h:Hd}{m:Md}{u:Nat}
theorem Zqg (hv:Za1 m=true) (ih:∀ v,v<u→Zqd B M1 M2 M3 h m v∧Zqe B M1 M2 M3 h m v):Zqd B M1 M2 M3 h m u:=by
 intro w K1 K2 K3 n H hK hu hn
 have hn10:n<1000:=by have:=(Zin hv).1;omega
 have hn2:(n:Int) < m.cl.length:=by omega
 have c5:=H.bk.cell 5 (v:=.map (some M2)) rfl
 have HH:=Zh H
 have HS:=Zh H.s2
 have HK:=Zh hK
 by_cases hin:n∈K2
 ·have HIn:=Zh (show decide (n∈K2)=true from decide_eq_true hin)
  clear H hK
  go_enter Tryz.func298,Tryz.ntmps298
  go_wp2_with (at_lookup;refine Zp8 rfl _ _ rfl (M:=M2) (K:=K2) rfl HS.out n rfl hn10 ?_;rw [HIn.out])
  exact bodyPost_ret (v:=.tuple #[]) (by simp [results,Tryz.results298,go_sem]) rfl ⟨rfl,K2,HH.out,fun _ h=>h,HK.out,Ups.refl _ _,ZnF.refl _⟩
 ·have HIn:=Zh (show decide (n∈K2)=false from decide_eq_false hin)
  have hlen:(n :: K2).length≤m.cl.length:=ZnH _ _ (List.nodup_cons.2 ⟨hin,H.s2.1⟩) fun k hk=>by
   rcases List.mem_cons.1 hk with rfl|e
   ·exact hn
   ·exact hK k e
  rw [List.length_cons] at hlen
  obtain ⟨hc,ht⟩:=ih (u-1) (by omega)
  have hins:Zp5 n K2=n :: K2:=if_neg hin
  have HIs:=Zh hins
  obtain ⟨ad,hco,-,e1,e2,-⟩:=H.md.cls hn
  have c0:=H.bk.cell 0 (v:=.slice h.co m.cl.length h.cc) rfl
  rw [hco] at c0
  have hcv:=Zil hv n hn
  have hsup:=Zc7 hcv
  have hty:ZaG m.cl.length (m.cl.getD n default).f=true∧(m.cl.getD n default).f.length≤7:=by
   simp only [ZaK,Bool.and_eq_true,decide_eq_true_eq] at hcv
   exact ⟨by simp_all,by omega⟩
  have HTy:=Zh hty
  have hF:=H.md.f n hn
  rw [show m.sup n=(m.cl.getD n default).sup from rfl] at hsup
  generalize (m.cl.getD n default).f=fl at HTy hF e2
  generalize (h.c n).fo=fo at hF e2
  generalize (h.c n).fc=fc at hF e2
  have HF:=Zh hF
  clear hF
  clear hty
  generalize (m.cl.getD n default).sup=sp at e1 hsup
  have HC:=Zh hc
  have HT:=Zh ht
  have HLe:=Zh (show m.cl.length-(n :: K2).length≤u-1 by rw [List.length_cons];omega)
  have HNd:=Zh (List.nodup_cons.2 ⟨hin,H.s2.1⟩)
  clear H hK hc ht hins hcv hin
  go_enter Tryz.func298,Tryz.ntmps298
  go_upto_region 2 with (first
   | (at_lookup;refine Zp8 rfl _ _ rfl (M:=M2) (K:=K2) rfl HS.out n rfl hn10 ?_;rw [HIn.out])
   | (at_mapUpdate;refine Zp9 rfl _ _ _ rfl (M:=M2) (K:=K2) rfl HS.out n rfl rfl hn10 ?_;intro w1 hs1 hg1;rw [HIs.out] at hs1;have HH1:=Zh (HH.out.put2 hg1 hs1);have hkk:=Zqb HS.out.map hg1;have HU1:=Zh (Ups.grown (S:=[M1,M2,M3]) hg1 (by simp));have c0:=hkk _ _ c0;have e1:=hkk _ _ e1;have e2:=hkk _ _ e2;have HK1:=Zh hkk;clear hs1 hg1 hkk))
  have HAll:=Zh (show ∀ k∈n :: K2,k<m.cl.length from fun k hk=>by
   rcases List.mem_cons.1 hk with rfl|e
   ·exact hn
   ·exact HK.out k e)
  have HTys:=Zh (show ∀ t∈fl,t.k=2∨t.k=4→0≤t.c∧t.c<m.cl.length from fun t ht hk=>by
   have:=List.all_eq_true.1 HTy.out.1 t ht
   unfold ZaF at this
   rw [if_pos hk] at this
   simpa using this)
  have HFl:=Zh (show fl.length≤1000 by have:=HTy.out.2;omega)
  by_cases hs0:sp ≥ 0
  ·obtain ⟨d,rfl⟩:∃ d:Nat,sp=d:=⟨sp.toNat,by omega⟩
   have hdl:d<m.cl.length:=by omega
   go_wp2_with (first
    | (go_at_call 298;refine (HC.out _ K1 (n :: K2) K3 d HH1.out HAll.out HLe.out hdl).mono ?_;rintro e w2 ⟨rfl,L,hh2,hsub,hall,hu2,hk2⟩;have HH2:=Zh hh2;have HL2:=Zh (And.intro hsub hall);have HU2:=Zh (HU1.out.trans hu2);have HK2:=Zh (HK1.out.trans hk2);have c0:=hk2 _ _ c0;have e1:=hk2 _ _ e1;have e2:=hk2 _ _ e2;clear hh2 hsub hall hu2 hk2)
    | (go_at_call 297;refine (HT.out _ K1 L K3 _ _ fl HH2.out HL2.out.2 (by have h1:=Zqf HNd.out HL2.out.1;have h2:=HLe.out;omega) (ZnG HF.out HK2.out) HFl.out HTys.out).mono ?_;rintro e w3 ⟨rfl,L3,hh3,hsub3,hall3,hu3,hk3⟩;have HE:=Zh (And.intro hh3 (And.intro (show ∀ k∈K2,k∈L3 from fun k hk=>hsub3 k (HL2.out.1 k (by simp [hk]))) (And.intro hall3 (And.intro (HU2.out.trans hu3) (HK2.out.trans hk3)))));clear hh3 hsub3 hall3 hu3 hk3))
   exact bodyPost_ret (v:=.tuple #[]) (by simp [results,Tryz.results298,go_sem]) rfl ⟨rfl,L3,HE.out⟩
  ·go_wp2_with (go_at_call 297;refine (HT.out _ K1 (n :: K2) K3 _ _ fl HH1.out HAll.out HLe.out (ZnG HF.out HK1.out) HFl.out HTys.out).mono ?_;rintro e w3 ⟨rfl,L3,hh3,hsub3,hall3,hu3,hk3⟩;have HE:=Zh (And.intro hh3 (And.intro (show ∀ k∈K2,k∈L3 from fun k hk=>hsub3 k (by simp [hk])) (And.intro hall3 (And.intro (HU1.out.trans hu3) (HK1.out.trans hk3)))));clear hh3 hsub3 hall3 hu3 hk3)
   exact bodyPost_ret (v:=.tuple #[]) (by simp [results,Tryz.results298,go_sem]) rfl ⟨rfl,L3,HE.out⟩
theorem Zqh (hc:Zqd B M1 M2 M3 h m u):Zqe B M1 M2 M3 h m u:=by
 intro w K1 K2 K3 lo lc l H hK hu hr hl hty
 have HH:=Zh H
 have HK:=Zh hK
 have HR:=Zh hr
 have HTy:=Zh hty
 have HC:=Zh hc
 have HNd:=Zh H.s2.1
 clear H hK hr hty hc
 go_enter Tryz.func297,Tryz.ntmps297
 go_wp2
 go_loopw [8] (fun i wr=>∃ (j:Nat) (L:List Nat),j≤l.length∧i=.int .i64 j∧Hid (Zqc wr B M1 M2 M3 h m K1 L K3)∧Hid ((∀ k∈K2,k∈L)∧∀ k∈L,k<m.cl.length)∧Hid (Ups [M1,M2,M3] w wr)∧Hid (ZnF w wr)) (fun i _=>l.length-(intOf i).toNat)
 case atStart=>exact ⟨0,K2,Nat.zero_le _,rfl,HH.out,⟨fun _ h=>h,HK.out⟩,Ups.refl _ _,ZnF.refl _⟩
 case round=>
  obtain ⟨j,L,hj,rfl,HHr,HL,HU,HKe⟩:=hrel
  rename World=>wo
  by_cases hjl:j<l.length
  ·have hjl2:(j:Int) < l.length:=by omega
   have hwj:IntKind.i64.wrap ((j:Int)+1)=((j+1:Nat):Int):=IntWalk.i64_in _ (by omega)
   obtain ⟨ad,rfl,t0,t1⟩:=Zaz (ZnG HR.out HKe.out) hjl
   have ht:=HTy.out (l.getD j default) (ZfU _ hjl)
   obtain ⟨t,htt⟩:∃ t,t=l.getD j default:=⟨_,rfl⟩
   rw [←htt] at t0 t1 ht
   obtain ⟨tk,tc⟩:=t
   dsimp only at t0 t1 ht
   have HLe:=Zh (show m.cl.length-L.length≤u by have:=Zqf HNd.out HL.out.1;omega)
   clear htt
   have hl0:=Zac t0
   by_cases hk:tk=2∨tk=4
   ·obtain ⟨h0,h1⟩:=ht hk
    obtain ⟨d,rfl⟩:∃ d:Nat,tc=d:=⟨tc.toNat,by omega⟩
    have hdl:d<m.cl.length:=by omega
    have hb:Below wo.heap.size wo (wo.alloc (.cells #[.int .i64 tk,.int .i64 d] 76)):=by exact bE
    have HB:=Zh hb
    have hk2:tk=2∨(¬ tk=2∧tk=4):=by omega
    clear hb ht hk
    rcases hk2 with rfl|⟨hk3,rfl⟩
    all_goals
     go_wp2_with (go_at_call 298;refine (HC.out _ K1 L K3 d (HHr.out.old HB.out) HL.out.2 HLe.out hdl).mono ?_;rintro e w2 ⟨rfl,L2,hh2,hsub,hall,hu2,hk2⟩;have HE:=Zh (And.intro hh2 (And.intro hsub (And.intro hall (And.intro hu2 hk2))));clear hh2 hsub hall hu2 hk2)
     exact ⟨⟨j+1,L2,hjl,rfl,HE.out.1,⟨fun k hk=>HE.out.2.1 k (HL.out.1 k hk),HE.out.2.2.1⟩,HU.out.trans ((Ups.of HB.out).trans HE.out.2.2.2.1),HKe.out.trans ((ZnF.of HB.out).trans HE.out.2.2.2.2)⟩,by simp [intOf];omega⟩
   ·have hk2:¬ tk=2:=fun q=>hk (.inl q)
    have hk4:¬ tk=4:=fun q=>hk (.inr q)
    have hkb:(tk == 2)=false:=by simpa using hk2
    have hkd:(tk == 4)=false:=by simpa using hk4
    clear hk ht
    go_wp2_with fail
    all_goals exact ⟨⟨j+1,L,hjl,rfl,HHr.out.old bE,HL.out,HU.out.trans (Ups.of bE),HKe.out.trans (ZnF.of bE)⟩,by simp [intOf];omega⟩
  ·have hjl2:¬ (j:Int) < l.length:=by omega
   go_wp2
   exact bodyPost_ret (v:=.tuple #[]) (by simp [results,Tryz.results297,go_sem]) rfl ⟨rfl,L,HHr.out,HL.out.1,HL.out.2,HU.out,HKe.out⟩
theorem Zqi (hv:Za1 m=true):∀ u,Zqd B M1 M2 M3 h m u∧Zqe B M1 M2 M3 h m u:=by
 intro u
 induction u using Nat.strongRecOn with
 |ind u ih=>
  have hc:=Zqg (B:=B) (M1:=M1) (M2:=M2) (M3:=M3) (h:=h) hv ih
  exact ⟨hc,Zqh hc⟩
end
end
section
open Go.RowKit
theorem Zqj (m:Md) (h:Hd) (w:World) (H:Zay w h m):Calls Tryz.prog 148 #[.agg #[.slice h.co m.cl.length h.cc,.slice h.so m.st.length h.sc,.slice h.eo m.me.length h.ec,.int .i64 m.sel]] w (Ret w (.int .i64 (if (Zmg m).2.2=0 then 0 else 1))):=by
 have HC:=Zh (fun w' hb=>Zjj m h w' (H.old (w':=w') hb))
 have HV:=Zh (fun w' hb=>Zmk w' h m (H.old (w':=w') hb))
 have hmv:Za1 m=false→(Zmg m).2.2=1:=fun q=>by unfold Zmg;rw [if_neg (by rw [q];decide)]
 obtain ⟨q,hq⟩:∃ q:Int,q=if (Zmg m).2.2=0 then 0 else 1:=⟨_,rfl⟩
 rw [←hq]
 obtain ⟨⟨z0,z1,z2⟩,hz⟩:∃ z,z=Zmg m:=⟨_,rfl⟩
 rw [←hz] at HV hq hmv
 dsimp only at hq hmv
 have HQ:=Zh hq
 have HB0:=Zh (show Below w.heap.size w (w.alloc (.cells #[.slice h.co m.cl.length h.cc,.slice h.so m.st.length h.sc,.slice h.eo m.me.length h.ec,.int .i64 m.sel] 26)) by exact bE)
 have HX0:=Zh (Blk.new w #[.slice h.co m.cl.length h.cc,.slice h.so m.st.length h.sc,.slice h.eo m.me.length h.ec,.int .i64 m.sel] 26)
 rcases hm:Za1 m with _|_
 ·have e1:q=1:=by rw [hq,hmv hm];rfl
  have HE:=Zh e1
  rw [hm] at HC
  clear H hz hq hm hmv e1
  go_enter Tryz.func148,Tryz.ntmps148
  go_wp2_with (go_at_call 60;refine (HC.out _ HB0.out).mono ?_;rintro e w1 ⟨rfl,hb1⟩)
  go_ret
  exact ZcT (ZcY HE.out.symm) (Zaf HB0.out hb1)
 ·rw [hm] at HC
  clear H hz hq hm hmv
  go_enter Tryz.func148,Tryz.ntmps148
  go_wp2_with (first
   | (go_at_call 60;refine (HC.out _ HB0.out).mono ?_;rintro e w1 ⟨rfl,hb1⟩;have HB1:=Zh (Zaf HB0.out hb1);have HX1:=Zh (HX0.out.old hb1);have x0:=HX1.out.cell 0 (v:=.slice h.co m.cl.length h.cc) rfl;have x1:=HX1.out.cell 1 (v:=.slice h.so m.st.length h.sc) rfl;have x2:=HX1.out.cell 2 (v:=.slice h.eo m.me.length h.ec) rfl;have x3:=HX1.out.cell 3 (v:=.int .i64 m.sel) rfl;clear hb1)
   | (go_at_call 135;refine (HV.out _ HB1.out).mono ?_;rintro e w2 ⟨rfl,hb2⟩;have HB2:=Zh (Zaf HB1.out hb2);clear hb2))
  all_goals
   go_ret
   refine ZcT (ZcY ?_) HB2.out
   rw [HQ.out]
   grind
theorem Zqk (m:Md) (h:Hd) (k:Int) (w:World) (H:Zay w h m):Calls Tryz.prog 87 #[.agg #[.slice h.co m.cl.length h.cc,.slice h.so m.st.length h.sc,.slice h.eo m.me.length h.ec,.int .i64 m.sel],.int .i64 k] w (Ret w (.int .i64 (if ZoY m k=true then 0 else 1))):=by
 have HF:=Zh (fun w' hb=>Zqj m h w' (H.old (w':=w') hb))
 obtain ⟨q,hq⟩:∃ q:Int,q=if ZoY m k=true then 0 else 1:=⟨_,rfl⟩
 rw [←hq]
 obtain ⟨z,hz⟩:∃ z:Int,z=if (Zmg m).2.2=0 then 0 else 1:=⟨_,rfl⟩
 have hq2:q=if z=0∧0≤k∧k<m.me.length then 0 else 1:=by
  rw [hq,hz]
  unfold ZoY inV
  by_cases h1:(Zmg m).2.2=0
  ·simp [h1]
  ·simp [h1]
 rw [←hz] at HF
 have HZ:=Zh (show z=0∨z=1 by rw [hz];split<;>simp)
 have HQ:=Zh hq2
 have HB0:=Zh (show Below w.heap.size w (w.alloc (.cells #[.slice h.co m.cl.length h.cc,.slice h.so m.st.length h.sc,.slice h.eo m.me.length h.ec,.int .i64 m.sel] 26)) by exact bE)
 have HX0:=Zh (Blk.new w #[.slice h.co m.cl.length h.cc,.slice h.so m.st.length h.sc,.slice h.eo m.me.length h.ec,.int .i64 m.sel] 26)
 clear H hq hz hq2
 go_enter Tryz.func87,Tryz.ntmps87
 go_wp2_with (go_at_call 148;refine (HF.out _ HB0.out).mono ?_;rintro e w1 ⟨rfl,hb1⟩;have x2:=(HX0.out.old hb1).cell 2 (v:=.slice h.eo m.me.length h.ec) rfl;have HB1:=Zh (Zaf HB0.out hb1);clear hb1)
 all_goals
  go_ret
  refine ZcT (ZcY ?_) HB1.out
  have:=HZ.out
  rw [HQ.out]
  grind
end
section
open Go.RowKit
def hvA (m:Md):Nat→Int
 | 0=>(m.cl.length:Int)+m.st.length+m.me.length
 | k+1=>if 400<hvA m k then hvA m k else IntKind.i64.wrap (IntKind.i64.wrap (hvA m k+(m.cl.getD k default).f.length)+(m.cl.getD k default).m.length)
theorem Zql {m:Md}{k:Nat} (h:400<hvA m k):∀ j,hvA m (k+j)=hvA m k
 | 0=>rfl
 |j+1=>by
  show (if 400<hvA m (k+j) then hvA m (k+j) else _)=_
  rw [Zql h j,if_pos h]
def hvB (m:Md):Nat→Int
 | 0=>hvA m m.cl.length
 | k+1=>if 3000<hvB m k then hvB m k else IntKind.i64.wrap (IntKind.i64.wrap (IntKind.i64.wrap (hvB m k+(m.me.getD k default).k.length)+(m.me.getD k default).p.length)+(m.me.getD k default).l.length)
theorem Zqm {m:Md}{k:Nat} (h:3000<hvB m k):∀ j,hvB m (k+j)=hvB m k
 | 0=>rfl
 |j+1=>by
  show (if 3000<hvB m (k+j) then hvB m (k+j) else _)=_
  rw [Zqm h j,if_pos h]
def Zqn (m:Md):Bool:=decide (3000<hvB m m.me.length)
theorem Zqo (m:Md) (h:Hd) (w:World) (H:Zay w h m):Calls Tryz.prog 44 #[.agg #[.slice h.co m.cl.length h.cc,.slice h.so m.st.length h.sc,.slice h.eo m.me.length h.ec,.int .i64 m.sel]] w (Ret w (.bool (Zqn m))):=by
  obtain ⟨w0,hw0⟩:∃ w0,w0=w.alloc (.cells #[.slice h.co m.cl.length h.cc,.slice h.so m.st.length h.sc,.slice h.eo m.me.length h.ec,.int .i64 m.sel] 26):=⟨_,rfl⟩
  have HB:=Zh (show Below w.heap.size w w0 by rw [hw0];exact bE)
  have HX:=Zh (show Blk w0 w.heap.size #[.slice h.co m.cl.length h.cc,.slice h.so m.st.length h.sc,.slice h.eo m.me.length h.ec,.int .i64 m.sel] 26 by rw [hw0];exact Blk.new _ _ _)
  have HM:=Zh (H.old HB.out)
  have HW:=Zh hw0
  have hbz:=H.bz
  obtain ⟨z1,z2,z3⟩:=hbz
  clear hw0 H
  go_enter Tryz.func44,Tryz.ntmps44
  go_upto_region 1 with fail
  rw [←HW.out]
  have x0:=HX.out.cell 0 (v:=.slice h.co m.cl.length h.cc) rfl
  have x1:=HX.out.cell 1 (v:=.slice h.so m.st.length h.sc) rfl
  have x2:=HX.out.cell 2 (v:=.slice h.eo m.me.length h.ec) rfl
  go_upto_region 2 with fail
  clear x0 x1 x2
  go_wp2
  go_loopw [3,4] (fun s i wr=>∃ (k:Nat) (n:Int),k≤m.cl.length∧i=.int .i64 k∧s=.int .i64 n∧Hid (n=hvA m k)∧Hid (Below w0.heap.size w0 wr)) (fun _ i _=>m.cl.length-(intOf i).toNat)
  case atStart=>exact ⟨0,_,Nat.zero_le _,rfl,rfl,(show _=hvA m 0 from rfl),by exact bE⟩
  case round=>
    obtain ⟨k,n,hk,rfl,rfl,HN,HBr⟩:=hrel
    rename World=>wo
    have x0:=(HX.out.old HBr.out).cell 0 (v:=.slice h.co m.cl.length h.cc) rfl
    by_cases hc:k<m.cl.length∧n≤400
    · obtain ⟨hkl,hn⟩:=hc
      have hkl2:(k:Int) < m.cl.length:=by omega
      have hwk:IntKind.i64.wrap ((k:Int)+1)=((k+1:Nat):Int):=IntWalk.i64_in _ (by omega)
      obtain ⟨ad,had,-,-,e2,e3⟩:=(HM.out.old HBr.out).cls hkl
      rw [had] at x0
      clear had
      go_upto_region 5 with fail
      refine rO (Cs [(⟨w.heap.size,0,none⟩,.slice (some ad) m.cl.length h.cc),(⟨(ad.add (k*4)).block,(ad.add (k*4)).off+2,none⟩,.slice (h.c k).fo (m.cl.getD k default).f.length (h.c k).fc),(⟨(ad.add (k*4)).block,(ad.add (k*4)).off+3,none⟩,.slice (h.c k).mo (m.cl.getD k default).m.length (h.c k).mc)]) (oL [0,1,2,3,4,5,6,7,8,9,10,11,12,13,14,15,16,17]) ⟨x0,e2,e3,trivial⟩ ?_
      clear x0 e2 e3
      repeat refine pO ?_
      refine Zd5 ?_
      go_wp2
      have hn2:¬ 400<hvA m k:=by rw [←HN.out];omega
      exact ⟨⟨k+1,_,hkl,rfl,rfl,(by show _=hvA m (k+1);rw [show hvA m (k+1)=IntKind.i64.wrap (IntKind.i64.wrap (hvA m k+((m.cl.getD k default).f.length:Int))+(m.cl.getD k default).m.length) from if_neg hn2,HN.out];simp [List.getD_eq_getElem?_getD,hkl]),HBr.out.drew⟩,by simp [intOf];omega⟩
    · by_cases hkl:k<m.cl.length
      all_goals first
        | (have hkl2:(k:Int) < m.cl.length:=by omega
           have hn:¬ n≤400:=fun q=>hc ⟨hkl,q⟩
           have hn2:400<n:=by omega
           have HE:=Zh (show n=hvB m 0 by
             have h:=Zql (m:=m) (k:=k) (by rw [←HN.out];exact hn2) (m.cl.length-k)
             rw [show k+(m.cl.length-k)=m.cl.length by omega] at h
             rw [HN.out];exact h.symm)
           clear hc
           go_wp2)
        | (have hkl2:¬ (k:Int) < m.cl.length:=by omega
           have HE:=Zh (show n=hvB m 0 by rw [HN.out,show k=m.cl.length by omega];rfl)
           clear hc
           go_wp2)
      all_goals
        clear x0
        go_loopw [3,5] (fun s i wr=>∃ (k:Nat) (n:Int),k≤m.me.length∧i=.int .i64 k∧s=.int .i64 n∧Hid (n=hvB m k)∧Hid (Below w0.heap.size w0 wr)) (fun _ i _=>m.me.length-(intOf i).toNat)
        case atStart=>exact ⟨0,_,Nat.zero_le _,rfl,rfl,HE.out,HBr.out⟩
        case round=>
          obtain ⟨q,p,hq,rfl,rfl,HP,HBs⟩:=hrel
          rename World=>wi
          have x2:=(HX.out.old HBs.out).cell 2 (v:=.slice h.eo m.me.length h.ec) rfl
          by_cases hc:q<m.me.length∧p≤3000
          · obtain ⟨hql,hp⟩:=hc
            have hql2:(q:Int) < m.me.length:=by omega
            have hwq:IntKind.i64.wrap ((q:Int)+1)=((q+1:Nat):Int):=IntWalk.i64_in _ (by omega)
            obtain ⟨ad,had,-,-,e2,e3,-,-,e6⟩:=(HM.out.old HBs.out).mth hql
            rw [had] at x2
            clear had
            go_upto_region 9 with fail
            refine rO (Cs [(⟨w.heap.size,2,none⟩,.slice (some ad) m.me.length h.ec),(⟨(ad.add (q*7)).block,(ad.add (q*7)).off+2,none⟩,.slice (h.e q).po (m.me.getD q default).p.length (h.e q).pc),(⟨(ad.add (q*7)).block,(ad.add (q*7)).off+3,none⟩,.slice (h.e q).lo (m.me.getD q default).l.length (h.e q).lc),(⟨(ad.add (q*7)).block,(ad.add (q*7)).off+6,none⟩,.slice (h.e q).ko (m.me.getD q default).k.length (h.e q).kc)]) (oL [0,1,2,3,4,5,6,7,8,9,10,11,12,13,14,15,16,17,18,19,20,21,22,23,24,25]) ⟨x2,e2,e3,e6,trivial⟩ ?_
            clear x2 e2 e3 e6
            repeat refine pO ?_
            refine Zd5 ?_
            go_wp2
            have hp2:¬ 3000<hvB m q:=by rw [←HP.out];omega
            exact ⟨⟨q+1,_,hql,rfl,rfl,(by show _=hvB m (q+1);rw [show hvB m (q+1)=IntKind.i64.wrap (IntKind.i64.wrap (IntKind.i64.wrap (hvB m q+((m.me.getD q default).k.length:Int))+(m.me.getD q default).p.length)+(m.me.getD q default).l.length) from if_neg hp2,HP.out];simp [List.getD_eq_getElem?_getD,hql]),HBs.out.drew⟩,by simp [intOf];omega⟩
          · by_cases hql:q<m.me.length
            all_goals first
              | (have hql2:(q:Int) < m.me.length:=by omega
                 have hp:¬ p≤3000:=fun q=>hc ⟨hql,q⟩
                 have HF:=Zh (show p=hvB m m.me.length by
                   have h:=Zqm (m:=m) (k:=q) (by rw [←HP.out];omega) (m.me.length-q)
                   rw [show q+(m.me.length-q)=m.me.length by omega] at h
                   rw [HP.out];exact h.symm)
                 clear hc
                 go_wp2)
              | (have hql2:¬ (q:Int) < m.me.length:=by omega
                 have HF:=Zh (show p=hvB m m.me.length by rw [HP.out,show q=m.me.length by omega])
                 clear hc
                 go_wp2)
            all_goals
              go_ret
              exact ZcT (ZcX (by unfold Zqn;rw [←HF.out];try first|rfl|exact (decide_eq_true (by omega)).symm|exact (decide_eq_false (by omega)).symm)) (Zaf HB.out HBs.out)
theorem Zqp (m:Md) (h:Hd) (k:Int) (w:World) (H:Zay w h m):Calls Tryz.prog 55 #[.agg #[.slice h.co m.cl.length h.cc,.slice h.so m.st.length h.sc,.slice h.eo m.me.length h.ec,.int .i64 m.sel],.int .i64 k] w (Ret w (.bool (!Zqn m&&ZoY m k))):=by
 obtain ⟨w0,hw0⟩:∃ w0,w0=w.alloc (.cells #[.slice h.co m.cl.length h.cc,.slice h.so m.st.length h.sc,.slice h.eo m.me.length h.ec,.int .i64 m.sel] 26):=⟨_,rfl⟩
 have HB:=Zh (show Below w.heap.size w w0 by rw [hw0];exact bE)
 have HX:=Zh (show Blk w0 w.heap.size #[.slice h.co m.cl.length h.cc,.slice h.so m.st.length h.sc,.slice h.eo m.me.length h.ec,.int .i64 m.sel] 26 by rw [hw0];exact Blk.new _ _ _)
 have HM:=Zh (H.old HB.out)
 have HW:=Zh hw0
 obtain ⟨z,hz⟩:∃ z:Int,z=if ZoY m k=true then 0 else 1:=⟨_,rfl⟩
 have HR:=Zh (fun w' hb=>Zqk m h k w' (HM.out.old (w':=w') hb))
 rw [←hz] at HR
 have HHv:=Zh (Zqo m h w0 HM.out)
 obtain ⟨bv,hbv⟩:∃ b,b=Zqn m:=⟨_,rfl⟩
 rw [←hbv] at HHv ⊢
 obtain ⟨br,hbr⟩:∃ b,b=ZoY m k:=⟨_,rfl⟩
 rw [←hbr]
 have HZ:=Zh (show z=if br=true then 0 else 1 by rw [hz,hbr])
 clear hw0 H hz hbv hbr
 cases bv
 all_goals
  go_enter Tryz.func55,Tryz.ntmps55
  go_upto_region 1 with fail
  rw [←HW.out]
  have x0:=HX.out.cell 0 (v:=.slice h.co m.cl.length h.cc) rfl
  have x1:=HX.out.cell 1 (v:=.slice h.so m.st.length h.sc) rfl
  have x2:=HX.out.cell 2 (v:=.slice h.eo m.me.length h.ec) rfl
  have x3:=HX.out.cell 3 (v:=.int .i64 m.sel) rfl
  go_wp2_with (first
   | (go_at_call 44;refine HHv.out.mono ?_;rintro e w1 ⟨rfl,hb1⟩;have HB1:=Zh hb1;clear hb1 x0 x1 x2 x3;have x0:=(HX.out.old HB1.out).cell 0 (v:=.slice h.co m.cl.length h.cc) rfl;have x1:=(HX.out.old HB1.out).cell 1 (v:=.slice h.so m.st.length h.sc) rfl;have x2:=(HX.out.old HB1.out).cell 2 (v:=.slice h.eo m.me.length h.ec) rfl;have x3:=(HX.out.old HB1.out).cell 3 (v:=.int .i64 m.sel) rfl)
   | (go_at_call 87;refine (HR.out _ HB1.out).mono ?_;rintro e w2 ⟨rfl,hb2⟩;have HB2:=Zh (Zaf HB1.out hb2);clear hb2))
  all_goals
   go_ret
   first
    | exact ZcT rfl (Zaf HB.out HB1.out)
    | (refine ZcT (ZcX ?_) (Zaf HB.out HB2.out);have hz:=HZ.out;cases br<;>simp_all)
end
section
open Go.RowKit
attribute [local go_sem] World.cell?_alloc_some
def Zqq (n:Int) (arr:Bool):Int × Int × Int:=if 1+n≤2 then (1,0,0) else if 1+n≤4 then (0,1,0) else if arr=false∨n≤7 then (0,0,1) else (0,0,1+(n+7) / 8)
def ag3 (t:Int × Int × Int):Value:=.agg #[.int .i64 t.1,.int .i64 t.2.1,.int .i64 t.2.2]
theorem Zqr {w w1:World}{B:Nat}{a b c:Int} (h:Blk w1 B #[.int .i64 0,.int .i64 0,.int .i64 0] 66) (hb:Below w.heap.size w w1) (hB:w.heap.size≤B):Blk (((w1.setCell ⟨B,0,none⟩ (.int .i64 a)).setCell ⟨B,1,none⟩ (.int .i64 b)).setCell ⟨B,2,none⟩ (.int .i64 c)) B #[.int .i64 a,.int .i64 b,.int .i64 c] 66∧Below w.heap.size w (((w1.setCell ⟨B,0,none⟩ (.int .i64 a)).setCell ⟨B,1,none⟩ (.int .i64 b)).setCell ⟨B,2,none⟩ (.int .i64 c)):=
 ⟨((h.set 0 _).set 1 _).set 2 _,ZcW (j:=2) (ZcW (j:=1) (ZcW (j:=0) hb hB _) hB _) hB _⟩
theorem Zqs (n:Int) (arr:Bool) (w:World) (h0:0≤n) (h1:n≤100000):Calls Tryz.prog 237 #[.int .i64 n,.bool arr] w (Ret w (ag3 (Zqq n arr))):=by
 have hX:=Blk.new w #[.int .i64 0,.int .i64 0,.int .i64 0] 66
 have HE:=Zh (fun a b c=>Zqr (w:=w) (a:=a) (b:=b) (c:=c) hX bE (Nat.le_refl _))
 have HV:=Zh (show Zqq n arr=Zqq n arr from rfl)
 obtain ⟨v,hv⟩:∃ v,v=Zqq n arr:=⟨_,rfl⟩
 rw [←hv]
 have HVv:=Zh hv
 have hw1:IntKind.i64.wrap (1+n)=1+n:=IntWalk.i64_in _ (by omega)
 have hw2:IntKind.i64.wrap (n+7)=n+7:=IntWalk.i64_in _ (by omega)
 clear hX hv
 go_enter Tryz.func237,Tryz.ntmps237
 go_wp2
 all_goals
  refine bodyPost_ret (v:=ag3 v) (by rw [HVv.out];unfold Zqq;simp [results,Tryz.results237,go_sem,ag3];grind) rfl ⟨rfl,by exact bE⟩
def szV (m:Md) (i:In3):Int × Int × Int:=if i.op=14 then Zqq (m.cl.getD i.a.toNat default).f.length false else if i.op=15∨i.op=16 then Zqq i.a true else (0,0,0)
def Zqt (m:Md) (i:In3):Prop:=(i.op=14→0≤i.a∧i.a<m.cl.length∧(m.cl.getD i.a.toNat default).f.length≤100000)∧(i.op=15∨i.op=16→0≤i.a∧i.a≤1000)
theorem Zqu (m:Md) (h:Hd) (i:In3) (w:World) (H:Zay w h m) (hi:Zqt m i):Calls Tryz.prog 173 #[.agg #[.slice h.co m.cl.length h.cc,.slice h.so m.st.length h.sc,.slice h.eo m.me.length h.ec,.int .i64 m.sel],.agg #[.int .i64 i.op,.int .i64 i.a,.int .i64 i.b]] w (Ret w (ag3 (szV m i))):=by
 obtain ⟨op,ia,ib⟩:=i
 obtain ⟨h14,h15⟩:=hi
 dsimp only at h14 h15 ⊢
 obtain ⟨w1,hw1⟩:∃ w1,w1=((w.alloc (.cells #[.slice h.co m.cl.length h.cc,.slice h.so m.st.length h.sc,.slice h.eo m.me.length h.ec,.int .i64 m.sel] 26)).alloc (.cells #[.int .i64 op,.int .i64 ia,.int .i64 ib] 78)).alloc (.cells #[.int .i64 0,.int .i64 0,.int .i64 0] 66):=⟨_,rfl⟩
 have hb:Below w.heap.size w w1:=by rw [hw1];exact bE
 have hX:Blk w1 w.heap.size #[.slice h.co m.cl.length h.cc,.slice h.so m.st.length h.sc,.slice h.eo m.me.length h.ec,.int .i64 m.sel] 26:=by rw [hw1];exact ((Blk.new _ _ _).alloc _).alloc _
 have hI:Blk w1 (w.heap.size+1) #[.int .i64 op,.int .i64 ia,.int .i64 ib] 78:=by rw [hw1];exact (Blk.new' (w:=w.alloc (.cells #[.slice h.co m.cl.length h.cc,.slice h.so m.st.length h.sc,.slice h.eo m.me.length h.ec,.int .i64 m.sel] 26)) _ _ (by simp)).alloc _
 have hR:Blk w1 (w.heap.size+2) #[.int .i64 0,.int .i64 0,.int .i64 0] 66:=by rw [hw1];exact Blk.new' (w:=(w.alloc (.cells #[.slice h.co m.cl.length h.cc,.slice h.so m.st.length h.sc,.slice h.eo m.me.length h.ec,.int .i64 m.sel] 26)).alloc (.cells #[.int .i64 op,.int .i64 ia,.int .i64 ib] 78)) _ _ (by simp)
 have HB:=Zh hb
 have HX:=Zh hX
 have HI:=Zh hI
 have HR:=Zh hR
 have HM:=Zh (H.old hb)
 have HW:=Zh hw1
 obtain ⟨v,hv⟩:∃ v,v=szV m ⟨op,ia,ib⟩:=⟨_,rfl⟩
 rw [←hv]
 clear hw1 hb hX hI hR H
 have i0:=HI.out.cell 0 (v:=.int .i64 op) rfl
 have i1:=HI.out.cell 1 (v:=.int .i64 ia) rfl
 by_cases q14:op=14
 ·subst q14
  obtain ⟨h0,h1,h2⟩:=h14 rfl
  obtain ⟨a,rfl⟩:∃ d:Nat,ia=d:=⟨ia.toNat,by omega⟩
  have hal:a<m.cl.length:=by omega
  obtain ⟨ad,hco,-,-,e2,-⟩:=HM.out.cls hal
  have x0:=HX.out.cell 0 (v:=.slice h.co m.cl.length h.cc) rfl
  rw [hco] at x0 HW ⊢
  have hv2:v=Zqq (m.cl.getD a default).f.length false:=by rw [hv];unfold szV;rw [if_pos rfl];rfl
  rw [Int.toNat_natCast] at h2
  generalize (m.cl.getD a default).f.length=n at e2 hv2 h2
  have HBk:=Zh (fun w'=>Zqs n false w' (by omega) (by omega))
  rw [←hv2] at HBk
  clear hv hv2 h14 h15 hco
  go_enter Tryz.func173,Tryz.ntmps173
  go_upto_region 1 with fail
  rw [←HW.out]
  go_wp2_with (go_at_call 237;refine (HBk.out _).mono ?_;rintro e w2 ⟨rfl,hb2⟩;have HB2:=Zh (Zaf HB.out hb2);have HR2:=HR.out.old hb2;obtain ⟨v0,v1,v2⟩:=v;have hr0:=HR2.cell 0 (v:=.int .i64 0) rfl;have hr1:=HR2.cell 1 (v:=.int .i64 0) rfl;have hr2:=HR2.cell 2 (v:=.int .i64 0) rfl;have hf0:=HR2.frozen 0;have hf1:=HR2.frozen 1;have hf2:=HR2.frozen 2;have hl:=HR2.lt;have HR3:=Zh HR2;unfold ag3)
  have hE:=Zqr (w:=w) (a:=v0) (b:=v1) (c:=v2) HR3.out HB2.out (by omega)
  have y0:=hE.1.cell 0 (v:=.int .i64 v0) rfl
  have y1:=hE.1.cell 1 (v:=.int .i64 v1) rfl
  have y2:=hE.1.cell 2 (v:=.int .i64 v2) rfl
  exact bodyPost_ret (v:=ag3 (v0,v1,v2)) (by simp [results,Tryz.results173,go_sem,y0,y1,y2,ag3]) rfl ⟨rfl,hE.2⟩
 ·by_cases q15:op=15∨op=16
  ·obtain ⟨h0,h1⟩:=h15 q15
   have hv2:v=Zqq ia true:=by rw [hv];unfold szV;rw [if_neg q14,if_pos q15]
   have HBk:=Zh (fun w'=>Zqs ia true w' h0 (by omega))
   rw [←hv2] at HBk
   clear hv hv2 h14 h15
   have q2:op=15∨(op=16∧¬ op=15):=by omega
   rcases q2 with q|⟨q,q3⟩
   all_goals
    subst q
    go_enter Tryz.func173,Tryz.ntmps173
    go_upto_region 1 with fail
    rw [←HW.out]
    go_wp2_with (go_at_call 237;refine (HBk.out _).mono ?_;rintro e w2 ⟨rfl,hb2⟩;have HB2:=Zh (Zaf HB.out hb2);have HR2:=HR.out.old hb2;obtain ⟨v0,v1,v2⟩:=v;have hr0:=HR2.cell 0 (v:=.int .i64 0) rfl;have hr1:=HR2.cell 1 (v:=.int .i64 0) rfl;have hr2:=HR2.cell 2 (v:=.int .i64 0) rfl;have hf0:=HR2.frozen 0;have hf1:=HR2.frozen 1;have hf2:=HR2.frozen 2;have hl:=HR2.lt;have HR3:=Zh HR2;unfold ag3)
    have hE:=Zqr (w:=w) (a:=v0) (b:=v1) (c:=v2) HR3.out HB2.out (by omega)
    have y0:=hE.1.cell 0 (v:=.int .i64 v0) rfl
    have y1:=hE.1.cell 1 (v:=.int .i64 v1) rfl
    have y2:=hE.1.cell 2 (v:=.int .i64 v2) rfl
    exact bodyPost_ret (v:=ag3 (v0,v1,v2)) (by simp [results,Tryz.results173,go_sem,y0,y1,y2,ag3]) rfl ⟨rfl,hE.2⟩
  ·have hv2:v=(0,0,0):=by rw [hv];unfold szV;rw [if_neg q14,if_neg q15]
   subst hv2
   have q15a:¬ op=15:=fun q=>q15 (.inl q)
   have q16:¬ op=16:=fun q=>q15 (.inr q)
   have hr0:=HR.out.cell 0 (v:=.int .i64 0) rfl
   have hr1:=HR.out.cell 1 (v:=.int .i64 0) rfl
   have hr2:=HR.out.cell 2 (v:=.int .i64 0) rfl
   have hf0:=HR.out.frozen 0
   have hf1:=HR.out.frozen 1
   have hf2:=HR.out.frozen 2
   have hl:=HR.out.lt
   clear hv h14 h15
   go_enter Tryz.func173,Tryz.ntmps173
   go_upto_region 1 with fail
   rw [←HW.out]
   go_wp2
   all_goals
    have hE:=Zqr (w:=w) (a:=0) (b:=0) (c:=0) HR.out HB.out (by omega)
    have y0:=hE.1.cell 0 (v:=.int .i64 0) rfl
    have y1:=hE.1.cell 1 (v:=.int .i64 0) rfl
    have y2:=hE.1.cell 2 (v:=.int .i64 0) rfl
    exact bodyPost_ret (v:=ag3 (0,0,0)) (by simp [results,Tryz.results173,go_sem,y0,y1,y2,ag3]) rfl ⟨rfl,hE.2⟩
end
section
open Go.RowKit
attribute [local go_sem] World.cell?_alloc_some
def Zqv (w:World) (M r:Nat) (K ds:List Nat):Prop:=∃ (D:DataW Unit) (left:Lit→Bool) (cnt:Nat),w.ranges Tryz.prog 3 (plainElem Tryz.prog 4) M r K.length D left cnt∧(∀ kl,left kl=true→∃ k:Nat,k∈K∧kl=.int .i64 k∧k ∉ ds)∧(∀ k:Nat,k∈K→k ∉ ds→left (.int .i64 k)=true)∧ds.Nodup∧∀ k∈ds,k∈K
theorem Zqv.kept {w w':World}{M r:Nat}{K ds:List Nat} (H:Zqv w M r K ds) (hb:Below w.heap.size w w'):Zqv w' M r K ds:=by
 obtain ⟨D,left,cnt,h,h1⟩:=H
 refine ⟨D,left,cnt,?_,h1⟩
 have hM:M<w.heap.size:=by
  obtain ⟨es,c,h0,_⟩:=h.owns
  exact Classical.byContradiction fun e=>by rw [Array.getElem?_eq_none (by omega)] at h0;cases h0
 exact h.kept (row:=none) ⟨hb.os,hb.tape,hb.output,hb.size,fun i hi _=>hb.block i hi⟩ (by simp) (by simp)
section
variable {w:World}{ops:Array Oper}{rest:List Oper}{o:Oper}{a:Act}{Q:Exit→Act→World→Prop}(hg:o.guard=none)
include w ops rest o a Q hg
theorem Zqw (m:Operand) (hop:o.op=Op.range 152 m) {M:Nat} {K:List Nat} (hm:a.eval m=.map (some M)) (H:Zp4 w M K) (hK:∀ w',Zqv w' M w.heap.size K []→Below w.heap.size w w'→w'.heap.size=w.heap.size+1→wpList Tryz.prog ops Q rest (a.put o.dst (.pointer (some ⟨w.heap.size,0,none⟩))) w'):wpList Tryz.prog ops Q (o :: rest) a w:=by
 obtain ⟨h1,h2,D,h3,h4,h5,h6,h7⟩:=H
 refine wpList_range_own w hg m 152 hop 3 4 Zn1 Tryz.underlying152 _ M K.length D hm h3 fun w' hr hg' hs=>hK w' ?_ ⟨hg'.os,hg'.tape,hg'.output,hg'.size,fun i hi=>hg'.block i hi (by simp)⟩ hs
 exact ⟨D,_,_,hr,fun kl hkl=>by obtain ⟨k,hk,e⟩:=h7 kl hkl;exact ⟨k,hk,e,by simp⟩,fun k hk _=>by rw [h5];simpa using hk,List.nodup_nil,fun _ h=>by simp at h⟩
theorem Zqx (it:Operand) (hop:o.op=Op.next it false) {M r:Nat} {K ds:List Nat} (hit:a.eval it=.pointer (some ⟨r,0,none⟩)) (H:Zqv w M r K ds) (hDone:(∀ k∈K,k∈ds)→wpList Tryz.prog ops Q rest (a.put o.dst (.tuple #[.bool false])) w) (hMore:∀ (k:Nat) (v:Value) (w':World),k∈K→k ∉ ds→Zqv w' M r K (k :: ds)→w.grownBy w' (some r)→(Instr.entry (.pointer (some ⟨r,0,none⟩))).run Tryz.prog w'=.ok (.tuple #[.int .i64 k,v]) w'→wpList Tryz.prog ops Q rest (a.put o.dst (.tuple #[.bool true,.int .i64 k,v])) w'):wpList Tryz.prog ops Q (o :: rest) a w:=by
 obtain ⟨D,left,cnt,h,h1,h2,h3,h4⟩:=H
 have hki:(Tryz.prog).underlying 3=some (.int .i64):=Tryz.underlying3
 refine wpList_next_ranges w hg it hop 3 Zn1 _ (Value.int .i64) Value.bool (fun key kl hkey=>by obtain ⟨x,rfl,_⟩:=Maps.keyOf_int_inv hki hkey;exact ⟨x,rfl⟩) (fun v y hv=>by obtain ⟨c,rfl,_⟩:=Zp3 hv;exact ⟨c,rfl⟩) M r K.length D left cnt hit h (fun _ h0=>hDone fun k hk=>Classical.byContradiction fun e=>by have:=h2 k hk e;rw [h0] at this;cases this) ?_
 intro x c kl y w' cnt' hkey hl hy hat hr hlt hg' hs hen
 obtain ⟨x',hx,rfl,-⟩:=Maps.keyOf_int_inv hki hkey
 cases hx
 obtain ⟨k,hk,e,hkd⟩:=h1 _ hl
 cases e
 refine hMore k (.bool c) w' hk hkd ⟨D,_,cnt',hr,fun kl hkl=>?_,fun j hj hjd=>?_,List.nodup_cons.2 ⟨hkd,h3⟩,fun j hj=>?_⟩ hg' hen
 ·simp only [Bool.and_eq_true,Bool.not_eq_true'] at hkl
  obtain ⟨j,hj,rfl,hjd⟩:=h1 _ hkl.1
  refine ⟨j,hj,rfl,fun e=>?_⟩
  rcases List.mem_cons.1 e with rfl|e
  ·have:=hkl.2;simp [Lit.sameKey] at this
  ·exact hjd e
 ·have hne:j≠k:=fun e=>hjd (by simp [e])
  simp only [Bool.and_eq_true,Bool.not_eq_true']
  exact ⟨h2 j hj fun e=>hjd (by simp [e]),by simp [Lit.sameKey];omega⟩
 ·rcases List.mem_cons.1 hj with rfl|e
  ·exact hk
  ·exact h4 j e
end
theorem Zqv.grown {w w':World}{M r:Nat}{K ds:List Nat}{row:Option Nat} (H:Zqv w M r K ds) (hg:w.grownBy w' row) (hM:some M≠row) (hr:some r≠row):Zqv w' M r K ds:=by
 obtain ⟨D,left,cnt,h,h1⟩:=H
 exact ⟨D,left,cnt,h.kept hg hM hr,h1⟩
theorem Zqy {w:World}{M r:Nat}{K ds:List Nat} (hn:K.Nodup) (H:Zqv w M r K ds) (h:∀ k∈K,k∈ds):ds.Perm K:=by
 obtain ⟨D,left,cnt,-,-,-,h3,h4⟩:=H
 exact (List.perm_ext_iff_of_nodup h3 hn).2 fun a=>⟨h4 a,h a⟩
def Zqz (K:List Nat):List Int:=(K.map fun k:Nat=>(k:Int)).mergeSort fun x y=>decide (x≤y)
def ZqA (ds:List Nat):List Int:=ds.reverse.map fun k:Nat=>(k:Int)
theorem ZqB {ds K:List Nat} (h:ds.Perm K):((ZqA ds).mergeSort fun x y=>decide (x≤y))=Zqz K:=by
 have hp:((ZqA ds).mergeSort fun x y=>decide (x≤y)).Perm (Zqz K):=
  (List.mergeSort_perm _ _).trans ((((List.reverse_perm ds).trans h).map _).trans (List.mergeSort_perm _ _).symm)
 have hs:∀ l:List Int,(l.mergeSort fun x y=>decide (x≤y)).Pairwise fun x y=>x≤y:=fun l=>by
  have:=List.pairwise_mergeSort (le:=fun x y:Int=>decide (x≤y)) (fun a b c h1 h2=>by simp at *;omega) (fun a b=>by simp;omega) l
  exact this.imp (by simp)
 exact hp.eq_of_pairwise (fun a b _ _ h1 h2=>by omega) (hs _) (hs _)
theorem ZqC (w:World) (M:Nat) (K:List Nat) (H:Zp4 w M K):Calls Tryz.prog 222 #[.map (some M)] w (ZdF w (Zqz K)):=by
 have HS:=Zh H
 have hMl:=H.map.lt
 have hlen:=H.len
 have HNd:=Zh H.1
 clear H
 go_enter Tryz.func222,Tryz.ntmps222
 go_upto_region 3 with (at_range;refine Zqw rfl _ rfl (M:=M) (K:=K) rfl HS.out ?_;intro w0 hr0 hb0 hs0;have HR0:=Zh hr0;have HB0:=Zh hb0;clear hr0 hb0)
 go_frame
 go_loopw [3] (fun o wr=>∃ (ds:List Nat) (ao:Option Addr) (cap:Nat),o=.slice ao ds.length cap∧Hid (Zqv wr M w.heap.size K ds)∧Hid (wr.ownsRow w0.heap.size 3 1 (.slice ao ds.length cap) ds.length ((ZqA ds).map (Value.int .i64)))∧Hid (Below w.heap.size w wr)∧Hid (w0.heap.size≤wr.heap.size)) (fun o _=>K.length-(match o with|.slice _ n _=>n|_=>0))
 case atStart=>exact ⟨[],none,0,rfl,HR0.out,World.ownsRow_nil _ _ _ _,HB0.out,Nat.le_refl _⟩
 case round=>
  obtain ⟨ds,ao,cap,rfl,HR,HO,HB,HZ⟩:=hrel
  have hd:=HR.out
  obtain ⟨-,-,-,-,-,-,hnd,hsub⟩:=hd
  have hdl:ds.length≤K.length:=Zqf hnd hsub
  clear hnd hsub
  go_wp2_with (at_next;refine Zqx rfl _ rfl (M:=M) (r:=w.heap.size) (K:=K) (ds:=ds) rfl HR.out ?_ ?_)
  ·intro hall
   have HP:=Zh (ZqB (ds:=ds) (K:=K) (Zqy HNd.out HR.out hall))
   clear hall
   go_wp2_with fail
   refine (ZdJ ao ds.length cap (ZqA ds) _ HO.out (by omega) HZ.out).mono ?_
   rintro e1 w1 ⟨rfl,hown1,hb1⟩
   have HO1:=Zh hown1
   have HB1:=Zh (show Below w.heap.size w w1 from ⟨hb1.os.trans HB.out.os,hb1.tape.trans HB.out.tape,hb1.output.trans HB.out.output,Nat.le_trans HB.out.size hb1.size,fun q hq=>(hb1.block q (by omega)).trans (HB.out.block q hq)⟩)
   clear hown1 hb1
   go_wp2
   go_ret
   have hl:(Zqz K).length=ds.length:=by rw [←HP.out,List.length_mergeSort];simp [ZqA]
   have h1:=HO1.out
   rw [HP.out] at h1
   refine ⟨⟨ao,cap,by rw [hl];rfl,Zar.of_own (by rw [Zat,hl];exact h1),fun a ha=>?_⟩,HB1.out⟩
   subst ha
   have:=(h1.lt a.block rfl).1
   omega
  ·intro k v w1 hk hkd hr1 hg1 hen
   have HR1:=Zh hr1
   have HB1:=Zh (ZcV HB.out hg1 fun j hj=>by cases hj;exact Nat.le_refl _)
   have hown:=ZhI HO.out fun q hq=>hg1.block q (HO.out.lt q hq).2 (fun e=>by have:=(HO.out.lt q hq).1;cases e;omega)
   have hz1:=hg1.size
   have hz0:=HZ.out
   have hout:ZqA (k :: ds)=ZqA ds++[(k:Int)]:=by simp [ZqA]
   have HOut:=Zh hout
   have holl:(ZqA ds).length=ds.length:=by simp [ZqA]
   clear hr1 hg1 hk hkd hout
   go_wp2_with (at_builtin;refine Zaj rfl (.tmp 11) (.tmp 13) 34 rfl w0.heap.size 3 1 8 Zcq (.slice ao ds.length cap) ds.length ((ZqA ds).map (Value.int .i64)) rfl (hown.alloc _) _ 1 1 [.int .i64 k] rfl (ZdL (Blk.new' #[.int .i64 k] 3 (by simp)) rfl) (by intro u hu;rw [List.mem_singleton.1 hu];rfl) (by omega) (by unfold maxLen;omega) (by simp;omega) ?_;intro ao1 cap1 w10 hown9 hg9;have HO9:=Zh hown9;have HB9:=Zh (ZcV (bal HB1.out _) hg9 (fun j hj=>by have:=(hown.lt j hj).1;omega));have HR9:=Zh ((HR1.out.kept (show Below w1.heap.size w1 (w1.alloc (.cells #[.int .i64 k] 3)) by exact bE)).grown hg9 (fun e=>by have:=(hown.lt M e.symm).1;omega) (fun e=>by have:=(hown.lt _ e.symm).1;omega));have HZ9:=Zh (show w0.heap.size≤w10.heap.size by have:=hg9.size;simp at this;omega);clear hown9 hg9)
   refine ⟨⟨k :: ds,ao1,cap1,rfl,HR9.out,?_,HB9.out,HZ9.out⟩,?_⟩
   ·rw [HOut.out,List.map_append]
    exact HO9.out
   ·obtain ⟨-,-,-,-,-,-,hnd,hsub⟩:=HR1.out
    have:=Zqf hnd hsub
    simp only [List.length_cons] at this
    show K.length-(ds.length+1) < K.length-ds.length
    omega
end
end Go.Proofs.YtcfjblcgceednaaGreat
