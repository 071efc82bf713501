import Derived.Test.YtcfjblcgceednaaGreatL28
set_option linter.all false
set_option maxRecDepth 100000
set_option maxHeartbeats 8000000
namespace Go.Proofs.YtcfjblcgceednaaGreat
section
open Go.RowKit
structure Ups (S:List Nat) (a b:World):Prop where
 os:b.os=a.os
 tape:b.tape=a.tape
 output:b.output=a.output
 size:a.heap.size≤b.heap.size
 block:∀ k,k<a.heap.size→k ∉ S→b.heap[k]?=a.heap[k]?
theorem Ups.refl (S:List Nat) (w:World):Ups S w w:=⟨rfl,rfl,rfl,Nat.le_refl _,fun _ _ _=>rfl⟩
theorem Ups.trans {S:List Nat}{a b c:World} (h:Ups S a b) (k:Ups S b c):Ups S a c:=
 ⟨k.os.trans h.os,k.tape.trans h.tape,k.output.trans h.output,Nat.le_trans h.size k.size,fun i e d=>(k.block i (Nat.lt_of_lt_of_le e h.size) d).trans (h.block i e d)⟩
theorem Ups.of {S:List Nat}{a b:World} (h:Below a.heap.size a b):Ups S a b:=⟨h.os,h.tape,h.output,h.size,fun k c _=>h.block k c⟩
theorem Ups.grown {S:List Nat}{a b:World}{M:Nat} (hg:a.grownBy b (some M)) (hM:M∈S):Ups S a b:=
 ⟨hg.os,hg.tape,hg.output,hg.size,fun q d c=>hg.block q d fun e=>c (by cases e;exact hM)⟩
theorem Ups.below {S:List Nat}{N:Nat}{w0 a b:World} (h:Ups S a b) (hb:Below N w0 a) (hN:N≤w0.heap.size) (hS:∀ k∈S,N≤k):Below N w0 b:=
 ⟨h.os.trans hb.os,h.tape.trans hb.tape,h.output.trans hb.output,Nat.le_trans hb.size h.size,fun k c=>(h.block k (by have:=hb.size;omega) (fun q=>by have:=hS k q;omega)).trans (hb.block k c)⟩
theorem ZqF {w w':World}{M:Nat} (d:IsMap w M) (hg:w.grownBy w' (some M)):Znz w w':=fun p v b=>by
 obtain ⟨g,c,d⟩:=d
 have f:p.block≠M:=fun e=>by unfold World.cell? at b;rw [e,d] at b;simp at b
 exact (World.cell?_of_block (w:=w) (hg.block _ (Zac b) fun e=>f (Option.some.inj e))).trans b
structure ZqG (w:World) (B M1 M2 M3:Nat) (h:Hd) (m:Md) (K1 K2 K3:List Nat):Prop where
 bk:Blk w B #[.slice h.co m.cl.length h.cc,.slice h.so m.st.length h.sc,.slice h.eo m.me.length h.ec,.int .i64 m.sel,.map (some M1),.map (some M2),.map (some M3)] 241
 md:Zay w h m
 s1:Zpc w M1 K1
 s2:Zpc w M2 K2
 s3:Zpc w M3 K3
 n12:M1≠M2
 n13:M1≠M3
 n23:M2≠M3
section
variable {w w':World}{B M1 M2 M3:Nat}{h:Hd}{m:Md}{K1 K2 K3:List Nat}
section
variable (H:ZqG w B M1 M2 M3 h m K1 K2 K3)
include H
theorem ZqG.old (hb:Below w.heap.size w w'):ZqG w' B M1 M2 M3 h m K1 K2 K3:=
 ⟨H.bk.old hb,H.md.old hb,H.s1.old hb,H.s2.old hb,H.s3.old hb,H.n12,H.n13,H.n23⟩
theorem ZqG.put1 (hg:w.grownBy w' (some M1)) {L:List Nat} (hs:Zpc w' M1 L):ZqG w' B M1 M2 M3 h m L K2 K3:=
 ⟨(hg.block B H.bk.lt fun e=>ZnC H.bk H.s1.map (Option.some.inj e)).trans H.bk,H.md.keeps (ZqF H.s1.map hg),hs,H.s2.eq (hg.block _ H.s2.map.lt fun e=>H.n12 (Option.some.inj e).symm),H.s3.eq (hg.block _ H.s3.map.lt fun e=>H.n13 (Option.some.inj e).symm),H.n12,H.n13,H.n23⟩
theorem ZqG.put2 (hg:w.grownBy w' (some M2)) {L:List Nat} (hs:Zpc w' M2 L):ZqG w' B M1 M2 M3 h m K1 L K3:=
 ⟨(hg.block B H.bk.lt fun e=>ZnC H.bk H.s2.map (Option.some.inj e)).trans H.bk,H.md.keeps (ZqF H.s2.map hg),H.s1.eq (hg.block _ H.s1.map.lt fun e=>H.n12 (Option.some.inj e)),hs,H.s3.eq (hg.block _ H.s3.map.lt fun e=>H.n23 (Option.some.inj e).symm),H.n12,H.n13,H.n23⟩
theorem ZqG.put3 (hg:w.grownBy w' (some M3)) {L:List Nat} (hs:Zpc w' M3 L):ZqG w' B M1 M2 M3 h m K1 K2 L:=
 ⟨(hg.block B H.bk.lt fun e=>ZnC H.bk H.s3.map (Option.some.inj e)).trans H.bk,H.md.keeps (ZqF H.s3.map hg),H.s1.eq (hg.block _ H.s1.map.lt fun e=>H.n13 (Option.some.inj e)),H.s2.eq (hg.block _ H.s2.map.lt fun e=>H.n23 (Option.some.inj e)),hs,H.n12,H.n13,H.n23⟩
end
end
def RcP (w:World) (B M1 M2 M3:Nat) (h:Hd) (m:Md) (K1 K2 K3:List Nat):Ending→World→Prop:=fun e w'=>e=.returned (.tuple #[])∧∃ L,ZqG w' B M1 M2 M3 h m K1 L K3∧(∀ k∈K2,k∈L)∧(∀ k∈L,k<m.cl.length)∧Ups [M1,M2,M3] w w'∧Znz w w'
def ZqH (B M1 M2 M3:Nat) (h:Hd) (m:Md) (u:Nat):Prop:=∀ w K1 K2 K3 n,ZqG w B M1 M2 M3 h m K1 K2 K3→(∀ k∈K2,k<m.cl.length)→m.cl.length-K2.length≤u→n<m.cl.length →
 Calls Tryz.prog 298 #[ZQ.p B,.int .i64 n] w (RcP w B M1 M2 M3 h m K1 K2 K3)
def ZqI (B M1 M2 M3:Nat) (h:Hd) (m:Md) (u:Nat):Prop:=∀ w K1 K2 K3 lo lc (l:List Ty),ZqG w B M1 M2 M3 h m K1 K2 K3→(∀ k∈K2,k<m.cl.length)→m.cl.length-K2.length≤u→Zar w lo lc l→l.length≤1000→(∀ t∈l,t.k=2∨t.k=4→0≤t.c∧t.c<m.cl.length) →
 Calls Tryz.prog 297 #[ZQ.p B,.slice lo l.length lc] w (RcP w B M1 M2 M3 h m K1 K2 K3)
theorem ZqJ {K L:List Nat} (i:K.Nodup) (g:∀ k∈K,k∈L):K.length≤L.length:=by
 induction K generalizing L with
 | nil=>simp
 |cons a K ih=>
  have c:=List.nodup_cons.1 i;have d:a∈L:=g a (by simp);have:=ih (L:=L.erase a) c.2 fun k f=>by have b:k≠a:=fun e=>c.1 (e▸f);exact (List.mem_erase_of_ne b).2 (g k (by simp [f]))
  rw [List.length_erase_of_mem d] at this;have:0<L.length:=List.length_pos_of_mem d;simp only [List.length_cons];omega
section
variable {B M1 M2 M3:Nat}{h:Hd}{m:Md}{u:Nat}
theorem ZqK (hv:Za1 m=true) (ih:∀ v,v<u→ZqH B M1 M2 M3 h m v∧ZqI B M1 M2 M3 h m v):ZqH B M1 M2 M3 h m u:=by
 intro w K1 K2 K3 n H hK hu hn;have l:n<1000:=by have:=(Zin hv).1;omega
 have ax:(n:Int) < m.cl.length:=by omega
 have c5:=H.bk.cell 5 (v:=.map (some M2)) rfl;have HH:=Zh H;have HS:=Zh H.s2;have HK:=Zh hK;by_cases hin:n∈K2
 ·have D:=Zh (show decide (n∈K2)=true from decide_eq_true hin);clear H hK;go_enter Tryz.func298,Tryz.ntmps298
  go_wp2_with (at_lookup;refine Zpg rfl _ _ rfl (M:=M2) (K:=K2) rfl HS.out n rfl l ?_;rw [D.out])
  exact bodyPost_ret (v:=.tuple #[]) (by simp [results,Tryz.results298,go_sem]) rfl ⟨rfl,K2,HH.out,fun _ h=>h,HK.out,Ups.refl _ _,Znz.refl _⟩
 ·have D:=Zh (show decide (n∈K2)=false from decide_eq_false hin);have Z:(n :: K2).length≤m.cl.length:=ZnB _ _ (List.nodup_cons.2 ⟨hin,H.s2.1⟩) fun k r=>by
   rcases List.mem_cons.1 r with rfl|e
   ·exact hn
   ·exact hK k e
  rw [List.length_cons] at Z;obtain ⟨hc,ht⟩:=ih (u-1) (by omega);have z:Zpd n K2=n :: K2:=if_neg hin;have aj:=Zh z;obtain ⟨ad,am,-,X,J,-⟩:=H.md.cls hn;have W:=H.bk.cell 0 (v:=.slice h.co m.cl.length h.cc) rfl;rw [am] at W;have N:=Zil hv n hn;have C:=Zc7 N;have ab:ZaG m.cl.length (m.cl.getD n default).f=true∧(m.cl.getD n default).f.length≤7:=by simp only [ZaK,Bool.and_eq_true,decide_eq_true_eq] at N;exact ⟨by simp_all,by omega⟩
  have I:=Zh ab;have hF:=H.md.f n hn;rw [show m.sup n=(m.cl.getD n default).sup from rfl] at C;generalize (m.cl.getD n default).f=fl at I hF J;generalize (h.c n).fo=fo at hF J;generalize (h.c n).fc=fc at hF J;have HF:=Zh hF;clear hF;clear ab;generalize (m.cl.getD n default).sup=sp at X C;have HC:=Zh hc;have HT:=Zh ht;have G:=Zh (show m.cl.length-(n :: K2).length≤u-1 by rw [List.length_cons];omega);have ak:=Zh (List.nodup_cons.2 ⟨hin,H.s2.1⟩);clear H hK hc ht z N hin;go_enter Tryz.func298,Tryz.ntmps298
  go_upto_region 2 with (first
   | (at_lookup;refine Zpg rfl _ _ rfl (M:=M2) (K:=K2) rfl HS.out n rfl l ?_;rw [D.out])
   | (at_mapUpdate;refine Zph rfl _ _ _ rfl (M:=M2) (K:=K2) rfl HS.out n rfl rfl l ?_;intro w1 O q;rw [aj.out] at O;have R:=Zh (HH.out.put2 q O);have j:=ZqF HS.out.map q;have U:=Zh (Ups.grown (S:=[M1,M2,M3]) q (by simp));have W:=j _ _ W;have X:=j _ _ X;have J:=j _ _ J;have E:=Zh j;clear O q j))
  have s:=Zh (show ∀ k∈n :: K2,k<m.cl.length from fun k r=>by
   rcases List.mem_cons.1 r with rfl|e
   ·exact hn
   ·exact HK.out k e)
  have x:=Zh (show ∀ t∈fl,t.k=2∨t.k=4→0≤t.c∧t.c<m.cl.length from fun t ht r=>by
   have:=List.all_eq_true.1 I.out.1 t ht;unfold ZaF at this;rw [if_pos r] at this;simpa using this)
  have P:=Zh (show fl.length≤1000 by have:=I.out.2;omega);by_cases hs0:sp ≥ 0
  ·obtain ⟨d,rfl⟩:∃ d:Nat,sp=d:=⟨sp.toNat,by omega⟩;have an:d<m.cl.length:=by omega
   go_wp2_with (first
    | (go_at_call 298;refine (HC.out _ K1 (n :: K2) K3 d R.out s.out G.out an).mono ?_;rintro e w2 ⟨rfl,L,Y,A,y,ac,g⟩;have ai:=Zh Y;have F:=Zh (And.intro A y);have al:=Zh (U.out.trans ac);have T:=Zh (E.out.trans g);have W:=g _ _ W;have X:=g _ _ X;have J:=g _ _ J;clear Y A y ac g)
    | (go_at_call 297;refine (HT.out _ K1 L K3 _ _ fl ai.out F.out.2 (by have h1:=ZqJ ak.out F.out.1;have h2:=G.out;omega) (ZnA HF.out T.out) P.out x.out).mono ?_;rintro e w3 ⟨rfl,V,f,c,b,p,i⟩;have HE:=Zh (And.intro f (And.intro (show ∀ k∈K2,k∈V from fun k r=>c k (F.out.1 k (by simp [r]))) (And.intro b (And.intro (al.out.trans p) (T.out.trans i)))));clear f c b p i))
   exact bodyPost_ret (v:=.tuple #[]) (by simp [results,Tryz.results298,go_sem]) rfl ⟨rfl,V,HE.out⟩
  ·go_wp2_with (go_at_call 297;refine (HT.out _ K1 (n :: K2) K3 _ _ fl R.out s.out G.out (ZnA HF.out E.out) P.out x.out).mono ?_;rintro e w3 ⟨rfl,V,f,c,b,p,i⟩;have HE:=Zh (And.intro f (And.intro (show ∀ k∈K2,k∈V from fun k r=>c k (by simp [r])) (And.intro b (And.intro (U.out.trans p) (E.out.trans i)))));clear f c b p i)
   exact bodyPost_ret (v:=.tuple #[]) (by simp [results,Tryz.results298,go_sem]) rfl ⟨rfl,V,HE.out⟩
theorem ZqL (T:ZqH B M1 M2 M3 h m u):ZqI B M1 M2 M3 h m u:=by
 intro w K1 K2 K3 lo lc l H R hu U hl E;have Y:=Zh H;have Z:=Zh R;have HR:=Zh U;have K:=Zh E;have X:=Zh T;have J:=Zh H.s2.1;clear H R U E T;go_enter Tryz.func297,Tryz.ntmps297;go_wp2
 go_loopw [8] (fun i wr=>∃ (j:Nat) (L:List Nat),j≤l.length∧i=.int .i64 j∧Hid (ZqG wr B M1 M2 M3 h m K1 L K3)∧Hid ((∀ k∈K2,k∈L)∧∀ k∈L,k<m.cl.length)∧Hid (Ups [M1,M2,M3] w wr)∧Hid (Znz w wr)) (fun i _=>l.length-(intOf i).toNat)
 case atStart=>exact ⟨0,K2,Nat.zero_le _,rfl,Y.out,⟨fun _ h=>h,Z.out⟩,Ups.refl _ _,Znz.refl _⟩
 case round=>
  obtain ⟨j,L,hj,rfl,r,x,M,f⟩:=hrel;rename World=>wo;by_cases hjl:j<l.length
  ·have A:(j:Int) < l.length:=by omega
   have ag:IntKind.i64.wrap ((j:Int)+1)=((j+1:Nat):Int):=IntWalk.i64_in _ (by omega);obtain ⟨ad,rfl,P,V⟩:=Zaz (ZnA HR.out f.out) hjl;have C:=K.out (l.getD j default) (ZfU _ hjl);obtain ⟨t,D⟩:∃ t,t=l.getD j default:=⟨_,rfl⟩;rw [←D] at P V C;obtain ⟨c,W⟩:=t;dsimp only at P V C;have I:=Zh (show m.cl.length-L.length≤u by have:=ZqJ J.out x.out.1;omega);clear D;have af:=Zac P;by_cases s:c=2∨c=4
   ·obtain ⟨h0,h1⟩:=C s;obtain ⟨d,rfl⟩:∃ d:Nat,W=d:=⟨W.toNat,by omega⟩;have N:d<m.cl.length:=by omega
    have S:Below wo.heap.size wo (wo.alloc (.cells #[.int .i64 c,.int .i64 d] 76)):=by exact bE
    have G:=Zh S;have b:c=2∨(¬ c=2∧c=4):=by omega
    clear S C s;rcases b with rfl|⟨hk3,rfl⟩
    all_goals
     go_wp2_with (go_at_call 298;refine (X.out _ K1 L K3 d (r.out.old G.out) x.out.2 I.out N).mono ?_;rintro e w2 ⟨rfl,L2,z,n,g,F,b⟩;have y:=Zh (And.intro z (And.intro n (And.intro g (And.intro F b))));clear z n g F b)
     exact ⟨⟨j+1,L2,hjl,rfl,y.out.1,⟨fun k s=>y.out.2.1 k (x.out.1 k s),y.out.2.2.1⟩,M.out.trans ((Ups.of G.out).trans y.out.2.2.2.1),f.out.trans ((Znz.of G.out).trans y.out.2.2.2.2)⟩,by simp [intOf];omega⟩
   ·have b:¬ c=2:=fun q=>s (.inl q);have O:¬ c=4:=fun q=>s (.inr q);have ac:(c == 2)=false:=by simpa using b
    have ae:(c == 4)=false:=by simpa using O
    clear s C
    go_wp2_with fail
    all_goals exact ⟨⟨j+1,L,hjl,rfl,r.out.old bE,x.out,M.out.trans (Ups.of bE),f.out.trans (Znz.of bE)⟩,by simp [intOf];omega⟩
  ·have A:¬ (j:Int) < l.length:=by omega
   go_wp2;exact bodyPost_ret (v:=.tuple #[]) (by simp [results,Tryz.results297,go_sem]) rfl ⟨rfl,L,r.out,x.out.1,x.out.2,M.out,f.out⟩
theorem ZqM (c:Za1 m=true):∀ u,ZqH B M1 M2 M3 h m u∧ZqI B M1 M2 M3 h m u:=by
 intro u
 induction u using Nat.strongRecOn with
 |ind u ih=>
  have b:=ZqK (B:=B) (M1:=M1) (M2:=M2) (M3:=M3) (h:=h) c ih;exact ⟨b,ZqL b⟩
end
end
section
open Go.RowKit
attribute [local go_sem] World.cell?_alloc_some
def ZqN (w:World) (M r:Nat) (K ds:List Nat):Prop:=∃ (D:DataW Unit) (left:Lit→Bool) (cnt:Nat),w.ranges Tryz.prog 3 (plainElem Tryz.prog 4) M r K.length D left cnt∧(∀ kl,left kl=true→∃ k:Nat,k∈K∧kl=.int .i64 k∧k ∉ ds)∧(∀ k:Nat,k∈K→k ∉ ds→left (.int .i64 k)=true)∧ds.Nodup∧∀ k∈ds,k∈K
theorem ZqN.kept {w w':World}{M r:Nat}{K ds:List Nat} (H:ZqN w M r K ds) (hb:Below w.heap.size w w'):ZqN w' M r K ds:=by
 obtain ⟨D,left,b,h,f⟩:=H;refine ⟨D,left,b,?_,f⟩;have k:M<w.heap.size:=by
  obtain ⟨j,c,d,_⟩:=h.owns;exact Classical.byContradiction fun e=>by rw [Array.getElem?_eq_none (by omega)] at d;cases d
 exact h.kept (row:=none) ⟨hb.os,hb.tape,hb.output,hb.size,fun i g _=>hb.block i g⟩ (by simp) (by simp)
section
variable {w:World}{ops:Array Oper}{rest:List Oper}{o:Oper}{a:Act}{Q:Exit→Act→World→Prop}(hg:o.guard=none)
include w ops rest o a Q hg
theorem ZqO (m:Operand) (f:o.op=Op.range 152 m) {M:Nat} {K:List Nat} (q:a.eval m=.map (some M)) (H:Zpc w M K) (n:∀ w',ZqN w' M w.heap.size K []→Below w.heap.size w w'→w'.heap.size=w.heap.size+1→wpList Tryz.prog ops Q rest (a.put o.dst (.pointer (some ⟨w.heap.size,0,none⟩))) w'):wpList Tryz.prog ops Q (o :: rest) a w:=by obtain ⟨v,x,D,g,y,j,z,l⟩:=H;refine wpList_range_own w hg m 152 f 3 4 Zn1 Tryz.underlying152 _ M K.length D q g fun w' r b s=>n w' ?_ ⟨b.os,b.tape,b.output,b.size,fun i p=>b.block i p (by simp)⟩ s;exact ⟨D,_,_,r,fun t d=>by obtain ⟨k,c,e⟩:=l t d;exact ⟨k,c,e,by simp⟩,fun k c _=>by rw [j];simpa using c,List.nodup_nil,fun _ h=>by simp at h⟩
theorem ZqP (F:Operand) (E:o.op=Op.next F false) {M r:Nat} {K ds:List Nat} (C:a.eval F=.pointer (some ⟨r,0,none⟩)) (H:ZqN w M r K ds) (f:(∀ k∈K,k∈ds)→wpList Tryz.prog ops Q rest (a.put o.dst (.tuple #[.bool false])) w) (g:∀ (k:Nat) (v:Value) (w':World),k∈K→k ∉ ds→ZqN w' M r K (k :: ds)→w.grownBy w' (some r)→(Instr.entry (.pointer (some ⟨r,0,none⟩))).run Tryz.prog w'=.ok (.tuple #[.int .i64 k,v]) w'→wpList Tryz.prog ops Q rest (a.put o.dst (.tuple #[.bool true,.int .i64 k,v])) w'):wpList Tryz.prog ops Q (o :: rest) a w:=by
 obtain ⟨D,left,t,h,G,I,N,O⟩:=H;have q:(Tryz.prog).underlying 3=some (.int .i64):=Tryz.underlying3;refine wpList_next_ranges w hg F E 3 Zn1 _ (Value.int .i64) Value.bool (fun X J b=>by obtain ⟨x,rfl,_⟩:=Maps.keyOf_int_inv q b;exact ⟨x,rfl⟩) (fun v y V=>by obtain ⟨c,rfl,_⟩:=Zpb V;exact ⟨c,rfl⟩) M r K.length D left t C h (fun _ L=>f fun k s=>Classical.byContradiction fun e=>by have:=I k s e;rw [L] at this;cases this) ?_;intro x c J y w' l b R Z P U S A Y z;obtain ⟨x',W,rfl,-⟩:=Maps.keyOf_int_inv q b;cases W;obtain ⟨k,s,e,p⟩:=G _ R;cases e;refine g k (.bool c) w' s p ⟨D,_,l,U,fun J i=>?_,fun j n d=>?_,List.nodup_cons.2 ⟨p,N⟩,fun j n=>?_⟩ A z
 ·simp only [Bool.and_eq_true,Bool.not_eq_true'] at i;obtain ⟨j,n,rfl,d⟩:=G _ i.1;refine ⟨j,n,rfl,fun e=>?_⟩;rcases List.mem_cons.1 e with rfl|e
  ·have:=i.2;simp [Lit.sameKey] at this
  ·exact d e
 ·have T:j≠k:=fun e=>d (by simp [e]);simp only [Bool.and_eq_true,Bool.not_eq_true'];exact ⟨I j n fun e=>d (by simp [e]),by simp [Lit.sameKey];omega⟩
 ·rcases List.mem_cons.1 n with rfl|e
  ·exact s
  ·exact O j e
end
theorem ZqN.grown {w w':World}{M r:Nat}{K ds:List Nat}{row:Option Nat} (H:ZqN w M r K ds) (hg:w.grownBy w' row) (hM:some M≠row) (hr:some r≠row):ZqN w' M r K ds:=by obtain ⟨D,left,b,h,c⟩:=H;exact ⟨D,left,b,h.kept hg hM hr,c⟩
theorem ZqQ {w:World}{M r:Nat}{K ds:List Nat} (e:K.Nodup) (H:ZqN w M r K ds) (h:∀ k∈K,k∈ds):ds.Perm K:=by obtain ⟨D,left,b,-,-,-,c,d⟩:=H;exact (List.perm_ext_iff_of_nodup c e).2 fun a=>⟨d a,h a⟩
def ZqR (K:List Nat):List Int:=(K.map fun k:Nat=>(k:Int)).mergeSort fun x y=>decide (x≤y)
def ZqS (ds:List Nat):List Int:=ds.reverse.map fun k:Nat=>(k:Int)
theorem ZqT {ds K:List Nat} (h:ds.Perm K):((ZqS ds).mergeSort fun x y=>decide (x≤y))=ZqR K:=by
 have g:((ZqS ds).mergeSort fun x y=>decide (x≤y)).Perm (ZqR K):=
  (List.mergeSort_perm _ _).trans ((((List.reverse_perm ds).trans h).map _).trans (List.mergeSort_perm _ _).symm)
 have d:∀ l:List Int,(l.mergeSort fun x y=>decide (x≤y)).Pairwise fun x y=>x≤y:=fun l=>by have:=List.pairwise_mergeSort (le:=fun x y:Int=>decide (x≤y)) (fun a b c e f=>by simp at *;omega) (fun a b=>by simp;omega) l;exact this.imp (by simp)
 exact g.eq_of_pairwise (fun a b _ _ e f=>by omega) (d _) (d _)
theorem ZqU (w:World) (M:Nat) (K:List Nat) (H:Zpc w M K):Calls Tryz.prog 222 #[.map (some M)] w (ZdF w (ZqR K)):=by
 have HS:=Zh H;have al:=H.map.lt;have ai:=H.len;have T:=Zh H.1;clear H;go_enter Tryz.func222,Tryz.ntmps222
 go_upto_region 3 with (at_range;refine ZqO rfl _ rfl (M:=M) (K:=K) rfl HS.out ?_;intro P I G au;have X:=Zh I;have R:=Zh G;clear I G)
 go_frame
 go_loopw [3] (fun o wr=>∃ (ds:List Nat) (C:Option Addr) (d:Nat),o=.slice C ds.length d∧Hid (ZqN wr M w.heap.size K ds)∧Hid (wr.ownsRow P.heap.size 3 1 (.slice C ds.length d) ds.length ((ZqS ds).map (Value.int .i64)))∧Hid (Below w.heap.size w wr)∧Hid (P.heap.size≤wr.heap.size)) (fun o _=>K.length-(match o with|.slice _ n _=>n|_=>0))
 case atStart=>exact ⟨[],none,0,rfl,X.out,World.ownsRow_nil _ _ _ _,R.out,Nat.le_refl _⟩
 case round=>
  obtain ⟨ds,C,d,rfl,W,N,A,HZ⟩:=hrel;have hd:=W.out;obtain ⟨-,-,-,-,-,-,t,c⟩:=hd;have ap:ds.length≤K.length:=ZqJ t c;clear t c
  go_wp2_with (at_next;refine ZqP rfl _ rfl (M:=M) (r:=w.heap.size) (K:=K) (ds:=ds) rfl W.out ?_ ?_)
  ·intro x;have HP:=Zh (ZqT (ds:=ds) (K:=K) (ZqQ T.out W.out x));clear x
   go_wp2_with fail
   refine (ZdJ C ds.length d (ZqS ds) _ N.out (by omega) HZ.out).mono ?_;rintro e1 L ⟨rfl,g,f⟩;have U:=Zh g;have z:=Zh (show Below w.heap.size w L from ⟨f.os.trans A.out.os,f.tape.trans A.out.tape,f.output.trans A.out.output,Nat.le_trans A.out.size f.size,fun q O=>(f.block q (by omega)).trans (A.out.block q O)⟩);clear g f;go_wp2;go_ret;have hl:(ZqR K).length=ds.length:=by rw [←HP.out,List.length_mergeSort];simp [ZqS]
   have h1:=U.out;rw [HP.out] at h1;refine ⟨⟨C,d,by rw [hl];rfl,Zar.of_own (by rw [Zat,hl];exact h1),fun a ha=>?_⟩,z.out⟩;subst ha;have:=(h1.lt a.block rfl).1;omega
  ·intro k v L hk ad J l aq;have E:=Zh J;have z:=Zh (ZcV A.out l fun j hj=>by cases hj;exact Nat.le_refl _);have b:=ZhI N.out fun q O=>l.block q (N.out.lt q O).2 (fun e=>by have:=(N.out.lt q O).1;cases e;omega);have ax:=l.size;have aw:=HZ.out;have y:ZqS (k :: ds)=ZqS ds++[(k:Int)]:=by simp [ZqS]
   have D:=Zh y;have aj:(ZqS ds).length=ds.length:=by simp [ZqS]
   clear J l hk ad y
   go_wp2_with (at_builtin;refine Zaj rfl (.tmp 11) (.tmp 13) 34 rfl P.heap.size 3 1 8 Zcq (.slice C ds.length d) ds.length ((ZqS ds).map (Value.int .i64)) rfl (b.alloc _) _ 1 1 [.int .i64 k] rfl (ZdL (Blk.new' #[.int .i64 k] 3 (by simp)) rfl) (by intro u hu;rw [List.mem_singleton.1 hu];rfl) (by omega) (by unfold maxLen;omega) (by simp;omega) ?_;intro aa F ae i s;have V:=Zh i;have S:=Zh (ZcV (bal z.out _) s (fun j hj=>by have:=(b.lt j hj).1;omega));have Y:=Zh ((E.out.kept (show Below L.heap.size L (L.alloc (.cells #[.int .i64 k] 3)) by exact bE)).grown s (fun e=>by have:=(b.lt M e.symm).1;omega) (fun e=>by have:=(b.lt _ e.symm).1;omega));have Z:=Zh (show P.heap.size≤ae.heap.size by have:=s.size;simp at this;omega);clear i s)
   refine ⟨⟨k :: ds,aa,F,rfl,Y.out,?_,S.out,Z.out⟩,?_⟩
   ·rw [D.out,List.map_append];exact V.out
   ·obtain ⟨-,-,-,-,-,-,t,c⟩:=E.out;have:=ZqJ t c;simp only [List.length_cons] at this;show K.length-(ds.length+1) < K.length-ds.length;omega
end
section
open Go.RowKit
def ZqV:Ms:=⟨fun i=>if i.op=27 then 1 else 0,0,false⟩
theorem ZqW (i:In3):0≤ZqV.wt i∧ZqV.wt i≤1000:=by
 show 0≤(if i.op=27 then (1:Int) else 0)∧(if i.op=27 then (1:Int) else 0)≤1000;split<;>omega
theorem ZqX (i:In3) (w:World):Calls Tryz.prog 109 #[ZI.i i] w (Ret w (.int .i64 (ZqV.wt i))):=by
 obtain ⟨c,a,b⟩:=i;obtain ⟨v,d⟩:∃ v,v=ZqV.wt ⟨c,a,b⟩:=⟨_,rfl⟩;have f:v=if c=27 then 1 else 0:=d;rw [←d];have e:=Zh f;clear d f;dsimp only;by_cases ho:c=27
 ·subst ho;go_enter Tryz.func109,Tryz.ntmps109;go_wp2;go_ret;exact ZcT (ZcY (by rw [e.out];rfl)) bE
 ·have g:(c == 27)=false:=by simpa using ho
  go_enter Tryz.func109,Tryz.ntmps109;go_wp2;go_ret;exact ZcT (ZcY (by rw [e.out,if_neg ho])) bE
theorem ZqY {m:Md} (hm:Za1 m=true) (d:World):Wkr ZqV m (Zm1 (gW ZqV m) m) 109 #[] d where
 hm:=hm
 wt k b i c:=ZqW i
 tl:=by decide
 te i h:=by show (if i.op=27 then (1:Int) else 0)=0;rw [if_neg (by omega)]
 bd k:=ZoM hm (x:=ZqV) (fun k b i c=>ZqW i) (by decide) (k+1) k (by omega)
 eq k b:=ZoN hm ZqV b
 cf A W:=by kernel_rfl
 fn k b i c w' _:=by have:=ZqX i w';rw [Array.append_empty];exact this
def ZqZ (m:Md) (k:Int):Int × Int:=if ZoS m k=true then (if 1000000000<Zm1 (gW ZqV m) m k.toNat then (0,6) else (Zm1 (gW ZqV m) m k.toNat,0)) else (0,1)
theorem Zq0 (m:Md) (h:Hd) (k:Int) (w:World) (H:Zay w h m):Calls Tryz.prog 50 #[.agg (HM.mk h m),.int .i64 k] w (Zhf w (.int .i64 (ZqZ m k).1) (.int .i64 (ZqZ m k).2)):=by
 have b:Below w.heap.size w (w.alloc (.cells (HM.mk h m) 26)):=by exact bE
 have HA:=Zh (ZoU m h k _ (H.old b));obtain ⟨N,c⟩:∃ r,r=(ZqZ m k).1:=⟨_,rfl⟩;obtain ⟨O,f⟩:∃ r,r=(ZqZ m k).2:=⟨_,rfl⟩;rw [←c,←f];have HB0:=Zh b;have F:=Zh (Blk.new w (HM.mk h m) 26);have P:=Zh (H.old b);rcases hq:ZoS m k with _|_
 ·rw [hq] at HA;have q:N=0:=by rw [c];unfold ZqZ;rw [hq];rfl
  have s:O=1:=by rw [f];unfold ZqZ;rw [hq];rfl
  have HE:=Zh (And.intro q s);clear b H c f hq q s;go_enter Tryz.func50,Tryz.ntmps50;exact j7
 ·rw [hq] at HA;obtain ⟨L,U,V⟩:=ZoT hq;obtain ⟨k,rfl⟩:∃ d:Nat,k=d:=⟨k.toNat,by omega⟩;have I:k<m.me.length:=by omega
  obtain ⟨v,z⟩:∃ v,v=Zm1 (gW ZqV m) m k:=⟨_,rfl⟩;have q:N=if 1000000000<v then 0 else v:=by rw [c,z];unfold ZqZ;rw [hq,if_pos rfl,Int.toNat_natCast];split<;>rfl
  have s:O=if 1000000000<v then 6 else 0:=by rw [f,z];unfold ZqZ;rw [hq,if_pos rfl,Int.toNat_natCast];split<;>rfl
  have HE:=Zh (And.intro q s);have R:=Zh (fun B M T=>ZoG (B:=B) (M:=M) (h:=h) (ZqY L T) (k+1) k (by omega) I);have S:=Zh z;have J:=@run_makeMap Tryz.prog;clear b H c f hq q s z L;go_enter Tryz.func50,Tryz.ntmps50
  go_upto_region 5 with (go_at_call 100;refine HA.out.mono ?_;rintro e w1 ⟨rfl,hb1⟩;have l:=Zh (Zaf HB0.out hb1);have C:=Zh (P.out.old hb1);have i:=Zh (F.out.old hb1);have W:=i.out.cell 0 (v:=.slice h.co m.cl.length h.cc) rfl;have X:=i.out.cell 1 (v:=.slice h.so m.st.length h.sc) rfl;have Y:=i.out.cell 2 (v:=.slice h.eo m.me.length h.ec) rfl;have Z:=i.out.cell 3 (v:=.int .i64 m.sel) rfl;clear hb1)
  obtain ⟨M,t⟩:∃ M,M=w1.heap.size:=⟨_,rfl⟩;obtain ⟨y,g⟩:∃ y,y=(w1.alloc (.map #[] 0)).alloc (.cells #[.slice h.co m.cl.length h.cc,.slice h.so m.st.length h.sc,.slice h.eo m.me.length h.ec,.int .i64 m.sel,.func (Fn.func 109) #[] #[],.bool false,.map (some M)] 147):=⟨_,rfl⟩;rw [←t,←g];have j:Below w1.heap.size w1 y:=by rw [g];exact bE
  have A:=Zh (Zaf l.out j);have n:=Zh (show w.heap.size≤M by rw [t];have:=l.out.size;exact this);have E:=Zh (show ZnD y (M+1) M h m (.func (Fn.func 109) #[] #[]) false (Zm1 (gW ZqV m) m) fun _=>False from ⟨by rw [g];exact Blk.new' _ _ (by simp [t]),C.out.old j,by
   have:=KnM.made (Zm1 (gW ZqV m) m) w1;rw [←t] at this;rw [g];exact this.old bE⟩)
  clear t g j W X Y Z J
  go_wp2_with (first
   | (go_at_call 110;refine (R.out (M+1) M y _ _ E.out (Znz.refl _)).mono ?_;rintro e w3 ⟨rfl,x,K⟩;rw [←S.out];have D:=Zh x;clear x K)
   | (go_at_call 105;refine (ZnS _ _).mono ?_;rintro e w4 ⟨rfl,G⟩;rw [←HE.out.1,←HE.out.2]))
  go_ret2;exact Zhg rfl rfl (Zaf (D.out.below A.out (Nat.le_refl _) n.out n.out) G)
end
