import Derived.Test.YtfmcclhfnpcokaaGreatG27
import Derived.Test.YtfmcclhfnpcokaaGreatG26
import Derived.Test.YtfmcclhfnpcokaaGreatG23
set_option linter.all false
set_option maxRecDepth 100000
set_option maxHeartbeats 16000000
namespace Go.Proofs.YtfmcclhfnpcokaaGreat
theorem j1{p:Prop}(h:p:=by
 intro n
 induction n with
 | zero=>intro _;rw [Zq8];simp
 | succ n ih=>
  intro hn;have h1:=ih (by omega);have h2:(cdM m n).length≤120:=(ZfQ hm (k:=n) (by omega)).z.2.2;rw [Zra (by omega)];have h3:=Zrm t (cdM m n);have h4:(Zq7 m t n (cdM m n).length).length=(Zq7 m t n 0).length+(ZnP t (cdM m n)).length:=by unfold Zq7;rw [List.take_length];simp [ZnP]
  omega):p:=h
theorem j3{p:Prop}(h:p:=by
 rw [ZrB] at hg hat
 rcases hown'.2 with ⟨rfl,hnm⟩|⟨g,cp,cur,rfl,hq⟩
 ·omega
 ·have:=h (some ⟨g,0,none⟩) cp w' (by unfold Zrz;rw [List.length_append,List.map_append];exact hown') hg (fun b q=>by
   rw [ZrB] at hat
   rcases hat with e|e
   ·exact .inl (e▸q)
   ·right
    rw [e] at q;cases q;exact Nat.le_refl _)
  rwa [List.length_append] at this):p:=h
theorem j6{p:Prop}(h:p:=by
 rw [hq];go_enter Tryz.func74,Tryz.ntmps74
 go_upto_region 1 with fail
 rw [←HW.out];obtain ⟨t0,t1⟩:=Zj9 HT.out
 go_wp2_with fail
 all_goals
  go_ret;exact ZcP (ZcT (by simp)) HB.out):p:=h
theorem j9{p:Prop}(h:p:=by
 rw [Zq9 hj,if_neg,List.append_nil];unfold ZnO;simp only [decide_eq_true_eq];omega):p:=h
section
def ofV (m:Md) (O R:Nat→Option T3) (t:Ty):Option T3:=if t.k=3 then some (ZnU m t) else if t.k=4 then R t.c.toNat else if t.k=2 then O t.c.toNat else some z3
def Zqc (m:Md) (F:Ty→Option T3):T3→List Nat→Option T3
 | a,[]=>some a
 | a,d :: r=>match ZnY F (szC m d) (fsC m d) with|none=>none|some s=>Zqc m F (mxT a s) r
theorem Zqd (m:Md) (V:Nat→Option T3):∀ (l:List Nat) (a:T3),ZnZ m V a l=Zqc m (ZnX m V) a l
 | [],_=>rfl
 | d :: r,a=>by
  unfold ZnZ Zqc;cases ZnY (ZnX m V) (szC m d) (fsC m d) with
  | none=>rfl
  | some s=>exact Zqd m V r _
theorem Zqe {F G:Ty→Option T3}:∀ {l:List Ty}{a s:T3},(∀ t∈l,∀ x,F t=some x→G t=some x)→ZnY F a l=some s→ZnY G a l=some s
 | [],_,_,_,e=>e
 | t :: r,a,s,h,e=>by
  unfold ZnY at e ⊢;cases hf:F t with
  | none=>rw [hf] at e;cases e
  | some x=>rw [hf] at e;rw [h t (by simp) x hf];exact Zqe (fun u b=>h u (by simp [b])) e
theorem Zqf {m:Md} (b:Za2 m=true) {F G:Ty→Option T3} (h:∀ t,Zfk m t→∀ x,F t=some x→G t=some x):∀ {l:List Nat}{a s:T3},(∀ d∈l,d<m.cl.length)→Zqc m F a l=some s→Zqc m G a l=some s
 | [],_,_,_,e=>e
 | d :: r,a,s,hl,e=>by
  unfold Zqc at e ⊢;cases hf:ZnY F (szC m d) (fsC m d) with
  | none=>rw [hf] at e;cases e
  | some x=>
   rw [hf] at e;rw [Zqe (fun t c=>h t (Zn8 b (hl d (by simp)) t c)) hf];exact Zqf b h (fun u f=>hl u (by simp [f])) e
def rfV (m:Md) (V:Nat→Option T3) (c:Nat):Option T3:=ZnX m V ⟨4,c⟩
def Zqg (f:Nat→Option T3) (c:Nat) (x:Option T3):Nat→Option T3:=fun j=>if j=c then x else f j
abbrev Tbs:=(Nat→Option T3) × (Nat→Option T3)
def stepO (m:Md) (s:Tbs) (c:Nat):Tbs:=if (s.1 c).isSome then s else (Zqg s.1 c (Zqc m (ofV m s.1 s.2) z3 (ZnW m c)),s.2)
def stepR (m:Md) (s:Tbs) (c:Nat):Tbs:=if (s.2 c).isSome then s else (s.1,Zqg s.2 c (rfV m s.1 c))
def Zqh (m:Md) (s:Tbs) (c:Nat):Tbs:=stepR m (stepO m s c) c
def Zqi (m:Md):Tbs→List Nat→Tbs
 | s,[]=>s
 | s,c :: r=>Zqi m (Zqh m s c) r
structure Snd (m:Md) (s:Tbs):Prop where
 o:∀ c x,s.1 c=some x→c<m.cl.length∧Zn1 m c=some x
 r:∀ c x,s.2 c=some x→c<m.cl.length∧rfV m (Zn1 m) c=some x
theorem Zqj {m:Md}{s:Tbs} (H:Snd m s) {t:Ty} (d:Zfk m t) {x:T3} (e:ofV m s.1 s.2 t=some x):Zn2 m t=some x:=by
 unfold ofV at e;unfold Zn2 ZnX;by_cases q3:t.k=3
 ·rw [if_pos q3] at e ⊢;exact e
 rw [if_neg q3] at e ⊢;by_cases q2:t.k=2
 ·rw [if_neg (by omega),if_pos q2] at e;rw [if_pos q2];exact (H.o _ _ e).2
 rw [if_neg q2];by_cases q4:t.k=4
 ·rw [if_pos q4] at e;have h:=(H.r _ _ e).2;have a:=ZfH d (.inr q4);have b:(⟨4,(t.c.toNat:Nat)⟩:Ty)=t:=by obtain ⟨k,c⟩:=t;dsimp only at q4 a ⊢;subst q4;rw [Int.toNat_of_nonneg a.1]
  unfold rfV ZnX at h;rw [b,if_neg q3,if_neg q2] at h;exact h
 ·rw [if_neg q4,if_neg q2] at e;rw [if_neg q4];exact e
theorem Zqk {m:Md} (b:Za2 m=true) {c:Nat} (a:c<m.cl.length):Zn1 m c=Zqc m (Zn2 m) z3 (ZnW m c):=by rw [Zoj b a,Zqd];rfl
theorem Snd.stepO {m:Md} (hm:Za2 m=true) {s:Tbs} (H:Snd m s) {c:Nat} (hc:c<m.cl.length):Snd m (stepO m s c):=by
 unfold Proofs.YtfmcclhfnpcokaaGreat.stepO;split
 ·exact H
 ·refine ⟨fun j x e=>?_,H.r⟩;dsimp only [Zqg] at e;split at e
  ·rename_i q;subst q;refine ⟨hc,?_⟩;rw [Zqk hm hc];exact Zqf hm (fun t b x e=>Zqj H b e) (fun d a=>Zn7 a) e
  ·exact H.o j x e
theorem Snd.stepR {m:Md}{s:Tbs} (H:Snd m s) {c:Nat} (hc:c<m.cl.length):Snd m (stepR m s c):=by
 unfold Proofs.YtfmcclhfnpcokaaGreat.stepR;split
 ·exact H
 ·refine ⟨H.o,fun j x e=>?_⟩;dsimp only [Zqg] at e;split at e
  ·rename_i q;subst q;exact ⟨hc,Zn4 (fun d y a=>(H.o d y a).2) _ x e⟩
  ·exact H.r j x e
theorem Snd.round {m:Md} (hm:Za2 m=true):∀ {l:List Nat}{s:Tbs},(∀ c∈l,c<m.cl.length)→Snd m s→Snd m (Zqi m s l)
 | [],_,_,H=>H
 | c :: r,s,hl,H=>Snd.round (s:=Zqh m s c) hm (fun d a=>hl d (by simp [a])) ((H.stepO hm (hl c (by simp))).stepR (hl c (by simp)))
def LeS (s u:Tbs):Prop:=Le s.1 u.1∧Le s.2 u.2
theorem LeS.refl (s:Tbs):LeS s s:=⟨fun _ _ e=>e,fun _ _ e=>e⟩
theorem LeS.trans {a b c:Tbs} (h:LeS a b) (g:LeS b c):LeS a c:=⟨fun j x e=>g.1 j x (h.1 j x e),fun j x e=>g.2 j x (h.2 j x e)⟩
structure Has (m:Md) (s:Tbs) (V W:Nat→Option T3):Prop where
 o:∀ c,c<m.cl.length→∀ x,V c=some x→s.1 c=some x
 r:∀ c,c<m.cl.length→∀ x,rfV m W c=some x→s.2 c=some x
theorem Has.le {m:Md}{s u:Tbs}{V W:Nat→Option T3} (H:Has m s V W) (h:LeS s u):Has m u V W:=
 ⟨fun c a x e=>h.1 c x (H.o c a x e),fun c a x e=>h.2 c x (H.r c a x e)⟩
end
section
theorem Zql (m:Md) (c:Nat):Asc ((ZnW m c).map fun d:Nat=>(d:Int)):=by unfold Asc ZnW;rw [List.pairwise_map];refine List.Pairwise.filter _ ?_;refine List.Pairwise.imp ?_ (List.pairwise_lt_range (n:=m.cl.length));intro a b h;omega
theorem Zqm {m:Md}{c:Nat}{l:List Int} (h:∀ x:Int,x∈l↔∃ d∈ZnW m c,x=(d:Int)):ZaN l=(ZnW m c).map fun d:Nat=>(d:Int):=by refine (ZdA (Zql m c) fun x=>?_).symm;rw [h x,List.mem_map];exact ⟨fun ⟨d,hd,e⟩=>⟨d,hd,e.symm⟩,fun ⟨d,hd,e⟩=>⟨d,hd,e.symm⟩⟩
theorem Zqn {m:Md}{c d:Nat}:d∈ZnW m c↔d<m.cl.length∧ZaI m (d+1) d c=true∧ZnV m d=true:=by unfold ZnW;rw [List.mem_filter,List.mem_range,Bool.and_eq_true]
theorem Zqo (l:List Int) (n a:Int):ZnR (l++[n]) a=Zmt (ZnR l a) n:=by simp [ZnR]
theorem Zqp (l:List Int) (n:Int) (a:T3):ZnT (l++[n]) a=mxT (ZnT l a) (ZnG n true):=by simp [ZnT]
theorem Zqq {F:Ty→Option T3}:∀ (l:List Ty) (t:Ty) (a:T3),ZnY F a (l++[t])=match ZnY F a l with|none=>none|some s=>match F t with|none=>none|some x=>some (plT s x)
 | [],t,a=>by
  show ZnY F a [t]=_;unfold ZnY;cases F t with
  | none=>rfl
  | some x=>rfl
 | u :: r,t,a=>by
  show ZnY F a (u :: (r++[t]))=_;unfold ZnY;cases F u with
  | none=>rfl
  | some x=>exact Zqq r t _
theorem Zqr {m:Md}{F:Ty→Option T3}:∀ (l:List Nat) (d:Nat) (a:T3),Zqc m F a (l++[d])=match Zqc m F a l with|none=>none|some b=>match ZnY F (szC m d) (fsC m d) with|none=>none|some s=>some (mxT b s)
 | [],d,a=>by
  show Zqc m F a [d]=_;unfold Zqc;cases ZnY F (szC m d) (fsC m d) with
  | none=>rfl
  | some x=>rfl
 | u :: r,d,a=>by
  show Zqc m F a (u :: (r++[d]))=_;unfold Zqc;cases ZnY F (szC m u) (fsC m u) with
  | none=>rfl
  | some x=>exact Zqr r d _
end
section
def Zqs (m:Md) (c j:Nat):List Nat:=(List.range j).filter fun d=>ZaI m (d+1) d c&&ZnV m d
theorem Zqt (m:Md) (c j:Nat):Zqs m c (j+1)=Zqs m c j++if (ZaI m (j+1) j c&&ZnV m j)=true then [j] else []:=by
 unfold Zqs;rw [List.range_succ,List.filter_append];congr 1;cases h:(ZaI m (j+1) j c&&ZnV m j)<;>simp [h]
def Zqu (m:Md) (c j:Nat) (a:T3):Prop:=Zqc m (Zn2 m) z3 (Zqs m c j)=some a∧BdT a
theorem Zqu.zero (m:Md) (c:Nat):Zqu m c 0 z3:=⟨rfl,.z⟩
theorem Zqu.skip {m:Md}{c j:Nat}{a:T3} (h:Zqu m c j a) (hn:(ZaI m (j+1) j c&&ZnV m j)=false):Zqu m c (j+1) a:=by refine ⟨?_,h.2⟩;rw [Zqt,if_neg (by rw [hn];decide),List.append_nil];exact h.1
theorem Zqu.next {m:Md}{c j:Nat}{a s:T3} (h:Zqu m c j a) (hn:(ZaI m (j+1) j c&&ZnV m j)=true) (hs:ZnY (Zn2 m) (szC m j) (fsC m j)=some s) (hb:BdT s):Zqu m c (j+1) (mxT a s):=by refine ⟨?_,h.2.mx hb⟩;rw [Zqt,if_pos hn,Zqr,h.1,hs]
theorem Zqu.fin {m:Md} (hm:Za2 m=true) {c:Nat} (hc:c<m.cl.length) {a:T3} (h:Zqu m c m.cl.length a):Zn1 m c=some a:=by rw [Zqk hm hc];exact h.1
def Zqv (m:Md) (z:T3) (l:List Ty) (i:Nat) (a:T3):Prop:=ZnY (Zn2 m) z (l.take i)=some a∧BdT a
theorem Zqv.zero {m:Md}{z:T3}{l:List Ty} (h:BdT z):Zqv m z l 0 z:=⟨rfl,h⟩
theorem Zqv.next {m:Md}{z:T3}{l:List Ty}{i:Nat}{a x:T3} (h:Zqv m z l i a) (hi:i<l.length) (hx:Zn2 m (l.getD i default)=some x) (hb:BdT x):Zqv m z l (i+1) (plT a x):=by refine ⟨?_,h.2.pl hb⟩;rw [Zam _ _ hi,Zqq,h.1,hx]
theorem Zqv.fin {m:Md}{z:T3}{l:List Ty}{a:T3} (h:Zqv m z l l.length a):ZnY (Zn2 m) z l=some a:=by have:=h.1;rwa [List.take_length] at this
def Zqw (l:List Int) (i:Nat) (a:T3):Prop:=ZnT (l.take i) z3=a
theorem Zqw.next {l:List Int}{i:Nat}{a:T3} (h:Zqw l i a) (hi:i<l.length):Zqw l (i+1) (mxT a (ZnG (l.getD i 0) true)):=by unfold Zqw at h ⊢;rw [Zam l i hi,Zqp,h];rfl
theorem Zqw.bd {l:List Int} (hl:∀ n∈l,0≤n∧n≤48) {i:Nat}{a:T3} (h:Zqw l i a):BdT a:=by rw [←h];exact ZpA .z fun n b=>hl n (List.mem_of_mem_take b)
def Zqx (l:List Int) (i:Nat):Int:=ZnR ((l.take i).drop 1) (l.getD 0 0)
theorem Zqy {l:List Int}:Zqx l 1=l.getD 0 0:=by
 unfold Zqx;cases l with
 | nil=>rfl
 | cons a r=>rfl
theorem Zqz {l:List Int}{i:Nat} (b:0<i) (a:i<l.length):Zqx l (i+1)=Zmt (Zqx l i) (l.getD i 0):=by unfold Zqx;rw [Zam l i a,List.drop_append_of_le_length (by simp;omega),Zqo];rfl
theorem ZqA {l:List Int} (c:∀ n∈l,0≤n∧n≤48) (h:0<l.length):Zqx l l.length=ZnR l 0:=by
 cases l with
 | nil=>simp at h
 | cons a r=>
  have b:=(c a (by simp)).1;unfold Zqx ZnR;rw [List.take_length];show r.foldl Zmt a=r.foldl Zmt (Zmt 0 a);rw [show Zmt 0 a=a by unfold Zmt;rw [if_pos b]]
end
section
theorem ZqB {m:Md} (a:Za2 m=true) {c:Nat} (b:c<m.cl.length) (d:0≤m.sup c):ZaI m (c+1) c (m.sup c)=true:=by have h:=Znw a c (by omega) (by omega);unfold ZaI;rw [if_pos (by omega)];exact ZnA m _ _
theorem ZqC {m:Md} (f:Za2 m=true) {c:Nat} (l:c<m.cl.length) (g:0≤m.sup c):∀ d∈ZnW m c,d∈ZnW m (m.sup c).toNat:=by intro d a;unfold ZnW at a ⊢;rw [List.mem_filter] at a ⊢;have h:=Znw f c (by omega) (by omega);refine ⟨a.1,?_⟩;have e:=a.2;simp only [Bool.and_eq_true] at e ⊢;refine ⟨?_,e.2⟩;rw [Int.toNat_of_nonneg g];have o:=List.mem_range.1 a.1;have k:=ZnC (Znw f) (b:=(c:Int)) (c:=m.sup c) (by omega) g (by rw [Int.toNat_natCast];exact ZqB f l g) m.cl.length (d:Int) (by omega) (Nat.le_refl _) (by omega) (by rw [Int.toNat_natCast];exact e.1);rwa [Int.toNat_natCast] at k
theorem ZqD {m:Md} (f:Za2 m=true) {c d:Nat} (a:c<m.cl.length) (b:d∈ZnW m c) {x:T3} (e:Zn1 m c=some x):∃ s,ZnY (Zn2 m) (szC m d) (fsC m d)=some s∧LeT s x:=by rw [Zoj f a] at e;obtain ⟨s,g,k⟩:=ZpJ f (fun _ a _ e=>ZpH f a e) BdT.z (fun d b=>Zn7 b) e b;exact ⟨s,g,k⟩
theorem ZqE {m:Md} (a:Za2 m=true) {c:Nat} (f:c<m.cl.length) (l:0≤m.sup c) {y:T3} (e:Zn1 m (m.sup c).toNat=some y):∃ x,Zn1 m c=some x∧LeT x y:=by
 have h:=Znw a c (by omega) (by omega);have g:(m.sup c).toNat<m.cl.length:=by omega
 have b:=ZpH a g e;rw [Zoj a f];refine ZpK ⟨b.1.1,b.2.1.1,b.2.2.1⟩ fun d k=>?_;exact ZqD a g (ZqC a f l d k) e
theorem ZqF {m:Md}{c:Nat} (a:c<m.cl.length) (d:(⟨2,c⟩:Ty)∈fsC m c) (e:ZnV m c=true):Zn1 m c=none:=by
 have b:Dep m c c:=by
  refine ⟨c,?_,⟨2,c⟩,d,?_⟩
  ·unfold ZnW;rw [List.mem_filter];exact ⟨List.mem_range.2 a,by rw [ZnA,e];rfl⟩
  ·exact ⟨.inl rfl,Int.toNat_natCast c⟩
 exact Zos b (.refl c) _
theorem ZqG {m:Md}{k:Nat}{t:Ty} (h:t∈ZeH (m.me.getD k default)) (a:Zn2 m t=none) (p:Nat):ZpO m k p=none:=by unfold ZpO;exact Zom (List.mem_append.2 (.inl h)) a
theorem ZqH {m:Md} (b:Za2 m=true) {k:Nat} (a:k<m.me.length) {t:Ty} (h:t∈ZeH (m.me.getD k default)) (c:Zn2 m t=none):ZpR m k=none:=by rw [ZpX b a];unfold ZpQ ZpP;rw [ZqG h c]
theorem ZqI {m:Md} (e:Za2 m=true) {c k:Nat} (a:c<m.cl.length) (d:k<m.me.length) (b:(⟨2,c⟩:Ty)∈fsC m c) (f:ZnV m c=true) (h:(⟨2,c⟩:Ty)∈ZeH (m.me.getD k default)):ZpR m k=none:=by refine ZqH e d h ?_;unfold Zn2 ZnX;rw [if_neg (show ¬ (2:Int)=3 by decide),if_pos rfl,Int.toNat_natCast];exact ZqF a b f
end
section
open Go.RowKit
theorem Zp9.nil {m:Md}{t:Ty} (h:Zp9 m [] t):Zn2 m t=none:=by obtain ⟨d,a,b⟩:=h;exact Zol a b.nil
def okL (m:Md):Prop:=(Zmk m).2.2=0
instance (m:Md):Decidable (okL m):=inferInstanceAs (Decidable (_=_))
instance (m:Md) (t:Ty):Decidable (Zfk m t):=inferInstanceAs (Decidable (_=true))
theorem okL.v {m:Md} (h:okL m):Za2 m=true:=by
 unfold okL Zmk at h;split at h
 ·assumption
 ·cases h
def ZqJ (m:Md) (t:Ty):T3 × Int:=if okL m∧Zfk m t then Zph (Zn2 m t) else (z3,1)
def ZqK (m:Md) (k:Int):T3 × Int:=if okL m∧0≤k∧k<m.me.length then Zph (ZpR m k.toNat) else (z3,1)
def ZqL (m:Md) (j:Nat):List Int:=((List.range j).filter fun c=>(Zn1 m c).isNone).map fun c:Nat=>(c:Int)
theorem ZqM (m:Md) (j:Nat):ZqL m (j+1)=ZqL m j++if (Zn1 m j).isNone=true then [(j:Int)] else []:=by
 unfold ZqL;rw [List.range_succ,List.filter_append,List.map_append];congr 1;cases h:(Zn1 m j).isNone<;>simp [h]
theorem ZqN {m:Md}{j c:Nat}:(c:Int)∈ZqL m j↔c<j∧Zn1 m c=none:=by
 unfold ZqL;simp only [List.mem_map,List.mem_filter,List.mem_range,Option.isNone_iff_eq_none];constructor
 ·rintro ⟨d,⟨a,b⟩,e⟩;have:d=c:=by omega
  subst this;exact ⟨a,b⟩
 ·rintro ⟨a,b⟩;exact ⟨c,⟨a,b⟩,rfl⟩
theorem ZqO {v:Option T3}{r:T3 × Int} (h:Zph v=r) (e:r.2=0):∃ x,v=some x∧r.1=x∧x.1≤1000000000∧x.2.1≤1000000000∧x.2.2≤1000000000:=by
 subst h;cases v with
 | none=>cases e
 | some x=>
  unfold Zph at e ⊢;dsimp only at e ⊢;cases hb:ZoJ x.1 x.2.1 x.2.2
  ·rw [hb] at e;have:=ZoL hb;exact ⟨x,rfl,rfl,this⟩
  ·rw [hb] at e;cases e
theorem ZqP {x:T3} (h:x.1≤1000000000∧x.2.1≤1000000000∧x.2.2≤1000000000):Zph (some x)=(x,0):=by unfold Zph;dsimp only;rw [if_neg];simp [ZoJ];omega
theorem ZqQ (v:Option T3):(Zph v).2=0∨(Zph v).2=10∨(Zph v).2=6:=by
 cases v with
 | none=>exact .inr (.inl rfl)
 | some x=>
  unfold Zph;dsimp only;split
  ·exact .inr (.inr rfl)
  ·exact .inl rfl
theorem ZqR {m:Md} (a:okL m) {c:Nat} (d:c<m.cl.length):ZqJ m ⟨2,c⟩=Zph (Zn1 m c):=by
 have b:Zfk m ⟨2,c⟩:=by unfold Zfk ZaG;simp;omega
 unfold ZqJ;rw [if_pos ⟨a,b⟩];unfold Zn2 ZnX;simp
theorem ZqS {m:Md} (f:okL m) {c:Nat} (b:c<m.cl.length) (p:0≤m.sup c) (e:(ZqJ m ⟨2,m.sup c⟩).2=0):(ZqJ m ⟨2,c⟩).2=0∧LeT (ZqJ m ⟨2,c⟩).1 (ZqJ m ⟨2,m.sup c⟩).1:=by
 have l:=f.v;have q:m.sup c<c:=(Zc3 (Zip l c b)).2;obtain ⟨d,k⟩:∃ d:Nat,m.sup c=d:=⟨(m.sup c).toNat,by omega⟩;rw [k] at e ⊢;rw [ZqR f (c:=d) (by omega)] at e ⊢;rw [ZqR f b];obtain ⟨y,s,o,t⟩:=ZqO rfl e;have g:Zn1 m (m.sup c).toNat=some y:=by rw [k,Int.toNat_natCast];exact s
 obtain ⟨x,r,a⟩:=ZqE l b p g;rw [r,o,ZqP (x:=x) ⟨by have:=a.1;omega,by have:=a.2.1;omega,by have:=a.2.2;omega⟩];exact ⟨rfl,a⟩
theorem ZqT {m:Md} (a:okL m) {c:Nat} (b:c<m.cl.length) (g:0≤m.sup c):(ZqJ m ⟨2,m.sup c⟩).2=0∨(ZqJ m ⟨2,m.sup c⟩).2=10∨(ZqJ m ⟨2,m.sup c⟩).2=6:=by have f:m.sup c<c:=(Zc3 (Zip a.v c b)).2;obtain ⟨d,e⟩:∃ d:Nat,m.sup c=d:=⟨(m.sup c).toNat,by omega⟩;rw [e,ZqR a (by omega)];exact ZqQ _
end
section
open Go.RowKit
attribute [local go_sem] World.cell?_alloc_some
theorem ZqU (m:Md) (h:Hd) (w:World) (H:Zaz w h m):Calls Tryz.prog 73 #[.agg (HM.mk h m)] w (Ret w (.bool (decide (okL m)))):=by
 obtain ⟨w0,a⟩:∃ w0,w0=w.alloc (.cells (HM.mk h m) 26):=⟨_,rfl⟩;have d:=Zh (show Below w.heap.size w w0 by rw [a];exact bE);have k:=Zh (show Blk w0 w.heap.size (HM.mk h m) 26 by rw [a];exact Blk.new _ _ _);have g:=Zh a;have f:=Zh (Zmn w0 h m (H.old d.out));show Calls _ _ _ w (Ret w (.bool (decide ((Zmk m).2.2=0))));generalize Zmk m=q at f ⊢;obtain ⟨l,o,r⟩:=q;clear a H;go_enter Tryz.func73,Tryz.ntmps73
 go_upto_region 1 with fail
 rw [←g.out];obtain ⟨t,u,v,x⟩:=Zj8 k.out
 go_wp2_with (go_at_call 110;refine f.out.mono ?_;rintro e s ⟨rfl,b⟩;have c:=Zh (Zag d.out b);clear b)
 all_goals
  go_ret;exact ZcP (ZcT (by first|rfl|simp)) c.out
def ZqV (m:Md) (t:Ty) (least:Int):Bool:=decide (least≤t.k)&&decide (t.k≤4)&&(Za2 m&&ZaG m.cl.length t 1)
theorem ZqW (m:Md) (h:Hd) (t:Ty) (a:Int) (w:World) (H:Zaz w h m):Calls Tryz.prog 74 #[.agg (HM.mk h m),.agg #[.int .i64 t.k,.int .i64 t.c],.int .i64 a] w (Ret w (.bool (ZqV m t a))):=by
 obtain ⟨w0,d⟩:∃ w0,w0=(w.alloc (.cells (HM.mk h m) 26)).alloc (.cells #[.int .i64 t.k,.int .i64 t.c] 38):=⟨_,rfl⟩;have HB:=Zh (show Below w.heap.size w w0 by rw [d];exact bE);have s:=Zh (show Blk w0 w.heap.size (HM.mk h m) 26 by rw [d];exact (Blk.new _ _ _).alloc _);have HT:=Zh (show Blk w0 (w.heap.size+1) #[.int .i64 t.k,.int .i64 t.c] 38 by rw [d];exact Blk.new' (w:=w.alloc _) _ _ (by simp));have HW:=Zh d;have l:=Zh (ZnF m h t t w0 (H.old HB.out));obtain ⟨b,o⟩:∃ b,b=(Za2 m&&ZaG m.cl.length t 1):=⟨_,rfl⟩;have q:(Znx m t t).2=if b=true then 0 else 1:=by
  rw [o];unfold Znx;cases Za2 m<;>cases ZaG m.cl.length t 1<;>rfl
 generalize Znx m t t=r at l q;obtain ⟨u,v⟩:=r;dsimp only at q;subst q;unfold ZqV;rw [←o];obtain ⟨k,c⟩:=t;dsimp only at s HT HW l ⊢;clear d H o;by_cases h1:k<a
 ·have hq:decide (a≤k)=false:=decide_eq_false (by omega);exact j6
 ·have hq:decide (a≤k)=true:=decide_eq_true (by omega);rw [hq];by_cases h2:4<k
  ·have hq:decide (k≤4)=false:=decide_eq_false (by omega);exact j6
  ·have hq:decide (k≤4)=true:=decide_eq_true (by omega);rw [hq];go_enter Tryz.func74,Tryz.ntmps74
   go_upto_region 1 with fail
   rw [←HW.out];obtain ⟨y,z,A,B⟩:=Zj8 s.out;obtain ⟨t0,t1⟩:=Zj9 HT.out
   go_wp2_with (go_at_call 134;refine l.out.mono ?_;rintro e x ⟨rfl,f⟩;have g:=Zh (Zag HB.out f);clear f)
   all_goals
    go_ret;exact ZcP (ZcT (by cases b<;>simp)) g.out
theorem ZqX {d:Nat} (a:d<10):ZaR false ⟨14,d,0⟩=true:=by
 have:∀ d:Fin 10,ZaR false ⟨14,(d.val:Int),0⟩=true:=by decide
 exact this ⟨d,a⟩
theorem ZqY {n:Int} (a:0≤n) (b:n≤48):ZaR false ⟨15,n,0⟩=true:=by
 obtain ⟨k,rfl⟩:∃ k:Nat,n=k:=⟨n.toNat,by omega⟩;have:∀ d:Fin 49,ZaR false ⟨15,(d.val:Int),0⟩=true:=by decide
 exact this ⟨k,by omega⟩
theorem ZqZ (m:Md) (h:Hd) (i:In3) (w:World) (H:Zaz w h m) (X:okL m) (Z:ZaR false i=true) (l:i.op=14∨i.op=15) (G:i.op=14→i.a<m.cl.length) (Y:ZnJ m i):Calls Tryz.prog 149 #[.agg (HM.mk h m),ZI.i i] w (Zhi w (ag3 (szV m i)) (.int .i64 0)):=by
 obtain ⟨w0,f⟩:∃ w0,w0=(((w.alloc (.cells (HM.mk h m) 26)).alloc (.cells #[.int .i64 i.op,.int .i64 i.a,.int .i64 i.b] 72)).alloc (.cells #[.int .i64 0,.int .i64 0,.int .i64 0] 45)):=⟨_,rfl⟩;have B:=Zh (show Below w.heap.size w w0 by rw [f];exact bE);have F:=Zh (show Blk w0 w.heap.size (HM.mk h m) 26 by rw [f];exact ((Blk.new _ _ _).alloc _).alloc _);have k:=Zh (show Blk w0 (w.heap.size+1) #[.int .i64 i.op,.int .i64 i.a,.int .i64 i.b] 72 by rw [f];exact (Blk.new' (w:=w.alloc _) _ _ (by simp)).alloc _);have HR:=Zh (show Blk w0 (w.heap.size+2) #[.int .i64 0,.int .i64 0,.int .i64 0] 45 by rw [f];exact Blk.new' (w:=(w.alloc _).alloc _) _ _ (by simp));have T:=Zh f;have R:=Zh (Zmn w0 h m (H.old B.out));have E:=Zh (Zdk i false);rw [Z] at E;have C:=Zh (fun w' (hb:Below w0.heap.size w0 w')=>ZnK m h i w' (H.old (Zag B.out hb)) Y);have o:(Zmk m).2.2=0:=X;generalize Zmk m=q at R o;obtain ⟨q1,q2,q3⟩:=q;dsimp only at o;subst o;generalize szV m i=v at C ⊢;obtain ⟨v0,v1,v2⟩:=v;unfold ag3 at C ⊢;obtain ⟨D,a,b⟩:=i;dsimp only at F k T E C l G ⊢;clear f H X Z Y;have W:(D == 16)=false:=by
  have:D≠16:=by omega
  simpa using this
 have t:D=14∧a<m.cl.length∨(D == 14)=false:=by
  rcases l with q|q
  ·exact .inl ⟨q,G q⟩
  ·right;rw [q];rfl
 clear l G;rcases t with ⟨rfl,ae⟩|af
 all_goals
  go_enter Tryz.func149,Tryz.ntmps149
  go_upto_region 1 with fail
  rw [←T.out];obtain ⟨N,O,P,Q⟩:=Zj8 F.out
  go_wp2_with (first
   | (go_at_call 110;refine R.out.mono ?_;rintro e w1 ⟨rfl,s⟩;have g:=Zh s;clear s N O P Q;have J:=(k.out.old g.out).cell 0 (v:=.int .i64 _) rfl;have K:=(k.out.old g.out).cell 1 (v:=.int .i64 a) rfl;have L:=(k.out.old g.out).cell 2 (v:=.int .i64 b) rfl)
   | (go_at_call 209;refine (E.out _).mono ?_;rintro e w2 ⟨rfl,u⟩;have d:=Zh (Zag g.out u);clear u J K L;have J:=(k.out.old d.out).cell 0 (v:=.int .i64 _) rfl;have K:=(k.out.old d.out).cell 1 (v:=.int .i64 a) rfl;have L:=(k.out.old d.out).cell 2 (v:=.int .i64 b) rfl;obtain ⟨N,O,P,Q⟩:=Zj8 (F.out.old d.out))
   | (go_at_call 210;refine (C.out _ d.out).mono ?_;rintro e w3 ⟨rfl,A⟩;have r:=Zh (Zag d.out A);clear A J K L N O P Q;have c:=Zh (HR.out.old r.out);have f0:=c.out.frozen 0;have f1:=c.out.frozen 1;have f2:=c.out.frozen 2;have r0:=c.out.cell 0 (v:=.int .i64 0) rfl;have r1:=c.out.cell 1 (v:=.int .i64 0) rfl;have r2:=c.out.cell 2 (v:=.int .i64 0) rfl))
  have I:=Zmx (x:=v0) (y:=v1) (z:=v2) c.out;have z0:=I.c3.1;have z1:=I.c3.2.1;have z2:=I.c3.2.2;exact bodyPost_ret (v:=.tuple #[.agg #[.int .i64 v0,.int .i64 v1,.int .i64 v2],.int .i64 0]) (by simp [results,Tryz.results149,go_sem,z0,z1,z2]) rfl ⟨rfl,Zmz (Zag B.out r.out) _ _ _ (by have:=B.out.size;omega)⟩
theorem Zq0 {m:Md} (b:Za2 m=true) {d:Nat} (a:d<m.cl.length):szV m ⟨14,d,0⟩=szC m d∧ZnJ m ⟨14,d,0⟩:=by
 refine ⟨by simp [szV,szC,fsC],⟨fun _=>⟨by show (0:Int)≤d;omega,by show (d:Int) < _;omega,?_⟩,fun q=>?_⟩⟩
 ·have c:(m.cl.getD d default).f.length≤7:=by have:=Zip b d a;simp only [ZaL,Bool.and_eq_true,decide_eq_true_eq] at this;omega
  show (m.cl.getD (d:Int).toNat default).f.length≤100000;rw [Int.toNat_natCast];omega
 ·rcases q with q|q<;>cases q
theorem Zq1 {m:Md}{n:Int} (a:0≤n) (b:n≤48):szV m ⟨15,n,0⟩=ZnG n true∧ZnJ m ⟨15,n,0⟩:=by refine ⟨by simp [szV],?_⟩;unfold ZnJ;exact ⟨fun q=>by simp at q,fun _=>⟨a,by dsimp only;omega⟩⟩
theorem Zq2 (m:Md) (h:Hd) (d:Nat) (w:World) (H:Zaz w h m) (a:okL m) (c:d<m.cl.length):Calls Tryz.prog 149 #[.agg (HM.mk h m),.agg #[.int .i64 14,.int .i64 d,.int .i64 0]] w (Zhi w (ag3 (szC m d)) (.int .i64 0)):=by have b:=Zq0 a.v c;have:=ZqZ m h ⟨14,d,0⟩ w H a (ZqX (by have:=(Zir a.v).1;omega)) (.inl rfl) (fun _=>by show (d:Int) < _;omega) b.2;rwa [b.1] at this
theorem Zq3 (m:Md) (h:Hd) (n:Int) (w:World) (H:Zaz w h m) (d:okL m) (a:0≤n) (b:n≤48):Calls Tryz.prog 149 #[.agg (HM.mk h m),.agg #[.int .i64 15,.int .i64 n,.int .i64 0]] w (Zhi w (ag3 (ZnG n true)) (.int .i64 0)):=by have c:=Zq1 (m:=m) a b;have:=ZqZ m h ⟨15,n,0⟩ w H d (ZqY a b) (.inr rfl) (fun q=>by cases q) c.2;rwa [c.1] at this
theorem Zq4 (l:List Int) (ao:Option Addr) (cap:Nat) (w:World) (r:Zas w ao cap l) (z:0<l.length) (D:l.length≤1000000):Calls Tryz.prog 135 #[.slice ao l.length cap] w (Ret w (.int .i64 (Zqx l l.length))):=by
 have s:=Zh r;obtain ⟨t,f,p⟩:=ZaC r z;subst f;have d:w.cell? t=some (.int .i64 (l.getD 0 0)):=p;obtain ⟨F,a⟩:∃ v,v=l.getD 0 0:=⟨_,rfl⟩;rw [←a] at d;have c:=Zh a;clear p a;have A:(0:Int) < l.length:=by omega
 have q:¬ (l.length:Int) < 1:=by omega
 go_enter Tryz.func135,Tryz.ntmps135;go_wp2
 go_loop [3,4] (fun x i=>∃ k:Nat,1≤k∧k≤l.length∧i=.int .i64 k∧x=.int .i64 (Zqx l k)) (fun _ i=>l.length-(intOf i).toNat)
 case atStart=>exact ⟨1,by omega,by omega,rfl,by rw [Zqy,←c.out]⟩
 case round=>
  obtain ⟨k,B,E,rfl,rfl⟩:=hrel;by_cases hkl:k<l.length
  ·have b:(k:Int) < l.length:=by omega
   have C:IntKind.i64.wrap ((k:Int)+1)=((k+1:Nat):Int):=IntWalk.i64_in _ (by omega);obtain ⟨u,e,y⟩:=ZaC s.out hkl;cases e;have o:=Zh (Zqz (l:=l) (by omega) hkl);generalize l.getD k 0=x at y o;go_wp2
   all_goals
    go_round
    case rel=>exact ⟨k+1,by omega,by omega,rfl,by rw [o.out];unfold Zmt;first|rfl|(congr 1;split<;>omega)|(congr 1;omega)⟩
    case measure=>simp [intOf];omega
  ·have b:¬ (k:Int) < l.length:=by omega
   have g:k=l.length:=by omega
   subst g;go_wp2;go_ret;exact ZcP rfl (Below.refl _ _)
end
section
theorem Zq5 (t:Ty) (a b:List In3):ZnP t (a++b)=ZnP t a++ZnP t b:=by simp [ZnP]
theorem Zq6 (t:Ty) (i:In3):ZnP t [i]=if ZnO t i=true then [i.a] else []:=by
 unfold ZnP;cases h:ZnO t i<;>simp [h]
def Zq7 (m:Md) (t:Ty) (i j:Nat):List Int:=((m.me.take i).flatMap fun x=>ZnP t x.k)++ZnP t ((cdM m i).take j)
theorem Zq8 (m:Md) (t:Ty):Zq7 m t 0 0=[]:=by simp [Zq7,ZnP]
theorem Zq9 {m:Md}{t:Ty}{i j:Nat} (a:j<(cdM m i).length):Zq7 m t i (j+1)=Zq7 m t i j++if ZnO t ((cdM m i).getD j default)=true then [((cdM m i).getD j default).a] else []:=by unfold Zq7;rw [Zam _ _ a,Zq5,Zq6,List.append_assoc]
theorem Zra {m:Md}{t:Ty}{i:Nat} (a:i<m.me.length):Zq7 m t (i+1) 0=Zq7 m t i (cdM m i).length:=by unfold Zq7;rw [Zam _ _ a,List.flatMap_append,List.take_length];simp [ZnP,cdM]
theorem Zrb (m:Md) (t:Ty):Zq7 m t m.me.length 0=ZnQ m t:=by unfold Zq7 ZnQ;rw [List.take_length];simp [ZnP]
def Zrc (c:Nat) (i:In3):Bool:=decide (i.op=14∧i.a=c)
def Zrd (m:Md) (c i j:Nat):Bool:=((m.me.take i).any fun x=>x.k.any (Zrc c))||((cdM m i).take j).any (Zrc c)
theorem Zre (m:Md) (c:Nat):Zrd m c 0 0=false:=by simp [Zrd]
theorem Zrf {m:Md}{c i j:Nat} (a:j<(cdM m i).length):Zrd m c i (j+1)=(Zrd m c i j||Zrc c ((cdM m i).getD j default)):=by unfold Zrd;rw [Zam _ _ a,List.any_append];simp only [List.any_cons,List.any_nil,Bool.or_false,Bool.or_assoc]
theorem Zrg {m:Md}{c i:Nat} (a:i<m.me.length):Zrd m c (i+1) 0=Zrd m c i (cdM m i).length:=by unfold Zrd;rw [Zam _ _ a,List.any_append,List.take_length];simp [cdM]
theorem Zrh (m:Md) (c:Nat):Zrd m c m.me.length 0=ZnV m c:=by unfold Zrd ZnV;rw [List.take_length];simp only [List.take_zero,List.any_nil,Bool.or_false];rfl
end
section
open Go.RowKit
attribute [local go_sem] World.cell?_alloc_some
theorem Zri {κ:Type} [DecidableEq κ] {enc:κ→Value}{g e:TypeId} (K:Znk g enc) {t:TypeId} (p:Tryz.prog.underlying t=some (.map g e)) {z:Value} (r:∀ w,(zeroValue e).run Tryz.prog w=.ok z w) {o:Oper} (m x:Operand) (d:Bool) (c:o.op=Op.lookup t m x d) {b:Operand→Value}{M:Nat}{f:κ→Option Value} (l:b m=.map (some M)) (k:κ) (q:b x=enc k) {w:World} (H:MpF enc w M f) :
  (execOp b o).run Tryz.prog w=.ok (.value (if d then .tuple #[(f k).getD z,.bool (f k).isSome] else (f k).getD z)) w:=by
 have a:=H.look K p (r w) k d;simp [execOp,c,l,q,a,Result.andThen]
theorem Zrj (w:World):(zeroValue 27).run Tryz.prog w=.ok (.slice none 0 0) w:=by kernel_rfl
theorem Zrk (w:World):(zeroValue 4).run Tryz.prog w=.ok (.bool false) w:=by kernel_rfl
theorem Zrl (w:World):(zeroValue 45).run Tryz.prog w=.ok (ag3 z3) w:=by kernel_rfl
theorem MpF.drew {κ:Type} [DecidableEq κ] {enc:κ→Value}{w:World}{M:Nat}{f:κ→Option Value} (H:MpF enc w M f):MpF enc w.drew M f:=H.eq rfl
theorem Zrm (t:Ty) (k:List In3):(ZnP t k).length≤k.length:=by unfold ZnP;rw [List.length_map];exact List.length_filter_le _ _
theorem Zrn {m:Md} (hm:Za2 m=true) (t:Ty):(ZnQ m t).length≤1000000:=by
 have a:∀ n,n≤m.me.length→(Zq7 m t n 0).length≤120*n:=by exact j1
 have:=a m.me.length (Nat.le_refl _);have b:=(Zir hm).2.1;rw [Zrb] at this;omega
section
variable {S:Nat}{M:MsL}{h:Hd}{m:Md}{U:List Nat}
theorem Zro {w:World}{o:Option Value}{l:List Int} (h:Zp2 w o l):∃ ao cap,o.getD (.slice none 0 0)=.slice ao l.length cap∧Zas w ao cap l:=by
 rcases h with ⟨rfl,rfl⟩|⟨ao,cap,rfl,a⟩
 ·exact ⟨none,0,rfl,Zas.nil _⟩
 ·exact ⟨ao,cap,rfl,a⟩
theorem Zrp (J:Za2 m=true) (t:Ty) (ht:Zfk m t) (w:World) (H:Zp4 w S M h m U):Calls Tryz.prog 87 #[ZQ.p S,.agg #[.int .i64 t.k,.int .i64 t.c]] w (Ret w (.int .i64 (ZnS m t))):=by
 obtain ⟨f,I,y⟩:=H.ln;have q:=Zpx J (t:=t);obtain ⟨G,s,C,K⟩:=Zro (y t ht);obtain ⟨w0,g⟩:∃ w0,w0=w.alloc (.cells #[.int .i64 t.k,.int .i64 t.c] 38):=⟨_,rfl⟩;have r:=Zh (show Below w.heap.size w w0 by rw [g];exact bE);have W:=Zh (show Blk w0 w.heap.size #[.int .i64 t.k,.int .i64 t.c] 38 by rw [g];exact Blk.new _ _ _);have Y:=Zh g;have R:=Zh (I.old r.out);have F:=Zh (Znb K (Zna.of r.out));have T:=Zh ((H.bk.old r.out).cell 4 (v:=.map (some M.l)) rfl);have E:=Zh q;have b:=Zh (show ZnS m t=ZnR (ZnQ m t) 0 from rfl);have x:(ZnQ m t).length≤1000000:=Zrn J t;generalize ZnS m t=lo at b ⊢;generalize ZnQ m t=l at C F E b x;have X:=Zh C;clear g I y K H q C;go_enter Tryz.func87,Tryz.ntmps87
 go_upto_region 1 with fail
 rw [←Y.out];obtain ⟨N,O⟩:=Zj9 W.out;have L:=T.out;refine rO (fun w'=>Cs [(⟨S,4,none⟩,.map (some M.l)),(⟨w.heap.size,0,none⟩,.int .i64 t.k),(⟨w.heap.size,1,none⟩,.int .i64 t.c)] w'∧MpF kT w' M.l f) (oL [0,1,2,3,4,5,6]) ⟨⟨L,N,O,trivial⟩,R.out.drew⟩ ?_;clear L N O
 (refine pO ?_)
 (refine pO ?_)
 (refine pO ?_)
 (refine pO ?_)
 (refine pO ?_)
 refine pO (v:=.slice G l.length s) ?_ (hy:=Or.inl ⟨by rfl,fun w' D=>by rw [←X.out];exact Zri Zno Tryz.underlying173 Zrj _ _ false rfl rfl t rfl D.2⟩)
 (refine pO ?_)
 refine Zd7 ?_;by_cases h0:0<l.length
 ·have A:(0:Int) < l.length:=by omega
  go_wp2_with (go_at_call 135;refine (Zq4 l G s _ (Znb F.out (Zna.of bE)) h0 x).mono ?_;rintro e w1 ⟨rfl,u⟩;have z:=Zh u;clear u)
  go_ret;exact ZcP (by rw [b.out,ZqA E.out h0];rfl) (Zag r.out (Zag bE z.out))
 ·have A:¬ (0:Int) < l.length:=by omega
  have B:l.length=0:=by omega
  have Z:=Zh (List.eq_nil_of_length_eq_zero B)
  go_wp2_with fail
  go_ret;exact ZcP (by rw [b.out,Z.out];rfl) (Zag r.out bE)
end
end
section
open Go.RowKit
attribute [local go_sem] World.cell?_alloc_some
section
variable {S:Nat}{M:MsL}{h:Hd}{m:Md}{U:List Nat}
theorem Zrq (ho:okL m) (t:Ty) (ht:Zfk m t) (w:World) (H:Zp4 w S M h m U):Calls Tryz.prog 136 #[ZQ.p S,.agg #[.int .i64 t.k,.int .i64 t.c]] w (Ret w (ag3 (ZnU m t))):=by
 have hm:=ho.v;obtain ⟨f,hf,L⟩:=H.ln;have HL:=Zh (Zpx hm (t:=t));obtain ⟨ao,al,hv,hr⟩:=Zro (L t ht);obtain ⟨w0,r⟩:∃ w0,w0=((w.alloc (.cells #[.int .i64 t.k,.int .i64 t.c] 38)).alloc (.cells #[.int .i64 0,.int .i64 0,.int .i64 0] 45)).alloc (.cells #[.int .i64 0,.int .i64 0,.int .i64 0] 45):=⟨_,rfl⟩;have HB:=Zh (show Below w.heap.size w w0 by rw [r];exact bE);have HT:=Zh (show Blk w0 w.heap.size #[.int .i64 t.k,.int .i64 t.c] 38 by rw [r];exact ((Blk.new _ _ _).alloc _).alloc _);have HR:=Zh (show Blk w0 (w.heap.size+1) (cl3 0 0 0) 45 by rw [r];exact (Blk.new' (w:=w.alloc _) _ _ (by simp)).alloc _);have HO:=Zh (show Blk w0 (w.heap.size+1+1) (cl3 0 0 0) 45 by rw [r];exact Blk.new' (w:=(w.alloc _).alloc _) _ _ (by simp));have HW:=Zh r;have HF:=Zh (hf.old HB.out);have u:=Zh hr;have W:=Zh H.bk;have aj:=Zh (H.bk.old HB.out);have Hj:=Zh H.md;have HA:=Zh (show ZnU m t=ZnT (ZnQ m t) z3 from rfl);have ap:(ZnQ m t).length≤1000000:=Zrn hm t;generalize ZnU m t=ar at HA ⊢;generalize ZnQ m t=l at hv u HL HA ap;have HV:=Zh hv;have HZ:=Zh (show w.heap.size+1+1<w0.heap.size from HO.out.lt);have aN:=Zh (show S<w.heap.size from H.bk.lt);have ae:=Zh (fun n w' (h':Zaz w' h m) h0 h1=>Zq3 m h n w' h' ho h0 h1);clear r hf L hr H hv hm;obtain ⟨X,hX⟩:∃ X,X=w.heap.size:=⟨_,rfl⟩;have G:=Zh (show w.heap.size≤X by omega);rw [←hX] at HT HR HO HZ;have ak:=Zh hX;clear hX;go_enter Tryz.func136,Tryz.ntmps136
 go_upto_region 2 with fail
 rw [←HW.out,←ak.out];obtain ⟨t0,t1⟩:=Zj9 HT.out;have s4:=aj.out.cell 4 (v:=.map (some M.l)) rfl;refine rO (fun w'=>Cs [(⟨S,4,none⟩,.map (some M.l)),(⟨X,0,none⟩,.int .i64 t.k),(⟨X,1,none⟩,.int .i64 t.c)] w'∧MpF kT w' M.l f) (oL [0,1,2,3,4,5,6,7]) ⟨⟨s4,t0,t1,trivial⟩,HF.out.drew⟩ ?_;clear s4 t0 t1
 (refine pO ?_)
 (refine pO ?_)
 (refine pO ?_)
 (refine pO ?_)
 (refine pO ?_)
 refine pO (v:=.slice ao l.length al) ?_ (hy:=Or.inl ⟨by rfl,fun w' av=>by rw [←HV.out];exact Zri Zno Tryz.underlying173 Zrj _ _ false rfl rfl t rfl av.2⟩)
 (refine pO ?_)
 (refine pO ?_)
 refine Zd7 ?_
 go_wp2_with fail
 go_loopw [17] (fun i wr=>∃ (k:Nat) (a:T3),k≤l.length∧i=.int .i64 k∧Hid (Below w.heap.size w wr)∧Hid (Zqw l k a)∧Hid (Blk wr (X+1) (cl3 0 0 0) 45)∧Hid (Blk wr (X+1+1) (cl3 a.1 a.2.1 a.2.2) 45)) (fun i _=>l.length-(intOf i).toNat)
 case atStart=>exact ⟨0,z3,Nat.zero_le _,rfl,HB.out.drew,rfl,HR.out.drew,HO.out.drew⟩
 case round=>
  obtain ⟨k,a,hk,rfl,g,A,s,q⟩:=hrel;rename World=>wo;by_cases hkl:k<l.length
  ·have K:(k:Int) < l.length:=by omega
   have aX:IntKind.i64.wrap ((k:Int)+1)=((k+1:Nat):Int):=IntWalk.i64_in _ (by omega);obtain ⟨ad,rfl,ck⟩:=ZaC (u.out.old g.out) hkl;have N:=HL.out _ (ZfX (0:Int) hkl);have HN:=Zh (Zqw.next A.out hkl);have HD:=Zh (Zqw.bd HL.out A.out);generalize l.getD k 0=n at ck N HN;have F:=Zh (ZnN (n:=n) (b:=true) N.1 (by omega));have E:=Zh (fun w' (h':Zaz w' h m)=>ae.out n w' h' N.1 N.2);generalize ZnG n true=v at HN F E;obtain ⟨Y,Z,a2⟩:=a;obtain ⟨v0,v1,v2⟩:=v;dsimp only at q;have ag:=Zh (Hj.out.old g.out);have s0:=(W.out.old g.out).cell 0 (v:=.slice h.co m.cl.length h.cc) rfl;have s1:=(W.out.old g.out).cell 1 (v:=.slice h.so m.st.length h.sc) rfl;have s2:=(W.out.old g.out).cell 2 (v:=.slice h.eo m.me.length h.ec) rfl;have s3:=(W.out.old g.out).cell 3 (v:=.int .i64 m.sel) rfl;obtain ⟨O,R,T⟩:=q.out.c3;clear N
   go_wp2_with (first
    | (go_at_call 149;refine (E.out _ ag.out).mono ?_;rintro e w1 ⟨rfl,I⟩;(try simp only [ag3]);have B:=Zh I;clear I O R T s0 s1 s2 s3;obtain ⟨O,R,T⟩:=(q.out.old B.out).c3;have ol:=(q.out.old B.out).lt)
    | (go_at_call 85;refine (Zpf (Y,Z,a2) (v0,v1,v2) _ HD.out F.out).mono ?_;rintro e w2 ⟨rfl,J⟩;(try simp only [ag3]);have C:=Zh (Zag B.out (Zag (show Below w1.heap.size w1 (w1.alloc (.cells #[.int .i64 v0,.int .i64 v1,.int .i64 v2] 45)) by exact bE) J));clear J O R T;have D:=Zh (q.out.old C.out);obtain ⟨O,R,T⟩:=D.out.c3;obtain ⟨f0,f1,f2⟩:=D.out.f3))
   refine ⟨⟨k+1,_,hkl,rfl,Zmz (Zag g.out C.out) _ _ _ (show w.heap.size≤X+1+1 by have:=G.out;omega),HN.out,?_,Zmx D.out⟩,by simp [intOf];omega⟩;exact ((((s.out.old C.out).other (show X+1≠X+1+1 by omega) _).other (show X+1≠X+1+1 by omega) _).other (show X+1≠X+1+1 by omega) _)
  ·have K:¬ (k:Int) < l.length:=by omega
   have an:k=l.length:=by omega
   subst an;have HE:=Zh (show a=ar from by rw [HA.out];have:=A.out;unfold Zqw at this;rw [List.take_length] at this;exact this.symm);obtain ⟨Y,Z,a2⟩:=a;dsimp only at q;obtain ⟨O,R,T⟩:=q.out.c3;obtain ⟨r0,r1,r2⟩:=s.out.c3;obtain ⟨f0,f1,f2⟩:=s.out.f3
   go_wp2_with fail
   have hz:=Zmx (x:=Y) (y:=Z) (z:=a2) s.out;have z0:=hz.c3.1;have z1:=hz.c3.2.1;have z2:=hz.c3.2.2;refine bodyPost_ret (v:=.agg #[.int .i64 Y,.int .i64 Z,.int .i64 a2]) (by simp [results,Tryz.results136,go_sem,z0,z1,z2]) rfl ⟨by rw [←HE.out];rfl,Zmz g.out _ _ _ (show w.heap.size≤X+1 by have:=G.out;omega)⟩
end
end
section
open Go.RowKit
theorem Zrr {w0 w1:World} (c:Zna w0 w1) {B:Nat} (d:w0.heap.size≤B) (i:Nat) (v:Value):Zna w0 (w1.setCell ⟨B,i,none⟩ v):=fun p u a=>by
 have b:=c p u a
 have e:=Zad a
 refine (World.cell?_of_block (w:=w1) (Below.heap_setCell _ _ _ _ (show p.block≠B by omega))).trans b
theorem Zp4.m_ne {w:World}{S:Nat}{M:MsL}{h:Hd}{m:Md}{U:List Nat} (H:Zp4 w S M h m U):M.l ∉ M.s∧M.a ∉ M.s:=by have a:=H.nd;simp only [List.nodup_cons,List.mem_cons,List.not_mem_nil,or_false,not_or,not_false_eq_true,List.nodup_nil,and_true] at a;simp only [MsL.s,List.mem_cons,List.not_mem_nil,or_false,not_or];exact ⟨a.1.2,a.2.1⟩
structure FrO (w0 w:World) (S:Nat) (M:MsL) (h:Hd) (m:Md) (U:List Nat):Prop where
 sz:Zp4 w S M h m U
 up:UpL M.s w0 w
 kp:Zna w0 w
section
variable {w0 w w':World}{S:Nat}{M:MsL}{h:Hd}{m:Md}{U V:List Nat}
theorem FrO.start (H:Zp4 w S M h m U):FrO w w S M h m U:=⟨H,UpL.refl _ _,Zna.refl _⟩
theorem FrO.old (F:FrO w0 w S M h m U) (hb:Below w.heap.size w w'):FrO w0 w' S M h m U:=⟨F.sz.old hb,F.up.trans (UpL.of hb),F.kp.trans (Zna.of hb)⟩
theorem FrO.call (F:FrO w0 w S M h m U) (H:Zp4 w' S M h m V) (hu:UpL M.s w w') (hk:Zna w w'):FrO w0 w' S M h m V:=⟨H,F.up.trans hu,F.kp.trans hk⟩
theorem FrO.set (H0:Zp4 w0 S M h m V) (F:FrO w0 w S M h m U) {B:Nat}{xs:Array Value}{t:TypeId} (hb:Blk w B xs t) (hB:w0.heap.size≤B) (i:Nat) (v:Value):FrO w0 (w.setCell ⟨B,i,none⟩ v) S M h m U:=by obtain ⟨⟨s,I,⟨f,J,u⟩,y,z,⟨g,A,l⟩,⟨k,C,o⟩,D⟩,q,E⟩:=F;have a:=Zrr E hB i v;have p:∀ x,x≠B→(w.setCell ⟨B,i,none⟩ v).heap[x]?=w.heap[x]?:=fun x H=>Below.heap_setCell _ _ _ _ H;have b:=fun {κ:Type} [DecidableEq κ] {enc:κ→Value}{x:Nat}{f:κ→Option Value} (hf:MpF enc w x f)=>hf.eq (w':=w.setCell ⟨B,i,none⟩ v) (p x (fun e=>Zp1 hb hf.map e.symm));refine ⟨⟨(p S (by have:=H0.bk.lt;omega)).trans s,H0.md.keeps a,?_,b y,b z,⟨g,b A,l⟩,⟨k,b C,o⟩,D⟩,q.set hB,a⟩;obtain ⟨r,c,d⟩:=H0.ln;refine ⟨r,c.eq ((p _ (by have:=c.map.lt;omega)).trans (q.block _ c.map.lt H0.m_ne.1)),fun t G=>(d t G).keeps a⟩
theorem FrO.set3 (H0:Zp4 w0 S M h m V) (F:FrO w0 w S M h m U) {B:Nat}{a b c:Int}{t:TypeId} (hb:Blk w B (cl3 a b c) t) (hB:w0.heap.size≤B) (x y z:Int):FrO w0 (((w.setCell ⟨B,0,none⟩ (.int .i64 x)).setCell ⟨B,1,none⟩ (.int .i64 y)).setCell ⟨B,2,none⟩ (.int .i64 z)) S M h m U:=
 FrO.set H0 (FrO.set H0 (FrO.set H0 F hb hB 0 _) (Zmu hb rfl) hB 1 _) (Zmv (Zmu hb rfl) rfl) hB 2 _
theorem FrO.putU (F:FrO w0 w S M h m U) (hg:w.grownBy w' (some M.u)) (hs:MpF kI w' M.u (unF V)):FrO w0 w' S M h m V:=
 ⟨F.sz.putU hg hs,F.up.trans (UpL.grown hg (by simp [MsL.s])),F.kp.trans (Zp0 F.sz.un.map hg)⟩
theorem FrO.putK (F:FrO w0 w S M h m U) (hg:w.grownBy w' (some M.k)) {g:Int→Option Value} (hs:MpF kI w' M.k g) (hok:Zp3 (Zn1 m) m.cl.length g):FrO w0 w' S M h m U:=by obtain ⟨f,a,-⟩:=F.sz.kn;exact ⟨F.sz.putK hg hs hok,F.up.trans (UpL.grown hg (by simp [MsL.s])),F.kp.trans (Zp0 a.map hg)⟩
theorem FrO.putT (F:FrO w0 w S M h m U) (hg:w.grownBy w' (some M.t)) {g:Int→Option Value} (hs:MpF kI w' M.t g) (hok:Zp3 (ZpR m) m.me.length g):FrO w0 w' S M h m U:=by obtain ⟨f,a,-⟩:=F.sz.mt;exact ⟨F.sz.putT hg hs hok,F.up.trans (UpL.grown hg (by simp [MsL.s])),F.kp.trans (Zp0 a.map hg)⟩
theorem FrO.blk (F:FrO w0 w S M h m U) {B:Nat}{xs:Array Value}{t:TypeId} (hb:Blk w0 B xs t) (hn:B ∉ M.s):Blk w B xs t:=F.up.blk hb hn
theorem Zp4.own (H:Zp4 w S M h m U) {B:Nat}{xs:Array Value}{t:TypeId} (hb:Blk w B xs t) (hu:UpL M.s w w'):Blk w' B xs t:=hu.blk hb (H.blk_ne hb)
theorem FrO.val (F:FrO w0 w S M h m U) {v:Option T3}{stuck:Prop}{e:Ending}{x:T3}{ok:Bool} (he:e=.returned (.tuple #[ag3 x,.bool ok])) (hb:BdT x) (h1:ok=true→v=some x) (h2:ok=false→stuck):Zp8 w0 S M h m U v stuck e w:=
 ⟨F.sz,F.up,F.kp,x,ok,he,hb,h1,h2⟩
end
end
section
open Go.RowKit
attribute [local go_sem] World.cell?_alloc_some
section
variable {S:Nat}{M:MsL}{h:Hd}{m:Md}{n:Nat}
theorem Zrs {m:Md}{t:Ty} (q:t.k=3):Zn2 m t=some (ZnU m t):=by unfold Zn2 ZnX;rw [if_pos q]
theorem Zrt {m:Md}{t:Ty} (q:t.k=2):Zn2 m t=Zn1 m t.c.toNat:=by unfold Zn2 ZnX;rw [if_neg (by omega),if_pos q]
theorem Zru {m:Md}{t:Ty} (q:t.k=4) (a:ZnS m t=0):Zn2 m t=some (ZnU m t):=by unfold Zn2 ZnX;rw [if_neg (by omega),if_neg (by omega),if_pos q,if_pos a]
theorem Zrv {m:Md}{t:Ty} (q:t.k=4) (a:ZnS m t≠0) {x:T3} (b:Zn1 m t.c.toNat=some x):Zn2 m t=some (plT (ZnU m t) (mlT x (ZnS m t))):=by unfold Zn2 ZnX;rw [if_neg (by omega),if_neg (by omega),if_pos q,if_neg a,b]
theorem Zrw {m:Md}{t:Ty} (q:t.k≠2∧t.k≠3∧t.k≠4):Zn2 m t=some z3:=by unfold Zn2 ZnX;rw [if_neg q.2.1,if_neg q.1,if_neg q.2.2]
theorem Zrx {w0 w:World}{U V:List Nat} (f:Zp4 w0 S M h m V) (F:FrO w0 w S M h m U) {R:Nat}{a b c:Int} (e:Blk w R (cl3 a b c) 45) (d:w0.heap.size≤R) (x:T3):FrO w0 (((w.setCell ⟨R,0,none⟩ (.int .i64 x.1)).setCell ⟨R,1,none⟩ (.int .i64 x.2.1)).setCell ⟨R,2,none⟩ (.int .i64 x.2.2)) S M h m U∧Blk (((w.setCell ⟨R,0,none⟩ (.int .i64 x.1)).setCell ⟨R,1,none⟩ (.int .i64 x.2.1)).setCell ⟨R,2,none⟩ (.int .i64 x.2.2)) R (cl3 x.1 x.2.1 x.2.2) 45:=
 ⟨FrO.set3 f F e d _ _ _,Zmx e⟩
theorem Zry (ho:okL m) (hc:Zqa S M h m n):Zqb S M h m n:=by
 intro w U t H a4 hU hl ht;have hm:=ho.v;obtain ⟨w0,K⟩:∃ w0,w0=(w.alloc (.cells #[.int .i64 t.k,.int .i64 t.c] 38)).alloc (.cells #[.int .i64 0,.int .i64 0,.int .i64 0] 45):=⟨_,rfl⟩;have HB:=Zh (show Below w.heap.size w w0 by rw [K];exact bE);obtain ⟨X,hX⟩:∃ X,X=w.heap.size:=⟨_,rfl⟩;have HT:=Zh (show Blk w0 X #[.int .i64 t.k,.int .i64 t.c] 38 by rw [K,hX];exact (Blk.new _ _ _).alloc _);have F:=Zh (show Blk w0 (X+1) (cl3 0 0 0) 45 by rw [K,hX];exact Blk.new' (w:=w.alloc _) _ _ (by simp));have HW:=Zh K;have G:=Zh hX;have HX:=Zh (show w.heap.size≤X+1 by omega);have HH:=Zh H;have g:=Zh ((FrO.start H).old HB.out);have HA:=Zh (fun w' U' (h':Zp4 w' S M h m U')=>Zrq ho t ht w' h');have ab:=Zh (fun w' U' (h':Zp4 w' S M h m U')=>Zrp hm t ht w' h');have aR:=Zh ht;have s:=Zpz hm t;have D:=Zh (ZpB hm t);have HC:=Zh (fun w' (d:Nat) (h':Zp4 w' S M h m U) (hd:d<m.cl.length)=>hc w' U d h' a4 hU hl hd);have bx:=Zh (fun (d:Nat) (hd:d<m.cl.length) (x:T3) (e:Zn1 m d=some x)=>ZpH hm hd e);have HN:=Zh (Zir hm).1;obtain ⟨tk,tc⟩:=t;dsimp only at HT F HW HA ab;clear K H hc ho hm a4 hU hl hX;by_cases q3:tk=3
 ·subst q3;have Z:=Zh (Zrs (m:=m) (t:=⟨3,tc⟩) rfl);generalize ZnU m ⟨3,tc⟩=v at HA D Z;clear s;go_enter Tryz.func77,Tryz.ntmps77
  go_upto_region 1 with fail
  rw [←HW.out,←G.out];obtain ⟨B,C⟩:=Zj9 HT.out
  go_wp2_with (go_at_call 136;refine (HA.out _ _ g.out.sz).mono ?_;rintro e y ⟨rfl,q⟩;(try simp only [ag3]);have f:=Zh q;clear q B C;obtain ⟨r0,r1,r2⟩:=(F.out.old f.out).c3;obtain ⟨f0,f1,f2⟩:=(F.out.old f.out).f3)
  have u:=Zrx HH.out (g.out.old f.out) (F.out.old f.out) HX.out v;have z0:=u.2.c3.1;have z1:=u.2.c3.2.1;have z2:=u.2.c3.2.2;exact bodyPost_ret (v:=.tuple #[ag3 v,.bool true]) (by simp [results,Tryz.results77,go_sem,ag3,z0,z1,z2]) rfl (u.1.val rfl D.out (fun _=>Z.out) (fun e=>by cases e))
 by_cases q2:tk=2
 ·subst q2;have J:=ZfH aR.out (.inl rfl);dsimp only at J;obtain ⟨d,rfl⟩:∃ d:Nat,tc=d:=⟨tc.toNat,by omega⟩;have hd:d<m.cl.length:=by omega
  have Z:=Zh (Zrt (m:=m) (t:=⟨2,d⟩) rfl);have ac:=Zh (show Zok m ⟨2,d⟩ d from ⟨.inl rfl,Int.toNat_natCast d⟩);clear s J;go_enter Tryz.func77,Tryz.ntmps77
  go_upto_region 1 with fail
  rw [←HW.out,←G.out];obtain ⟨B,C⟩:=Zj9 HT.out
  go_wp2_with (go_at_call 90;refine (HC.out _ d g.out.sz hd).mono ?_;rintro e y ⟨a5,aD,a0,⟨R,T,W⟩,ok,rfl,I,a7,a2⟩;(try simp only [ag3]);have ax:=Zh (g.out.sz.own F.out aD);have bi:=Zh (g.out.call a5 aD a0);have HE:=Zh (And.intro I (And.intro a7 a2));clear a5 aD a0 I a7 a2 B C;obtain ⟨r0,r1,r2⟩:=ax.out.c3;obtain ⟨f0,f1,f2⟩:=ax.out.f3)
  have u:=Zrx HH.out bi.out ax.out HX.out (R,T,W);have z0:=u.2.c3.1;have z1:=u.2.c3.2.1;have z2:=u.2.c3.2.2;exact bodyPost_ret (v:=.tuple #[ag3 (R,T,W),.bool ok]) (by simp [results,Tryz.results77,go_sem,ag3,z0,z1,z2]) rfl (u.1.val rfl HE.out.1 (fun e=>by rw [Z.out];exact HE.out.2.1 e) (fun e=>⟨d,ac.out,HE.out.2.2 e⟩))
 by_cases q4:tk=4
 ·subst q4;have J:=ZfH aR.out (.inr rfl);dsimp only at J;obtain ⟨d,rfl⟩:∃ d:Nat,tc=d:=⟨tc.toNat,by omega⟩;have hd:d<m.cl.length:=by omega
  have az:=Zh (Zru (m:=m) (t:=⟨4,d⟩) rfl);have Z:=Zh (fun hl x hx=>Zrv (m:=m) (t:=⟨4,d⟩) rfl hl (x:=x) (by rw [Int.toNat_natCast];exact hx));have ac:=Zh (fun (hl:ZnS m ⟨4,d⟩≠0)=>(show Zok m ⟨4,d⟩ d from ⟨.inr ⟨rfl,hl⟩,Int.toNat_natCast d⟩));generalize ZnU m ⟨4,d⟩=v at HA D Z az;generalize ZnS m ⟨4,d⟩=ln at ab Z az ac s;obtain ⟨L,N,O⟩:=v;clear J;by_cases q0:ln=0
  ·subst q0;go_enter Tryz.func77,Tryz.ntmps77
   go_upto_region 1 with fail
   rw [←HW.out,←G.out];obtain ⟨B,C⟩:=Zj9 HT.out
   go_wp2_with (first
    | (go_at_call 136;refine (HA.out _ _ g.out.sz).mono ?_;rintro e y ⟨rfl,q⟩;(try simp only [ag3]);have f:=Zh (Zag q (show Below y.heap.size y (y.alloc (.cells #[.int .i64 L,.int .i64 N,.int .i64 O] 45)) by exact bE));have A:=HT.out.old q;clear B C;have B:=A.cell 0 (v:=.int .i64 4) rfl;have C:=A.cell 1 (v:=.int .i64 d) rfl;clear A q)
    | (go_at_call 87;refine (ab.out _ _ (g.out.old f.out).sz).mono ?_;rintro e w2 ⟨rfl,r⟩;(try simp only [ag3]);have aM:=Zh r;have aj:=(F.out.old f.out).old r;have aX:=(Blk.new y (cl3 L N O) 45).old r;clear r B C;obtain ⟨r0,r1,r2⟩:=aj.c3;obtain ⟨f0,f1,f2⟩:=aj.f3;obtain ⟨g0,g1,g2⟩:=aX.c3;have ay:=Zh aj;clear aj aX))
   have u:=Zrx HH.out ((g.out.old f.out).old aM.out) ay.out HX.out (L,N,O);have z0:=u.2.c3.1;have z1:=u.2.c3.2.1;have z2:=u.2.c3.2.2;exact bodyPost_ret (v:=.tuple #[ag3 (L,N,O),.bool true]) (by simp [results,Tryz.results77,go_sem,ag3,z0,z1,z2]) rfl (u.1.val rfl D.out (fun _=>az.out (by first|rfl|trivial)) (fun e=>by cases e))
  ·have qb:(ln == 0)=false:=by simpa using q0
   have HQ:=Zh q0;have av:=Zh s;go_enter Tryz.func77,Tryz.ntmps77
   go_upto_region 1 with fail
   rw [←HW.out,←G.out];obtain ⟨B,C⟩:=Zj9 HT.out
   go_upto_region 12 with (first
    | (go_at_call 136;refine (HA.out _ _ g.out.sz).mono ?_;rintro e y ⟨rfl,q⟩;(try simp only [ag3]);have f:=Zh (Zag q (show Below y.heap.size y (y.alloc (.cells #[.int .i64 L,.int .i64 N,.int .i64 O] 45)) by exact bE));have bl:=Zh q.size;have A:=HT.out.old q;clear B C;have B:=A.cell 0 (v:=.int .i64 4) rfl;have C:=A.cell 1 (v:=.int .i64 d) rfl;clear A q)
    | (go_at_call 87;refine (ab.out _ _ (g.out.old f.out).sz).mono ?_;rintro e w2 ⟨rfl,r⟩;(try simp only [ag3]);have aM:=Zh r;have ay:=Zh ((F.out.old f.out).old r);have bm:=Zh ((Blk.new y (cl3 L N O) 45).old r);have aB:=(HT.out.old f.out).old r;have aa:=Zh ((g.out.old f.out).old r);clear r B C;have B:=aB.cell 0 (v:=.int .i64 4) rfl;have C:=aB.cell 1 (v:=.int .i64 d) rfl;clear aB)
    | (go_at_call 90;refine (HC.out _ d aa.out.sz hd).mono ?_;rintro e w3 ⟨a6,al,a1,⟨R,T,W⟩,ok,rfl,I,a8,a3⟩;(try simp only [ag3]);have aQ:=Zh (aa.out.sz.own ay.out al);have bn:=Zh (aa.out.sz.own bm.out al);have bj:=Zh (aa.out.call a6 al a1);have HE:=Zh (And.intro I (And.intro a8 a3));clear a6 al a1 I a8 a3 B C))
   obtain ⟨Y,hY⟩:∃ Y,Y=w3.heap.size:=⟨_,rfl⟩;obtain ⟨w4,am⟩:∃ w4,w4=w3.alloc (.cells #[.int .i64 R,.int .i64 T,.int .i64 W] 45):=⟨_,rfl⟩;have ak:Below w3.heap.size w3 w4:=by rw [am];exact bE
   have ah:=Zh (show Blk w4 Y (cl3 R T W) 45 by rw [am,hY];exact Blk.new _ _ _);have ad:=Zh (aQ.out.old ak);have af:=Zh (bn.out.old ak);have bk:=Zh (bj.out.old ak);have E:=Zh (show Y≠X+1∧y.heap.size≠X+1 from ⟨by have:=aQ.out.lt;omega,by have:=F.out.lt;have:=bl.out;omega⟩);rw [←am,←hY];clear am ak hY;have au:=Zh (show ∀ w',Below w4.heap.size w4 w'→Cs [(⟨y.heap.size,0,none⟩,.int .i64 L),(⟨y.heap.size,1,none⟩,.int .i64 N),(⟨y.heap.size,2,none⟩,.int .i64 O),(⟨Y,0,none⟩,.int .i64 R),(⟨Y,1,none⟩,.int .i64 T),(⟨Y,2,none⟩,.int .i64 W)] w' from fun w' hb=>⟨(af.out.old hb).c3.1,(af.out.old hb).c3.2.1,(af.out.old hb).c3.2.2,(ah.out.old hb).c3.1,(ah.out.old hb).c3.2.1,(ah.out.old hb).c3.2.2,trivial⟩);refine rO (Cs [(⟨y.heap.size,0,none⟩,.int .i64 L),(⟨y.heap.size,1,none⟩,.int .i64 N),(⟨y.heap.size,2,none⟩,.int .i64 O),(⟨Y,0,none⟩,.int .i64 R),(⟨Y,1,none⟩,.int .i64 T),(⟨Y,2,none⟩,.int .i64 W)]) (oL [0,1,2,5,103,104,106,7]) (au.out _ (Below.refl _ _).drew) ?_
   (refine pO ?_)
   (refine pO ?_)
   (refine pO ?_)
   (refine pO ?_)
   refine oO fun Kv hK=>?_;go_simp;refine (Zpg (R,T,W) ln _ HE.out.1 av.out.1 (by have:=av.out.2;omega)).mono ?_;rintro e w5 ⟨rfl,aY⟩
   try simp only [ag3]
   have aN:=Zh (Zag (Below.refl _ w4).drew aY);refine hK _ _ ⟨au.out _ aN.out,?_⟩;clear hK Kv aY;have aw:=Zh (BdT.ml (a:=(R,T,W)) (n:=ln) HE.out.1 av.out.1);have aA:=Zh (fun e=>Z.out HQ.out (R,T,W) (HE.out.2.1 e));generalize mlT (R,T,W) ln=ml at aw aA;refine oO fun Kv hK=>?_;go_simp;refine (Zpd (L,N,O) ml _ D.out aw.out).mono ?_;rintro e w6 ⟨rfl,aZ⟩
   try simp only [ag3]
   have z:=Zh (Zag aN.out aZ);refine hK _ _ ⟨au.out _ z.out,?_⟩;clear hK Kv aZ;have aP:=Zh (BdT.pl (a:=(L,N,O)) (b:=ml) D.out aw.out);generalize plT (L,N,O) ml=p at aP aA;obtain ⟨p0,p1,p2⟩:=p;refine oO fun Kv hK=>?_;obtain ⟨r0,r1,r2⟩:=(ad.out.old z.out).c3;obtain ⟨f0,f1,f2⟩:=(ad.out.old z.out).f3;have rl:=(ad.out.old z.out).lt;go_simp;have HZ:=Zh (Zrx HH.out (bk.out.old z.out) (ad.out.old z.out) HX.out (p0,p1,p2));have ag:=(((af.out.old z.out).other (a:=⟨X+1,0,none⟩) E.out.2 (.int .i64 p0)).other (a:=⟨X+1,1,none⟩) E.out.2 (.int .i64 p1)).other (a:=⟨X+1,2,none⟩) E.out.2 (.int .i64 p2);have ai:=(((ah.out.old z.out).other (a:=⟨X+1,0,none⟩) E.out.1 (.int .i64 p0)).other (a:=⟨X+1,1,none⟩) E.out.1 (.int .i64 p1)).other (a:=⟨X+1,2,none⟩) E.out.1 (.int .i64 p2);refine hK _ _ ⟨⟨ag.c3.1,ag.c3.2.1,ag.c3.2.2,ai.c3.1,ai.c3.2.1,ai.c3.2.2,trivial⟩,?_⟩;clear hK Kv r0 r1 r2 f0 f1 f2 rl ag ai
   (refine pO ?_)
   refine Zd7 ?_
   go_wp2_with fail
   have z0:=HZ.out.2.c3.1;have z1:=HZ.out.2.c3.2.1;have z2:=HZ.out.2.c3.2.2;exact bodyPost_ret (v:=.tuple #[ag3 (p0,p1,p2),.bool ok]) (by simp [results,Tryz.results77,go_sem,ag3,z0,z1,z2]) rfl (HZ.out.1.val rfl aP.out (fun e=>aA.out e) (fun e=>⟨d,ac.out HQ.out,HE.out.2.2 e⟩))
 ·have Z:=Zh (Zrw (m:=m) (t:=⟨tk,tc⟩) ⟨q2,q3,q4⟩);have bA:(tk == 2)=false:=by simpa using q2
  have bB:(tk == 3)=false:=by simpa using q3
  have bC:(tk == 4)=false:=by simpa using q4
  clear s q2 q3 q4;go_enter Tryz.func77,Tryz.ntmps77
  go_upto_region 1 with fail
  rw [←HW.out,←G.out];obtain ⟨B,C⟩:=Zj9 HT.out;obtain ⟨r0,r1,r2⟩:=F.out.c3;obtain ⟨f0,f1,f2⟩:=F.out.f3
  go_wp2_with fail
  have u:=Zrx HH.out g.out F.out HX.out ((0,0,0):T3);have z0:=u.2.c3.1;have z1:=u.2.c3.2.1;have z2:=u.2.c3.2.2;exact bodyPost_ret (v:=.tuple #[ag3 ((0,0,0):T3),.bool true]) (by simp [results,Tryz.results77,go_sem,ag3,z0,z1,z2]) rfl (u.1.val rfl .z (fun _=>Z.out) (fun e=>by cases e))
end
end
section
open Go.RowKit
def Zrz (w:World) (base:Nat) (ao:Option Addr) (cap:Nat) (zs:List Int):Prop:=w.ownsRow base 3 1 (.slice ao zs.length cap) zs.length (zs.map (Value.int .i64))
def ZrA (ao:Option Addr):Option Nat:=ao.map Addr.block
theorem ZrB (ao:Option Addr) (n cap:Nat):(Value.slice ao n cap).ownBlock=ZrA ao:=by cases ao<;>rfl
theorem Zrz.old {w w':World}{base:Nat}{ao:Option Addr}{cap:Nat}{zs:List Int} (h:Zrz w base ao cap zs) (hb:Below w.heap.size w w'):Zrz w' base ao cap zs:=
 ZhM h fun q a=>hb.block q (h.lt q a).2
theorem Zrz.nil (w:World) (base:Nat):Zrz w base none 0 []:=World.ownsRow_nil _ _ _ _
theorem Zrz.row {w:World}{base:Nat}{ao:Option Addr}{cap:Nat}{zs:List Int} (h:Zrz w base ao cap zs):Zas w ao cap zs:=Zas.of_own (by
 have:Zal zs=zs.map (Value.int .i64):=Zau zs
 rw [this];exact h)
theorem Zrz.grown {w w':World}{base:Nat}{ao:Option Addr}{cap:Nat}{zs:List Int} (h:Zrz w base ao cap zs) {row:Option Nat} (hg:w.grownBy w' row) (hn:∀ b,ZrA ao=some b→row≠some b):Zrz w' base ao cap zs:=by
 refine World.ownsRow.kept h hg ?_;rw [ZrB];cases h4:ZrA ao with
 | none=>exact .inl rfl
 | some b=>exact .inr fun e=>hn b h4 e.symm
theorem Zrz.lt {w:World}{base:Nat}{ao:Option Addr}{cap:Nat}{zs:List Int} (h:Zrz w base ao cap zs):∀ b,ZrA ao=some b→base≤b∧b<w.heap.size:=fun b a=>World.ownsRow.lt h b (by rw [ZrB];exact a)
theorem Zrz.map {w:World}{base:Nat}{ao:Option Addr}{cap:Nat}{zs:List Int} (h:Zrz w base ao cap zs) {M:Nat} (hm:Znc w M):∀ b,ZrA ao=some b→b≠M:=by
 intro b d q;subst q;obtain ⟨k,c,hm⟩:=hm;rcases (show w.ownsRow base 3 1 (.slice ao zs.length cap) zs.length (zs.map (Value.int .i64)) from h).2 with ⟨a,_⟩|⟨g,c,f,a,_,e,_⟩
 ·cases ao with
  | none=>cases d
  | some _=>cases a
 ·cases ao with
  | none=>cases a
  | some ad=>
   obtain ⟨rfl,-,-⟩:=by simpa using a
   have:g=b:=Option.some.inj d;subst this;rw [hm] at e;cases e
def LnT (t:Ty):Prop:=(t.k=3∧t.c=0)∨t.k=4
structure LnI (w:World) (base:Nat) (f:Ty→Option Value) (L:Ty→List Int):Prop where
 at':∀ t,(f t=none∧(LnT t→L t=[]))∨∃ ao cap,LnT t∧f t=some (.slice ao (L t).length cap)∧Zrz w base ao cap (L t)
 ne:∀ t u ao n c bo k d,t≠u→f t=some (.slice ao n c)→f u=some (.slice bo k d)→∀ b,ZrA ao=some b→ZrA bo≠some b
theorem LnI.start (w:World) (base:Nat) (L:Ty→List Int) (hL:∀ t,L t=[]):LnI w base (fun _=>none) L:=⟨fun t=>.inl ⟨rfl,fun _=>hL t⟩,fun _ _ _ _ _ _ _ _ _ h=>by cases h⟩
theorem LnI.old {w w':World}{base:Nat}{f:Ty→Option Value}{L:Ty→List Int} (H:LnI w base f L) (hb:Below w.heap.size w w'):LnI w' base f L:=
 ⟨fun t=>(H.at' t).imp id fun ⟨ao,cap,h1,h2,h3⟩=>⟨ao,cap,h1,h2,h3.old hb⟩,H.ne⟩
theorem LnI.map {w w':World}{base:Nat}{f:Ty→Option Value}{L:Ty→List Int} (H:LnI w base f L) {M:Nat} (hm:Znc w M) (hg:w.grownBy w' (some M)):LnI w' base f L:=
 ⟨fun t=>(H.at' t).imp id fun ⟨ao,cap,h1,h2,h3⟩=>⟨ao,cap,h1,h2,h3.grown hg fun b a e=>h3.map hm b a (Option.some.inj e).symm⟩,H.ne⟩
theorem LnI.congr {w:World}{base:Nat}{f:Ty→Option Value}{L K:Ty→List Int} (H:LnI w base f L) (h:∀ t,LnT t→L t=K t):LnI w base f K:=
 ⟨fun t=>by
  rcases H.at' t with ⟨a,b⟩|⟨e,c,a,b,d⟩
  ·exact .inl ⟨a,fun q=>by rw [←h t q];exact b q⟩
  ·rw [h t a] at b d;exact .inr ⟨e,c,a,b,d⟩,H.ne⟩
theorem LnI.get {w:World}{base:Nat}{f:Ty→Option Value}{L:Ty→List Int} (H:LnI w base f L) {t:Ty} (ht:LnT t):∃ ao cap,(f t).getD (.slice none 0 0)=.slice ao (L t).length cap∧Zrz w base ao cap (L t)∧∀ u bo k d,t≠u→f u=some (.slice bo k d)→∀ b,ZrA ao=some b→ZrA bo≠some b:=by
 rcases H.at' t with ⟨c,a⟩|⟨ao,cap,c,a,e⟩
 ·refine ⟨none,0,?_,?_,fun _ _ _ _ _ _ b h=>by cases h⟩
  ·rw [c,a ht];rfl
  ·rw [a ht];exact .nil _ _
 ·exact ⟨ao,cap,by rw [a];rfl,e,fun u bo k d l o b g=>H.ne t u ao _ cap bo k d l a o b g⟩
theorem LnI.put {w w':World}{base:Nat}{f:Ty→Option Value}{L:Ty→List Int} (H:LnI w base f L) {t:Ty} (ht:LnT t) {ao ao':Option Addr}{cap cap':Nat}{n:Int}
  (hne:∀ u bo k d,t≠u→f u=some (.slice bo k d)→∀ b,ZrA ao=some b→ZrA bo≠some b)
  (hown:Zrz w' base ao' cap' (L t++[n])) (hg:w.grownBy w' (ZrA ao)) (hat:∀ b,ZrA ao'=some b→ZrA ao=some b∨w.heap.size≤b) :
  LnI w' base (fun j=>if j=t then some (.slice ao' (L t++[n]).length cap') else f j) (fun j=>if j=t then L t++[n] else L j):=by
 have A:∀ u bo k d,t≠u→f u=some (.slice bo k d)→∀ b,ZrA ao'=some b→ZrA bo≠some b:=by
  intro u bo k d r p b g e;rcases hat b g with q|q
  ·exact hne u bo k d r p b q e
  ·rcases H.at' u with ⟨a,-⟩|⟨D,z,-,c,s⟩
   ·rw [a] at p;cases p
   ·rw [c] at p;cases p;have:=(s.lt b e).2;omega
 refine ⟨fun u=>?_,fun u v x B y l C o r a c b g=>?_⟩
 ·by_cases q:u=t
  ·subst q;refine .inr ⟨ao',cap',ht,?_,?_⟩
   ·simp
   ·simpa using hown
  ·simp only [if_neg q];rcases H.at' u with a|⟨l,o,a,c,s⟩
   ·exact .inl a
   ·exact .inr ⟨l,o,a,c,s.grown hg fun b g e=>hne u l _ o (fun e=>q e.symm) c b e g⟩
 ·by_cases q1:u=t
  ·by_cases q2:v=t
   ·exact absurd (q1.trans q2.symm) r
   ·rw [if_pos q1] at a;rw [if_neg q2] at c;cases a;exact A v l C o (fun e=>q2 e.symm) c b g
  ·rw [if_neg q1] at a;by_cases q2:v=t
   ·rw [if_pos q2] at c;cases c;intro e;exact A u x B y (fun e=>q1 e.symm) a b e g
   ·rw [if_neg q2] at c;exact H.ne u v x B y l C o r a c b g
theorem LnI.fin {w:World}{base:Nat}{f:Ty→Option Value}{m:Md} (H:LnI w base f (fun t=>ZnQ m t)):∀ t,Zfk m t→Zp2 w (f t) (ZnQ m t):=by
 intro t a;rcases H.at' t with ⟨d,c⟩|⟨k,b,d,c,l⟩
 ·refine .inl ⟨d,?_⟩;by_cases q:LnT t
  ·exact c q
  ·have o:t.k≠3∧t.k≠4:=by unfold Zfk ZaG at a;unfold LnT at q;refine ⟨fun e=>q (.inl ⟨e,?_⟩),fun e=>q (.inr e)⟩;rw [e] at a;simp at a;exact a
   unfold ZnQ;rw [List.flatMap_eq_nil_iff];intro x _;unfold ZnP;rw [List.map_eq_nil_iff,List.filter_eq_nil_iff];intro i _ g;unfold ZnO at g;simp at g;omega
 ·exact .inr ⟨k,b,c,l.row⟩
theorem ZrC {w:World}{r:Array Oper}{c:List Oper}{o:Oper}{a:Act}{Q:Exit→Act→World→Prop} (y:o.guard=none) (s x:Operand)
  (F:o.op=.call { callee:=.builtin .append,args:=#[s,x],argTypes:=#[27,27] })
  (base:Nat) (ao:Option Addr) (cap:Nat) (d:List Int) (H:a.eval s=.slice ao d.length cap) (k:Zrz w base ao cap d) (b:Nat) (n:Int) (I:a.eval x=.slice (some ⟨b,0,none⟩) 1 1) (G:Zas w (some ⟨b,0,none⟩) 1 [n]) (L:d.length≤1000000) (C:base≤w.heap.size)
  (h:∀ ao' cap' w',Zrz w' base ao' cap' (d++[n])→w.grownBy w' (ZrA ao)→(∀ b,ZrA ao'=some b→ZrA ao=some b∨w.heap.size≤b)→wpList Tryz.prog r Q c (a.put o.dst (.slice ao' (d++[n]).length cap')) w'):wpList Tryz.prog r Q (o :: c) a w:=by
 obtain ⟨i,z,E,J,f,v,B⟩:=Zcm.info;have l:=G.2.2;rw [Zau] at l;refine wpList_append_own_at _ y s x 27 F base 3 i z 1 8 Zcm.und E J f v B (by decide) (.slice ao d.length cap) d.length (d.map (Value.int .i64)) H k ⟨b,0,none⟩ 1 1 [.int .i64 n] I (by simp) (fun j u A=>?_) (by intro u A;rw [List.mem_singleton.1 A];rfl) (by unfold maxLen;omega) (by omega) C ?_
 ·obtain ⟨K,t,D⟩:=l j u A;cases t;exact D
 ·intro N w' hown' hg _ hat
  exact j3
theorem ZrD {w:World}{o:Oper}{a:Act}{Q:Exit→Act→World→Prop}{A:Act→World→Prop} (s x:Operand)
  (E:o.op=.call { callee:=.builtin .append,args:=#[s,x],argTypes:=#[27,27] })
  (base:Nat) (ao:Option Addr) (cap:Nat) (c:List Int) (G:a.eval s=.slice ao c.length cap) (f:Zrz w base ao cap c) (b:Nat) (n:Int) (H:a.eval x=.slice (some ⟨b,0,none⟩) 1 1) (F:Zas w (some ⟨b,0,none⟩) 1 [n]) (K:c.length≤1000000) (B:base≤w.heap.size)
  (h:∀ ao' cap' w',Zrz w' base ao' cap' (c++[n])→w.grownBy w' (ZrA ao)→(∀ b,ZrA ao'=some b→ZrA ao=some b∨w.heap.size≤b)→A (a.put o.dst (.slice ao' (c++[n]).length cap')) w'):o.wp Tryz.prog a w A Q:=by
 obtain ⟨i,z,D,I,d,t,y⟩:=Zcm.info;have k:=F.2.2;rw [Zau] at k;obtain ⟨L,w',l,hown',hg,-,hat⟩:=run_append_own_at (P:=Tryz.prog) w base 27 o.type 3 i z 1 8 Zcm.und D I d t y (by decide) (.slice ao c.length cap) c.length (c.map (Value.int .i64)) f ⟨b,0,none⟩ 1 1 [.int .i64 n] (by simp) (fun j u v=>by
  obtain ⟨J,r,C⟩:=k j u v;cases r;exact C) (by intro u v;rw [List.mem_singleton.1 v];rfl) (by unfold maxLen;omega) (by omega) B
 unfold Oper.wp execOp;simp only [E,resolve,invoke,builtin,Sem.run_bind,Sem.run_pure,Result.andThen_ok,List.map_toArray,List.map_cons,List.map_nil,G,H,l];exact j3
end
section
open Go.RowKit
theorem Zrz.ne_blk {w:World}{base:Nat}{ao:Option Addr}{cap:Nat}{zs:List Int} (h:Zrz w base ao cap zs) {B:Nat}{xs:Array Value}{t:TypeId} (hB:Blk w B xs t) (ht:t≠3):ZrA ao≠some B:=by
 intro q;rcases (show w.ownsRow base 3 1 (.slice ao zs.length cap) zs.length (zs.map (Value.int .i64)) from h).2 with ⟨a,_⟩|⟨g,c,b,a,_,d,_⟩
 ·cases ao with
  | none=>cases q
  | some _=>cases a
 ·cases ao with
  | none=>cases a
  | some ad=>
   obtain ⟨rfl,-,-⟩:=by simpa using a
   have:g=B:=Option.some.inj q;subst this;have hB:w.heap[g]?=_:=hB;rw [d] at hB;cases hB;exact ht rfl
def mdP (m:Md) (c:Int) (i j:Nat):Option Value:=if 0≤c∧Zrd m c.toNat i j=true then some (.bool true) else none
structure SzI (w0 w:World) (S:Nat) (M:MsL) (h:Hd) (m:Md) (i j:Nat):Prop where
 bw:Below w0.heap.size w0 w
 md:Zaz w0 h m
 bk:Blk w S #[.slice h.co m.cl.length h.cc,.slice h.so m.st.length h.sc,.slice h.eo m.me.length h.ec,.int .i64 m.sel,.map (some M.l),.map (some M.a),.map (some M.u),.map (some M.k),.map (some M.t)] 176
 ln:∃ f,MpF kT w M.l f∧LnI w w0.heap.size f (fun t=>Zq7 m t i j)
 ma:MpF kI w M.a (fun c=>mdP m c i j)
 un:MpF kI w M.u (fun _=>none)
 kn:MpF kI w M.k (fun _=>none)
 mt:MpF kI w M.t (fun _=>none)
 nd:[M.l,M.a,M.u,M.k,M.t].Nodup
 lo:w0.heap.size≤M.l∧w0.heap.size≤M.a
section
variable {w0 w w':World}{S:Nat}{M:MsL}{h:Hd}{m:Md}{i j:Nat}
theorem SzI.old (H:SzI w0 w S M h m i j) (hb:Below w.heap.size w w'):SzI w0 w' S M h m i j:=by obtain ⟨b,c,d,⟨f,e,a⟩,g,k,l,o,p,q⟩:=H;exact ⟨Zag b hb,c,d.old hb,⟨f,e.old hb,a.old hb⟩,g.old hb,k.old hb,l.old hb,o.old hb,p,q⟩
theorem SzI.to (H:SzI w0 w S M h m i j) {i' j':Nat} (hl:∀ t,LnT t→Zq7 m t i' j'=Zq7 m t i j) (hm:∀ c,Zrd m c i' j'=Zrd m c i j):SzI w0 w S M h m i' j':=by obtain ⟨b,d,e,⟨f,g,a⟩,k,l,o,p,q,r⟩:=H;exact ⟨b,d,e,⟨f,g,a.congr fun t s=>(hl t s).symm⟩,k.congr fun c=>by unfold mdP;rw [hm],l,o,p,q,r⟩
theorem SzI.skip (H:SzI w0 w S M h m i j) (hj:j<(cdM m i).length) (ho:((cdM m i).getD j default).op≠14∧((cdM m i).getD j default).op≠15∧((cdM m i).getD j default).op≠16):SzI w0 w S M h m i (j+1):=by
 refine H.to (fun t _=>?_) fun c=>?_
 ·exact j9
 ·rw [Zrf hj];unfold Zrc;rw [decide_eq_false (by omega),Bool.or_false]
theorem SzI.next (H:SzI w0 w S M h m i (cdM m i).length) (hi:i<m.me.length):SzI w0 w S M h m (i+1) 0:=
 H.to (fun _ _=>Zra hi) fun _=>Zrg hi
theorem SzI.new (H:SzI w0 w S M h m i j) (hj:j<(cdM m i).length) (ho:((cdM m i).getD j default).op=14) (ha:0≤((cdM m i).getD j default).a) (hg:w.grownBy w' (some M.a)) (hs:MpF kI w' M.a (fun c=>if c=((cdM m i).getD j default).a then some (.bool true) else mdP m c i j)):SzI w0 w' S M h m i (j+1):=by
 obtain ⟨o,A,d,⟨f,r,g⟩,s,u,v,y,a,z⟩:=H;have b:∀ x,x≠M.a→some x≠some M.a:=fun x B e=>B (Option.some.inj e);have l:=a;simp only [List.nodup_cons,List.mem_cons,List.not_mem_nil,or_false,not_or,not_false_eq_true,List.nodup_nil,and_true] at a;refine ⟨o.grown hg o.size fun k e=>by cases e;exact z.2,A,(hg.block S d.lt (b _ (Zp1 d s.map))).trans d,⟨f,r.eq (hg.block _ r.map.lt (b _ a.1.1)),(g.map s.map hg).congr fun t _=>?_⟩,hs.congr fun c=>?_,u.eq (hg.block _ u.map.lt (b _ (fun e=>a.2.1.1 e.symm))),v.eq (hg.block _ v.map.lt (b _ (fun e=>a.2.1.2.1 e.symm))),y.eq (hg.block _ y.map.lt (b _ (fun e=>a.2.1.2.2 e.symm))),l,z⟩
 ·exact j9
 ·try dsimp only
  unfold mdP;rw [Zrf hj];unfold Zrc;by_cases q:c=((cdM m i).getD j default).a
  ·rw [if_pos q,if_pos];refine ⟨by omega,?_⟩;rw [decide_eq_true ⟨ho,by omega⟩,Bool.or_true]
  ·rw [if_neg q];by_cases q0:0≤c
   ·rw [decide_eq_false (by omega),Bool.or_false]
   ·rw [if_neg (fun e=>q0 e.1),if_neg (fun e=>q0 e.1)]
theorem SzI.len (H:SzI w0 w S M h m i j) (hj:j<(cdM m i).length) {t:Ty} (ht:LnT t) (hop:∀ u,LnT u→(ZnO u ((cdM m i).getD j default)=true↔u=t)) (h14:((cdM m i).getD j default).op≠14)
  {f:Ty→Option Value}{w1 w2 w3 w4:World}{ao ao':Option Addr}{cap':Nat}
  (hL:LnI w w0.heap.size f (fun t=>Zq7 m t i j)) (hne:∀ u bo k d,t≠u→f u=some (.slice bo k d)→∀ b,ZrA ao=some b→ZrA bo≠some b) {cap:Nat} (how:Zrz w w0.heap.size ao cap (Zq7 m t i j))
  (hg1:w.grownBy w1 (some M.l)) (hm1:Znc w1 M.l) (hb2:Below w1.heap.size w1 w2) (hg3:w2.grownBy w3 (ZrA ao)) (hat:∀ b,ZrA ao'=some b→ZrA ao=some b∨w2.heap.size≤b)
  (ho3:Zrz w3 w0.heap.size ao' cap' (Zq7 m t i j++[((cdM m i).getD j default).a])) (hg4:w3.grownBy w4 (some M.l))
  (hs4:MpF kT w4 M.l (fun x=>if x=t then some (.slice ao' (Zq7 m t i j++[((cdM m i).getD j default).a]).length cap') else f x)):SzI w0 w4 S M h m i (j+1):=by
 obtain ⟨o,v,a,⟨Z,z,-⟩,O,P,Q,R,g,B⟩:=H;have A:=g;simp only [List.nodup_cons,List.mem_cons,List.not_mem_nil,or_false,not_or,not_false_eq_true,List.nodup_nil,and_true] at g;have K:∀ x,x≠M.l→some x≠some M.l:=fun x r e=>r (Option.some.inj e);have C:=hL.map z.map hg1;have D:=C.old hb2;have J:Zrz w1 w0.heap.size ao cap (Zq7 m t i j):=how.grown hg1 fun b T e=>how.map z.map b T (Option.some.inj e).symm;have p:=J.old hb2;have E:=D.put (t:=t) (cap:=0) ht (n:=((cdM m i).getD j default).a) hne ho3 hg3 hat
 have G:Znc w2 M.l:=by obtain ⟨s,c,l⟩:=hm1;exact ⟨s,c,(hb2.block _ (Array.getElem?_eq_some_iff.1 l).1).trans l⟩
 have I:Znc w3 M.l:=by obtain ⟨s,c,l⟩:=G;exact ⟨s,c,(hg3.block _ (Array.getElem?_eq_some_iff.1 l).1 (fun e=>p.map ⟨s,c,l⟩ _ e.symm rfl)).trans l⟩
 have F:=E.map I hg4;have W:w.heap.size≤w1.heap.size:=hg1.size;have X:w1.heap.size≤w2.heap.size:=hb2.size;have Y:w2.heap.size≤w3.heap.size:=hg3.size
 -- what is kept of another block
 have N:∀ x,x<w.heap.size→x≠M.l→ZrA ao≠some x→w4.heap[x]?=w.heap[x]?:=fun x r v a=>
  (hg4.block x (by omega) (K x v)).trans ((hg3.block x (by omega) (fun e=>a e.symm)).trans ((hb2.block x (by omega)).trans (hg1.block x r (K x v))))
 have y:=fun (x:Nat) (r:x≠M.l) (f:Int→Option Value) (hf:MpF kI w x f)=>hf.eq (w':=w4) (N x hf.map.lt r (fun e=>how.map hf.map x e rfl));refine ⟨(((o.grown hg1 o.size fun k e=>by cases e;exact B.1).trans (hb2.mono (by have:=o.size;omega))).grown hg3 (by have:=o.size;omega) fun k e=>(p.lt k e).1).grown hg4 (by have:=o.size;omega) fun k e=>by cases e;exact B.1,v,(N S a.lt (Zp1 a z.map) (how.ne_blk a (by decide))).trans a,⟨_,hs4,F.congr fun u L=>?_⟩,(y _ (fun e=>g.1.1 e.symm) _ O).congr fun c=>?_,y _ (fun e=>g.1.2.1 e.symm) _ P,y _ (fun e=>g.1.2.2.1 e.symm) _ Q,y _ (fun e=>g.1.2.2.2 e.symm) _ R,A,B⟩
 ·try dsimp only
  rw [Zq9 hj];by_cases q:u=t
  ·subst q;rw [if_pos rfl,if_pos ((hop u L).2 rfl)]
  ·rw [if_neg q,if_neg (fun e=>q ((hop u L).1 e)),List.append_nil]
 ·unfold mdP;rw [Zrf hj];unfold Zrc;rw [decide_eq_false (fun e=>h14 e.1),Bool.or_false]
theorem SzI.init (H:Zaz w0 h m) (hb:Below w0.heap.size w0 w) {B:Nat} (hB:B=w.heap.size):SzI w0 ((((((w.alloc (.map #[] 0)).alloc (.map #[] 0)).alloc (.map #[] 0)).alloc (.map #[] 0)).alloc (.map #[] 0)).alloc (.cells #[.slice h.co m.cl.length h.cc,.slice h.so m.st.length h.sc,.slice h.eo m.me.length h.ec,.int .i64 m.sel,.map (some B),.map (some (B+1)),.map (some (B+2)),.map (some (B+3)),.map (some (B+4))] 176)) (B+5) ⟨B,B+1,B+2,B+3,B+4⟩ h m 0 0:=by
 have r:=hb.size;obtain ⟨o,p⟩:∃ o:Obj,o=.map #[] 0:=⟨_,rfl⟩;have mk:∀ {κ:Type} [DecidableEq κ] {enc:κ→Value} (v:World) (b:Nat),b=v.heap.size→MpF enc (v.alloc (.map #[] 0)) b (fun _=>none):=fun v b hb=>by subst hb;exact MpF.made _ _
 have a:∀ {κ:Type} [DecidableEq κ] {enc:κ→Value}{v:World}{b:Nat}{f:κ→Option Value},MpF enc v b f→∀ o,MpF enc (v.alloc o) b f:=fun h o=>h.old ((Below.refl _ _).alloc (Nat.le_refl _) o);have d:=mk (enc:=kT) w B hB;have e:=mk (enc:=kI) (w.alloc (.map #[] 0)) (B+1) (by simp [hB]);have g:=mk (enc:=kI) ((w.alloc (.map #[] 0)).alloc (.map #[] 0)) (B+2) (by simp [hB]);have k:=mk (enc:=kI) (((w.alloc (.map #[] 0)).alloc (.map #[] 0)).alloc (.map #[] 0)) (B+3) (by simp [hB]);have l:=mk (enc:=kI) ((((w.alloc (.map #[] 0)).alloc (.map #[] 0)).alloc (.map #[] 0)).alloc (.map #[] 0)) (B+4) (by simp [hB]);refine ⟨?_,H,Blk.new' _ _ (by simp [hB]),⟨_,a (a (a (a (a d _) _) _) _) _,LnI.start _ _ _ fun t=>Zq8 m t⟩,(a (a (a (a e _) _) _) _).congr fun c=>?_,a (a (a g _) _) _,a (a k _) _,a l _,?_,⟨by show w0.heap.size≤B;omega,by show w0.heap.size≤B+1;omega⟩⟩
 ·exact (((((hb.alloc (by first|omega|(simp;omega)) _).alloc (by first|omega|(simp;omega)) _).alloc (by first|omega|(simp;omega)) _).alloc (by first|omega|(simp;omega)) _).alloc (by first|omega|(simp;omega)) _).alloc (by first|omega|(simp;omega)) _
 ·unfold mdP;rw [Zre,if_neg (by rintro ⟨-,q⟩;cases q)]
 ·simp only [List.nodup_cons,List.mem_cons,List.not_mem_nil,or_false,not_or,List.nodup_nil,and_true,not_false_eq_true];omega
theorem SzI.fin (H:SzI w0 w S M h m m.me.length 0):Zp4 w S M h m []:=by
 obtain ⟨b,d,g,⟨f,k,a⟩,l,o,p,q,r,x⟩:=H;refine ⟨g,d.old b,⟨f,k,LnI.fin (a.congr fun t _=>Zrb m t)⟩,l.congr fun c=>?_,o.congr fun c=>?_,⟨_,p,fun c v e=>by cases e⟩,⟨_,q,fun c v e=>by cases e⟩,r⟩
 ·unfold mdP mdF;rw [Zrh]
 ·unfold unF;rw [if_neg (by rintro ⟨u,s,-⟩;cases s)]
end
end
