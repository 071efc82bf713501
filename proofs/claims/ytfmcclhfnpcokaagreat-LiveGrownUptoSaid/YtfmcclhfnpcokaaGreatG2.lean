import Derived.BigQuiet
import Derived.Test.YtfmcclhfnpcokaaGreatRows
import Derived.WalkSpells
import Derived.WalkLawsBesides
import Derived.Lib.Hide
import Derived.StillTailTactics
import Derived.OrdersHeld
set_option linter.all false
namespace Go.Proofs.YtfmcclhfnpcokaaGreat
section
open Go.RowKit
section
variable {P:Program}{ops:Array Oper}{md:Region.Mode}{C:World→Prop}
def Zc5 (P:Program) (md:Region.Mode) (ops:Array Oper) (C:World→Prop) (n:Nat) (L:Array Bool→Act→Prop):Nat→Array Bool→Act→Prop
 | 0,listed,a=>L listed a
 | f+1,listed,a=>Region.ready md ops listed≠[]∧∀ i∈Region.ready md ops listed,i<n∧qOp P ops C i (Zc5 P md ops C n L f (listed.setIfInBounds i true)) a
theorem Zc6 {n g:Nat}{L:Array Bool→Act→Prop}{Q:Exit→Act→World→Prop} (l:∀ b a w,C w→L b a→wpAny P md ops Q g b a w) (f:Nat) :
  ∀ (b:Array Bool) (a:Act) (w:World),C w→Zc5 P md ops C n L f b a→wpAny P md ops Q (f+g) b a w:=by
 induction f with
 | zero=>intro b a w c h;rw [Nat.zero_add];exact l _ _ _ c h
 | succ f ih=>
  intro b a w c h;rw [show f+1+g=(f+g)+1 by omega];exact ⟨fun k=>absurd k h.1,fun i m=>wpOp_of_qOp c (fun e o d j=>ih _ e o d j) (h.2 i m).2⟩
theorem Zc7 {n i:Nat}{B:Oper}{v:Value}{L:Array Bool→Act→Prop} (G:ops[i]?=some B) (q:∀ (j:Nat) (o:Oper) cs b,ops[j]?=some o→o.op≠.select cs b)
  (O:Region.sinkB md ops n=true) (M:Region.chainB md ops n=true) (N:n<ops.size) (y:i<n)
  (r:∀ c a,L c a→∀ j∈Region.ready md ops c,n≤j) (f:Nat) :
  ∀ (c:Array Bool) (a:Act),HeadInv md ops n c →
   (∀ j u,ops[j]?=some u→j≠i→c.getD j true=false→(∀ e∈u.after,Region.binds md e=true→e.on≠i)→B.apart ops u=true) →
   i∈Region.ready md ops c→YieldsIn P ops C B v a →
   Zc5 P md ops C n L f (c.setIfInBounds i true) (a.put B.dst v)→Zc5 P md ops C n L (f+1) c a:=by
 induction f with
 | zero=>
  intro c a m _ l E H;refine ⟨fun h=>(by rw [h] at l;cases l),fun j s=>?_⟩;have g:j<n:=by
   rcases Nat.lt_or_ge j n with h|h
   ·exact h
   ·exact absurd s (tail_waits O M N m _ i rfl y (mem_ready.1 l).1 j h)
  refine ⟨g,?_⟩;by_cases hji:j=i
  ·subst hji;exact E.qOp G H
  ·have:=r _ _ H j (ready_mono s hji);omega
 | succ f ih=>
  intro c a m d l E H;refine ⟨fun h=>(by rw [h] at l;cases l),fun j s=>?_⟩;have g:j<n:=by
   rcases Nat.lt_or_ge j n with h|h
   ·exact h
   ·exact absurd s (tail_waits O M N m _ i rfl y (mem_ready.1 l).1 j h)
  refine ⟨g,?_⟩;by_cases hji:j=i
  ·subst hji;exact E.qOp G H
  have T:=(H.2 j (ready_mono s hji)).2;obtain ⟨p,u,t,x⟩:=mem_ready.1 s;have z:∀ e∈u.after,Region.binds md e=true→e.on≠i:=by intro e V U F;have D:=x e V U;rw [F,getD_both (mem_ready.1 l).1] at D;cases D
  have D:=qOp_put t (d j u t hji p z) (fun cs b=>q i B cs b G) (fun cs b=>q j u cs b t) E T;refine qOp_mono (fun R K=>ih (c.setIfInBounds j true) R (m.set s g) ?_ (ready_mono l (Ne.symm hji)) K.1 ?_) D
  ·intro k X W I A J;refine d k X W I ?_ J;by_cases hjk:j=k
   ·subst hjk;exact p
   ·rw [getD_set_ne true hjk] at A;exact A
  ·rw [Array.setIfInBounds_comm _ _ hji];exact K.2
theorem Zc8 {n g:Nat}{r:Act→Prop} (f:Region.noSelect ops=true) (F:Region.sinkB md ops n=true) (A:Region.chainB md ops n=true) (D:n<ops.size) (l:List Oper) :
  ∀ (k:Nat) (b:Array Bool) (a:Act),(∀ j,j<l.length→l[j]?=ops[k+j]?)→k+l.length=n→HeadInv md ops n b →
  Region.lexHead md ops g l.length k b=true→wpQuiet P ops C r l a →
  Zc5 P md ops C n (fun c u=>Region.seqB md ops g n c=true∧r u) l.length b a:=by
 induction l with
 | nil=>
  intro k b a _ q _ p h;obtain rfl:k=n:=by simpa using q
  exact ⟨by simpa [Region.lexHead] using p,h⟩
 | cons o l ih=>
  intro k b a x q i p h;have m:ops[k]?=some o:=by simpa using (x 0 (by simp)).symm
  simp only [List.length_cons,Region.lexHead,Bool.and_eq_true] at p;obtain ⟨⟨E,B⟩,s⟩:=p;have d:k<n:=by simp only [List.length_cons] at q;omega
  have e:k∈Region.ready md ops b:=by simpa using E
  have t:qOp P ops C k (wpQuiet P ops C r l) a:=by unfold qOp;simp only [m];exact h
  obtain ⟨v,G,y⟩:=yieldsIn_of_qOp m t;refine Zc7 m (Region.noSelect_spec f) F A D d (fun c u z=>seqB_ready z.1) l.length b a i (Region.free_spec m B) e G ?_;exact ih (k+1) _ _ (fun j H=>by have:=x (j+1) (by simp;omega);simpa [Nat.add_assoc,Nat.add_comm 1 j] using this) (by simp only [List.length_cons] at q;omega) (i.set e d) s y
theorem Zc9 {id:Nat}{Q:Exit→Act→World→Prop}{a:Act}{w:World}{l:List Oper} (n:Nat) (y:P.follows .mixedOrders=true) (p:Region.lexTailB .any l.toArray n=true) (v:C w.drew)
  (h:wpQuiet P l.toArray C (fun k=>∀ w',C w'→wpList P l.toArray Q (l.drop n) k w') (l.take n) a):(Code.region id l.toArray true).wp P Q a w:=by
 simp only [Region.lexTailB,Bool.and_eq_true,decide_eq_true_eq] at p;obtain ⟨⟨⟨⟨f,u⟩,A⟩,x⟩,e⟩:=p;have z:n<l.length:=by simpa using u
 have b:(l.take n).length=n:=by simp;omega
 have d:(l.drop n).length=l.toArray.size-n:=by simp
 have i:HeadInv .any l.toArray n (Array.replicate l.toArray.size false):=
  ⟨by simp,fun j D _ s=>(by rw [getD_replicate_false] at s;cases s),fun t _ B=>getD_in (by simpa using B) (getD_replicate_false _ _)⟩
 have H:=Zc8 (md:=.any) (g:=l.toArray.size-n) f A x u (l.take n) 0 _ a (fun j r=>by
  have m:j<n:=by rw [b] at r;exact r
  simp [m]) (by simpa using b) i (by rw [b];exact e) h
 refine wp_region_any y ?_;have:=Zc6 (Q:=Q) (g:=l.toArray.size-n) (fun c k w' o q=>by
  have:=wpAny_of_seq (md:=.any) (Q':=Q) (l.drop n) n c k w' (fun j=>by simp [List.getElem?_drop]) (by rw [d];exact q.1) (q.2 w' o);rwa [d] at this) _ _ _ _ (show C w.drew from v) H
 rw [b,show n+(l.toArray.size-n)=l.toArray.size by omega] at this;exact this
end
theorem Zda {P:Program}{id:Nat}{Q:Exit→Act→World→Prop}{a:Act}{w:World}{l:List Oper} (n:Nat) (d:P.follows .mixedOrders=true) (c:Region.lexTailB .any l.toArray n=true)
  (h:wpQuiet P l.toArray (fun w'=>∃ k,w'=w.drewN k) (fun b=>∀ w',(∃ k,w'=w.drewN k)→wpList P l.toArray Q (l.drop n) b w') (l.take n) a):(Code.region id l.toArray true).wp P Q a w:=
 Zc9 n d c ⟨1,rfl⟩ h
end
section
open Go.RowKit
section
variable {P:Program}{ops:Array Oper}{md:Region.Mode}{S:World→Prop}{Q:Exit→Act→World→Prop}
end
end
