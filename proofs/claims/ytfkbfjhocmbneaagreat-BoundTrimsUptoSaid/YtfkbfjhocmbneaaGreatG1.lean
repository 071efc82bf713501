/- Joined texts. The first: Small lemmas for all walks. -/
import Derived.Test.YtfkbfjhocmbneaaGreatRows
import Derived.WalkKit
import Derived.WalkSpells
import Derived.WalkLawsBesides
import Derived.Lib.Hide
import Derived.Outline
import Derived.StillTailTactics
import Derived.Deep.QuietTactic
import Derived.BigQuiet
import Derived.OrdersHeld
import Derived.Laws.AppendOwnNone
import Derived.Deep.Draws
import Derived.RangeFuncNested
import Derived.RangeFuncBound
import Derived.RangeFuncCalls
import Derived.RangeFuncLeaves
import Derived.Shelf.Abstract
import Derived.Shelf.RegionOpen
import Derived.OwnWalkIn
import Derived.TacticsInMore
import Derived.LoopNIn
import Derived.LoopIn
import Derived.Lib.SlicesCompact
import Derived.Deep.WholeRow
set_option linter.all false
set_option linter.unusedVariables false
set_option linter.unusedSimpArgs false
set_option maxRecDepth 100000
set_option maxHeartbeats 4000000
namespace Go.Proofs.YtfkbfjhocmbneaaGreat
theorem k62{p:Prop}(h:p:=by
 show wpOp P ops Q k _ a w
 unfold wpOp
 simp only [ho,hw,if_true]
 exact .inl (h _ fun _ _ h1 h2=>⟨h1,h2⟩)):p:=h
theorem k78{p:Prop}(h:p:=by
 unfold insnV
 dsimp only
 by_cases h0:0≤op
 ·rw [decide_eq_false (show ¬ op<36 by omega)];simp
 ·rw [decide_eq_false h0];simp):p:=h
theorem k97{p:Prop}(h:p:=by
 gi_wp2
 exact ⟨KeepsFrom.refl _ _,Below.refl _ _,⟨⟨HF.out,HR.out⟩,HB1.out⟩,HB2.out⟩):p:=h
theorem k99{p:Prop}(h:p:=by
 rcases hown'.2 with ⟨rfl,hnm⟩|⟨g,c,cur,rfl,hr⟩
 ·omega
 ·exact h _ c w' hown' hg):p:=h
section
open Go.RowKit
theorem ret_i64 {a b:Int} (h:a=b):Ending.returned (.int .i64 a)=.returned (.int .i64 b):=by rw [h]
theorem ret_bool {a b:Bool} (h:a=b):Ending.returned (.bool a)=.returned (.bool b):=by rw [h]
theorem ret_two {a b c d:Int} (h:a=c) (h':b=d):Ending.returned (.tuple #[.int .i64 a,.int .i64 b])=.returned (.tuple #[.int .i64 c,.int .i64 d]):=by rw [h,h']
theorem cell_lt {w:World}{a:Addr}{v:Value} (h:w.cell? a=some v):a.block<w.heap.size:=by
 unfold World.cell? at h
 by_cases hlt:a.block<w.heap.size
 ·exact hlt
 ·have e:w.heap[a.block]?=none:=by simp;omega
  simp [e] at h
def Sl (k:IntKind) (w:World) (a:Option Addr) (zs:List Int):Prop:=∀ i,i<zs.length→∃ ad,a=some ad∧w.cell? (ad.add i)=some (.int k (zs.getD i 0))
theorem Sl.below {k:IntKind}{w w':World}{a:Option Addr}{zs:List Int} (h:Sl k w a zs) (hb:Below w.heap.size w w'):Sl k w' a zs:=by
 intro i hi
 obtain ⟨ad,ha,hc⟩:=h i hi
 have hlt:(ad.add i).block<w.heap.size:=cell_lt hc
 exact ⟨ad,ha,by rw [hb.cell hlt];exact hc⟩
theorem take_snoc (l:List Int) (k:Nat) (h:k<l.length):l.take (k+1)=l.take k++[l.getD k 0]:=by
 rw [List.take_succ_eq_append_getElem h];simp [h]
theorem wp_still_tail {P:Program}{id:Nat}{Q:Exit→Act→World→Prop}{a:Act}{w:World}{l:List Oper} (n:Nat) (hm:P.follows .mixedOrders=true) (hB:Region.lexTailB .any l.toArray n=true)
  (h:wpStill P l.toArray w.drew (fun a'=>wpList P l.toArray Q (l.drop n) a' w.drew) (l.take n) a):(Code.region id l.toArray true).wp P Q a w:=wp_region_still_tail n hm hB h
theorem wp_still_all {P:Program}{id:Nat}{Q:Exit→Act→World→Prop}{a:Act}{w:World}{l:List Oper} (hm:P.follows .mixedOrders=true) (hB:Region.lexB .any l.toArray=true)
  (h:wpStill P l.toArray w.drew (fun a'=>Q .normal a' w.drew) l a):(Code.region id l.toArray true).wp P Q a w:=wp_region_still_lit hm hB h
theorem bthen {a b c:World} (h1:Below a.heap.size a b) (h2:Below b.heap.size b c):Below a.heap.size a c:=h1.trans (h2.mono h1.size)
def IsB (zs:List Int):Prop:=∀ i,i<zs.length→0≤zs.getD i 0∧zs.getD i 0≤255
end
section
open Go.RowKit
section
variable {P:Program}{ops:Array Oper}{md:Region.Mode}{C:World→Prop}
def headQ (P:Program) (md:Region.Mode) (ops:Array Oper) (C:World→Prop) (n:Nat) (L:Array Bool→Act→Prop):Nat→Array Bool→Act→Prop
 | 0,listed,a=>L listed a
 | f+1,listed,a=>Region.ready md ops listed≠[]∧∀ i∈Region.ready md ops listed,i<n∧qOp P ops C i (headQ P md ops C n L f (listed.setIfInBounds i true)) a
theorem headQ_run {n g:Nat}{L:Array Bool→Act→Prop}{Q:Exit→Act→World→Prop} (hL:∀ listed a w,C w→L listed a→wpAny P md ops Q g listed a w) (f:Nat) :
  ∀ (listed:Array Bool) (a:Act) (w:World),C w→headQ P md ops C n L f listed a→wpAny P md ops Q (f+g) listed a w:=by
 induction f with
 | zero=>intro listed a w hw h;rw [Nat.zero_add];exact hL _ _ _ hw h
 | succ f ih=>
  intro listed a w hw h
  rw [show f+1+g=(f+g)+1 by omega]
  exact ⟨fun h0=>absurd h0 h.1,fun i hi=>wpOp_of_qOp hw (fun a' w' hw' h'=>ih _ a' w' hw' h') (h.2 i hi).2⟩
theorem headQ_first {n i:Nat}{oi:Oper}{v:Value}{L:Array Bool→Act→Prop} (hi:ops[i]?=some oi) (hsel:∀ (j:Nat) (o:Oper) cs b,ops[j]?=some o→o.op≠.select cs b)
  (hs:Region.sinkB md ops n=true) (hc:Region.chainB md ops n=true) (hn:n<ops.size) (hin:i<n)
  (hdone:∀ listed a,L listed a→∀ j∈Region.ready md ops listed,n≤j) (f:Nat) :
  ∀ (listed:Array Bool) (a:Act),HeadInv md ops n listed →
   (∀ j oj,ops[j]?=some oj→j≠i→listed.getD j true=false→(∀ e∈oj.after,Region.binds md e=true→e.on≠i)→oi.apart ops oj=true) →
   i∈Region.ready md ops listed→YieldsIn P ops C oi v a →
   headQ P md ops C n L f (listed.setIfInBounds i true) (a.put oi.dst v)→headQ P md ops C n L (f+1) listed a:=by
 induction f with
 | zero=>
  intro listed a inv _ hr hy H
  refine ⟨fun h=>(by rw [h] at hr;cases hr),fun j hj=>?_⟩
  have hjn:j<n:=by
   rcases Nat.lt_or_ge j n with h|h
   ·exact h
   ·exact absurd hj (tail_waits hs hc hn inv _ i rfl hin (mem_ready.1 hr).1 j h)
  refine ⟨hjn,?_⟩
  by_cases hji:j=i
  ·subst hji;exact hy.qOp hi H
  ·have:=hdone _ _ H j (ready_mono hj hji);omega
 | succ f ih=>
  intro listed a inv hfree hr hy H
  refine ⟨fun h=>(by rw [h] at hr;cases hr),fun j hj=>?_⟩
  have hjn:j<n:=by
   rcases Nat.lt_or_ge j n with h|h
   ·exact h
   ·exact absurd hj (tail_waits hs hc hn inv _ i rfl hin (mem_ready.1 hr).1 j h)
  refine ⟨hjn,?_⟩
  by_cases hji:j=i
  ·subst hji;exact hy.qOp hi H
  have h1:=(H.2 j (ready_mono hj hji)).2
  obtain ⟨hjun,oj,hoj,hall⟩:=mem_ready.1 hj
  have hnot:∀ e∈oj.after,Region.binds md e=true→e.on≠i:=by
   intro e he hb heq
   have h2:=hall e he hb
   rw [heq,getD_both (mem_ready.1 hr).1] at h2
   cases h2
  have h2:=qOp_put hoj (hfree j oj hoj hji hjun hnot) (fun cs b=>hsel i oi cs b hi) (fun cs b=>hsel j oj cs b hoj) hy h1
  refine qOp_mono (fun a' h3=>ih (listed.setIfInBounds j true) a' (inv.set hj hjn) ?_ (ready_mono hr (Ne.symm hji)) h3.1 ?_) h2
  ·intro k ok hk hki hun hno
   refine hfree k ok hk hki ?_ hno
   by_cases hjk:j=k
   ·subst hjk;exact hjun
   ·rw [getD_set_ne true hjk] at hun;exact hun
  ·rw [Array.setIfInBounds_comm _ _ hji];exact h3.2
theorem headQ_lex {n g:Nat}{Lq:Act→Prop} (hsel:Region.noSelect ops=true) (hs:Region.sinkB md ops n=true) (hc:Region.chainB md ops n=true) (hn:n<ops.size) (l:List Oper) :
  ∀ (k:Nat) (listed:Array Bool) (a:Act),(∀ j,j<l.length→l[j]?=ops[k+j]?)→k+l.length=n→HeadInv md ops n listed →
  Region.lexHead md ops g l.length k listed=true→wpQuiet P ops C Lq l a →
  headQ P md ops C n (fun listed' a'=>Region.seqB md ops g n listed'=true∧Lq a') l.length listed a:=by
 induction l with
 | nil=>
  intro k listed a _ hk _ hB h
  obtain rfl:k=n:=by simpa using hk
  exact ⟨by simpa [Region.lexHead] using hB,h⟩
 | cons o l ih=>
  intro k listed a hl hk inv hB h
  have h0:ops[k]?=some o:=by simpa using (hl 0 (by simp)).symm
  simp only [List.length_cons,Region.lexHead,Bool.and_eq_true] at hB
  obtain ⟨⟨hr,hf⟩,hB'⟩:=hB
  have hkn:k<n:=by simp only [List.length_cons] at hk;omega
  have hr':k∈Region.ready md ops listed:=by simpa using hr
  have hst:qOp P ops C k (wpQuiet P ops C Lq l) a:=by unfold qOp;simp only [h0];exact h
  obtain ⟨v,hy,hK⟩:=yieldsIn_of_qOp h0 hst
  refine headQ_first h0 (Region.noSelect_spec hsel) hs hc hn hkn (fun listed' a' hL=>seqB_ready hL.1) l.length listed a inv (Region.free_spec h0 hf) hr' hy ?_
  exact ih (k+1) _ _ (fun j hj=>by have:=hl (j+1) (by simp;omega);simpa [Nat.add_assoc,Nat.add_comm 1 j] using this) (by simp only [List.length_cons] at hk;omega) (inv.set hr' hkn) hB' hK
theorem wp_quiet_tail {id:Nat}{Q:Exit→Act→World→Prop}{a:Act}{w:World}{l:List Oper} (n:Nat) (hm:P.follows .mixedOrders=true) (hB:Region.lexTailB .any l.toArray n=true) (hC:C w.drew)
  (h:wpQuiet P l.toArray C (fun a'=>∀ w',C w'→wpList P l.toArray Q (l.drop n) a' w') (l.take n) a):(Code.region id l.toArray true).wp P Q a w:=by
 simp only [Region.lexTailB,Bool.and_eq_true,decide_eq_true_eq] at hB
 obtain ⟨⟨⟨⟨hsel,hn⟩,hs⟩,hc⟩,hlex⟩:=hB
 have hn':n<l.length:=by simpa using hn
 have htl:(l.take n).length=n:=by simp;omega
 have hdl:(l.drop n).length=l.toArray.size-n:=by simp
 have inv0:HeadInv .any l.toArray n (Array.replicate l.toArray.size false):=
  ⟨by simp,fun j oj _ hl=>(by rw [getD_replicate_false] at hl;cases hl),fun t _ ht=>getD_in (by simpa using ht) (getD_replicate_false _ _)⟩
 have H:=headQ_lex (md:=.any) (g:=l.toArray.size-n) hsel hs hc hn (l.take n) 0 _ a (fun j hj=>by
  have hj':j<n:=by rw [htl] at hj;exact hj
  simp [hj']) (by simpa using htl) inv0 (by rw [htl];exact hlex) h
 refine wp_region_any hm ?_
 have:=headQ_run (Q:=Q) (g:=l.toArray.size-n) (fun listed a' w' hw' hL=>by
  have:=wpAny_of_seq (md:=.any) (Q':=Q) (l.drop n) n listed a' w' (fun j=>by simp [List.getElem?_drop]) (by rw [hdl];exact hL.1) (hL.2 w' hw')
  rwa [hdl] at this) _ _ _ _ (show C w.drew from hC) H
 rw [htl,show n+(l.toArray.size-n)=l.toArray.size by omega] at this
 exact this
end
theorem wp_drawn_tail {P:Program}{id:Nat}{Q:Exit→Act→World→Prop}{a:Act}{w:World}{l:List Oper} (n:Nat) (hm:P.follows .mixedOrders=true) (hB:Region.lexTailB .any l.toArray n=true)
  (h:wpQuiet P l.toArray (fun w'=>∃ k,w'=w.drewN k) (fun a'=>∀ w',(∃ k,w'=w.drewN k)→wpList P l.toArray Q (l.drop n) a' w') (l.take n) a):(Code.region id l.toArray true).wp P Q a w:=
 wp_quiet_tail n hm hB ⟨1,rfl⟩ h
end
section
open Go.RowKit
section
variable {P:Program}{ops:Array Oper}{md:Region.Mode}{S:World→Prop}{Q:Exit→Act→World→Prop}
def headM (P:Program) (md:Region.Mode) (ops:Array Oper) (Q:Exit→Act→World→Prop) (S:World→Prop) (n:Nat) (L:Array Bool→Act→World→Prop):Nat→Array Bool→Act→World→Prop
 | 0,listed,a,w=>L listed a w
 | f+1,listed,a,w=>Region.ready md ops listed≠[]∧∀ i∈Region.ready md ops listed,i<n∧wpOp P ops Q i (fun a' w'=>S w'∧headM P md ops Q S n L f (listed.setIfInBounds i true) a' w') a w
theorem headM_run {n g:Nat}{L:Array Bool→Act→World→Prop} (hL:∀ listed a w,L listed a w→wpAny P md ops Q g listed a w) (f:Nat) :
  ∀ (listed:Array Bool) (a:Act) (w:World),headM P md ops Q S n L f listed a w→wpAny P md ops Q (f+g) listed a w:=by
 induction f with
 | zero=>intro listed a w h;rw [Nat.zero_add];exact hL _ _ _ h
 | succ f ih=>
  intro listed a w h
  rw [show f+1+g=(f+g)+1 by omega]
  exact ⟨fun h0=>absurd h0 h.1,fun i hi=>wpOp_mono (fun a' w' h'=>ih _ a' w' h'.2) (h.2 i hi).2⟩
theorem headM_first {n i:Nat}{oi:Oper}{v:Value}{L:Array Bool→Act→World→Prop} (hi:ops[i]?=some oi) (hsel:∀ (j:Nat) (o:Oper) cs b,ops[j]?=some o→o.op≠.select cs b)
  (hQ:∀ c a d v w,Q (.panic c) (Act.put a d v) w→Q (.panic c) a w)
  (hs:Region.sinkB md ops n=true) (hc:Region.chainB md ops n=true) (hn:n<ops.size) (hin:i<n)
  (hdone:∀ listed a w,L listed a w→∀ j∈Region.ready md ops listed,n≤j) (f:Nat) :
  ∀ (listed:Array Bool) (a:Act) (w:World),HeadInv md ops n listed →
   (∀ j oj,ops[j]?=some oj→j≠i→listed.getD j true=false→(∀ e∈oj.after,Region.binds md e=true→e.on≠i)→oi.apart ops oj=true) →
   i∈Region.ready md ops listed→YieldsIf P ops S oi v a→S w →
   headM P md ops Q S n L f (listed.setIfInBounds i true) (a.put oi.dst v) w→headM P md ops Q S n L (f+1) listed a w:=by
 induction f with
 | zero=>
  intro listed a w inv _ hr hy hS H
  refine ⟨fun h=>(by rw [h] at hr;cases hr),fun j hj=>?_⟩
  have hjn:j<n:=by
   rcases Nat.lt_or_ge j n with h|h
   ·exact h
   ·exact absurd hj (tail_waits hs hc hn inv _ i rfl hin (mem_ready.1 hr).1 j h)
  refine ⟨hjn,?_⟩
  by_cases hji:j=i
  ·subst hji;exact hy.wpOp hi hS ⟨hS,H⟩
  ·have:=hdone _ _ _ H j (ready_mono hj hji);omega
 | succ f ih=>
  intro listed a w inv hfree hr hy hS H
  refine ⟨fun h=>(by rw [h] at hr;cases hr),fun j hj=>?_⟩
  have hjn:j<n:=by
   rcases Nat.lt_or_ge j n with h|h
   ·exact h
   ·exact absurd hj (tail_waits hs hc hn inv _ i rfl hin (mem_ready.1 hr).1 j h)
  refine ⟨hjn,?_⟩
  by_cases hji:j=i
  ·subst hji;exact hy.wpOp hi hS ⟨hS,H⟩
  have h1:=(H.2 j (ready_mono hj hji)).2
  obtain ⟨hjun,oj,hoj,hall⟩:=mem_ready.1 hj
  have hnot:∀ e∈oj.after,Region.binds md e=true→e.on≠i:=by
   intro e he hb heq
   have h2:=hall e he hb
   rw [heq,getD_both (mem_ready.1 hr).1] at h2
   cases h2
  have h2:=wpOp_putIf hoj (hfree j oj hoj hji hjun hnot) (fun cs b=>hsel i oi cs b hi) (fun cs b=>hsel j oj cs b hoj) (fun c a w=>hQ c _ _ _ w) hy h1
  refine wpOp_mono (fun a' w' h3=>⟨h3.2.1,ih (listed.setIfInBounds j true) a' w' (inv.set hj hjn) ?_ (ready_mono hr (Ne.symm hji)) h3.1 h3.2.1 ?_⟩) h2
  ·intro k ok hk hki hun hno
   refine hfree k ok hk hki ?_ hno
   by_cases hjk:j=k
   ·subst hjk;exact hjun
   ·rw [getD_set_ne true hjk] at hun;exact hun
  ·rw [Array.setIfInBounds_comm _ _ hji];exact h3.2.2
def wpHead (P:Program) (ops:Array Oper) (S:World→Prop) (R:Act→Prop):List Oper→Act→Prop
 | [],a=>R a
 | o :: l,a=>∃ v,YieldsIf P ops S o v a∧wpHead P ops S R l (a.put o.dst v)
def lexM (md:Region.Mode) (ops:Array Oper) (g:Nat):Nat→Nat→Array Bool→Bool
 | 0,k,listed=>decide (Region.ready md ops listed=[k])&&Region.seqB md ops g (k+1) (listed.setIfInBounds k true)
 | c+1,k,listed=>(Region.ready md ops listed).contains k&&Region.free md ops listed k&&lexM md ops g c (k+1) (listed.setIfInBounds k true)
theorem headM_lex {n g:Nat}{R:Act→World→Prop} (hQ:∀ c a d v w,Q (.panic c) (Act.put a d v) w→Q (.panic c) a w) (hsel:Region.noSelect ops=true) (hs:Region.sinkB md ops n=true) (hc:Region.chainB md ops n=true) (hn:n<ops.size) (l:List Oper) :
  ∀ (k:Nat) (listed:Array Bool) (a:Act) (w:World),(∀ j,j<l.length→l[j]?=ops[k+j]?)→k+l.length+1=n→HeadInv md ops n listed→S w →
  lexM md ops g l.length k listed=true→wpHead P ops S (fun a=>wpOp P ops Q (n-1) (fun a' w'=>S w'∧R a' w') a w) l a →
  headM P md ops Q S n (fun listed' a' w'=>Region.seqB md ops g n listed'=true∧R a' w') (l.length+1) listed a w:=by
 induction l with
 | nil=>
  intro k listed a w _ hk _ _ hB h
  obtain rfl:n=k+1:=by simpa using hk.symm
  rw [wpHead,Nat.add_sub_cancel] at h
  simp only [List.length_nil,lexM,Bool.and_eq_true,decide_eq_true_eq] at hB
  refine ⟨by rw [hB.1];simp,fun i hi=>?_⟩
  rw [hB.1] at hi
  obtain rfl:i=k:=by simpa using hi
  exact ⟨Nat.lt_succ_self _,wpOp_mono (fun a' w' h'=>⟨h'.1,hB.2,h'.2⟩) h⟩
 | cons o l ih=>
  intro k listed a w hl hk inv hS hB h
  have h0:ops[k]?=some o:=by simpa using (hl 0 (by simp)).symm
  simp only [List.length_cons,lexM,Bool.and_eq_true] at hB
  obtain ⟨⟨hr,hf⟩,hB'⟩:=hB
  have hkn:k<n:=by simp only [List.length_cons] at hk;omega
  have hr':k∈Region.ready md ops listed:=by simpa using hr
  obtain ⟨v,hy,hK⟩:=h
  refine headM_first h0 (Region.noSelect_spec hsel) hQ hs hc hn hkn (fun listed' a' w' hL=>seqB_ready hL.1) (l.length+1) listed a w inv (Region.free_spec h0 hf) hr' hy hS ?_
  exact ih (k+1) _ _ _ (fun j hj=>by have:=hl (j+1) (by simp;omega);simpa [Nat.add_assoc,Nat.add_comm 1 j] using this) (by simp only [List.length_cons] at hk;omega) (inv.set hr' hkn) hS hB' hK
def lexMB (md:Region.Mode) (ops:Array Oper) (m:Nat):Bool:=
 Region.noSelect ops&&decide (m+1<ops.size)&&Region.sinkB md ops (m+1)&&Region.chainB md ops (m+1)&&lexM md ops (ops.size-(m+1)) m 0 (Array.replicate ops.size false)
theorem wp_held_tail {id:Nat}{a:Act}{w:World}{l:List Oper} (S:World→Prop) (m:Nat) (hm:P.follows .mixedOrders=true) (hB:lexMB .any l.toArray m=true) (hQ:∀ c a d v w,Q (.panic c) (Act.put a d v) w→Q (.panic c) a w) (hS:S w.drew)
  (h:wpHead P l.toArray S (fun a=>wpOp P l.toArray Q m (fun a' w'=>S w'∧wpList P l.toArray Q (l.drop (m+1)) a' w') a w.drew) (l.take m) a):(Code.region id l.toArray true).wp P Q a w:=by
 simp only [lexMB,Bool.and_eq_true,decide_eq_true_eq] at hB
 obtain ⟨⟨⟨⟨hsel,hn⟩,hs⟩,hc⟩,hlex⟩:=hB
 have hn':m+1<l.length:=by simpa using hn
 have htl:(l.take m).length=m:=by simp;omega
 have hdl:(l.drop (m+1)).length=l.toArray.size-(m+1):=by simp
 have inv0:HeadInv .any l.toArray (m+1) (Array.replicate l.toArray.size false):=
  ⟨by simp,fun j oj _ hl=>(by rw [getD_replicate_false] at hl;cases hl),fun t _ ht=>getD_in (by simpa using ht) (getD_replicate_false _ _)⟩
 have H:=headM_lex (P:=P) (Q:=Q) (S:=S) (md:=.any) (n:=m+1) (g:=l.toArray.size-(m+1)) (R:=fun a' w'=>wpList P l.toArray Q (l.drop (m+1)) a' w') hQ hsel hs hc hn (l.take m) 0 _ a w.drew (fun j hj=>by
  have hj':j<m:=by rw [htl] at hj;exact hj
  simp [hj']) (by rw [htl];omega) inv0 hS (by rw [htl];exact hlex) h
 refine wp_region_any hm ?_
 have:=headM_run (g:=l.toArray.size-(m+1)) (fun listed a' w' hL=>by
  have:=wpAny_of_seq (md:=.any) (Q':=Q) (l.drop (m+1)) (m+1) listed a' w' (fun j=>by simp [List.getElem?_drop]) (by rw [hdl];exact hL.1) hL.2
  rwa [hdl] at this) _ _ _ _ H
 rw [htl,show m+1+(l.toArray.size-(m+1))=l.toArray.size by omega] at this
 exact this
end
theorem wpHead_mid {P:Program}{ops:Array Oper}{Q:Exit→Act→World→Prop}{S:World→Prop}{K:Act→World→Prop}{m:Nat}{a:Act}{w:World} (o:Oper) (ho:ops[m]?=some o) (hw:Region.wanted o (yielded ops a.tmps)=true)
  (h:∀ Kv:Act→World→Prop,(∀ a w,K a w→Kv a w)→o.wp P a w Kv Q):wpHead P ops S (fun a=>wpOp P ops Q m K a w) [] a:=by
 show wpOp P ops Q m K a w
 unfold wpOp
 simp only [ho,hw,if_true]
 exact .inl (h K fun _ _ h=>h)
end
section
open Go.RowKit
theorem add_block (a:Addr) (j:Nat):(a.add j).block=a.block:=by unfold Addr.add;split<;>rfl
def SlA (w:World) (size:Nat) (ao:Option Addr) (n cap:Nat) (xs:List Value):Prop:=
 xs.length=n*size∧(ao=none→n=0∧cap=0)∧∀ j u,xs[j]?=some u→∃ a,ao=some a∧w.cell? (a.add j)=some u
theorem SlA.below {w w':World}{size:Nat}{ao:Option Addr}{n cap:Nat}{xs:List Value} (h:SlA w size ao n cap xs) {B:Nat} (hb:Below B w w') (hB:∀ (a:Addr) (j:Nat) (u:Value),ao=some a→xs[j]?=some u→a.block<B):SlA w' size ao n cap xs:=by
 refine ⟨h.1,h.2.1,fun j u hu=>?_⟩
 obtain ⟨a,ha,hc⟩:=h.2.2 j u hu
 exact ⟨a,ha,by rw [hb.cell (p:=a.add j) (by rw [add_block];exact hB a j u ha hu)];exact hc⟩
theorem SlA.old {w w':World}{size:Nat}{ao:Option Addr}{n cap:Nat}{xs:List Value} (h:SlA w size ao n cap xs) (hb:Below w.heap.size w w'):SlA w' size ao n cap xs:=by
 refine h.below hb fun a j u ha hu=>?_
 obtain ⟨a',ha',hc⟩:=h.2.2 j u hu
 rw [ha] at ha'
 obtain rfl:=Option.some.inj ha'
 have:=cell_lt hc;rwa [add_block] at this
theorem SlA.alloc {w:World}{size:Nat}{ao:Option Addr}{n cap:Nat}{xs:List Value} (h:SlA w size ao n cap xs) (o:Obj):SlA (w.alloc o) size ao n cap xs:=
 h.old ((Below.refl _ _).alloc (Nat.le_refl _) _)
theorem SlA.ints {k:IntKind}{w:World}{ao:Option Addr}{n cap:Nat}{zs:List Int} (h:SlA w 1 ao n cap (zs.map (Value.int k))):n=zs.length∧Sl k w ao zs:=by
 refine ⟨by simpa using h.1.symm,fun i hi=>?_⟩
 obtain ⟨a,ha,hc⟩:=h.2.2 i (.int k (zs.getD i 0)) (by rw [List.getElem?_map,List.getElem?_eq_getElem hi];simp [hi])
 exact ⟨a,ha,hc⟩
theorem SlA.of_ints {k:IntKind}{w:World}{ao:Option Addr}{cap:Nat}{zs:List Int} (h:Sl k w ao zs) (hn:ao=none→cap=0):SlA w 1 ao zs.length cap (zs.map (Value.int k)):=by
 refine ⟨by simp,fun ha=>⟨?_,hn ha⟩,fun j u hu=>?_⟩
 ·cases zs with
  | nil=>rfl
  | cons z r=>obtain ⟨a,ha',_⟩:=h 0 (by simp);rw [ha] at ha';cases ha'
 ·rw [List.getElem?_map] at hu
  obtain ⟨z,hz,rfl⟩:=Option.map_eq_some_iff.1 hu
  have hj:j<zs.length:=(List.getElem?_eq_some_iff.1 hz).1
  obtain ⟨a,ha,hc⟩:=h j hj
  refine ⟨a,ha,?_⟩
  rw [hc,List.getD_eq_getElem?_getD,hz];rfl
structure El (P:Program) (t e:TypeId) (size bytes:Nat):Prop where
 und:P.underlying t=some (.slice e)
 info:∃ i z,P.info? e=some i∧i.zero=some z∧i.size=size∧i.bytes=bytes∧z.cells.size=size
 pos:0<size
theorem El.mk' {P:Program}{t e:TypeId}{size bytes:Nat}{z:Value} (ht:P.underlying t=some (.slice e)) (h:(P.info? e).map (fun i=>(i.zero,i.size,i.bytes))=some (some z,size,bytes)) (hz:z.cells.size=size) (hp:0<size):El P t e size bytes:=by
 obtain ⟨i,hi,h0,h1,h2⟩:=info_parts h
 exact ⟨ht,⟨i,z,hi,h0,h1,h2,hz⟩,hp⟩
section
variable {w:World}{base:Nat}{e:TypeId}{size:Nat}{ao:Option Addr}{m n cap:Nat}{xs:List Value}(h:w.ownsRow base e size (.slice ao m cap) n xs)
include w base e size ao m n cap xs h
theorem ownsRow_slA:m=n∧SlA w size ao n cap xs:=by
 obtain ⟨h1,h2⟩:=h
 rcases h2 with ⟨h2,rfl⟩|⟨g,c,cur,hv,_,hg,_,_,_,ht⟩
 ·cases h2
  exact ⟨rfl,h1,fun _=>⟨rfl,rfl⟩,fun j u hu=>by simp at h1;subst h1;simp at hu⟩
 ·cases hv
  refine ⟨rfl,h1,(fun h=>by cases h),fun j u hu=>⟨_,rfl,?_⟩⟩
  have hadd:(⟨g,0,none⟩:Addr).add j=⟨g,j,none⟩:=by unfold Addr.add;split<;>simp_all
  rw [hadd,cell_of_row w g j cur e (0,0) hg]
  rw [←ht,List.getElem?_take] at hu
  split at hu
  ·simpa using hu
  ·cases hu
theorem ownsRow_some (hn:0<n):∃ g,ao=some ⟨g,0,none⟩:=by
 rcases h.2 with ⟨_,rfl⟩|⟨g,c,cur,hv,_⟩
 ·omega
 ·cases hv;exact ⟨g,rfl⟩
end
theorem wpList_append_sl {P:Program}{w:World}{ops:Array Oper}{rest:List Oper}{o:Oper}{a:Act}{Q:Exit→Act→World→Prop} (hgd:o.guard=none) (s x:Operand) (t:TypeId)
  (ho:o.op=.call { callee:=.builtin .append,args:=#[s,x],argTypes:=#[t,t] })
  (base:Nat) (e:TypeId) (size bytes:Nat) (hel:El P t e size bytes)
  (v:Value) (n:Nat) (xs:List Value) (hs:a.eval s=v) (hown:w.ownsRow base e size v n xs)
  (bo:Option Addr) (m c:Nat) (news:List Value) (hx:a.eval x=.slice bo m c) (hsl:SlA w size bo m c news) (h1:∀ u∈news,u.oneCell'=true)
  (hbytes:(n+m)*bytes≤140737488355328) (h63:n+m≤maxLen) (hbase:base≤w.heap.size)
  (h:∀ ao' cap' w',w'.ownsRow base e size (.slice ao' (n+m) cap') (n+m) (xs++news)→w.grownBy w' v.ownBlock→wpList P ops Q rest (a.put o.dst (.slice ao' (n+m) cap')) w'):wpList P ops Q (o :: rest) a w:=by
 obtain ⟨i,z,hi,hz,hsize,hby,hzs⟩:=hel.info
 cases bo with
 | none=>
  obtain ⟨rfl,rfl⟩:=hsl.2.1 rfl
  have hn:news=[]:=by have:=hsl.1;simpa using this
  subst hn
  have hv:∃ ao cap,v=.slice ao n cap:=by
   rcases hown.2 with ⟨rfl,rfl⟩|⟨g,c,cur,rfl,_⟩
   ·exact ⟨_,_,rfl⟩
   ·exact ⟨_,_,rfl⟩
  obtain ⟨ao,cap,rfl⟩:=hv
  refine wpList_append_own_none hgd s x t ho base e i size hel.und hi _ n xs hs hown hx ?_
  exact h ao cap w (by simpa using hown) ⟨rfl,rfl,rfl,Nat.le_refl _,fun _ _ _=>rfl⟩
 | some ad=>
  refine wpList_append_own _ hgd s x t ho base e i z size bytes hel.und hi hz hsize hby hzs hel.pos v n xs hs hown ad m c news hx hsl.1 (fun j u hu=>?_) h1 h63 hbytes hbase ?_
  ·obtain ⟨a',ha',hc⟩:=hsl.2.2 j u hu
   obtain rfl:=Option.some.inj ha'
   exact hc
  ·intro v' w' hown' hg _
   rcases hown'.2 with ⟨rfl,hnm⟩|⟨g,c,cur,rfl,hr⟩
   ·have:=h none 0 w'
    rw [hnm] at this hown'
    exact this hown' hg
   ·exact h _ c w' hown' hg
end
section
open Go.RowKit
section
variable {P:Program}{ops:Array Oper}{md:Region.Mode}{S:World→Prop}{Q:Exit→Act→World→Prop}
def wpMids (P:Program) (ops:Array Oper) (Q:Exit→Act→World→Prop) (S:World→Prop) (R:Act→World→Prop):Nat→Nat→Act→World→Prop
 | 0,_,a,w=>R a w
 | q+1,k,a,w=>wpOp P ops Q k (fun a' w'=>S w'∧wpMids P ops Q S R q (k+1) a' w') a w
def lexMid (md:Region.Mode) (ops:Array Oper) (g:Nat):Nat→Nat→Array Bool→Bool
 | 0,k,listed=>Region.seqB md ops g k listed
 | q+1,k,listed=>decide (Region.ready md ops listed=[k])&&lexMid md ops g q (k+1) (listed.setIfInBounds k true)
def lexQ (md:Region.Mode) (ops:Array Oper) (g q:Nat):Nat→Nat→Array Bool→Bool
 | 0,k,listed=>lexMid md ops g q k listed
 | c+1,k,listed=>(Region.ready md ops listed).contains k&&Region.free md ops listed k&&lexQ md ops g q c (k+1) (listed.setIfInBounds k true)
theorem headM_mids {n g:Nat}{R:Act→World→Prop} (q:Nat):∀ (k:Nat) (listed:Array Bool) (a:Act) (w:World),k+q=n→lexMid md ops g q k listed=true→wpMids P ops Q S R q k a w →
  headM P md ops Q S n (fun listed' a' w'=>Region.seqB md ops g n listed'=true∧R a' w') q listed a w:=by
 induction q with
 | zero=>
  intro k listed a w hk hB h
  obtain rfl:k=n:=by simpa using hk
  exact ⟨hB,h⟩
 | succ q ih=>
  intro k listed a w hk hB h
  simp only [lexMid,Bool.and_eq_true,decide_eq_true_eq] at hB
  refine ⟨by rw [hB.1];simp,fun i hi=>?_⟩
  rw [hB.1] at hi
  obtain rfl:i=k:=by simpa using hi
  exact ⟨by omega,wpOp_mono (fun a' w' h'=>⟨h'.1,ih (i+1) _ _ _ (by omega) hB.2 h'.2⟩) h⟩
theorem headM_lexQ {n g q:Nat}{R:Act→World→Prop} (hQ:∀ c a d v w,Q (.panic c) (Act.put a d v) w→Q (.panic c) a w) (hsel:Region.noSelect ops=true) (hs:Region.sinkB md ops n=true) (hc:Region.chainB md ops n=true) (hn:n<ops.size) (hq:0<q) (l:List Oper) :
  ∀ (k:Nat) (listed:Array Bool) (a:Act) (w:World),(∀ j,j<l.length→l[j]?=ops[k+j]?)→k+l.length+q=n→HeadInv md ops n listed→S w →
  lexQ md ops g q l.length k listed=true→wpHead P ops S (fun a=>wpMids P ops Q S R q (n-q) a w) l a →
  headM P md ops Q S n (fun listed' a' w'=>Region.seqB md ops g n listed'=true∧R a' w') (l.length+q) listed a w:=by
 induction l with
 | nil=>
  intro k listed a w _ hk _ _ hB h
  obtain rfl:n=k+q:=by simpa using hk.symm
  rw [wpHead,Nat.add_sub_cancel] at h
  rw [show ([]:List Oper).length+q=q by simp]
  exact headM_mids q k listed a w rfl hB h
 | cons o l ih=>
  intro k listed a w hl hk inv hS hB h
  have h0:ops[k]?=some o:=by simpa using (hl 0 (by simp)).symm
  simp only [List.length_cons,lexQ,Bool.and_eq_true] at hB
  obtain ⟨⟨hr,hf⟩,hB'⟩:=hB
  have hkn:k<n:=by simp only [List.length_cons] at hk;omega
  have hr':k∈Region.ready md ops listed:=by simpa using hr
  obtain ⟨v,hy,hK⟩:=h
  rw [show (o :: l).length+q=(l.length+q)+1 by simp;omega]
  refine headM_first h0 (Region.noSelect_spec hsel) hQ hs hc hn hkn (fun listed' a' w' hL=>seqB_ready hL.1) (l.length+q) listed a w inv (Region.free_spec h0 hf) hr' hy hS ?_
  exact ih (k+1) _ _ _ (fun j hj=>by have:=hl (j+1) (by simp;omega);simpa [Nat.add_assoc,Nat.add_comm 1 j] using this) (by simp only [List.length_cons] at hk;omega) (inv.set hr' hkn) hS hB' hK
def lexQB (md:Region.Mode) (ops:Array Oper) (m q:Nat):Bool:=
 Region.noSelect ops&&decide (m+q<ops.size)&&decide (0<q)&&Region.sinkB md ops (m+q)&&Region.chainB md ops (m+q)&&lexQ md ops (ops.size-(m+q)) q m 0 (Array.replicate ops.size false)
theorem wp_held_tails {id:Nat}{a:Act}{w:World}{l:List Oper} (S:World→Prop) (m q:Nat) (hm:P.follows .mixedOrders=true) (hB:lexQB .any l.toArray m q=true) (hQ:∀ c a d v w,Q (.panic c) (Act.put a d v) w→Q (.panic c) a w) (hS:S w.drew)
  (h:wpHead P l.toArray S (fun a=>wpMids P l.toArray Q S (fun a' w'=>wpList P l.toArray Q (l.drop (m+q)) a' w') q m a w.drew) (l.take m) a):(Code.region id l.toArray true).wp P Q a w:=by
 simp only [lexQB,Bool.and_eq_true,decide_eq_true_eq] at hB
 obtain ⟨⟨⟨⟨⟨hsel,hn⟩,hq⟩,hs⟩,hc⟩,hlex⟩:=hB
 have hn':m+q<l.length:=by simpa using hn
 have htl:(l.take m).length=m:=by simp;omega
 have hdl:(l.drop (m+q)).length=l.toArray.size-(m+q):=by simp
 have inv0:HeadInv .any l.toArray (m+q) (Array.replicate l.toArray.size false):=
  ⟨by simp,fun j oj _ hl=>(by rw [getD_replicate_false] at hl;cases hl),fun t _ ht=>getD_in (by simpa using ht) (getD_replicate_false _ _)⟩
 have H:=headM_lexQ (P:=P) (Q:=Q) (S:=S) (md:=.any) (n:=m+q) (q:=q) (g:=l.toArray.size-(m+q)) (R:=fun a' w'=>wpList P l.toArray Q (l.drop (m+q)) a' w') hQ hsel hs hc hn hq (l.take m) 0 _ a w.drew (fun j hj=>by
  have hj':j<m:=by rw [htl] at hj;exact hj
  simp [hj']) (by rw [htl];omega) inv0 hS (by rw [htl];exact hlex) (by rw [Nat.add_sub_cancel];exact h)
 refine wp_region_any hm ?_
 have:=headM_run (g:=l.toArray.size-(m+q)) (fun listed a' w' hL=>by
  have:=wpAny_of_seq (md:=.any) (Q':=Q) (l.drop (m+q)) (m+q) listed a' w' (fun j=>by simp [List.getElem?_drop]) (by rw [hdl];exact hL.1) hL.2
  rwa [hdl] at this) _ _ _ _ H
 rw [htl,show m+q+(l.toArray.size-(m+q))=l.toArray.size by omega] at this
 exact this
theorem wpHead_nil {R:Act→Prop}{a:Act} (h:R a):wpHead P ops S R [] a:=h
theorem wpMids_one {R:Act→World→Prop}{q k:Nat}{a:Act}{w:World} (o:Oper) (ho:ops[k]?=some o) (hw:Region.wanted o (yielded ops a.tmps)=true)
  (h:∀ Kv:Act→World→Prop,(∀ a w,S w→wpMids P ops Q S R q (k+1) a w→Kv a w)→o.wp P a w Kv Q):wpMids P ops Q S R (q+1) k a w:=by
 exact k62
end
theorem wp_append_sl {P:Program}{w:World}{o:Oper}{a:Act}{K:Act→World→Prop}{Q:Exit→Act→World→Prop} (s x:Operand) (t:TypeId)
  (ho:o.op=.call { callee:=.builtin .append,args:=#[s,x],argTypes:=#[t,t] })
  (base:Nat) (e:TypeId) (size bytes:Nat) (hel:El P t e size bytes)
  (v:Value) (n:Nat) (xs:List Value) (hs:a.eval s=v) (hown:w.ownsRow base e size v n xs)
  (ad:Addr) (m c:Nat) (news:List Value) (hx:a.eval x=.slice (some ad) m c) (hsl:SlA w size (some ad) m c news) (h1:∀ u∈news,u.oneCell'=true) (hm:0<m)
  (hbytes:(n+m)*bytes≤140737488355328) (h63:n+m≤maxLen) (hbase:base≤w.heap.size)
  (h:∀ ao' cap' w',w'.ownsRow base e size (.slice ao' (n+m) cap') (n+m) (xs++news)→w.grownBy w' v.ownBlock→K (a.put o.dst (.slice ao' (n+m) cap')) w'):o.wp P a w K Q:=by
 obtain ⟨i,z,hi,hz,hsize,hby,hzs⟩:=hel.info
 refine wp_append_own _ s x t ho base e i z size bytes hel.und hi hz hsize hby hzs hel.pos v n xs hs hown ad m c news hx hsl.1 (fun j u hu=>?_) h1 h63 hbytes hbase ?_
 ·obtain ⟨a',ha',hc⟩:=hsl.2.2 j u hu
  obtain rfl:=Option.some.inj ha'
  exact hc
 ·intro v' w' hown' hg _
  exact k99
end
section
open Go.RowKit
def Blk (w:World) (b:Nat) (xs:Array Value) (t:TypeId):Prop:=w.heap[b]?=some (.cells xs t (0,0))
section
variable {w:World}{b:Nat}{xs:Array Value}{t:TypeId}(h:Blk w b xs t)
include w b xs t h
theorem Blk.lt:b<w.heap.size:=by
 rcases Nat.lt_or_ge b w.heap.size with h'|h'
 ·exact h'
 ·simp [Blk,Array.getElem?_eq_none h'] at h
theorem Blk.cell (i:Nat) {v:Value} (hv:xs[i]?=some v):w.cell? ⟨b,i,none⟩=some v:=by
 rw [cell_of_row w b i xs t (0,0) h];exact hv
theorem Blk.frozen (i:Nat):w.frozen? ⟨b,i,none⟩=false:=frozen_of_row w b i xs t h
theorem Blk.set (i:Nat) (v:Value):Blk (w.setCell ⟨b,i,none⟩ v) b (xs.setIfInBounds i v) t:=heap_setCell_same w b i xs t v h
theorem Blk.other {a:Addr} (ha:b≠a.block) (v:Value):Blk (w.setCell a v) b xs t:=by
 unfold Blk;rw [heap_setCell_other w a b v ha];exact h
theorem Blk.alloc (o:Obj):Blk (w.alloc o) b xs t:=by
 unfold Blk;rw [Below.heap_alloc w o b h.lt];exact h
end
theorem Blk.new (w:World) (xs:Array Value) (t:TypeId):Blk (w.alloc (.cells xs t)) w.heap.size xs t:=heap_alloc_new w _
theorem Blk.new' {w:World}{b:Nat} (xs:Array Value) (t:TypeId) (hb:b=w.heap.size):Blk (w.alloc (.cells xs t)) b xs t:=by subst hb;exact heap_alloc_new w _
theorem Blk.drew {w:World}{b:Nat}{xs:Array Value}{t:TypeId} (h:Blk w b xs t):Blk w.drew b xs t:=h
theorem Blk.drewN {w:World}{b:Nat}{xs:Array Value}{t:TypeId} (h:Blk w b xs t) (n:Nat):Blk (w.drewN n) b xs t:=h
theorem Blk.below {w w':World}{b B:Nat}{xs:Array Value}{t:TypeId} (h:Blk w b xs t) (hb:Below B w w') (hB:b<B):Blk w' b xs t:=by
 unfold Blk;rw [hb.block b hB];exact h
theorem Blk.old {w w':World}{b:Nat}{xs:Array Value}{t:TypeId} (h:Blk w b xs t) (hb:Below w.heap.size w w'):Blk w' b xs t:=h.below hb h.lt
theorem size_set (w:World) (a:Addr) (v:Value):(w.setCell a v).heap.size=w.heap.size:=by simp [World.setCell]
end
section
open Go.RowKit
class Cells (α:Type) where
 n:Nat
 pos:0<n
 cells:α→List Value
 len:∀ x,(cells x).length=n
 one:∀ x,∀ u∈cells x,u.oneCell'=true
def flatR {α:Type} [Cells α] (l:List α):List Value:=l.flatMap Cells.cells
theorem take_snocR {α:Type} [Inhabited α] (l:List α) (k:Nat) (h:k<l.length):l.take (k+1)=l.take k++[l.getD k default]:=by
 rw [List.take_succ_eq_append_getElem h];simp [h]
section
variable {α:Type} [Cells α]
theorem flatR_length (l:List α):(flatR l).length=l.length*Cells.n α:=by
 induction l with
 | nil=>simp [flatR]
 | cons x r ih=>simp only [flatR,List.flatMap_cons,List.length_append,Cells.len,List.length_cons] at ih ⊢;rw [ih,Nat.succ_mul,Nat.add_comm]
theorem flatR_append (l m:List α):flatR (l++m)=flatR l++flatR m:=by simp [flatR]
theorem flatR_one (x:α):flatR [x]=Cells.cells x:=by simp [flatR]
theorem flatR_get (l:List α) (i:Nat) (hi:i<l.length) (j:Nat) (hj:j<Cells.n α):(flatR l)[i*Cells.n α+j]?=(Cells.cells l[i])[j]?:=by
 induction l generalizing i with
 | nil=>cases hi
 | cons y r ih=>
  cases i with
  | zero=>
   simp only [flatR,List.flatMap_cons,Nat.zero_mul,Nat.zero_add,List.getElem_cons_zero]
   rw [List.getElem?_append_left (by rw [Cells.len];exact hj)]
  | succ i=>
   have h1:=ih i (by simpa using hi)
   simp only [flatR,List.flatMap_cons,List.getElem_cons_succ] at h1 ⊢
   rw [List.getElem?_append_right (by rw [Cells.len,Nat.succ_mul];omega),←h1,Cells.len]
   congr 1
   rw [Nat.succ_mul];omega
theorem flatR_oneC (l:List α):∀ u∈flatR l,u.oneCell'=true:=by
 intro u hu
 simp only [flatR,List.mem_flatMap] at hu
 obtain ⟨x,_,hx⟩:=hu
 exact Cells.one x u hx
def RowAt (w:World) (ao:Option Addr) (cap:Nat) (l:List α):Prop:=SlA w (Cells.n α) ao l.length cap (flatR l)
def at_ (ad:Addr) (i:Nat) (j:Nat):Addr:=if j=0 then ad.add i else ⟨(ad.add i).block,(ad.add i).off+j,none⟩
theorem addr_add (a:Addr) (n j:Nat) (hj:0<j):a.add (n+j)=⟨(a.add n).block,(a.add n).off+j,none⟩:=by
 unfold Addr.add
 rw [if_neg (by omega)]
 split
 ·subst_vars;simp
 ·simp [Nat.add_assoc]
theorem RowAt.some {w:World}{ao:Option Addr}{cap:Nat}{l:List α} (h:RowAt w ao cap l) (hl:0<l.length):∃ ad,ao=.some ad:=by
 have hn:=Cells.pos (α:=α)
 obtain ⟨ad,ha,_⟩:=h.2.2 0 (flatR l)[0]! (by
  have h1:0<(flatR l).length:=by rw [flatR_length];exact Nat.mul_pos hl hn
  simp [h1])
 exact ⟨ad,ha⟩
theorem RowAt.cell {w:World}{ad:Addr}{cap:Nat}{l:List α} (h:RowAt w (.some ad) cap l) {i:Nat} (hi:i<l.length) (j:Nat) {v:Value} (hv:(Cells.cells l[i])[j]?=.some v):w.cell? (at_ ad (i*Cells.n α) j)=.some v:=by
 have hj:j<Cells.n α:=by
  have:=(List.getElem?_eq_some_iff.1 hv).1
  rwa [Cells.len] at this
 obtain ⟨a',ha,hc⟩:=h.2.2 (i*Cells.n α+j) v (by rw [flatR_get l i hi j hj];exact hv)
 obtain rfl:=Option.some.inj ha
 unfold at_
 split
 ·rename_i h0;subst h0;exact hc
 ·rw [←addr_add _ _ _ (by omega)];exact hc
theorem RowAt.old {w w':World}{ao:Option Addr}{cap:Nat}{l:List α} (h:RowAt w ao cap l) (hb:Below w.heap.size w w'):RowAt w' ao cap l:=SlA.old h hb
theorem RowAt.nil (w:World):RowAt (α:=α) w none 0 []:=⟨by simp [flatR],fun _=>⟨rfl,rfl⟩,fun j u hu=>by simp [flatR] at hu⟩
theorem RowAt.none_cap {w:World}{cap:Nat}{l:List α} (h:RowAt w none cap l):cap=0:=(h.2.1 rfl).2
theorem RowAt.of_own {w:World}{base:Nat}{e:TypeId}{ao:Option Addr}{cap:Nat}{l:List α} (h:w.ownsRow base e (Cells.n α) (.slice ao l.length cap) l.length (flatR l)):RowAt w ao cap l:=(ownsRow_slA h).2
theorem SlA.zero {w:World}{size:Nat}{ao:Option Addr}{n cap:Nat}{xs:List Value} (h:SlA w size ao n cap xs) (hn:n=0):xs=[]:=by
 have:=h.1;rw [hn] at this;simpa using this
theorem RowAt.take {w:World}{ao:Option Addr}{cap:Nat}{l:List α} (h:RowAt w ao cap l) (k:Nat) (hk:k≤l.length) (cap':Nat) (hc:ao=none→cap'=0):RowAt w ao cap' (l.take k):=by
 have hl:(l.take k).length=k:=by simp;omega
 refine ⟨flatR_length _,fun h0=>⟨?_,hc h0⟩,fun j u hu=>h.2.2 j u ?_⟩
 ·have:=(h.2.1 h0).1;omega
 ·have h1:flatR l=flatR (l.take k)++flatR (l.drop k):=by rw [←flatR_append,List.take_append_drop]
  rw [h1,List.getElem?_append_left (List.getElem?_eq_some_iff.1 hu).1]
  exact hu
end
structure Ty where
 k:Int
 c:Int
 deriving DecidableEq
instance:Inhabited Ty:=⟨⟨0,0⟩⟩
instance:Cells Ty:=⟨2,by decide,fun t=>[.int .i64 t.k,.int .i64 t.c],fun _=>rfl,by
 intro x u hu;simp only [List.mem_cons,List.not_mem_nil,or_false] at hu;rcases hu with rfl|rfl<;>rfl⟩
structure In3 where
 op:Int
 a:Int
 b:Int
 deriving DecidableEq
instance:Inhabited In3:=⟨⟨0,0,0⟩⟩
instance:Cells In3:=⟨3,by decide,fun t=>[.int .i64 t.op,.int .i64 t.a,.int .i64 t.b],fun _=>rfl,by
 intro x u hu;simp only [List.mem_cons,List.not_mem_nil,or_false] at hu;rcases hu with rfl|rfl|rfl<;>rfl⟩
instance:Cells Int:=⟨1,by decide,fun t=>[.int .i64 t],fun _=>rfl,by
 intro x u hu;simp only [List.mem_cons,List.not_mem_nil,or_false] at hu;rcases hu with rfl;rfl⟩
theorem flatR_int (l:List Int):flatR l=l.map (Value.int .i64):=by
 induction l with
 | nil=>rfl
 | cons x r ih=>simp only [flatR,List.flatMap_cons,List.map_cons] at ih ⊢;rw [ih];rfl
structure Cls where
 n:ByteArray
 sup:Int
 f:List Ty
 m:List Int
instance:Inhabited Cls:=⟨⟨⟨#[]⟩,0,[],[]⟩⟩
structure Mth where
 n:ByteArray
 c:Int
 p:List Ty
 l:List Ty
 r:Ty
 k:List In3
instance:Inhabited Mth:=⟨⟨⟨#[]⟩,0,[],[],default,[]⟩⟩
structure Md where
 cl:List Cls
 st:List Ty
 me:List Mth
 sel:Int
structure CHd where
 fo:Option Addr
 fc:Nat
 mo:Option Addr
 mc:Nat
instance:Inhabited CHd:=⟨⟨none,0,none,0⟩⟩
structure MHd where
 po:Option Addr
 pc:Nat
 lo:Option Addr
 lc:Nat
 ko:Option Addr
 kc:Nat
instance:Inhabited MHd:=⟨⟨none,0,none,0,none,0⟩⟩
structure Hd where
 co:Option Addr
 cc:Nat
 so:Option Addr
 sc:Nat
 eo:Option Addr
 ec:Nat
 c:Nat→CHd
 e:Nat→MHd
instance:Cells (Cls × CHd):=⟨4,by decide,fun x=>[.string x.1.n,.int .i64 x.1.sup,.slice x.2.fo x.1.f.length x.2.fc,.slice x.2.mo x.1.m.length x.2.mc],fun _=>rfl,by
 intro x u hu;simp only [List.mem_cons,List.not_mem_nil,or_false] at hu;rcases hu with rfl|rfl|rfl|rfl<;>rfl⟩
instance:Cells (Mth × MHd):=⟨7,by decide,fun x=>[.string x.1.n,.int .i64 x.1.c,.slice x.2.po x.1.p.length x.2.pc,.slice x.2.lo x.1.l.length x.2.lc,.int .i64 x.1.r.k,.int .i64 x.1.r.c,.slice x.2.ko x.1.k.length x.2.kc],fun _=>rfl,by
 intro x u hu;simp only [List.mem_cons,List.not_mem_nil,or_false] at hu;rcases hu with rfl|rfl|rfl|rfl|rfl|rfl|rfl<;>rfl⟩
def rowsC (h:Hd) (m:Md):List (Cls × CHd):=m.cl.mapIdx fun i x=>(x,h.c i)
def rowsM (h:Hd) (m:Md):List (Mth × MHd):=m.me.mapIdx fun i x=>(x,h.e i)
theorem rowsC_len (h:Hd) (m:Md):(rowsC h m).length=m.cl.length:=by simp [rowsC]
theorem rowsM_len (h:Hd) (m:Md):(rowsM h m).length=m.me.length:=by simp [rowsM]
def modL (h:Hd) (m:Md):List Value:=[.slice h.co m.cl.length h.cc,.slice h.so m.st.length h.sc,.slice h.eo m.me.length h.ec,.int .i64 m.sel]
structure ModAt (w:World) (h:Hd) (m:Md):Prop where
 cl:RowAt w h.co h.cc (rowsC h m)
 st:RowAt w h.so h.sc m.st
 me:RowAt w h.eo h.ec (rowsM h m)
 f:∀ i,i<m.cl.length→RowAt w (h.c i).fo (h.c i).fc (m.cl.getD i default).f
 t:∀ i,i<m.cl.length→RowAt w (h.c i).mo (h.c i).mc (m.cl.getD i default).m
 p:∀ i,i<m.me.length→RowAt w (h.e i).po (h.e i).pc (m.me.getD i default).p
 l:∀ i,i<m.me.length→RowAt w (h.e i).lo (h.e i).lc (m.me.getD i default).l
 k:∀ i,i<m.me.length→RowAt w (h.e i).ko (h.e i).kc (m.me.getD i default).k
 bf:∀ i,i<m.cl.length→(m.cl.getD i default).f.length≤(h.c i).fc
 bm:∀ i,i<m.me.length→(m.me.getD i default).p.length≤140737488355328∧(m.me.getD i default).l.length≤140737488355328∧(m.me.getD i default).k.length≤140737488355328
 bz:m.cl.length≤140737488355328∧m.st.length≤140737488355328∧m.me.length≤140737488355328
theorem ModAt.old {w w':World}{h:Hd}{m:Md} (H:ModAt w h m) (hb:Below w.heap.size w w'):ModAt w' h m:=
 ⟨H.cl.old hb,H.st.old hb,H.me.old hb,fun i hi=>(H.f i hi).old hb,fun i hi=>(H.t i hi).old hb,fun i hi=>(H.p i hi).old hb,fun i hi=>(H.l i hi).old hb,fun i hi=>(H.k i hi).old hb,H.bf,H.bm,H.bz⟩
theorem ModAt.cls {w:World}{h:Hd}{m:Md} (H:ModAt w h m) {i:Nat} (hi:i<m.cl.length):∃ ad,h.co=some ad ∧
  w.cell? (ad.add (i*4))=some (.string (m.cl.getD i default).n)∧w.cell? ⟨(ad.add (i*4)).block,(ad.add (i*4)).off+1,none⟩=some (.int .i64 (m.cl.getD i default).sup) ∧
  w.cell? ⟨(ad.add (i*4)).block,(ad.add (i*4)).off+2,none⟩=some (.slice (h.c i).fo (m.cl.getD i default).f.length (h.c i).fc)∧w.cell? ⟨(ad.add (i*4)).block,(ad.add (i*4)).off+3,none⟩=some (.slice (h.c i).mo (m.cl.getD i default).m.length (h.c i).mc):=by
 have hl:i<(rowsC h m).length:=by rw [rowsC_len];exact hi
 have hx:(rowsC h m)[i]=(m.cl.getD i default,h.c i):=by simp [rowsC,hi]
 obtain ⟨ad,ha⟩:=H.cl.some (by omega)
 have h0:=H.cl
 rw [ha] at h0
 refine ⟨ad,ha,h0.cell hl 0 (by rw [hx];rfl),h0.cell hl 1 (by rw [hx];rfl),h0.cell hl 2 (by rw [hx];rfl),h0.cell hl 3 (by rw [hx];rfl)⟩
theorem ModAt.mth {w:World}{h:Hd}{m:Md} (H:ModAt w h m) {i:Nat} (hi:i<m.me.length):∃ ad,h.eo=some ad ∧
  w.cell? (ad.add (i*7))=some (.string (m.me.getD i default).n)∧w.cell? ⟨(ad.add (i*7)).block,(ad.add (i*7)).off+1,none⟩=some (.int .i64 (m.me.getD i default).c) ∧
  w.cell? ⟨(ad.add (i*7)).block,(ad.add (i*7)).off+2,none⟩=some (.slice (h.e i).po (m.me.getD i default).p.length (h.e i).pc)∧w.cell? ⟨(ad.add (i*7)).block,(ad.add (i*7)).off+3,none⟩=some (.slice (h.e i).lo (m.me.getD i default).l.length (h.e i).lc) ∧
  w.cell? ⟨(ad.add (i*7)).block,(ad.add (i*7)).off+4,none⟩=some (.int .i64 (m.me.getD i default).r.k)∧w.cell? ⟨(ad.add (i*7)).block,(ad.add (i*7)).off+5,none⟩=some (.int .i64 (m.me.getD i default).r.c) ∧
  w.cell? ⟨(ad.add (i*7)).block,(ad.add (i*7)).off+6,none⟩=some (.slice (h.e i).ko (m.me.getD i default).k.length (h.e i).kc):=by
 have hl:i<(rowsM h m).length:=by rw [rowsM_len];exact hi
 have hx:(rowsM h m)[i]=(m.me.getD i default,h.e i):=by simp [rowsM,hi]
 obtain ⟨ad,ha⟩:=H.me.some (by omega)
 have h0:=H.me
 rw [ha] at h0
 refine ⟨ad,ha,h0.cell hl 0 (by rw [hx];rfl),h0.cell hl 1 (by rw [hx];rfl),h0.cell hl 2 (by rw [hx];rfl),h0.cell hl 3 (by rw [hx];rfl),h0.cell hl 4 (by rw [hx];rfl),h0.cell hl 5 (by rw [hx];rfl),h0.cell hl 6 (by rw [hx];rfl)⟩
theorem row_ty {w:World}{ao:Option Addr}{cap:Nat}{l:List Ty} (h:RowAt w ao cap l) {i:Nat} (hi:i<l.length):∃ ad,ao=some ad ∧
  w.cell? (ad.add (i*2))=some (.int .i64 (l.getD i default).k)∧w.cell? ⟨(ad.add (i*2)).block,(ad.add (i*2)).off+1,none⟩=some (.int .i64 (l.getD i default).c):=by
 obtain ⟨ad,rfl⟩:=h.some (by omega)
 have hx:l.getD i default=l[i]:=by simp [hi]
 rw [hx]
 exact ⟨ad,rfl,h.cell hi 0 rfl,h.cell hi 1 rfl⟩
theorem row_in {w:World}{ao:Option Addr}{cap:Nat}{l:List In3} (h:RowAt w ao cap l) {i:Nat} (hi:i<l.length):∃ ad,ao=some ad ∧
  w.cell? (ad.add (i*3))=some (.int .i64 (l.getD i default).op)∧w.cell? ⟨(ad.add (i*3)).block,(ad.add (i*3)).off+1,none⟩=some (.int .i64 (l.getD i default).a)∧w.cell? ⟨(ad.add (i*3)).block,(ad.add (i*3)).off+2,none⟩=some (.int .i64 (l.getD i default).b):=by
 obtain ⟨ad,rfl⟩:=h.some (by omega)
 have hx:l.getD i default=l[i]:=by simp [hi]
 rw [hx]
 exact ⟨ad,rfl,h.cell hi 0 rfl,h.cell hi 1 rfl,h.cell hi 2 rfl⟩
theorem row_int {w:World}{ao:Option Addr}{cap:Nat}{l:List Int} (h:RowAt w ao cap l) {i:Nat} (hi:i<l.length):∃ ad,ao=some ad∧w.cell? (ad.add i)=some (.int .i64 (l.getD i 0)):=by
 obtain ⟨ad,rfl⟩:=h.some (by omega)
 have hx:l.getD i 0=l[i]:=by simp [hi]
 rw [hx]
 have:=h.cell hi 0 (v:=.int .i64 l[i]) rfl
 rw [show i*Cells.n Int=i from Nat.mul_one i] at this
 exact ⟨ad,rfl,this⟩
end
section
open Go.RowKit
section
variable {P:Program}{ops:Array Oper}{md:Region.Mode}{S:World→Prop}{Q:Exit→Act→World→Prop}
def mixM (P:Program) (md:Region.Mode) (ops:Array Oper) (Q:Exit→Act→World→Prop) (S:World→Prop):Nat→Array Bool→Act→World→Prop
 | 0,listed,a,w=>Region.ready md ops listed=[]∧Q .normal a w
 | f+1,listed,a,w=>Region.ready md ops listed≠[]∧∀ i∈Region.ready md ops listed,wpOp P ops Q i (fun a' w'=>S w'∧mixM P md ops Q S f (listed.setIfInBounds i true) a' w') a w
theorem mixM_run (f:Nat):∀ (listed:Array Bool) (a:Act) (w:World),mixM P md ops Q S f listed a w→wpAny P md ops Q f listed a w:=by
 induction f with
 | zero=>intro listed a w h;exact h
 | succ f ih=>
  intro listed a w h
  exact ⟨fun h0=>absurd h0 h.1,fun i hi=>wpOp_mono (fun a' w' h'=>ih _ a' w' h'.2) (h.2 i hi)⟩
theorem mixM_first {i:Nat}{oi:Oper}{v:Value} (hi:ops[i]?=some oi) (hsel:∀ (j:Nat) (o:Oper) cs b,ops[j]?=some o→o.op≠.select cs b)
  (hQ:∀ c a d v w,Q (.panic c) (Act.put a d v) w→Q (.panic c) a w) (f:Nat) :
  ∀ (listed:Array Bool) (a:Act) (w:World),
   (∀ j oj,ops[j]?=some oj→j≠i→listed.getD j true=false→(∀ e∈oj.after,Region.binds md e=true→e.on≠i)→oi.apart ops oj=true) →
   i∈Region.ready md ops listed→YieldsIf P ops S oi v a→S w →
   mixM P md ops Q S f (listed.setIfInBounds i true) (a.put oi.dst v) w→mixM P md ops Q S (f+1) listed a w:=by
 induction f with
 | zero=>
  intro listed a w _ hr hy hS H
  refine ⟨fun h=>(by rw [h] at hr;cases hr),fun j hj=>?_⟩
  by_cases hji:j=i
  ·subst hji;exact hy.wpOp hi hS ⟨hS,H⟩
  ·have:=ready_mono hj hji
   rw [H.1] at this;cases this
 | succ f ih=>
  intro listed a w hfree hr hy hS H
  refine ⟨fun h=>(by rw [h] at hr;cases hr),fun j hj=>?_⟩
  by_cases hji:j=i
  ·subst hji;exact hy.wpOp hi hS ⟨hS,H⟩
  have h1:=H.2 j (ready_mono hj hji)
  obtain ⟨hjun,oj,hoj,hall⟩:=mem_ready.1 hj
  have hnot:∀ e∈oj.after,Region.binds md e=true→e.on≠i:=by
   intro e he hb heq
   have h2:=hall e he hb
   rw [heq,getD_both (mem_ready.1 hr).1] at h2
   cases h2
  have h2:=wpOp_putIf hoj (hfree j oj hoj hji hjun hnot) (fun cs b=>hsel i oi cs b hi) (fun cs b=>hsel j oj cs b hoj) (fun c a w=>hQ c _ _ _ w) hy h1
  refine wpOp_mono (fun a' w' h3=>⟨h3.2.1,ih (listed.setIfInBounds j true) a' w' ?_ (ready_mono hr (Ne.symm hji)) h3.1 h3.2.1 ?_⟩) h2
  ·intro k ok hk hki hun hno
   refine hfree k ok hk hki ?_ hno
   by_cases hjk:j=k
   ·subst hjk;exact hjun
   ·rw [getD_set_ne true hjk] at hun;exact hun
  ·rw [Array.setIfInBounds_comm _ _ hji];exact h3.2.2
def wpMix (P:Program) (ops:Array Oper) (Q:Exit→Act→World→Prop) (S:World→Prop):List Bool→List Oper→Nat→Act→World→Prop
 | false :: t,o :: l,k,a,w=>∃ v,YieldsIf P ops S o v a∧wpMix P ops Q S t l (k+1) (a.put o.dst v) w
 | true :: t,_ :: l,k,a,w=>wpOp P ops Q k (fun a' w'=>S w'∧wpMix P ops Q S t l (k+1) a' w') a w
 | _,_,_,a,w=>Q .normal a w
def lexT (md:Region.Mode) (ops:Array Oper):List Bool→Nat→Array Bool→Bool
 | [],_,listed=>decide (Region.ready md ops listed=[])
 | false :: t,k,listed=>(Region.ready md ops listed).contains k&&Region.free md ops listed k&&lexT md ops t (k+1) (listed.setIfInBounds k true)
 | true :: t,k,listed=>decide (Region.ready md ops listed=[k])&&lexT md ops t (k+1) (listed.setIfInBounds k true)
theorem mixM_lex (hQ:∀ c a d v w,Q (.panic c) (Act.put a d v) w→Q (.panic c) a w) (hsel:Region.noSelect ops=true) (l:List Oper) :
  ∀ (t:List Bool) (k:Nat) (listed:Array Bool) (a:Act) (w:World),t.length=l.length→(∀ j,j<l.length→l[j]?=ops[k+j]?)→S w →
  lexT md ops t k listed=true→wpMix P ops Q S t l k a w→mixM P md ops Q S l.length listed a w:=by
 induction l with
 | nil=>
  intro t k listed a w ht _ _ hB h
  obtain rfl:t=[]:=by simpa using ht
  exact ⟨by simpa [lexT] using hB,h⟩
 | cons o l ih=>
  intro t k listed a w ht hl hS hB h
  cases t with
  | nil=>simp at ht
  | cons b t=>
   have h0:ops[k]?=some o:=by simpa using (hl 0 (by simp)).symm
   have hl':∀ j,j<l.length→l[j]?=ops[k+1+j]?:=fun j hj=>by have:=hl (j+1) (by simp;omega);simpa [Nat.add_assoc,Nat.add_comm 1 j] using this
   have ht':t.length=l.length:=by simpa using ht
   cases b with
   | false=>
    simp only [lexT,Bool.and_eq_true] at hB
    obtain ⟨⟨hr,hf⟩,hB'⟩:=hB
    obtain ⟨v,hy,hK⟩:=h
    exact mixM_first h0 (Region.noSelect_spec hsel) hQ l.length listed a w (Region.free_spec h0 hf) (by simpa using hr) hy hS (ih t (k+1) _ _ _ ht' hl' hS hB' hK)
   | true=>
    simp only [lexT,Bool.and_eq_true,decide_eq_true_eq] at hB
    refine ⟨by rw [hB.1];simp,fun i hi=>?_⟩
    rw [hB.1] at hi
    obtain rfl:i=k:=by simpa using hi
    exact wpOp_mono (fun a' w' h'=>⟨h'.1,ih t (i+1) _ _ _ ht' hl' h'.1 hB.2 h'.2⟩) h
def lexTB (md:Region.Mode) (ops:Array Oper) (t:List Bool):Bool:=Region.noSelect ops&&decide (t.length=ops.size)&&lexT md ops t 0 (Array.replicate ops.size false)
theorem wp_mix {id:Nat}{a:Act}{w:World}{l:List Oper} (S:World→Prop) (t:List Bool) (hm:P.follows .mixedOrders=true) (hB:lexTB .any l.toArray t=true) (hQ:∀ c a d v w,Q (.panic c) (Act.put a d v) w→Q (.panic c) a w) (hS:S w.drew)
  (h:wpMix P l.toArray Q S t l 0 a w.drew):(Code.region id l.toArray true).wp P Q a w:=by
 simp only [lexTB,Bool.and_eq_true,decide_eq_true_eq] at hB
 obtain ⟨⟨hsel,ht⟩,hlex⟩:=hB
 refine wp_region_any hm ?_
 have:=mixM_lex (P:=P) (Q:=Q) (S:=S) (md:=.any) hQ hsel l t 0 _ a w.drew (by simpa using ht) (fun j _=>by simp) hS hlex h
 exact mixM_run _ _ _ _ this
theorem wpMix_plain {t:List Bool}{o:Oper}{l:List Oper}{k:Nat}{a:Act}{w:World} (h:∃ v,YieldsIf P ops S o v a∧wpMix P ops Q S t l (k+1) (a.put o.dst v) w):wpMix P ops Q S (false :: t) (o :: l) k a w:=h
theorem wpMix_one {t:List Bool}{l:List Oper}{k:Nat}{a:Act}{w:World} (o:Oper) (ho:ops[k]?=some o) (hw:Region.wanted o (yielded ops a.tmps)=true)
  (h:∀ Kv:Act→World→Prop,(∀ a w,S w→wpMix P ops Q S t l (k+1) a w→Kv a w)→o.wp P a w Kv Q):wpMix P ops Q S (true :: t) (o :: l) k a w:=by
 exact k62
theorem wpMix_nil {k:Nat}{a:Act}{w:World} (h:Q .normal a w):wpMix P ops Q S [] [] k a w:=h
end
end
section
open Go.RowKit
section
variable {P:Program}{ops:Array Oper}{md:Region.Mode}{S:World→Prop}{Q:Exit→Act→World→Prop}
def wpMixP (P:Program) (ops:Array Oper) (Q:Exit→Act→World→Prop) (S:World→Prop):List (Bool × Nat)→Act→World→Prop
 | [],a,w=>Q .normal a w
 | (false,i) :: t,a,w=>∃ o v,ops[i]?=some o∧YieldsIf P ops S o v a∧wpMixP P ops Q S t (a.put o.dst v) w
 | (true,i) :: t,a,w=>wpOp P ops Q i (fun a' w'=>S w'∧wpMixP P ops Q S t a' w') a w
def lexP (md:Region.Mode) (ops:Array Oper):List (Bool × Nat)→Array Bool→Bool
 | [],listed=>decide (Region.ready md ops listed=[])
 | (false,k) :: t,listed=>(Region.ready md ops listed).contains k&&Region.free md ops listed k&&lexP md ops t (listed.setIfInBounds k true)
 | (true,k) :: t,listed=>decide (Region.ready md ops listed=[k])&&lexP md ops t (listed.setIfInBounds k true)
theorem mixM_lexP (hQ:∀ c a d v w,Q (.panic c) (Act.put a d v) w→Q (.panic c) a w) (hsel:Region.noSelect ops=true) :
  ∀ (t:List (Bool × Nat)) (listed:Array Bool) (a:Act) (w:World),S w→lexP md ops t listed=true→wpMixP P ops Q S t a w→mixM P md ops Q S t.length listed a w
 | [],listed,a,w,_,hB,h=>⟨by simpa [lexP] using hB,h⟩
 | (false,k) :: t,listed,a,w,hS,hB,h=>by
  simp only [lexP,Bool.and_eq_true] at hB
  obtain ⟨⟨hr,hf⟩,hB'⟩:=hB
  obtain ⟨o,v,h0,hy,hK⟩:=h
  exact mixM_first h0 (Region.noSelect_spec hsel) hQ t.length listed a w (Region.free_spec h0 hf) (by simpa using hr) hy hS (mixM_lexP hQ hsel t _ _ _ hS hB' hK)
 | (true,k) :: t,listed,a,w,hS,hB,h=>by
  simp only [lexP,Bool.and_eq_true,decide_eq_true_eq] at hB
  refine ⟨by rw [hB.1];simp,fun i hi=>?_⟩
  rw [hB.1] at hi
  obtain rfl:i=k:=by simpa using hi
  exact wpOp_mono (fun a' w' h'=>⟨h'.1,mixM_lexP hQ hsel t _ _ _ h'.1 hB.2 h'.2⟩) h
def lexPB (md:Region.Mode) (ops:Array Oper) (t:List (Bool × Nat)):Bool:=Region.noSelect ops&&decide (t.length=ops.size)&&lexP md ops t (Array.replicate ops.size false)
theorem wp_mixP {id:Nat}{a:Act}{w:World}{l:List Oper} (S:World→Prop) (t:List (Bool × Nat)) (hm:P.follows .mixedOrders=true) (hB:lexPB .any l.toArray t=true) (hQ:∀ c a d v w,Q (.panic c) (Act.put a d v) w→Q (.panic c) a w) (hS:S w.drew)
  (h:wpMixP P l.toArray Q S t a w.drew):(Code.region id l.toArray true).wp P Q a w:=by
 simp only [lexPB,Bool.and_eq_true,decide_eq_true_eq] at hB
 obtain ⟨⟨hsel,ht⟩,hlex⟩:=hB
 refine wp_region_any hm ?_
 have:=mixM_lexP (P:=P) (Q:=Q) (S:=S) (md:=.any) hQ hsel t _ a w.drew hS hlex h
 rw [ht] at this
 exact mixM_run _ _ _ _ this
def wpMixL (P:Program) (ops:Array Oper) (Q:Exit→Act→World→Prop) (S:World→Prop):List (Bool × Nat × Oper)→Act→World→Prop
 | [],a,w=>Q .normal a w
 | (false,_,o) :: t,a,w=>∃ v,YieldsIf P ops S o v a∧wpMixL P ops Q S t (a.put o.dst v) w
 | (true,i,_) :: t,a,w=>wpOp P ops Q i (fun a' w'=>S w'∧wpMixL P ops Q S t a' w') a w
def opAt (l : List Oper) (i : Nat) : Oper := l.getD i { dst := none, op := Op.move (Operand.const undef), type := 0, pos := "", after := #[], guard := none }
theorem mixP_of_L {l:List Oper}:∀ (t:List (Bool × Nat)) (a:Act) (w:World),(∀ p∈t,p.2<l.length)→wpMixL P l.toArray Q S (t.map fun p=>(p.1,p.2,opAt l p.2)) a w→wpMixP P l.toArray Q S t a w
 | [],_,_,_,h=>h
 | (false,i) :: t,a,w,hl,h=>by
  obtain ⟨v,h1,h2⟩:=h
  have hi:i<l.length:=hl (false,i) (by simp)
  exact ⟨opAt l i,v,by simp [opAt,hi],h1,mixP_of_L t _ _ (fun p hp=>hl p (by simp [hp])) h2⟩
 | (true,i) :: t,a,w,hl,h=>wpOp_mono (fun a' w' h'=>⟨h'.1,mixP_of_L t _ _ (fun p hp=>hl p (by simp [hp])) h'.2⟩) h
theorem wp_mixL {id:Nat}{a:Act}{w:World}{l:List Oper} (S:World→Prop) (t:List (Bool × Nat)) (hm:P.follows .mixedOrders=true) (hB:(lexPB .any l.toArray t&&t.all fun p=>decide (p.2<l.length))=true) (hQ:∀ c a d v w,Q (.panic c) (Act.put a d v) w→Q (.panic c) a w) (hS:S w.drew)
  (h:wpMixL P l.toArray Q S (t.map fun p=>(p.1,p.2,opAt l p.2)) a w.drew):(Code.region id l.toArray true).wp P Q a w:=by
 rw [Bool.and_eq_true] at hB
 exact wp_mixP S t hm hB.1 hQ hS (mixP_of_L t _ _ (fun p hp=>by simpa using List.all_eq_true.1 hB.2 p hp) h)
theorem wpMixL_plain {t:List (Bool × Nat × Oper)}{k:Nat}{o:Oper}{a:Act}{w:World} (h:∃ v,YieldsIf P ops S o v a∧wpMixL P ops Q S t (a.put o.dst v) w):wpMixL P ops Q S ((false,k,o) :: t) a w:=h
theorem wpMixL_one {t:List (Bool × Nat × Oper)}{k:Nat}{o:Oper}{a:Act}{w:World} (ho:ops[k]?=some o) (hw:Region.wanted o (yielded ops a.tmps)=true)
  (h:∀ Kv:Act→World→Prop,(∀ a w,S w→wpMixL P ops Q S t a w→Kv a w)→o.wp P a w Kv Q):wpMixL P ops Q S ((true,k,o) :: t) a w:=by
 exact k62
theorem wpMixL_nil {a:Act}{w:World} (h:Q .normal a w):wpMixL P ops Q S [] a w:=h
end
end
section
open Go.RowKit
def Ret (W:World) (v:Value):Ending→World→Prop:=fun e w'=>e=.returned v∧Below W.heap.size W w'
theorem ret_ok {W w':World}{v u:Value} (h:u=v) (hb:Below W.heap.size W w'):Ret W v (.returned u) w':=⟨by rw [h],hb⟩
theorem bal {W w:World} (h:Below W.heap.size W w) (o:Obj):Below W.heap.size W (w.alloc o):=h.alloc h.size o
theorem bdrewN {W w:World} (h:Below W.heap.size W w) (n:Nat):Below W.heap.size W (w.drewN n):=⟨h.os,h.tape,h.output,h.size,h.block⟩
theorem bgrown {W w w':World}{row:Option Nat} (h:Below W.heap.size W w) (hg:w.grownBy w' row) (hr:∀ k,row=some k→W.heap.size≤k):Below W.heap.size W w':=h.grown hg h.size hr
theorem bsetV {W w:World} (h:Below W.heap.size W w) {b j:Nat} (hb:W.heap.size≤b) (v:Value):Below W.heap.size W (w.setCell ⟨b,j,none⟩ v):=h.setCell (p:=⟨b,j,none⟩) hb v
theorem bE {p:Prop} (h:p:=by (repeat (first|exact Below.refl _ _|assumption|refine bal ?_ _|refine Below.drew ?_|refine bdrewN ?_ _|refine bthen ?_ (by assumption)))):p:=h
theorem ret_mono {W W' w':World}{v:Value}{e:Ending} (h:Ret W' v e w') (hb:Below W.heap.size W W'):Ret W v e w':=⟨h.1,bthen hb h.2⟩
theorem bool_eq {a b:Bool} (h:a=b):Value.bool a=.bool b:=by rw [h]
theorem int_eq {a b:Int} (h:a=b):Value.int .i64 a=.int .i64 b:=by rw [h]
end
section
open Go.RowKit Go.Shelf
attribute [local go_sem] Oper.semAt_some
structure VB where
 op:Int
 bo:Option Addr
 bn:Nat
 bc:Nat
 fo:Option Addr
 fn:Nat
 fc:Nat
 mid:Bool
instance:Inhabited VB:=⟨⟨0,none,0,0,none,0,0,false⟩⟩
instance:Cells VB:=⟨4,by decide,fun t=>[.int .i64 t.op,.slice t.bo t.bn t.bc,.slice t.fo t.fn t.fc,.bool t.mid],fun _=>rfl,by
 intro x u hu;simp only [List.mem_cons,List.not_mem_nil,or_false] at hu;rcases hu with rfl|rfl|rfl|rfl<;>rfl⟩
theorem row_vb {w:World}{ao:Option Addr}{cap:Nat}{l:List VB} (h:RowAt w ao cap l) {i:Nat} (hi:i<l.length):∃ ad,ao=some ad ∧
  w.cell? (ad.add (i*4))=some (.int .i64 (l.getD i default).op)∧w.cell? ⟨(ad.add (i*4)).block,(ad.add (i*4)).off+1,none⟩=some (.slice (l.getD i default).bo (l.getD i default).bn (l.getD i default).bc)∧w.cell? ⟨(ad.add (i*4)).block,(ad.add (i*4)).off+2,none⟩=some (.slice (l.getD i default).fo (l.getD i default).fn (l.getD i default).fc)∧w.cell? ⟨(ad.add (i*4)).block,(ad.add (i*4)).off+3,none⟩=some (.bool (l.getD i default).mid):=by
 obtain ⟨ad,rfl⟩:=h.some (by omega)
 have hx:l.getD i default=l[i]:=by simp [hi]
 rw [hx]
 exact ⟨ad,rfl,h.cell hi 0 rfl,h.cell hi 1 rfl,h.cell hi 2 rfl,h.cell hi 3 rfl⟩
def bwUpto (l:List VB) (k:Nat):List (Nat × VB):=(List.range k).map fun j=>(l.length-1-j,l.getD (l.length-1-j) default)
theorem bwUpto_succ (l:List VB) (k:Nat):bwUpto l (k+1)=bwUpto l k++[(l.length-1-k,l.getD (l.length-1-k) default)]:=by simp [bwUpto,List.range_succ]
theorem bwUpto_length (l:List VB) (k:Nat):(bwUpto l k).length=k:=by simp [bwUpto]
abbrev vbArgs (x:Nat × VB):Array Value:=#[.int .i64 (x.1:Int),.agg #[.int .i64 x.2.op,.slice x.2.bo x.2.bn x.2.bc,.slice x.2.fo x.2.fn x.2.fc,.bool x.2.mid]]
theorem bw1_in (F:Fence) (n:Nat) (hF:F.fn 257) (hro:F.round=none) (hn:1≤n) (l Bs:Nat) (ao:Option Addr) (cap:Nat) (bs:List VB) (w0:World) (hrow:RowAt w0 ao cap bs) (hlen:bs.length≤1000000) (J Jx:List (Nat × VB)→World→Prop)
  (hY:∀ pre x W,J pre W→pre.length<bs.length→YieldAt F (n-1) Tryz.prog l (vbArgs x) W fun e W'=>
   (e=.returned (.bool true)∧J (pre++[x]) W'∧Below w0.heap.size W W')∨(e=.returned (.bool false)∧Jx (pre++[x]) W'))
  (W:World) (hW:Below w0.heap.size w0 W) (hBs:w0.cell? ⟨Bs,0,none⟩=some (.slice ao bs.length cap)) (h0:J [] W) :
  CallsIn F n Tryz.prog 257 #[.func (.yield l) #[] #[],.pointer (some ⟨Bs,0,none⟩)] W fun e W'=>(∃ v,e=.returned v) ∧
   ((∃ ys,ys=bwUpto bs bs.length∧J ys W')∨(∃ pre,(∃ k,k≤bs.length∧pre=bwUpto bs k)∧Jx pre W')):=by
 have hBl:=cell_lt hBs
 have hcw:∀ w',Below w0.heap.size w0 w'→w'.cell? ⟨Bs,0,none⟩=some (.slice ao bs.length cap):=fun w' hb=>by rw [hb.cell (p:=⟨Bs,0,none⟩) hBl];exact hBs
 have HC:=Lib.hid hcw
 have HR:=Lib.hid hrow
 have HW:=Lib.hid hW
 have HY:=Lib.hid hY
 have hc0:=hcw W hW
 clear hcw hrow hW hBs hY
 refine callsIn_of_wp Tryz.func257 rfl hF ?_ hro
 simp only [Tryz.ntmps257,List.size_toArray,List.length_cons,List.length_nil,Nat.reduceAdd,Nat.reduceSub,Array.replicate_succ,Array.replicate_zero,List.push_toArray,List.append_toArray,List.nil_append,List.cons_append]
 gi_wp2
 gi_loopw [3] (fun i wr=>∃ k:Nat,k≤bs.length∧i=.int .i64 ((bs.length:Int)-1-k)∧J (bwUpto bs k) wr∧Hid (Below w0.heap.size w0 wr))
  (fun i _=>(intOf i+1).toNat)
 case atStart=>exact ⟨0,Nat.zero_le _,by simp,h0,HW⟩
 case round=>
  obtain ⟨k,hk,rfl,hJs,HB⟩:=hrel
  clear hc0
  have hc1:=HC.out wr HB.out
  by_cases hlt:k<bs.length
  ·obtain ⟨j,hj⟩:∃ j:Nat,(bs.length:Int)-1-k=j:=⟨bs.length-1-k,by omega⟩
   have hjn:bs.length-1-k=j:=by omega
   have hjl:j<bs.length:=by omega
   obtain ⟨ad,rfl,e0,e1,e2,e3⟩:=row_vb (HR.out.old HB.out) hjl
   have hsu:=bwUpto_succ bs k
   rw [hjn] at hsu
   rw [hj]
   generalize bs.getD j default=x at e0 e1 e2 e3 hsu
   have hjl2:(j:Int) < bs.length:=by omega
   have hj0:(j:Int) ≥ 0:=by omega
   obtain ⟨fn,tmps,assign,body,hy,hR⟩:=HY.out _ (j,x) wr hJs (by rw [bwUpto_length];exact hlt)
   dsimp only [vbArgs] at hy
   have HSu:=Lib.hid hsu
   have HJ:=Lib.hid hj
   clear hsu hj hjn
   have hwr:IntKind.i64.wrap ((j:Int)-1)=j-1:=IntWalk.i64_in _ (by omega)
   gi_wp2
   refine hR.mono ?_
   rintro e W3 (⟨rfl,hJ3,hk3⟩|⟨rfl,hJx3⟩)
   ·have HB3:=Lib.hid (HB.out.trans hk3)
    have HJ3:=Lib.hid hJ3
    clear hJ3 hk3
    gi_wp2
    go_roundw
    case rel=>exact ⟨k+1,by omega,by have:=HJ.out;rw [show (j:Int)-1=(bs.length:Int)-1-((k+1:Nat):Int) by omega],by rw [HSu.out];exact HJ3.out,HB3⟩
    case measure=>first|(simp [intOf];done)|(simp [intOf];omega)
   ·gi_wp2
    refine bodyPost_ret (results_none rfl _ _ _) rfl ?_
    exact ⟨⟨_,rfl⟩,.inr ⟨_,⟨k+1,by omega,HSu.out.symm⟩,hJx3⟩⟩
  ·obtain rfl:k=bs.length:=by omega
   have hneg:(bs.length:Int)-1-bs.length=-1:=by omega
   rw [hneg]
   clear hneg
   gi_wp2
   go_end0
   exact ⟨⟨_,rfl⟩,.inl ⟨_,rfl,hJs⟩⟩
theorem bw_any (F:Fence) (n:Nat) (hF:F.fn 248) (hro:F.round=none) (ao:Option Addr) (len cap:Nat) (w:World) :
  CallsIn F n Tryz.prog 248 #[.slice ao len cap] w fun e w'=>e=.returned (.func (.func 257) #[] #[.pointer (some ⟨w.heap.size,0,none⟩)])∧w'=w.alloc (.cells #[.slice ao len cap] 149):=by
 refine callsIn_of_wp Tryz.func248 rfl hF ?_ hro
 simp only [Tryz.ntmps248,List.size_toArray,List.length_cons,List.length_nil,Nat.reduceAdd,Nat.reduceSub,Array.replicate_succ,Array.replicate_zero,List.push_toArray,List.append_toArray,List.nil_append,List.cons_append]
 gi_wp2
 go_ret
 exact ⟨rfl,rfl⟩
theorem bw_stops (F:Fence) (n:Nat) (hF:F.fn 257) (hro:F.round=none) (hn:1≤n) (Bs:Nat) (ao:Option Addr) (cap:Nat) (bs:List VB) (w0:World) (hrow:RowAt w0 ao cap bs) (hlen:bs.length≤1000000) (hBs:w0.cell? ⟨Bs,0,none⟩=some (.slice ao bs.length cap)) :
  SeqStopsK F n Tryz.prog 257 #[.pointer (some ⟨Bs,0,none⟩)] vbArgs (Below w0.heap.size) (fun ys=>ys=bwUpto bs bs.length) (fun pre=>∃ k,k≤bs.length∧pre=bwUpto bs k) bs.length w0:=fun l J Jx W hW _ _ hY h0=>by
 refine (bw1_in F n hF hro hn l Bs ao cap bs w0 hrow hlen J Jx hY W hW hBs h0).mono ?_
 rintro e W' ⟨he,⟨ys,hys,hj⟩|⟨pre,hp,hj⟩⟩
 ·exact ⟨he,.inl ⟨ys,hys,hj⟩⟩
 ·exact ⟨he,.inr ⟨pre,hp,hj⟩⟩
end
section
open Go.RowKit Go.Shelf
attribute [local go_sem] Oper.semAt_some
def baseB (l:List VB):Nat:=match l.reverse.find? fun o=>decide (o.op=33)&&!o.mid with
 | some o=>o.bn
 | none=>0
theorem Blk.grownX {w w':World}{b:Nat}{xs:Array Value}{t:TypeId}{row:Option Nat} (h:Blk w b xs t) (hg:w.grownBy w' row) (hr:∀ r,row=some r→∃ o:Obj,w.heap[r]?=some o∧o.isCells=false):Blk w' b xs t:=by
 have hne:some b≠row:=fun e=>by
  obtain ⟨o,ho,hc⟩:=hr b e.symm
  rw [show w.heap[b]?=_ from h] at ho
  cases ho
  cases hc
 exact (hg.block b h.lt hne).trans h
def hitP (x:Nat × VB):Bool:=decide (x.2.op=33)&&!x.2.mid
def valP (l:List (Nat × VB)):Int:=match l.find? hitP with
 | some x=>x.2.bn
 | none=>0
theorem bwUpto_snd (l:List VB):(bwUpto l l.length).map Prod.snd=l.reverse:=by
 apply List.ext_getElem
 ·simp [bwUpto]
 ·intro i h1 h2
  simp only [bwUpto,List.map_map,List.getElem_map,List.getElem_range,Function.comp_apply,List.getElem_reverse]
  have hi:i<l.length:=by simpa using h2
  rw [List.getD_eq_getElem?_getD,List.getElem?_eq_getElem (by omega)]
  rfl
theorem baseB_val (l:List VB):(baseB l:Int)=valP (bwUpto l l.length):=by
 unfold baseB valP
 rw [←bwUpto_snd,List.find?_map]
 have e:((fun o:VB=>decide (o.op=33)&&!o.mid) ∘ Prod.snd)=hitP:=rfl
 rw [e]
 cases (bwUpto l l.length).find? hitP<;>rfl
theorem bwUpto_pre (l:List VB) {k:Nat} (hk:k≤l.length):∃ r,bwUpto l l.length=bwUpto l k++r:=by
 refine ⟨(bwUpto l l.length).drop k,?_⟩
 have h:(bwUpto l l.length).take k=bwUpto l k:=by
  unfold bwUpto
  rw [←List.map_take,List.take_range,Nat.min_eq_left hk]
 rw [←h,List.take_append_drop]
theorem valP_pre {l:List VB}{k:Nat} (hk:k≤l.length) (h:((bwUpto l k).find? hitP).isSome=true):(baseB l:Int)=valP (bwUpto l k):=by
 obtain ⟨r,hr⟩:=bwUpto_pre l hk
 rw [baseB_val,hr]
 unfold valP
 rw [List.find?_append]
 cases hf:(bwUpto l k).find? hitP with
 | none=>rw [hf] at h;cases h
 | some x=>rfl
theorem floor_in (F:Fence) (n:Nat) (h1:F.fn 221) (h2:F.fn 248) (h3:F.fn 257) (hro:F.round=none) (hn:6≤n)
  (K:Nat) (ao:Option Addr) (cap:Nat) (bs:List VB) (w:World) (hK:w.cell? ⟨K,6,none⟩=some (.slice ao bs.length cap)) (hrow:RowAt w ao cap bs) (hlen:bs.length≤1000000) :
  CallsIn F n Tryz.prog 221 #[.pointer (some ⟨K,0,none⟩)] w fun e W'=>e=.returned (.int .i64 (baseB bs))∧Below w.heap.size w W':=by
 have hn1:1≤n:=by omega
 refine callsIn_of_wp_marks Tryz.func221 rfl h1 ?_ hro
 simp only [Tryz.ntmps221,List.size_toArray,List.length_cons,List.length_nil,Nat.reduceAdd,Nat.reduceSub,Array.replicate_succ,Array.replicate_zero,List.push_toArray,List.append_toArray,List.nil_append,List.cons_append]
 have hkl:=cell_lt hK
 gi_wp2_with (gi_at_call 248;refine (bw_any F (n-1) h2 hro _ _ _ _).mono ?_;rintro e w' ⟨rfl,rfl⟩)
 have bR:=(Boxed.new w 3 (.int .i64 0)).alloc (.cells #[.slice ao bs.length cap] 149)
 have hB0:Below w.heap.size w ((w.alloc (.cells #[.int .i64 0] 3)).alloc (.cells #[.slice ao bs.length cap] 149)):=by exact bE
 have hbx:Blk ((w.alloc (.cells #[.int .i64 0] 3)).alloc (.cells #[.slice ao bs.length cap] 149)) (w.heap.size+1) #[.slice ao bs.length cap] 149:=Blk.new' (w:=w.alloc (.cells #[.int .i64 0] 3)) _ _ (by simp)
 have hsz:((w.alloc (.cells #[.int .i64 0] 3)).alloc (.cells #[.slice ao bs.length cap] 149)).heap.size=w.heap.size+2:=by simp
 obtain ⟨W0,hW0⟩:∃ W0,(w.alloc (.cells #[.int .i64 0] 3)).alloc (.cells #[.slice ao bs.length cap] 149)=W0:=⟨_,rfl⟩
 rw [hW0] at bR hB0 hbx hsz ⊢
 clear hW0
 refine wpIn_rangeFunc_ownH hro hn1 (gf:=257) (lb:=#[.pointer (some ⟨w.heap.size+1,0,none⟩)]) rfl h3 (enters_of Tryz.func257 (by kernel_rfl) rfl)
  (bw_stops F (n-1) h3 hro (by omega) (w.heap.size+1) ao cap bs W0 (hrow.old hB0) hlen (hbx.cell 0 rfl)) belowK_t (belowK_b (Nat.le_refl _)) (Below.refl _ _) (fun _=>rfl)
  (fun pre W=>(((pre.find? hitP=none)∧Boxed W w.heap.size 3 (.int .i64 0))∧Below w.heap.size w W)∧Below W0.heap.size W0 W)
  (fun c pre W=>((c=.ret∧(pre.find? hitP).isSome=true)∧Boxed W w.heap.size 3 (.int .i64 (valP pre)))∧Below w.heap.size w W)
  (OwnFrom.and (OwnFrom.and (OwnFrom.and (ownFrom_pure _ _) (Own.from (boxed_own _ _ _) _)) (ownFrom_below (Nat.le_refl _) (by omega))) (ownFrom_below (Nat.le_refl _) (Nat.le_refl _)))
  (fun c=>OwnFrom.and (OwnFrom.and (ownFrom_pure _ _) (Own.from (boxed_own _ _ _) _)) (ownFrom_below (Nat.le_refl _) (by omega)))
  ⟨⟨⟨rfl,bR⟩,hB0⟩,Below.refl _ _⟩
  (fun x a' W=>∃ Bx,w.heap.size<Bx∧Blk W Bx #[.int .i64 x.2.op,.slice x.2.bo x.2.bn x.2.bc,.slice x.2.fo x.2.fn x.2.fc,.bool x.2.mid] 190∧a'={ tmps:=#[.pointer (some ⟨K,0,none⟩),undef,.pointer (some ⟨w.heap.size,0,none⟩),undef,.pointer (some ⟨Bx,0,none⟩),.pointer (some ⟨K,0,none⟩),.pointer (some ⟨K,0,none⟩),.pointer (some ⟨K,6,none⟩),.slice ao bs.length cap,.func (.func 257) #[] #[.pointer (some ⟨w.heap.size+1,0,none⟩)],.int .i64 x.1,.agg #[.int .i64 x.2.op,.slice x.2.bo x.2.bn x.2.bc,.slice x.2.fo x.2.fn x.2.fc,.bool x.2.mid],undef,undef,undef,undef,undef,undef,undef,undef,undef,undef,undef],defers:=[] })
  (fun x a' _ X Y row hs hg hr=>by obtain ⟨Bx,e1,e2,e3⟩:=hs;exact ⟨Bx,e1,Blk.grownX e2 hg (fun r e=>(hr r e).2),e3⟩)
  ?assign ?body ?done ?stop
 case assign=>
  rintro l pre x W K ⟨⟨⟨hp,bR1⟩,hB1⟩,hB2⟩ hK
  gi_wp2
  exact hK _ _ ((KeepsOthers.alloc _ _).from _) ((Below.refl _ W).alloc hB2.size _) ⟨⟨⟨hp,bR1.alloc _⟩,hB1.alloc hB1.size _⟩,hB2.alloc hB2.size _⟩ ⟨W.heap.size,bR1.lt,Blk.new W _ _,rfl⟩
 case body=>
  rintro l pre x a' W hl ⟨r,hr⟩ ⟨⟨⟨hp,bR1⟩,hB1⟩,hB2⟩ ⟨Bx,hBx,bX,rfl⟩ hlt
  have x0:W.cell? ⟨Bx,0,none⟩=some (.int .i64 x.2.op):=bX.cell 0 rfl
  have x1:W.cell? ⟨Bx,1,none⟩=some (.slice x.2.bo x.2.bn x.2.bc):=bX.cell 1 rfl
  have x3:W.cell? ⟨Bx,3,none⟩=some (.bool x.2.mid):=bX.cell 3 rfl
  have xl:=bX.lt
  have cR:=bR1.cell
  have fR:=bR1.frozen
  have rl:=bR1.lt
  generalize hop:x.2.op=op at x0
  generalize hmi:x.2.mid=mid at x3
  generalize hbn:x.2.bn=bn at x1
  have HP:=Lib.hid hp
  have HOp:=Lib.hid hop
  have HMi:=Lib.hid hmi
  have HBn:=Lib.hid hbn
  have HR:=Lib.hid bR1
  have HB1:=Lib.hid hB1
  have HB2:=Lib.hid hB2
  clear hp hop hmi hbn bR1 hB1 hB2 hr bX
  by_cases ho:op=33
  ·subst ho
   rcases mid with _|_
   ·have hf:(pre++[x]).find? hitP=some x:=by
     rw [List.find?_append,HP.out]
     simp [hitP,HOp.out,HMi.out]
    have HF:=Lib.hid hf
    clear hf
    gi_wp2
    have hv:valP (pre++[x])=(bn:Int):=by
     unfold valP
     rw [HF.out]
     exact congrArg _ HBn.out
    exact ⟨(KeepsOthers.setCell _ _ _).from _,⟨⟨rfl,by rw [HF.out];rfl⟩,by rw [hv];exact HR.out.set _⟩,HB1.out.setCell (p:=⟨w.heap.size,0,none⟩) (Nat.le_refl _) _⟩
   ·have hf:(pre++[x]).find? hitP=none:=by
     rw [List.find?_append,HP.out]
     simp [hitP,HMi.out]
    have HF:=Lib.hid hf
    clear hf
    exact k97
  ·have hf:(pre++[x]).find? hitP=none:=by
    rw [List.find?_append,HP.out]
    simp [hitP,HOp.out,ho]
   have HF:=Lib.hid hf
   have hop2:(op == 33)=false:=by simpa using ho
   clear hf ho
   exact k97
 case done=>
  rintro D xs W hD rfl ⟨⟨⟨hp,bR1⟩,hB1⟩,hB2⟩ hK
  have hb0:(baseB bs:Int)=0:=by
   rw [baseB_val]
   unfold valP
   rw [hp]
  have cR:=bR1.cell
  have fR:=bR1.frozen
  have rl:=bR1.lt
  have HR:=Lib.hid bR1
  have HB1:=Lib.hid hB1
  have HB2:=Lib.hid hB2
  clear hp bR1 hB1 hB2
  gi_wp2
  have bR1:=HR.out
  have hB1:=HB1.out
  have hK':=(KeepsOthers.setCell W ⟨w.heap.size,0,none⟩ (.int .i64 0)).same D _ hK rfl
  refine ⟨by simp,.inl ⟨_,_,rfl,run_takeDeferred hK',?_⟩⟩
  have hc5:=cell_kept (bR1.set (.int .i64 0)).cell (grownBy_putObj' _ D (.deferred none)) (fun r e=>by cases e;exact ⟨_,hK',rfl⟩)
  refine ⟨.int .i64 0,?_,by rw [hb0],(hB1.setCell (p:=⟨w.heap.size,0,none⟩) (Nat.le_refl _) _).trans (belowK_b (w:=w) (Nat.le_refl _) _ D _ _ (by omega) hK' rfl rfl)⟩
  simp [results,Tryz.f221,go_sem,hc5]
 case stop=>
  rintro D c pre W hD ⟨k,hk,rfl⟩ ⟨⟨⟨rfl,hin⟩,bR1⟩,hB1⟩ hK
  have hv:(baseB bs:Int)=valP (bwUpto bs k):=valP_pre hk hin
  rw [←hv] at bR1
  clear hv hin hk hbx bR
  gi_wp2
  refine ⟨by simp,.inl ⟨_,_,rfl,run_takeDeferred hK,?_⟩⟩
  have hc5:=cell_kept bR1.cell (grownBy_putObj' _ D (.deferred none)) (fun r e=>by cases e;exact ⟨_,hK,rfl⟩)
  refine ⟨.int .i64 (baseB bs),?_,rfl,hB1.trans (belowK_b (w:=w) (Nat.le_refl _) W D _ _ (by omega) hK rfl rfl)⟩
  simp [results,Tryz.f221,go_sem,hc5]
theorem floor_any (K:Nat) (ao:Option Addr) (cap:Nat) (bs:List VB) (w:World) (hK:w.cell? ⟨K,6,none⟩=some (.slice ao bs.length cap)) (hrow:RowAt w ao cap bs) (hlen:bs.length≤1000000) :
  Calls Tryz.prog 221 #[.pointer (some ⟨K,0,none⟩)] w fun e W'=>e=.returned (.int .i64 (baseB bs))∧Below w.heap.size w W':=
 callsIn_wide.1 (floor_in Fence.wide 6 trivial trivial trivial rfl (Nat.le_refl _) K ao cap bs w hK hrow hlen)
end
section
def inI (n lo hi:Int):Bool:=decide (lo≤n)&&decide (n≤hi)
theorem all_range_no {n k:Nat}{p:Nat→Bool} (hk:k<n) (h:p k=false):(List.range n).all p=false:=by
 rw [List.all_eq_false];exact ⟨k,List.mem_range.2 hk,by simp [h]⟩
theorem all_range_ok {n:Nat}{p:Nat→Bool} (h:∀ k,k<n→p k=true):(List.range n).all p=true:=by
 rw [List.all_eq_true];exact fun k hk=>h k (List.mem_range.1 hk)
theorem all_range_iff {n:Nat}{p:Nat→Bool}:(List.range n).all p=true↔∀ k,k<n→p k=true:=by
 rw [List.all_eq_true];exact ⟨fun h k hk=>h k (List.mem_range.2 hk),fun h k hk=>h k (List.mem_range.1 hk)⟩
def isTy (n:Nat) (t:Ty) (least:Int):Bool:=
 if t.k=2∨t.k=4 then decide (0≤t.c)&&decide (t.c<n) else if t.k=0∨t.k=1∨t.k=3 then decide (least≤t.k)&&decide (t.c=0) else false
def tysV (n:Nat) (l:List Ty):Bool:=l.all fun t=>isTy n t 1
def Md.sup (m:Md) (i:Int):Int:=(m.cl.getD i.toNat default).sup
def aboveV (m:Md):Nat→Int→Int→Bool
 | 0,a,b=>decide (a=b)
 | f+1,a,b=>if b<a then aboveV m f (m.sup a) b else decide (a=b)
def Md.ent (m:Md) (k:Int) (s:Nat):Int:=(m.cl.getD k.toNat default).m.getD s 0
def Md.own (m:Md) (n:Int):Int:=(m.me.getD n.toNat default).c
def entryV (m:Md) (k s:Nat) (n:Int):Bool:=decide (0≤m.own n)&&decide (m.own n≤k)&&aboveV m (k+1) k (m.own n)&&decide (m.ent (m.own n) s=n)
def selV (m:Md) (k s:Nat):Bool:=
 decide (-1≤m.ent k s)&&decide (m.ent k s<m.me.length)&&(decide (m.ent k s<0)||entryV m k s (m.ent k s))&&!(decide (0≤m.sup k)&&decide (m.ent k s<0)&&decide (0≤m.ent (m.sup k) s))
def clsV (m:Md) (k:Nat):Bool:=
 decide (-1≤m.sup k)&&decide (m.sup k<k)&&decide ((m.cl.getD k default).f.length≤7)&&tysV m.cl.length (m.cl.getD k default).f&&decide (((m.cl.getD k default).m.length:Int)=m.sel) &&
 (List.range (m.cl.getD k default).m.length).all (selV m k) &&
 (decide (m.sup k<0)||decide ((m.cl.getD (m.sup k).toNat default).f.length≤(m.cl.getD k default).f.length)&&decide ((m.cl.getD (m.sup k).toNat default).f=(m.cl.getD k default).f.take (m.cl.getD (m.sup k).toNat default).f.length))
def insV1 (n:Int):List Int→List Int
 | []=>[n]
 | x :: r=>if x<n then x :: insV1 n r else if x=n then x :: r else n :: x :: r
def sortV (l:List Int):List Int:=l.foldl (fun o n=>insV1 n o) []
def tgtV (m:Md) (s:Int):List Int:=sortV ((m.cl.map fun c=>c.m.getD s.toNat 0).filter fun n=>decide (0≤n))
def mostV:List Int:=[0,0,9,4,9,48,6,9,15,15,3,9,50,5,24]
def opA:List Nat:=[0,1,2,2,0,0,0,0,0,0,0,0,3,0,4,5,5,6,6,0,0,0,7,7,4,8,9,10,11,0,12,13,14,0,0,0]
def opB:List Nat:=[0,0,0,0,0,0,0,0,0,0,0,0,4,0,0,0,4,0,0,0,0,0,0,0,0,0,0,0,0,0,2,0,0,0,0,0]
def poolR (r:Nat):Bool:=decide (r=4∨r=6∨r=7∨r=8∨r=9)
def inR (n:Int) (r:Nat) (p:Bool):Bool:=
 if r=1 then inI n (-2147483648) 2147483647 else if r=3 then inI n 2 4 else if r=14 then inI n 1 24 else if p&&poolR r then inI n 0 59 else inI n 0 (mostV.getD r 0)
def insnV (p:Bool) (i:In3):Bool:=decide (0≤i.op)&&decide (i.op<36)&&inR i.a (opA.getD i.op.toNat 0) p&&inR i.b (opB.getD i.op.toNat 0) p&&!(decide (i.op=12)&&decide (i.a=3)&&decide (i.b≠0))
def opensV (op:Int):Bool:=inI op 29 33
structure Br where
 op:Int
 e:Bool
def nestS (s:List Br × Nat) (i:In3):Option (List Br × Nat):=
 if opensV i.op then some (⟨i.op,false⟩ :: s.1,max s.2 (s.1.length+1))
 else if i.op=34 then match s.1 with
  | []=>none
  | b :: r=>if (b.op=29∨b.op=33)∧b.e=false then some (⟨b.op,true⟩ :: r,s.2) else none
 else if i.op=35 then match s.1 with
  | []=>none
  | b :: r=>if b.op=33∧b.e=false then none else some (r,s.2)
 else some s
def nestF (s:List Br × Nat):List In3→Option (List Br × Nat)
 | []=>some s
 | i :: l=>match nestS s i with
  | none=>none
  | some t=>nestF t l
def nestV (l:List In3):Bool:=match nestF ([],0) l with
 | none=>false
 | some (st,d)=>st.isEmpty&&decide (d≤6)
def codeE (p:Bool) (l:List In3):Int:=if 120<l.length then 2 else if l.all (insnV p) then (if nestV l then 0 else 7) else 1
def opdV (m:Md) (k:Nat) (i:In3):Bool:=
 if i.op=14∨i.op=24 then decide (0≤i.a)&&decide (i.a<m.cl.length)
 else if i.op=16 then decide (0≤i.b)&&decide (i.b<m.cl.length)
 else if i.op=12 then decide (i.a=3)||(decide (0≤i.b)&&decide (i.b<m.cl.length))
 else if i.op=22∨i.op=23 then decide (i.a<m.st.length)
 else if i.op=25 then decide (i.a<k)&&decide (m.own i.a<0)
 else if i.op=26 then decide (i.a<m.sel)&&(tgtV m i.a).all fun t=>decide (t<k)
 else true
def mthV (m:Md) (k:Nat):Bool:=
 decide (-1≤(m.me.getD k default).c)&&decide ((m.me.getD k default).c<m.cl.length)&&decide ((m.me.getD k default).p.length≤4)&&tysV m.cl.length (m.me.getD k default).p &&
 decide (((m.me.getD k default).l.length:Int)≤10-(m.me.getD k default).p.length-(if 0≤(m.me.getD k default).c then 1 else 0))&&tysV m.cl.length (m.me.getD k default).l&&isTy m.cl.length (m.me.getD k default).r 0 &&
 decide (codeE false (m.me.getD k default).k=0)&&(m.me.getD k default).k.all (opdV m k)
def alikeV (m:Md) (s:Nat):Bool:=(tgtV m s).all fun t=>decide ((m.me.getD t.toNat default).r=(m.me.getD ((tgtV m s).getD 0 0).toNat default).r)&&decide ((m.me.getD t.toNat default).p=(m.me.getD ((tgtV m s).getD 0 0).toNat default).p)
def sizesV (m:Md):Bool:=decide (m.cl.length≤10)&&decide (m.me.length≤16)&&decide (0≤m.sel)&&decide (m.sel≤16)&&decide (m.st.length≤10)&&tysV m.cl.length m.st
def ownsV (m:Md):Bool:=(List.range m.me.length).all fun k=>decide (-1≤m.own k)&&decide (m.own k<m.cl.length)
def modV (m:Md):Bool:=sizesV m&&ownsV m&&(List.range m.cl.length).all (clsV m)&&(List.range m.me.length).all (mthV m)&&(List.range m.sel.toNat).all (alikeV m)
end
section
def Asc (l:List Int):Prop:=l.Pairwise (· < ·)
theorem insV1_mem (n x:Int):∀ l,x∈insV1 n l↔x=n∨x∈l
 | []=>by simp [insV1]
 | y :: r=>by
  unfold insV1
  split
  ·rw [List.mem_cons,insV1_mem n x r,List.mem_cons]
   constructor
   ·rintro (h|h|h)
    ·exact .inr (.inl h)
    ·exact .inl h
    ·exact .inr (.inr h)
   ·rintro (h|h|h)
    ·exact .inr (.inl h)
    ·exact .inl h
    ·exact .inr (.inr h)
  ·split
   ·rename_i h2
    subst h2
    simp
   ·simp
theorem insV1_asc (n:Int):∀ l,Asc l→Asc (insV1 n l)
 | [],_=>by simp [insV1,Asc]
 | y :: r,h=>by
  have h1:=List.pairwise_cons.1 h
  unfold insV1
  split
  ·rename_i hlt
   refine List.pairwise_cons.2 ⟨fun x hx=>?_,insV1_asc n r h1.2⟩
   rcases (insV1_mem n x r).1 hx with rfl|hx
   ·exact hlt
   ·exact h1.1 x hx
  ·split
   ·exact h
   ·rename_i h2 h3
    refine List.pairwise_cons.2 ⟨fun x hx=>?_,h⟩
    rcases List.mem_cons.1 hx with rfl|hx
    ·omega
    ·have:=h1.1 x hx;omega
theorem foldV_spec:∀ (l o:List Int),Asc o→Asc (l.foldl (fun o n=>insV1 n o) o)∧∀ x,x∈l.foldl (fun o n=>insV1 n o) o↔x∈o∨x∈l
 | [],o,h=>⟨h,fun x=>by simp⟩
 | n :: l,o,h=>by
  obtain ⟨h1,h2⟩:=foldV_spec l (insV1 n o) (insV1_asc n o h)
  refine ⟨h1,fun x=>?_⟩
  rw [List.foldl_cons,h2 x,insV1_mem,List.mem_cons]
  constructor
  ·rintro ((h|h)|h)
   ·exact .inr (.inl h)
   ·exact .inl h
   ·exact .inr (.inr h)
  ·rintro (h|h|h)
   ·exact .inl (.inr h)
   ·exact .inl (.inl h)
   ·exact .inr h
theorem sortV_asc (l:List Int):Asc (sortV l):=(foldV_spec l [] List.Pairwise.nil).1
theorem sortV_mem (l:List Int) (x:Int):x∈sortV l↔x∈l:=by rw [sortV,(foldV_spec l [] List.Pairwise.nil).2 x];simp
theorem asc_uniq:∀ {l m:List Int},Asc l→Asc m→(∀ x,x∈l↔x∈m)→l=m
 | [],[],_,_,_=>rfl
 | [],y :: m,_,_,h=>by have:=(h y).2 (by simp);simp at this
 | x :: l,[],_,_,h=>by have:=(h x).1 (by simp);simp at this
 | x :: l,y :: m,hl,hm,h=>by
  have h1:=List.pairwise_cons.1 hl
  have h2:=List.pairwise_cons.1 hm
  have hxy:x=y:=by
   rcases List.mem_cons.1 ((h x).1 (by simp)) with e|e
   ·exact e
   ·rcases List.mem_cons.1 ((h y).2 (by simp)) with e2|e2
    ·exact e2.symm
    ·have a:=h2.1 x e;have b:=h1.1 y e2;omega
  subst hxy
  have:l=m:=asc_uniq h1.2 h2.2 fun z=>⟨fun hz=>by
    rcases List.mem_cons.1 ((h z).1 (List.mem_cons_of_mem _ hz)) with e|e
    ·have:=h1.1 z hz;omega
    ·exact e,fun hz=>by
    rcases List.mem_cons.1 ((h z).2 (List.mem_cons_of_mem _ hz)) with e|e
    ·have:=h2.1 z hz;omega
    ·exact e⟩
  rw [this]
theorem asc_sortV {l m:List Int} (h:Asc m) (h2:∀ x,x∈m↔x∈l):m=sortV l:=asc_uniq h (sortV_asc l) fun x=>by rw [h2,sortV_mem]
theorem insV1_len (n:Int):∀ l,(insV1 n l).length≤l.length+1
 | []=>by simp [insV1]
 | y :: r=>by
  unfold insV1
  split
  ·have:=insV1_len n r;simp;omega
  ·split<;>simp
theorem sortV_len (l:List Int):(sortV l).length≤l.length:=by
 have key:∀ (l o:List Int),(l.foldl (fun o n=>insV1 n o) o).length≤o.length+l.length:=by
  intro l
  induction l with
  | nil=>intro o;simp
  | cons n l ih=>intro o;have h1:=ih (insV1 n o);have h2:=insV1_len n o;simp only [List.foldl_cons,List.length_cons];omega
 simpa [sortV] using key l []
theorem bang (l:List Int) (j:Nat) (hj:j<l.length):l.toArray[j]! = l[j]:=by simp [hj]
theorem compact_asc {zs:List Int} (h:zs.Pairwise (·≤·)) (m:Nat) (hm:m≤zs.length):Asc (Lib.compactUpTo zs.toArray m)∧∀ x,x∈Lib.compactUpTo zs.toArray m↔∃ j,j<m∧x=zs.toArray[j]!:=by
 have hg:∀ i j,i≤j→j<zs.length→zs.toArray[i]!≤zs.toArray[j]!:=by
  intro i j hij hj
  rcases Nat.lt_or_ge i j with h1|h1
  ·have:=(List.pairwise_iff_getElem.1 h) i j (by omega) hj h1
   simpa [show i<zs.length by omega,hj] using this
  ·obtain rfl:i=j:=by omega
   exact Int.le_refl _
 induction m with
 | zero=>exact ⟨by simp [Lib.compactUpTo,Asc],fun x=>by simp [Lib.compactUpTo]⟩
 | succ m ih=>
  obtain ⟨h1,h2⟩:=ih (by omega)
  rw [Lib.compactUpTo_succ]
  rcases hk:Lib.keeps zs.toArray m with _|_
  ·simp only [Bool.false_eq_true,if_false,List.append_nil]
   refine ⟨h1,fun x=>?_⟩
   rw [h2]
   simp only [Lib.keeps,decide_eq_false_iff_not,not_or,Classical.not_not] at hk
   constructor
   ·rintro ⟨j,hj,rfl⟩;exact ⟨j,by omega,rfl⟩
   ·rintro ⟨j,hj,rfl⟩
    by_cases hjm:j<m
    ·exact ⟨j,hjm,rfl⟩
    ·obtain rfl:j=m:=by omega
     exact ⟨j-1,by omega,hk.2⟩
  ·simp only [if_true]
   constructor
   ·refine List.pairwise_append.2 ⟨h1,by simp,fun x hx y hy=>?_⟩
    obtain rfl:=List.mem_singleton.1 hy
    obtain ⟨j,hj,rfl⟩:=(h2 x).1 hx
    simp only [Lib.keeps,decide_eq_true_eq] at hk
    have a:=hg j (m-1) (by omega) (by omega)
    have b:=hg (m-1) m (by omega) (by omega)
    rcases hk with hk|hk
    ·omega
    ·omega
   ·intro x
    rw [List.mem_append,h2,List.mem_singleton]
    constructor
    ·rintro (⟨j,hj,rfl⟩|rfl)
     ·exact ⟨j,by omega,rfl⟩
     ·exact ⟨m,by omega,rfl⟩
    ·rintro ⟨j,hj,rfl⟩
     by_cases hjm:j<m
     ·exact .inl ⟨j,hjm,rfl⟩
     ·obtain rfl:j=m:=by omega
      exact .inr rfl
theorem compact_sortV (zs:List Int):Lib.compact (zs.mergeSort fun x y=>decide (x≤y))=sortV zs:=by
 have hs:(zs.mergeSort fun x y=>decide (x≤y)).Pairwise (·≤·):=by
  have:=List.pairwise_mergeSort (le:=fun x y:Int=>decide (x≤y)) (by intro a b c;simp;omega) (by intro a b;simp;omega) zs
  exact this.imp (fun h=>by simpa using h)
 obtain ⟨h1,h2⟩:=compact_asc hs _ (Nat.le_refl _)
 refine asc_sortV h1 fun x=>?_
 rw [Lib.compact] at *
 rw [h2 x,←(List.mergeSort_perm zs fun x y=>decide (x≤y)).mem_iff (a:=x)]
 constructor
 ·rintro ⟨j,hj,rfl⟩
  rw [bang _ j hj]
  exact List.getElem_mem hj
 ·intro hx
  obtain ⟨j,hj,rfl⟩:=List.mem_iff_getElem.1 hx
  exact ⟨j,hj,(bang _ j hj).symm⟩
end
section
open Go.RowKit
def mostA:Value:=.agg #[.int .i64 0,.int .i64 0,.int .i64 9,.int .i64 4,.int .i64 9,.int .i64 48,.int .i64 6,.int .i64 9,.int .i64 15,.int .i64 15,.int .i64 3,.int .i64 9,.int .i64 50,.int .i64 5,.int .i64 24]
theorem most_at (k:Int) (h0:0≤k) (hk:k<15) (w:World):Sem.run Tryz.prog (Instr.index 241 (.agg #[.int .i64 0,.int .i64 0,.int .i64 9,.int .i64 4,.int .i64 9,.int .i64 48,.int .i64 6,.int .i64 9,.int .i64 15,.int .i64 15,.int .i64 3,.int .i64 9,.int .i64 50,.int .i64 5,.int .i64 24]) (.int .i64 k)) w=.ok (.int .i64 (mostV.getD k.toNat 0)) w:=by
 rcases (show k=0∨k=1∨k=2∨k=3∨k=4∨k=5∨k=6∨k=7∨k=8∨k=9∨k=10∨k=11∨k=12∨k=13∨k=14 by omega) with rfl|rfl|rfl|rfl|rfl|rfl|rfl|rfl|rfl|rfl|rfl|rfl|rfl|rfl|rfl
 all_goals kernel_rfl
theorem cmost_any (k:Int) (h0:0≤k) (hk:k<15) (w:World) :
  Calls Tryz.prog 243 #[.int .i64 k] w fun e w'=>e=.returned (.int .i64 (mostV.getD k.toNat 0))∧w=w':=by
 have hi:=most_at k h0 hk
 generalize mostV.getD k.toNat 0=q at hi ⊢
 go_enter Tryz.func243,Tryz.ntmps243
 go_wp2
 go_ret
 exact ⟨rfl,rfl⟩
theorem pools_any (k:Int) (w:World) :
  Calls Tryz.prog 244 #[.int .i64 k] w fun e w'=>e=.returned (.bool (decide (k=4∨k=6∨k=7∨k=8∨k=9)))∧w=w':=by
 have hw:=Lib.hid (rfl:w=w)
 go_enter Tryz.func244,Tryz.ntmps244
 go_wp2
 all_goals
  go_ret
  refine ⟨ret_bool ?_,rfl⟩
  grind
theorem opens_any (op:Int) (w:World) :
  Calls Tryz.prog 78 #[.int .i64 op] w fun e w'=>e=.returned (.bool (opensV op))∧w=w':=by
 go_enter Tryz.func78,Tryz.ntmps78
 go_wp2
 all_goals
  go_ret
  refine ⟨ret_bool ?_,rfl⟩
  rw [Bool.eq_iff_iff];simp [opensV,inI];omega
theorem inR_int {n r:Int}{p:Bool} (h0:0≤r):inR n r.toNat p=if r=1 then inI n (-2147483648) 2147483647 else if r=3 then inI n 2 4 else if r=14 then inI n 1 24 else if p=true∧(r=4∨r=6∨r=7∨r=8∨r=9) then inI n 0 59 else inI n 0 (mostV.getD r.toNat 0):=by
 unfold inR
 by_cases h1:r=1
 ·rw [if_pos h1,if_pos (by omega)]
 rw [if_neg h1,if_neg (by omega)]
 by_cases h3:r=3
 ·rw [if_pos h3,if_pos (by omega)]
 rw [if_neg h3,if_neg (by omega)]
 by_cases h14:r=14
 ·rw [if_pos h14,if_pos (by omega)]
 rw [if_neg h14,if_neg (by omega)]
 have e:poolR r.toNat=decide (r=4∨r=6∨r=7∨r=8∨r=9):=by unfold poolR;rw [decide_eq_decide];omega
 rw [e]
 cases p with
 | false=>simp
 | true=>simp
theorem most14:mostV[14]?.getD 0=24:=rfl
theorem in_any (n r:Int) (p:Bool) (h0:0≤r) (hr:r<15) (w:World) :
  Calls Tryz.prog 208 #[.int .i64 n,.int .i64 r,.bool p] w fun e w'=>e=.returned (.bool (inR n r.toNat p))∧w=w':=by
 generalize hq:inR n r.toNat p=q
 have HQ:=Lib.hid hq
 clear hq
 go_enter Tryz.func208,Tryz.ntmps208
 go_wp2_with (first
  | (go_at_call 244;refine (pools_any _ _).mono ?_;rintro e w' ⟨rfl,rfl⟩)
  | (go_at_call 243;refine (cmost_any _ (by omega) (by omega) _).mono ?_;rintro e w' ⟨rfl,rfl⟩))
 all_goals
  go_ret
  refine ⟨ret_bool ?_,rfl⟩
  rw [←HQ.out,inR_int h0]
  have:=most14
  grind [inI]
end
section
open Go.RowKit
def tableL:List Value:=[.string ⟨#[110,111,112]⟩,.int .i64 0,.int .i64 0,.int .i64 1,.string ⟨#[112,117,115,104]⟩,.int .i64 1,.int .i64 0,.int .i64 1,.string ⟨#[108,111,97,100]⟩,.int .i64 2,.int .i64 0,.int .i64 1,.string ⟨#[115,116,111,114,101]⟩,.int .i64 2,.int .i64 0,.int .i64 1,.string ⟨#[100,114,111,112]⟩,.int .i64 0,.int .i64 0,.int .i64 1,.string ⟨#[100,117,112]⟩,.int .i64 0,.int .i64 0,.int .i64 1,.string ⟨#[97,100,100]⟩,.int .i64 0,.int .i64 0,.int .i64 1,.string ⟨#[115,117,98]⟩,.int .i64 0,.int .i64 0,.int .i64 1,.string ⟨#[109,117,108]⟩,.int .i64 0,.int .i64 0,.int .i64 3,.string ⟨#[100,105,118]⟩,.int .i64 0,.int .i64 0,.int .i64 8,.string ⟨#[108,101,115,115]⟩,.int .i64 0,.int .i64 0,.int .i64 1,.string ⟨#[115,97,109,101]⟩,.int .i64 0,.int .i64 0,.int .i64 1,.string ⟨#[110,117,108,108]⟩,.int .i64 3,.int .i64 4,.int .i64 1,.string ⟨#[105,115,110,117,108,108]⟩,.int .i64 0,.int .i64 0,.int .i64 1,.string ⟨#[110,101,119]⟩,.int .i64 4,.int .i64 0,.int .i64 12,.string ⟨#[110,101,119,105,110,116,115]⟩,.int .i64 5,.int .i64 0,.int .i64 4,.string ⟨#[110,101,119,114,101,102,115]⟩,.int .i64 5,.int .i64 4,.int .i64 4,.string ⟨#[103,101,116]⟩,.int .i64 6,.int .i64 0,.int .i64 2,.string ⟨#[112,117,116]⟩,.int .i64 6,.int .i64 0,.int .i64 3,.string ⟨#[101,108,101,109]⟩,.int .i64 0,.int .i64 0,.int .i64 3,.string ⟨#[115,101,116,101,108,101,109]⟩,.int .i64 0,.int .i64 0,.int .i64 4,.string ⟨#[108,101,110]⟩,.int .i64 0,.int .i64 0,.int .i64 2,.string ⟨#[115,116,97,116,105,99]⟩,.int .i64 7,.int .i64 0,.int .i64 2,.string ⟨#[115,101,116,115,116,97,116,105,99]⟩,.int .i64 7,.int .i64 0,.int .i64 3,.string ⟨#[99,97,115,116]⟩,.int .i64 4,.int .i64 0,.int .i64 2,.string ⟨#[99,97,108,108]⟩,.int .i64 8,.int .i64 0,.int .i64 4,.string ⟨#[115,101,110,100]⟩,.int .i64 9,.int .i64 0,.int .i64 6,.string ⟨#[101,109,105,116]⟩,.int .i64 10,.int .i64 0,.int .i64 2,.string ⟨#[116,104,114,111,119]⟩,.int .i64 11,.int .i64 0,.int .i64 3,.string ⟨#[105,102]⟩,.int .i64 0,.int .i64 0,.int .i64 1,.string ⟨#[108,111,111,112]⟩,.int .i64 12,.int .i64 2,.int .i64 2,.string ⟨#[108,111,99,107]⟩,.int .i64 13,.int .i64 0,.int .i64 2,.string ⟨#[115,99,111,112,101]⟩,.int .i64 14,.int .i64 0,.int .i64 4,.string ⟨#[116,114,121]⟩,.int .i64 0,.int .i64 0,.int .i64 2,.string ⟨#[101,108,115,101]⟩,.int .i64 0,.int .i64 0,.int .i64 1,.string ⟨#[101,110,100]⟩,.int .i64 0,.int .i64 0,.int .i64 1]
def opN:List ByteArray:=[⟨#[110,111,112]⟩,⟨#[112,117,115,104]⟩,⟨#[108,111,97,100]⟩,⟨#[115,116,111,114,101]⟩,⟨#[100,114,111,112]⟩,⟨#[100,117,112]⟩,⟨#[97,100,100]⟩,⟨#[115,117,98]⟩,⟨#[109,117,108]⟩,⟨#[100,105,118]⟩,⟨#[108,101,115,115]⟩,⟨#[115,97,109,101]⟩,⟨#[110,117,108,108]⟩,⟨#[105,115,110,117,108,108]⟩,⟨#[110,101,119]⟩,⟨#[110,101,119,105,110,116,115]⟩,⟨#[110,101,119,114,101,102,115]⟩,⟨#[103,101,116]⟩,⟨#[112,117,116]⟩,⟨#[101,108,101,109]⟩,⟨#[115,101,116,101,108,101,109]⟩,⟨#[108,101,110]⟩,⟨#[115,116,97,116,105,99]⟩,⟨#[115,101,116,115,116,97,116,105,99]⟩,⟨#[99,97,115,116]⟩,⟨#[99,97,108,108]⟩,⟨#[115,101,110,100]⟩,⟨#[101,109,105,116]⟩,⟨#[116,104,114,111,119]⟩,⟨#[105,102]⟩,⟨#[108,111,111,112]⟩,⟨#[108,111,99,107]⟩,⟨#[115,99,111,112,101]⟩,⟨#[116,114,121]⟩,⟨#[101,108,115,101]⟩,⟨#[101,110,100]⟩]
def opC:List Nat:=[1,1,1,1,1,1,1,1,3,8,1,1,1,1,12,4,4,2,3,3,4,2,2,3,2,4,6,2,3,1,2,2,4,2,1,1]
theorem store_table (w:World):(storeCells ⟨w.heap.size,0,none⟩ tableL 0).run Tryz.prog (w.alloc (.cells Tryz.zeroCells215 215))=.ok () (w.alloc (.cells tableL.toArray 215)):=by
 have:=run_storeCells_new (P:=Tryz.prog) w 215 Tryz.zeroCells215 tableL.toArray (by kernel_rfl) (by kernel_rfl) (by kernel_rfl)
 simpa using this
theorem table_any (w:World):Calls Tryz.prog 209 #[] w fun e w'=>e=.returned (.agg tableL.toArray)∧Below w.heap.size w w':=by
 have hld:=run_loadAt_new (P:=Tryz.prog) w 215 tableL.toArray 36 180 Tryz.underlying215 (by kernel_rfl)
 have HLd:=Lib.hid hld
 clear hld
 go_enter Tryz.func209,Tryz.ntmps209
 go_wp2_with fail
 generalize hL:List.set _ _ _=L
 have hL2:L=tableL:=by rw [←hL];kernel_rfl
 subst hL2
 clear hL
 rw [store_table]
 simp only [Result.andThen]
 rw [Oper.upon_skip]
 go_wp2_with fail
 refine bodyPost_ret (v:=.agg tableL.toArray) ?_ rfl ⟨rfl,(Below.refl _ _).alloc (Nat.le_refl _) _⟩
 have hl2:=run_loadVar_new (P:=Tryz.prog) w 215 tableL.toArray 36 180 Tryz.underlying215 (by kernel_rfl)
 have hl1:=HLd.out
 generalize tableL.toArray=T at hl1 hl2 ⊢
 simp [results,Tryz.results209,Act.put,asAddr,Result.andThen,hl1,hl2]
end
section
open Go.RowKit
theorem table_at {k:Nat} (hk:k<36):tableL[k*4]?=some (.string (opN.getD k default))∧tableL[k*4+1]?=some (.int .i64 (opA.getD k 0))∧tableL[k*4+2]?=some (.int .i64 (opB.getD k 0))∧tableL[k*4+3]?=some (.int .i64 (opC.getD k 0)):=by
 rcases (show k=0∨k=1∨k=2∨k=3∨k=4∨k=5∨k=6∨k=7∨k=8∨k=9∨k=10∨k=11∨k=12∨k=13∨k=14∨k=15∨k=16∨k=17∨k=18∨k=19∨k=20∨k=21∨k=22∨k=23∨k=24∨k=25∨k=26∨k=27∨k=28∨k=29∨k=30∨k=31∨k=32∨k=33∨k=34∨k=35 by omega) with rfl|rfl|rfl|rfl|rfl|rfl|rfl|rfl|rfl|rfl|rfl|rfl|rfl|rfl|rfl|rfl|rfl|rfl|rfl|rfl|rfl|rfl|rfl|rfl|rfl|rfl|rfl|rfl|rfl|rfl|rfl|rfl|rfl|rfl|rfl|rfl
 all_goals exact ⟨rfl,rfl,rfl,rfl⟩
theorem table_len:tableL.length=144:=by kernel_rfl
theorem known_no (op:Int) (h:op<0∨36≤op) (w:World):Calls Tryz.prog 159 #[.int .i64 op] w fun e w'=>e=.returned (.tuple #[.agg #[.string ⟨#[]⟩,.int .i64 0,.int .i64 0,.int .i64 0],.bool false])∧Below w.heap.size w w':=by
 obtain ⟨B,hB⟩:∃ B,B=w.heap.size:=⟨_,rfl⟩
 go_enter Tryz.func159,Tryz.ntmps159
 go_wp2_with fail
 have hb0:=(Below.refl w.heap.size w).alloc (Nat.le_refl _) (.cells #[.string ⟨#[]⟩,.int .i64 0,.int .i64 0,.int .i64 0] 180)
 have hR0:=Blk.new' (w:=w) #[.string ⟨#[]⟩,.int .i64 0,.int .i64 0,.int .i64 0] 180 hB
 refine (table_any _).mono ?_
 rintro e w1 ⟨rfl,hb1⟩
 have HL1:=Lib.hid (bthen hb0 hb1)
 have HR1:=Lib.hid (hR0.old hb1)
 rw [←hB]
 have HB:=Lib.hid hB
 clear hb0 hb1 hR0 hB
 have hst:=store_table w1
 have hlen:=table_len
 generalize tableL=L at hst hlen ⊢
 have r0:=HR1.out.cell 0 rfl
 have r1:=HR1.out.cell 1 rfl
 have r2:=HR1.out.cell 2 rfl
 have r3:=HR1.out.cell 3 rfl
 have f0:=HR1.out.frozen 0
 have f1:=HR1.out.frozen 1
 have f2:=HR1.out.frozen 2
 have f3:=HR1.out.frozen 3
 have rl:=HR1.out.lt
 go_wp2_with fail
 all_goals
  have hR2:=((((HR1.out.set 0 (.string ⟨#[]⟩)).set 1 (.int .i64 0)).set 2 (.int .i64 0)).set 3 (.int .i64 0)).alloc (.cells L.toArray 215)
  have q0:=hR2.cell 0 rfl
  have q1:=hR2.cell 1 rfl
  have q2:=hR2.cell 2 rfl
  have q3:=hR2.cell 3 rfl
  refine bodyPost_ret (v:=.tuple #[.agg #[.string ⟨#[]⟩,.int .i64 0,.int .i64 0,.int .i64 0],.bool false]) (by simp [results,Tryz.results159,go_sem,q0,q1,q2,q3]) rfl ⟨rfl,?_⟩
  have:=HB.out
  exact bal (bsetV (bsetV (bsetV (bsetV HL1.out (by omega) _) (by omega) _) (by omega) _) (by omega) _) _
theorem known_yes (k:Nat) (hk:k<36) (w:World):Calls Tryz.prog 159 #[.int .i64 k] w fun e w'=>e=.returned (.tuple #[.agg #[.string (opN.getD k default),.int .i64 (opA.getD k 0),.int .i64 (opB.getD k 0),.int .i64 (opC.getD k 0)],.bool true])∧Below w.heap.size w w':=by
 obtain ⟨t0,t1,t2,t3⟩:=table_at hk
 generalize opN.getD k default=nm at t0 ⊢
 generalize ((opA.getD k 0:Nat):Int)=oa at t1 ⊢
 generalize ((opB.getD k 0:Nat):Int)=ob at t2 ⊢
 generalize ((opC.getD k 0:Nat):Int)=oc at t3 ⊢
 have HT:=Lib.hid (And.intro t0 (And.intro t1 (And.intro t2 t3)))
 clear t0 t1 t2 t3
 obtain ⟨B,hB⟩:∃ B,B=w.heap.size:=⟨_,rfl⟩
 go_enter Tryz.func159,Tryz.ntmps159
 go_wp2_with fail
 have hb0:=(Below.refl w.heap.size w).alloc (Nat.le_refl _) (.cells #[.string ⟨#[]⟩,.int .i64 0,.int .i64 0,.int .i64 0] 180)
 have hR0:=Blk.new' (w:=w) #[.string ⟨#[]⟩,.int .i64 0,.int .i64 0,.int .i64 0] 180 hB
 refine (table_any _).mono ?_
 rintro e w1 ⟨rfl,hb1⟩
 have HL1:=Lib.hid (bthen hb0 hb1)
 have HR1:=Lib.hid (hR0.old hb1)
 rw [←hB]
 have HB:=Lib.hid hB
 clear hb0 hb1 hR0 hB
 have hst:=store_table w1
 have hlen:=table_len
 obtain ⟨t0,t1,t2,t3⟩:=HT.out
 generalize tableL=L at hst hlen t0 t1 t2 t3 ⊢
 have r0:=HR1.out.cell 0 rfl
 have r1:=HR1.out.cell 1 rfl
 have r2:=HR1.out.cell 2 rfl
 have r3:=HR1.out.cell 3 rfl
 have f0:=HR1.out.frozen 0
 have f1:=HR1.out.frozen 1
 have f2:=HR1.out.frozen 2
 have f3:=HR1.out.frozen 3
 have rl:=HR1.out.lt
 have hk0:¬ ((k:Int) < 0):=by omega
 have hk1:¬ ((36:Int)≤k):=by omega
 have hk2:(k:Int) < 36:=by omega
 go_wp2_with fail
 have hR2:=((((HR1.out.set 0 (.string nm)).set 1 (.int .i64 oa)).set 2 (.int .i64 ob)).set 3 (.int .i64 oc)).alloc (.cells L.toArray 215)
 have q0:=hR2.cell 0 rfl
 have q1:=hR2.cell 1 rfl
 have q2:=hR2.cell 2 rfl
 have q3:=hR2.cell 3 rfl
 refine bodyPost_ret (v:=.tuple #[.agg #[.string nm,.int .i64 oa,.int .i64 ob,.int .i64 oc],.bool true]) (by simp [results,Tryz.results159,go_sem,q0,q1,q2,q3]) rfl ⟨rfl,?_⟩
 have:=HB.out
 exact bal (bsetV (bsetV (bsetV (bsetV HL1.out (by omega) _) (by omega) _) (by omega) _) (by omega) _) _
end
section
open Go.RowKit
theorem opA_lt (k:Nat):opA.getD k 0<15:=by
 rw [List.getD_eq_getElem?_getD]
 by_cases h:k<opA.length
 ·rw [List.getElem?_eq_getElem h]
  exact (show ∀ x∈opA,x<15 by decide) _ (List.getElem_mem h)
 ·rw [List.getElem?_eq_none (by omega)];decide
theorem opB_lt (k:Nat):opB.getD k 0<15:=by
 rw [List.getD_eq_getElem?_getD]
 by_cases h:k<opB.length
 ·rw [List.getElem?_eq_getElem h]
  exact (show ∀ x∈opB,x<15 by decide) _ (List.getElem_mem h)
 ·rw [List.getElem?_eq_none (by omega)];decide
theorem insnV_eq {p:Bool}{k:Nat} (hk:k<36) (a b:Int):insnV p ⟨k,a,b⟩=(inR a (opA.getD k 0) p&&inR b (opB.getD k 0) p&&!(decide ((k:Int)=12)&&decide (a=3)&&decide (b≠0))):=by
 unfold insnV
 have h1:decide ((k:Int) < 36)=true:=by simp;omega
 simp only [Int.toNat_natCast,h1,Int.natCast_nonneg,decide_true,Bool.true_and]
theorem cValid_any (i:In3) (p:Bool) (w:World):Calls Tryz.prog 158 #[.agg #[.int .i64 i.op,.int .i64 i.a,.int .i64 i.b],.bool p] w (Ret w (.bool (insnV p i))):=by
 obtain ⟨op,a,b⟩:=i
 dsimp only
 obtain ⟨B,hB⟩:∃ B,B=w.heap.size:=⟨_,rfl⟩
 by_cases h:0≤op∧op<36
 ·obtain ⟨k,rfl⟩:∃ k:Nat,op=k:=⟨op.toNat,by omega⟩
  have hk:k<36:=by omega
  rw [insnV_eq hk]
  have ha:=in_any a (opA.getD k 0:Nat) p (by omega) (by have:=opA_lt k;omega)
  have hb:=in_any b (opB.getD k 0:Nat) p (by omega) (by have:=opB_lt k;omega)
  rw [Int.toNat_natCast] at ha hb
  have hkn:=known_yes k hk
  generalize opN.getD k default=nm at hkn
  generalize ((opA.getD k 0:Nat):Int)=oa at ha hkn
  generalize ((opB.getD k 0:Nat):Int)=ob at hb hkn
  generalize ((opC.getD k 0:Nat):Int)=oc at hkn
  generalize inR a (opA.getD k 0) p=qa at ha ⊢
  generalize inR b (opB.getD k 0) p=qb at hb ⊢
  have HA:=Lib.hid ha
  have HBb:=Lib.hid hb
  have HK:=Lib.hid hkn
  clear ha hb hkn h
  generalize hq:(qa&&qb&&!(decide ((k:Int)=12)&&decide (a=3)&&decide (b≠0)))=q
  have HQ:=Lib.hid hq
  clear hq
  go_enter Tryz.func158,Tryz.ntmps158
  go_wp2_with fail
  have hX:=Blk.new' (w:=w) #[.int .i64 k,.int .i64 a,.int .i64 b] 42 hB
  refine (HK.out _).mono ?_
  rintro e w1 ⟨rfl,hb1⟩
  have hX1:=hX.old hb1
  rw [←hB]
  have HB:=Lib.hid hB
  clear hB
  have x0:=hX1.cell 0 rfl
  have x1:=hX1.cell 1 rfl
  have x2:=hX1.cell 2 rfl
  have xl:=hX1.lt
  go_wp2_with (first
   | (with_reducible refine (HA.out _).mono ?_;rintro e w' ⟨rfl,rfl⟩)
   | (with_reducible refine (HBb.out _).mono ?_;rintro e w' ⟨rfl,rfl⟩))
  all_goals
   go_ret
   refine ret_ok (bool_eq ?_) bE
   rw [←HQ.out]
   grind
 ·have hq:insnV p ⟨op,a,b⟩=false:=by
   exact k78
  rw [hq]
  have HK:=Lib.hid (known_no op (by omega))
  clear hq h
  go_enter Tryz.func158,Tryz.ntmps158
  go_wp2_with fail
  refine (HK.out _).mono ?_
  rintro e w1 ⟨rfl,hb1⟩
  go_wp2_with fail
  go_ret
  exact ret_ok rfl bE
theorem check1_any (i:In3) (p:Bool) (b:Nat) (w:World) (hc:w.cell? ⟨b,0,none⟩=some (.bool p)) :
  Calls Tryz.prog 207 #[.agg #[.int .i64 i.op,.int .i64 i.a,.int .i64 i.b],.pointer (some ⟨b,0,none⟩)] w (Ret w (.bool (!insnV p i))):=by
 have hl:b<w.heap.size:=cell_lt hc
 go_enter Tryz.func207,Tryz.ntmps207
 go_wp2_with fail
 refine (cValid_any i p _).mono ?_
 rintro e w1 ⟨rfl,hb1⟩
 go_wp2_with fail
 go_ret
 exact ret_ok rfl bE
theorem any_ofV {α:Type}{l:List α}{p:α→Bool}{d:α}{k:Nat} (hk:k<l.length) (h:p (l.getD k d)=true):l.any p=true:=by
 rw [List.any_eq_true]
 exact ⟨l[k],List.getElem_mem hk,by simpa [hk] using h⟩
theorem any_notV {α:Type}{l:List α}{p:α→Bool}{d:α} (h:∀ i,i<l.length→p (l.getD i d)=false):l.any p=false:=by
 rw [List.any_eq_false]
 intro x hx
 obtain ⟨i,hi,rfl⟩:=List.getElem_of_mem hx
 have:=h i hi
 simpa [hi] using this
end
end Go.Proofs.YtfkbfjhocmbneaaGreat
