/- Joined texts. The first: VerifyNops, the plain law: a method without its nops is valid, and has the same error. -/
import Derived.Test.YtkdamjpbnmbeoaaGreatG15
import Derived.Test.YtkdamjpbnmbeoaaGreatG6
import Derived.Test.YtkdamjpbnmbeoaaGreatG10
import Derived.Test.YtkdamjpbnmbeoaaGreatG14
set_option linter.all false
set_option linter.unusedVariables false
set_option linter.unusedSimpArgs false
set_option maxRecDepth 100000
set_option maxHeartbeats 8000000
namespace Go.Proofs.YtkdamjpbnmbeoaaGreat
section
/-- the module with other methods: as many, which differ in nothing but their code -/
structure MeSim (a b:List Mth):Prop where
 len:a.length=b.length
 c:∀ j,(a.getD j default).c=(b.getD j default).c
 p:∀ j,(a.getD j default).p=(b.getD j default).p
 l:∀ j,(a.getD j default).l=(b.getD j default).l
 r:∀ j,(a.getD j default).r=(b.getD j default).r
section
variable {cl:List Cls}{st:List Ty}{sel:Int}{a b:List Mth} (S:MeSim a b)
include S
theorem above_sim:∀ (f:Nat) (x y:Int),aboveV ⟨cl,st,a,sel⟩ f x y=aboveV ⟨cl,st,b,sel⟩ f x y
 | 0,_,_=>rfl
 | f+1,x,y=>by unfold aboveV;rw [above_sim f];rfl
theorem fits_sim (t u:Ty):fitsV ⟨cl,st,a,sel⟩ t u=fitsV ⟨cl,st,b,sel⟩ t u:=by unfold fitsV;rw [above_sim S]
theorem fitsO_sim (t:Ty) (o:Option Ty):fitsO ⟨cl,st,a,sel⟩ t o=fitsO ⟨cl,st,b,sel⟩ t o:=by cases o<;>simp only [fitsO,fits_sim S]
theorem own_sim (n:Int):Md.own ⟨cl,st,a,sel⟩ n=Md.own ⟨cl,st,b,sel⟩ n:=S.c _
theorem callee_sim (i:In3):(calleeV ⟨cl,st,a,sel⟩ i).map (fun x=>(x.p,x.r))=(calleeV ⟨cl,st,b,sel⟩ i).map (fun x=>(x.p,x.r)):=by
 unfold calleeV
 split
 ·simp only [Option.map_some,S.p,S.r]
 ·rw [show tgtV ⟨cl,st,a,sel⟩ i.a=tgtV ⟨cl,st,b,sel⟩ i.a from rfl]
  split
  ·rfl
  ·simp only [Option.map_some,S.p,S.r]
theorem cnt_sim (i:In3):cntV ⟨cl,st,a,sel⟩ i=cntV ⟨cl,st,b,sel⟩ i:=by
 have h:=callee_sim (cl:=cl) (st:=st) (sel:=sel) S i
 unfold cntV
 generalize calleeV ⟨cl,st,a,sel⟩ i=x at h
 generalize calleeV ⟨cl,st,b,sel⟩ i=y at h
 cases x<;>cases y<;>simp only [Option.map_none,Option.map_some,reduceCtorEq,Option.some.injEq,Prod.mk.injEq] at h<;>first|rfl|(dsimp only;rw [h.1,h.2])
theorem push_sim (lo:List Ty) (i:In3) (l:List Ty):pushV ⟨cl,st,a,sel⟩ lo i l=pushV ⟨cl,st,b,sel⟩ lo i l:=by
 have h:=callee_sim (cl:=cl) (st:=st) (sel:=sel) S i
 unfold pushV
 generalize calleeV ⟨cl,st,a,sel⟩ i=x at h
 generalize calleeV ⟨cl,st,b,sel⟩ i=y at h
 simp only [fits_sim S,fitsO_sim S,S.p,S.r]
 cases x<;>cases y<;>simp only [Option.map_none,Option.map_some,reduceCtorEq,Option.some.injEq,Prod.mk.injEq] at h
 ·rfl
 ·dsimp only;rw [h.1,h.2];rfl
theorem step_sim (lo:List Ty) (i:In3) (s:Ps):stepV ⟨cl,st,a,sel⟩ lo i s=stepV ⟨cl,st,b,sel⟩ lo i s:=by
 unfold stepV
 rw [cnt_sim S]
 simp only [push_sim S]
theorem ended_sim (r:Ty) (k:List Ty):endedV ⟨cl,st,a,sel⟩ r k=endedV ⟨cl,st,b,sel⟩ r k:=by
 unfold endedV
 simp only [fits_sim S]
theorem pass_sim (lo:List Ty) (r:Ty):∀ (l:List In3) (n:Nat) (s:Ps),passF ⟨cl,st,a,sel⟩ lo r n l s=passF ⟨cl,st,b,sel⟩ lo r n l s
 | [],n,s=>by unfold passF;rw [ended_sim S]
 | i :: l,n,s=>by unfold passF;rw [step_sim S,pass_sim lo r l]
theorem cls_sim (k:Nat):clsV ⟨cl,st,a,sel⟩ k=clsV ⟨cl,st,b,sel⟩ k:=by
 have h:∀ s,selV ⟨cl,st,a,sel⟩ k s=selV ⟨cl,st,b,sel⟩ k s:=fun s=>by
  unfold selV entryV
  simp only [own_sim S,above_sim S,S.len]
  rfl
 unfold clsV
 rw [show selV ⟨cl,st,a,sel⟩ k=selV ⟨cl,st,b,sel⟩ k from funext h]
 rfl
theorem opd_sim (k:Nat) (i:In3):opdV ⟨cl,st,a,sel⟩ k i=opdV ⟨cl,st,b,sel⟩ k i:=by
 unfold opdV
 simp only [own_sim S]
 rfl
theorem alike_sim (s:Nat):alikeV ⟨cl,st,a,sel⟩ s=alikeV ⟨cl,st,b,sel⟩ s:=by
 unfold alikeV
 simp only [S.p,S.r]
 rfl
theorem mod_sim (h:modV ⟨cl,st,b,sel⟩=true) (hm:∀ k,k<b.length→mthV ⟨cl,st,a,sel⟩ k=true):modV ⟨cl,st,a,sel⟩=true:=by
 unfold modV at h ⊢
 simp only [Bool.and_eq_true] at h ⊢
 obtain ⟨⟨⟨⟨h1,h2⟩,h3⟩,h4⟩,h5⟩:=h
 refine ⟨⟨⟨⟨?_,?_⟩,?_⟩,?_⟩,?_⟩
 ·unfold sizesV at h1 ⊢
  rw [S.len]
  exact h1
 ·unfold ownsV at h2 ⊢
  rw [S.len]
  simp only [own_sim S]
  exact h2
 ·rw [show clsV ⟨cl,st,a,sel⟩=clsV ⟨cl,st,b,sel⟩ from funext (cls_sim S)]
  exact h3
 ·rw [S.len]
  exact all_range_iff.2 hm
 ·rw [show alikeV ⟨cl,st,a,sel⟩=alikeV ⟨cl,st,b,sel⟩ from funext (alike_sim S)]
  exact h5
end
def noNop (l:List In3):List In3:=l.filter fun i=>decide (i.op≠0)
theorem noNop_nil:noNop []=[]:=rfl
theorem noNop_yes {i:In3} (h:i.op=0) (l:List In3):noNop (i :: l)=noNop l:=by simp [noNop,h]
theorem noNop_no {i:In3} (h:i.op≠0) (l:List In3):noNop (i :: l)=i :: noNop l:=by simp [noNop,h]
theorem noNop_mem {l:List In3}{i:In3} (h:i∈noNop l):i∈l:=(List.mem_filter.1 h).1
theorem nestS_nop {i:In3} (h:i.op=0) (s:List Br × Nat):nestS s i=some s:=by simp [nestS,h,opensV,inI]
theorem nest_nop:∀ (l:List In3) (s:List Br × Nat),nestF s (noNop l)=nestF s l
 | [],_=>rfl
 | i :: l,s=>by
  by_cases h:i.op=0
  ·rw [noNop_yes h,nest_nop l s]
   conv=>rhs;unfold nestF
   rw [nestS_nop h]
  ·rw [noNop_no h]
   unfold nestF
   cases nestS s i with
   | none=>rfl
   | some t=>exact nest_nop l t
theorem codeE_nop {l:List In3} (h:codeE false l=0):codeE false (noNop l)=0:=by
 unfold codeE at h ⊢
 split at h
 ·cases h
 ·rename_i h1
  split at h
  ·rename_i h2
   split at h
   ·rename_i h3
    rw [if_neg (by have:=List.length_filter_le (fun i:In3=>decide (i.op≠0)) l;show ¬ 120<(l.filter _).length;omega),if_pos (List.all_eq_true.2 fun i hi=>List.all_eq_true.1 h2 i (noNop_mem hi)),if_pos (by unfold nestV at h3 ⊢;rw [nest_nop];exact h3)]
   ·cases h
  ·cases h
theorem stepV_nop {m:Md}{lo:List Ty}{i:In3}{s:Ps} (h:i.op=0) (hs:s.stk.length≤12) (hb:baseV s.opn≤s.stk.length):stepV m lo i s=(0,s):=by
 unfold stepV
 have hc:cntV m i=(0,0):=by simp [cntV,h]
 have hp:∀ l,pushV m lo i l=some ty0:=fun l=>by simp [pushV,h]
 rw [if_neg (by omega),if_neg (by omega),hc]
 simp only [hp]
 rw [if_neg (by omega)]
 simp [h,opensV,inI]
theorem pass_nop {m:Md} (hm:modV m=true) {lo:List Ty} (hlo:∀ t∈lo,tyOk m t) {k:Nat} (hk:k<m.me.length) (r:Ty):∀ (l:List In3) (n n':Nat) (s:Ps),(∀ i∈l,OpdOk m k i∧0≤i.op∧i.op<36)→Wf m s l→(passF m lo r n' (noNop l) s).2.2=(passF m lo r n l s).2.2
 | [],n,n',s,_,_=>by
  rw [noNop_nil]
  unfold passF
  split<;>rfl
 | i :: l,n,n',s,hi,hw=>by
  have hi':=fun j hj=>hi j (List.mem_cons_of_mem i hj)
  obtain ⟨q1,q2⟩:=hi i List.mem_cons_self
  by_cases h0:i.op=0
  ·have hst:=stepV_nop (m:=m) (lo:=lo) h0 hw.stk.1 hw.base
   have hw2:=wf_step hm hlo hk q2 q1 hw (by rw [hst])
   rw [hst] at hw2
   rw [noNop_yes h0,pass_nop hm hlo hk r l (n+1) n' s hi' hw2]
   conv=>rhs;unfold passF
   rw [hst]
   simp only [if_true]
   split<;>simp_all
  ·rw [noNop_no h0]
   unfold passF
   by_cases he:(stepV m lo i s).1=0
   ·have hw2:=wf_step hm hlo hk q2 q1 hw he
    have ih:=pass_nop hm hlo hk r l (n+1) (n'+1) (stepV m lo i s).2 hi' hw2
    rw [if_pos he,if_pos he]
    dsimp only
    rw [ih]
    split
    ·rfl
    ·exact ih
   ·rw [if_neg he,if_neg he]
/-- method kk without its nops -/
def nopM (m:Md) (kk:Nat):Md:=⟨m.cl,m.st,m.me.set kk { m.me.getD kk default with k:=noNop (m.me.getD kk default).k },m.sel⟩
theorem nop_get {m:Md}{kk:Nat} (hk:kk<m.me.length) (j:Nat):(nopM m kk).me.getD j default=if j=kk then { m.me.getD kk default with k:=noNop (m.me.getD kk default).k } else m.me.getD j default:=by
 unfold nopM
 dsimp only
 by_cases h:j=kk
 ·subst h
  rw [if_pos rfl,List.getD_eq_getElem?_getD,List.getElem?_set_self hk]
  rfl
 ·rw [if_neg h,List.getD_eq_getElem?_getD,List.getElem?_set_ne (fun q=>h q.symm),List.getD_eq_getElem?_getD]
theorem nop_sim {m:Md}{kk:Nat} (hk:kk<m.me.length):MeSim (nopM m kk).me m.me:=by
 refine ⟨by simp [nopM],fun j=>?_,fun j=>?_,fun j=>?_,fun j=>?_⟩<;>rw [nop_get hk]<;>split<;>simp_all
theorem nop_mod' {cl:List Cls}{st:List Ty}{sel:Int}{a me:List Mth} (S:MeSim a me) {kk:Nat} (hg:∀ j,a.getD j default=if j=kk then { me.getD kk default with k:=noNop (me.getD kk default).k } else me.getD j default) (hm:modV ⟨cl,st,me,sel⟩=true):modV ⟨cl,st,a,sel⟩=true:=by
 refine mod_sim S hm fun k hkl=>?_
 have h:=modV_mthN hm k hkl
 unfold mthV at h ⊢
 rw [show opdV ⟨cl,st,a,sel⟩ k=opdV ⟨cl,st,me,sel⟩ k from funext (opd_sim S k)]
 dsimp only at h ⊢
 rw [hg k]
 split
 ·rename_i q
  subst q
  simp only [Bool.and_eq_true,decide_eq_true_eq] at h ⊢
  exact ⟨⟨h.1.1,codeE_nop h.1.2⟩,List.all_eq_true.2 fun i hi=>List.all_eq_true.1 h.2 i (noNop_mem hi)⟩
 ·exact h
theorem nop_mod {m:Md} (hm:modV m=true) {kk:Nat} (hk:kk<m.me.length):modV (nopM m kk)=true:=nop_mod' (nop_sim hk) (nop_get hk) hm
/-- P6.5: nops do not matter -/
theorem nops_law {m:Md} (hm:modV m=true) {kk:Nat} (hk:kk<m.me.length):(methodV (nopM m kk) kk).2.2=(methodV m kk).2.2:=by
 have S:=nop_sim hk
 have hmt:=mth_ok hm hk
 unfold methodV
 rw [if_pos ⟨nop_mod hm hk,by omega,by rw [S.len];omega⟩,if_pos ⟨hm,by omega,by omega⟩,Int.toNat_natCast]
 have hw:=pass_nop hm (own_neg hm hk) hk (m.me.getD kk default).r (m.me.getD kk default).k 0 0 ⟨[],[]⟩ (fun i hi=>⟨opd_ok (hmt.i i hi).1 (hmt.i i hi).2,insn_op (hmt.i i hi).1⟩) (wf_start hmt.n)
 unfold passV
 rw [nop_get hk kk,if_pos rfl]
 dsimp only
 have hp:∀ lo r l s,passF (nopM m kk) lo r 0 l s=passF m lo r 0 l s:=fun lo r l s=>pass_sim (cl:=m.cl) (st:=m.st) (sel:=m.sel) S lo r l 0 s
 rw [hp]
 exact hw
end
section
open Go.RowKit
theorem elCls:El Tryz.prog 22 73 4 72:=El.mk' (z:=.agg #[.string ⟨#[]⟩,.int .i64 0,.slice none 0 0,.slice none 0 0]) Tryz.underlying22 (by kernel_rfl) (by kernel_rfl) (by decide)
theorem elMth:El Tryz.prog 24 40 7 112:=El.mk' (z:=.agg #[.string ⟨#[]⟩,.int .i64 0,.slice none 0 0,.slice none 0 0,.int .i64 0,.int .i64 0,.slice none 0 0]) Tryz.underlying24 (by kernel_rfl) (by kernel_rfl) (by decide)
theorem elIn3:El Tryz.prog 36 42 3 24:=El.mk' (z:=.agg #[.int .i64 0,.int .i64 0,.int .i64 0]) Tryz.underlying36 (by kernel_rfl) (by kernel_rfl) (by decide)
/-- the first k of a list, each with what a function says of its index -/
def rowsK {α β:Type} [Inhabited α] (l:List α) (f:Nat→β):Nat→List (α × β)
 | 0=>[]
 | k+1=>rowsK l f k++[(l.getD k default,f k)]
theorem rowsK_len {α β:Type} [Inhabited α] (l:List α) (f:Nat→β) (k:Nat):(rowsK l f k).length=k:=by
 induction k with
 | zero=>rfl
 | succ k ih=>simp [rowsK,ih]
theorem rowsK_congr {α β:Type} [Inhabited α] (l:List α) {f g:Nat→β}:∀ k,(∀ i,i<k→f i=g i)→rowsK l f k=rowsK l g k
 | 0,_=>rfl
 | k+1,h=>by unfold rowsK;rw [rowsK_congr l k fun i hi=>h i (by omega),h k (by omega)]
theorem rowsK_get {α β:Type} [Inhabited α] (l:List α) (f:Nat→β):∀ k i,i<k→(rowsK l f k)[i]?=some (l.getD i default,f i)
 | 0,_,h=>by omega
 | k+1,i,h=>by
  unfold rowsK
  by_cases hi:i<k
  ·rw [List.getElem?_append_left (by rw [rowsK_len];exact hi)];exact rowsK_get l f k i hi
  ·obtain rfl:i=k:=by omega
   rw [List.getElem?_append_right (by rw [rowsK_len];omega),rowsK_len];simp
theorem rowsK_all {α β:Type} [Inhabited α] (l:List α) (f:Nat→β):rowsK l f l.length=l.mapIdx fun i x=>(x,f i):=by
 refine List.ext_getElem? fun i=>?_
 by_cases hi:i<l.length
 ·rw [rowsK_get l f l.length i hi];simp [hi]
 ·rw [List.getElem?_eq_none (by rw [rowsK_len];omega),List.getElem?_eq_none (by simp;omega)]
/-- nothing of an old world has changed but blocks of the types ts; below N nothing at all -/
structure Kp (ts:List TypeId) (N:Nat) (w w':World):Prop where
 bw:Below N w w'
 blk:∀ (k:Nat) (cur:Array Value) (e:TypeId),w.heap[k]?=some (Obj.cells cur e (0,0))→e ∉ ts→w'.heap[k]?=w.heap[k]?
theorem Kp.refl (ts:List TypeId) (N:Nat) (w:World):Kp ts N w w:=⟨Below.refl _ _,fun _ _ _ _ _=>rfl⟩
theorem Kp.trans {ts:List TypeId}{N:Nat}{a b c:World} (h:Kp ts N a b) (g:Kp ts N b c):Kp ts N a c:=
 ⟨h.bw.trans g.bw,fun k cur e hk h1=>(g.blk k cur e ((h.blk k cur e hk h1).trans hk) h1).trans (h.blk k cur e hk h1)⟩
theorem Kp.of {ts:List TypeId}{N:Nat}{w w':World} (h:Below w.heap.size w w') (hN:N≤w.heap.size):Kp ts N w w':=
 ⟨h.mono hN,fun k cur e hk _=>h.block k (Array.getElem?_eq_some_iff.1 hk).1⟩
theorem Kp.set {ts:List TypeId}{N:Nat}{w w':World} (h:Kp ts N w w') {b:Nat}{xs:Array Value}{t:TypeId} (hb:Blk w' b xs t) (ht:t∈ts) (hN:N≤b) (i:Nat) (v:Value):Kp ts N w (w'.setCell ⟨b,i,none⟩ v):=by
 refine h.trans ⟨(Below.refl N w').setCell (p:=⟨b,i,none⟩) hN v,fun k cur e hk h1=>?_⟩
 refine heap_setCell_other w' ⟨b,i,none⟩ k v ?_
 rintro rfl
 rw [show w'.heap[k]?=_ from hb] at hk
 cases hk
 exact h1 ht
theorem Kp.grown {ts:List TypeId}{N:Nat}{w w':World}{base:Nat}{e:TypeId}{size:Nat}{v:Value}{n:Nat}{xs:List Value} (ho:w.ownsRow base e size v n xs) (hg:w.grownBy w' v.ownBlock) (hN:N≤base) (hs:N≤w.heap.size) (he:e∈ts):Kp ts N w w':=by
 refine ⟨(Below.refl N w).grown hg hs (fun k hk=>Nat.le_trans hN (ho.lt k hk).1),fun k cur e' hk h1=>hg.block k (Array.getElem?_eq_some_iff.1 hk).1 ?_⟩
 intro q
 rcases ho.2 with ⟨hv,_⟩|⟨g,c,cur',hv,_,hh,_⟩
 ·rw [hv] at q;cases q
 ·rw [hv] at q
  cases q
  rw [hk] at hh
  cases hh
  exact h1 he
theorem Kp.own {ts:List TypeId}{N:Nat}{w w':World} (h:Kp ts N w w') {base:Nat}{e:TypeId}{size:Nat}{v:Value}{n:Nat}{xs:List Value} (ho:w.ownsRow base e size v n xs) (h1:e ∉ ts:=by decide):w'.ownsRow base e size v n xs:=by
 refine own_eqV ho fun k hk=>?_
 rcases ho.2 with ⟨hv,_⟩|⟨g,c,cur',hv,_,hh,_⟩
 ·rw [hv] at hk;cases hk
 ·rw [hv] at hk
  cases hk
  exact h.blk g cur' e hh h1
/-- a slice that was just made, without elements -/
theorem own_made (w:World) (base:Nat) (e:TypeId) (size:Nat) (hb:base≤w.heap.size):(w.alloc (.cells #[] e)).ownsRow base e size (.slice (some ⟨w.heap.size,0,none⟩) 0 0) 0 []:=
 ⟨by simp,.inr ⟨w.heap.size,0,#[],rfl,hb,Blk.new w #[] e,Nat.le_refl _,Nat.zero_le _,by simp,by simp⟩⟩
/-- the rows of a copied class, of a copied method: of the call's own -/
structure CpC (w:World) (N:Nat) (c:CHd) (x:Cls):Prop where
 f:w.ownsRow N 38 2 (.slice c.fo x.f.length c.fc) x.f.length (flatR x.f)
 m:w.ownsRow N 3 1 (.slice c.mo x.m.length c.mc) x.m.length (flatR x.m)
structure CpM (w:World) (N:Nat) (c:MHd) (x:Mth):Prop where
 p:w.ownsRow N 38 2 (.slice c.po x.p.length c.pc) x.p.length (flatR x.p)
 l:w.ownsRow N 38 2 (.slice c.lo x.l.length c.lc) x.l.length (flatR x.l)
 k:w.ownsRow N 42 3 (.slice c.ko x.k.length c.kc) x.k.length (flatR x.k)
theorem CpC.kp {ts:List TypeId}{w w':World}{N B:Nat}{c:CHd}{x:Cls} (h:CpC w N c x) (hk:Kp ts B w w') (h1:38 ∉ ts:=by decide) (h2:3 ∉ ts:=by decide):CpC w' N c x:=⟨hk.own h.f h1,hk.own h.m h2⟩
theorem CpM.kp {ts:List TypeId}{w w':World}{N B:Nat}{c:MHd}{x:Mth} (h:CpM w N c x) (hk:Kp ts B w w') (h1:38 ∉ ts:=by decide) (h2:42 ∉ ts:=by decide):CpM w' N c x:=⟨hk.own h.p h1,hk.own h.l h1,hk.own h.k h2⟩
/-- a module whose rows are all the call's own -/
structure CpAt (w:World) (N:Nat) (h:Hd) (m:Md):Prop where
 cl:w.ownsRow N 73 4 (.slice h.co m.cl.length h.cc) m.cl.length (flatR (rowsC h m))
 st:w.ownsRow N 38 2 (.slice h.so m.st.length h.sc) m.st.length (flatR m.st)
 me:w.ownsRow N 40 7 (.slice h.eo m.me.length h.ec) m.me.length (flatR (rowsM h m))
 c:∀ i,i<m.cl.length→CpC w N (h.c i) (m.cl.getD i default)
 m:∀ i,i<m.me.length→CpM w N (h.e i) (m.me.getD i default)
/-- how large a module is that can be copied -/
structure MdSm (m:Md):Prop where
 cl:m.cl.length≤1000000
 st:m.st.length≤1000000
 me:m.me.length≤1000000
 c:∀ i,i<m.cl.length→(m.cl.getD i default).f.length≤1000000∧(m.cl.getD i default).m.length≤1000000
 m:∀ i,i<m.me.length→(m.me.getD i default).p.length≤1000000∧(m.me.getD i default).l.length≤1000000∧(m.me.getD i default).k.length≤1000000
theorem own_len {w:World}{base:Nat}{e:TypeId}{size:Nat}{ao:Option Addr}{n cap:Nat}{xs:List Value} (h:w.ownsRow base e size (.slice ao n cap) n xs):n≤cap:=by
 rcases h.2 with ⟨hv,hn⟩|⟨g,c,cur,hv,_,_,hn,_⟩
 ·cases hv;omega
 ·cases hv;exact hn
theorem CpAt.at_ {w:World}{N:Nat}{h:Hd}{m:Md} (H:CpAt w N h m) (hs:MdSm m):ModAt w h m where
 cl:=RowAt.of_own (by rw [rowsC_len];exact H.cl)
 st:=RowAt.of_own H.st
 me:=RowAt.of_own (by rw [rowsM_len];exact H.me)
 f i hi:=RowAt.of_own (H.c i hi).f
 t i hi:=RowAt.of_own (H.c i hi).m
 p i hi:=RowAt.of_own (H.m i hi).p
 l i hi:=RowAt.of_own (H.m i hi).l
 k i hi:=RowAt.of_own (H.m i hi).k
 bf i hi:=own_len (H.c i hi).f
 bm i hi:=by have:=hs.m i hi;omega
 bz:=by have:=hs.cl;have:=hs.st;have:=hs.me;omega
end
section
open Go.RowKit
theorem own_made' {w:World}{b base:Nat}{e:TypeId}{size:Nat} (hb:b=w.heap.size) (h:base≤w.heap.size):(w.alloc (.cells #[] e)).ownsRow base e size (.slice (some ⟨b,0,none⟩) 0 0) 0 []:=by subst hb;exact own_made w base e size h
theorem own_old {w w':World}{base:Nat}{e:TypeId}{size:Nat}{v:Value}{n:Nat}{xs:List Value} (h:w.ownsRow base e size v n xs) (hb:Below w.heap.size w w'):w'.ownsRow base e size v n xs:=own_eqV h fun k hk=>hb.block k (h.lt k hk).2
theorem own_neT {w:World}{base:Nat}{e:TypeId}{size:Nat}{v:Value}{n:Nat}{xs:List Value} (h:w.ownsRow base e size v n xs) {b:Nat}{ys:Array Value}{t:TypeId} (hb:Blk w b ys t) (ht:e≠t):some b≠v.ownBlock:=by
 intro q
 rcases h.2 with ⟨hv,_⟩|⟨g,c,cur,hv,_,hg,_⟩
 ·rw [hv] at q;cases q
 ·rw [hv] at q
  have e':b=g:=Option.some.inj q
  subst e'
  rw [show w.heap[b]?=_ from hb] at hg
  cases hg
  exact ht rfl
theorem own_set {w:World}{base:Nat}{e:TypeId}{size:Nat}{v:Value}{n:Nat}{xs:List Value} (h:w.ownsRow base e size v n xs) {b:Nat}{ys:Array Value}{t:TypeId} (hb:Blk w b ys t) (ht:e≠t) (i:Nat) (u:Value):(w.setCell ⟨b,i,none⟩ u).ownsRow base e size v n xs:=
 ownsRow_setCell_other h (fun q=>own_neT h hb ht q.symm) u
theorem row_al {α:Type} [Cells α] {w:World}{ao:Option Addr}{cap:Nat}{l:List α} (h:RowAt w ao cap l) (o:Obj):RowAt (w.alloc o) ao cap l:=h.old ((Below.refl _ _).alloc (Nat.le_refl _) o)
theorem app_keep {w w8:World}{o:Obj}{base:Nat}{e:TypeId}{size:Nat}{v:Value}{n:Nat}{xs:List Value} (ho:w.ownsRow base e size v n xs) (hg:(w.alloc o).grownBy w8 v.ownBlock) {b:Nat}{ys:Array Value}{t:TypeId} (hb:Blk w b ys t) (ht:e≠t):Blk w8 b ys t:=Blk.grownV (hb.alloc o) hg (own_neT (ho.alloc o) (hb.alloc o) ht)
theorem rowsK_succ {α β:Type} [Inhabited α] (l:List α) (f:Nat→β) (k:Nat):rowsK l f (k+1)=rowsK l f k++[(l.getD k default,f k)]:=rfl
/-- a field is given a copy of its row: what then holds of the block (b) of the struct, of its world, of the row -/
theorem fld_copy {wr w1 w3:World}{b N:Nat}{xs:Array Value}{t e:TypeId}{size n cap:Nat}{ao:Option Addr}{ys:List Value} (i:Nat) (hN:N≤wr.heap.size) (hbl:Below wr.heap.size wr w1) (hx:Blk w1 b xs t) (hb:wr.heap.size≤b)
  (ho:w3.ownsRow N e size (.slice ao (0+n) cap) (0+n) ([]++ys)) (hg:(w1.alloc (.cells #[] e)).grownBy w3 (Value.slice (some ⟨w1.heap.size,0,none⟩) 0 0).ownBlock) (ht:e≠t) :
  ∃ w4,w4=w3.setCell ⟨b,i,none⟩ (.slice ao n cap)∧RowKit.Hid (Below wr.heap.size wr w4)∧RowKit.Hid (Blk w4 b (xs.setIfInBounds i (.slice ao n cap)) t)∧RowKit.Hid (w4.ownsRow N e size (.slice ao n cap) n ys)∧RowKit.Hid (∀ {base':Nat}{e':TypeId}{size':Nat}{v':Value}{n':Nat}{ys':List Value},w1.ownsRow base' e' size' v' n' ys'→e'≠t→w4.ownsRow base' e' size' v' n' ys')∧w3.frozen? ⟨b,i,none⟩=false∧Blk w3 b xs t:=by
 have h13:Below w1.heap.size w1 w3:=bgrown (bal (Below.refl _ _) _) hg (fun j hj=>by cases hj;exact Nat.le_refl _)
 have hx3:Blk w3 b xs t:=hx.old h13
 rw [Nat.zero_add,List.nil_append] at ho
 exact ⟨_,rfl,bsetV (bthen hbl h13) hb _,hx3.set i _,own_set ho hx3 ht _ _,fun h1 h2=>own_set (own_old h1 h13) hx3 h2 _ _,hx3.frozen i,hx3⟩
theorem copy_any (w:World) (h:Hd) (m:Md) (H:ModAt w h m) (hs:MdSm m):Calls Tryz.prog 16 #[.agg #[.slice h.co m.cl.length h.cc,.slice h.so m.st.length h.sc,.slice h.eo m.me.length h.ec,.int .i64 m.sel]] w fun e w'=>∃ h':Hd,e=.returned (.agg #[.slice h'.co m.cl.length h'.cc,.slice h'.so m.st.length h'.sc,.slice h'.eo m.me.length h'.ec,.int .i64 m.sel])∧CpAt w' w.heap.size h' m∧Below w.heap.size w w':=by
 have hX:=(Blk.new w #[.slice h.co m.cl.length h.cc,.slice h.so m.st.length h.sc,.slice h.eo m.me.length h.ec,.int .i64 m.sel] 26).alloc (.cells #[.slice none 0 0,.slice none 0 0,.slice none 0 0,.int .i64 0] 26)
 have hR:Blk ((w.alloc (.cells #[.slice h.co m.cl.length h.cc,.slice h.so m.st.length h.sc,.slice h.eo m.me.length h.ec,.int .i64 m.sel] 26)).alloc (.cells #[.slice none 0 0,.slice none 0 0,.slice none 0 0,.int .i64 0] 26)) (w.heap.size+1) #[.slice none 0 0,.slice none 0 0,.slice none 0 0,.int .i64 0] 26:=Blk.new' _ _ (by simp)
 have hb0:Below w.heap.size w ((w.alloc (.cells #[.slice h.co m.cl.length h.cc,.slice h.so m.st.length h.sc,.slice h.eo m.me.length h.ec,.int .i64 m.sel] 26)).alloc (.cells #[.slice none 0 0,.slice none 0 0,.slice none 0 0,.int .i64 0] 26)):=by exact bE
 have hs1:=hs.st
 have HM:=Lib.hid H
 have HSm:=Lib.hid hs
 clear H hs
 obtain ⟨co,cc,so,sc,eo,ec,hc,he⟩:=h
 dsimp only at hX hR hb0 HM ⊢
 have hsz:((w.alloc (.cells #[.slice co m.cl.length cc,.slice so m.st.length sc,.slice eo m.me.length ec,.int .i64 m.sel] 26)).alloc (.cells #[.slice none 0 0,.slice none 0 0,.slice none 0 0,.int .i64 0] 26)).heap.size=w.heap.size+2:=by simp
 obtain ⟨W0,hW0⟩:∃ W0,W0=(w.alloc (.cells #[.slice co m.cl.length cc,.slice so m.st.length sc,.slice eo m.me.length ec,.int .i64 m.sel] 26)).alloc (.cells #[.slice none 0 0,.slice none 0 0,.slice none 0 0,.int .i64 0] 26):=⟨_,rfl⟩
 rw [←hW0] at hX hR hb0 hsz
 have HX:=Lib.hid hX
 have HR:=Lib.hid hR
 have HB0:=Lib.hid hb0
 have HSz:=Lib.hid hsz
 have HW:=Lib.hid hW0
 clear hX hR hb0 hsz hW0
 go_enter Tryz.func16,Tryz.ntmps16
 go_upto_region 1 with fail
 rw [←HW.out]
 rename_i K hK
 have key:∀ (OB:Nat) (wz:World) (u8 u9 u10 u11 u12 u13 u14:Value) (so':Option Addr) (sc':Nat),Below W0.heap.size W0 wz→OB≠w.heap.size→OB≠w.heap.size+1→w.heap.size≤OB→Blk wz OB #[.slice none 0 0,.slice so' m.st.length sc',.slice none 0 0,.int .i64 m.sel] 26→wz.ownsRow w.heap.size 38 2 (.slice so' m.st.length sc') m.st.length (flatR m.st)→K { tmps:=#[.agg #[.slice co m.cl.length cc,.slice so m.st.length sc,.slice eo m.me.length ec,.int .i64 m.sel],.pointer (some ⟨w.heap.size,0,none⟩),.pointer (some ⟨w.heap.size+1,0,none⟩),.pointer (some ⟨OB,0,none⟩),undef,undef,undef,undef,u8,u9,u10,u11,u12,u13,u14,undef,undef,undef,undef,undef,undef,undef,undef,undef,undef,undef,undef,undef,undef,undef,undef,undef,undef,undef,undef,undef,undef,undef,undef,undef,undef,undef,undef,undef,undef,undef,undef,undef,undef,undef,undef,undef,undef,undef,undef,undef,undef,undef,undef,undef,undef,undef,undef,undef,undef,undef,undef,undef,undef,undef,undef,undef,undef,undef,undef,undef,undef],defers:=[] } wz:=by
  intro OB wz u8 u9 u10 u11 u12 u13 u14 so' sc' hbz hne0 hne1 hle hob host
  refine hK _ _ ?_
  clear hK
  go_wp2_with fail
  go_loopw [4] (fun i wr=>∃ (k:Nat) (c':Nat→CHd) (co':Option Addr) (cc':Nat),k≤m.cl.length∧i=.int .i64 k∧Below w.heap.size w wr∧Blk wr w.heap.size #[.slice co m.cl.length cc,.slice so m.st.length sc,.slice eo m.me.length ec,.int .i64 m.sel] 26∧Blk wr (w.heap.size+1) #[.slice none 0 0,.slice none 0 0,.slice none 0 0,.int .i64 0] 26∧Blk wr OB #[.slice co' k cc',.slice so' m.st.length sc',.slice none 0 0,.int .i64 m.sel] 26∧wr.ownsRow w.heap.size 73 4 (.slice co' k cc') k (flatR (rowsK m.cl c' k))∧(∀ i,i<k→CpC wr w.heap.size (c' i) (m.cl.getD i default))∧wr.ownsRow w.heap.size 38 2 (.slice so' m.st.length sc') m.st.length (flatR m.st)) (fun i _=>m.cl.length-(intOf i).toNat)
  case atStart=>exact ⟨0,fun _=>default,none,0,by omega,rfl,bthen HB0.out hbz,HX.out.old hbz,HR.out.old hbz,hob,World.ownsRow_nil _ _ _ _,fun i hi=>by omega,host⟩
  case round=>
   obtain ⟨k,c',co',cc',hk,rfl,hbw,hbx,hbr,hbo,hrow,hcp,hold⟩:=hrel
   have hN:w.heap.size≤wr.heap.size:=hbw.size
   have x0:=hbx.cell 0 (v:=.slice co m.cl.length cc) rfl
   have xl:=hbx.lt
   have HBw:=Lib.hid hbw
   have HBx:=Lib.hid hbx
   have HBr:=Lib.hid hbr
   have HBo:=Lib.hid hbo
   have HRow:=Lib.hid hrow
   have HCp:=Lib.hid hcp
   have HOl:=Lib.hid hold
   clear hbw hbx hbr hbo hrow hcp hold
   by_cases hkl:k<m.cl.length
   ·obtain ⟨ad,had,d0,d1,d2,d3⟩:=(HM.out.old HBw.out).cls hkl
    dsimp only at had
    subst had
    have hkn:(k:Int) < m.cl.length:=by omega
    have hwr:IntKind.i64.wrap ((k:Int)+1)=k+1:=IntWalk.i64_in _ (by have:=HSm.out.cl;omega)
    have hsz:=HSm.out.c k hkl
    have hr2:=(HM.out.old HBw.out).f k hkl
    have hr3:=(HM.out.old HBw.out).t k hkl
    dsimp only at hr2 hr3 d0 d1 d2 d3
    have hxk:m.cl.getD k default=m.cl.getD k default:=rfl
    generalize hxe:m.cl.getD k default=x at d0 d1 d2 d3 hsz hr2 hr3
    have HXe:=Lib.hid hxe
    generalize hc k=y at d0 d1 d2 d3 hr2 hr3
    obtain ⟨nm,sp,fl,ml⟩:=x
    obtain ⟨fo,fc,mo,mc⟩:=y
    dsimp only at d0 d1 d2 d3 hsz hr2 hr3
    have HR2:=Lib.hid hr2
    have HR3:=Lib.hid hr3
    clear hxe hxk hr2 hr3
    go_upto_region 6 with fail
    have hx1:=Blk.new wr #[.string nm,.int .i64 sp,.slice fo fl.length fc,.slice mo ml.length mc] 73
    have hb1:Below wr.heap.size wr (wr.alloc (.cells #[.string nm,.int .i64 sp,.slice fo fl.length fc,.slice mo ml.length mc] 73)):=by exact bE
    have hz1:(wr.alloc (.cells #[.string nm,.int .i64 sp,.slice fo fl.length fc,.slice mo ml.length mc] 73)).heap.size=wr.heap.size+1:=by simp
    generalize wr.alloc _=w1 at hx1 hb1 hz1 ⊢
    obtain ⟨B,hB⟩:∃ B,B=wr.heap.size:=⟨_,rfl⟩
    have hBl:wr.heap.size≤B:=by omega
    rw [←hB] at hx1 ⊢
    have HBl:=Lib.hid hBl
    have HB1:=Lib.hid hb1
    have HX1:=Lib.hid hx1
    clear hx1 hb1 hz1 hB hBl d0 d1 d2 d3 x0
    have y2:=HX1.out.cell 2 (v:=.slice fo fl.length fc) rfl
    have yl:=HX1.out.lt
    go_upto_region 7 with (at_builtin;refine wpList_append_sl rfl (.tmp 27) (.tmp 29) 23 rfl w.heap.size 38 2 16 elTyV _ 0 [] rfl (own_made' rfl (Nat.le_trans hN HB1.out.size)) _ _ _ _ rfl (row_al (RowAt.old HR2.out HB1.out) _) (flatR_oneC _) (by omega) (by unfold maxLen;omega) (by have:=HB1.out.size;simp;omega) ?_;intro ao2 ac2 w3 hown hg;obtain ⟨w4,hw4,HB2,HX2,HF2,HG2,hfz,hx3⟩:=fld_copy 2 hN HB1.out HX1.out HBl.out hown hg (by decide);have z2:=hx3.cell 2 (v:=.slice fo fl.length fc) rfl;clear hown hg hx3)
    try simp only [Nat.zero_add]
    rw [←hw4]
    clear hw4 hfz yl y2 z2
    have y3:=HX2.out.cell 3 (v:=.slice mo ml.length mc) rfl
    have yl:=HX2.out.lt
    go_upto_region 8 with (at_builtin;refine wpList_append_sl rfl (.tmp 32) (.tmp 34) 51 rfl w.heap.size 3 1 8 elIntV _ 0 [] rfl (own_made' rfl (Nat.le_trans hN HB2.out.size)) _ _ _ _ rfl (row_al (RowAt.old HR3.out HB2.out) _) (flatR_oneC _) (by omega) (by unfold maxLen;omega) (by have:=HB2.out.size;simp;omega) ?_;intro ao3 ac3 w3 hown hg;obtain ⟨w4,hw4,HB3,HX3,HF3,HG3,hfz,hx3⟩:=fld_copy 3 hN HB2.out HX2.out HBl.out hown hg (by decide);have z3:=hx3.cell 3 (v:=.slice mo ml.length mc) rfl;clear hown hg hx3)
    try simp only [Nat.zero_add]
    rw [←hw4]
    clear hw4 hfz yl y3 z3
    have HE2:=Lib.hid (HG3.out HF2.out (by decide))
    have HE3:=HF3
    have y0:=HX3.out.cell 0 (v:=.string nm) rfl
    have y1:=HX3.out.cell 1 (v:=.int .i64 sp) rfl
    have y2:=HX3.out.cell 2 (v:=.slice ao2 fl.length ac2) rfl
    have y3:=HX3.out.cell 3 (v:=.slice ao3 ml.length ac3) rfl
    have yl:=HX3.out.lt
    have hob4:=HBo.out.old HB3.out
    have o0:=hob4.cell 0 (v:=.slice co' k cc') rfl
    have ol:=hob4.lt
    have HO4:=Lib.hid (own_old HRow.out HB3.out)
    go_upto_region 4 with (at_builtin;refine wpList_append_sl rfl (.tmp 38) (.tmp 40) 22 rfl w.heap.size 73 4 72 elCls _ k _ rfl (HO4.out.alloc _) _ 1 1 [.string nm,.int .i64 sp,.slice ao2 fl.length ac2,.slice ao3 ml.length ac3] rfl (sla_blkV (Blk.new' #[.string nm,.int .i64 sp,.slice ao2 fl.length ac2,.slice ao3 ml.length ac3] 73 (by simp)) rfl) (by intro u hu;simp only [List.mem_cons,List.not_mem_nil,or_false] at hu;rcases hu with rfl|rfl|rfl|rfl<;>rfl) (by have:=HSm.out.cl;omega) (by have:=HSm.out.cl;unfold maxLen;omega) (by have:=HB3.out.size;simp;omega) ?_;intro ro2 rc2 w8 hown8 hg8;have hob8:=app_keep HO4.out hg8 hob4 (by decide);have z0:=hob8.cell 0 (v:=.slice co' k cc') rfl;have zf:=hob8.frozen 0;have zl:=hob8.lt;have HO8:=Lib.hid hown8;have HG8:=Lib.hid hg8;have HB8:=Lib.hid hob8;clear hown8 hg8 hob8)
    have hkp2:Kp [26,73] w.heap.size w4 (w8.setCell ⟨OB,0,none⟩ (.slice ro2 (k+1) rc2)):=((Kp.of (bal (Below.refl _ _) _) (Nat.le_trans hN HB3.out.size)).trans (Kp.grown (HO4.out.alloc _) HG8.out (Nat.le_refl _) (by have:=HB3.out.size;simp;omega) (by decide))).set HB8.out (by decide) hle 0 _
    have hkp:=(Kp.of HB3.out hN).trans hkp2
    have hA:=Blk.other (app_keep HO4.out HG8.out (HBx.out.old HB3.out) (by decide)) (a:=⟨OB,0,none⟩) hne0.symm (.slice ro2 (k+1) rc2)
    have hR:=Blk.other (app_keep HO4.out HG8.out (HBr.out.old HB3.out) (by decide)) (a:=⟨OB,0,none⟩) hne1.symm (.slice ro2 (k+1) rc2)
    have HK2:=Lib.hid hkp2
    have HK:=Lib.hid hkp
    have HA:=Lib.hid hA
    have HR:=Lib.hid hR
    clear hkp2 hkp hA hR y0 y1 y2 y3 o0 ol hob4 z0 zf zl yl
    go_wp2
    go_roundw
    case rel=>
     refine ⟨k+1,fun i=>if i=k then ⟨ao2,ac2,ao3,ac3⟩ else c' i,ro2,rc2,by omega,by go_num,HBw.out.trans HK.out.bw,HA.out,HR.out,HB8.out.set 0 _,?_,fun i hi=>?_,HK.out.own HOl.out⟩
     ·have h9:=own_set HO8.out HB8.out (by decide) 0 (.slice ro2 (k+1) rc2)
      have e:flatR (rowsK m.cl (fun i=>if i=k then ⟨ao2,ac2,ao3,ac3⟩ else c' i) (k+1))=flatR (rowsK m.cl c' k)++[.string nm,.int .i64 sp,.slice ao2 fl.length ac2,.slice ao3 ml.length ac3]:=by
       rw [rowsK_succ,flatR_append,flatR_one,rowsK_congr m.cl (g:=c') k (fun i hi=>if_neg (by omega)),HXe.out,if_pos rfl]
       rfl
      rw [e]
      exact h9
     ·by_cases hik:i=k
      ·subst hik
       show CpC _ _ (if i=i then _ else _) _
       rw [if_pos rfl,HXe.out]
       exact (⟨HE2.out,HE3.out⟩:CpC w4 _ _ _).kp HK2.out
      ·show CpC _ _ (if i=k then _ else _) _
       rw [if_neg hik]
       exact (HCp.out i (by omega)).kp HK.out
    case measure=>simp [intOf];omega
   ·have hkn:¬ (k:Int) < m.cl.length:=by omega
    obtain rfl:k=m.cl.length:=by omega
    go_wp2_with fail
    go_loopw [6] (fun i wr=>∃ (k:Nat) (e':Nat→MHd) (eo':Option Addr) (ec':Nat),k≤m.me.length∧i=.int .i64 k∧Below w.heap.size w wr∧Blk wr w.heap.size #[.slice co m.cl.length cc,.slice so m.st.length sc,.slice eo m.me.length ec,.int .i64 m.sel] 26∧Blk wr (w.heap.size+1) #[.slice none 0 0,.slice none 0 0,.slice none 0 0,.int .i64 0] 26∧Blk wr OB #[.slice co' m.cl.length cc',.slice so' m.st.length sc',.slice eo' k ec',.int .i64 m.sel] 26∧wr.ownsRow w.heap.size 40 7 (.slice eo' k ec') k (flatR (rowsK m.me e' k))∧(∀ i,i<k→CpM wr w.heap.size (e' i) (m.me.getD i default))∧wr.ownsRow w.heap.size 73 4 (.slice co' m.cl.length cc') m.cl.length (flatR (rowsK m.cl c' m.cl.length))∧(∀ i,i<m.cl.length→CpC wr w.heap.size (c' i) (m.cl.getD i default))∧wr.ownsRow w.heap.size 38 2 (.slice so' m.st.length sc') m.st.length (flatR m.st)) (fun i _=>m.me.length-(intOf i).toNat)
    case atStart=>exact ⟨0,fun _=>default,none,0,by omega,rfl,HBw.out,HBx.out,HBr.out,HBo.out,World.ownsRow_nil _ _ _ _,fun i hi=>by omega,HRow.out,HCp.out,HOl.out⟩
    case round=>
     obtain ⟨k,e',eo',ec',hk,rfl,hbw,hbx,hbr,hbo,hrow,hcp,hold⟩:=hrel
     have hN:w.heap.size≤wr.heap.size:=hbw.size
     have x0:=hbx.cell 2 (v:=.slice eo m.me.length ec) rfl
     have xl:=hbx.lt
     have HBw:=Lib.hid hbw
     have HBx:=Lib.hid hbx
     have HBr:=Lib.hid hbr
     have HBo:=Lib.hid hbo
     have HRow:=Lib.hid hrow
     have HCp:=Lib.hid hcp
     have HOl:=Lib.hid hold
     clear hbw hbx hbr hbo hrow hcp hold
     by_cases hkl:k<m.me.length
     ·obtain ⟨ad,had,d0,d1,d2,d3,d4,d5,d6⟩:=(HM.out.old HBw.out).mth hkl
      dsimp only at had
      subst had
      have hkn:(k:Int) < m.me.length:=by omega
      have hwr:IntKind.i64.wrap ((k:Int)+1)=k+1:=IntWalk.i64_in _ (by have:=HSm.out.me;omega)
      have hsz:=HSm.out.m k hkl
      have hr2:=(HM.out.old HBw.out).p k hkl
      have hr3:=(HM.out.old HBw.out).l k hkl
      have hr6:=(HM.out.old HBw.out).k k hkl
      dsimp only at hr2 hr3 hr6 d0 d1 d2 d3 d4 d5 d6
      have hxk:m.me.getD k default=m.me.getD k default:=rfl
      generalize hxe:m.me.getD k default=x at d0 d1 d2 d3 d4 d5 d6 hsz hr2 hr3 hr6
      have HXe:=Lib.hid hxe
      generalize he k=y at d0 d1 d2 d3 d4 d5 d6 hr2 hr3 hr6
      obtain ⟨nm,mc,pl,ll,⟨rk,rq⟩,kl⟩:=x
      obtain ⟨po,pc,lo,lc,ko,kc⟩:=y
      dsimp only at d0 d1 d2 d3 d4 d5 d6 hsz hr2 hr3 hr6
      have HR2:=Lib.hid hr2
      have HR3:=Lib.hid hr3
      have HR6:=Lib.hid hr6
      clear hxe hxk hr2 hr3 hr6
      go_upto_region 13 with fail
      have hx1:=Blk.new wr #[.string nm,.int .i64 mc,.slice po pl.length pc,.slice lo ll.length lc,.int .i64 rk,.int .i64 rq,.slice ko kl.length kc] 40
      have hb1:Below wr.heap.size wr (wr.alloc (.cells #[.string nm,.int .i64 mc,.slice po pl.length pc,.slice lo ll.length lc,.int .i64 rk,.int .i64 rq,.slice ko kl.length kc] 40)):=by exact bE
      have hz1:(wr.alloc (.cells #[.string nm,.int .i64 mc,.slice po pl.length pc,.slice lo ll.length lc,.int .i64 rk,.int .i64 rq,.slice ko kl.length kc] 40)).heap.size=wr.heap.size+1:=by simp
      generalize wr.alloc _=w1 at hx1 hb1 hz1 ⊢
      obtain ⟨B,hB⟩:∃ B,B=wr.heap.size:=⟨_,rfl⟩
      have hBl:wr.heap.size≤B:=by omega
      rw [←hB] at hx1 ⊢
      have HBl:=Lib.hid hBl
      have HB1:=Lib.hid hb1
      have HX1:=Lib.hid hx1
      clear hx1 hb1 hz1 hB hBl d0 d1 d2 d3 d4 d5 d6 x0
      have y2:=HX1.out.cell 2 (v:=.slice po pl.length pc) rfl
      have yl:=HX1.out.lt
      go_upto_region 14 with (at_builtin;refine wpList_append_sl rfl (.tmp 55) (.tmp 57) 23 rfl w.heap.size 38 2 16 elTyV _ 0 [] rfl (own_made' rfl (Nat.le_trans hN HB1.out.size)) _ _ _ _ rfl (row_al (RowAt.old HR2.out HB1.out) _) (flatR_oneC _) (by omega) (by unfold maxLen;omega) (by have:=HB1.out.size;simp;omega) ?_;intro ao2 ac2 w3 hown hg;obtain ⟨w4,hw4,HB2,HX2,HF2,HG2,hfz,hx3⟩:=fld_copy 2 hN HB1.out HX1.out HBl.out hown hg (by decide);have z2:=hx3.cell 2 (v:=.slice po pl.length pc) rfl;clear hown hg hx3)
      try simp only [Nat.zero_add]
      rw [←hw4]
      clear hw4 hfz yl y2 z2
      have y3:=HX2.out.cell 3 (v:=.slice lo ll.length lc) rfl
      have yl:=HX2.out.lt
      go_upto_region 15 with (at_builtin;refine wpList_append_sl rfl (.tmp 60) (.tmp 62) 23 rfl w.heap.size 38 2 16 elTyV _ 0 [] rfl (own_made' rfl (Nat.le_trans hN HB2.out.size)) _ _ _ _ rfl (row_al (RowAt.old HR3.out HB2.out) _) (flatR_oneC _) (by omega) (by unfold maxLen;omega) (by have:=HB2.out.size;simp;omega) ?_;intro ao3 ac3 w3 hown hg;obtain ⟨w4,hw4,HB3,HX3,HF3,HG3,hfz,hx3⟩:=fld_copy 3 hN HB2.out HX2.out HBl.out hown hg (by decide);have z3:=hx3.cell 3 (v:=.slice lo ll.length lc) rfl;clear hown hg hx3)
      try simp only [Nat.zero_add]
      rw [←hw4]
      clear hw4 hfz yl y3 z3
      have y6:=HX3.out.cell 6 (v:=.slice ko kl.length kc) rfl
      have yl:=HX3.out.lt
      go_upto_region 16 with (at_builtin;refine wpList_append_sl rfl (.tmp 65) (.tmp 67) 36 rfl w.heap.size 42 3 24 elIn3 _ 0 [] rfl (own_made' rfl (Nat.le_trans hN HB3.out.size)) _ _ _ _ rfl (row_al (RowAt.old HR6.out HB3.out) _) (flatR_oneC _) (by omega) (by unfold maxLen;omega) (by have:=HB3.out.size;simp;omega) ?_;intro ao6 ac6 w3 hown hg;obtain ⟨w4,hw4,HB4,HX4,HF6,HG6,hfz,hx3⟩:=fld_copy 6 hN HB3.out HX3.out HBl.out hown hg (by decide);have z6:=hx3.cell 6 (v:=.slice ko kl.length kc) rfl;clear hown hg hx3)
      try simp only [Nat.zero_add]
      rw [←hw4]
      clear hw4 hfz yl y6 z6
      have HE2:=Lib.hid (HG6.out (HG3.out HF2.out (by decide)) (by decide))
      have HE3:=Lib.hid (HG6.out HF3.out (by decide))
      have HE6:=HF6
      have y0:=HX4.out.cell 0 (v:=.string nm) rfl
      have y1:=HX4.out.cell 1 (v:=.int .i64 mc) rfl
      have y2:=HX4.out.cell 2 (v:=.slice ao2 pl.length ac2) rfl
      have y3:=HX4.out.cell 3 (v:=.slice ao3 ll.length ac3) rfl
      have y4:=HX4.out.cell 4 (v:=.int .i64 rk) rfl
      have y5:=HX4.out.cell 5 (v:=.int .i64 rq) rfl
      have y6:=HX4.out.cell 6 (v:=.slice ao6 kl.length ac6) rfl
      have yl:=HX4.out.lt
      have hob4:=HBo.out.old HB4.out
      have o0:=hob4.cell 2 (v:=.slice eo' k ec') rfl
      have ol:=hob4.lt
      have HO4:=Lib.hid (own_old HRow.out HB4.out)
      go_upto_region 11 with (at_builtin;refine wpList_append_sl rfl (.tmp 71) (.tmp 73) 24 rfl w.heap.size 40 7 112 elMth _ k _ rfl (HO4.out.alloc _) _ 1 1 [.string nm,.int .i64 mc,.slice ao2 pl.length ac2,.slice ao3 ll.length ac3,.int .i64 rk,.int .i64 rq,.slice ao6 kl.length ac6] rfl (sla_blkV (Blk.new' #[.string nm,.int .i64 mc,.slice ao2 pl.length ac2,.slice ao3 ll.length ac3,.int .i64 rk,.int .i64 rq,.slice ao6 kl.length ac6] 40 (by simp)) rfl) (by intro u hu;simp only [List.mem_cons,List.not_mem_nil,or_false] at hu;rcases hu with rfl|rfl|rfl|rfl|rfl|rfl|rfl<;>rfl) (by have:=HSm.out.me;omega) (by have:=HSm.out.me;unfold maxLen;omega) (by have:=HB4.out.size;simp;omega) ?_;intro ro2 rc2 w8 hown8 hg8;have hob8:=app_keep HO4.out hg8 hob4 (by decide);have z0:=hob8.cell 2 (v:=.slice eo' k ec') rfl;have zf:=hob8.frozen 2;have zl:=hob8.lt;have HO8:=Lib.hid hown8;have HG8:=Lib.hid hg8;have HB8:=Lib.hid hob8;clear hown8 hg8 hob8)
      have hkp2:Kp [26,40] w.heap.size w4 (w8.setCell ⟨OB,2,none⟩ (.slice ro2 (k+1) rc2)):=((Kp.of (bal (Below.refl _ _) _) (Nat.le_trans hN HB4.out.size)).trans (Kp.grown (HO4.out.alloc _) HG8.out (Nat.le_refl _) (by have:=HB4.out.size;simp;omega) (by decide))).set HB8.out (by decide) hle 2 _
      have hkp:=(Kp.of HB4.out hN).trans hkp2
      have hA:=Blk.other (app_keep HO4.out HG8.out (HBx.out.old HB4.out) (by decide)) (a:=⟨OB,2,none⟩) hne0.symm (.slice ro2 (k+1) rc2)
      have hR:=Blk.other (app_keep HO4.out HG8.out (HBr.out.old HB4.out) (by decide)) (a:=⟨OB,2,none⟩) hne1.symm (.slice ro2 (k+1) rc2)
      have HK2:=Lib.hid hkp2
      have HK:=Lib.hid hkp
      have HA:=Lib.hid hA
      have HR:=Lib.hid hR
      clear hkp2 hkp hA hR y0 y1 y2 y3 y4 y5 y6 o0 ol hob4 z0 zf zl yl
      go_wp2
      go_roundw
      case rel=>
       refine ⟨k+1,fun i=>if i=k then ⟨ao2,ac2,ao3,ac3,ao6,ac6⟩ else e' i,ro2,rc2,by omega,by go_num,HBw.out.trans HK.out.bw,HA.out,HR.out,HB8.out.set 2 _,?_,fun i hi=>?_,HK.out.own HOl.out.1,fun i hi=>(HOl.out.2.1 i hi).kp HK.out,HK.out.own HOl.out.2.2⟩
       ·have h9:=own_set HO8.out HB8.out (by decide) 2 (.slice ro2 (k+1) rc2)
        have e:flatR (rowsK m.me (fun i=>if i=k then ⟨ao2,ac2,ao3,ac3,ao6,ac6⟩ else e' i) (k+1))=flatR (rowsK m.me e' k)++[.string nm,.int .i64 mc,.slice ao2 pl.length ac2,.slice ao3 ll.length ac3,.int .i64 rk,.int .i64 rq,.slice ao6 kl.length ac6]:=by
         rw [rowsK_succ,flatR_append,flatR_one,rowsK_congr m.me (g:=e') k (fun i hi=>if_neg (by omega)),HXe.out,if_pos rfl]
         rfl
        rw [e]
        exact h9
       ·by_cases hik:i=k
        ·subst hik
         show CpM _ _ (if i=i then _ else _) _
         rw [if_pos rfl,HXe.out]
         exact (⟨HE2.out,HE3.out,HE6.out⟩:CpM w4 _ _ _).kp HK2.out
        ·show CpM _ _ (if i=k then _ else _) _
         rw [if_neg hik]
         exact (HCp.out i (by omega)).kp HK.out
      case measure=>simp [intOf];omega
     ·have hkn:¬ (k:Int) < m.me.length:=by omega
      obtain rfl:k=m.me.length:=by omega
      have hbo:=HBo.out
      have hbr:=HBr.out
      have o0:=hbo.cell 0 (v:=.slice co' m.cl.length cc') rfl
      have o1:=hbo.cell 1 (v:=.slice so' m.st.length sc') rfl
      have o2:=hbo.cell 2 (v:=.slice eo' m.me.length ec') rfl
      have o3:=hbo.cell 3 (v:=.int .i64 m.sel) rfl
      have r0:=hbr.cell 0 (v:=.slice none 0 0) rfl
      have r1:=hbr.cell 1 (v:=.slice none 0 0) rfl
      have r2:=hbr.cell 2 (v:=.slice none 0 0) rfl
      have r3:=hbr.cell 3 (v:=.int .i64 0) rfl
      have f0:=hbr.frozen 0
      have f1:=hbr.frozen 1
      have f2:=hbr.frozen 2
      have f3:=hbr.frozen 3
      have hl:=hbr.lt
      have hk:=(((((Kp.refl [26] w.heap.size wr).set hbr (by decide) (Nat.le_succ _) 0 (.slice co' m.cl.length cc')).set (hbr.set 0 _) (by decide) (Nat.le_succ _) 1 (.slice so' m.st.length sc')).set ((hbr.set 0 _).set 1 _) (by decide) (Nat.le_succ _) 2 (.slice eo' m.me.length ec')).set (((hbr.set 0 _).set 1 _).set 2 _) (by decide) (Nat.le_succ _) 3 (.int .i64 m.sel))
      have HKf:=Lib.hid hk
      clear hbo hbr hk
      go_wp2
      refine bodyPost_ret (v:=.agg #[.slice co' m.cl.length cc',.slice so' m.st.length sc',.slice eo' m.me.length ec',.int .i64 m.sel]) (by simp [results,Tryz.results16,go_sem,r0,r1,r2,r3]) rfl ?_
      refine ⟨⟨co',cc',so',sc',eo',ec',c',e'⟩,rfl,⟨?_,HKf.out.own HOl.out.2.2,?_,fun i hi=>(HOl.out.2.1 i hi).kp HKf.out,fun i hi=>(HCp.out i hi).kp HKf.out⟩,HBw.out.trans HKf.out.bw⟩
      ·have h9:=HKf.out.own HOl.out.1
       rw [rowsK_all] at h9
       exact h9
      ·have h9:=HKf.out.own HRow.out
       rw [rowsK_all] at h9
       exact h9
 clear hK
 have HS:=Lib.hid (show ∀ w',Below W0.heap.size W0 w'→Cs [(⟨w.heap.size,1,none⟩,.slice so m.st.length sc),(⟨w.heap.size,3,none⟩,.int .i64 m.sel)] w' from fun w' hb=>⟨(HX.out.old hb).cell 1 rfl,(HX.out.old hb).cell 3 rfl,trivial⟩)
 refine rO (Cs [(⟨w.heap.size,1,none⟩,.slice so m.st.length sc),(⟨w.heap.size,3,none⟩,.int .i64 m.sel)]) (.plain 0 (.plain 1 (.plain 3 (.plain 4 (.two 2 7 (.two 5 7 (.plain 6 (.one 7 (.one 8 .done))) (.one 5 (.plain 6 (.one 8 .done)))) (.one 2 (.one 5 (.plain 6 (.one 8 .done))))))))) (HS.out _ (Below.drew (Below.refl _ _))) ?_
 repeat refine pO ?_
 have hd0:Below W0.heap.size W0 W0.drew:=Below.drew (Below.refl _ _)
 have HDz:=Lib.hid (show W0.drew.heap.size=W0.heap.size from rfl)
 generalize W0.drew=w1 at hd0 HDz ⊢
 refine wpMixO_two (wpOp_one _ (by rfl) (by rfl) fun Kv hK=>?_) (wpOp_one _ (by rfl) (by rfl) fun Kv hK=>?_)
 ·go_simp
  have hb2:Below W0.heap.size W0 (w1.alloc (.cells #[] 38)):=bal hd0 _
  have ho2:(w1.alloc (.cells #[] 38)).ownsRow w.heap.size 38 2 (.slice (some ⟨w1.heap.size,0,none⟩) 0 0) 0 []:=own_made' rfl (by have:=HDz.out;have:=HSz.out;omega)
  have HZ2:=Lib.hid (show (w1.alloc (.cells #[] 38)).heap.size=w1.heap.size+1 by simp)
  refine hK _ _ ⟨HS.out _ hb2,?_⟩
  clear hK Kv
  generalize w1.alloc _=w2 at hb2 ho2 HZ2 ⊢
  generalize w1.heap.size=g at ho2 HZ2 HDz ⊢
  refine wpMixO_two (wpOp_one _ (by rfl) (by rfl) fun Kv hK=>?_) (wpOp_one _ (by rfl) (by rfl) fun Kv hK=>?_)
  ·refine wp_append_slx (.tmp 10) (.tmp 12) 23 rfl w.heap.size 38 2 16 elTyV _ 0 [] rfl ho2 _ _ _ _ rfl (RowAt.old HM.out.st (bthen HB0.out hb2)) (flatR_oneC _) (by omega) (by unfold maxLen;omega) (by have:=HSz.out;have:=(hb2).size;omega) ?_
   intro ao ac w3 hown hg
   rw [Nat.zero_add,List.nil_append] at hown
   have hb3:Below W0.heap.size W0 w3:=bgrown hb2 hg (fun j hj=>by cases hj;show W0.heap.size≤g;have:=HDz.out;omega)
   refine hK _ _ ⟨HS.out _ hb3,?_⟩
   clear hK Kv hg
   repeat refine pO ?_
   refine oO fun Kv hK=>?_
   go_simp
   have hb4:Below W0.heap.size W0 (w3.alloc (.cells #[.slice none 0 0,.slice none 0 0,.slice none 0 0,.int .i64 0] 26)):=bal hb3 _
   have hz4:=Blk.new w3 #[.slice none 0 0,.slice none 0 0,.slice none 0 0,.int .i64 0] 26
   have ho4:=hown.alloc (.cells #[.slice none 0 0,.slice none 0 0,.slice none 0 0,.int .i64 0] 26)
   have hle0:W0.heap.size≤w3.heap.size:=hb3.size
   refine hK _ _ ⟨HS.out _ hb4,?_⟩
   clear hK Kv
   generalize w3.alloc _=w4 at hb4 hz4 ho4 ⊢
   generalize w3.heap.size=OB at hz4 hle0 ⊢
   have z0:=hz4.cell 0 (v:=.slice none 0 0) rfl
   have f0:=hz4.frozen 0
   have z1:=hz4.cell 1 (v:=.slice none 0 0) rfl
   have f1:=hz4.frozen 1
   have z2:=hz4.cell 2 (v:=.slice none 0 0) rfl
   have f2:=hz4.frozen 2
   have z3:=hz4.cell 3 (v:=.int .i64 0) rfl
   have f3:=hz4.frozen 3
   have zl:=hz4.lt
   refine oO fun Kv hK=>?_
   go_simp
   refine hK _ _ ⟨HS.out _ (bsetV (bsetV (bsetV (bsetV hb4 hle0 _) hle0 _) hle0 _) hle0 _),?_⟩
   refine wpMixO_done ?_
   exact key OB _ _ _ _ _ _ _ _ ao ac (bsetV (bsetV (bsetV (bsetV hb4 hle0 _) hle0 _) hle0 _) hle0 _) (by have:=HSz.out;omega) (by have:=HSz.out;omega) (by have:=HSz.out;omega) ((((hz4.set 0 (.slice none 0 0)).set 1 (.slice ao m.st.length ac)).set 2 (.slice none 0 0)).set 3 (.int .i64 m.sel)) (own_set (own_set (own_set (own_set ho4 hz4 (by decide) 0 (.slice none 0 0)) (hz4.set 0 (.slice none 0 0)) (by decide) 1 (.slice ao m.st.length ac)) ((hz4.set 0 (.slice none 0 0)).set 1 (.slice ao m.st.length ac)) (by decide) 2 (.slice none 0 0)) (((hz4.set 0 (.slice none 0 0)).set 1 (.slice ao m.st.length ac)).set 2 (.slice none 0 0)) (by decide) 3 (.int .i64 m.sel))
  ·go_simp
   have hb4:Below W0.heap.size W0 (w2.alloc (.cells #[.slice none 0 0,.slice none 0 0,.slice none 0 0,.int .i64 0] 26)):=bal hb2 _
   have hz4:=Blk.new w2 #[.slice none 0 0,.slice none 0 0,.slice none 0 0,.int .i64 0] 26
   have ho4:=ho2.alloc (.cells #[.slice none 0 0,.slice none 0 0,.slice none 0 0,.int .i64 0] 26)
   have hle0:W0.heap.size≤w2.heap.size:=hb2.size
   have HNe:=Lib.hid (show g≠w2.heap.size by have:=HZ2.out;omega)
   refine hK _ _ ⟨HS.out _ hb4,?_⟩
   clear hK Kv
   generalize w2.alloc _=w4 at hb4 hz4 ho4 ⊢
   generalize w2.heap.size=OB at hz4 hle0 HNe ⊢
   refine oO fun Kv hK=>?_
   refine wp_append_slx (.tmp 10) (.tmp 12) 23 rfl w.heap.size 38 2 16 elTyV _ 0 [] rfl ho4 _ _ _ _ rfl (RowAt.old HM.out.st (bthen HB0.out hb4)) (flatR_oneC _) (by omega) (by unfold maxLen;omega) (by have:=HSz.out;have:=(hb4).size;omega) ?_
   intro ao ac w5 hown hg
   rw [Nat.zero_add,List.nil_append] at hown
   have hb5:Below W0.heap.size W0 w5:=bgrown hb4 hg (fun j hj=>by cases hj;show W0.heap.size≤g;have:=HDz.out;omega)
   have hz5:=Blk.grownV hz4 hg (own_neT ho4 hz4 (by decide))
   refine hK _ _ ⟨HS.out _ hb5,?_⟩
   clear hK Kv hg
   repeat refine pO ?_
   have z0:=hz5.cell 0 (v:=.slice none 0 0) rfl
   have f0:=hz5.frozen 0
   have z1:=hz5.cell 1 (v:=.slice none 0 0) rfl
   have f1:=hz5.frozen 1
   have z2:=hz5.cell 2 (v:=.slice none 0 0) rfl
   have f2:=hz5.frozen 2
   have z3:=hz5.cell 3 (v:=.int .i64 0) rfl
   have f3:=hz5.frozen 3
   have zl:=hz5.lt
   refine oO fun Kv hK=>?_
   go_simp
   refine hK _ _ ⟨HS.out _ (bsetV (bsetV (bsetV (bsetV hb5 hle0 _) hle0 _) hle0 _) hle0 _),?_⟩
   refine wpMixO_done ?_
   exact key OB _ _ _ _ _ _ _ _ ao ac (bsetV (bsetV (bsetV (bsetV hb5 hle0 _) hle0 _) hle0 _) hle0 _) (by have:=HSz.out;omega) (by have:=HSz.out;omega) (by have:=HSz.out;omega) ((((hz5.set 0 (.slice none 0 0)).set 1 (.slice ao m.st.length ac)).set 2 (.slice none 0 0)).set 3 (.int .i64 m.sel)) (own_set (own_set (own_set (own_set hown hz5 (by decide) 0 (.slice none 0 0)) (hz5.set 0 (.slice none 0 0)) (by decide) 1 (.slice ao m.st.length ac)) ((hz5.set 0 (.slice none 0 0)).set 1 (.slice ao m.st.length ac)) (by decide) 2 (.slice none 0 0)) (((hz5.set 0 (.slice none 0 0)).set 1 (.slice ao m.st.length ac)).set 2 (.slice none 0 0)) (by decide) 3 (.int .i64 m.sel))
 ·go_simp
  have hb2:Below W0.heap.size W0 (w1.alloc (.cells #[.slice none 0 0,.slice none 0 0,.slice none 0 0,.int .i64 0] 26)):=bal hd0 _
  have hz2:=Blk.new w1 #[.slice none 0 0,.slice none 0 0,.slice none 0 0,.int .i64 0] 26
  have hle0:W0.heap.size≤w1.heap.size:=hd0.size
  refine hK _ _ ⟨HS.out _ hb2,?_⟩
  clear hK Kv
  generalize w1.alloc _=w2 at hb2 hz2 ⊢
  generalize w1.heap.size=OB at hz2 hle0 ⊢
  refine oO fun Kv hK=>?_
  go_simp
  have hb3:Below W0.heap.size W0 (w2.alloc (.cells #[] 38)):=bal hb2 _
  have ho3:(w2.alloc (.cells #[] 38)).ownsRow w.heap.size 38 2 (.slice (some ⟨w2.heap.size,0,none⟩) 0 0) 0 []:=own_made' rfl (by have:=hb2.size;have:=HSz.out;omega)
  have hz3:=hz2.alloc (.cells #[] 38)
  have hg9:=hb2.size
  refine hK _ _ ⟨HS.out _ hb3,?_⟩
  clear hK Kv
  generalize w2.alloc _=w3 at hb3 hz3 ho3 ⊢
  generalize w2.heap.size=g at ho3 hg9 ⊢
  refine oO fun Kv hK=>?_
  refine wp_append_slx (.tmp 10) (.tmp 12) 23 rfl w.heap.size 38 2 16 elTyV _ 0 [] rfl ho3 _ _ _ _ rfl (RowAt.old HM.out.st (bthen HB0.out hb3)) (flatR_oneC _) (by omega) (by unfold maxLen;omega) (by have:=HSz.out;have:=(hb3).size;omega) ?_
  intro ao ac w5 hown hg
  rw [Nat.zero_add,List.nil_append] at hown
  have hb5:Below W0.heap.size W0 w5:=bgrown hb3 hg (fun j hj=>by cases hj;exact hg9)
  have hz5:=Blk.grownV hz3 hg (own_neT ho3 hz3 (by decide))
  refine hK _ _ ⟨HS.out _ hb5,?_⟩
  clear hK Kv hg
  repeat refine pO ?_
  have z0:=hz5.cell 0 (v:=.slice none 0 0) rfl
  have f0:=hz5.frozen 0
  have z1:=hz5.cell 1 (v:=.slice none 0 0) rfl
  have f1:=hz5.frozen 1
  have z2:=hz5.cell 2 (v:=.slice none 0 0) rfl
  have f2:=hz5.frozen 2
  have z3:=hz5.cell 3 (v:=.int .i64 0) rfl
  have f3:=hz5.frozen 3
  have zl:=hz5.lt
  refine oO fun Kv hK=>?_
  go_simp
  refine hK _ _ ⟨HS.out _ (bsetV (bsetV (bsetV (bsetV hb5 hle0 _) hle0 _) hle0 _) hle0 _),?_⟩
  refine wpMixO_done ?_
  exact key OB _ _ _ _ _ _ _ _ ao ac (bsetV (bsetV (bsetV (bsetV hb5 hle0 _) hle0 _) hle0 _) hle0 _) (by have:=HSz.out;omega) (by have:=HSz.out;omega) (by have:=HSz.out;omega) ((((hz5.set 0 (.slice none 0 0)).set 1 (.slice ao m.st.length ac)).set 2 (.slice none 0 0)).set 3 (.int .i64 m.sel)) (own_set (own_set (own_set (own_set hown hz5 (by decide) 0 (.slice none 0 0)) (hz5.set 0 (.slice none 0 0)) (by decide) 1 (.slice ao m.st.length ac)) ((hz5.set 0 (.slice none 0 0)).set 1 (.slice ao m.st.length ac)) (by decide) 2 (.slice none 0 0)) (((hz5.set 0 (.slice none 0 0)).set 1 (.slice ao m.st.length ac)).set 2 (.slice none 0 0)) (by decide) 3 (.int .i64 m.sel))
end
section
open Go.RowKit
theorem own_put {w:World}{base:Nat}{e:TypeId}{size g n cap:Nat}{xs:List Value} (h:w.ownsRow base e size (.slice (some ⟨g,0,none⟩) n cap) n xs) (j:Nat) (v:Value):(w.setCell ⟨g,j,none⟩ v).ownsRow base e size (.slice (some ⟨g,0,none⟩) n cap) n (xs.set j v):=by
 obtain ⟨h1,h2⟩:=h
 rcases h2 with ⟨hv,_⟩|⟨g',c,cur,hv,hb,hg,hn,hm,hs,ht⟩
 ·cases hv
 ·cases hv
  refine ⟨by rw [List.length_set];exact h1,.inr ⟨g,cap,cur.setIfInBounds j v,rfl,hb,heap_setCell_same w g j cur e v hg,hn,hm,by rw [Array.size_setIfInBounds];exact hs,?_⟩⟩
  rw [←ht,Array.toList_setIfInBounds,List.take_set]
theorem own_frozen {w:World}{base:Nat}{e:TypeId}{size g n cap:Nat}{xs:List Value} (h:w.ownsRow base e size (.slice (some ⟨g,0,none⟩) n cap) n xs) (j:Nat):w.frozen? ⟨g,j,none⟩=false:=by
 rcases h.2 with ⟨hv,_⟩|⟨g',c,cur,hv,hb,hg,_⟩
 ·cases hv
 ·cases hv;exact frozen_of_row w g j cur e hg
theorem flatR_set {α:Type} [Cells α] (v:Value) (x:α) (j:Nat):∀ (l:List α) (i:Nat) (hi:i<l.length),j<Cells.n α→Cells.cells x=(Cells.cells l[i]).set j v→flatR (l.set i x)=(flatR l).set (i*Cells.n α+j) v
 | [],i,hi,_,_=>by cases hi
 | y :: l,0,hi,hj,h=>by
  simp only [List.set_cons_zero,flatR,List.flatMap_cons,Nat.zero_mul,Nat.zero_add]
  rw [List.set_append_left _ _ (by rw [Cells.len];exact hj),h]
  rfl
 | y :: l,i+1,hi,hj,h=>by
  have ih:=flatR_set v x j l i (by simpa using hi) hj h
  simp only [List.set_cons_succ,flatR,List.flatMap_cons] at ih ⊢
  rw [List.set_append_right _ _ (by rw [Cells.len,Nat.succ_mul];omega),ih,Cells.len]
  congr 2
  rw [Nat.succ_mul];omega
theorem addr_at (g n:Nat):(⟨g,0,none⟩:Addr).add n=⟨g,n,none⟩:=by unfold Addr.add;split<;>simp_all
/-- the module with other code in method kk, and where its rows lie then -/
def codeM (m:Md) (kk:Nat) (l:List In3):Md:=⟨m.cl,m.st,m.me.set kk { m.me.getD kk default with k:=l },m.sel⟩
def codeH (h:Hd) (kk:Nat) (ao:Option Addr) (cap:Nat):Hd:={ h with e:=fun i=>if i=kk then { h.e kk with ko:=ao,kc:=cap } else h.e i }
theorem codeM_get {m:Md}{kk:Nat} (hk:kk<m.me.length) (l:List In3) (j:Nat):(codeM m kk l).me.getD j default=if j=kk then { m.me.getD kk default with k:=l } else m.me.getD j default:=by
 unfold codeM
 dsimp only
 by_cases h:j=kk
 ·subst h
  rw [if_pos rfl,List.getD_eq_getElem?_getD,List.getElem?_set_self hk]
  rfl
 ·rw [if_neg h,List.getD_eq_getElem?_getD,List.getElem?_set_ne (fun q=>h q.symm),List.getD_eq_getElem?_getD]
theorem codeM_rows {h:Hd}{m:Md}{kk:Nat} (hk:kk<m.me.length) (l:List In3) (ao:Option Addr) (cap:Nat):rowsM (codeH h kk ao cap) (codeM m kk l)=(rowsM h m).set kk ({ m.me.getD kk default with k:=l },{ h.e kk with ko:=ao,kc:=cap }):=by
 refine List.ext_getElem? fun i=>?_
 simp only [rowsM,codeM,codeH,List.getElem?_mapIdx,List.getElem?_set,List.length_mapIdx]
 by_cases q:kk=i
 ·subst q
  simp [hk]
 ·rw [if_neg q,if_neg q]
  cases m.me[i]? with
  | none=>rfl
  | some y=>simp [show ¬ i=kk from fun e=>q e.symm]
theorem CpAt.code {w:World}{N:Nat}{h:Hd}{m:Md} (H:CpAt w N h m) {kk:Nat} (hk:kk<m.me.length) {ao:Option Addr}{cap:Nat}{l:List In3} (ho:w.ownsRow N 42 3 (.slice ao l.length cap) l.length (flatR l)) :
  ∃ g,h.eo=some ⟨g,0,none⟩∧N≤g∧w.frozen? ⟨g,kk*7+6,none⟩=false∧Below N w (w.setCell ⟨g,kk*7+6,none⟩ (.slice ao l.length cap))∧(∀ {b:Nat}{xs:Array Value}{t:TypeId},Blk w b xs t→t≠40→Blk (w.setCell ⟨g,kk*7+6,none⟩ (.slice ao l.length cap)) b xs t)∧CpAt (w.setCell ⟨g,kk*7+6,none⟩ (.slice ao l.length cap)) N (codeH h kk ao cap) (codeM m kk l):=by
 obtain ⟨g,hg⟩:=ownsRow_some H.me (by omega)
 have hme:=H.me
 rw [hg] at hme
 have hN:=(hme.lt g rfl).1
 obtain ⟨c,cur,hcur⟩:∃ (c:Nat) (cur:Array Value),Blk w g cur 40:=by
  rcases hme.2 with ⟨hv,_⟩|⟨g',c,cur,hv,hb,hgg,_⟩
  ·cases hv
  ·cases hv;exact ⟨0,cur,hgg⟩
 have hkp:Kp [40] N w (w.setCell ⟨g,kk*7+6,none⟩ (.slice ao l.length cap)):=(Kp.refl _ N w).set hcur (by decide) hN _ _
 refine ⟨g,hg,hN,own_frozen hme _,hkp.bw,fun {b xs t} hb ht=>Blk.other hb (fun q=>?_) _,?_⟩
 ·have q':b=g:=q
  subst q'
  have:=(show w.heap[b]?=_ from hb).symm.trans hcur
  cases this
  exact ht rfl
 ·refine ⟨hkp.own H.cl,hkp.own H.st,?_,fun i hi=>(H.c i hi).kp hkp,fun i hi=>?_⟩
  ·have h9:=own_put hme (kk*7+6) (.slice ao l.length cap)
   rw [codeM_rows hk,flatR_set (.slice ao l.length cap) _ 6 (rowsM h m) kk (by rw [rowsM_len];exact hk) (by decide) (by simp [rowsM,hk];rfl)]
   show World.ownsRow _ N _ 7 (.slice h.eo (codeM m kk l).me.length h.ec) (codeM m kk l).me.length _
   rw [show (codeM m kk l).me.length=m.me.length by simp [codeM],hg]
   exact h9
  ·have hi':i<m.me.length:=by simpa [codeM] using hi
   rw [codeM_get hk]
   show CpM _ N (if i=kk then _ else _) _
   by_cases q:i=kk
   ·subst q
    rw [if_pos rfl,if_pos rfl]
    have h9:=(H.m i hk).kp hkp
    exact ⟨h9.p,h9.l,hkp.own ho⟩
   ·rw [if_neg q,if_neg q]
    exact (H.m i hi').kp hkp
end
section
open Go.RowKit
theorem mdSm_of {m:Md} (hm:modV m=true):MdSm m:=by
 obtain ⟨h1,h2,h3,h4,h5⟩:=modV_size hm
 refine ⟨by omega,by omega,by omega,fun i hi=>?_,fun i hi=>?_⟩
 ·have h:=modV_clsN hm i hi
  simp only [clsV,Bool.and_eq_true,decide_eq_true_eq] at h
  have a:=h.1.1.1.1.2
  have b:=h.1.1.2
  omega
 ·have:=(mth_ok hm hi).z
  omega
theorem codeM_nop (m:Md) (kk:Nat):codeM m kk (noNop (m.me.getD kk default).k)=nopM m kk:=rfl
theorem CpAt.old {w w':World}{N:Nat}{h:Hd}{m:Md} (H:CpAt w N h m) (hb:Below w.heap.size w w'):CpAt w' N h m:=
 have hk:Kp [] 0 w w':=Kp.of hb (Nat.zero_le _)
 ⟨hk.own H.cl,hk.own H.st,hk.own H.me,fun i hi=>(H.c i hi).kp hk,fun i hi=>(H.m i hi).kp hk⟩
theorem noNop_snoc (l:List In3) {j:Nat} (hj:j<l.length):noNop (l.take (j+1))=noNop (l.take j)++(if (l.getD j default).op=0 then [] else [l.getD j default]):=by
 rw [take_snocR l j hj]
 unfold noNop
 rw [List.filter_append]
 split<;>simp_all
theorem noNop_len (l:List In3) (j:Nat):(noNop (l.take j)).length≤j:=Nat.le_trans (List.length_filter_le _ _) (by simp;omega)
attribute [local go_sem] addr_at
theorem lawNops_any (W:World) (h:Hd) (m:Md) (H:ModAt W h m) (k:Int):Calls Tryz.prog 4 #[.agg #[.slice h.co m.cl.length h.cc,.slice h.so m.st.length h.sc,.slice h.eo m.me.length h.ec,.int .i64 m.sel],.int .i64 k] W (Ret W (.bool true)):=by
 obtain ⟨W0,hW0⟩:∃ W0,W0=W.alloc (.cells #[.slice h.co m.cl.length h.cc,.slice h.so m.st.length h.sc,.slice h.eo m.me.length h.ec,.int .i64 m.sel] 26):=⟨_,rfl⟩
 have hb0:Below W.heap.size W W0:=by rw [hW0];exact bE
 have x0:Blk W0 W.heap.size #[.slice h.co m.cl.length h.cc,.slice h.so m.st.length h.sc,.slice h.eo m.me.length h.ec,.int .i64 m.sel] 26:=by rw [hW0];exact Blk.new W _ _
 have HX:=Lib.hid (show ∀ w',Below W0.heap.size W0 w'→_ from fun w' hb=>blk4 (x0.old hb))
 have HX0:=Lib.hid x0
 have HI:=Lib.hid (rCheck_any m h W0 (H.old hb0))
 have HW:=Lib.hid hW0
 have HB0:=Lib.hid hb0
 have HM:=Lib.hid H
 clear x0 hW0 hb0 H
 have hcs:modV m=false∨(modV m=true∧k<0)∨(modV m=true∧¬ k<0∧k ≥ m.me.length)∨(modV m=true∧¬ k<0∧¬ k ≥ m.me.length):=by cases modV m<;>simp<;>omega
 rcases hcs with q|⟨q,q1⟩|⟨q,q1,q2⟩|⟨hmv,hk0,hk1⟩
 iterate 3
  ·rw [q] at HI
   simp only [Bool.false_eq_true,if_false,if_true] at HI
   go_enter Tryz.func4,Tryz.ntmps4
   go_upto_region 1 with fail
   rw [←HW.out]
   obtain ⟨c0,c1,c2,c3⟩:=HX.out _ (Below.refl _ _)
   go_wp2_with (first
    | (go_at_call 15;refine HI.out.mono ?_;rintro r w1 ⟨rfl,hb1⟩;have HB1:=Lib.hid hb1;clear hb1 c0 c1 c2 c3;obtain ⟨c0,c1,c2,c3⟩:=HX.out _ HB1.out)
    | (go_at_call 14;refine (sane6_any _).mono ?_;rintro r w4 ⟨rfl,hb4⟩))
   go_ret
   exact ret_ok rfl (bthen HB0.out (bthen HB1.out hb4))
 ·rw [hmv] at HI
  simp only [if_true] at HI
  obtain ⟨kk,rfl⟩:∃ d:Nat,k=d:=⟨k.toNat,by omega⟩
  have hkk:kk<m.me.length:=by omega
  have hkk2:(kk:Int) < m.me.length:=by omega
  have hlaw:=nops_law hmv hkk
  have hlen:=(mth_ok hmv hkk).z.2.2
  obtain ⟨l,hl⟩:∃ l,l=(m.me.getD kk default).k:=⟨_,rfl⟩
  rw [←hl] at hlen
  have hcp:∀ w',Below W0.heap.size W0 w'→_:=fun w' hb'=>copy_any w' h m (HM.out.old (bthen HB0.out hb')) (mdSm_of hmv)
  have hm1:∀ w',Below W.heap.size W w'→_:=fun w' hb'=>vMeth_any h m kk w' (HM.out.old hb')
  have hm2:∀ w' h',ModAt w' h' (nopM m kk)→_:=fun w' h' H'=>vMeth_any h' (nopM m kk) kk w' H'
  generalize methodV (nopM m kk) kk=q2 at hlaw hm2
  generalize methodV m kk=q1 at hlaw hm1
  obtain ⟨sts1,pl1,er⟩:=q1
  obtain ⟨sts2,pl2,er2⟩:=q2
  dsimp only at hlaw
  subst hlaw
  have HCp:=Lib.hid hcp
  have HM1:=Lib.hid hm1
  have HM2:=Lib.hid hm2
  have HL:=Lib.hid hl
  have HSm:=Lib.hid (mdSm_of hmv)
  obtain ⟨n,hn⟩:∃ n,n=l.length:=⟨_,rfl⟩
  have HN:=Lib.hid hn
  rw [←hn] at hlen
  have HMt:=Lib.hid (show ∀ w',Below W.heap.size W w'→∃ ad,h.eo=some ad∧w'.cell? ⟨(ad.add (kk*7)).block,(ad.add (kk*7)).off+6,none⟩=some (.slice (h.e kk).ko n (h.e kk).kc) from fun w' hb'=>by
   obtain ⟨ad,h1,-,-,-,-,-,-,m6⟩:=(HM.out.old hb').mth hkk
   rw [←hl,←hn] at m6
   exact ⟨ad,h1,m6⟩)
  have HR:=Lib.hid (show ∀ w',Below W.heap.size W w'→RowAt w' (h.e kk).ko (h.e kk).kc l from fun w' hb'=>by rw [hl];exact (HM.out.old hb').k kk hkk)
  clear hcp hm1 hm2 hl hn
  go_enter Tryz.func4,Tryz.ntmps4
  go_upto_region 1 with fail
  rw [←HW.out]
  obtain ⟨c0,c1,c2,c3⟩:=HX.out _ (Below.refl _ _)
  go_upto_region 4 with (first
   | (go_at_call 15;refine HI.out.mono ?_;rintro r w1 ⟨rfl,hb1⟩;have HB1:=Lib.hid hb1;clear hb1 c0 c1 c2 c3;obtain ⟨c0,c1,c2,c3⟩:=HX.out _ HB1.out)
   | (go_at_call 16;refine (HCp.out _ HB1.out).mono ?_;rintro r w2 ⟨h2,rfl,hcp,hb2⟩;have HC:=Lib.hid hcp;have HB2:=Lib.hid (bthen HB1.out hb2);have HB2':=Lib.hid hb2;clear hcp hb2 c0 c1 c2 c3))
  obtain ⟨W3,hW3⟩:∃ W3,W3=w2.alloc (.cells #[.slice h2.co m.cl.length h2.cc,.slice h2.so m.st.length h2.sc,.slice h2.eo m.me.length h2.ec,.int .i64 m.sel] 26):=⟨_,rfl⟩
  have hnb:Blk W3 w2.heap.size #[.slice h2.co m.cl.length h2.cc,.slice h2.so m.st.length h2.sc,.slice h2.eo m.me.length h2.ec,.int .i64 m.sel] 26:=by rw [hW3];exact Blk.new w2 _ _
  have hb3:Below w2.heap.size w2 W3:=by rw [hW3];exact bE
  rw [←hW3]
  have HNb:=Lib.hid hnb
  have HB3:=Lib.hid (bthen HB2.out hb3)
  have HB13:=Lib.hid (bthen HB2'.out hb3)
  have HC3:=Lib.hid (HC.out.old hb3)
  have hng:w2.heap.size≠W.heap.size∧W.heap.size<W0.heap.size:=by have:=HX0.out.lt;have:=HB2.out.size;omega
  have hg12:=HB2'.out.size
  have hg23:=hb3.size
  have hg01:=HB1.out.size
  clear hW3 hnb hb3
  generalize w2.heap.size=NB at HNb hng hg12 hg23 ⊢
  go_wp2_with fail
  go_loopw [6,7] (fun c i wr=>∃ (j:Nat) (ao:Option Addr) (cap:Nat),j≤n∧i=.int .i64 j∧c=.slice ao (noNop (l.take j)).length cap∧wr.ownsRow W3.heap.size 42 3 (.slice ao (noNop (l.take j)).length cap) (noNop (l.take j)).length (flatR (noNop (l.take j)))∧Below W3.heap.size W3 wr) (fun _ i _=>n-(intOf i).toNat)
  case atStart=>exact ⟨0,none,0,by omega,rfl,rfl,World.ownsRow_nil _ _ _ _,Below.refl _ _⟩
  case round=>
   obtain ⟨j,ao,cap,hj,rfl,rfl,hown,hbl⟩:=hrel
   have hbW:=bthen HB0.out (bthen HB3.out hbl)
   obtain ⟨c0,c1,c2,c3⟩:=HX.out _ (bthen HB3.out hbl)
   obtain ⟨ad,had,m6⟩:=HMt.out _ hbW
   rw [had] at c2
   clear had
   have hln:=noNop_len l j
   by_cases hjn:j<n
   ·obtain ⟨ad3,had3,i0,i1,i2⟩:=row_in (HR.out _ hbW) (i:=j) (by rw [←HN.out];exact hjn)
    rw [had3] at m6
    clear had3
    have hsn:=noNop_snoc l (j:=j) (by rw [←HN.out];exact hjn)
    generalize noNop (l.take j)=zs at hown hln hsn ⊢
    generalize l.getD j default=x at i0 i1 i2 hsn
    obtain ⟨op,ia,ib⟩:=x
    dsimp only at i0 i1 i2 hsn
    have hjn2:(j:Int) < n:=by omega
    have hwr:IntKind.i64.wrap ((j:Int)+1)=j+1:=IntWalk.i64_in _ (by omega)
    by_cases h0:op=0
    ·rw [if_pos h0,List.append_nil] at hsn
     subst h0
     have HSn:=Lib.hid hsn
     have HO:=Lib.hid hown
     have HB:=Lib.hid hbl
     clear hown hbl hbW
     go_wp2
     go_roundw
     case rel=>exact ⟨j+1,ao,cap,by omega,by go_num,by rw [HSn.out],by rw [HSn.out];exact HO.out,HB.out⟩
     case measure=>simp [intOf];omega
    ·rw [if_neg h0] at hsn
     have h1:(op != 0)=true:=by simpa using h0
     have HSn:=Lib.hid hsn
     clear h0 hsn
     go_wp2_with (at_builtin;refine wpList_append_sl rfl (.tmp 53) (.tmp 63) 36 rfl W3.heap.size 42 3 24 elIn3 (.slice ao zs.length cap) zs.length (flatR zs) rfl (hown.alloc _) _ 1 1 [.int .i64 op,.int .i64 ia,.int .i64 ib] rfl (sla_blkV (Blk.new' #[.int .i64 op,.int .i64 ia,.int .i64 ib] 42 (by simp)) rfl) (by intro u hu;simp only [List.mem_cons,List.not_mem_nil,or_false] at hu;rcases hu with rfl|rfl|rfl<;>rfl) (by omega) (by unfold maxLen;omega) (by have:=hbl.size;simp;omega) ?_;intro ao1 cap1 w10 hown9 hg9;have HO9:=Lib.hid hown9;have HB9:=Lib.hid (bgrown (bal hbl _) hg9 (fun j hj=>(hown.lt j hj).1));clear hown9 hg9)
     go_roundw
     case rel=>
      have h9:=HO9.out
      refine ⟨j+1,ao1,cap1,by omega,by go_num,by rw [HSn.out,List.length_append];rfl,?_,HB9.out⟩
      rw [HSn.out,List.length_append,flatR_append,flatR_one]
      exact h9
     case measure=>simp [intOf];omega
   ·have hjn2:¬ (j:Int) < n:=by omega
    obtain rfl:j=n:=by omega
    rw [show l.take j=l by rw [HN.out,List.take_length]] at hown ⊢
    have hcode:=(HC3.out.old hbl).code hkk (own_baseV hown (Nat.le_trans hg12 hg23))
    obtain ⟨g,hg,hNg,hfz,hbw,hblk,hcp5⟩:=hcode
    have hm0:=((HC3.out.old hbl).at_ HSm.out).mth hkk
    obtain ⟨ad5,had5,-,-,-,-,-,-,z6⟩:=hm0
    rw [hg] at had5
    cases had5
    simp only [addr_at] at z6
    have hnb2:=(HNb.out.old hbl)
    have n2:=hnb2.cell 2 (v:=.slice h2.eo m.me.length h2.ec) rfl
    have hnl:=hnb2.lt
    rw [hg] at n2
    have HG:=Lib.hid hg
    clear hg
    have HK5:=Lib.hid hcp5
    have HB5:=Lib.hid hbw
    have HNb5:=Lib.hid (hblk hnb2 (by decide))
    have HBW:=Lib.hid hbW
    have hx5:=hblk (HX0.out.old (bthen HB3.out hbl)) (by decide)
    have HX5:=Lib.hid hx5
    clear hcp5 hbw hnb2 hx5 hblk hbW hown hbl
    have hNW:W.heap.size≤w1.heap.size:=by omega
    have HBW5:=Lib.hid (HBW.out.trans (HB5.out.mono hNW))
    have HS2:=Lib.hid (mdSm_of (nop_mod hmv hkk))
    have HNl:=Lib.hid (show (nopM m kk).me.length=m.me.length by simp [nopM])
    have HCd:=Lib.hid (show codeM m kk (noNop l)=nopM m kk by rw [HL.out];rfl)
    clear hmv hNW
    go_upto_region 11 with fail
    generalize wr.setCell _ _=w5 at HB5 HBW5 HK5 HNb5 HX5 ⊢
    obtain ⟨c0,c1,c2,c3⟩:=blk4 HX5.out
    go_upto_region 12 with (go_at_call 11;refine (HM1.out _ HBW5.out).mono ?_;rintro r w6 ⟨⟨so6,sc6,rows6,rfl,hs6⟩,hb6⟩;have HB6:=Lib.hid hb6;clear hs6 hb6)
    have n0:=(HNb5.out.old HB6.out).cell 0 (v:=.slice h2.co m.cl.length h2.cc) rfl
    have n1:=(HNb5.out.old HB6.out).cell 1 (v:=.slice h2.so m.st.length h2.sc) rfl
    have n2:=(HNb5.out.old HB6.out).cell 2 (v:=.slice h2.eo m.me.length h2.ec) rfl
    have n3:=(HNb5.out.old HB6.out).cell 3 (v:=.int .i64 m.sel) rfl
    have hn7:=HM2.out w6 (codeH h2 kk ao cap) (by have h9:=HK5.out.old HB6.out;rw [HCd.out] at h9;exact h9.at_ HS2.out)
    rw [HNl.out] at hn7
    have HN7:=Lib.hid (show Calls Tryz.prog 11 #[.agg #[.slice h2.co m.cl.length h2.cc,.slice h2.so m.st.length h2.sc,.slice h2.eo m.me.length h2.ec,.int .i64 m.sel],.int .i64 kk] w6 (RetM w6 _) from hn7)
    clear hn7
    go_wp2_with (first
     | (go_at_call 11;refine HN7.out.mono ?_;rintro r w7 ⟨⟨so7,sc7,rows7,rfl,hs7⟩,hb7⟩;have HB7:=Lib.hid hb7;clear hs7 hb7)
     | (go_at_call 14;refine (sane6_any _).mono ?_;rintro r w8 ⟨rfl,hb8⟩))
    go_ret
    exact ret_ok rfl (bthen (bthen (bthen HBW5.out HB6.out) HB7.out) hb8)
end
end Go.Proofs.YtkdamjpbnmbeoaaGreat
