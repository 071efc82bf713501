import Derived.Test.YtfmcclhfnpcokaaGreatU24
import Derived.WideKeyEntry
set_option linter.all false
namespace Go.Proofs.YtfmcclhfnpcokaaGreat
theorem j6{p:Prop}(h:p:=by
 by_cases q:c∈U
 ·rw [if_pos ⟨c,q,rfl⟩];simp [q]
 ·rw [if_neg (fun ⟨u,hu,e⟩=>q (by have:u=c:=(by omega);subst this;exact hu))];simp [q]):p:=h
theorem j7{p:Prop}(h:p:=by
 simp only [List.nodup_cons,List.mem_cons,List.not_mem_nil,or_false,not_or,not_false_eq_true,List.nodup_nil,and_true];exact h8):p:=h
section
open Go.RowKit Go.Maps
open Go.ChangeMaps (setBlock map_eraseIdx modify_eq_set)
open Go.WideElems (findIdx_born findIdx_arr modify_last set_self)
def lkK {κ:Type} [DecidableEq κ] (k:κ):List (κ × Value)→Nat→Option (Nat × Value)
 | [],_=>none
 | (j,v) :: r,i=>if k=j then some (i,v) else lkK k r (i+1)
def asK {κ:Type} [DecidableEq κ] (k:κ):List (κ × Value)→Option Value
 | []=>none
 | (j,v) :: r=>if k=j then some v else asK k r
section
variable {κ:Type} [DecidableEq κ]
theorem Zn4 {k:κ}:∀ {l:List (κ × Value)}{i:Nat},lkK k l i=none→asK k l=none∧k ∉ l.map (·.1)
 | [],_,_=>⟨rfl,by simp⟩
 |(j,v) :: r,i,h=>by
  unfold lkK at h;split at h
  ·cases h
  ·rename_i q;obtain ⟨a,b⟩:=Zn4 h;unfold asK;rw [if_neg q];exact ⟨a,by simp only [List.map_cons,List.mem_cons,not_or];exact ⟨q,b⟩⟩
theorem Zn5 {k:κ}:∀ {l:List (κ × Value)}{i n:Nat}{v:Value},lkK k l i=some (n,v)→asK k l=some v∧i≤n∧l[n-i]?=some (k,v)
 | [],_,_,_,h=>by cases h
 |(j,u) :: r,i,n,v,h=>by
  unfold lkK at h;unfold asK;split at h
  ·rename_i q;obtain ⟨rfl,rfl⟩:=Prod.mk.inj (Option.some.inj h);rw [if_pos q];subst q;exact ⟨rfl,Nat.le_refl _,by simp⟩
  ·rename_i q;obtain ⟨a,c,b⟩:=Zn5 h;rw [if_neg q];refine ⟨a,by omega,?_⟩;rw [show n-i=(n-(i+1))+1 by omega];simpa using b
theorem Zn6 {k j:κ}{v:Value}:∀ {l:List (κ × Value)},j ∉ l.map (·.1)→asK k (l++[(j,v)])=if k=j then some v else asK k l
 | [],_=>by simp [asK]
 |(i,u) :: r,h=>by
  simp only [List.map_cons,List.mem_cons,not_or] at h;simp only [List.cons_append,asK];by_cases q:k=i
  ·rw [if_pos q,if_neg (by rw [q];exact fun e=>h.1 e.symm),if_pos q]
  ·rw [if_neg q,if_neg q];exact Zn6 h.2
theorem Zn7 {k:κ}:∀ {l:List (κ × Value)},k ∉ l.map (·.1)→asK k l=none
 | [],_=>rfl
 |(i,u) :: r,h=>by simp only [List.map_cons,List.mem_cons,not_or] at h;unfold asK;rw [if_neg h.1];exact Zn7 h.2
theorem Zn8 {k j:κ}{v u:Value}:∀ {l:List (κ × Value)}{n:Nat},(l.map (·.1)).Nodup→l[n]?=some (j,u)→asK k (l.set n (j,v))=if k=j then some v else asK k l
 | [],n,_,h=>by simp at h
 |(i,x) :: r,0,_,h=>by
  simp only [List.getElem?_cons_zero,Option.some.injEq] at h;obtain ⟨rfl,rfl⟩:=Prod.mk.inj h;simp only [List.set_cons_zero,asK];split<;>rfl
 |(i,x) :: r,n+1,hn,h=>by
  simp only [List.map_cons,List.nodup_cons] at hn;simp only [List.getElem?_cons_succ] at h;simp only [List.set_cons_succ,asK];have a:j∈r.map (·.1):=List.mem_map.2 ⟨_,List.mem_of_getElem? h,rfl⟩;by_cases q:k=i
  ·rw [if_pos q,if_neg (by rintro rfl;exact hn.1 (q▸a)),if_pos q]
  ·rw [if_neg q,if_neg q];exact Zn8 hn.2 h
theorem Zn9 {k j:κ}{u:Value}:∀ {l:List (κ × Value)}{n:Nat},(l.map (·.1)).Nodup→l[n]?=some (j,u)→asK k (l.eraseIdx n)=if k=j then none else asK k l
 | [],n,_,h=>by simp at h
 |(i,x) :: r,0,hn,h=>by
  simp only [List.getElem?_cons_zero,Option.some.injEq] at h;obtain ⟨rfl,rfl⟩:=Prod.mk.inj h;simp only [List.map_cons,List.nodup_cons] at hn;simp only [List.eraseIdx_cons_zero,asK];split
  ·rename_i q;subst q;exact Zn7 hn.1
  ·rfl
 |(i,x) :: r,n+1,hn,h=>by
  simp only [List.map_cons,List.nodup_cons] at hn;simp only [List.getElem?_cons_succ] at h;simp only [List.eraseIdx_cons_succ,asK];have a:j∈r.map (·.1):=List.mem_map.2 ⟨_,List.mem_of_getElem? h,rfl⟩;by_cases q:k=i
  ·rw [if_pos q,if_neg (by rintro rfl;exact hn.1 (q▸a)),if_pos q]
  ·rw [if_neg q,if_neg q];exact Zn9 hn.2 h
end
structure Zoa {κ:Type} [DecidableEq κ] (kt:TypeId) (enc:κ→Value):Prop where
 ck:∀ (b:Bool) (w:World) (k:κ),(Instr.checkKey b 10000 kt (enc k)).run Tryz.prog w=.ok () w
 fk:∀ (w:World) (k:κ) (es:List MapEntry) (kv:List (κ × Value)),es.map (fun e=>(e.key,e.val))=kv.map (fun p=>(enc p.1,p.2))→(Instr.findKey kt (enc k) es).run Tryz.prog w=.ok (lkK k kv 0) w
 sm:∀ k,Instr.sameBits 10000 (enc k) (enc k)=true
def kI (k:Int):Value:=.int .i64 k
def kT (t:Ty):Value:=.agg #[.int .i64 t.k,.int .i64 t.c]
theorem Zob (k:Int):∀ (a:List MapEntry) (b:List (Int × Value)) (i:Nat),a.map (fun e=>(e.key,e.val))=b.map (fun p=>(kI p.1,p.2))→Instr.findNow (.int .i64) (kI k) a i=some (lkK k b i)
 | [],[],_,_=>rfl
 | [],_ :: _,_,h=>by simp at h
 | _ :: _,[],_,h=>by simp at h
 |e :: a,(j,v) :: b,i,h=>by
  simp only [List.map_cons,List.cons.injEq,Prod.mk.injEq] at h;obtain ⟨⟨c,d⟩,f⟩:=h;unfold Instr.findNow lkK;rw [c];simp only [kI,Instr.sameNow,if_true];by_cases q:k=j
  ·subst q;simp [d]
  ·have:(k == j)=false:=by simpa using q
   rw [this,if_neg q];exact Zob k a b (i+1) f
theorem Zoc:Zoa 3 kI where
 ck b w k:=by unfold Instr.checkKey kI;simp [run_underlying Tryz.underlying3,Result.andThen]
 fk w k es kv h:=by unfold Instr.findKey;simp [run_underlying Tryz.underlying3,Result.andThen,Zob k es kv 0 h]
 sm k:=by simp [kI,Instr.sameBits]
theorem Zod (w:World) (t:Ty):∀ (a:List MapEntry) (b:List (Ty × Value)) (i:Nat),a.map (fun e=>(e.key,e.val))=b.map (fun p=>(kT p.1,p.2))→(Instr.findAsking 38 (kT t) a i).run Tryz.prog w=.ok (lkK t b i) w
 | [],[],_,_=>rfl
 | [],_ :: _,_,h=>by simp at h
 | _ :: _,[],_,h=>by simp at h
 |e :: a,(j,v) :: b,i,h=>by
  simp only [List.map_cons,List.cons.injEq,Prod.mk.injEq] at h;obtain ⟨⟨c,d⟩,f⟩:=h;unfold Instr.findAsking lkK;rw [c];have g:(Op.equal 38 (kT t) (kT j)).run Tryz.prog w=.ok (decide (t=j)) w:=ZdW w t.k t.c j.k j.c;simp only [Sem.run_bind,g,Result.andThen_ok];by_cases q:t=j
  ·simp [q,d]
  ·simp only [q,decide_false];exact Zod w t a b (i+1) f
theorem Zoe:Zoa 38 kT where
 ck b w k:=by kernel_rfl
 fk w k a kv h:=by
  have d:Tryz.prog.underlying 38=some (.struct (Tryz.prog.fieldsOf 38)):=by kernel_rfl
  have c:∀ a:List MapEntry,a.map (fun e=>(e.key,e.val))=kv.map (fun p=>(kT p.1,p.2))→Instr.findNow (.struct (Tryz.prog.fieldsOf 38)) (kT k) a 0=(if kv=[] then some none else none):=by
   intro a h;cases a with
   |nil=>cases kv with
    | nil=>rfl
    | cons _ _=>simp at h
   |cons e a=>cases kv with
    | nil=>simp at h
    | cons _ _=>simp [Instr.findNow,Instr.sameNow]
  unfold Instr.findKey;simp only [Sem.run_bind,run_underlying d,Result.andThen_ok,c a h];by_cases q:kv=[]
  ·subst q;simp [lkK]
  ·rw [if_neg q];exact Zod w k a kv 0 h
 sm k:=by simp [kT,Instr.sameBits]
section
variable {κ:Type} [DecidableEq κ] {enc:κ→Value}
def Bor (es:Array MapEntry) (c:Nat):Prop:=(∀ x∈es.toList,x.born<c)∧(es.toList.map (·.born)).Nodup
theorem Bor.push {es:Array MapEntry}{c:Nat} (h:Bor es c) (k v:Value):Bor (es.push ⟨k,v,c⟩) (c+1):=by
 refine ⟨fun x d=>?_,?_⟩
 ·rw [Array.toList_push] at d;rcases List.mem_append.1 d with d|d
  ·have:=h.1 x d;omega
  ·obtain rfl:=List.mem_singleton.1 d;exact Nat.lt_succ_self c
 ·rw [Array.toList_push,List.map_append,List.nodup_append];refine ⟨h.2,by simp,?_⟩;intro a e b f;obtain ⟨x,d,rfl⟩:=List.mem_map.1 e;simp only [List.map_cons,List.map_nil,List.mem_singleton] at f;have:=h.1 x d;omega
theorem Bor.modify {es:Array MapEntry}{c:Nat} (h:Bor es c) {n:Nat}{e0:MapEntry} (he:es.toList[n]?=some e0) (g:MapEntry→MapEntry) (hg:(g e0).born=e0.born):Bor (es.modify n g) c:=by
 have b:(es.modify n g).toList=es.toList.set n (g e0):=by rw [Array.toList_modify,modify_eq_set _ _ _ _ he]
 refine ⟨fun x a=>?_,?_⟩
 ·rw [b] at a;rcases List.mem_or_eq_of_mem_set a with a|rfl
  ·exact h.1 x a
  ·rw [hg];exact h.1 e0 (List.mem_of_getElem? he)
 ·rw [b,List.map_set,hg];have:(es.toList.map (·.born)).set n e0.born=es.toList.map (·.born):=by
   apply List.ext_getElem?;intro i;rw [List.getElem?_set];split
   ·rename_i q;subst q;have d:=(List.getElem?_eq_some_iff.1 he).1;rw [if_pos (by simpa using d),List.getElem?_map,he];rfl
   ·rfl
  rw [this];exact h.2
theorem Bor.erase {es:Array MapEntry}{c:Nat} (h:Bor es c) (n:Nat):Bor (es.eraseIdxIfInBounds n) c:=by
 unfold Array.eraseIdxIfInBounds;split
 ·have a:(es.eraseIdx n ‹_›).toList=es.toList.eraseIdx n:=by simp
  refine ⟨fun x b=>?_,?_⟩
  ·rw [a] at b;exact h.1 x ((List.eraseIdx_sublist _ _).subset b)
  ·rw [a,map_eraseIdx];exact h.2.sublist (List.eraseIdx_sublist _ _)
 ·exact h
def MpF (enc:κ→Value) (w:World) (M:Nat) (f:κ→Option Value):Prop:=∃ es c kv,w.heap[M]?=some (.map es c)∧Bor es c∧es.toList.map (fun e=>(e.key,e.val))=kv.map (fun p=>(enc p.1,p.2))∧(kv.map (·.1)).Nodup∧∀ k,asK k kv=f k
theorem MpF.made (enc:κ→Value) (w:World):MpF enc (w.alloc (.map #[] 0)) w.heap.size (fun _=>none):=⟨#[],0,[],(MapKept.heap_alloc w _).1,⟨by simp,by simp⟩,rfl,List.nodup_nil,fun _=>rfl⟩
theorem MpF.map {w:World}{M:Nat}{f:κ→Option Value} (H:MpF enc w M f):ZmK w M:=by obtain ⟨a,c,b,h,_⟩:=H;exact ⟨a,c,h⟩
theorem MpF.eq {w w':World}{M:Nat}{f:κ→Option Value} (H:MpF enc w M f) (h:w'.heap[M]?=w.heap[M]?):MpF enc w' M f:=by obtain ⟨a,c,e,b,d⟩:=H;exact ⟨a,c,e,h.trans b,d⟩
theorem MpF.old {w w':World}{M:Nat}{f:κ→Option Value} (H:MpF enc w M f) (hb:Below w.heap.size w w'):MpF enc w' M f:=H.eq (hb.block M H.map.lt)
theorem MpF.congr {w:World}{M:Nat}{f g:κ→Option Value} (H:MpF enc w M f) (h:∀ k,f k=g k):MpF enc w M g:=by obtain ⟨a,c,l,b,j,d,e,i⟩:=H;exact ⟨a,c,l,b,j,d,e,fun k=>(i k).trans (h k)⟩
theorem MpF.look {kt et:TypeId} (K:Zoa kt enc) {t:TypeId} (ht:Tryz.prog.underlying t=some (.map kt et)) {z:Value}{w:World}{M:Nat}{f:κ→Option Value} (hz:(zeroValue et).run Tryz.prog w=.ok z w) (H:MpF enc w M f) (k:κ) (ok:Bool) :
  (Instr.lookup t (.map (some M)) (enc k) ok).run Tryz.prog w=.ok (if ok then .tuple #[(f k).getD z,.bool (f k).isSome] else (f k).getD z) w:=by
 obtain ⟨e,c,d,b,l,g,j,i⟩:=H;have a:=K.fk w k e.toList d g;rw [←i k];cases hl:lkK k d 0 with
 |none=>
  rw [hl] at a;rw [(Zn4 hl).1];simp [Instr.lookup,run_underlying ht,MapKept.run_getObj_map b,K.ck,a,hz,Result.andThen]
 |some p=>
  obtain ⟨n,v⟩:=p;rw [hl] at a;rw [(Zn5 hl).1];simp [Instr.lookup,run_underlying ht,MapKept.run_getObj_map b,K.ck,a,Result.andThen]
theorem Zof {w:World}{M:Nat}{o:Obj} (h:M<w.heap.size):w.grownBy (setBlock w M o) (some M):=by refine ⟨rfl,rfl,rfl,by simp [setBlock],fun i b a=>?_⟩;simp only [setBlock];rw [Array.getElem?_setIfInBounds_ne (fun e=>a (by rw [e]))]
section
variable {kt et:TypeId}(K:Zoa kt enc)
include kt et K
theorem MpF.put {t:TypeId} (ht:Tryz.prog.underlying t=some (.map kt et)) {w:World} {M:Nat} {f:κ→Option Value} (H:MpF enc w M f) (k:κ) (v:Value):
  ∃ w',(Instr.mapUpdate t (.map (some M)) (enc k) v).run Tryz.prog w=.ok () w'∧MpF enc w' M (fun j=>if j=k then some v else f j)∧w.grownBy w' (some M):=by
 have g:=H.map.lt;obtain ⟨d,c,s,z,I,A,D,G⟩:=H;have B:=K.fk w k d.toList s A;cases hl:lkK k s 0 with
 |none=>
  rw [hl] at B;have o:=Zn4 hl;refine ⟨setBlock w M (.map (d.push ⟨enc k,v,c⟩) (c+1)),?_,⟨d.push ⟨enc k,v,c⟩,c+1,s++[(k,v)],by simp [setBlock,g],I.push _ _,?_,?_,fun j=>?_⟩,Zof g⟩
  ·simp [Instr.mapUpdate,run_underlying ht,MapKept.run_getObj_map z,K.ck,B,MapKept.run_setObj_map _ z,Result.andThen,setBlock]
  ·simp [A]
  ·rw [List.map_append,List.nodup_append];refine ⟨D,by simp,?_⟩;intro a L b J;simp only [List.map_cons,List.map_nil,List.mem_singleton] at J;subst J;rintro rfl;exact o.2 L
  ·rw [Zn6 o.2,G]
 |some p=>
  obtain ⟨n,u⟩:=p;rw [hl] at B;obtain ⟨-,-,o⟩:=Zn5 hl;rw [Nat.sub_zero] at o;have y:(d.toList.map (fun e=>(e.key,e.val)))[n]?=some (enc k,u):=by rw [A];simp [o]
  obtain ⟨l,r,E⟩:∃ l,d.toList[n]?=some l∧(l.key,l.val)=(enc k,u):=by
   rw [List.getElem?_map] at y;cases hx:d.toList[n]? with
   | none=>rw [hx] at y;simp at y
   | some l=>rw [hx] at y;exact ⟨l,rfl,by simpa using y⟩
  have F:l.key=enc k:=congrArg Prod.fst E;have N:d[n]?=some l:=by simpa using r
  refine ⟨setBlock w M (.map (d.modify n (fun C=>{ C with key:=enc k,val:=v })) c),?_,⟨d.modify n (fun C=>{ C with key:=enc k,val:=v }),c,s.set n (k,v),by simp [setBlock,g],I.modify r _ rfl,?_,?_,fun j=>?_⟩,Zof g⟩
  ·simp [Instr.mapUpdate,run_underlying ht,MapKept.run_getObj_map z,K.ck,B,N,F,Instr.keyThatStays,K.sm,MapKept.run_setObj_map _ z,Result.andThen,setBlock]
  ·rw [Array.toList_modify,modify_eq_set _ _ _ _ r,List.map_set,List.map_set,A]
  ·rw [List.map_set];have:(s.map (·.1)).set n k=s.map (·.1):=by
    apply List.ext_getElem?;intro i;rw [List.getElem?_set];split
    ·rename_i q;subst q;have x:n<(s.map (·.1)).length:=by have:=(List.getElem?_eq_some_iff.1 o).1;simpa using this
     rw [if_pos x];simp [o]
    ·rfl
   rw [this];exact D
  ·rw [Zn8 D o,G]
theorem MpF.del {t ty:TypeId} (ht:Tryz.prog.underlying t=some (.map kt et)) {w:World} {M:Nat} {f:κ→Option Value} (H:MpF enc w M f) (k:κ):
  ∃ w',(Builtin.delete_ #[t,kt] ty #[.map (some M),enc k]).run Tryz.prog w=.ok (.tuple #[]) w'∧MpF enc w' M (fun j=>if j=k then none else f j)∧w.grownBy w' (some M):=by
 have a:=H.map.lt;obtain ⟨b,c,o,g,x,i,r,v⟩:=H;have l:=K.fk w k b.toList o i;cases hl:lkK k o 0 with
 |none=>
  rw [hl] at l;have d:=Zn4 hl;refine ⟨setBlock w M (.map b c),?_,⟨b,c,o,by simp [setBlock,a],x,i,r,fun j=>?_⟩,Zof a⟩
  ·simp [Builtin.delete_,run_underlying ht,MapKept.run_getObj_map g,K.ck,l,MapKept.run_setObj_map _ g,Result.andThen,setBlock]
  ·dsimp only;by_cases q:j=k
   ·subst q;rw [if_pos rfl];exact d.1
   ·rw [if_neg q];exact v j
 |some p=>
  obtain ⟨n,u⟩:=p;rw [hl] at l;obtain ⟨-,-,d⟩:=Zn5 hl;rw [Nat.sub_zero] at d;have s:n<b.size:=by have y:=congrArg List.length i;simp only [List.length_map,Array.length_toList] at y;have:=(List.getElem?_eq_some_iff.1 d).1;omega
  have e:(b.eraseIdxIfInBounds n).toList=b.toList.eraseIdx n:=by unfold Array.eraseIdxIfInBounds;rw [dif_pos s];simp
  refine ⟨setBlock w M (.map (b.eraseIdxIfInBounds n) c),?_,⟨b.eraseIdxIfInBounds n,c,o.eraseIdx n,by simp [setBlock,a],x.erase n,?_,?_,fun j=>?_⟩,Zof a⟩
  ·simp [Builtin.delete_,run_underlying ht,MapKept.run_getObj_map g,K.ck,l,MapKept.run_setObj_map _ g,Result.andThen,setBlock]
  ·rw [e,map_eraseIdx,map_eraseIdx,i]
  ·rw [map_eraseIdx];exact r.sublist (List.eraseIdx_sublist _ _)
  ·rw [Zn9 r d,v]
theorem MpF.entry {t:TypeId} (ht:Tryz.prog.underlying t=some (.map kt et)) {z:Value} {w:World} {M:Nat} {f:κ→Option Value} (hz:(zeroValue et).run Tryz.prog w=.ok z w) (H:MpF enc w M f) (k:κ):
  ∃ (st:Nat) (w1:World),(Instr.mapEntry t (.map (some M)) (enc k)).run Tryz.prog w=.ok (.tuple #[(f k).getD z,goInt st]) w1∧w.grownBy w1 (some M)∧ZmK w1 M ∧
   ∀ (w2:World) (val:Value),w2.heap[M]?=w1.heap[M]?→∃ w3,(Instr.entryStore t (.map (some M)) (goInt st) val).run Tryz.prog w2=.ok () w3∧MpF enc w3 M (fun j=>if j=k then some val else f j)∧w2.grownBy w3 (some M):=by
 have s:=H.map.lt;obtain ⟨d,c,C,I,L,J,O,P⟩:=H;have N:=K.fk w k d.toList C J;rw [←P k];cases hl:lkK k C 0 with
 |none=>
  rw [hl] at N;have x:=Zn4 hl;rw [x.1];refine ⟨c,setBlock w M (.map (d.push ⟨enc k,z,c⟩) (c+1)),?_,Zof s,⟨_,_,by simp [setBlock,s];exact ⟨rfl,rfl⟩⟩,fun w2 val B=>?_⟩
  ·simp [Instr.mapEntry,run_underlying ht,MapKept.run_getObj_map I,K.ck,N,hz,MapKept.run_setObj_map _ I,Result.andThen,setBlock]
  have g:w2.heap[M]?=some (.map (d.push ⟨enc k,z,c⟩) (c+1)):=by rw [B];simp [setBlock,s]
  have o:M<w2.heap.size:=(Array.getElem?_eq_some_iff.1 g).1;have v:(d.push ⟨enc k,z,c⟩).findIdx? (fun e=>((e.born:Nat):Int) == ((c:Nat):Int))=some d.size:=by rw [findIdx_arr];exact findIdx_born (l:=(d.push ⟨enc k,z,c⟩).toList) (j:=d.size) (e0:=⟨enc k,z,c⟩) (L.push (enc k) z).2 (by simp)
  have F:(d.push ⟨enc k,z,c⟩).modify d.size (fun e=>{ e with val:=val })=d.push ⟨enc k,val,c⟩:=by apply Array.ext';rw [Array.toList_modify,Array.toList_push,Array.toList_push,←Array.length_toList,modify_last]
  refine ⟨setBlock w2 M (.map (d.push ⟨enc k,val,c⟩) (c+1)),?_,⟨d.push ⟨enc k,val,c⟩,c+1,C++[(k,val)],by simp [setBlock,o],L.push _ _,by simp [J],?_,fun j=>?_⟩,Zof o⟩
  ·simp [Instr.entryStore,MapKept.run_getObj_map g,asInt,asIntOf,goInt,v,F,MapKept.run_setObj_map _ g,Result.andThen,setBlock]
  ·rw [List.map_append,List.nodup_append];refine ⟨O,by simp,?_⟩;intro a R b Q;simp only [List.map_cons,List.map_nil,List.mem_singleton] at Q;subst Q;rintro rfl;exact x.2 R
  ·rw [Zn6 x.2,P]
 |some p=>
  obtain ⟨n,u⟩:=p;rw [hl] at N;obtain ⟨V,-,x⟩:=Zn5 hl;rw [V];rw [Nat.sub_zero] at x;have G:(d.toList.map (fun e=>(e.key,e.val)))[n]?=some (enc k,u):=by rw [J];simp [x]
  obtain ⟨e0,r,D⟩:∃ e0,d.toList[n]?=some e0∧(e0.key,e0.val)=(enc k,u):=by
   rw [List.getElem?_map] at G;cases hx:d.toList[n]? with
   | none=>rw [hx] at G;simp at G
   | some e0=>rw [hx] at G;exact ⟨e0,rfl,by simpa using G⟩
  have y:e0.key=enc k:=congrArg Prod.fst D;have W:e0.val=u:=congrArg Prod.snd D;have T:d[n]?=some e0:=by simpa using r
  have A:d.modify n (fun e=>{ e with key:=enc k })=d:=by
   apply Array.ext';rw [Array.toList_modify,modify_eq_set _ _ _ _ r];have:({ e0 with key:=enc k }:MapEntry)=e0:=by rw [←y]
   rw [this];exact set_self _ _ _ r
  refine ⟨e0.born,setBlock w M (.map d c),?_,Zof s,⟨_,_,by simp [setBlock,s];exact ⟨rfl,rfl⟩⟩,fun w2 val B=>?_⟩
  ·simp [Instr.mapEntry,run_underlying ht,MapKept.run_getObj_map I,K.ck,N,T,y,Instr.keyThatStays,K.sm,A,MapKept.run_setObj_map _ I,Result.andThen,setBlock]
  have g:w2.heap[M]?=some (.map d c):=by rw [B];simp [setBlock,s]
  have o:M<w2.heap.size:=(Array.getElem?_eq_some_iff.1 g).1;have v:d.findIdx? (fun e=>((e.born:Nat):Int) == ((e0.born:Nat):Int))=some n:=by rw [findIdx_arr];exact findIdx_born L.2 r
  refine ⟨setBlock w2 M (.map (d.modify n (fun e=>{ e with val:=val })) c),?_,⟨d.modify n (fun e=>{ e with val:=val }),c,C.set n (k,val),by simp [setBlock,o],L.modify r _ rfl,?_,?_,fun j=>?_⟩,Zof o⟩
  ·simp [Instr.entryStore,MapKept.run_getObj_map g,asInt,asIntOf,goInt,v,MapKept.run_setObj_map _ g,Result.andThen,setBlock]
  ·rw [Array.toList_modify,modify_eq_set _ _ _ _ r,List.map_set,List.map_set,J];simp [y]
  ·rw [List.map_set];have:(C.map (·.1)).set n k=C.map (·.1):=by
    apply List.ext_getElem?;intro i;rw [List.getElem?_set];split
    ·rename_i q;subst q;have E:n<(C.map (·.1)).length:=by have:=(List.getElem?_eq_some_iff.1 x).1;simpa using this
     rw [if_pos E];simp [x]
    ·rfl
   rw [this];exact O
  ·rw [Zn8 O x,P]
theorem Zog {t:TypeId} (ht:Tryz.prog.underlying t=some (.map kt et)) {z:Value} {w:World} {d:Array Oper} {b:List Oper} {o:Oper} {a:Act} {Q:Exit→Act→World→Prop} (l:o.guard=none) (m x:Operand) (i:Bool) (g:o.op=Op.lookup t m x i) {M:Nat} {f:κ→Option Value} (n:a.eval m=.map (some M)) (H:MpF enc w M f) (q:(zeroValue et).run Tryz.prog w=.ok z w) (k:κ) (p:a.eval x=enc k) (j:wpList Tryz.prog d Q b (a.put o.dst (if i then .tuple #[(f k).getD z,.bool (f k).isSome] else (f k).getD z)) w):wpList Tryz.prog d Q (o :: b) a w:=by refine wpList_plain l fun r e=>?_;have c:=H.look K ht q k i;unfold Oper.wp;simp [execOp,g,n,p,c,Result.andThen];exact e _ _ j
end
def Zoh (enc:κ→Value) (t:TypeId) (w1:World) (M:Nat) (f:κ→Option Value) (k:κ) (st:Nat):Prop:=
 ZmK w1 M∧∀ (w2:World) (val:Value),w2.heap[M]?=w1.heap[M]?→∃ w3,(Instr.entryStore t (.map (some M)) (goInt st) val).run Tryz.prog w2=.ok () w3∧MpF enc w3 M (fun j=>if j=k then some val else f j)∧w2.grownBy w3 (some M)
theorem Zoh.eq {t:TypeId}{w1 w2:World}{M:Nat}{f:κ→Option Value}{k:κ}{st:Nat} (E:Zoh enc t w1 M f k st) (h:w2.heap[M]?=w1.heap[M]?):Zoh enc t w2 M f k st:=by obtain ⟨⟨b,c,e⟩,E⟩:=E;exact ⟨⟨b,c,h.trans e⟩,fun g a d=>E g a (d.trans h)⟩
theorem Zoh.old {t:TypeId}{w1 w2:World}{M:Nat}{f:κ→Option Value}{k:κ}{st:Nat} (E:Zoh enc t w1 M f k st) (hb:Below w1.heap.size w1 w2):Zoh enc t w2 M f k st:=E.eq (hb.block M E.1.lt)
theorem Zoi {kt et:TypeId} (K:Zoa kt enc) {t:TypeId} (ht:Tryz.prog.underlying t=some (.map kt et)) {z:Value}{w:World}{o:Oper}{a:Act}{Q:Exit→Act→World→Prop}{e:Act→World→Prop} (m x:Operand) (d:o.op=Op.mapEntry t m x) {M:Nat}{f:κ→Option Value} (i:a.eval m=.map (some M)) (H:MpF enc w M f) (l:(zeroValue et).run Tryz.prog w=.ok z w) (k:κ) (j:a.eval x=enc k)
  (g:∀ c w1,w.grownBy w1 (some M)→Zoh enc t w1 M f k c→e (a.put o.dst (.tuple #[(f k).getD z,goInt c])) w1):o.wp Tryz.prog a w e Q:=by
 obtain ⟨c,w1,b,n,p,q⟩:=H.entry K ht l k;unfold Oper.wp;simp [execOp,d,i,j,b,Result.andThen];exact g c w1 n ⟨p,q⟩
theorem Zoj {t:TypeId}{w:World}{o:Oper}{a:Act}{Q:Exit→Act→World→Prop}{d:Act→World→Prop} (m s v:Operand) (c:o.op=Op.entryStore t m s v) {M:Nat}{f:κ→Option Value}{k:κ}{e:Nat} (i:a.eval m=.map (some M)) (E:Zoh enc t w M f k e) (l:a.eval s=goInt e) (u:Value) (n:a.eval v=u)
  (g:∀ w',MpF enc w' M (fun j=>if j=k then some u else f j)→w.grownBy w' (some M)→d (a.put o.dst undef) w'):o.wp Tryz.prog a w d Q:=by
 obtain ⟨w',b,p,q⟩:=E.2 w u rfl;unfold Oper.wp;simp [execOp,c,i,l,n,b,Result.andThen];exact g w' p q
section
variable {kt et:TypeId}(K:Zoa kt enc){t:TypeId}(ht:Tryz.prog.underlying t=some (.map kt et)){w:World}
include kt et K t ht w
theorem Zok {d:Array Oper} {b:List Oper} {o:Oper} {a:Act} {Q:Exit→Act→World→Prop} (l:o.guard=none) (m x v:Operand) (g:o.op=Op.mapUpdate t m x v) {M:Nat} {f:κ→Option Value} (n:a.eval m=.map (some M)) (H:MpF enc w M f) (k:κ) (q:a.eval x=enc k) (u:Value) (p:a.eval v=u) (i:∀ w',MpF enc w' M (fun j=>if j=k then some u else f j)→w.grownBy w' (some M)→wpList Tryz.prog d Q b (a.put o.dst undef) w'):wpList Tryz.prog d Q (o :: b) a w:=by refine wpList_plain l fun y e=>?_;obtain ⟨w',c,r,s⟩:=H.put K ht k u;unfold Oper.wp;simp [execOp,g,n,q,p,c,Result.andThen];exact e _ _ (i w' r s)
theorem Zol {o:Oper} {a:Act} {Q:Exit→Act→World→Prop} {d:Act→World→Prop} (m x v:Operand) (c:o.op=Op.mapUpdate t m x v) {M:Nat} {f:κ→Option Value} (g:a.eval m=.map (some M)) (H:MpF enc w M f) (k:κ) (l:a.eval x=enc k) (u:Value) (i:a.eval v=u) (e:∀ w',MpF enc w' M (fun j=>if j=k then some u else f j)→w.grownBy w' (some M)→d (a.put o.dst undef) w'):o.wp Tryz.prog a w d Q:=by obtain ⟨w',b,n,p⟩:=H.put K ht k u;unfold Oper.wp;simp [execOp,c,g,l,i,b,Result.andThen];exact e w' n p
end
end
end
section
def LeT (a b:T3):Prop:=a.1≤b.1∧a.2.1≤b.2.1∧a.2.2≤b.2.2
theorem LeT.refl (a:T3):LeT a a:=⟨Int.le_refl _,Int.le_refl _,Int.le_refl _⟩
theorem LeT.trans {a b c:T3} (h:LeT a b) (g:LeT b c):LeT a c:=⟨Int.le_trans h.1 g.1,Int.le_trans h.2.1 g.2.1,Int.le_trans h.2.2 g.2.2⟩
theorem Zom {a b:Int} (h:a≤b):Zms a≤Zms b:=by unfold Zms;split<;>split<;>omega
theorem Zon {a b:Int} (h:Bd a) (g:a≤b):a≤Zms b:=by unfold Bd at h;unfold Zms;split<;>omega
theorem LeT.pl {a b c d:T3} (h:LeT a c) (g:LeT b d):LeT (plT a b) (plT c d):=
 ⟨Zom (Int.add_le_add h.1 g.1),Zom (Int.add_le_add h.2.1 g.2.1),Zom (Int.add_le_add h.2.2 g.2.2)⟩
theorem LeT.pl_l {a b:T3} (h:BdT a) (g:BdT b):LeT a (plT a b):=
 ⟨Zon h.1 (by have:=g.1.1;omega),Zon h.2.1 (by have:=g.2.1.1;omega),Zon h.2.2 (by have:=g.2.2.1;omega)⟩
theorem Zoo (a b:Int):a≤Zmt a b:=by unfold Zmt;split<;>omega
theorem Zop (a b:Int):b≤Zmt a b:=by unfold Zmt;split<;>omega
theorem Zoq {a b c:Int} (h:a≤c) (g:b≤c):Zmt a b≤c:=by unfold Zmt;split<;>omega
theorem LeT.mx_l (a b:T3):LeT a (mxT a b):=⟨Zoo _ _,Zoo _ _,Zoo _ _⟩
theorem LeT.mx_r (a b:T3):LeT b (mxT a b):=⟨Zop _ _,Zop _ _,Zop _ _⟩
theorem LeT.mx {a b c:T3} (h:LeT a c) (g:LeT b c):LeT (mxT a b) c:=⟨Zoq h.1 g.1,Zoq h.2.1 g.2.1,Zoq h.2.2 g.2.2⟩
theorem Zor {m:Md} (l:Za2 m=true) {t:Ty}:∀ n∈ZmR m t,0≤n∧n≤48:=by
 intro n a;simp only [ZmR,List.mem_flatMap] at a;obtain ⟨x,o,a⟩:=a;obtain ⟨k,e,rfl⟩:=List.getElem_of_mem o;simp only [ZmQ,List.mem_map,List.mem_filter] at a;obtain ⟨i,⟨j,f⟩,rfl⟩:=a;have g:=(ZfQ l e).i i (by simpa [e] using j);simp only [ZmP,decide_eq_true_eq] at f;have b:i.op=15∨i.op=16:=f.elim (fun h=>.inl h.2) fun h=>.inr h.2.1;have c:=g.1;simp only [ZaR,Bool.and_eq_true] at c;have d:=c.1.1.2;rcases b with h|h<;>(rw [h] at d;simp [opA,inR,ZaQ,inI,ZaP] at d;omega)
theorem Zos {l:List Int}:∀ {a:Int},0≤a∧a≤48→(∀ n∈l,0≤n∧n≤48)→0≤ZmS l a∧ZmS l a≤48:=by
 induction l with
 | nil=>exact fun h _=>h
 |cons x r ih=>
  intro a h b;have d:=b x (by simp);exact ih (a:=Zmt a x) (by unfold Zmt;split<;>omega) fun n c=>b n (by simp [c])
theorem Zot {m:Md} (a:Za2 m=true) (t:Ty):0≤ZmT m t∧ZmT m t≤48:=Zos (by omega) (Zor a)
theorem Zou {l:List Int}:∀ {a:Int},a≤ZmS l a∧∀ n∈l,n≤ZmS l a:=by
 induction l with
 | nil=>exact fun {a}=>⟨Int.le_refl a,fun _ h=>by cases h⟩
 |cons x r ih=>
  intro a;obtain ⟨c,d⟩:=ih (a:=Zmt a x);refine ⟨Int.le_trans (Zoo a x) c,fun n b=>?_⟩;rcases List.mem_cons.1 b with rfl|b
  ·exact Int.le_trans (Zop a n) c
  ·exact d n b
theorem Zov {l:List Int}:∀ {a:T3},BdT a→(∀ n∈l,0≤n∧n≤48)→BdT (ZmU l a):=by
 induction l with
 | nil=>exact fun h _=>h
 |cons x r ih=>
  intro a h b;have d:=b x (by simp);exact ih (a:=mxT a (ZmD x true)) (h.mx (ZmO (by omega) (by omega))) fun n c=>b n (by simp [c])
theorem Zow {m:Md} (a:Za2 m=true) (t:Ty):BdT (ZmV m t):=Zov .z (Zor a)
theorem Zox {l:List Int}:∀ {a:T3},LeT a (ZmU l a)∧∀ n∈l,LeT (ZmD n true) (ZmU l a):=by
 induction l with
 | nil=>exact fun {a}=>⟨.refl a,fun _ h=>by cases h⟩
 |cons x r ih=>
  intro a;obtain ⟨c,d⟩:=ih (a:=mxT a (ZmD x true));refine ⟨(LeT.mx_l a _).trans c,fun n b=>?_⟩;rcases List.mem_cons.1 b with rfl|b
  ·exact (LeT.mx_r a _).trans c
  ·exact d n b
theorem Zoy {m:Md} (c:Za2 m=true) {d:Nat} (b:d<m.cl.length):BdT (szC m d):=by have a:=ZfK c d b;simp only [ZaL,Bool.and_eq_true,decide_eq_true_eq] at a;have:=a.1.1.1.1.2;exact ZmO (by omega) (by unfold fsC;omega)
theorem Zoz {F:Ty→Option T3}:∀ {l:List Ty}{a s:T3},BdT a→(∀ t∈l,∀ x,F t=some x→BdT x)→ZmZ F a l=some s→BdT s∧LeT a s
 | [],a,s,h,_,e=>by obtain rfl:=Option.some.inj e;exact ⟨h,.refl _⟩
 |t :: r,a,s,h,hF,e=>by
  unfold ZmZ at e;cases hf:F t with
  | none=>rw [hf] at e;cases e
  |some x=>
   rw [hf] at e;have b:=hF t (by simp) x hf;obtain ⟨c,d⟩:=Zoz (h.pl b) (fun u f=>hF u (by simp [f])) e;exact ⟨c,(LeT.pl_l h b).trans d⟩
theorem ZoA {m:Md} (a:Za2 m=true) {V:Nat→Option T3} (b:∀ c,c<m.cl.length→∀ x,V c=some x→BdT x) {t:Ty} (ht:Zfk m t):∀ x,ZmY m V t=some x→BdT x:=by
 intro x e;unfold ZmY at e;split at e
 ·obtain rfl:=Option.some.inj e;exact Zow a t
 ·split at e
  ·rename_i q;have:=ZfH ht (.inl q);exact b _ (by omega) x e
  ·split at e
   ·rename_i q;have:=ZfH ht (.inr q);split at e
    ·obtain rfl:=Option.some.inj e;exact Zow a t
    ·cases hv:V t.c.toNat with
     | none=>rw [hv] at e;cases e
     |some y=>
      rw [hv] at e;obtain rfl:=Option.some.inj e;exact (Zow a t).pl ((b _ (by omega) y hv).ml (Zot a t).1)
   ·obtain rfl:=Option.some.inj e;exact .z
theorem ZoB {m:Md} (b:Za2 m=true) {V:Nat→Option T3} (f:∀ c,c<m.cl.length→∀ x,V c=some x→BdT x):∀ {l:List Nat}{a s:T3},BdT a→(∀ d∈l,d<m.cl.length)→Zm0 m V a l=some s→BdT s∧LeT a s
 | [],a,s,h,_,e=>by obtain rfl:=Option.some.inj e;exact ⟨h,.refl _⟩
 |d :: r,a,s,h,hl,e=>by
  unfold Zm0 at e;cases hf:ZmZ (ZmY m V) (szC m d) (fsC m d) with
  | none=>rw [hf] at e;cases e
  |some x=>
   rw [hf] at e;have g:=hl d (by simp);obtain ⟨n,-⟩:=Zoz (Zoy b g) (fun t ht=>ZoA b f (Zm9 b g t ht)) hf;obtain ⟨i,j⟩:=ZoB b f (h.mx n) (fun u k=>hl u (by simp [k])) e;exact ⟨i,(LeT.mx_l a x).trans j⟩
theorem ZoC {m:Md} (a:Za2 m=true):∀ n c,c<m.cl.length→∀ x,Zm1 m n c=some x→BdT x
 | 0,_,_,_,e=>by cases e
 | n+1,c,_,x,e=>(ZoB a (ZoC a n) .z (fun _ b=>Zm8 b) e).1
theorem ZoD {m:Md} (b:Za2 m=true) {c:Nat} (a:c<m.cl.length) {x:T3} (e:Zm2 m c=some x):BdT x:=ZoC b _ c a x e
theorem ZoE {m:Md} (a:Za2 m=true) {t:Ty} (ht:Zfk m t) {x:T3} (e:Zm3 m t=some x):BdT x:=ZoA a (fun _ b _ e=>ZoD a b e) ht x e
theorem ZoF {m:Md} (b:Za2 m=true) {V:Nat→Option T3} (f:∀ c,c<m.cl.length→∀ x,V c=some x→BdT x):∀ {l:List Nat}{a s:T3}{d:Nat},BdT a→(∀ d∈l,d<m.cl.length)→Zm0 m V a l=some s→d∈l→∃ x,ZmZ (ZmY m V) (szC m d) (fsC m d)=some x∧LeT x s
 |e0 :: r,a,s,d,h,hl,e,hd=>by
  unfold Zm0 at e;cases hf:ZmZ (ZmY m V) (szC m e0) (fsC m e0) with
  | none=>rw [hf] at e;cases e
  |some x=>
   rw [hf] at e;have i:=hl e0 (by simp);obtain ⟨j,-⟩:=Zoz (Zoy b i) (fun t ht=>ZoA b f (Zm9 b i t ht)) hf;rcases List.mem_cons.1 hd with rfl|hd
   ·exact ⟨x,hf,(LeT.mx_r a x).trans (ZoB b f (h.mx j) (fun u g=>hl u (by simp [g])) e).2⟩
   ·exact ZoF b f (h.mx j) (fun u g=>hl u (by simp [g])) e hd
def ZoG (T:Nat→Option T3):T3→List Int→Option T3
 | a,[]=>some a
 | a,t :: r=>match T t.toNat with|none=>none|some x=>ZoG T (mxT a x) r
def ZoH (m:Md) (T:Nat→Option T3) (i:In3):Option T3:=
 if i.op=25 then T i.a.toNat else if i.op=26 then ZoG T z3 (ZaO m i.a) else if i.op=14 then Zm3 m ⟨2,i.a⟩ else if i.op=15 then Zm3 m ⟨3,0⟩ else if i.op=16 then Zm3 m ⟨4,i.b⟩ else some z3
def ZoI (m:Md) (k p:Nat):List Ty:=(ZeI m k).1.getD p []
def ZoJ (m:Md) (k p:Nat):Option T3:=ZmZ (Zm3 m) z3 (ZeH (m.me.getD k default)++ZoI m k p)
def ZoK (m:Md) (T:Nat→Option T3) (k p:Nat):Option T3:=
 match ZoJ m k p with
 | none=>none
 | some x=>if p<(cdM m k).length then (match ZoH m T ((cdM m k).getD p default) with|none=>none|some y=>some (plT x y)) else some x
def ZoL (m:Md) (T:Nat→Option T3) (k:Nat):Nat→Nat→T3→Option T3
 | 0,_,a=>some a
 | n+1,p,a=>match ZoK m T k p with|none=>none|some x=>ZoL m T k n (p+1) (mxT a x)
def mtN (m:Md):Nat→Nat→Option T3
 | 0,_=>none
 | n+1,k=>ZoL m (mtN m n) k ((cdM m k).length+1) 0 z3
def ZoM (m:Md) (k:Nat):Option T3:=mtN m (k+1) k
end
section
open Go.RowKit
structure UpL (S:List Nat) (a b:World):Prop where
 os:b.os=a.os
 tape:b.tape=a.tape
 output:b.output=a.output
 size:a.heap.size≤b.heap.size
 block:∀ k,k<a.heap.size→k ∉ S→b.heap[k]?=a.heap[k]?
theorem UpL.refl (S:List Nat) (w:World):UpL S w w:=⟨rfl,rfl,rfl,Nat.le_refl _,fun _ _ _=>rfl⟩
theorem UpL.trans {S:List Nat}{a b c:World} (h:UpL S a b) (k:UpL S b c):UpL S a c:=
 ⟨k.os.trans h.os,k.tape.trans h.tape,k.output.trans h.output,Nat.le_trans h.size k.size,fun i e d=>(k.block i (Nat.lt_of_lt_of_le e h.size) d).trans (h.block i e d)⟩
theorem UpL.of {S:List Nat}{a b:World} (h:Below a.heap.size a b):UpL S a b:=⟨h.os,h.tape,h.output,h.size,fun k c _=>h.block k c⟩
theorem UpL.grown {S:List Nat}{a b:World}{M:Nat} (hg:a.grownBy b (some M)) (hM:M∈S):UpL S a b:=
 ⟨hg.os,hg.tape,hg.output,hg.size,fun q d c=>hg.block q d fun e=>c (by cases e;exact hM)⟩
theorem UpL.below {S:List Nat}{N:Nat}{w0 a b:World} (h:UpL S a b) (hb:Below N w0 a) (hN:N≤w0.heap.size) (hS:∀ k∈S,N≤k):Below N w0 b:=
 ⟨h.os.trans hb.os,h.tape.trans hb.tape,h.output.trans hb.output,Nat.le_trans hb.size h.size,fun k c=>(h.block k (by have:=hb.size;omega) (fun q=>by have:=hS k q;omega)).trans (hb.block k c)⟩
theorem UpL.blk {S:List Nat}{a b:World} (h:UpL S a b) {B:Nat}{xs:Array Value}{t:TypeId} (H:Blk a B xs t) (hn:B ∉ S):Blk b B xs t:=(h.block B H.lt hn).trans H
theorem UpL.set {S:List Nat}{a b:World}{B i:Nat}{v:Value} (h:UpL S a b) (hB:a.heap.size≤B):UpL S a (b.setCell ⟨B,i,none⟩ v):=
 ⟨h.os,h.tape,h.output,by simp [World.setCell];exact h.size,fun k d c=>by
  rw [Below.heap_setCell _ _ _ _ (show k≠B by omega)];exact h.block k d c⟩
theorem ZoN {w w':World}{M:Nat} (b:ZmK w M) (f:w.grownBy w' (some M)):ZmI w w':=fun p v a=>by
 obtain ⟨g,c,b⟩:=b
 have d:p.block≠M:=fun e=>by unfold World.cell? at a;rw [e,b] at a;simp at a
 exact (World.cell?_of_block (w:=w) (f.block _ (Zad a) fun e=>d (Option.some.inj e))).trans a
theorem ZoO {w:World}{B M:Nat}{b:Array Value}{t:TypeId} (h:Blk w B b t) (a:ZmK w M):B≠M:=by rintro rfl;obtain ⟨d,c,a⟩:=a;have h:w.heap[B]?=_:=h;rw [a] at h;cases h
structure MsL where
 l:Nat
 a:Nat
 u:Nat
 k:Nat
 t:Nat
def MsL.s (M:MsL):List Nat:=[M.u,M.k,M.t]
def ZoP (w:World) (o:Option Value) (l:List Int):Prop:=(o=none∧l=[])∨∃ ao cap,o=some (.slice ao l.length cap)∧Zas w ao cap l
theorem ZoP.keeps {w w':World}{o:Option Value}{l:List Int} (h:ZoP w o l) (hk:ZmI w w'):ZoP w' o l:=by
 rcases h with h|⟨ao,cap,h1,h2⟩
 ·exact .inl h
 ·exact .inr ⟨ao,cap,h1,ZmJ h2 hk⟩
def mdF (m:Md) (c:Int):Option Value:=if 0≤c∧ZmW m c.toNat=true then some (.bool true) else none
def unF (U:List Nat) (c:Int):Option Value:=if ∃ u∈U,c=(u:Int) then some (.bool true) else none
def ZoQ (V:Nat→Option T3) (n:Nat) (f:Int→Option Value):Prop:=∀ c v,f c=some v→∃ (d:Nat) (y:T3),c=d∧d<n∧v=ag3 y∧V d=some y
theorem ZoQ.put {V:Nat→Option T3}{n:Nat}{f:Int→Option Value} (h:ZoQ V n f) {d:Nat}{y:T3} (hd:d<n) (hy:V d=some y):ZoQ V n (fun j=>if j=(d:Int) then some (ag3 y) else f j):=fun c v e=>by
 dsimp only at e
 split at e
 ·rename_i q;exact ⟨d,y,q,hd,(Option.some.inj e).symm,hy⟩
 ·exact h c v e
theorem ZoQ.at {V:Nat→Option T3}{n:Nat}{f:Int→Option Value} (h:ZoQ V n f) {d:Nat}:f d=none∨∃ y,f d=some (ag3 y)∧V d=some y:=by
 cases e:f d with
 | none=>exact .inl rfl
 |some v=>
  obtain ⟨a,y,g,-,b,c⟩:=h d v e;have:a=d:=by omega
  subst this;exact .inr ⟨y,by rw [b],c⟩
structure ZoR (w:World) (S:Nat) (M:MsL) (h:Hd) (m:Md) (U:List Nat):Prop where
 bk:Blk w S #[.slice h.co m.cl.length h.cc,.slice h.so m.st.length h.sc,.slice h.eo m.me.length h.ec,.int .i64 m.sel,.map (some M.l),.map (some M.a),.map (some M.u),.map (some M.k),.map (some M.t)] 176
 md:Zaz w h m
 ln:∃ f,MpF kT w M.l f∧∀ t,Zfk m t→ZoP w (f t) (ZmR m t)
 ma:MpF kI w M.a (mdF m)
 un:MpF kI w M.u (unF U)
 kn:∃ f,MpF kI w M.k f∧ZoQ (Zm2 m) m.cl.length f
 mt:∃ f,MpF kI w M.t f∧ZoQ (ZoM m) m.me.length f
 nd:[M.l,M.a,M.u,M.k,M.t].Nodup
section
variable {w w':World}{S:Nat}{M:MsL}{h:Hd}{m:Md}{U:List Nat}
theorem ZoR.old (H:ZoR w S M h m U) (hb:Below w.heap.size w w'):ZoR w' S M h m U:=by obtain ⟨d,e,⟨f,i,a⟩,j,l,⟨g,n,b⟩,⟨k,o,c⟩,p⟩:=H;exact ⟨d.old hb,e.old hb,⟨f,i.old hb,fun t ht=>(a t ht).keeps (ZmI.of hb)⟩,j.old hb,l.old hb,⟨g,n.old hb,b⟩,⟨k,o.old hb,c⟩,p⟩
theorem ZoR.blk_ne (H:ZoR w S M h m U) {B:Nat}{xs:Array Value}{t:TypeId} (hB:Blk w B xs t):B ∉ M.s:=by
 intro q;simp only [MsL.s,List.mem_cons,List.not_mem_nil,or_false] at q;rcases q with q|q|q
 ·exact ZoO hB H.un.map q
 ·obtain ⟨f,h,-⟩:=H.kn;exact ZoO hB h.map q
 ·obtain ⟨f,h,-⟩:=H.mt;exact ZoO hB h.map q
theorem ZoR.putU (H:ZoR w S M h m U) (hg:w.grownBy w' (some M.u)) {V:List Nat} (hs:MpF kI w' M.u (unF V)):ZoR w' S M h m V:=by obtain ⟨b,s,⟨f,j,c⟩,l,n,⟨g,o,d⟩,⟨k,q,i⟩,h8⟩:=H;have r:=ZoN n.map hg;have a:∀ x,x≠M.u→some x≠some M.u:=fun x u e=>u (Option.some.inj e);simp only [List.nodup_cons,List.mem_cons,List.not_mem_nil,or_false,not_or,not_false_eq_true,List.nodup_nil,and_true] at h8;refine ⟨(hg.block S b.lt (a _ (ZoO b n.map))).trans b,s.keeps r,⟨f,j.eq (hg.block _ j.map.lt (a _ h8.1.2.1)),fun t ht=>(c t ht).keeps r⟩,l.eq (hg.block _ l.map.lt (a _ h8.2.1.1)),hs,⟨g,o.eq (hg.block _ o.map.lt (a _ (fun e=>h8.2.2.1.1 e.symm))),d⟩,⟨k,q.eq (hg.block _ q.map.lt (a _ (fun e=>h8.2.2.1.2 e.symm))),i⟩,?_⟩;exact j7
theorem ZoR.putK (H:ZoR w S M h m U) (hg:w.grownBy w' (some M.k)) {g:Int→Option Value} (hs:MpF kI w' M.k g) (hok:ZoQ (Zm2 m) m.cl.length g):ZoR w' S M h m U:=by obtain ⟨b,r,⟨f,i,c⟩,j,l,⟨v,n,s⟩,⟨k,o,d⟩,h8⟩:=H;have q:=ZoN n.map hg;have a:∀ x,x≠M.k→some x≠some M.k:=fun x u e=>u (Option.some.inj e);simp only [List.nodup_cons,List.mem_cons,List.not_mem_nil,or_false,not_or,not_false_eq_true,List.nodup_nil,and_true] at h8;refine ⟨(hg.block S b.lt (a _ (ZoO b n.map))).trans b,r.keeps q,⟨f,i.eq (hg.block _ i.map.lt (a _ h8.1.2.2.1)),fun t ht=>(c t ht).keeps q⟩,j.eq (hg.block _ j.map.lt (a _ h8.2.1.2.1)),l.eq (hg.block _ l.map.lt (a _ h8.2.2.1.1)),⟨g,hs,hok⟩,⟨k,o.eq (hg.block _ o.map.lt (a _ (fun e=>h8.2.2.2 e.symm))),d⟩,?_⟩;exact j7
end
theorem ZoS {U:List Nat}{c:Nat} (j:Int):(if j=(c:Int) then some (Value.bool true) else unF U j)=unF (c :: U) j:=by
 unfold unF;by_cases q:j=(c:Int)
 ·rw [if_pos q,if_pos ⟨c,by simp,q⟩]
 ·rw [if_neg q];by_cases r:∃ u∈U,j=(u:Int)
  ·obtain ⟨u,a,e⟩:=r;rw [if_pos ⟨u,a,e⟩,if_pos ⟨u,by simp [a],e⟩]
  ·rw [if_neg r,if_neg];rintro ⟨u,a,e⟩;rcases List.mem_cons.1 a with rfl|a
   ·exact q e
   ·exact r ⟨u,a,e⟩
theorem ZoT {U:List Nat}{c:Nat} (a:c ∉ U) (j:Int):(if j=(c:Int) then none else unF (c :: U) j)=unF U j:=by
 rw [←ZoS];by_cases q:j=(c:Int)
 ·rw [if_pos q];unfold unF;rw [if_neg];rintro ⟨u,b,e⟩;have:u=c:=by omega
  subst this;exact a b
 ·rw [if_neg q,if_neg q]
theorem ZoU {U:List Nat}{c:Nat}:(unF U c).isSome=decide (c∈U):=by unfold unF;exact j6
def ZoV (w:World) (S:Nat) (M:MsL) (h:Hd) (m:Md) (U:List Nat) (v:Option T3) (stuck:Prop):Ending→World→Prop:=fun e w'=>ZoR w' S M h m U∧UpL M.s w w'∧ZmI w w'∧∃ x ok,e=.returned (.tuple #[ag3 x,.bool ok])∧BdT x∧(ok=true→v=some x)∧(ok=false→stuck)
def ZoW (m:Md) (U:List Nat) (t:Ty):Prop:=∃ d,Znl m t d∧Znu m U d
def ZoX (S:Nat) (M:MsL) (h:Hd) (m:Md) (n:Nat):Prop:=∀ w U c,ZoR w S M h m U→U.Nodup→(∀ u∈U,u<m.cl.length)→m.cl.length-U.length≤n→c<m.cl.length →
 Calls Tryz.prog 90 #[ZQ.p S,.int .i64 (c:Nat)] w (ZoV w S M h m U (Zm2 m c) (Znu m U c))
def ZoY (S:Nat) (M:MsL) (h:Hd) (m:Md) (n:Nat):Prop:=∀ w U t,ZoR w S M h m U→U.Nodup→(∀ u∈U,u<m.cl.length)→m.cl.length-U.length≤n→Zfk m t →
 Calls Tryz.prog 77 #[ZQ.p S,.agg #[.int .i64 t.k,.int .i64 t.c]] w (ZoV w S M h m U (Zm3 m t) (ZoW m U t))
end
section
theorem ZoZ {a b c:Int} (d:0≤a) (e:0≤b) (f:0≤c):Zms (Zms (a+b)+c)=Zms (a+Zms (b+c)):=by
 unfold Zms;split<;>split<;>split<;>split<;>omega
theorem Zo0 {a b c:T3} (d:BdT a) (e:BdT b) (f:BdT c):plT (plT a b) c=plT a (plT b c):=by unfold plT;rw [ZoZ d.1.1 e.1.1 f.1.1,ZoZ d.2.1.1 e.2.1.1 f.2.1.1,ZoZ d.2.2.1 e.2.2.1 f.2.2.1]
theorem Zo1 {a:Int} (h:Bd a):Zms a=a:=if_pos h.2
theorem Zo2 {a:T3} (h:BdT a):plT a z3=a:=by unfold plT z3;simp only [Int.add_zero,Zo1 h.1,Zo1 h.2.1,Zo1 h.2.2]
theorem Zo3 (a:T3):mlT a 0=z3:=by simp [mlT,z3,Zms]
theorem Zo4 {x n:Int} (h:0≤x) (b:0≤n):Zms (x*(n+1))=Zms (Zms (x*n)+x):=by
 have a:0≤x*n:=Int.mul_nonneg h b;rw [Int.mul_add,Int.mul_one];generalize x*n=y at a;have e:∀ z:Int,Zms z=if z≤1000000001 then z else 1000000001:=fun _=>rfl;rw [e (y+x),e y];by_cases q:y≤1000000001
 ·rw [if_pos q,e]
 ·rw [if_neg q,e,if_neg (by omega)];split<;>omega
theorem Zo5 {a:T3}{n:Int} (h:BdT a) (b:0≤n):mlT a (n+1)=plT (mlT a n) a:=by unfold mlT plT;rw [Zo4 h.1.1 b,Zo4 h.2.1.1 b,Zo4 h.2.2.1 b]
theorem Zo6 {x a b:Int} (h:0≤x) (c:a≤b):Zms (x*a)≤Zms (x*b):=Zom (Int.mul_le_mul_of_nonneg_left c h)
theorem Zo7 {x:T3} (h:BdT x) {a b:Int} (c:a≤b):LeT (mlT x a) (mlT x b):=⟨Zo6 h.1.1 c,Zo6 h.2.1.1 c,Zo6 h.2.2.1 c⟩
end
