import Derived.Test.YtfmcclhfnpcokaaGreatG4
import Derived.WideKeyEntry
set_option linter.all false
namespace Go.Proofs.YtfmcclhfnpcokaaGreat
section
open Go.RowKit Go.Maps
def Zna (w w':World):Prop:=∀ p v,w.cell? p=some v→w'.cell? p=some v
theorem Zna.refl (w:World):Zna w w:=fun _ _ h=>h
theorem Zna.trans {a b c:World} (h:Zna a b) (k:Zna b c):Zna a c:=fun p v q=>k p v (h p v q)
theorem Zna.of {a b:World} (h:Below a.heap.size a b):Zna a b:=fun _ _ c=>(h.cell (Zad c)).trans c
theorem Znb {α:Type} [Cells α] {w w':World}{ao:Option Addr}{c:Nat}{L:List α} (h:Zas w ao c L) (e:Zna w w'):Zas w' ao c L:=
 ⟨h.1,h.2.1,fun j u f=>by obtain ⟨a,b,d⟩:=h.2.2 j u f;exact ⟨a,b,e _ _ d⟩⟩
theorem Zaz.keeps {w w':World}{h:Hd}{m:Md} (H:Zaz w h m) (hk:Zna w w'):Zaz w' h m:=
 ⟨Znb H.cl hk,Znb H.st hk,Znb H.me hk,fun i a=>Znb (H.f i a) hk,fun i a=>Znb (H.t i a) hk,fun i a=>Znb (H.p i a) hk,fun i a=>Znb (H.l i a) hk,fun i a=>Znb (H.k i a) hk,H.bf,H.bm,H.bz⟩
theorem Cs.keeps {w w':World} (hk:Zna w w'):∀ {l:List (Addr × Value)},Cs l w→Cs l w'
 | [],_=>trivial
 | (_,_) :: _,h=>⟨hk _ _ h.1,Cs.keeps hk h.2⟩
def Znc (w:World) (M:Nat):Prop:=∃ es c,w.heap[M]?=some (.map es c)
theorem Znd:∀ (n:Nat) (l:List Nat),l.Nodup→(∀ k∈l,k<n)→l.length≤n
 | 0,l,_,h=>by
  cases l with
  | nil=>simp
  | cons x r=>have:=h x (by simp);omega
 | n+1,l,hn,h=>by
  have f:=Znd n (l.filter fun x=>decide (x≠n)) (hn.filter _) (fun k b=>by simp at b;have:=h k b.1;omega);have c:∀ l:List Nat,l.Nodup→l.length≤(l.filter fun x=>decide (x≠n)).length+1:=by
   intro l
   induction l with
   | nil=>intro _;simp
   | cons x r ih=>
    intro a;rw [List.nodup_cons] at a;by_cases hx:x=n
    ·have:r.filter (fun x=>decide (x≠n))=r:=List.filter_eq_self.2 fun y d=>by have:y≠n:=fun e=>a.1 (by rw [hx,←e];exact d);simp [this]
     rw [List.filter_cons_of_neg (by simp [hx]),this];simp
    ·have:=ih a.2;rw [List.filter_cons_of_pos (by simp [hx])];simp only [List.length_cons];omega
  have:=c l hn;omega
theorem Znc.lt {w:World}{M:Nat} (H:Znc w M):M<w.heap.size:=by obtain ⟨a,c,h⟩:=H;exact (Array.getElem?_eq_some_iff.1 h).1
def Bd (n:Int):Prop:=0≤n∧n≤1000000001
def cdM (m:Md) (k:Nat):List In3:=(m.me.getD k default).k
end
section
open Go.RowKit Go.Maps
open Go.ChangeMaps (setBlock map_eraseIdx modify_eq_set)
open Go.WideElems (findIdx_born findIdx_arr modify_last set_self)
def lkK {κ:Type} [DecidableEq κ] (k:κ):List (κ × Value)→Nat→Option (Nat × Value)
 | [],_=>none
 | (j,v) :: r,i=>if k=j then some (i,v) else lkK k r (i+1)
def asK {κ:Type} [DecidableEq κ] (k:κ):List (κ × Value)→Option Value
 | []=>none
 | (j,v) :: r=>if k=j then some v else asK k r
section
variable {κ:Type} [DecidableEq κ]
theorem Zne {k:κ}:∀ {l:List (κ × Value)}{i:Nat},lkK k l i=none→asK k l=none∧k ∉ l.map (·.1)
 | [],_,_=>⟨rfl,by simp⟩
 | (j,v) :: r,i,h=>by
  unfold lkK at h;split at h
  ·cases h
  ·rename_i q;obtain ⟨a,b⟩:=Zne h;unfold asK;rw [if_neg q];exact ⟨a,by simp only [List.map_cons,List.mem_cons,not_or];exact ⟨q,b⟩⟩
theorem Znf {k:κ}:∀ {l:List (κ × Value)}{i n:Nat}{v:Value},lkK k l i=some (n,v)→asK k l=some v∧i≤n∧l[n-i]?=some (k,v)
 | [],_,_,_,h=>by cases h
 | (j,u) :: r,i,n,v,h=>by
  unfold lkK at h;unfold asK;split at h
  ·rename_i q;obtain ⟨rfl,rfl⟩:=Prod.mk.inj (Option.some.inj h);rw [if_pos q];subst q;exact ⟨rfl,Nat.le_refl _,by simp⟩
  ·rename_i q;obtain ⟨a,c,b⟩:=Znf h;rw [if_neg q];refine ⟨a,by omega,?_⟩;rw [show n-i=(n-(i+1))+1 by omega];simpa using b
theorem Zng {k j:κ}{v:Value}:∀ {l:List (κ × Value)},j ∉ l.map (·.1)→asK k (l++[(j,v)])=if k=j then some v else asK k l
 | [],_=>by simp [asK]
 | (i,u) :: r,h=>by
  simp only [List.map_cons,List.mem_cons,not_or] at h;simp only [List.cons_append,asK];by_cases q:k=i
  ·rw [if_pos q,if_neg (by rw [q];exact fun e=>h.1 e.symm),if_pos q]
  ·rw [if_neg q,if_neg q];exact Zng h.2
theorem Znh {k:κ}:∀ {l:List (κ × Value)},k ∉ l.map (·.1)→asK k l=none
 | [],_=>rfl
 | (i,u) :: r,h=>by simp only [List.map_cons,List.mem_cons,not_or] at h;unfold asK;rw [if_neg h.1];exact Znh h.2
theorem Zni {k j:κ}{v u:Value}:∀ {l:List (κ × Value)}{n:Nat},(l.map (·.1)).Nodup→l[n]?=some (j,u)→asK k (l.set n (j,v))=if k=j then some v else asK k l
 | [],n,_,h=>by simp at h
 | (i,x) :: r,0,_,h=>by
  simp only [List.getElem?_cons_zero,Option.some.injEq] at h;obtain ⟨rfl,rfl⟩:=Prod.mk.inj h;simp only [List.set_cons_zero,asK];split<;>rfl
 | (i,x) :: r,n+1,hn,h=>by
  simp only [List.map_cons,List.nodup_cons] at hn;simp only [List.getElem?_cons_succ] at h;simp only [List.set_cons_succ,asK];have a:j∈r.map (·.1):=List.mem_map.2 ⟨_,List.mem_of_getElem? h,rfl⟩;by_cases q:k=i
  ·rw [if_pos q,if_neg (by rintro rfl;exact hn.1 (q▸a)),if_pos q]
  ·rw [if_neg q,if_neg q];exact Zni hn.2 h
theorem Znj {k j:κ}{u:Value}:∀ {l:List (κ × Value)}{n:Nat},(l.map (·.1)).Nodup→l[n]?=some (j,u)→asK k (l.eraseIdx n)=if k=j then none else asK k l
 | [],n,_,h=>by simp at h
 | (i,x) :: r,0,hn,h=>by
  simp only [List.getElem?_cons_zero,Option.some.injEq] at h;obtain ⟨rfl,rfl⟩:=Prod.mk.inj h;simp only [List.map_cons,List.nodup_cons] at hn;simp only [List.eraseIdx_cons_zero,asK];split
  ·rename_i q;subst q;exact Znh hn.1
  ·rfl
 | (i,x) :: r,n+1,hn,h=>by
  simp only [List.map_cons,List.nodup_cons] at hn;simp only [List.getElem?_cons_succ] at h;simp only [List.eraseIdx_cons_succ,asK];have a:j∈r.map (·.1):=List.mem_map.2 ⟨_,List.mem_of_getElem? h,rfl⟩;by_cases q:k=i
  ·rw [if_pos q,if_neg (by rintro rfl;exact hn.1 (q▸a)),if_pos q]
  ·rw [if_neg q,if_neg q];exact Znj hn.2 h
end
structure Znk {κ:Type} [DecidableEq κ] (kt:TypeId) (enc:κ→Value):Prop where
 ck:∀ (b:Bool) (w:World) (k:κ),(Instr.checkKey b 10000 kt (enc k)).run Tryz.prog w=.ok () w
 fk:∀ (w:World) (k:κ) (es:List MapEntry) (kv:List (κ × Value)),es.map (fun e=>(e.key,e.val))=kv.map (fun p=>(enc p.1,p.2))→(Instr.findKey kt (enc k) es).run Tryz.prog w=.ok (lkK k kv 0) w
 sm:∀ k,Instr.sameBits 10000 (enc k) (enc k)=true
def kI (k:Int):Value:=.int .i64 k
def kT (t:Ty):Value:=.agg #[.int .i64 t.k,.int .i64 t.c]
theorem Znl (k:Int):∀ (a:List MapEntry) (b:List (Int × Value)) (i:Nat),a.map (fun e=>(e.key,e.val))=b.map (fun p=>(kI p.1,p.2))→Instr.findNow (.int .i64) (kI k) a i=some (lkK k b i)
 | [],[],_,_=>rfl
 | [],_ :: _,_,h=>by simp at h
 | _ :: _,[],_,h=>by simp at h
 | e :: a,(j,v) :: b,i,h=>by
  simp only [List.map_cons,List.cons.injEq,Prod.mk.injEq] at h;obtain ⟨⟨c,d⟩,f⟩:=h;unfold Instr.findNow lkK;rw [c];simp only [kI,Instr.sameNow,if_true];by_cases q:k=j
  ·subst q;simp [d]
  ·have:(k == j)=false:=by simpa using q
   rw [this,if_neg q];exact Znl k a b (i+1) f
theorem Znm:Znk 3 kI where
 ck b w k:=by unfold Instr.checkKey kI;simp [run_underlying Tryz.underlying3,Result.andThen]
 fk w k es kv h:=by unfold Instr.findKey;simp [run_underlying Tryz.underlying3,Result.andThen,Znl k es kv 0 h]
 sm k:=by simp [kI,Instr.sameBits]
theorem Znn (w:World) (t:Ty):∀ (a:List MapEntry) (b:List (Ty × Value)) (i:Nat),a.map (fun e=>(e.key,e.val))=b.map (fun p=>(kT p.1,p.2))→(Instr.findAsking 38 (kT t) a i).run Tryz.prog w=.ok (lkK t b i) w
 | [],[],_,_=>rfl
 | [],_ :: _,_,h=>by simp at h
 | _ :: _,[],_,h=>by simp at h
 | e :: a,(j,v) :: b,i,h=>by
  simp only [List.map_cons,List.cons.injEq,Prod.mk.injEq] at h;obtain ⟨⟨c,d⟩,f⟩:=h;unfold Instr.findAsking lkK;rw [c];have g:(Op.equal 38 (kT t) (kT j)).run Tryz.prog w=.ok (decide (t=j)) w:=ZdW w t.k t.c j.k j.c;simp only [Sem.run_bind,g,Result.andThen_ok];by_cases q:t=j
  ·simp [q,d]
  ·simp only [q,decide_false];exact Znn w t a b (i+1) f
theorem Zno:Znk 38 kT where
 ck b w k:=by kernel_rfl
 fk w k a kv h:=by
  have d:Tryz.prog.underlying 38=some (.struct (Tryz.prog.fieldsOf 38)):=by kernel_rfl
  have c:∀ a:List MapEntry,a.map (fun e=>(e.key,e.val))=kv.map (fun p=>(kT p.1,p.2))→Instr.findNow (.struct (Tryz.prog.fieldsOf 38)) (kT k) a 0=(if kv=[] then some none else none):=by
   intro a h;cases a with
   | nil=>cases kv with
    | nil=>rfl
    | cons _ _=>simp at h
   | cons e a=>cases kv with
    | nil=>simp at h
    | cons _ _=>simp [Instr.findNow,Instr.sameNow]
  unfold Instr.findKey;simp only [Sem.run_bind,run_underlying d,Result.andThen_ok,c a h];by_cases q:kv=[]
  ·subst q;simp [lkK]
  ·rw [if_neg q];exact Znn w k a kv 0 h
 sm k:=by simp [kT,Instr.sameBits]
section
variable {κ:Type} [DecidableEq κ] {enc:κ→Value}
def Bor (es:Array MapEntry) (c:Nat):Prop:=(∀ x∈es.toList,x.born<c)∧(es.toList.map (·.born)).Nodup
theorem Bor.push {es:Array MapEntry}{c:Nat} (h:Bor es c) (k v:Value):Bor (es.push ⟨k,v,c⟩) (c+1):=by
 refine ⟨fun x d=>?_,?_⟩
 ·rw [Array.toList_push] at d;rcases List.mem_append.1 d with d|d
  ·have:=h.1 x d;omega
  ·obtain rfl:=List.mem_singleton.1 d;exact Nat.lt_succ_self c
 ·rw [Array.toList_push,List.map_append,List.nodup_append];refine ⟨h.2,by simp,?_⟩;intro a e b f;obtain ⟨x,d,rfl⟩:=List.mem_map.1 e;simp only [List.map_cons,List.map_nil,List.mem_singleton] at f;have:=h.1 x d;omega
theorem Bor.modify {es:Array MapEntry}{c:Nat} (h:Bor es c) {n:Nat}{e0:MapEntry} (he:es.toList[n]?=some e0) (g:MapEntry→MapEntry) (hg:(g e0).born=e0.born):Bor (es.modify n g) c:=by
 have b:(es.modify n g).toList=es.toList.set n (g e0):=by rw [Array.toList_modify,modify_eq_set _ _ _ _ he]
 refine ⟨fun x a=>?_,?_⟩
 ·rw [b] at a;rcases List.mem_or_eq_of_mem_set a with a|rfl
  ·exact h.1 x a
  ·rw [hg];exact h.1 e0 (List.mem_of_getElem? he)
 ·rw [b,List.map_set,hg];have:(es.toList.map (·.born)).set n e0.born=es.toList.map (·.born):=by
   apply List.ext_getElem?;intro i;rw [List.getElem?_set];split
   ·rename_i q;subst q;have d:=(List.getElem?_eq_some_iff.1 he).1;rw [if_pos (by simpa using d),List.getElem?_map,he];rfl
   ·rfl
  rw [this];exact h.2
theorem Bor.erase {es:Array MapEntry}{c:Nat} (h:Bor es c) (n:Nat):Bor (es.eraseIdxIfInBounds n) c:=by
 unfold Array.eraseIdxIfInBounds;split
 ·have a:(es.eraseIdx n ‹_›).toList=es.toList.eraseIdx n:=by simp
  refine ⟨fun x b=>?_,?_⟩
  ·rw [a] at b;exact h.1 x ((List.eraseIdx_sublist _ _).subset b)
  ·rw [a,map_eraseIdx];exact h.2.sublist (List.eraseIdx_sublist _ _)
 ·exact h
def MpF (enc:κ→Value) (w:World) (M:Nat) (f:κ→Option Value):Prop:=∃ es c kv,w.heap[M]?=some (.map es c)∧Bor es c∧es.toList.map (fun e=>(e.key,e.val))=kv.map (fun p=>(enc p.1,p.2))∧(kv.map (·.1)).Nodup∧∀ k,asK k kv=f k
theorem MpF.made (enc:κ→Value) (w:World):MpF enc (w.alloc (.map #[] 0)) w.heap.size (fun _=>none):=⟨#[],0,[],(MapKept.heap_alloc w _).1,⟨by simp,by simp⟩,rfl,List.nodup_nil,fun _=>rfl⟩
theorem MpF.map {w:World}{M:Nat}{f:κ→Option Value} (H:MpF enc w M f):Znc w M:=by obtain ⟨a,c,b,h,_⟩:=H;exact ⟨a,c,h⟩
theorem MpF.eq {w w':World}{M:Nat}{f:κ→Option Value} (H:MpF enc w M f) (h:w'.heap[M]?=w.heap[M]?):MpF enc w' M f:=by obtain ⟨a,c,e,b,d⟩:=H;exact ⟨a,c,e,h.trans b,d⟩
theorem MpF.old {w w':World}{M:Nat}{f:κ→Option Value} (H:MpF enc w M f) (hb:Below w.heap.size w w'):MpF enc w' M f:=H.eq (hb.block M H.map.lt)
theorem MpF.congr {w:World}{M:Nat}{f g:κ→Option Value} (H:MpF enc w M f) (h:∀ k,f k=g k):MpF enc w M g:=by obtain ⟨a,c,l,b,j,d,e,i⟩:=H;exact ⟨a,c,l,b,j,d,e,fun k=>(i k).trans (h k)⟩
theorem MpF.look {kt et:TypeId} (K:Znk kt enc) {t:TypeId} (ht:Tryz.prog.underlying t=some (.map kt et)) {z:Value}{w:World}{M:Nat}{f:κ→Option Value} (hz:(zeroValue et).run Tryz.prog w=.ok z w) (H:MpF enc w M f) (k:κ) (ok:Bool) :
  (Instr.lookup t (.map (some M)) (enc k) ok).run Tryz.prog w=.ok (if ok then .tuple #[(f k).getD z,.bool (f k).isSome] else (f k).getD z) w:=by
 obtain ⟨e,c,d,b,j,g,i,h⟩:=H;have a:=K.fk w k e.toList d g;rw [←h k];cases hl:lkK k d 0 with
 | none=>
  rw [hl] at a;rw [(Zne hl).1];simp [Instr.lookup,run_underlying ht,MapKept.run_getObj_map b,K.ck,a,hz,Result.andThen]
 | some p=>
  obtain ⟨n,v⟩:=p;rw [hl] at a;rw [(Znf hl).1];simp [Instr.lookup,run_underlying ht,MapKept.run_getObj_map b,K.ck,a,Result.andThen]
theorem Znp {w:World}{M:Nat}{o:Obj} (h:M<w.heap.size):w.grownBy (setBlock w M o) (some M):=by refine ⟨rfl,rfl,rfl,by simp [setBlock],fun i b a=>?_⟩;simp only [setBlock];rw [Array.getElem?_setIfInBounds_ne (fun e=>a (by rw [e]))]
section
variable {kt et:TypeId}(K:Znk kt enc)
include kt et K
theorem MpF.put {t:TypeId} (ht:Tryz.prog.underlying t=some (.map kt et)) {w:World} {M:Nat} {f:κ→Option Value} (H:MpF enc w M f) (k:κ) (v:Value):
  ∃ w',(Instr.mapUpdate t (.map (some M)) (enc k) v).run Tryz.prog w=.ok () w'∧MpF enc w' M (fun j=>if j=k then some v else f j)∧w.grownBy w' (some M):=by
 have g:=H.map.lt;obtain ⟨d,c,o,x,F,y,B,E⟩:=H;have z:=K.fk w k d.toList o y;cases hl:lkK k o 0 with
 | none=>
  rw [hl] at z;have l:=Zne hl;refine ⟨setBlock w M (.map (d.push ⟨enc k,v,c⟩) (c+1)),?_,⟨d.push ⟨enc k,v,c⟩,c+1,o++[(k,v)],by simp [setBlock,g],F.push _ _,?_,?_,fun j=>?_⟩,Znp g⟩
  ·simp [Instr.mapUpdate,run_underlying ht,MapKept.run_getObj_map x,K.ck,z,MapKept.run_setObj_map _ x,Result.andThen,setBlock]
  ·simp [y]
  ·rw [List.map_append,List.nodup_append];refine ⟨B,by simp,?_⟩;intro a I b G;simp only [List.map_cons,List.map_nil,List.mem_singleton] at G;subst G;rintro rfl;exact l.2 I
  ·rw [Zng l.2,E]
 | some p=>
  obtain ⟨n,u⟩:=p;rw [hl] at z;obtain ⟨-,-,l⟩:=Znf hl;rw [Nat.sub_zero] at l;have s:(d.toList.map (fun e=>(e.key,e.val)))[n]?=some (enc k,u):=by rw [y];simp [l]
  obtain ⟨h,m,C⟩:∃ h,d.toList[n]?=some h∧(h.key,h.val)=(enc k,u):=by
   rw [List.getElem?_map] at s;cases hx:d.toList[n]? with
   | none=>rw [hx] at s;simp at s
   | some h=>rw [hx] at s;exact ⟨h,rfl,by simpa using s⟩
  have D:h.key=enc k:=congrArg Prod.fst C;have J:d[n]?=some h:=by simpa using m
  refine ⟨setBlock w M (.map (d.modify n (fun A=>{ A with key:=enc k,val:=v })) c),?_,⟨d.modify n (fun A=>{ A with key:=enc k,val:=v }),c,o.set n (k,v),by simp [setBlock,g],F.modify m _ rfl,?_,?_,fun j=>?_⟩,Znp g⟩
  ·simp [Instr.mapUpdate,run_underlying ht,MapKept.run_getObj_map x,K.ck,z,J,D,Instr.keyThatStays,K.sm,MapKept.run_setObj_map _ x,Result.andThen,setBlock]
  ·rw [Array.toList_modify,modify_eq_set _ _ _ _ m,List.map_set,List.map_set,y]
  ·rw [List.map_set];have:(o.map (·.1)).set n k=o.map (·.1):=by
    apply List.ext_getElem?;intro i;rw [List.getElem?_set];split
    ·rename_i q;subst q;have r:n<(o.map (·.1)).length:=by have:=(List.getElem?_eq_some_iff.1 l).1;simpa using this
     rw [if_pos r];simp [l]
    ·rfl
   rw [this];exact B
  ·rw [Zni B l,E]
theorem MpF.del {t ty:TypeId} (ht:Tryz.prog.underlying t=some (.map kt et)) {w:World} {M:Nat} {f:κ→Option Value} (H:MpF enc w M f) (k:κ):
  ∃ w',(Builtin.delete_ #[t,kt] ty #[.map (some M),enc k]).run Tryz.prog w=.ok (.tuple #[]) w'∧MpF enc w' M (fun j=>if j=k then none else f j)∧w.grownBy w' (some M):=by
 have a:=H.map.lt;obtain ⟨b,c,l,g,s,h,m,r⟩:=H;have i:=K.fk w k b.toList l h;cases hl:lkK k l 0 with
 | none=>
  rw [hl] at i;have d:=Zne hl;refine ⟨setBlock w M (.map b c),?_,⟨b,c,l,by simp [setBlock,a],s,h,m,fun j=>?_⟩,Znp a⟩
  ·simp [Builtin.delete_,run_underlying ht,MapKept.run_getObj_map g,K.ck,i,MapKept.run_setObj_map _ g,Result.andThen,setBlock]
  ·dsimp only;by_cases q:j=k
   ·subst q;rw [if_pos rfl];exact d.1
   ·rw [if_neg q];exact r j
 | some p=>
  obtain ⟨n,u⟩:=p;rw [hl] at i;obtain ⟨-,-,d⟩:=Znf hl;rw [Nat.sub_zero] at d;have o:n<b.size:=by have v:=congrArg List.length h;simp only [List.length_map,Array.length_toList] at v;have:=(List.getElem?_eq_some_iff.1 d).1;omega
  have e:(b.eraseIdxIfInBounds n).toList=b.toList.eraseIdx n:=by unfold Array.eraseIdxIfInBounds;rw [dif_pos o];simp
  refine ⟨setBlock w M (.map (b.eraseIdxIfInBounds n) c),?_,⟨b.eraseIdxIfInBounds n,c,l.eraseIdx n,by simp [setBlock,a],s.erase n,?_,?_,fun j=>?_⟩,Znp a⟩
  ·simp [Builtin.delete_,run_underlying ht,MapKept.run_getObj_map g,K.ck,i,MapKept.run_setObj_map _ g,Result.andThen,setBlock]
  ·rw [e,map_eraseIdx,map_eraseIdx,h]
  ·rw [map_eraseIdx];exact m.sublist (List.eraseIdx_sublist _ _)
  ·rw [Znj m d,r]
theorem MpF.entry {t:TypeId} (ht:Tryz.prog.underlying t=some (.map kt et)) {z:Value} {w:World} {M:Nat} {f:κ→Option Value} (hz:(zeroValue et).run Tryz.prog w=.ok z w) (H:MpF enc w M f) (k:κ):
  ∃ (st:Nat) (w1:World),(Instr.mapEntry t (.map (some M)) (enc k)).run Tryz.prog w=.ok (.tuple #[(f k).getD z,goInt st]) w1∧w.grownBy w1 (some M)∧Znc w1 M ∧
   ∀ (w2:World) (val:Value),w2.heap[M]?=w1.heap[M]?→∃ w3,(Instr.entryStore t (.map (some M)) (goInt st) val).run Tryz.prog w2=.ok () w3∧MpF enc w3 M (fun j=>if j=k then some val else f j)∧w2.grownBy w3 (some M):=by
 have o:=H.map.lt;obtain ⟨d,c,A,F,I,G,L,N⟩:=H;have J:=K.fk w k d.toList A G;rw [←N k];cases hl:lkK k A 0 with
 | none=>
  rw [hl] at J;have s:=Zne hl;rw [s.1];refine ⟨c,setBlock w M (.map (d.push ⟨enc k,z,c⟩) (c+1)),?_,Znp o,⟨_,_,by simp [setBlock,o];exact ⟨rfl,rfl⟩⟩,fun w2 val y=>?_⟩
  ·simp [Instr.mapEntry,run_underlying ht,MapKept.run_getObj_map F,K.ck,J,hz,MapKept.run_setObj_map _ F,Result.andThen,setBlock]
  have g:w2.heap[M]?=some (.map (d.push ⟨enc k,z,c⟩) (c+1)):=by rw [y];simp [setBlock,o]
  have h:M<w2.heap.size:=(Array.getElem?_eq_some_iff.1 g).1;have r:(d.push ⟨enc k,z,c⟩).findIdx? (fun e=>((e.born:Nat):Int) == ((c:Nat):Int))=some d.size:=by rw [findIdx_arr];exact findIdx_born (l:=(d.push ⟨enc k,z,c⟩).toList) (j:=d.size) (e0:=⟨enc k,z,c⟩) (I.push (enc k) z).2 (by simp)
  have D:(d.push ⟨enc k,z,c⟩).modify d.size (fun e=>{ e with val:=val })=d.push ⟨enc k,val,c⟩:=by apply Array.ext';rw [Array.toList_modify,Array.toList_push,Array.toList_push,←Array.length_toList,modify_last]
  refine ⟨setBlock w2 M (.map (d.push ⟨enc k,val,c⟩) (c+1)),?_,⟨d.push ⟨enc k,val,c⟩,c+1,A++[(k,val)],by simp [setBlock,h],I.push _ _,by simp [G],?_,fun j=>?_⟩,Znp h⟩
  ·simp [Instr.entryStore,MapKept.run_getObj_map g,asInt,asIntOf,goInt,r,D,MapKept.run_setObj_map _ g,Result.andThen,setBlock]
  ·rw [List.map_append,List.nodup_append];refine ⟨L,by simp,?_⟩;intro a P b O;simp only [List.map_cons,List.map_nil,List.mem_singleton] at O;subst O;rintro rfl;exact s.2 P
  ·rw [Zng s.2,N]
 | some p=>
  obtain ⟨n,u⟩:=p;rw [hl] at J;obtain ⟨R,-,s⟩:=Znf hl;rw [R];rw [Nat.sub_zero] at s;have E:(d.toList.map (fun e=>(e.key,e.val)))[n]?=some (enc k,u):=by rw [G];simp [s]
  obtain ⟨e0,m,B⟩:∃ e0,d.toList[n]?=some e0∧(e0.key,e0.val)=(enc k,u):=by
   rw [List.getElem?_map] at E;cases hx:d.toList[n]? with
   | none=>rw [hx] at E;simp at E
   | some e0=>rw [hx] at E;exact ⟨e0,rfl,by simpa using E⟩
  have v:e0.key=enc k:=congrArg Prod.fst B;have S:e0.val=u:=congrArg Prod.snd B;have Q:d[n]?=some e0:=by simpa using m
  have x:d.modify n (fun e=>{ e with key:=enc k })=d:=by
   apply Array.ext';rw [Array.toList_modify,modify_eq_set _ _ _ _ m];have:({ e0 with key:=enc k }:MapEntry)=e0:=by rw [←v]
   rw [this];exact set_self _ _ _ m
  refine ⟨e0.born,setBlock w M (.map d c),?_,Znp o,⟨_,_,by simp [setBlock,o];exact ⟨rfl,rfl⟩⟩,fun w2 val y=>?_⟩
  ·simp [Instr.mapEntry,run_underlying ht,MapKept.run_getObj_map F,K.ck,J,Q,v,Instr.keyThatStays,K.sm,x,MapKept.run_setObj_map _ F,Result.andThen,setBlock]
  have g:w2.heap[M]?=some (.map d c):=by rw [y];simp [setBlock,o]
  have h:M<w2.heap.size:=(Array.getElem?_eq_some_iff.1 g).1;have r:d.findIdx? (fun e=>((e.born:Nat):Int) == ((e0.born:Nat):Int))=some n:=by rw [findIdx_arr];exact findIdx_born I.2 m
  refine ⟨setBlock w2 M (.map (d.modify n (fun e=>{ e with val:=val })) c),?_,⟨d.modify n (fun e=>{ e with val:=val }),c,A.set n (k,val),by simp [setBlock,h],I.modify m _ rfl,?_,?_,fun j=>?_⟩,Znp h⟩
  ·simp [Instr.entryStore,MapKept.run_getObj_map g,asInt,asIntOf,goInt,r,MapKept.run_setObj_map _ g,Result.andThen,setBlock]
  ·rw [Array.toList_modify,modify_eq_set _ _ _ _ m,List.map_set,List.map_set,G];simp [v]
  ·rw [List.map_set];have:(A.map (·.1)).set n k=A.map (·.1):=by
    apply List.ext_getElem?;intro i;rw [List.getElem?_set];split
    ·rename_i q;subst q;have C:n<(A.map (·.1)).length:=by have:=(List.getElem?_eq_some_iff.1 s).1;simpa using this
     rw [if_pos C];simp [s]
    ·rfl
   rw [this];exact L
  ·rw [Zni L s,N]
theorem Znq {t:TypeId} (ht:Tryz.prog.underlying t=some (.map kt et)) {z:Value} {w:World} {d:Array Oper} {b:List Oper} {o:Oper} {a:Act} {Q:Exit→Act→World→Prop} (j:o.guard=none) (m x:Operand) (h:Bool) (g:o.op=Op.lookup t m x h) {M:Nat} {f:κ→Option Value} (l:a.eval m=.map (some M)) (H:MpF enc w M f) (p:(zeroValue et).run Tryz.prog w=.ok z w) (k:κ) (n:a.eval x=enc k) (i:wpList Tryz.prog d Q b (a.put o.dst (if h then .tuple #[(f k).getD z,.bool (f k).isSome] else (f k).getD z)) w):wpList Tryz.prog d Q (o :: b) a w:=by refine wpList_plain j fun q e=>?_;have c:=H.look K ht p k h;unfold Oper.wp;simp [execOp,g,l,n,c,Result.andThen];exact e _ _ i
end
def Znr (enc:κ→Value) (t:TypeId) (w1:World) (M:Nat) (f:κ→Option Value) (k:κ) (st:Nat):Prop:=
 Znc w1 M∧∀ (w2:World) (val:Value),w2.heap[M]?=w1.heap[M]?→∃ w3,(Instr.entryStore t (.map (some M)) (goInt st) val).run Tryz.prog w2=.ok () w3∧MpF enc w3 M (fun j=>if j=k then some val else f j)∧w2.grownBy w3 (some M)
theorem Znr.eq {t:TypeId}{w1 w2:World}{M:Nat}{f:κ→Option Value}{k:κ}{st:Nat} (E:Znr enc t w1 M f k st) (h:w2.heap[M]?=w1.heap[M]?):Znr enc t w2 M f k st:=by obtain ⟨⟨b,c,e⟩,E⟩:=E;exact ⟨⟨b,c,h.trans e⟩,fun g a d=>E g a (d.trans h)⟩
theorem Znr.old {t:TypeId}{w1 w2:World}{M:Nat}{f:κ→Option Value}{k:κ}{st:Nat} (E:Znr enc t w1 M f k st) (hb:Below w1.heap.size w1 w2):Znr enc t w2 M f k st:=E.eq (hb.block M E.1.lt)
theorem Zns {kt et:TypeId} (K:Znk kt enc) {t:TypeId} (ht:Tryz.prog.underlying t=some (.map kt et)) {z:Value}{w:World}{o:Oper}{a:Act}{Q:Exit→Act→World→Prop}{e:Act→World→Prop} (m x:Operand) (d:o.op=Op.mapEntry t m x) {M:Nat}{f:κ→Option Value} (h:a.eval m=.map (some M)) (H:MpF enc w M f) (j:(zeroValue et).run Tryz.prog w=.ok z w) (k:κ) (i:a.eval x=enc k)
  (g:∀ c w1,w.grownBy w1 (some M)→Znr enc t w1 M f k c→e (a.put o.dst (.tuple #[(f k).getD z,goInt c])) w1):o.wp Tryz.prog a w e Q:=by
 obtain ⟨c,w1,b,l,n,p⟩:=H.entry K ht j k;unfold Oper.wp;simp [execOp,d,h,i,b,Result.andThen];exact g c w1 l ⟨n,p⟩
theorem Znt {t:TypeId}{w:World}{o:Oper}{a:Act}{Q:Exit→Act→World→Prop}{d:Act→World→Prop} (m s v:Operand) (c:o.op=Op.entryStore t m s v) {M:Nat}{f:κ→Option Value}{k:κ}{e:Nat} (h:a.eval m=.map (some M)) (E:Znr enc t w M f k e) (i:a.eval s=goInt e) (u:Value) (l:a.eval v=u)
  (g:∀ w',MpF enc w' M (fun j=>if j=k then some u else f j)→w.grownBy w' (some M)→d (a.put o.dst undef) w'):o.wp Tryz.prog a w d Q:=by
 obtain ⟨w',b,n,p⟩:=E.2 w u rfl;unfold Oper.wp;simp [execOp,c,h,i,l,b,Result.andThen];exact g w' n p
section
variable {kt et:TypeId}(K:Znk kt enc){t:TypeId}(ht:Tryz.prog.underlying t=some (.map kt et)){w:World}
include kt et K t ht w
theorem Znu {d:Array Oper} {b:List Oper} {o:Oper} {a:Act} {Q:Exit→Act→World→Prop} (i:o.guard=none) (m x v:Operand) (g:o.op=Op.mapUpdate t m x v) {M:Nat} {f:κ→Option Value} (l:a.eval m=.map (some M)) (H:MpF enc w M f) (k:κ) (p:a.eval x=enc k) (u:Value) (n:a.eval v=u) (h:∀ w',MpF enc w' M (fun j=>if j=k then some u else f j)→w.grownBy w' (some M)→wpList Tryz.prog d Q b (a.put o.dst undef) w'):wpList Tryz.prog d Q (o :: b) a w:=by refine wpList_plain i fun s e=>?_;obtain ⟨w',c,q,r⟩:=H.put K ht k u;unfold Oper.wp;simp [execOp,g,l,p,n,c,Result.andThen];exact e _ _ (h w' q r)
theorem Znv {o:Oper} {a:Act} {Q:Exit→Act→World→Prop} {d:Act→World→Prop} (m x v:Operand) (c:o.op=Op.mapUpdate t m x v) {M:Nat} {f:κ→Option Value} (g:a.eval m=.map (some M)) (H:MpF enc w M f) (k:κ) (i:a.eval x=enc k) (u:Value) (h:a.eval v=u) (e:∀ w',MpF enc w' M (fun j=>if j=k then some u else f j)→w.grownBy w' (some M)→d (a.put o.dst undef) w'):o.wp Tryz.prog a w d Q:=by obtain ⟨w',b,l,n⟩:=H.put K ht k u;unfold Oper.wp;simp [execOp,c,g,i,h,b,Result.andThen];exact e w' l n
end
end
end
