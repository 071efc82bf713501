import Derived.Test.YtcfjblcgceednaaGreatJ31
set_option linter.all false
set_option maxRecDepth 100000
set_option maxHeartbeats 16000000
namespace Go.Proofs.YtcfjblcgceednaaGreat
section
open Go.RowKit
abbrev Zp1 (L:List Int):Array Value:=(L.map (Value.int .i64)).toArray
theorem Zp2 {w:World}{g k:Nat}{L:List Int}{t:TypeId} (h:Blk w g (Zp1 L) t) (v:Int):Blk (w.setCell ⟨g,k,none⟩ (.int .i64 v)) g (Zp1 (L.set k v)) t:=by have:=h.set k (.int .i64 v);simpa [Zp1,List.map_set] using this
theorem Zp3 {w:World}{g k:Nat}{L:List Int}{t:TypeId} (h:Blk w g (Zp1 L) t) (a:k<L.length):w.cell? ⟨g,k,none⟩=some (.int .i64 (L.getD k 0)):=h.cell k (by simp [Zp1,a])
theorem Zp4 (L:List Int) (p:Nat) (v:Int) (a:p<L.length) (i:Nat):(L.set p v).getD i 0=if i=p then v else L.getD i 0:=by
 rw [List.getD_eq_getElem?_getD,List.getElem?_set];by_cases h:i=p
 ·subst h;simp [a]
 ·rw [if_neg (fun e=>h e.symm),if_neg h,←List.getD_eq_getElem?_getD]
end
section
open Go.RowKit
def Bl (n:Int):Prop:=-1≤n∧n≤1000000001
theorem Bl.of {n:Int} (h:Bd n):Bl n:=by unfold Bd at h;unfold Bl;omega
theorem Zp5 {a b:Int} (c:Bl a) (d:Bl b):Bl (ZmX a b):=by unfold Bl ZmX ZmS ZmR at *;split<;>omega
theorem Zp6 {a b:Int} (c:Bl a) (d:Bl b):Bl (ZmY a b):=by
 unfold Bl ZmY at *
 repeat' split
 all_goals omega
def gLT (m:Md) (T:Nat→Int):Wg:=gL m fun t=>T t.toNat
section
variable {m:Md}{T:Nat→Int}{i:In3}{f s:Int}
theorem Zp7 (q:i.op=28):(gLT m T).pl i=-1:=(if_neg (by omega)).trans ((if_neg (by omega)).trans (if_pos q))
theorem Zp8 (q:i.op≠25) (a:i.op≠26) (b:i.op≠28):(gLT m T).pl i=ZmU i:=(if_neg q).trans ((if_neg a).trans (if_neg b))
theorem Zp9 (q:i.op=29∨i.op=33):(gLT m T).brk i f s=ZmX (ZmU i) (ZmX (ZmY f s) 1):=if_pos q
theorem Zqa (q:i.op=30):(gLT m T).brk i f s=ZmU i:=(if_neg (by omega)).trans (if_pos q)
end
theorem Zqb {T:Int→Int}{l:List Int} (h:∀ t,Bl (T t)):Bl (ZmZ T l):=by
 have:∀ (l:List Int) (a:Int),Bl a→Bl (l.foldl (fun a t=>ZmY a (T t)) a):=by
  intro l
  induction l with
  | nil=>intro a b;exact b
  | cons x r ih=>intro a b;exact ih _ (Zp6 b (h x))
 unfold ZmZ;refine this _ _ ?_;cases l with
 | nil=>show Bl 0;unfold Bl;omega
 | cons x r=>exact h x
section
variable {m:Md}{T:Int→Int}{l:List In3} (hv:∀ i∈l,ZaQ false i=true) (hT:∀ t,Bl (T t))
include hv hT
theorem Zqc:∀ i∈l,Bl ((gL m T).pl i):=fun i b=>by
 have a:Bl (ZmU i):=by have:=ZpG (hv i b);unfold Bl;omega
 show Bl (if i.op=25 then _ else if i.op=26 then _ else if i.op=28 then _ else _);split
 ·exact Zp5 a (hT _)
 ·split
  ·exact Zp5 a (Zqb hT)
  ·split
   ·unfold Bl;omega
   ·exact a
theorem Zqd:∀ i∈l,∀ f s,Bl f→Bl s→Bl ((gL m T).brk i f s):=fun i d f s c e=>by
 have a:Bl (ZmU i):=by have:=ZpG (hv i d);unfold Bl;omega
 have b:Bl 1:=by unfold Bl;omega
 show Bl (if i.op=29∨i.op=33 then _ else if i.op=30 then _ else _);split
 ·exact Zp5 a (Zp5 (Zp6 c e) b)
 ·split
  ·exact a
  ·exact Zp5 a (Zp5 c b)
theorem Zqe {a b:Nat} (p:Seg l a b):∀ acc,Bl acc→Bl (WA (gL m T) l a b acc):=by
 have g:∀ k,k<l.length→l.getD k default∈l:=fun k o=>ZfU _ o;have j:=Zqc (m:=m) hv hT;have d:=Zqd (m:=m) hv hT;have e:Bl 0:=by unfold Bl;omega
 induction p with
 | nil a h=>intro acc c;rw [Zmv];exact c
 | pl a b q1 q2 q3 q4 q5 ih=>intro acc c;rw [Zmw q2 q5];exact ih _ (Zp5 c (j _ (g a q1)))
 | one a en b q1 q2 q3 i1 i2=>intro acc c;rw [Zmx q1 q2 q3];exact i2 _ (Zp5 c (d _ (g a q1.1) _ _ (i1 _ e) e))
 | two a n en b q1 q2 q3 q4 i1 i2 i3=>intro acc c;rw [Zmy q1 q2 q3 q4];exact i3 _ (Zp5 c (d _ (g a q1.1) _ _ (i1 _ e) (i2 _ e)))
end
end
