/- Joined texts. The first: bound: the weights of all methods by cost; costs, asked. -/
import Derived.Test.YtfkbfjhocmbneaaGreatG23
import Derived.Test.YtfkbfjhocmbneaaGreatG28
set_option linter.all false
set_option linter.unusedVariables false
set_option linter.unusedSimpArgs false
set_option maxRecDepth 100000
set_option maxHeartbeats 16000000
namespace Go.Proofs.YtfkbfjhocmbneaaGreat
theorem j0{p:Prop}(h:p:=by
 go_wp2_with (go_at_call 122;refine (ZoW sv _ _ HIt.out.2.1 HXb.out).mono ?_;rintro e wE ⟨rfl,hbE⟩;have HBe:=Zh hbE;clear hbE)
 obtain ⟨q1,q2,q3,q4,q5⟩:=HIt.out
 exact ⟨⟨j+1,p',Zmz sv v,rfl,by rw [HXv.out],hjl,⟨by omega,q4,ZoU q2 (HXv.out▸HXb.out),q1.keeps (HKz.out.trans (Znv.of HBe.out)),HWa.out⟩,HUz.out.bel HBe.out,HNz.out.old HBe.out⟩,by simp [intOf];omega⟩):p:=h
theorem j3{p:Prop}(h:p:=by
 clear hz
 go_wp2_with (first
  | (go_at_call 58;refine HMt.out.mono ?_;rintro e w8 ⟨rfl,hu8,hn8⟩;have HU8:=Zh (HV.out.trans hu8);have HN8:=Zh (hn8.weak (R:=fun j=>Q j∨j<k) fun q hq=>hq.elim id fun e=>.inr (by omega));clear hu8 hn8)
  | (go_at_call 124;refine (ZoX _ _ _).mono ?_;rintro e w9 ⟨rfl,hb9⟩))
 exact ⟨⟨j2+1,rfl,by rw [HSn.out];rfl,hjl3,HU8.out.bel hb9,HN8.out.old hb9⟩,by simp [intOf];omega⟩):p:=h
theorem j5{p:Prop}(h:p:=by
 simp only [ZaQ,Bool.and_eq_true] at h
 have:=h.1.1.2
 rcases ho with rfl|rfl
 ·unfold inR at this;simp [opA,ZaO,ZaP,inI] at this;omega
 ·unfold inR at this;simp [opA,ZaO,ZaP,inI] at this;omega):p:=h
theorem j7{p:Prop}(h:p:=by
 go_wp2_with (go_at_call 42;refine HA.out.mono ?_;rintro e w1 ⟨rfl,hb1⟩)
 go_ret2
 exact Zhg (ZcY HE.out.1.symm) (ZcY HE.out.2.symm) (Zaf HB0.out hb1)):p:=h
theorem j8{p:Prop}(h:p:=by
 rw [if_pos h25,if_pos h25]
 have:=(ho.o25 h25).1
 have:=ho.a0 (by omega)
 dsimp only
 rw [ZmF _ _ (by omega)]):p:=h
section
open Go.RowKit
section
variable {x:Ms}{B M:Nat}{h:Hd}{m:Md}{T:Nat→Int}{g:Nat}{caps:Array Value}{W0:World}{k:Nat}
theorem ZoB (HW:Wkr x m T g caps W0) (hk:k<m.me.length) (hm:∀ j,j<k→ZnN x B M h m T g caps W0 j):∀ (n a b:Nat),b-a≤n→ZnO x B M h m T g caps W0 k a b
 | 0,a,b,hn=>ZnQ HW hk fun p y p' h1 h2 h3=>by omega
 | n+1,a,b,hn=>ZnQ HW hk fun p y p' h1 h2 h3=>Zn8 HW hk hm fun a' b' h4 h5=>ZoB HW hk hm n a' b' (by omega)
theorem ZoC (HW:Wkr x m T g caps W0):∀ (n k:Nat),k<n→k<m.me.length→ZnN x B M h m T g caps W0 k
 | 0,k,hn,_=>by omega
 | n+1,k,hn,hk=>ZnV HW hk (ZoB HW hk (fun j hj=>ZoC HW n j (by omega) (by omega)) (cdM m k).length 0 (cdM m k).length (by omega))
end
theorem ZoD {i:In3} (h:ZaQ false i=true):0≤Zmw i∧Zmw i≤1000:=by
 have h1:=Zne i.op.toNat
 unfold Zmw
 split
 ·rename_i ho
  obtain ⟨op,a,b⟩:=i
  dsimp only at ho ⊢
  have:0≤a∧a≤48:=by
   exact j5
  dsimp only at h1
  omega
 ·omega
theorem ZoE (i:In3) (h:i.op=35):Zmw i=1:=by
 unfold Zmw
 rw [h,if_neg (by omega)]
 rfl
theorem ZoF {i:In3} (h:ZaQ false i=true) (ho:i.op=15∨i.op=16):0≤i.a∧i.a≤1000:=by
 obtain ⟨op,a,b⟩:=i
 dsimp only at ho ⊢
 exact j5
theorem ZoG {m:Md}{k:Nat} (h:m.me.length≤k):cdM m k=[]:=by
 unfold cdM
 rw [List.getD_eq_getElem?_getD,List.getElem?_eq_none h]
 rfl
theorem ZoH (G:(Int→Int)→Wg) (m:Md) (k:Nat):ZmD G m k=WA (G fun t=>(ZmC G m k).getD t.toNat 0) (cdM m k) 0 (cdM m k).length 0:=by
 unfold ZmD
 conv=>lhs;unfold ZmC
 rw [List.getD_eq_getElem?_getD,List.getElem?_append_right (by rw [ZmE];omega),ZmE,Nat.sub_self]
 rfl
theorem ZoI {m:Md} (hm:Za1 m=true) {x:Ms} (hw:∀ k,k<m.me.length→∀ i∈cdM m k,0≤x.wt i∧x.wt i≤1000) (ht:0≤x.tl∧x.tl≤1000):∀ (n k:Nat),k<n→Bd (ZmD (gW x m) m k)
 | 0,k,hn=>by omega
 | n+1,k,hn=>by
  have h0:Bd 0:=by unfold Bd;omega
  rw [ZoH]
  by_cases hk:k<m.me.length
  ·refine ZnH (hw k hk) ht (fun t=>?_) (fun i hi=>(ZfS ((ZfN hm hk).i i hi).1 ((ZfN hm hk).i i hi).2).a0) (Zmg (ZfN hm hk).n) 0 h0
   by_cases hj:t.toNat<k
   ·rw [ZmF _ _ hj]
    exact ZoI hm hw ht n _ (by omega)
   ·rw [List.getD_eq_getElem?_getD,List.getElem?_eq_none (by rw [ZmE];omega)]
    exact h0
  ·rw [ZoG (by omega)]
   show Bd (WA _ _ 0 0 0)
   rw [Zml]
   exact h0
theorem ZoJ {m:Md} (hm:Za1 m=true) (x:Ms) {k:Nat} (hk:k<m.me.length):ZmD (gW x m) m k=WA (gT x m (ZmD (gW x m) m)) (cdM m k) 0 (cdM m k).length 0:=by
 refine ZmH (Zmg (ZfN hm hk).n) (fun _ _=>rfl) (fun _ _=>rfl) (fun i hi=>?_)
 have ho:=ZfS ((ZfN hm hk).i i hi).1 ((ZfN hm hk).i i hi).2
 show (if i.op=25 then Zmu (x.wt i) _ else if i.op=26 then Zmu (x.wt i) _ else _)=if i.op=25 then Zmu (x.wt i) _ else if i.op=26 then Zmu (x.wt i) _ else _
 by_cases h25:i.op=25
 ·exact j8
 ·rw [if_neg h25,if_neg h25]
  by_cases h26:i.op=26
  ·rw [if_pos h26,if_pos h26]
   congr 1
   refine ZmI fun t ht=>?_
   have:=(ho.o26 h26).2 t ht
   have:=ZfT ht
   rw [ZmF _ _ (by omega)]
  ·rw [if_neg h26,if_neg h26]
theorem ZoK (i:In3) (w:World) (hv:ZaQ false i=true):Calls Tryz.prog 86 #[.agg #[.int .i64 i.op,.int .i64 i.a,.int .i64 i.b]] w (Ret w (.int .i64 (Zmw i))):=by
 have HC:=Zh (fun w'=>Zng i w' hv (ZoF hv))
 clear hv
 obtain ⟨op,a,b⟩:=i
 dsimp only at HC ⊢
 go_enter Tryz.func86,Tryz.ntmps86
 go_wp2_with (go_at_call 113;refine (HC.out _).mono ?_;rintro e w1 ⟨rfl,hb1⟩)
 go_ret
 exact ZcT rfl bE
theorem KnM.made (T:Nat→Int) (w:World):KnM T (w.alloc (.map #[] 0)) w.heap.size fun _=>False:=
 ⟨[],.map [],List.nodup_nil,fun k hk=>by simp at hk,World.ownsMap_made _ _ _ _,Maps.isMap_empty,fun k=>by simp [Maps.has],fun k hk=>by simp at hk⟩
def ZoL:Value:=.func (Fn.func 86) #[] #[]
def ZoM (w:World) (h:Hd) (m:Md):Ending→World→Prop:=fun e w'=>∃ B M,e=.returned (.pointer (some ⟨B,0,none⟩))∧Below w.heap.size w w'∧w.heap.size≤M∧∀ T,Znz w' B M h m ZoL false T fun _=>False
theorem ZoN (m:Md) (h:Hd) (w:World) (H:Zay w h m):Calls Tryz.prog 51 #[.agg #[.slice h.co m.cl.length h.cc,.slice h.so m.st.length h.sc,.slice h.eo m.me.length h.ec,.int .i64 m.sel]] w (ZoM w h m):=by
 have hmm:=@run_makeMap Tryz.prog
 have HH:=Zh H
 clear H
 go_enter Tryz.func51,Tryz.ntmps51
 go_wp2
 go_ret
 refine ⟨w.heap.size+1+1,w.heap.size+1,rfl,by exact bE,by omega,fun T=>⟨Blk.new' _ _ (by simp),HH.out.old bE,?_⟩⟩
 have:=KnM.made T (w.alloc (.cells #[.slice h.co m.cl.length h.cc,.slice h.so m.st.length h.sc,.slice h.eo m.me.length h.ec,.int .i64 m.sel] 26))
 rw [bls] at this
 exact this.old bE
def ZoO (m:Md) (k:Int):Bool:=decide ((Zl6 m).2.2=0)&&inV m.me.length k
theorem ZoP {m:Md}{k:Int} (h:ZoO m k=true):Za1 m=true∧0≤k∧k<m.me.length:=by
 unfold ZoO inV at h
 simp only [Bool.and_eq_true,decide_eq_true_eq] at h
 refine ⟨?_,h.2⟩
 have:=h.1
 unfold Zl6 at this
 split at this
 ·assumption
 ·simp at this
theorem ZoQ (m:Md) (h:Hd) (k:Int) (w:World) (H:Zay w h m):Calls Tryz.prog 42 #[.agg #[.slice h.co m.cl.length h.cc,.slice h.so m.st.length h.sc,.slice h.eo m.me.length h.ec,.int .i64 m.sel],.int .i64 k] w (Ret w (.int .i64 (if ZoO m k=true then 0 else 1))):=by
 have HV:=Zh (fun w' hb=>Zl9 w' h m (H.old (w':=w') hb))
 obtain ⟨q,hq⟩:∃ q:Int,q=if ZoO m k=true then 0 else 1:=⟨_,rfl⟩
 rw [←hq]
 obtain ⟨⟨z0,z1,z2⟩,hz⟩:∃ z,z=Zl6 m:=⟨_,rfl⟩
 unfold ZoO inV at hq
 rw [←hz] at HV hq
 have HQ:=Zh hq
 have hb0:Below w.heap.size w (w.alloc (.cells #[.slice h.co m.cl.length h.cc,.slice h.so m.st.length h.sc,.slice h.eo m.me.length h.ec,.int .i64 m.sel] 26)):=by exact bE
 have HB0:=Zh hb0
 have HX0:=Zh (Blk.new w #[.slice h.co m.cl.length h.cc,.slice h.so m.st.length h.sc,.slice h.eo m.me.length h.ec,.int .i64 m.sel] 26)
 clear H hz hq hb0
 go_enter Tryz.func42,Tryz.ntmps42
 go_wp2_with (go_at_call 60;refine (HV.out _ HB0.out).mono ?_;rintro e w1 ⟨rfl,hb1⟩;have x2:=(HX0.out.old hb1).cell 2 (v:=.slice h.eo m.me.length h.ec) rfl;have HB1:=Zh (Zaf HB0.out hb1);clear hb1)
 all_goals
  go_ret
  refine ZcT (ZcY ?_) HB1.out
  rw [HQ.out]
  grind
def ZoR (m:Md) (k:Int):Int × Int:=if ZoO m k=true then (if 1000000000<ZmD (gW Zmx m) m k.toNat then (0,6) else (ZmD (gW Zmx m) m k.toNat,0)) else (0,1)
theorem ZoS {m:Md} (hm:Za1 m=true) (W0:World):Wkr Zmx m (ZmD (gW Zmx m) m) 86 #[] W0 where
 hm:=hm
 wt k hk i hi:=ZoD ((ZfN hm hk).i i hi).1
 tl:=by decide
 te:=ZoE
 bd k:=ZoI hm (x:=Zmx) (fun k hk i hi=>ZoD ((ZfN hm hk).i i hi).1) (by decide) (k+1) k (by omega)
 eq k hk:=ZoJ hm Zmx hk
 cf A W:=by kernel_rfl
 fn k hk i hi w' _:=by
  have:=ZoK i w' ((ZfN hm hk).i i hi).1
  rw [Array.append_empty]
  exact this
theorem ZoT (m:Md) (h:Hd) (k:Int) (w:World) (H:Zay w h m):Calls Tryz.prog 17 #[.agg #[.slice h.co m.cl.length h.cc,.slice h.so m.st.length h.sc,.slice h.eo m.me.length h.ec,.int .i64 m.sel],.int .i64 k] w (Zhf w (.int .i64 (ZoR m k).1) (.int .i64 (ZoR m k).2)):=by
 have hb0:Below w.heap.size w (w.alloc (.cells #[.slice h.co m.cl.length h.cc,.slice h.so m.st.length h.sc,.slice h.eo m.me.length h.ec,.int .i64 m.sel] 26)):=by exact bE
 have HA:=Zh (ZoQ m h k _ (H.old hb0))
 obtain ⟨r1,hr1⟩:∃ r,r=(ZoR m k).1:=⟨_,rfl⟩
 obtain ⟨r2,hr2⟩:∃ r,r=(ZoR m k).2:=⟨_,rfl⟩
 rw [←hr1,←hr2]
 have HB0:=Zh hb0
 have HX0:=Zh (Blk.new w #[.slice h.co m.cl.length h.cc,.slice h.so m.st.length h.sc,.slice h.eo m.me.length h.ec,.int .i64 m.sel] 26)
 have HH:=Zh H
 rcases hq:ZoO m k with _|_
 ·rw [hq] at HA
  have e1:r1=0:=by rw [hr1];unfold ZoR;rw [hq];rfl
  have e2:r2=1:=by rw [hr2];unfold ZoR;rw [hq];rfl
  have HE:=Zh (And.intro e1 e2)
  clear hb0 H hr1 hr2 hq e1 e2
  go_enter Tryz.func17,Tryz.ntmps17
  exact j7
 ·rw [hq] at HA
  obtain ⟨hm,hk0,hk1⟩:=ZoP hq
  obtain ⟨k,rfl⟩:∃ d:Nat,k=d:=⟨k.toNat,by omega⟩
  have hkl:k<m.me.length:=by omega
  obtain ⟨v,hv⟩:∃ v,v=ZmD (gW Zmx m) m k:=⟨_,rfl⟩
  have e1:r1=if 1000000000<v then 0 else v:=by rw [hr1,hv];unfold ZoR;rw [hq,if_pos rfl,Int.toNat_natCast];split<;>rfl
  have e2:r2=if 1000000000<v then 6 else 0:=by rw [hr2,hv];unfold ZoR;rw [hq,if_pos rfl,Int.toNat_natCast];split<;>rfl
  have HE:=Zh (And.intro e1 e2)
  have HM:=Zh (fun B M W0=>ZoC (B:=B) (M:=M) (h:=h) (ZoS hm W0) (k+1) k (by omega) hkl)
  have HV:=Zh hv
  clear hb0 H hr1 hr2 hq e1 e2 hv hm
  go_enter Tryz.func17,Tryz.ntmps17
  go_wp2_with (first
   | (go_at_call 42;refine HA.out.mono ?_;rintro e w1 ⟨rfl,hb1⟩;have HB1:=Zh (Zaf HB0.out hb1);have HX1:=Zh (HX0.out.old hb1);have x0:=HX1.out.cell 0 (v:=.slice h.co m.cl.length h.cc) rfl;have x1:=HX1.out.cell 1 (v:=.slice h.so m.st.length h.sc) rfl;have x2:=HX1.out.cell 2 (v:=.slice h.eo m.me.length h.ec) rfl;have x3:=HX1.out.cell 3 (v:=.int .i64 m.sel) rfl;clear hb1)
   | (go_at_call 51;refine (ZoN m h _ (HH.out.old HB1.out)).mono ?_;rintro e w2 ⟨B,M,rfl,hb2,hM2,hW2⟩;have HB2:=Zh (Zaf HB1.out hb2);have HM2:=Zh (Nat.le_trans HB1.out.size hM2);clear hM2;have HW2:=Zh hW2;clear hb2 hW2)
   | (go_at_call 52;refine (HM.out B M w2 _ _ (HW2.out _) (Znv.refl _)).mono ?_;rintro e w3 ⟨rfl,hu3,hn3⟩;rw [←HV.out];have HU3:=Zh hu3;clear hu3 hn3)
   | (go_at_call 50;refine (Znd _ _).mono ?_;rintro e w4 ⟨rfl,hb4⟩;rw [←HE.out.1,←HE.out.2]))
  go_ret2
  exact Zhg rfl rfl (Zaf (HU3.out.below HB2.out (Nat.le_refl _) HM2.out HM2.out) hb4)
end
section
open Go.RowKit
def Bl (n:Int):Prop:=-1≤n∧n≤1000000001
theorem Bl.of {n:Int} (h:Bd n):Bl n:=by unfold Bd at h;unfold Bl;omega
theorem ZoU {a b:Int} (ha:Bl a) (hb:Bl b):Bl (Zmz a b):=by unfold Bl Zmz Zmu Zmt at *;split<;>omega
theorem ZoV {a b:Int} (ha:Bl a) (hb:Bl b):Bl (ZmA a b):=by
 unfold Bl ZmA at *
 repeat' split
 all_goals omega
theorem ZoW (a b:Int) (w:World) (ha:Bl a) (hb:Bl b):Calls Tryz.prog 122 #[.int .i64 a,.int .i64 b] w (Ret w (.int .i64 (Zmz a b))):=by
 obtain ⟨q,hq⟩:∃ q,q=Zmz a b:=⟨_,rfl⟩
 rw [←hq]
 have HQ:=Zh hq
 unfold Bl at ha hb
 obtain ⟨a0,a1⟩:=ha
 obtain ⟨b0,b1⟩:=hb
 clear hq
 go_enter Tryz.func122,Tryz.ntmps122
 go_wp2_with (go_at_call 97;refine (Znb a b _ ⟨by omega,by omega⟩ ⟨by omega,by omega⟩).mono ?_;rintro e w1 ⟨rfl,hb1⟩)
 all_goals
  go_ret
  refine ZcT (ZcY ?_) bE
  rw [HQ.out]
  unfold Zmz
  grind
theorem ZoX (a b:Int) (w:World):Calls Tryz.prog 124 #[.int .i64 a,.int .i64 b] w (Ret w (.int .i64 (ZmA a b))):=by
 obtain ⟨q,hq⟩:∃ q,q=ZmA a b:=⟨_,rfl⟩
 rw [←hq]
 have HQ:=Zh hq
 clear hq
 go_enter Tryz.func124,Tryz.ntmps124
 go_wp2
 all_goals
  go_ret
  refine ZcT (ZcY ?_) bE
  rw [HQ.out]
  unfold ZmA
  grind
def gLT (m:Md) (T:Nat→Int):Wg:=gL m fun t=>T t.toNat
section
variable {m:Md}{T:Nat→Int}{i:In3}{f s:Int}
theorem ZoY (q:i.op=25):(gLT m T).pl i=Zmz (Zmw i) (T i.a.toNat):=if_pos q
theorem ZoZ (q:i.op=26):(gLT m T).pl i=Zmz (Zmw i) (ZmB (fun t=>T t.toNat) (ZaN m i.a)):=(if_neg (by omega)).trans (if_pos q)
theorem Zo0 (q:i.op=28):(gLT m T).pl i=-1:=(if_neg (by omega)).trans ((if_neg (by omega)).trans (if_pos q))
theorem Zo1 (q:i.op≠25) (q2:i.op≠26) (q3:i.op≠28):(gLT m T).pl i=Zmw i:=(if_neg q).trans ((if_neg q2).trans (if_neg q3))
theorem Zo2 (q:i.op=29∨i.op=33):(gLT m T).brk i f s=Zmz (Zmw i) (Zmz (ZmA f s) 1):=if_pos q
theorem Zo3 (q:i.op=30):(gLT m T).brk i f s=Zmw i:=(if_neg (by omega)).trans (if_pos q)
theorem Zo4 (q:i.op=31∨i.op=32):(gLT m T).brk i f s=Zmz (Zmw i) (Zmz f 1):=(if_neg (by omega)).trans (if_neg (by omega))
end
theorem Zo5 {T:Int→Int}{l:List Int} (h:∀ t,Bl (T t)):Bl (ZmB T l):=by
 have:∀ (l:List Int) (a:Int),Bl a→Bl (l.foldl (fun a t=>ZmA a (T t)) a):=by
  intro l
  induction l with
  | nil=>intro a ha;exact ha
  | cons x r ih=>intro a ha;exact ih _ (ZoV ha (h x))
 unfold ZmB
 refine this _ _ ?_
 cases l with
 | nil=>show Bl 0;unfold Bl;omega
 | cons x r=>exact h x
structure Lkr (m:Md) (T:Nat→Int):Prop where
 hm:Za1 m=true
 bd:∀ k,Bl (T k)
 eq:∀ k,k<m.me.length→T k=WA (gLT m T) (cdM m k) 0 (cdM m k).length 0
section
variable {m:Md}{T:Int→Int}{l:List In3} (hv:∀ i∈l,ZaQ false i=true) (hT:∀ t,Bl (T t))
include hv hT
theorem Zo6:∀ i∈l,Bl ((gL m T).pl i):=fun i hi=>by
 have hb:Bl (Zmw i):=by have:=ZoD (hv i hi);unfold Bl;omega
 show Bl (if i.op=25 then _ else if i.op=26 then _ else if i.op=28 then _ else _)
 split
 ·exact ZoU hb (hT _)
 ·split
  ·exact ZoU hb (Zo5 hT)
  ·split
   ·unfold Bl;omega
   ·exact hb
theorem Zo7:∀ i∈l,∀ f s,Bl f→Bl s→Bl ((gL m T).brk i f s):=fun i hi f s hf hs=>by
 have hb:Bl (Zmw i):=by have:=ZoD (hv i hi);unfold Bl;omega
 have h1:Bl 1:=by unfold Bl;omega
 show Bl (if i.op=29∨i.op=33 then _ else if i.op=30 then _ else _)
 split
 ·exact ZoU hb (ZoU (ZoV hf hs) h1)
 ·split
  ·exact hb
  ·exact ZoU hb (ZoU hf h1)
theorem Zo8 {a b:Nat} (hs:Seg l a b):∀ acc,Bl acc→Bl (WA (gL m T) l a b acc):=by
 have hm:∀ k,k<l.length→l.getD k default∈l:=fun k hk=>ZfU _ hk
 have hpl:=Zo6 (m:=m) hv hT
 have hbr:=Zo7 (m:=m) hv hT
 have h0:Bl 0:=by unfold Bl;omega
 induction hs with
 | nil a h=>intro acc hacc;rw [Zml];exact hacc
 | pl a b q1 q2 q3 q4 q5 ih=>intro acc hacc;rw [Zmm q2 q5];exact ih _ (ZoU hacc (hpl _ (hm a q1)))
 | one a en b q1 q2 q3 i1 i2=>intro acc hacc;rw [Zmn q1 q2 q3];exact i2 _ (ZoU hacc (hbr _ (hm a q1.1) _ _ (i1 _ h0) h0))
 | two a n en b q1 q2 q3 q4 i1 i2 i3=>intro acc hacc;rw [Zmo q1 q2 q3 q4];exact i3 _ (ZoU hacc (hbr _ (hm a q1.1) _ _ (i1 _ h0) (i2 _ h0)))
end
def Zo9 (M:Nat) (h:Hd) (m:Md) (T:Nat→Int) (k:Nat):Prop:=∀ w Q,Zay w h m→KnM T w M Q→Calls Tryz.prog 58 #[.agg #[.slice h.co m.cl.length h.cc,.slice h.so m.st.length h.sc,.slice h.eo m.me.length h.ec,.int .i64 m.sel,.map (some M)],.int .i64 k] w (ZnA w M T (fun j=>Q j∨j<k+1) (T k))
def Zpa (M:Nat) (h:Hd) (m:Md) (T:Nat→Int) (k a b:Nat):Prop:=∀ w Q ro rc rows,Zay w h m→KnM T w M Q→Zar w ro rc rows→Nds w (cdM m k) (fun _=>True) a b rows →
 Calls Tryz.prog 91 #[.agg #[.slice h.co m.cl.length h.cc,.slice h.so m.st.length h.sc,.slice h.eo m.me.length h.ec,.int .i64 m.sel,.map (some M)],.int .i64 k,.slice ro rows.length rc] w (ZnA w M T (fun j=>Q j∨j<k) (WA (gLT m T) (cdM m k) a b 0))
section
variable {M:Nat}{h:Hd}{m:Md}{T:Nat→Int}{k:Nat}
theorem Lkr.ok (H:Lkr m T) (hk:k<m.me.length):ZfM m k:=ZfN H.hm hk
theorem Lkr.code (H:Lkr m T) (hk:k<m.me.length):ZaV false (cdM m k)=0:=by
 have hm:=H.ok hk
 unfold ZaV cdM
 exact j9
theorem Zpb (HW:Lkr m T) (hk:k<m.me.length) (hl:Zpa M h m T k 0 (cdM m k).length):Zo9 M h m T k:=by
 intro w Q H hkn
 have h16:k<16:=by have:=(Zim HW.hm).2.1;omega
 obtain ⟨K,D,hown,hhas,hat,hnk⟩:=hkn.look
 have hhk:=hhas k
 have hT:=HW.eq k hk
 have HH:=Zh H
 have HKn:=Zh hkn
 have HL:=Zh hl
 have HO:=Zh (hown.alloc (.cells #[.slice h.co m.cl.length h.cc,.slice h.so m.st.length h.sc,.slice h.eo m.me.length h.ec,.int .i64 m.sel,.map (some M)] 88))
 have HNk:=Zh (hnk k)
 have HAt:=Zh (hat k)
 have HWk:=Zh HW
 have HX:=Zh (Blk.new w #[.slice h.co m.cl.length h.cc,.slice h.so m.st.length h.sc,.slice h.eo m.me.length h.ec,.int .i64 m.sel,.map (some M)] 88)
 clear H hl hown hhas hnk hat HW hkn
 by_cases hkK:k∈K
 ·rw [decide_eq_true hkK] at hhk
  have HHk:=Zh hhk
  clear hhk
  go_enter Tryz.func58,Tryz.ntmps58
  go_wp2_with (at_lookup;refine wpList_lookup_own_ok_int _ rfl _ _ 86 rfl 3 3 .i64 ZnR Tryz.underlying86 Tryz.underlying3 (ZnS _) M K.length D rfl HO.out _ _ rfl (ZnU (by omega)) ?_;intro c hc hwc;rw [HHk.out])
  go_ret
  have:=HAt.out hkK
  rw [this] at hc
  cases hc
  exact ⟨rfl,Upd.of bE,(HKn.out.old bE).weak fun _ h=>.inl h⟩
 ·rw [decide_eq_false hkK] at hhk
  have HHk:=Zh hhk
  have HN0:=Zh (HNk.out hkK)
  obtain ⟨w1,hw1⟩:∃ w1,w1=w.alloc (.cells #[.slice h.co m.cl.length h.cc,.slice h.so m.st.length h.sc,.slice h.eo m.me.length h.ec,.int .i64 m.sel,.map (some M)] 88):=⟨_,rfl⟩
  have HB1:=Zh (show Below w.heap.size w w1 by rw [hw1];exact bE)
  rw [←hw1] at HX
  have HW1:=Zh hw1
  have hm1:=HH.out.old HB1.out
  obtain ⟨ea,he,-,-,-,-,-,-,e6⟩:=hm1.mth hk
  have hx2:=HX.out.cell 2 (v:=.slice h.eo m.me.length h.ec) rfl
  rw [he] at hx2
  have hke:=hm1.k k hk
  have HP:=Zh (fun w' hb=>Znu (cdM m k) (h.e k).ko (h.e k).kc (HWk.out.code hk) (cdM m k).length 0 (cdM m k).length w' (by omega) (Zar.old hke (w':=w') hb) (Zmg (HWk.out.ok hk).n))
  rw [show (m.me.getD k default).k.length=(cdM m k).length from rfl] at e6
  have HLn:=Zh (show (cdM m k).length≤120 from (HWk.out.ok hk).z.2.2)
  have hkl:(k:Int) < m.me.length:=by omega
  have HCs:=Zh (show Cs [(⟨w.heap.size,0,none⟩,.slice h.co m.cl.length h.cc),(⟨w.heap.size,1,none⟩,.slice h.so m.st.length h.sc),(⟨w.heap.size,2,none⟩,.slice (some ea) m.me.length h.ec),(⟨w.heap.size,3,none⟩,.int .i64 m.sel),(⟨w.heap.size,4,none⟩,.map (some M)),(⟨(ea.add (k*7)).block,(ea.add (k*7)).off+6,none⟩,.slice (h.e k).ko (cdM m k).length (h.e k).kc)] w1 from ⟨HX.out.cell 0 rfl,HX.out.cell 1 rfl,hx2,HX.out.cell 3 rfl,HX.out.cell 4 rfl,e6,trivial⟩)
  have HEa:=Zh he
  clear hke hhk hw1 hm1 e6 hx2 he
  go_enter Tryz.func58,Tryz.ntmps58
  go_upto_region 4 with (at_lookup;refine wpList_lookup_own_ok_int _ rfl _ _ 86 rfl 3 3 .i64 ZnR Tryz.underlying86 Tryz.underlying3 (ZnS _) M K.length D rfl HO.out _ _ rfl (ZnU (by omega)) ?_;intro c hc hwc;rw [HHk.out])
  clear hc hwc
  rw [←HW1.out]
  refine rO (Cs [(⟨w.heap.size,0,none⟩,.slice h.co m.cl.length h.cc),(⟨w.heap.size,1,none⟩,.slice h.so m.st.length h.sc),(⟨w.heap.size,2,none⟩,.slice (some ea) m.me.length h.ec),(⟨w.heap.size,3,none⟩,.int .i64 m.sel),(⟨w.heap.size,4,none⟩,.map (some M)),(⟨(ea.add (k*7)).block,(ea.add (k*7)).off+6,none⟩,.slice (h.e k).ko (cdM m k).length (h.e k).kc)]) (oL [0,1,2,3,4,5,6,7,8,9,10,11,12,13,14,15,16,117,118,19]) HCs.out ?_
  repeat refine pO ?_
  refine oO fun Kv hK=>?_
  go_simp
  refine (HP.out _ (Below.refl _ _).drew).mono ?_
  rintro e w2 ⟨ro,rc,rows,rfl,hown2,hnd2,hb2⟩
  have HB12:=Zh (Zaf (Below.refl w1.heap.size w1).drew hb2)
  have HB2:=Zh (Zaf HB1.out HB12.out)
  have HR2:=Zh (Zar.of_own hown2)
  have HD2:=Zh (hnd2.weak (Q:=fun _=>True) fun _ _=>trivial)
  refine hK _ _ ⟨Cs.keeps (Znv.of HB12.out) HCs.out,?_⟩
  clear hK Kv hown2 hnd2 hb2
  refine oO fun Kv hK=>?_
  go_simp
  have hl2:=HL.out w2 (fun j=>Q j∧j≠k) ro rc rows (HH.out.old HB2.out) (HN0.out.old HB2.out) HR2.out HD2.out
  rw [HEa.out] at hl2
  refine hl2.mono ?_
  clear hl2
  rintro e w3 ⟨rfl,hu3,hn3⟩
  have hkk:=(Znv.of HB12.out).trans (Znv.upd (HN0.out.old HB2.out).map hu3)
  have HU3:=Zh ((Upd.of HB2.out).trans hu3)
  refine hK _ _ ⟨Cs.keeps hkk HCs.out,?_⟩
  have x4:=hkk _ _ (HX.out.cell 4 (v:=.map (some M)) rfl)
  clear hK Kv hu3 hkk
  repeat refine pO ?_
  refine Zd5 ?_
  rw [←hT]
  obtain ⟨n,D3,hown3,hn16,hput⟩:=hn3.put (k:=k) (by omega) h16
  have HO3:=Zh hown3
  have HPt:=Zh hput
  have hbT:=HWk.out.bd k
  unfold Bl at hbT
  exact j2
end
end
section
open Go.RowKit
def Zpc (T:Int→Int) (l:List Int) (j:Nat):Int:=if j=0 then 0 else (l.take j).foldl (fun a t=>ZmA a (T t)) (T (l.getD 0 0))
theorem Zpd (T:Int→Int) (l:List Int):Zpc T l l.length=ZmB T l:=by
 unfold Zpc ZmB
 rw [List.take_length]
 cases l with
 | nil=>rfl
 | cons x r=>rfl
theorem Zpe {T:Int→Int}{l:List Int}{j:Nat} (hj:j<l.length):Zpc T l (j+1)=ZmA (if j=0 then T (l.getD j 0) else Zpc T l j) (T (l.getD j 0)):=by
 unfold Zpc
 rw [if_neg (by omega),List.take_succ_eq_append_getElem hj,List.foldl_append]
 have hx:l[j]=l.getD j 0:=by simp [hj]
 by_cases h0:j=0
 ·subst h0;rw [if_pos rfl,hx];rfl
 ·rw [if_neg h0,if_neg h0,hx];rfl
section
variable {M:Nat}{h:Hd}{m:Md}{T:Nat→Int}{k:Nat}
theorem Zpf (HW:Lkr m T) (hk:k<m.me.length) (hm:∀ j,j<k→Zo9 M h m T j) {a b:Nat} (hlc:∀ a' b',a<a'→b' < b→Zpa M h m T k a' b'):Zpa M h m T k a b:=by
 intro w Q ro rc rows H hkn hr hnd
 have hle:=hnd.le
 have hlen:rows.length≤120:=by have:(cdM m k).length≤120:=(HW.ok hk).z.2.2;omega
 obtain ⟨w1,hw1⟩:∃ w1,w1=w.alloc (.cells #[.slice h.co m.cl.length h.cc,.slice h.so m.st.length h.sc,.slice h.eo m.me.length h.ec,.int .i64 m.sel,.map (some M)] 88):=⟨_,rfl⟩
 have HB1:=Zh (show Below w.heap.size w w1 by rw [hw1];exact bE)
 have HX:=Zh (show Blk w1 w.heap.size #[.slice h.co m.cl.length h.cc,.slice h.so m.st.length h.sc,.slice h.eo m.me.length h.ec,.int .i64 m.sel,.map (some M)] 88 by rw [hw1];exact Blk.new _ _ _)
 have HW1:=Zh hw1
 have HMd1:=Zh (H.old HB1.out)
 have HKn1:=Zh (hkn.old HB1.out)
 have HR1:=Zh (Zar.old hr HB1.out)
 have HD1:=Zh (hnd.old HB1.out)
 obtain ⟨ea,he,-,-,-,-,-,-,e6⟩:=HMd1.out.mth hk
 rw [show (m.me.getD k default).k.length=(cdM m k).length from rfl] at e6
 obtain ⟨ko,hko⟩:∃ o,o=(h.e k).ko:=⟨_,rfl⟩
 obtain ⟨kc,hkc⟩:∃ o,o=(h.e k).kc:=⟨_,rfl⟩
 rw [←hko,←hkc] at e6
 have HKo:=Zh hko
 clear hko hkc
 have hx2:=HX.out.cell 2 (v:=.slice h.eo m.me.length h.ec) rfl
 rw [he] at hx2
 have lz:=Zac e6
 have lx:=Zac hx2
 dsimp only at lz lx
 have hkl:(k:Int) < m.me.length:=by omega
 have HM:=Zh hm
 have HLc:=Zh hlc
 have HWk:=Zh HW
 have HEa:=Zh he
 clear hw1 H hkn hr hnd hle hm hlc HW he
 go_enter Tryz.func91,Tryz.ntmps91
 go_upto_region 2 with fail
 rw [←HW1.out]
 go_wp2
 clear e6 hx2
 go_loopw [7,28] (fun s i wr=>∃ (j p:Nat) (sv:Int),i=.int .i64 j∧s=.int .i64 sv∧j≤rows.length∧Hid (a≤p∧p≤b∧Bl sv∧Nds wr (cdM m k) (fun _=>True) p b (rows.drop j)∧WA (gLT m T) (cdM m k) a b 0=WA (gLT m T) (cdM m k) p b sv)∧Hid (Upd M M w1 wr)∧Hid (KnM T wr M fun j=>Q j∨j<k)) (fun _ i _=>rows.length-(intOf i).toNat)
 case atStart=>exact ⟨0,a,0,rfl,rfl,Nat.zero_le _,⟨Nat.le_refl _,by have:=HD1.out.le;omega,by unfold Bl;omega,HD1.out,rfl⟩,Upd.refl _ _ _,HKn1.out.weak fun _ h=>.inl h⟩
 case round=>
  obtain ⟨j,p,sv,rfl,rfl,hj,HS,HU,HN⟩:=hrel
  rename World=>wo
  by_cases hjl:j<rows.length
  ·have hkw:=Znv.upd HKn1.out.map HU.out
   obtain ⟨hap,hpb0,hsv,hnd,hwa⟩:=HS.out
   have hdr:rows.drop j=rows.getD j default :: rows.drop (j+1):=by
    rw [List.drop_eq_getElem_cons hjl];simp [hjl]
   rw [hdr] at hnd
   obtain ⟨p',hit,hnd',hpp,hpb,hwa'⟩:=ZnK hnd (gLT m T)
   obtain ⟨ad,rfl,c0,c1,c2,c3,c4⟩:=ZnM (Znw HR1.out hkw) hjl
   obtain ⟨y,hy⟩:∃ y,y=rows.getD j default:=⟨_,rfl⟩
   rw [←hy] at hit hwa' c0 c1 c2 c3 c4
   obtain ⟨hya,hp,hyc⟩:=Zn7 hit (gLT m T)
   obtain ⟨ya,yl,ye,yf,yfn,yfc,ys,ysn,ysc⟩:=y
   dsimp only at hya hyc c0 c1 c2 c3 c4
   subst hya
   have HMd:=Zh (HMd1.out.keeps hkw)
   have HX0:=Zh (show Blk wo w.heap.size #[.slice h.co m.cl.length h.cc,.slice h.so m.st.length h.sc,.slice h.eo m.me.length h.ec,.int .i64 m.sel,.map (some M)] 88 from (HU.out.block _ HX.out.lt (Zny HX.out HKn1.out.map) (Zny HX.out HKn1.out.map)).trans HX.out)
   obtain ⟨ca,hca,o0,o1,o2⟩:=ZaA (l:=cdM m k) (HMd.out.k k hk) hp
   rw [←HKo.out] at hca
   subst hca
   have hin:(cdM m k).getD p default∈cdM m k:=ZfU _ hp
   have hiv:=((HWk.out.ok hk).i _ hin).1
   have hod:=ZfS hiv ((HWk.out.ok hk).i _ hin).2
   obtain ⟨i,hi⟩:∃ i,i=(cdM m k).getD p default:=⟨_,rfl⟩
   rw [←hi] at o0 o1 o2 hyc hiv hod
   obtain ⟨op,ia,ib⟩:=i
   dsimp only at o0 o1 o2
   obtain ⟨v,hv⟩:∃ v,v=ZnJ (gLT m T) (cdM m k) p ⟨p,yl,ye,yf,yfn,yfc,ys,ysn,ysc⟩:=⟨_,rfl⟩
   rw [←hv] at hyc hwa'
   obtain ⟨cv,hcv⟩:∃ c,c=Zmw ⟨op,ia,ib⟩:=⟨_,rfl⟩
   have hcb:=ZoD hiv
   rw [←hcv] at hcb
   have HCo:=Zh (fun w'=>ZoK ⟨op,ia,ib⟩ w' hiv)
   rw [←hcv] at HCo
   have HCv:=Zh hcv
   have HOd:=Zh hod
   have HYc:=Zh hyc
   have HIt:=Zh (And.intro hnd' (And.intro hsv (And.intro hpp (And.intro hpb hap))))
   have HWa:=Zh (hwa.trans (hwa' sv))
   have HOp:=Zh (Znf hiv)
   have hbc:Bl cv:=by unfold Bl;omega
   have HBc:=Zh hbc
   have HKr:=Zh hkw
   have l0:=Zac c0
   have l1:=Zac o0
   have hpl:(p:Int) < (cdM m k).length:=by omega
   have hjl2:(j:Int) < rows.length:=by omega
   have hwj:IntKind.i64.wrap ((j:Int)+1)=((j+1:Nat):Int):=IntWalk.i64_in _ (by omega)
   obtain ⟨w5,hw5⟩:∃ w5,w5=(wo.alloc (.cells #[.int .i64 p,.int .i64 yl,.int .i64 ye,.slice yf yfn yfc,.slice ys ysn ysc] 112)).alloc (.cells #[.int .i64 op,.int .i64 ia,.int .i64 ib] 42):=⟨_,rfl⟩
   have HB5:=Zh (show Below wo.heap.size wo w5 by rw [hw5];exact bE)
   have HX5:=Zh (show Blk w5 wo.heap.size #[.int .i64 p,.int .i64 yl,.int .i64 ye,.slice yf yfn yfc,.slice ys ysn ysc] 112 by rw [hw5];exact (Blk.new wo _ _).alloc _)
   have HI5:=Zh (show Blk w5 (wo.heap.size+1) #[.int .i64 op,.int .i64 ia,.int .i64 ib] 42 by rw [hw5];exact Blk.new' (w:=wo.alloc (.cells #[.int .i64 p,.int .i64 yl,.int .i64 ye,.slice yf yfn yfc,.slice ys ysn ysc] 112)) _ _ (by simp))
   have HW5:=Zh hw5
   clear hit hnd hnd' hwa hwa' hy hdr hv hsv hi hin hiv hod hcv hyc hw5 hap hpb0 hbc hkw
   go_upto_region 7 with fail
   rw [←HW5.out]
   clear c0 c1 c2 c3 c4 o0 o1 o2 l0 l1
   have i0:=HI5.out.cell 0 (v:=.int .i64 op) rfl
   have i1:=HI5.out.cell 1 (v:=.int .i64 ia) rfl
   have i2:=HI5.out.cell 2 (v:=.int .i64 ib) rfl
   go_upto_region 8 with (go_at_call 86;refine (HCo.out _).mono ?_;rintro e w6 ⟨rfl,hb6⟩;have HB6:=Zh (Zaf HB5.out hb6);have HX6:=Zh (HX5.out.old hb6);have HI6:=Zh (HI5.out.old hb6);clear i0 i1 i2 hb6)
   have HN6:=Zh (HN.out.old HB6.out)
   have HMd6:=Zh (HMd.out.old HB6.out)
   have HBx6:=Zh (HX0.out.old HB6.out)
   have HU6:=Zh (HU.out.bel HB6.out)
   have HK6:=Zh (Znv.of HB6.out)
   have i0:=HI6.out.cell 0 (v:=.int .i64 op) rfl
   have i1:=HI6.out.cell 1 (v:=.int .i64 ia) rfl
   have x3:=HX6.out.cell 3 (v:=.slice yf yfn yfc) rfl
   have x4:=HX6.out.cell 4 (v:=.slice ys ysn ysc) rfl
   have b0:=HBx6.out.cell 0 (v:=.slice h.co m.cl.length h.cc) rfl
   have b1:=HBx6.out.cell 1 (v:=.slice h.so m.st.length h.sc) rfl
   have b2:=HBx6.out.cell 2 (v:=.slice h.eo m.me.length h.ec) rfl
   have b3:=HBx6.out.cell 3 (v:=.int .i64 m.sel) rfl
   have b4:=HBx6.out.cell 4 (v:=.map (some M)) rfl
   go_upto_region 9 with fail
   clear i0
   have hpl1:ZaR op=false→v=(gLT m T).pl ⟨op,ia,ib⟩:=fun q=>by
    rcases HYc.out with ⟨_,_,r⟩|⟨_,_,_,_,_,_,_,_,_,_,r,_⟩
    ·exact r
    ·rw [show ZaR (In3.op ⟨op,ia,ib⟩)=ZaR op from rfl,q] at r;cases r
   have HPl:=Zh hpl1
   clear hpl1
   by_cases h25:op=25
   ·subst h25
    as_aux_lemma=>
    have ha:=(HOd.out.o25 rfl).1
    have ha0:=HOd.out.a0 (by simp)
    dsimp only at ha ha0
    obtain ⟨t,rfl⟩:∃ t:Nat,ia=t:=⟨ia.toNat,by omega⟩
    have HMt:=Zh (HM.out t (by omega) w6 _ HMd6.out HN6.out)
    have HXv:=Zh (show v=Zmz cv (T t) by rw [HPl.out (by decide),ZoY rfl,HCv.out];rfl)
    have HXb:=Zh (ZoU HBc.out (HWk.out.bd t))
    go_upto_region 31 with (first
     | (go_at_call 58;refine HMt.out.mono ?_;rintro e w7 ⟨rfl,hu7,hn7⟩;have HU7:=Zh (HU6.out.trans hu7);have HN7:=Zh (hn7.weak (R:=fun j=>Q j∨j<k) fun q hq=>hq.elim id fun e=>.inr (by omega));have HK7:=Zh (HK6.out.trans (Znv.upd HN6.out.map hu7));clear hu7 hn7)
     | (go_at_call 122;refine (ZoW cv _ _ HBc.out (HWk.out.bd t)).mono ?_;rintro e w8 ⟨rfl,hb8⟩;have HUz:=Zh (HU7.out.bel hb8);have HNz:=Zh (HN7.out.old hb8);have HKz:=Zh (HK7.out.trans (Znv.of hb8));clear hb8))
    exact j0
   by_cases h26:op=26
   ·subst h26
    as_aux_lemma=>
    obtain ⟨ha,htg⟩:=HOd.out.o26 rfl
    have ha0:=HOd.out.a0 (by simp)
    dsimp only at ha ha0 htg
    obtain ⟨s,rfl⟩:∃ j:Nat,ia=j:=⟨ia.toNat,by omega⟩
    have HTg:=Zh (Ziq m h s w6 HMd6.out HWk.out.hm ha)
    have HTt:=Zh htg
    have hln:=Nat.le_trans (ZdG m s) (Zim HWk.out.hm).1
    have HTn:=Zh (fun t (ht:t∈ZaN m s)=>ZfT ht)
    obtain ⟨tg,htq⟩:∃ tg,tg=ZaN m s:=⟨_,rfl⟩
    rw [←htq] at HTg HTt hln HTn
    have HTq:=Zh htq
    clear ha htg htq
    go_upto_region 14 with (go_at_call 123;refine HTg.out.mono ?_;rintro e w7 ⟨⟨ao,cap,rfl,hr7⟩,hb7⟩;have HR7:=Zh hr7;have HB7:=Zh hb7;clear hr7 hb7)
    go_wp2_with fail
    have c0:=Znv.of HB7.out _ _ b0
    have c1:=Znv.of HB7.out _ _ b1
    have c2:=Znv.of HB7.out _ _ b2
    have c3:=Znv.of HB7.out _ _ b3
    have c4:=Znv.of HB7.out _ _ b4
    have HCs:=Zh (show Cs [(⟨w.heap.size,0,none⟩,.slice h.co m.cl.length h.cc),(⟨w.heap.size,1,none⟩,.slice h.so m.st.length h.sc),(⟨w.heap.size,2,none⟩,.slice h.eo m.me.length h.ec),(⟨w.heap.size,3,none⟩,.int .i64 m.sel),(⟨w.heap.size,4,none⟩,.map (some M))] w7 from ⟨c0,c1,c2,c3,c4,trivial⟩)
    clear c0 c1 c2 c3 c4
    go_loopw [15,61] (fun mo i wr=>∃ (j2:Nat),i=.int .i64 j2∧mo=.int .i64 (Zpc (fun t=>T t.toNat) tg j2)∧j2≤tg.length∧Hid (Upd M M w7 wr)∧Hid (KnM T wr M fun j=>Q j∨j<k)) (fun _ i _=>tg.length-(intOf i).toNat)
    case atStart=>exact ⟨0,rfl,rfl,Nat.zero_le _,Upd.refl _ _ _,HN6.out.old HB7.out⟩
    case round=>
     obtain ⟨j2,rfl,rfl,hj2,HV,HKn⟩:=hrel
     by_cases hjl3:j2<tg.length
     ·have hkw:=Znv.upd (HN6.out.old HB7.out).map HV.out
      obtain ⟨ad2,rfl,t0⟩:=ZaB (Znw HR7.out hkw) hjl3
      have hmem:tg.getD j2 0∈tg:=ZfU _ hjl3
      have h1:=HTt.out _ hmem
      have h2:=HTn.out _ hmem
      have hsn:=Zpe (T:=fun t=>T t.toNat) hjl3
      obtain ⟨tj,htj⟩:∃ t,t=tg.getD j2 0:=⟨_,rfl⟩
      rw [←htj] at t0 h1 h2 hsn
      obtain ⟨t,rfl⟩:∃ d:Nat,tj=d:=⟨tj.toNat,by omega⟩
      have HMt:=Zh (HM.out t (by omega) wr (fun j=>Q j∨j<k) ((HMd6.out.old HB7.out).keeps hkw) HKn.out)
      have HSn:=Zh hsn
      have hjl4:(j2:Int) < tg.length:=by omega
      have htk:t<k:=by omega
      have hwj2:IntKind.i64.wrap ((j2:Int)+1)=((j2+1:Nat):Int):=IntWalk.i64_in _ (by omega)
      obtain ⟨c0,c1,c2,c3,c4,-⟩:=Cs.keeps hkw HCs.out
      obtain ⟨lp,hlp⟩:∃ l,l=Zpc (fun t=>T t.toNat) tg j2:=⟨_,rfl⟩
      rw [←hlp] at HSn
      rw [←hlp]
      clear hsn hmem h1 h2 htj hkw hlp
      by_cases hz:j2=0
      ·have hz2:((j2:Int) == 0)=true:=by simp [hz]
       have HZ:=Zh hz
       rw [if_pos hz] at HSn
       exact j3
      ·have hz2:((j2:Int) == 0)=false:=by simp [hz]
       have HZ:=Zh hz
       rw [if_neg hz] at HSn
       exact j3
     ·obtain rfl:j2=tg.length:=by omega
      have hj5:¬ (tg.length:Int) < tg.length:=by omega
      rw [Zpd]
      have HXv:=Zh (show v=Zmz cv (ZmB (fun t=>T t.toNat) tg) by rw [HPl.out (by decide),ZoZ rfl,HCv.out,HTq.out])
      have hlb:Bl (ZmB (fun t=>T t.toNat) tg):=Zo5 fun t=>HWk.out.bd _
      have HXb:=Zh (ZoU HBc.out hlb)
      have HLb:=Zh hlb
      obtain ⟨lt,hlt⟩:∃ l,l=ZmB (fun t=>T t.toNat) tg:=⟨_,rfl⟩
      rw [←hlt] at HXv HXb HLb
      rw [←hlt]
      clear hlb hlt
      go_upto_region 31 with (go_at_call 122;refine (ZoW cv lt _ HBc.out HLb.out).mono ?_;rintro e w8 ⟨rfl,hb8⟩;have HUz:=Zh (((HU6.out.bel HB7.out).trans HV.out).bel hb8);have HNz:=Zh (HKn.out.old hb8);have HKz:=Zh (((HK6.out.trans (Znv.of HB7.out)).trans (Znv.upd (HN6.out.old HB7.out).map HV.out)).trans (Znv.of hb8));clear hb8)
      exact j0
   have hb1:Bl 1:=by unfold Bl;omega
   by_cases ho:ZaR op=true
   ·rcases HYc.out with ⟨_,r,_⟩|⟨en,F,S,a1,b1',a2,b2',hye,hen,he35,ho',⟨hfn,hrF,hnF,hpa1,hbp1⟩,⟨hsn,hrS,hnS,hpa2,hbp2⟩,hval⟩
    ·exact absurd (ho.symm.trans r) (by decide)
    subst hye hfn hsn
    have hpb1:p'≤b:=HIt.out.2.2.2.1
    have hpa:a≤p:=HIt.out.2.2.2.2
    have hbf:=Zo8 (m:=m) (T:=fun t=>T t.toNat) (fun i hi=>((HWk.out.ok hk).i i hi).1) (fun t=>HWk.out.bd _) hnF.seg 0 (by unfold Bl;omega)
    have hbs:=Zo8 (m:=m) (T:=fun t=>T t.toNat) (fun i hi=>((HWk.out.ok hk).i i hi).1) (fun t=>HWk.out.bd _) hnS.seg 0 (by unfold Bl;omega)
    have HLf:=Zh (show ∀ w' Q',Zay w' h m→KnM T w' M Q'→Znv wo w'→_ from fun w' Q' hH hK hk=>HLc.out a1 b1' (by omega) (by omega) w' Q' yf yfc F hH hK (Znw hrF hk) (hnF.keeps hk))
    have HLs:=Zh (show ∀ w' Q',Zay w' h m→KnM T w' M Q'→Znv wo w'→_ from fun w' Q' hH hK hk=>HLc.out a2 b2' (by omega) (by omega) w' Q' ys ysc S hH hK (Znw hrS hk) (hnS.keeps hk))
    change Bl (WA (gLT m T) (cdM m k) a1 b1' 0) at hbf
    change Bl (WA (gLT m T) (cdM m k) a2 b2' 0) at hbs
    obtain ⟨f,hf⟩:∃ f,f=WA (gLT m T) (cdM m k) a1 b1' 0:=⟨_,rfl⟩
    obtain ⟨s,hs⟩:∃ f,f=WA (gLT m T) (cdM m k) a2 b2' 0:=⟨_,rfl⟩
    rw [←hf] at hbf HLf hval
    rw [←hs] at hbs HLs hval
    have HVal:=Zh hval
    have hop5:29≤op∧op≤33:=by have:=ho;unfold ZaR inI at this;simpa using this
    clear hf hs hval hrF hnF hrS hnS he35 ho' hen ho hpb1 hpa HYc
    by_cases h29:op=29∨op=33
    ·rcases h29 with h29|h29<;>subst h29
     all_goals
      as_aux_lemma=>
      go_upto_region 25 with fail
      have HC6:=Zh (show Cs [(⟨w.heap.size,0,none⟩,.slice h.co m.cl.length h.cc),(⟨w.heap.size,1,none⟩,.slice h.so m.st.length h.sc),(⟨w.heap.size,2,none⟩,.slice h.eo m.me.length h.ec),(⟨w.heap.size,3,none⟩,.int .i64 m.sel),(⟨w.heap.size,4,none⟩,.map (some M)),(⟨wo.heap.size,3,none⟩,.slice yf F.length yfc),(⟨wo.heap.size,4,none⟩,.slice ys S.length ysc)] w6 from ⟨b0,b1,b2,b3,b4,x3,x4,trivial⟩)
      refine rO (Cs [(⟨w.heap.size,0,none⟩,.slice h.co m.cl.length h.cc),(⟨w.heap.size,1,none⟩,.slice h.so m.st.length h.sc),(⟨w.heap.size,2,none⟩,.slice h.eo m.me.length h.ec),(⟨w.heap.size,3,none⟩,.int .i64 m.sel),(⟨w.heap.size,4,none⟩,.map (some M)),(⟨wo.heap.size,3,none⟩,.slice yf F.length yfc),(⟨wo.heap.size,4,none⟩,.slice ys S.length ysc)]) (oL [0,1,2,3,4,6,7,8,9,105,110,111,112,113,14]) HC6.out ?_
      clear b0 b1 b2 b3 b4 x3 x4
      repeat refine pO ?_
      refine oO fun Kv hK=>?_
      go_simp
      refine (HLf.out _ _ (HMd6.out.old (Below.refl _ _).drew) (HN6.out.eq rfl) HK6.out).mono ?_
      rintro e w7 ⟨rfl,hu7,hn7⟩
      have HD7:=Zh ((Upd.refl M M w6).drew.trans hu7)
      have HN7:=Zh (hn7.weak (R:=fun j=>Q j∨j<k) fun q hq=>hq.elim id .inr)
      refine hK _ _ ⟨Cs.keeps (Znv.upd HN6.out.map HD7.out) HC6.out,?_⟩
      clear hK Kv hu7 hn7
      repeat refine pO ?_
      refine oO fun Kv hK=>?_
      go_simp
      refine (HLs.out _ _ (HMd6.out.keeps (Znv.upd HN6.out.map HD7.out)) HN7.out (HK6.out.trans (Znv.upd HN6.out.map HD7.out))).mono ?_
      rintro e w8 ⟨rfl,hu8,hn8⟩
      have HD8:=Zh (HD7.out.trans hu8)
      have HN8:=Zh (hn8.weak (R:=fun j=>Q j∨j<k) fun q hq=>hq.elim id .inr)
      refine hK _ _ ⟨Cs.keeps (Znv.upd HN6.out.map HD8.out) HC6.out,?_⟩
      clear hK Kv hu8 hn8
      repeat refine pO ?_
      refine oO fun Kv hK=>?_
      go_simp
      refine (ZoX f s _).mono ?_
      rintro e w9 ⟨rfl,hb9⟩
      have HD9:=Zh (HD8.out.bel hb9)
      have HN9:=Zh (HN8.out.old hb9)
      refine hK _ _ ⟨Cs.keeps (Znv.upd HN6.out.map HD9.out) HC6.out,?_⟩
      clear hK Kv hb9
      repeat refine pO ?_
      refine oO fun Kv hK=>?_
      go_simp
      refine (ZoW (ZmA f s) 1 _ (ZoV hbf hbs) hb1).mono ?_
      rintro e w10 ⟨rfl,hb10⟩
      have HD10:=Zh (HD9.out.bel hb10)
      have HN10:=Zh (HN9.out.old hb10)
      refine hK _ _ ⟨Cs.keeps (Znv.upd HN6.out.map HD10.out) HC6.out,?_⟩
      clear hK Kv hb10
      repeat refine pO ?_
      refine oO fun Kv hK=>?_
      go_simp
      refine (ZoW cv _ _ HBc.out (ZoU (ZoV hbf hbs) hb1)).mono ?_
      rintro e w11 ⟨rfl,hb11⟩
      have HD11:=Zh (HD10.out.bel hb11)
      have HN11:=Zh (HN10.out.old hb11)
      refine hK _ _ ⟨Cs.keeps (Znv.upd HN6.out.map HD11.out) HC6.out,?_⟩
      clear hK Kv hb11
      repeat refine pO ?_
      refine Zd5 ?_
      have HXv:=Zh (show v=Zmz cv (Zmz (ZmA f s) 1) by rw [HVal.out,Zo2 (by simp),HCv.out])
      have HXb:=Zh (ZoU HBc.out (ZoU (ZoV hbf hbs) hb1))
      have HUz:=Zh (HU6.out.trans HD11.out)
      have HNz:=HN11
      have HKz:=Zh (HK6.out.trans (Znv.upd HN6.out.map HD11.out))
      go_wp2_with (go_at_call 122;refine (ZoW sv _ _ HIt.out.2.1 HXb.out).mono ?_;rintro e wE ⟨rfl,hbE⟩;have HBe:=Zh hbE;clear hbE)
      obtain ⟨q1,q2,q3,q4,q5⟩:=HIt.out
      exact ⟨⟨j+1,p',Zmz sv v,rfl,by rw [HXv.out],hjl,⟨by omega,q4,ZoU q2 (HXv.out▸HXb.out),q1.keeps (HKz.out.trans (Znv.of HBe.out)),HWa.out⟩,HUz.out.bel HBe.out,HNz.out.old HBe.out⟩,by simp [intOf];omega⟩
    by_cases h30:op=30
    ·subst h30
     as_aux_lemma=>
     have HXv:=Zh (show v=cv by rw [HVal.out,Zo3 rfl,HCv.out])
     have HXb:=HBc
     have HUz:=HU6
     have HNz:=HN6
     have HKz:=HK6
     exact j0
    ·rcases (show op=31∨op=32 by omega) with h31|h31<;>subst h31
     all_goals
      as_aux_lemma=>
      have HXv:=Zh (show v=Zmz cv (Zmz f 1) by rw [HVal.out,Zo4 (by simp),HCv.out])
      have HXb:=Zh (ZoU HBc.out (ZoU hbf hb1))
      go_upto_region 28 with fail
      clear i1 x4
      go_wp2_with fail
      refine (HLf.out _ _ HMd6.out HN6.out HK6.out).mono ?_
      rintro e w7 ⟨rfl,hu7,hn7⟩
      have HD7:=Zh hu7
      have HN7:=Zh (hn7.weak (R:=fun j=>Q j∨j<k) fun q hq=>hq.elim id .inr)
      clear hu7 hn7 b0 b1 b2 b3 b4 x3
      go_wp2_with fail
      refine (ZoW f 1 _ hbf hb1).mono ?_
      rintro e w8 ⟨rfl,hb8⟩
      have HB8:=Zh hb8
      clear hb8
      go_wp2_with fail
      refine (ZoW cv _ _ HBc.out (ZoU hbf hb1)).mono ?_
      rintro e w9 ⟨rfl,hb9⟩
      have HB9:=Zh (Zaf HB8.out hb9)
      clear hb9
      go_upto_region 31 with fail
      have HUz:=Zh ((HU6.out.trans HD7.out).bel HB9.out)
      have HNz:=Zh (HN7.out.old HB9.out)
      have HKz:=Zh ((HK6.out.trans (Znv.upd HN6.out.map HD7.out)).trans (Znv.of HB9.out))
      go_wp2_with (go_at_call 122;refine (ZoW sv _ _ HIt.out.2.1 HXb.out).mono ?_;rintro e wE ⟨rfl,hbE⟩;have HBe:=Zh hbE;clear hbE)
      obtain ⟨q1,q2,q3,q4,q5⟩:=HIt.out
      exact ⟨⟨j+1,p',Zmz sv v,rfl,by rw [HXv.out],hjl,⟨by omega,q4,ZoU q2 (HXv.out▸HXb.out),q1.keeps (HKz.out.trans (Znv.of HBe.out)),HWa.out⟩,HUz.out.bel HBe.out,HNz.out.old HBe.out⟩,by simp [intOf];omega⟩
   ·have ho2:ZaR op=false:=by simpa using ho
    have hn1:¬ op=29:=by have:=ho2;unfold ZaR inI at this;simp at this;omega
    have hn2:¬ op=33:=by have:=ho2;unfold ZaR inI at this;simp at this;omega
    have hn3:¬ op=31:=by have:=ho2;unfold ZaR inI at this;simp at this;omega
    have hn4:¬ op=32:=by have:=ho2;unfold ZaR inI at this;simp at this;omega
    by_cases h28:op=28
    ·subst h28
     as_aux_lemma=>
     have HXv:=Zh (show v=-1 by rw [HPl.out ho2,Zo0 rfl])
     have HXb:=Zh (show Bl (-1) by unfold Bl;omega)
     have HUz:=HU6
     have HNz:=HN6
     have HKz:=HK6
     clear ho ho2
     exact j0
    ·have HXv:=Zh (show v=cv by rw [HPl.out ho2,Zo1 h25 h26 h28,HCv.out])
     have HXb:=HBc
     have HUz:=HU6
     have HNz:=HN6
     have HKz:=HK6
     clear ho ho2
     exact j0
  ·obtain rfl:j=rows.length:=by omega
   have hj5:¬ (rows.length:Int) < rows.length:=by omega
   go_wp2
   go_ret
   obtain ⟨-,-,-,hnd,hwa⟩:=HS.out
   rw [List.drop_eq_nil_iff.2 (Nat.le_refl _)] at hnd
   cases hnd with
   | nil _ _=>exact ⟨by rw [hwa,Zml];rfl,(Upd.of HB1.out).trans HU.out,HN.out⟩
end
end
section
open Go.RowKit
section
variable {M:Nat}{h:Hd}{m:Md}{T:Nat→Int}{k:Nat}
theorem Zpg (HW:Lkr m T) (hk:k<m.me.length) (hm:∀ j,j<k→Zo9 M h m T j):∀ (n a b:Nat),b-a≤n→Zpa M h m T k a b
 | 0,a,b,hn=>Zpf HW hk hm fun a' b' h4 h5 w Q ro rc rows _ _ _ hd=>by have:=hd.le;omega
 | n+1,a,b,hn=>Zpf HW hk hm fun a' b' h4 h5=>Zpg HW hk hm n a' b' (by omega)
theorem Zph (HW:Lkr m T):∀ (n k:Nat),k<n→k<m.me.length→Zo9 M h m T k
 | 0,k,hn,_=>by omega
 | n+1,k,hn,hk=>Zpb HW hk (Zpg HW hk (fun j hj=>Zph HW n j (by omega) (by omega)) (cdM m k).length 0 (cdM m k).length (by omega))
end
theorem Zpi {m:Md} (hm:Za1 m=true):∀ (n k:Nat),k<n→Bl (ZmD (gL m) m k)
 | 0,k,hn=>by omega
 | n+1,k,hn=>by
  have h0:Bl 0:=by unfold Bl;omega
  rw [ZoH]
  by_cases hk:k<m.me.length
  ·refine Zo8 (fun i hi=>((ZfN hm hk).i i hi).1) (fun t=>?_) (Zmg (ZfN hm hk).n) 0 h0
   by_cases hj:t.toNat<k
   ·rw [ZmF _ _ hj]
    exact Zpi hm n _ (by omega)
   ·rw [List.getD_eq_getElem?_getD,List.getElem?_eq_none (by rw [ZmE];omega)]
    exact h0
  ·rw [ZoG (by omega)]
   show Bl (WA _ _ 0 0 0)
   rw [Zml]
   exact h0
theorem Zpj {m:Md} (hm:Za1 m=true) {k:Nat} (hk:k<m.me.length):ZmD (gL m) m k=WA (gLT m (ZmD (gL m) m)) (cdM m k) 0 (cdM m k).length 0:=by
 refine ZmH (Zmg (ZfN hm hk).n) (fun _ _=>rfl) (fun _ _=>rfl) (fun i hi=>?_)
 have ho:=ZfS ((ZfN hm hk).i i hi).1 ((ZfN hm hk).i i hi).2
 show (if i.op=25 then Zmz (Zmw i) _ else if i.op=26 then Zmz (Zmw i) _ else _)=if i.op=25 then Zmz (Zmw i) _ else if i.op=26 then Zmz (Zmw i) _ else _
 by_cases h25:i.op=25
 ·exact j8
 ·rw [if_neg h25,if_neg h25]
  by_cases h26:i.op=26
  ·rw [if_pos h26,if_pos h26]
   congr 1
   refine ZmJ fun t ht=>?_
   have:=(ho.o26 h26).2 t ht
   have:=ZfT ht
   rw [ZmF _ _ (by omega)]
  ·rw [if_neg h26,if_neg h26]
theorem Zpk {m:Md} (hm:Za1 m=true):Lkr m (ZmD (gL m) m):=⟨hm,fun k=>Zpi hm (k+1) k (by omega),fun k hk=>Zpj hm hk⟩
def Zpl (m:Md) (k:Int):Int × Int:=if ZoO m k=true then (if ZmD (gL m) m k.toNat<0 then (0,3) else if 1000000000<ZmD (gL m) m k.toNat then (0,6) else (ZmD (gL m) m k.toNat,0)) else (0,1)
theorem Zpm (m:Md) (h:Hd) (k:Int) (w:World) (H:Zay w h m):Calls Tryz.prog 24 #[.agg #[.slice h.co m.cl.length h.cc,.slice h.so m.st.length h.sc,.slice h.eo m.me.length h.ec,.int .i64 m.sel],.int .i64 k] w (Zhf w (.int .i64 (Zpl m k).1) (.int .i64 (Zpl m k).2)):=by
 have hmm:=@run_makeMap Tryz.prog
 have hb0:Below w.heap.size w (w.alloc (.cells #[.slice h.co m.cl.length h.cc,.slice h.so m.st.length h.sc,.slice h.eo m.me.length h.ec,.int .i64 m.sel] 26)):=by exact bE
 have HA:=Zh (ZoQ m h k _ (H.old hb0))
 obtain ⟨r1,hr1⟩:∃ r,r=(Zpl m k).1:=⟨_,rfl⟩
 obtain ⟨r2,hr2⟩:∃ r,r=(Zpl m k).2:=⟨_,rfl⟩
 rw [←hr1,←hr2]
 have HB0:=Zh hb0
 have HX0:=Zh (Blk.new w #[.slice h.co m.cl.length h.cc,.slice h.so m.st.length h.sc,.slice h.eo m.me.length h.ec,.int .i64 m.sel] 26)
 have HH:=Zh H
 rcases hq:ZoO m k with _|_
 ·rw [hq] at HA
  have e1:r1=0:=by rw [hr1];unfold Zpl;rw [hq];rfl
  have e2:r2=1:=by rw [hr2];unfold Zpl;rw [hq];rfl
  have HE:=Zh (And.intro e1 e2)
  clear hb0 H hr1 hr2 hq e1 e2 hmm
  go_enter Tryz.func24,Tryz.ntmps24
  exact j7
 ·rw [hq] at HA
  obtain ⟨hm,hk0,hk1⟩:=ZoP hq
  obtain ⟨k,rfl⟩:∃ d:Nat,k=d:=⟨k.toNat,by omega⟩
  have hkl:k<m.me.length:=by omega
  obtain ⟨v,hv⟩:∃ v,v=ZmD (gL m) m k:=⟨_,rfl⟩
  have e1:r1=if v<0 then 0 else if 1000000000<v then 0 else v:=by rw [hr1,hv];unfold Zpl;rw [hq,if_pos rfl,Int.toNat_natCast];split;rfl;split<;>rfl
  have e2:r2=if v<0 then 3 else if 1000000000<v then 6 else 0:=by rw [hr2,hv];unfold Zpl;rw [hq,if_pos rfl,Int.toNat_natCast];split;rfl;split<;>rfl
  have HE:=Zh (And.intro e1 e2)
  have HM:=Zh (fun M=>Zph (M:=M) (h:=h) (Zpk hm) (k+1) k (by omega) hkl)
  have HV:=Zh hv
  clear hb0 H hr1 hr2 hq e1 e2 hv hm
  go_enter Tryz.func24,Tryz.ntmps24
  by_cases hneg:v<0
  all_goals
   go_wp2_with (first
    | (go_at_call 42;refine HA.out.mono ?_;rintro e w1 ⟨rfl,hb1⟩;have HB1:=Zh (Zaf HB0.out hb1);have HX1:=Zh (HX0.out.old hb1);have x0:=HX1.out.cell 0 (v:=.slice h.co m.cl.length h.cc) rfl;have x1:=HX1.out.cell 1 (v:=.slice h.so m.st.length h.sc) rfl;have x2:=HX1.out.cell 2 (v:=.slice h.eo m.me.length h.ec) rfl;have x3:=HX1.out.cell 3 (v:=.int .i64 m.sel) rfl;clear hb1)
    | (go_at_call 58;refine (HM.out w1.heap.size _ _ (HH.out.old (by have:=HB1.out;exact bE)) (KnM.made _ w1)).mono ?_;rintro e w3 ⟨rfl,hu3,hn3⟩;rw [←HV.out];have HU3:=Zh hu3;clear hu3 hn3)
    | (go_at_call 50;refine (Znd _ _).mono ?_;rintro e w4 ⟨rfl,hb4⟩))
   all_goals
    go_ret2
    exact Zhg (ZcY (by rw [HE.out.1];grind)) (ZcY (by rw [HE.out.2];grind)) (by
     have h3:=HU3.out.below (bal HB1.out _) (Nat.le_refl _) HB1.out.size HB1.out.size
     first|exact h3|exact Zaf h3 hb4)
end
section
open Go.RowKit
theorem Zpn {w:World}{g:Nat}{L:List Int}{t:TypeId} (h:Blk w g (Zol L) t):Zar w (some ⟨g,0,none⟩) L.length L:=by
 have hf:Zak L=L.map (Value.int .i64):=by
  clear h
  induction L with
  | nil=>rfl
  | cons x r ih=>show Value.int .i64 x :: Zak r=_;rw [ih];rfl
 refine ⟨Zam _,(fun e=>by cases e),fun j u hu=>⟨_,rfl,?_⟩⟩
 have hj:(0:Nat)+j=j:=Nat.zero_add j
 show w.cell? ((⟨g,0,none⟩:Addr).add j)=some u
 rw [hf] at hu
 have:((⟨g,0,none⟩:Addr).add j)=⟨g,j,none⟩:=by
  unfold Addr.add
  split
  ·rename_i h0;rw [h0]
  ·simp
 rw [this]
 exact h.cell j (by simpa [Zol] using hu)
def Fnd (L:List Int) (v:Int) (W:World):Ending→World→Prop:=fun e w'=>(∃ n:Int,e=.returned (.int .i64 n)∧(0≤n↔v∈L))∧Below W.heap.size W w'
section
variable (L:List Int)(ao:Option Addr)(cap:Nat)(v:Int)(w:World)(hr:Zar w ao cap L)(hl:L.length≤4096)
include L ao cap v w hr hl
theorem Zpo:Calls Tryz.prog 80 #[.slice ao L.length cap,.int .i64 v] w (Fnd L v w):=by
 have HR:=Zh hr
 clear hr
 go_enter Tryz.func80,Tryz.ntmps80
 go_wp2
 go_loopw [8] (fun i wr=>∃ k:Nat,k≤L.length∧i=.int .i64 k∧Hid (Below w.heap.size w wr)∧Hid (∀ j,j<k→L.getD j 0≠v)) (fun i _=>L.length-(intOf i).toNat)
 case atStart=>exact ⟨0,Nat.zero_le _,rfl,by exact bE,fun j h=>by omega⟩
 case round=>
  obtain ⟨k,hk,rfl,HB,HN⟩:=hrel
  by_cases hkl:k<L.length
  ·obtain ⟨ad,rfl,c0⟩:=ZaB (HR.out.old HB.out) hkl
   have hkl2:(k:Int) < L.length:=by omega
   have hwk:IntKind.i64.wrap ((k:Int)+1)=((k+1:Nat):Int):=IntWalk.i64_in _ (by omega)
   obtain ⟨x,hx⟩:∃ x,x=L.getD k 0:=⟨_,rfl⟩
   rw [←hx] at c0
   have HX:=Zh hx
   clear hx
   by_cases he:v=x
   ·subst he
    go_wp2
    go_ret
    refine ⟨⟨k,rfl,fun _=>?_,fun _=>by omega⟩,HB.out⟩
    rw [HX.out]
    have:L.getD k 0=L[k]:=by simp [hkl]
    rw [this]
    exact List.getElem_mem _
   ·go_wp2
    exact ⟨⟨k+1,by omega,rfl,HB.out,fun j hj e=>by
     by_cases h2:j=k
     ·subst h2;rw [←HX.out] at e;exact he e.symm
     ·exact HN.out j (by omega) e⟩,by simp [intOf];omega⟩
  ·obtain rfl:k=L.length:=by omega
   have hj5:¬ (L.length:Int) < L.length:=by omega
   go_wp2
   go_ret
   refine ⟨⟨-1,rfl,fun h=>by omega,fun hm=>?_⟩,HB.out⟩
   obtain ⟨j,hj,e⟩:=List.getElem_of_mem hm
   exact absurd (show L.getD j 0=v by simp [hj,e]) (HN.out j hj)
theorem Zpp:Calls Tryz.prog 45 #[.slice ao L.length cap,.int .i64 v] w (Ret w (.bool (decide (v∈L)))):=by
 have HR:=Zh hr
 clear hr
 go_enter Tryz.func45,Tryz.ntmps45
 go_wp2_with (go_at_call 80;refine (Zpo L ao cap v _ HR.out hl).mono ?_;rintro e w1 ⟨⟨n,rfl,hn⟩,hb⟩)
 go_ret
 exact ZcT rfl hb
end
def Zpq (l:List In3):List Int:=(List.range l.length).map (tmV l)
def Zpr (m:Md) (k:Int):List Int × Int:=if ZoO m k=true then (if Zmt∈Zpq (cdM m k.toNat) then ([],6) else (Zpq (cdM m k.toNat),0)) else ([],1)
theorem Zps {l:List In3}{L:List Int} (hn:L.length=l.length) (h:∀ i,L.getD i 0=if 0≤i∧i<l.length then tmV l i else 0):L=Zpq l:=by
 refine List.ext_getElem (by simp [Zpq,hn]) fun i h1 h2=>?_
 have:=h i
 rw [if_pos (by omega)] at this
 simp [Zpq,←this,h1]
theorem Zpt (m:Md) (h:Hd) (k:Int) (w:World) (H:Zay w h m):Calls Tryz.prog 13 #[.agg #[.slice h.co m.cl.length h.cc,.slice h.so m.st.length h.sc,.slice h.eo m.me.length h.ec,.int .i64 m.sel],.int .i64 k] w (Zij w (Zpr m k).1 (Zpr m k).2):=by
 have hb0:Below w.heap.size w (w.alloc (.cells #[.slice h.co m.cl.length h.cc,.slice h.so m.st.length h.sc,.slice h.eo m.me.length h.ec,.int .i64 m.sel] 26)):=by exact bE
 have HA:=Zh (ZoQ m h k _ (H.old hb0))
 have HB0:=Zh hb0
 have HX0:=Zh (Blk.new w #[.slice h.co m.cl.length h.cc,.slice h.so m.st.length h.sc,.slice h.eo m.me.length h.ec,.int .i64 m.sel] 26)
 have HH:=Zh H
 rcases hq:ZoO m k with _|_
 · rw [hq] at HA
   have e1:Zpr m k=([],1):=by unfold Zpr;rw [hq];rfl
   rw [e1]
   clear hb0 H hq e1
   go_enter Tryz.func13,Tryz.ntmps13
   go_wp2_with (go_at_call 42;refine HA.out.mono ?_;rintro e w1 ⟨rfl,hb1⟩)
   go_ret2
   exact ⟨⟨none,0,rfl,Zar.nil _,fun _ e=>by cases e⟩,Zaf HB0.out hb1⟩
 · rw [hq] at HA
   obtain ⟨hm,hk0,hk1⟩:=ZoP hq
   obtain ⟨k,rfl⟩:∃ d:Nat,k=d:=⟨k.toNat,by omega⟩
   have hkl:k<m.me.length:=by omega
   have e1:Zpr m k=if Zmt∈Zpq (cdM m k) then ([],6) else (Zpq (cdM m k),0):=by unfold Zpr;rw [hq,if_pos rfl,Int.toNat_natCast]
   obtain ⟨⟨r1,r2⟩,hz⟩:∃ z,z=Zpr m k:=⟨_,rfl⟩
   rw [←hz]
   have HZ:=Zh (hz.trans e1)
   clear e1 hz
   have hcv:ZaV false (cdM m k)=0:=(ZoS hm w).code hkl
   have hcl:(cdM m k).length≤120:=(ZfN hm hkl).z.2.2
   have hsg:=Zmg (ZfN hm hkl).n
   have HP:=Zh (fun w' hb=>Znu (cdM m k) (h.e k).ko (h.e k).kc hcv (cdM m k).length 0 (cdM m k).length w' (by omega) (Zar.old (H.k k hkl) (w':=w') hb) hsg)
   obtain ⟨ea,he,-,-,-,-,-,-,e6⟩:=H.mth hkl
   rw [show (m.me.getD k default).k.length=(cdM m k).length from rfl] at e6
   have HE6:=Zh e6
   have HEa:=Zh he
   have hkl2:(k:Int) < m.me.length:=by omega
   have hmk:=run_make_row' (P:=Tryz.prog) 29 3 (.int .i64 0) 8 Tryz.underlying29 (by kernel_rfl) rfl .i64 .i64 (cdM m k).length (by omega) (by omega)
   rw [Zcn] at hmk
   have hko:=H.k k hkl
   have HKo:=Zh hko
   have hkb:0<(cdM m k).length→Lie (· < w.heap.size) (h.e k).ko:=fun h0 ad e=>by
     obtain ⟨ad',e',c0,_⟩:=ZaA (l:=cdM m k) hko (i:=0) h0
     rw [e] at e'
     cases e'
     have:=Zac c0
     rwa [Zag] at this
   have HCv:=Zh hcv
   clear hb0 H hq hm hsg e6 he hko hcv
   go_enter Tryz.func13,Tryz.ntmps13
   go_upto_region 4 with (go_at_call 42;refine HA.out.mono ?_;rintro e w1 ⟨rfl,hb1⟩;have HB1:=Zh (Zaf HB0.out hb1);have HX1:=Zh (HX0.out.old hb1);clear hb1)
   have x2:=HX1.out.cell 2 (v:=.slice h.eo m.me.length h.ec) rfl
   rw [HEa.out] at x2
   have e6:=(HB1.out.cell (Zac HE6.out)).trans HE6.out
   go_upto_region 5 with fail
   clear x2 e6
   go_upto_region 6 with fail
   clear hmk
   obtain ⟨g,hg⟩:∃ g,g=w1.heap.size:=⟨_,rfl⟩
   obtain ⟨w2,hw2⟩:∃ w2,w2=w1.alloc (Obj.cells (Array.replicate (cdM m k).length (Value.int IntKind.i64 0)) 3):=⟨_,rfl⟩
   have HA2:=Zh (show Blk w2 g (Zol (List.replicate (cdM m k).length 0)) 3 by rw [hw2,hg];have:=Blk.new w1 (Array.replicate (cdM m k).length (Value.int IntKind.i64 0)) 3;unfold Zol;rw [List.map_replicate,List.toArray_replicate];exact this)
   have HB2:=Zh (show Below w.heap.size w w2 by rw [hw2];exact bal HB1.out _)
   have HG:=Zh (show w.heap.size≤g∧g<w2.heap.size by rw [hw2,hg];exact ⟨HB1.out.size,by simp⟩)
   rw [←hw2,←hg]
   clear hg hw2
   go_upto_region 7 with (first
     | (go_at_call 44;refine (HP.out _ HB2.out).mono ?_;rintro e w3 ⟨ro,rc,rows,rfl,hown,hnd,hb3⟩;have HB3:=Zh (Zaf HB2.out hb3);have HA3:=Zh (HA2.out.old hb3)
        have HR3:=Zh (And.intro (Zar.of_own hown) (And.intro (show Lie (·≠g) ro from fun ad e=>by have:=Zmq hown ad e;have:=HG.out;omega) (hnd.weak (Q:=(·≠g)) fun j hj=>by have:=HG.out;omega)));clear hown hnd hb3)
     | (go_at_call 43
        refine (ZoA (h.e k).ko (h.e k).kc g (fun h0 ad e=>by have:=hkb h0 ad e;have:=HG.out;omega) HCv.out _ 0 (cdM m k).length (Nat.le_refl _) w3 ro rc rows (List.replicate (cdM m k).length 0) 1 (HKo.out.old HB3.out) HR3.out.1 HR3.out.2.1 HR3.out.2.2 HA3.out (by simp) (by unfold Bd;omega) (Zok _ _)).mono ?_
        rintro e w4 ⟨v4,L,rfl,hu4,hb4,hl4,hq4⟩
        have HB4:=Zh (hu4.below HB3.out (Nat.le_refl _) HG.out.1 HG.out.1)
        have HL:=Zh (Zps (l:=cdM m k) (L:=L) (by simpa using hl4) fun i=>by rw [hq4];split<;>first|rfl|(simp [List.getD_eq_getElem?_getD,List.getElem?_replicate];split<;>rfl))
        have HA4:=Zh hb4
        clear hu4 hb4 hl4 hq4))
   have hL:=HL.out
   have hLl:L.length=(cdM m k).length:=by rw [hL];simp [Zpq]
   have HR4:=Zh (Zpn HA4.out)
   rw [hLl] at HR4
   have hC:=fun w' (hb:Below w4.heap.size w4 w')=>Zpp L (some ⟨g,0,none⟩) L.length 1000000001 w' (Zar.old (Zpn HA4.out) hb) (by omega)
   rw [hLl] at hC
   have HC:=Zh hC
   have HLl:=Zh hLl
   clear hL hC hLl
   by_cases hin:Zmt∈L
   · obtain ⟨rfl,rfl⟩:=Prod.mk.inj (HZ.out.trans (by rw [←HL.out,if_pos hin]))
     have hin2:(1000000001:Int)∈L:=hin
     go_wp2_with (go_at_call 45;refine (HC.out _ (Below.refl _ _)).mono ?_;rintro e w5 ⟨rfl,hb5⟩;rw [decide_eq_true hin2])
     go_ret2
     exact ⟨⟨none,0,rfl,Zar.nil _,fun _ e=>by cases e⟩,Zaf HB4.out hb5⟩
   · obtain ⟨e1,e2⟩:=Prod.mk.inj (HZ.out.trans (by rw [←HL.out,if_neg hin]))
     subst e2
     have HE1:=Zh e1
     clear e1
     have hin2:¬ (1000000001:Int)∈L:=hin
     go_wp2_with (go_at_call 45;refine (HC.out _ (Below.refl _ _)).mono ?_;rintro e w5 ⟨rfl,hb5⟩;rw [decide_eq_false hin2])
     go_ret2
     rw [HE1.out]
     exact ⟨⟨some ⟨g,0,none⟩,L.length,by rw [HLl.out];rfl,Zar.old (Zpn HA4.out) hb5,fun a e=>by cases e;exact HG.out.1⟩,Zaf HB4.out hb5⟩
end
section
open Go.RowKit
def Zpu (c:List In3):Md:=⟨[],[],[⟨⟨#[97,46,102]⟩,-1,[],[⟨1,0⟩],⟨0,0⟩,c⟩],0⟩
def Zpv (b:Nat) (ao:Option Addr) (cap:Nat):Hd:=⟨none,0,none,0,some ⟨b+1,0,none⟩,1,fun _=>default,fun _=>⟨none,0,some ⟨b,0,none⟩,1,ao,cap⟩⟩
def Zpw:List In3:=[⟨1,3,0⟩,⟨30,5,0⟩,⟨0,0,0⟩,⟨35,0,0⟩]
theorem Zpx:ZoR (Zpu Zpw) 0=(13,0):=by kernel_rfl
theorem Zpy:Zpl (Zpu Zpw) 0=(3,0):=by kernel_rfl
theorem Zpz:Zpr (Zpu Zpw) 0=([1,1,5,5],0):=by kernel_rfl
def ZpA (W:World) (c:List In3):Ending→World→Prop:=fun e w'=>(∃ h:Hd,e=.returned (.agg #[.slice h.co 0 h.cc,.slice h.so 0 h.sc,.slice h.eo 1 h.ec,.int .i64 0])∧Zay w' h (Zpu c))∧Below W.heap.size W w'
theorem ZpB (c:List In3) (ao:Option Addr) (cap:Nat) (w:World) (hc:Zar w ao cap c) (hl:c.length≤1000):Calls Tryz.prog 41 #[.slice ao c.length cap] w (ZpA w c):=by
 have HC:=Zh hc
 clear hc
 go_enter Tryz.func41,Tryz.ntmps41
 go_wp2
 obtain ⟨W4,hW4⟩:∃ W4,W4=(((w.alloc (Obj.cells #[Value.slice none 0 0,Value.slice none 0 0,Value.slice (some { block:=w.heap.size+1+1,off:=0 }) 1 1,Value.int IntKind.i64 0] 26)).alloc (Obj.cells #[Value.int IntKind.i64 1,Value.int IntKind.i64 0] 35)).alloc (Obj.cells #[Value.string { data:=#[97,46,102] },Value.int IntKind.i64 (-1),Value.slice none 0 0,Value.slice (some { block:=w.heap.size+1,off:=0 }) 1 1,Value.int IntKind.i64 0,Value.int IntKind.i64 0,Value.slice ao c.length cap] 38)):=⟨_,rfl⟩
 rw [←hW4]
 have hb:Below w.heap.size w W4:=by rw [hW4];exact bE
 have hx:Blk W4 w.heap.size #[Value.slice none 0 0,Value.slice none 0 0,Value.slice (some { block:=w.heap.size+1+1,off:=0 }) 1 1,Value.int IntKind.i64 0] 26:=by rw [hW4];exact ((Blk.new w _ _).alloc _).alloc _
 have r1:=ZkR (w.alloc (Obj.cells #[Value.slice none 0 0,Value.slice none 0 0,Value.slice (some { block:=w.heap.size+1+1,off:=0 }) 1 1,Value.int IntKind.i64 0] 26)) ([⟨1,0⟩]:List Ty) _ 35 rfl
 have r2:=ZkR ((w.alloc (Obj.cells #[Value.slice none 0 0,Value.slice none 0 0,Value.slice (some { block:=w.heap.size+1+1,off:=0 }) 1 1,Value.int IntKind.i64 0] 26)).alloc (Obj.cells #[Value.int IntKind.i64 1,Value.int IntKind.i64 0] 35)) (Zav (Zpv (w.heap.size+1) ao cap) (Zpu c)) _ 38 rfl
 rw [bls] at r1
 rw [bls,bls] at r2
 have hM:Zay W4 (Zpv (w.heap.size+1) ao cap) (Zpu c):=by
  rw [hW4]
  have h1:∀ {i:Nat},i<1→i=0:=fun h=>by omega
  refine ⟨Zar.nil _,Zar.nil _,r2,fun i hi=>absurd hi (Nat.not_lt_zero i),fun i hi=>absurd hi (Nat.not_lt_zero i),fun i hi=>?_,fun i hi=>?_,fun i hi=>?_,fun i hi=>absurd hi (Nat.not_lt_zero i),fun i hi=>?_,⟨by show (0:Nat)≤_;omega,by show (0:Nat)≤_;omega,by show (1:Nat)≤_;omega⟩⟩
  ·obtain rfl:=h1 hi;exact Zar.nil _
  ·obtain rfl:=h1 hi;exact r1.alloc _
  ·obtain rfl:=h1 hi;exact HC.out.old bE
  ·obtain rfl:=h1 hi;exact ⟨by show (0:Nat)≤_;omega,by show (1:Nat)≤_;omega,by show c.length≤_;omega⟩
 have x0:=hx.cell 0 (v:=.slice none 0 0) rfl
 have x1:=hx.cell 1 (v:=.slice none 0 0) rfl
 have x2:=hx.cell 2 (v:=.slice (some { block:=w.heap.size+1+1,off:=0 }) 1 1) rfl
 have x3:=hx.cell 3 (v:=.int .i64 0) rfl
 clear r1 r2 hW4
 refine bodyPost_ret (v:=.agg #[.slice none 0 0,.slice none 0 0,.slice (some { block:=w.heap.size+1+1,off:=0 }) 1 1,.int .i64 0]) (by simp [results,Tryz.results41,go_sem,x0,x1,x2,x3]) rfl ?_
 exact ⟨⟨_,rfl,hM⟩,hb⟩
end
section
open Go.RowKit
theorem ZpC (w:World) (ao bo:Option Addr) (ac bc:Nat) (a b:List Int) (ha:Zar w ao ac a) (hb:Zar w bo bc b) (hl:a.length≤2000000):Calls Tryz.prog 15 #[.slice ao a.length ac,.slice bo b.length bc] w (Ret w (.bool (decide (a=b)))):=by
 have HA:=Zh ha
 have HB:=Zh hb
 clear ha hb
 by_cases hn:a.length=b.length
 ·have hn2:(a.length:Int)=b.length:=by omega
  rw [←hn]
  have HN:=Zh hn
  clear hn hn2
  go_enter Tryz.func15,Tryz.ntmps15
  go_wp2
  go_loopw [5] (fun i wr=>∃ k:Nat,k≤a.length∧i=.int .i64 k∧Hid (Below w.heap.size w wr)∧Hid (∀ j,j<k→a.getD j 0=b.getD j 0)) (fun i _=>a.length-(intOf i).toNat)
  case atStart=>exact ⟨0,Nat.zero_le _,rfl,by exact bE,fun j h=>by omega⟩
  case round=>
   obtain ⟨k,hk,rfl,HBr,HE⟩:=hrel
   rename World=>wo
   by_cases hkl:k<a.length
   ·obtain ⟨ad,rfl,c0⟩:=ZaB (HA.out.old HBr.out) hkl
    obtain ⟨bd,rfl,c1⟩:=ZaB (HB.out.old HBr.out) (show k<b.length by have:=HN.out;omega)
    have hkl2:(k:Int) < a.length:=by omega
    have hwk:IntKind.i64.wrap ((k:Int)+1)=((k+1:Nat):Int):=IntWalk.i64_in _ (by omega)
    obtain ⟨x,hx⟩:∃ x,x=a.getD k 0:=⟨_,rfl⟩
    obtain ⟨y,hy⟩:∃ x,x=b.getD k 0:=⟨_,rfl⟩
    rw [←hx] at c0
    rw [←hy] at c1
    have HX:=Zh hx
    have HY:=Zh hy
    clear hx hy
    go_upto_region 6 with fail
    refine rO (Cs [(ad.add k,.int .i64 x),(bd.add k,.int .i64 y)]) (oL [0,1,2,3,4,5,6,7,8]) ⟨c0,c1,trivial⟩ ?_
    clear c0 c1
    repeat refine pO ?_
    refine Zd5 ?_
    by_cases hxy:x=y
    ·subst hxy
     go_wp2
     exact ⟨⟨k+1,by omega,rfl,HBr.out.drew,fun j hj=>by
      by_cases h2:j=k
      ·subst h2;rw [←HX.out,←HY.out]
      ·exact HE.out j (by omega)⟩,by simp [intOf];omega⟩
    ·go_wp2
     go_ret
     rw [decide_eq_false (fun e:a=b=>hxy (by rw [HX.out,HY.out,e]))]
     exact ZcT rfl HBr.out.drew
   ·obtain rfl:k=a.length:=by omega
    have hj5:¬ (a.length:Int) < a.length:=by omega
    go_wp2
    go_ret
    rw [decide_eq_true (show a=b from List.ext_getElem HN.out fun j h1 h2=>by have:=HE.out j h1;simpa [h1,h2] using this)]
    exact ZcT rfl HBr.out
 ·have hn2:¬ (a.length:Int)=b.length:=by omega
  rw [decide_eq_false (fun e=>hn (by rw [e]))]
  go_enter Tryz.func15,Tryz.ntmps15
  go_wp2
  go_ret
  exact ZcT rfl bE
theorem ZpD (W:World):Calls Tryz.prog 12 #[] W (Ret W (.bool true)):=by
 obtain ⟨w0,hw0⟩:∃ w0,w0=W.alloc (Obj.cells #[.int .i64 1,.int .i64 3,.int .i64 0,.int .i64 30,.int .i64 5,.int .i64 0,.int .i64 0,.int .i64 0,.int .i64 0,.int .i64 35,.int .i64 0,.int .i64 0] 42):=⟨_,rfl⟩
 have hO:=ZpB Zpw (some ⟨W.heap.size,0,none⟩) 4 w0 (by rw [hw0];exact ZkR W Zpw _ _ rfl) (by decide)
 have HO:=Zh hO
 have HB0:=Zh (show Below W.heap.size W w0 by rw [hw0];exact bE)
 have HW:=Zh hw0
 clear hO hw0
 go_enter Tryz.func12,Tryz.ntmps12
 go_upto_region 2 with (go_at_call 41;rw [←HW.out];refine HO.out.mono ?_;rintro e w1 ⟨⟨h,rfl,hM⟩,hb1⟩;have HM1:=Zh hM;have HB1:=Zh (Zaf HB0.out hb1);clear hM hb1)
 obtain ⟨w2,hw2⟩:∃ w2,w2=w1.alloc (.cells #[.slice h.co 0 h.cc,.slice h.so 0 h.sc,.slice h.eo 1 h.ec,.int .i64 0] 26):=⟨_,rfl⟩
 have HB2:=Zh (show Below w1.heap.size w1 w2 by rw [hw2];exact bE)
 have HX2:=Zh (show Blk w2 w1.heap.size #[.slice h.co 0 h.cc,.slice h.so 0 h.sc,.slice h.eo 1 h.ec,.int .i64 0] 26 by rw [hw2];exact Blk.new _ _ _)
 have HM2:=Zh (HM1.out.old HB2.out)
 rw [←hw2]
 clear hw2
 have HWo:=Zh (show ∀ w',Below w2.heap.size w2 w'→Calls Tryz.prog 17 #[.agg #[.slice h.co 0 h.cc,.slice h.so 0 h.sc,.slice h.eo 1 h.ec,.int .i64 0],.int .i64 0] w' (Zhf w' (.int .i64 13) (.int .i64 0)) from fun w' hb=>by
   have:=ZoT (Zpu Zpw) h 0 w' (HM2.out.old hb)
   rw [Zpx] at this
   exact this)
 have HLe:=Zh (show ∀ w',Below w2.heap.size w2 w'→Calls Tryz.prog 24 #[.agg #[.slice h.co 0 h.cc,.slice h.so 0 h.sc,.slice h.eo 1 h.ec,.int .i64 0],.int .i64 0] w' (Zhf w' (.int .i64 3) (.int .i64 0)) from fun w' hb=>by
   have:=Zpm (Zpu Zpw) h 0 w' (HM2.out.old hb)
   rw [Zpy] at this
   exact this)
 have HTi:=Zh (show ∀ w',Below w2.heap.size w2 w'→Calls Tryz.prog 13 #[.agg #[.slice h.co 0 h.cc,.slice h.so 0 h.sc,.slice h.eo 1 h.ec,.int .i64 0],.int .i64 0] w' (Zij w' ([1,1,5,5]:List Int) 0) from fun w' hb=>by
   have:=Zpt (Zpu Zpw) h 0 w' (HM2.out.old hb)
   rw [Zpz] at this
   exact this)
 have HBN:=Zh (Below.refl w2.heap.size w2)
 have hx:=HX2.out.old HBN.out;have x0:=hx.cell 0 (v:=.slice h.co 0 h.cc) rfl;have x1:=hx.cell 1 (v:=.slice h.so 0 h.sc) rfl;have x2:=hx.cell 2 (v:=.slice h.eo 1 h.ec) rfl;have x3:=hx.cell 3 (v:=.int .i64 0) rfl;clear hx
 go_wp2_with (first
   | (go_at_call 17;refine (HWo.out _ HBN.out).mono ?_;rintro e w3 ⟨rfl,hb3⟩;have HBN:=Zh (Zaf HBN.out hb3);clear hb3 x0 x1 x2 x3;have hx:=HX2.out.old HBN.out;have x0:=hx.cell 0 (v:=.slice h.co 0 h.cc) rfl;have x1:=hx.cell 1 (v:=.slice h.so 0 h.sc) rfl;have x2:=hx.cell 2 (v:=.slice h.eo 1 h.ec) rfl;have x3:=hx.cell 3 (v:=.int .i64 0) rfl;clear hx)
   | (go_at_call 24;refine (HLe.out _ HBN.out).mono ?_;rintro e w4 ⟨rfl,hb4⟩;have HBN:=Zh (Zaf HBN.out hb4);clear hb4 x0 x1 x2 x3;have hx:=HX2.out.old HBN.out;have x0:=hx.cell 0 (v:=.slice h.co 0 h.cc) rfl;have x1:=hx.cell 1 (v:=.slice h.so 0 h.sc) rfl;have x2:=hx.cell 2 (v:=.slice h.eo 1 h.ec) rfl;have x3:=hx.cell 3 (v:=.int .i64 0) rfl;clear hx)
   | (go_at_call 13;refine (HTi.out _ HBN.out).mono ?_;rintro e w5 ⟨⟨ao,cap,rfl,hr,-⟩,hb5⟩;have HBN:=Zh (Zaf HBN.out hb5);have HR:=Zh hr;clear hb5 hr x0 x1 x2 x3)
   | (go_at_call 15
      have hI:=ZpC (w5.alloc (.cells #[.int .i64 1,.int .i64 1,.int .i64 5,.int .i64 5] 3)) ao (some ⟨w5.heap.size,0,none⟩) cap 4 ([1,1,5,5]:List Int) ([1,1,5,5]:List Int) (HR.out.old bE) (ZkR w5 ([1,1,5,5]:List Int) _ _ rfl) (by decide)
      rw [decide_eq_true rfl] at hI
      refine hI.mono ?_
      rintro e w6 ⟨rfl,hb6⟩
      have HB6:=Zh (Zaf (show Below w2.heap.size w2 _ from bal HBN.out _) hb6)
      clear hb6 hI))
 go_ret
 exact ZcT rfl (Zaf HB1.out (Zaf HB2.out HB6.out))
end
end Go.Proofs.YtfkbfjhocmbneaaGreat
