/- Joined texts. The first: bound: the weights of all methods by cost; costs, asked. -/
import Derived.Test.YtcfjblcgceednaaGreatG23
import Derived.Test.YtcfjblcgceednaaGreatG27
set_option linter.all false
set_option linter.unusedVariables false
set_option linter.unusedSimpArgs false
set_option maxRecDepth 100000
set_option maxHeartbeats 16000000
namespace Go.Proofs.YtcfjblcgceednaaGreat
theorem j0{p:Prop}(h:p:=by
 go_wp2_with (go_at_call 292;refine (Zo6 sv _ _ HIt.out.2.1 HXb.out).mono ?_;rintro e wE ⟨rfl,hbE⟩;have HBe:=Zh hbE;clear hbE)
 obtain ⟨q1,q2,q3,q4,q5⟩:=HIt.out
 exact ⟨⟨j+1,p',ZmJ sv v,rfl,by rw [HXv.out],hjl,⟨by omega,q4,Zo4 q2 (HXv.out▸HXb.out),q1.keeps (HKz.out.trans (ZnF.of HBe.out)),HWa.out⟩,HUz.out.bel HBe.out,HNz.out.old HBe.out⟩,by simp [intOf];omega⟩):p:=h
theorem j3{p:Prop}(h:p:=by
 clear hz
 go_wp2_with (first
  | (go_at_call 156;refine HMt.out.mono ?_;rintro e w8 ⟨rfl,hu8,hn8⟩;have HU8:=Zh (HV.out.trans hu8);have HN8:=Zh (hn8.weak (R:=fun j=>Q j∨j<k) fun q hq=>hq.elim id fun e=>.inr (by omega));clear hu8 hn8)
  | (go_at_call 294;refine (Zo7 _ _ _).mono ?_;rintro e w9 ⟨rfl,hb9⟩))
 exact ⟨⟨j2+1,rfl,by rw [HSn.out];rfl,hjl3,HU8.out.bel hb9,HN8.out.old hb9⟩,by simp [intOf];omega⟩):p:=h
theorem j5{p:Prop}(h:p:=by
 simp only [ZaQ,Bool.and_eq_true] at h
 have:=h.1.1.2
 rcases ho with rfl|rfl
 ·unfold inR at this;simp [opA,ZaO,ZaP,inI] at this;omega
 ·unfold inR at this;simp [opA,ZaO,ZaP,inI] at this;omega):p:=h
theorem j7{p:Prop}(h:p:=by
 go_wp2_with (go_at_call 100;refine HA.out.mono ?_;rintro e w1 ⟨rfl,hb1⟩)
 go_ret2
 exact Zhg (ZcY HE.out.1.symm) (ZcY HE.out.2.symm) (Zaf HB0.out hb1)):p:=h
theorem j8{p:Prop}(h:p:=by
 rw [if_pos h25,if_pos h25]
 have:=(ho.o25 h25).1
 have:=ho.a0 (by omega)
 dsimp only
 rw [ZmP _ _ (by omega)]):p:=h
section
open Go.RowKit
section
variable {x:Ms}{B M:Nat}{h:Hd}{m:Md}{T:Nat→Int}{g:Nat}{caps:Array Value}{W0:World}{k:Nat}
theorem ZoL (HW:Wkr x m T g caps W0) (hk:k<m.me.length) (hm:∀ j,j<k→ZnX x B M h m T g caps W0 j):∀ (n a b:Nat),b-a≤n→ZnY x B M h m T g caps W0 k a b
 | 0,a,b,hn=>Zn0 HW hk fun p y p' h1 h2 h3=>by omega
 | n+1,a,b,hn=>Zn0 HW hk fun p y p' h1 h2 h3=>Zoi HW hk hm fun a' b' h4 h5=>ZoL HW hk hm n a' b' (by omega)
theorem ZoM (HW:Wkr x m T g caps W0):∀ (n k:Nat),k<n→k<m.me.length→ZnX x B M h m T g caps W0 k
 | 0,k,hn,_=>by omega
 | n+1,k,hn,hk=>Zn5 HW hk (ZoL HW hk (fun j hj=>ZoM HW n j (by omega) (by omega)) (cdM m k).length 0 (cdM m k).length (by omega))
end
theorem ZoN {i:In3} (h:ZaQ false i=true):0≤ZmG i∧ZmG i≤1000:=by
 have h1:=Zno i.op.toNat
 unfold ZmG
 split
 ·rename_i ho
  obtain ⟨op,a,b⟩:=i
  dsimp only at ho ⊢
  have:0≤a∧a≤48:=by
   exact j5
  dsimp only at h1
  omega
 ·omega
theorem ZoO (i:In3) (h:i.op=35):ZmG i=1:=by
 unfold ZmG
 rw [h,if_neg (by omega)]
 rfl
theorem ZoP {i:In3} (h:ZaQ false i=true) (ho:i.op=15∨i.op=16):0≤i.a∧i.a≤1000:=by
 obtain ⟨op,a,b⟩:=i
 dsimp only at ho ⊢
 exact j5
theorem ZoQ {m:Md}{k:Nat} (h:m.me.length≤k):cdM m k=[]:=by
 unfold cdM
 rw [List.getD_eq_getElem?_getD,List.getElem?_eq_none h]
 rfl
theorem ZoR (G:(Int→Int)→Wg) (m:Md) (k:Nat):ZmN G m k=WA (G fun t=>(ZmM G m k).getD t.toNat 0) (cdM m k) 0 (cdM m k).length 0:=by
 unfold ZmN
 conv=>lhs;unfold ZmM
 rw [List.getD_eq_getElem?_getD,List.getElem?_append_right (by rw [ZmO];omega),ZmO,Nat.sub_self]
 rfl
theorem ZoS {m:Md} (hm:Za1 m=true) {x:Ms} (hw:∀ k,k<m.me.length→∀ i∈cdM m k,0≤x.wt i∧x.wt i≤1000) (ht:0≤x.tl∧x.tl≤1000):∀ (n k:Nat),k<n→Bd (ZmN (gW x m) m k)
 | 0,k,hn=>by omega
 | n+1,k,hn=>by
  have h0:Bd 0:=by unfold Bd;omega
  rw [ZoR]
  by_cases hk:k<m.me.length
  ·refine ZnR (hw k hk) ht (fun t=>?_) (fun i hi=>(ZfS ((ZfN hm hk).i i hi).1 ((ZfN hm hk).i i hi).2).a0) (Zmq (ZfN hm hk).n) 0 h0
   by_cases hj:t.toNat<k
   ·rw [ZmP _ _ hj]
    exact ZoS hm hw ht n _ (by omega)
   ·rw [List.getD_eq_getElem?_getD,List.getElem?_eq_none (by rw [ZmO];omega)]
    exact h0
  ·rw [ZoQ (by omega)]
   show Bd (WA _ _ 0 0 0)
   rw [Zmv]
   exact h0
theorem ZoT {m:Md} (hm:Za1 m=true) (x:Ms) {k:Nat} (hk:k<m.me.length):ZmN (gW x m) m k=WA (gT x m (ZmN (gW x m) m)) (cdM m k) 0 (cdM m k).length 0:=by
 refine ZmR (Zmq (ZfN hm hk).n) (fun _ _=>rfl) (fun _ _=>rfl) (fun i hi=>?_)
 have ho:=ZfS ((ZfN hm hk).i i hi).1 ((ZfN hm hk).i i hi).2
 show (if i.op=25 then ZmE (x.wt i) _ else if i.op=26 then ZmE (x.wt i) _ else _)=if i.op=25 then ZmE (x.wt i) _ else if i.op=26 then ZmE (x.wt i) _ else _
 by_cases h25:i.op=25
 ·exact j8
 ·rw [if_neg h25,if_neg h25]
  by_cases h26:i.op=26
  ·rw [if_pos h26,if_pos h26]
   congr 1
   refine ZmS fun t ht=>?_
   have:=(ho.o26 h26).2 t ht
   have:=ZfT ht
   rw [ZmP _ _ (by omega)]
  ·rw [if_neg h26,if_neg h26]
theorem ZoU (i:In3) (w:World) (hv:ZaQ false i=true):Calls Tryz.prog 158 #[.agg #[.int .i64 i.op,.int .i64 i.a,.int .i64 i.b]] w (Ret w (.int .i64 (ZmG i))):=by
 have HC:=Zh (fun w'=>Znq i w' hv (ZoP hv))
 clear hv
 obtain ⟨op,a,b⟩:=i
 dsimp only at HC ⊢
 go_enter Tryz.func158,Tryz.ntmps158
 go_wp2_with (go_at_call 220;refine (HC.out _).mono ?_;rintro e w1 ⟨rfl,hb1⟩)
 go_ret
 exact ZcT rfl bE
theorem KnM.made (T:Nat→Int) (w:World):KnM T (w.alloc (.map #[] 0)) w.heap.size fun _=>False:=
 ⟨[],.map [],List.nodup_nil,fun k hk=>by simp at hk,World.ownsMap_made _ _ _ _,Maps.isMap_empty,fun k=>by simp [Maps.has],fun k hk=>by simp at hk⟩
def ZoV:Value:=.func (Fn.func 158) #[] #[]
def ZoW (w:World) (h:Hd) (m:Md):Ending→World→Prop:=fun e w'=>∃ B M,e=.returned (.pointer (some ⟨B,0,none⟩))∧Below w.heap.size w w'∧w.heap.size≤M∧∀ T,ZnJ w' B M h m ZoV false T fun _=>False
theorem ZoX (m:Md) (h:Hd) (w:World) (H:Zay w h m):Calls Tryz.prog 101 #[.agg #[.slice h.co m.cl.length h.cc,.slice h.so m.st.length h.sc,.slice h.eo m.me.length h.ec,.int .i64 m.sel]] w (ZoW w h m):=by
 have hmm:=@run_makeMap Tryz.prog
 have HH:=Zh H
 clear H
 go_enter Tryz.func101,Tryz.ntmps101
 go_wp2
 go_ret
 refine ⟨w.heap.size+1+1,w.heap.size+1,rfl,by exact bE,by omega,fun T=>⟨Blk.new' _ _ (by simp),HH.out.old bE,?_⟩⟩
 have:=KnM.made T (w.alloc (.cells #[.slice h.co m.cl.length h.cc,.slice h.so m.st.length h.sc,.slice h.eo m.me.length h.ec,.int .i64 m.sel] 26))
 rw [bls] at this
 exact this.old bE
def ZoY (m:Md) (k:Int):Bool:=decide ((Zmg m).2.2=0)&&inV m.me.length k
theorem ZoZ {m:Md}{k:Int} (h:ZoY m k=true):Za1 m=true∧0≤k∧k<m.me.length:=by
 unfold ZoY inV at h
 simp only [Bool.and_eq_true,decide_eq_true_eq] at h
 refine ⟨?_,h.2⟩
 have:=h.1
 unfold Zmg at this
 split at this
 ·assumption
 ·simp at this
theorem Zo0 (m:Md) (h:Hd) (k:Int) (w:World) (H:Zay w h m):Calls Tryz.prog 100 #[.agg #[.slice h.co m.cl.length h.cc,.slice h.so m.st.length h.sc,.slice h.eo m.me.length h.ec,.int .i64 m.sel],.int .i64 k] w (Ret w (.int .i64 (if ZoY m k=true then 0 else 1))):=by
 have HV:=Zh (fun w' hb=>Zmj w' h m (H.old (w':=w') hb))
 obtain ⟨q,hq⟩:∃ q:Int,q=if ZoY m k=true then 0 else 1:=⟨_,rfl⟩
 rw [←hq]
 obtain ⟨⟨z0,z1,z2⟩,hz⟩:∃ z,z=Zmg m:=⟨_,rfl⟩
 unfold ZoY inV at hq
 rw [←hz] at HV hq
 have HQ:=Zh hq
 have hb0:Below w.heap.size w (w.alloc (.cells #[.slice h.co m.cl.length h.cc,.slice h.so m.st.length h.sc,.slice h.eo m.me.length h.ec,.int .i64 m.sel] 26)):=by exact bE
 have HB0:=Zh hb0
 have HX0:=Zh (Blk.new w #[.slice h.co m.cl.length h.cc,.slice h.so m.st.length h.sc,.slice h.eo m.me.length h.ec,.int .i64 m.sel] 26)
 clear H hz hq hb0
 go_enter Tryz.func100,Tryz.ntmps100
 go_wp2_with (go_at_call 82;refine (HV.out _ HB0.out).mono ?_;rintro e w1 ⟨rfl,hb1⟩;have x2:=(HX0.out.old hb1).cell 2 (v:=.slice h.eo m.me.length h.ec) rfl;have HB1:=Zh (Zaf HB0.out hb1);clear hb1)
 all_goals
  go_ret
  refine ZcT (ZcY ?_) HB1.out
  rw [HQ.out]
  grind
def Zo1 (m:Md) (k:Int):Int × Int:=if ZoY m k=true then (if 1000000000<ZmN (gW ZmH m) m k.toNat then (0,6) else (ZmN (gW ZmH m) m k.toNat,0)) else (0,1)
theorem Zo2 {m:Md} (hm:Za1 m=true) (W0:World):Wkr ZmH m (ZmN (gW ZmH m) m) 158 #[] W0 where
 hm:=hm
 wt k hk i hi:=ZoN ((ZfN hm hk).i i hi).1
 tl:=by decide
 te:=ZoO
 bd k:=ZoS hm (x:=ZmH) (fun k hk i hi=>ZoN ((ZfN hm hk).i i hi).1) (by decide) (k+1) k (by omega)
 eq k hk:=ZoT hm ZmH hk
 cf A W:=by kernel_rfl
 fn k hk i hi w' _:=by
  have:=ZoU i w' ((ZfN hm hk).i i hi).1
  rw [Array.append_empty]
  exact this
theorem Zo3 (m:Md) (h:Hd) (k:Int) (w:World) (H:Zay w h m):Calls Tryz.prog 54 #[.agg #[.slice h.co m.cl.length h.cc,.slice h.so m.st.length h.sc,.slice h.eo m.me.length h.ec,.int .i64 m.sel],.int .i64 k] w (Zhf w (.int .i64 (Zo1 m k).1) (.int .i64 (Zo1 m k).2)):=by
 have hb0:Below w.heap.size w (w.alloc (.cells #[.slice h.co m.cl.length h.cc,.slice h.so m.st.length h.sc,.slice h.eo m.me.length h.ec,.int .i64 m.sel] 26)):=by exact bE
 have HA:=Zh (Zo0 m h k _ (H.old hb0))
 obtain ⟨r1,hr1⟩:∃ r,r=(Zo1 m k).1:=⟨_,rfl⟩
 obtain ⟨r2,hr2⟩:∃ r,r=(Zo1 m k).2:=⟨_,rfl⟩
 rw [←hr1,←hr2]
 have HB0:=Zh hb0
 have HX0:=Zh (Blk.new w #[.slice h.co m.cl.length h.cc,.slice h.so m.st.length h.sc,.slice h.eo m.me.length h.ec,.int .i64 m.sel] 26)
 have HH:=Zh H
 rcases hq:ZoY m k with _|_
 ·rw [hq] at HA
  have e1:r1=0:=by rw [hr1];unfold Zo1;rw [hq];rfl
  have e2:r2=1:=by rw [hr2];unfold Zo1;rw [hq];rfl
  have HE:=Zh (And.intro e1 e2)
  clear hb0 H hr1 hr2 hq e1 e2
  go_enter Tryz.func54,Tryz.ntmps54
  exact j7
 ·rw [hq] at HA
  obtain ⟨hm,hk0,hk1⟩:=ZoZ hq
  obtain ⟨k,rfl⟩:∃ d:Nat,k=d:=⟨k.toNat,by omega⟩
  have hkl:k<m.me.length:=by omega
  obtain ⟨v,hv⟩:∃ v,v=ZmN (gW ZmH m) m k:=⟨_,rfl⟩
  have e1:r1=if 1000000000<v then 0 else v:=by rw [hr1,hv];unfold Zo1;rw [hq,if_pos rfl,Int.toNat_natCast];split<;>rfl
  have e2:r2=if 1000000000<v then 6 else 0:=by rw [hr2,hv];unfold Zo1;rw [hq,if_pos rfl,Int.toNat_natCast];split<;>rfl
  have HE:=Zh (And.intro e1 e2)
  have HM:=Zh (fun B M W0=>ZoM (B:=B) (M:=M) (h:=h) (Zo2 hm W0) (k+1) k (by omega) hkl)
  have HV:=Zh hv
  clear hb0 H hr1 hr2 hq e1 e2 hv hm
  go_enter Tryz.func54,Tryz.ntmps54
  go_wp2_with (first
   | (go_at_call 100;refine HA.out.mono ?_;rintro e w1 ⟨rfl,hb1⟩;have HB1:=Zh (Zaf HB0.out hb1);have HX1:=Zh (HX0.out.old hb1);have x0:=HX1.out.cell 0 (v:=.slice h.co m.cl.length h.cc) rfl;have x1:=HX1.out.cell 1 (v:=.slice h.so m.st.length h.sc) rfl;have x2:=HX1.out.cell 2 (v:=.slice h.eo m.me.length h.ec) rfl;have x3:=HX1.out.cell 3 (v:=.int .i64 m.sel) rfl;clear hb1)
   | (go_at_call 101;refine (ZoX m h _ (HH.out.old HB1.out)).mono ?_;rintro e w2 ⟨B,M,rfl,hb2,hM2,hW2⟩;have HB2:=Zh (Zaf HB1.out hb2);have HM2:=Zh (Nat.le_trans HB1.out.size hM2);clear hM2;have HW2:=Zh hW2;clear hb2 hW2)
   | (go_at_call 110;refine (HM.out B M w2 _ _ (HW2.out _) (ZnF.refl _)).mono ?_;rintro e w3 ⟨rfl,hu3,hn3⟩;rw [←HV.out];have HU3:=Zh hu3;clear hu3 hn3)
   | (go_at_call 105;refine (Znn _ _).mono ?_;rintro e w4 ⟨rfl,hb4⟩;rw [←HE.out.1,←HE.out.2]))
  go_ret2
  exact Zhg rfl rfl (Zaf (HU3.out.below HB2.out (Nat.le_refl _) HM2.out HM2.out) hb4)
end
section
open Go.RowKit
def Bl (n:Int):Prop:=-1≤n∧n≤1000000001
theorem Bl.of {n:Int} (h:Bd n):Bl n:=by unfold Bd at h;unfold Bl;omega
theorem Zo4 {a b:Int} (ha:Bl a) (hb:Bl b):Bl (ZmJ a b):=by unfold Bl ZmJ ZmE ZmD at *;split<;>omega
theorem Zo5 {a b:Int} (ha:Bl a) (hb:Bl b):Bl (ZmK a b):=by
 unfold Bl ZmK at *
 repeat' split
 all_goals omega
theorem Zo6 (a b:Int) (w:World) (ha:Bl a) (hb:Bl b):Calls Tryz.prog 292 #[.int .i64 a,.int .i64 b] w (Ret w (.int .i64 (ZmJ a b))):=by
 obtain ⟨q,hq⟩:∃ q,q=ZmJ a b:=⟨_,rfl⟩
 rw [←hq]
 have HQ:=Zh hq
 unfold Bl at ha hb
 obtain ⟨a0,a1⟩:=ha
 obtain ⟨b0,b1⟩:=hb
 clear hq
 go_enter Tryz.func292,Tryz.ntmps292
 go_wp2_with (go_at_call 160;refine (Znl a b _ ⟨by omega,by omega⟩ ⟨by omega,by omega⟩).mono ?_;rintro e w1 ⟨rfl,hb1⟩)
 all_goals
  go_ret
  refine ZcT (ZcY ?_) bE
  rw [HQ.out]
  unfold ZmJ
  grind
theorem Zo7 (a b:Int) (w:World):Calls Tryz.prog 294 #[.int .i64 a,.int .i64 b] w (Ret w (.int .i64 (ZmK a b))):=by
 obtain ⟨q,hq⟩:∃ q,q=ZmK a b:=⟨_,rfl⟩
 rw [←hq]
 have HQ:=Zh hq
 clear hq
 go_enter Tryz.func294,Tryz.ntmps294
 go_wp2
 all_goals
  go_ret
  refine ZcT (ZcY ?_) bE
  rw [HQ.out]
  unfold ZmK
  grind
def gLT (m:Md) (T:Nat→Int):Wg:=gL m fun t=>T t.toNat
section
variable {m:Md}{T:Nat→Int}{i:In3}{f s:Int}
theorem Zo8 (q:i.op=25):(gLT m T).pl i=ZmJ (ZmG i) (T i.a.toNat):=if_pos q
theorem Zo9 (q:i.op=26):(gLT m T).pl i=ZmJ (ZmG i) (ZmL (fun t=>T t.toNat) (ZaN m i.a)):=(if_neg (by omega)).trans (if_pos q)
theorem Zpa (q:i.op=28):(gLT m T).pl i=-1:=(if_neg (by omega)).trans ((if_neg (by omega)).trans (if_pos q))
theorem Zpb (q:i.op≠25) (q2:i.op≠26) (q3:i.op≠28):(gLT m T).pl i=ZmG i:=(if_neg q).trans ((if_neg q2).trans (if_neg q3))
theorem Zpc (q:i.op=29∨i.op=33):(gLT m T).brk i f s=ZmJ (ZmG i) (ZmJ (ZmK f s) 1):=if_pos q
theorem Zpd (q:i.op=30):(gLT m T).brk i f s=ZmG i:=(if_neg (by omega)).trans (if_pos q)
theorem Zpe (q:i.op=31∨i.op=32):(gLT m T).brk i f s=ZmJ (ZmG i) (ZmJ f 1):=(if_neg (by omega)).trans (if_neg (by omega))
end
theorem Zpf {T:Int→Int}{l:List Int} (h:∀ t,Bl (T t)):Bl (ZmL T l):=by
 have:∀ (l:List Int) (a:Int),Bl a→Bl (l.foldl (fun a t=>ZmK a (T t)) a):=by
  intro l
  induction l with
  | nil=>intro a ha;exact ha
  | cons x r ih=>intro a ha;exact ih _ (Zo5 ha (h x))
 unfold ZmL
 refine this _ _ ?_
 cases l with
 | nil=>show Bl 0;unfold Bl;omega
 | cons x r=>exact h x
structure Lkr (m:Md) (T:Nat→Int):Prop where
 hm:Za1 m=true
 bd:∀ k,Bl (T k)
 eq:∀ k,k<m.me.length→T k=WA (gLT m T) (cdM m k) 0 (cdM m k).length 0
section
variable {m:Md}{T:Int→Int}{l:List In3} (hv:∀ i∈l,ZaQ false i=true) (hT:∀ t,Bl (T t))
include hv hT
theorem Zpg:∀ i∈l,Bl ((gL m T).pl i):=fun i hi=>by
 have hb:Bl (ZmG i):=by have:=ZoN (hv i hi);unfold Bl;omega
 show Bl (if i.op=25 then _ else if i.op=26 then _ else if i.op=28 then _ else _)
 split
 ·exact Zo4 hb (hT _)
 ·split
  ·exact Zo4 hb (Zpf hT)
  ·split
   ·unfold Bl;omega
   ·exact hb
theorem Zph:∀ i∈l,∀ f s,Bl f→Bl s→Bl ((gL m T).brk i f s):=fun i hi f s hf hs=>by
 have hb:Bl (ZmG i):=by have:=ZoN (hv i hi);unfold Bl;omega
 have h1:Bl 1:=by unfold Bl;omega
 show Bl (if i.op=29∨i.op=33 then _ else if i.op=30 then _ else _)
 split
 ·exact Zo4 hb (Zo4 (Zo5 hf hs) h1)
 ·split
  ·exact hb
  ·exact Zo4 hb (Zo4 hf h1)
theorem Zpi {a b:Nat} (hs:Seg l a b):∀ acc,Bl acc→Bl (WA (gL m T) l a b acc):=by
 have hm:∀ k,k<l.length→l.getD k default∈l:=fun k hk=>ZfU _ hk
 have hpl:=Zpg (m:=m) hv hT
 have hbr:=Zph (m:=m) hv hT
 have h0:Bl 0:=by unfold Bl;omega
 induction hs with
 | nil a h=>intro acc hacc;rw [Zmv];exact hacc
 | pl a b q1 q2 q3 q4 q5 ih=>intro acc hacc;rw [Zmw q2 q5];exact ih _ (Zo4 hacc (hpl _ (hm a q1)))
 | one a en b q1 q2 q3 i1 i2=>intro acc hacc;rw [Zmx q1 q2 q3];exact i2 _ (Zo4 hacc (hbr _ (hm a q1.1) _ _ (i1 _ h0) h0))
 | two a n en b q1 q2 q3 q4 i1 i2 i3=>intro acc hacc;rw [Zmy q1 q2 q3 q4];exact i3 _ (Zo4 hacc (hbr _ (hm a q1.1) _ _ (i1 _ h0) (i2 _ h0)))
end
def Zpj (M:Nat) (h:Hd) (m:Md) (T:Nat→Int) (k:Nat):Prop:=∀ w Q,Zay w h m→KnM T w M Q→Calls Tryz.prog 156 #[.agg #[.slice h.co m.cl.length h.cc,.slice h.so m.st.length h.sc,.slice h.eo m.me.length h.ec,.int .i64 m.sel,.map (some M)],.int .i64 k] w (ZnK w M T (fun j=>Q j∨j<k+1) (T k))
def Zpk (M:Nat) (h:Hd) (m:Md) (T:Nat→Int) (k a b:Nat):Prop:=∀ w Q ro rc rows,Zay w h m→KnM T w M Q→Zar w ro rc rows→Nds w (cdM m k) (fun _=>True) a b rows →
 Calls Tryz.prog 218 #[.agg #[.slice h.co m.cl.length h.cc,.slice h.so m.st.length h.sc,.slice h.eo m.me.length h.ec,.int .i64 m.sel,.map (some M)],.int .i64 k,.slice ro rows.length rc] w (ZnK w M T (fun j=>Q j∨j<k) (WA (gLT m T) (cdM m k) a b 0))
section
variable {M:Nat}{h:Hd}{m:Md}{T:Nat→Int}{k:Nat}
theorem Lkr.ok (H:Lkr m T) (hk:k<m.me.length):ZfM m k:=ZfN H.hm hk
theorem Lkr.code (H:Lkr m T) (hk:k<m.me.length):ZaV false (cdM m k)=0:=by
 have hm:=H.ok hk
 unfold ZaV cdM
 exact j9
theorem Zpl (HW:Lkr m T) (hk:k<m.me.length) (hl:Zpk M h m T k 0 (cdM m k).length):Zpj M h m T k:=by
 intro w Q H hkn
 have h16:k<16:=by have:=(Zin HW.hm).2.1;omega
 obtain ⟨K,D,hown,hhas,hat,hnk⟩:=hkn.look
 have hhk:=hhas k
 have hT:=HW.eq k hk
 have HH:=Zh H
 have HKn:=Zh hkn
 have HL:=Zh hl
 have HO:=Zh (hown.alloc (.cells #[.slice h.co m.cl.length h.cc,.slice h.so m.st.length h.sc,.slice h.eo m.me.length h.ec,.int .i64 m.sel,.map (some M)] 190))
 have HNk:=Zh (hnk k)
 have HAt:=Zh (hat k)
 have HWk:=Zh HW
 have HX:=Zh (Blk.new w #[.slice h.co m.cl.length h.cc,.slice h.so m.st.length h.sc,.slice h.eo m.me.length h.ec,.int .i64 m.sel,.map (some M)] 190)
 clear H hl hown hhas hnk hat HW hkn
 by_cases hkK:k∈K
 ·rw [decide_eq_true hkK] at hhk
  have HHk:=Zh hhk
  clear hhk
  go_enter Tryz.func156,Tryz.ntmps156
  go_wp2_with (at_lookup;refine wpList_lookup_own_ok_int _ rfl _ _ 69 rfl 3 3 .i64 Zn1 Tryz.underlying69 Tryz.underlying3 (Zn2 _) M K.length D rfl HO.out _ _ rfl (Zn4 (by omega)) ?_;intro c hc hwc;rw [HHk.out])
  go_ret
  have:=HAt.out hkK
  rw [this] at hc
  cases hc
  exact ⟨rfl,Upd.of bE,(HKn.out.old bE).weak fun _ h=>.inl h⟩
 ·rw [decide_eq_false hkK] at hhk
  have HHk:=Zh hhk
  have HN0:=Zh (HNk.out hkK)
  obtain ⟨w1,hw1⟩:∃ w1,w1=w.alloc (.cells #[.slice h.co m.cl.length h.cc,.slice h.so m.st.length h.sc,.slice h.eo m.me.length h.ec,.int .i64 m.sel,.map (some M)] 190):=⟨_,rfl⟩
  have HB1:=Zh (show Below w.heap.size w w1 by rw [hw1];exact bE)
  rw [←hw1] at HX
  have HW1:=Zh hw1
  have hm1:=HH.out.old HB1.out
  obtain ⟨ea,he,-,-,-,-,-,-,e6⟩:=hm1.mth hk
  have hx2:=HX.out.cell 2 (v:=.slice h.eo m.me.length h.ec) rfl
  rw [he] at hx2
  have hke:=hm1.k k hk
  have HP:=Zh (fun w' hb=>ZnE (cdM m k) (h.e k).ko (h.e k).kc (HWk.out.code hk) (cdM m k).length 0 (cdM m k).length w' (by omega) (Zar.old hke (w':=w') hb) (Zmq (HWk.out.ok hk).n))
  rw [show (m.me.getD k default).k.length=(cdM m k).length from rfl] at e6
  have HLn:=Zh (show (cdM m k).length≤120 from (HWk.out.ok hk).z.2.2)
  have hkl:(k:Int) < m.me.length:=by omega
  have HCs:=Zh (show Cs [(⟨w.heap.size,0,none⟩,.slice h.co m.cl.length h.cc),(⟨w.heap.size,1,none⟩,.slice h.so m.st.length h.sc),(⟨w.heap.size,2,none⟩,.slice (some ea) m.me.length h.ec),(⟨w.heap.size,3,none⟩,.int .i64 m.sel),(⟨w.heap.size,4,none⟩,.map (some M)),(⟨(ea.add (k*7)).block,(ea.add (k*7)).off+6,none⟩,.slice (h.e k).ko (cdM m k).length (h.e k).kc)] w1 from ⟨HX.out.cell 0 rfl,HX.out.cell 1 rfl,hx2,HX.out.cell 3 rfl,HX.out.cell 4 rfl,e6,trivial⟩)
  have HEa:=Zh he
  clear hke hhk hw1 hm1 e6 hx2 he
  go_enter Tryz.func156,Tryz.ntmps156
  go_upto_region 4 with (at_lookup;refine wpList_lookup_own_ok_int _ rfl _ _ 69 rfl 3 3 .i64 Zn1 Tryz.underlying69 Tryz.underlying3 (Zn2 _) M K.length D rfl HO.out _ _ rfl (Zn4 (by omega)) ?_;intro c hc hwc;rw [HHk.out])
  clear hc hwc
  rw [←HW1.out]
  refine rO (Cs [(⟨w.heap.size,0,none⟩,.slice h.co m.cl.length h.cc),(⟨w.heap.size,1,none⟩,.slice h.so m.st.length h.sc),(⟨w.heap.size,2,none⟩,.slice (some ea) m.me.length h.ec),(⟨w.heap.size,3,none⟩,.int .i64 m.sel),(⟨w.heap.size,4,none⟩,.map (some M)),(⟨(ea.add (k*7)).block,(ea.add (k*7)).off+6,none⟩,.slice (h.e k).ko (cdM m k).length (h.e k).kc)]) (oL [0,1,2,3,4,5,6,7,8,9,10,11,12,13,14,15,16,117,118,19]) HCs.out ?_
  repeat refine pO ?_
  refine oO fun Kv hK=>?_
  go_simp
  refine (HP.out _ (Below.refl _ _).drew).mono ?_
  rintro e w2 ⟨ro,rc,rows,rfl,hown2,hnd2,hb2⟩
  have HB12:=Zh (Zaf (Below.refl w1.heap.size w1).drew hb2)
  have HB2:=Zh (Zaf HB1.out HB12.out)
  have HR2:=Zh (Zar.of_own hown2)
  have HD2:=Zh (hnd2.weak (Q:=fun _=>True) fun _ _=>trivial)
  refine hK _ _ ⟨Cs.keeps (ZnF.of HB12.out) HCs.out,?_⟩
  clear hK Kv hown2 hnd2 hb2
  refine oO fun Kv hK=>?_
  go_simp
  have hl2:=HL.out w2 (fun j=>Q j∧j≠k) ro rc rows (HH.out.old HB2.out) (HN0.out.old HB2.out) HR2.out HD2.out
  rw [HEa.out] at hl2
  refine hl2.mono ?_
  clear hl2
  rintro e w3 ⟨rfl,hu3,hn3⟩
  have hkk:=(ZnF.of HB12.out).trans (ZnF.upd (HN0.out.old HB2.out).map hu3)
  have HU3:=Zh ((Upd.of HB2.out).trans hu3)
  refine hK _ _ ⟨Cs.keeps hkk HCs.out,?_⟩
  have x4:=hkk _ _ (HX.out.cell 4 (v:=.map (some M)) rfl)
  clear hK Kv hu3 hkk
  repeat refine pO ?_
  refine Zd5 ?_
  rw [←hT]
  obtain ⟨n,D3,hown3,hn16,hput⟩:=hn3.put (k:=k) (by omega) h16
  have HO3:=Zh hown3
  have HPt:=Zh hput
  have hbT:=HWk.out.bd k
  unfold Bl at hbT
  exact j2
end
end
section
open Go.RowKit
def Zpm (T:Int→Int) (l:List Int) (j:Nat):Int:=if j=0 then 0 else (l.take j).foldl (fun a t=>ZmK a (T t)) (T (l.getD 0 0))
theorem Zpn (T:Int→Int) (l:List Int):Zpm T l l.length=ZmL T l:=by
 unfold Zpm ZmL
 rw [List.take_length]
 cases l with
 | nil=>rfl
 | cons x r=>rfl
theorem Zpo {T:Int→Int}{l:List Int}{j:Nat} (hj:j<l.length):Zpm T l (j+1)=ZmK (if j=0 then T (l.getD j 0) else Zpm T l j) (T (l.getD j 0)):=by
 unfold Zpm
 rw [if_neg (by omega),List.take_succ_eq_append_getElem hj,List.foldl_append]
 have hx:l[j]=l.getD j 0:=by simp [hj]
 by_cases h0:j=0
 ·subst h0;rw [if_pos rfl,hx];rfl
 ·rw [if_neg h0,if_neg h0,hx];rfl
section
variable {M:Nat}{h:Hd}{m:Md}{T:Nat→Int}{k:Nat}
theorem Zpp (HW:Lkr m T) (hk:k<m.me.length) (hm:∀ j,j<k→Zpj M h m T j) {a b:Nat} (hlc:∀ a' b',a<a'→b' < b→Zpk M h m T k a' b'):Zpk M h m T k a b:=by
 intro w Q ro rc rows H hkn hr hnd
 have hle:=hnd.le
 have hlen:rows.length≤120:=by have:(cdM m k).length≤120:=(HW.ok hk).z.2.2;omega
 obtain ⟨w1,hw1⟩:∃ w1,w1=w.alloc (.cells #[.slice h.co m.cl.length h.cc,.slice h.so m.st.length h.sc,.slice h.eo m.me.length h.ec,.int .i64 m.sel,.map (some M)] 190):=⟨_,rfl⟩
 have HB1:=Zh (show Below w.heap.size w w1 by rw [hw1];exact bE)
 have HX:=Zh (show Blk w1 w.heap.size #[.slice h.co m.cl.length h.cc,.slice h.so m.st.length h.sc,.slice h.eo m.me.length h.ec,.int .i64 m.sel,.map (some M)] 190 by rw [hw1];exact Blk.new _ _ _)
 have HW1:=Zh hw1
 have HMd1:=Zh (H.old HB1.out)
 have HKn1:=Zh (hkn.old HB1.out)
 have HR1:=Zh (Zar.old hr HB1.out)
 have HD1:=Zh (hnd.old HB1.out)
 obtain ⟨ea,he,-,-,-,-,-,-,e6⟩:=HMd1.out.mth hk
 rw [show (m.me.getD k default).k.length=(cdM m k).length from rfl] at e6
 obtain ⟨ko,hko⟩:∃ o,o=(h.e k).ko:=⟨_,rfl⟩
 obtain ⟨kc,hkc⟩:∃ o,o=(h.e k).kc:=⟨_,rfl⟩
 rw [←hko,←hkc] at e6
 have HKo:=Zh hko
 clear hko hkc
 have hx2:=HX.out.cell 2 (v:=.slice h.eo m.me.length h.ec) rfl
 rw [he] at hx2
 have lz:=Zac e6
 have lx:=Zac hx2
 dsimp only at lz lx
 have hkl:(k:Int) < m.me.length:=by omega
 have HM:=Zh hm
 have HLc:=Zh hlc
 have HWk:=Zh HW
 have HEa:=Zh he
 clear hw1 H hkn hr hnd hle hm hlc HW he
 go_enter Tryz.func218,Tryz.ntmps218
 go_upto_region 2 with fail
 rw [←HW1.out]
 go_wp2
 clear e6 hx2
 go_loopw [7,28] (fun s i wr=>∃ (j p:Nat) (sv:Int),i=.int .i64 j∧s=.int .i64 sv∧j≤rows.length∧Hid (a≤p∧p≤b∧Bl sv∧Nds wr (cdM m k) (fun _=>True) p b (rows.drop j)∧WA (gLT m T) (cdM m k) a b 0=WA (gLT m T) (cdM m k) p b sv)∧Hid (Upd M M w1 wr)∧Hid (KnM T wr M fun j=>Q j∨j<k)) (fun _ i _=>rows.length-(intOf i).toNat)
 case atStart=>exact ⟨0,a,0,rfl,rfl,Nat.zero_le _,⟨Nat.le_refl _,by have:=HD1.out.le;omega,by unfold Bl;omega,HD1.out,rfl⟩,Upd.refl _ _ _,HKn1.out.weak fun _ h=>.inl h⟩
 case round=>
  obtain ⟨j,p,sv,rfl,rfl,hj,HS,HU,HN⟩:=hrel
  rename World=>wo
  by_cases hjl:j<rows.length
  ·have hkw:=ZnF.upd HKn1.out.map HU.out
   obtain ⟨hap,hpb0,hsv,hnd,hwa⟩:=HS.out
   have hdr:rows.drop j=rows.getD j default :: rows.drop (j+1):=by
    rw [List.drop_eq_getElem_cons hjl];simp [hjl]
   rw [hdr] at hnd
   obtain ⟨p',hit,hnd',hpp,hpb,hwa'⟩:=ZnU hnd (gLT m T)
   obtain ⟨ad,rfl,c0,c1,c2,c3,c4⟩:=ZnW (ZnG HR1.out hkw) hjl
   obtain ⟨y,hy⟩:∃ y,y=rows.getD j default:=⟨_,rfl⟩
   rw [←hy] at hit hwa' c0 c1 c2 c3 c4
   obtain ⟨hya,hp,hyc⟩:=Zoh hit (gLT m T)
   obtain ⟨ya,yl,ye,yf,yfn,yfc,ys,ysn,ysc⟩:=y
   dsimp only at hya hyc c0 c1 c2 c3 c4
   subst hya
   have HMd:=Zh (HMd1.out.keeps hkw)
   have HX0:=Zh (show Blk wo w.heap.size #[.slice h.co m.cl.length h.cc,.slice h.so m.st.length h.sc,.slice h.eo m.me.length h.ec,.int .i64 m.sel,.map (some M)] 190 from (HU.out.block _ HX.out.lt (ZnI HX.out HKn1.out.map) (ZnI HX.out HKn1.out.map)).trans HX.out)
   obtain ⟨ca,hca,o0,o1,o2⟩:=ZaA (l:=cdM m k) (HMd.out.k k hk) hp
   rw [←HKo.out] at hca
   subst hca
   have hin:(cdM m k).getD p default∈cdM m k:=ZfU _ hp
   have hiv:=((HWk.out.ok hk).i _ hin).1
   have hod:=ZfS hiv ((HWk.out.ok hk).i _ hin).2
   obtain ⟨i,hi⟩:∃ i,i=(cdM m k).getD p default:=⟨_,rfl⟩
   rw [←hi] at o0 o1 o2 hyc hiv hod
   obtain ⟨op,ia,ib⟩:=i
   dsimp only at o0 o1 o2
   obtain ⟨v,hv⟩:∃ v,v=ZnT (gLT m T) (cdM m k) p ⟨p,yl,ye,yf,yfn,yfc,ys,ysn,ysc⟩:=⟨_,rfl⟩
   rw [←hv] at hyc hwa'
   obtain ⟨cv,hcv⟩:∃ c,c=ZmG ⟨op,ia,ib⟩:=⟨_,rfl⟩
   have hcb:=ZoN hiv
   rw [←hcv] at hcb
   have HCo:=Zh (fun w'=>ZoU ⟨op,ia,ib⟩ w' hiv)
   rw [←hcv] at HCo
   have HCv:=Zh hcv
   have HOd:=Zh hod
   have HYc:=Zh hyc
   have HIt:=Zh (And.intro hnd' (And.intro hsv (And.intro hpp (And.intro hpb hap))))
   have HWa:=Zh (hwa.trans (hwa' sv))
   have HOp:=Zh (Znp hiv)
   have hbc:Bl cv:=by unfold Bl;omega
   have HBc:=Zh hbc
   have HKr:=Zh hkw
   have l0:=Zac c0
   have l1:=Zac o0
   have hpl:(p:Int) < (cdM m k).length:=by omega
   have hjl2:(j:Int) < rows.length:=by omega
   have hwj:IntKind.i64.wrap ((j:Int)+1)=((j+1:Nat):Int):=IntWalk.i64_in _ (by omega)
   obtain ⟨w5,hw5⟩:∃ w5,w5=(wo.alloc (.cells #[.int .i64 p,.int .i64 yl,.int .i64 ye,.slice yf yfn yfc,.slice ys ysn ysc] 193)).alloc (.cells #[.int .i64 op,.int .i64 ia,.int .i64 ib] 78):=⟨_,rfl⟩
   have HB5:=Zh (show Below wo.heap.size wo w5 by rw [hw5];exact bE)
   have HX5:=Zh (show Blk w5 wo.heap.size #[.int .i64 p,.int .i64 yl,.int .i64 ye,.slice yf yfn yfc,.slice ys ysn ysc] 193 by rw [hw5];exact (Blk.new wo _ _).alloc _)
   have HI5:=Zh (show Blk w5 (wo.heap.size+1) #[.int .i64 op,.int .i64 ia,.int .i64 ib] 78 by rw [hw5];exact Blk.new' (w:=wo.alloc (.cells #[.int .i64 p,.int .i64 yl,.int .i64 ye,.slice yf yfn yfc,.slice ys ysn ysc] 193)) _ _ (by simp))
   have HW5:=Zh hw5
   clear hit hnd hnd' hwa hwa' hy hdr hv hsv hi hin hiv hod hcv hyc hw5 hap hpb0 hbc hkw
   go_upto_region 7 with fail
   rw [←HW5.out]
   clear c0 c1 c2 c3 c4 o0 o1 o2 l0 l1
   have i0:=HI5.out.cell 0 (v:=.int .i64 op) rfl
   have i1:=HI5.out.cell 1 (v:=.int .i64 ia) rfl
   have i2:=HI5.out.cell 2 (v:=.int .i64 ib) rfl
   go_upto_region 8 with (go_at_call 158;refine (HCo.out _).mono ?_;rintro e w6 ⟨rfl,hb6⟩;have HB6:=Zh (Zaf HB5.out hb6);have HX6:=Zh (HX5.out.old hb6);have HI6:=Zh (HI5.out.old hb6);clear i0 i1 i2 hb6)
   have HN6:=Zh (HN.out.old HB6.out)
   have HMd6:=Zh (HMd.out.old HB6.out)
   have HBx6:=Zh (HX0.out.old HB6.out)
   have HU6:=Zh (HU.out.bel HB6.out)
   have HK6:=Zh (ZnF.of HB6.out)
   have i0:=HI6.out.cell 0 (v:=.int .i64 op) rfl
   have i1:=HI6.out.cell 1 (v:=.int .i64 ia) rfl
   have x3:=HX6.out.cell 3 (v:=.slice yf yfn yfc) rfl
   have x4:=HX6.out.cell 4 (v:=.slice ys ysn ysc) rfl
   have b0:=HBx6.out.cell 0 (v:=.slice h.co m.cl.length h.cc) rfl
   have b1:=HBx6.out.cell 1 (v:=.slice h.so m.st.length h.sc) rfl
   have b2:=HBx6.out.cell 2 (v:=.slice h.eo m.me.length h.ec) rfl
   have b3:=HBx6.out.cell 3 (v:=.int .i64 m.sel) rfl
   have b4:=HBx6.out.cell 4 (v:=.map (some M)) rfl
   go_upto_region 9 with fail
   clear i0
   have hpl1:ZaR op=false→v=(gLT m T).pl ⟨op,ia,ib⟩:=fun q=>by
    rcases HYc.out with ⟨_,_,r⟩|⟨_,_,_,_,_,_,_,_,_,_,r,_⟩
    ·exact r
    ·rw [show ZaR (In3.op ⟨op,ia,ib⟩)=ZaR op from rfl,q] at r;cases r
   have HPl:=Zh hpl1
   clear hpl1
   by_cases h25:op=25
   ·subst h25
    as_aux_lemma=>
    have ha:=(HOd.out.o25 rfl).1
    have ha0:=HOd.out.a0 (by simp)
    dsimp only at ha ha0
    obtain ⟨t,rfl⟩:∃ t:Nat,ia=t:=⟨ia.toNat,by omega⟩
    have HMt:=Zh (HM.out t (by omega) w6 _ HMd6.out HN6.out)
    have HXv:=Zh (show v=ZmJ cv (T t) by rw [HPl.out (by decide),Zo8 rfl,HCv.out];rfl)
    have HXb:=Zh (Zo4 HBc.out (HWk.out.bd t))
    go_upto_region 31 with (first
     | (go_at_call 156;refine HMt.out.mono ?_;rintro e w7 ⟨rfl,hu7,hn7⟩;have HU7:=Zh (HU6.out.trans hu7);have HN7:=Zh (hn7.weak (R:=fun j=>Q j∨j<k) fun q hq=>hq.elim id fun e=>.inr (by omega));have HK7:=Zh (HK6.out.trans (ZnF.upd HN6.out.map hu7));clear hu7 hn7)
     | (go_at_call 292;refine (Zo6 cv _ _ HBc.out (HWk.out.bd t)).mono ?_;rintro e w8 ⟨rfl,hb8⟩;have HUz:=Zh (HU7.out.bel hb8);have HNz:=Zh (HN7.out.old hb8);have HKz:=Zh (HK7.out.trans (ZnF.of hb8));clear hb8))
    exact j0
   by_cases h26:op=26
   ·subst h26
    as_aux_lemma=>
    obtain ⟨ha,htg⟩:=HOd.out.o26 rfl
    have ha0:=HOd.out.a0 (by simp)
    dsimp only at ha ha0 htg
    obtain ⟨s,rfl⟩:∃ j:Nat,ia=j:=⟨ia.toNat,by omega⟩
    have HTg:=Zh (Zir m h s w6 HMd6.out HWk.out.hm ha)
    have HTt:=Zh htg
    have hln:=Nat.le_trans (ZdG m s) (Zin HWk.out.hm).1
    have HTn:=Zh (fun t (ht:t∈ZaN m s)=>ZfT ht)
    obtain ⟨tg,htq⟩:∃ tg,tg=ZaN m s:=⟨_,rfl⟩
    rw [←htq] at HTg HTt hln HTn
    have HTq:=Zh htq
    clear ha htg htq
    go_upto_region 14 with (go_at_call 293;refine HTg.out.mono ?_;rintro e w7 ⟨⟨ao,cap,rfl,hr7⟩,hb7⟩;have HR7:=Zh hr7;have HB7:=Zh hb7;clear hr7 hb7)
    go_wp2_with fail
    have c0:=ZnF.of HB7.out _ _ b0
    have c1:=ZnF.of HB7.out _ _ b1
    have c2:=ZnF.of HB7.out _ _ b2
    have c3:=ZnF.of HB7.out _ _ b3
    have c4:=ZnF.of HB7.out _ _ b4
    have HCs:=Zh (show Cs [(⟨w.heap.size,0,none⟩,.slice h.co m.cl.length h.cc),(⟨w.heap.size,1,none⟩,.slice h.so m.st.length h.sc),(⟨w.heap.size,2,none⟩,.slice h.eo m.me.length h.ec),(⟨w.heap.size,3,none⟩,.int .i64 m.sel),(⟨w.heap.size,4,none⟩,.map (some M))] w7 from ⟨c0,c1,c2,c3,c4,trivial⟩)
    clear c0 c1 c2 c3 c4
    go_loopw [15,61] (fun mo i wr=>∃ (j2:Nat),i=.int .i64 j2∧mo=.int .i64 (Zpm (fun t=>T t.toNat) tg j2)∧j2≤tg.length∧Hid (Upd M M w7 wr)∧Hid (KnM T wr M fun j=>Q j∨j<k)) (fun _ i _=>tg.length-(intOf i).toNat)
    case atStart=>exact ⟨0,rfl,rfl,Nat.zero_le _,Upd.refl _ _ _,HN6.out.old HB7.out⟩
    case round=>
     obtain ⟨j2,rfl,rfl,hj2,HV,HKn⟩:=hrel
     by_cases hjl3:j2<tg.length
     ·have hkw:=ZnF.upd (HN6.out.old HB7.out).map HV.out
      obtain ⟨ad2,rfl,t0⟩:=ZaB (ZnG HR7.out hkw) hjl3
      have hmem:tg.getD j2 0∈tg:=ZfU _ hjl3
      have h1:=HTt.out _ hmem
      have h2:=HTn.out _ hmem
      have hsn:=Zpo (T:=fun t=>T t.toNat) hjl3
      obtain ⟨tj,htj⟩:∃ t,t=tg.getD j2 0:=⟨_,rfl⟩
      rw [←htj] at t0 h1 h2 hsn
      obtain ⟨t,rfl⟩:∃ d:Nat,tj=d:=⟨tj.toNat,by omega⟩
      have HMt:=Zh (HM.out t (by omega) wr (fun j=>Q j∨j<k) ((HMd6.out.old HB7.out).keeps hkw) HKn.out)
      have HSn:=Zh hsn
      have hjl4:(j2:Int) < tg.length:=by omega
      have htk:t<k:=by omega
      have hwj2:IntKind.i64.wrap ((j2:Int)+1)=((j2+1:Nat):Int):=IntWalk.i64_in _ (by omega)
      obtain ⟨c0,c1,c2,c3,c4,-⟩:=Cs.keeps hkw HCs.out
      obtain ⟨lp,hlp⟩:∃ l,l=Zpm (fun t=>T t.toNat) tg j2:=⟨_,rfl⟩
      rw [←hlp] at HSn
      rw [←hlp]
      clear hsn hmem h1 h2 htj hkw hlp
      by_cases hz:j2=0
      ·have hz2:((j2:Int) == 0)=true:=by simp [hz]
       have HZ:=Zh hz
       rw [if_pos hz] at HSn
       exact j3
      ·have hz2:((j2:Int) == 0)=false:=by simp [hz]
       have HZ:=Zh hz
       rw [if_neg hz] at HSn
       exact j3
     ·obtain rfl:j2=tg.length:=by omega
      have hj5:¬ (tg.length:Int) < tg.length:=by omega
      rw [Zpn]
      have HXv:=Zh (show v=ZmJ cv (ZmL (fun t=>T t.toNat) tg) by rw [HPl.out (by decide),Zo9 rfl,HCv.out,HTq.out])
      have hlb:Bl (ZmL (fun t=>T t.toNat) tg):=Zpf fun t=>HWk.out.bd _
      have HXb:=Zh (Zo4 HBc.out hlb)
      have HLb:=Zh hlb
      obtain ⟨lt,hlt⟩:∃ l,l=ZmL (fun t=>T t.toNat) tg:=⟨_,rfl⟩
      rw [←hlt] at HXv HXb HLb
      rw [←hlt]
      clear hlb hlt
      go_upto_region 31 with (go_at_call 292;refine (Zo6 cv lt _ HBc.out HLb.out).mono ?_;rintro e w8 ⟨rfl,hb8⟩;have HUz:=Zh (((HU6.out.bel HB7.out).trans HV.out).bel hb8);have HNz:=Zh (HKn.out.old hb8);have HKz:=Zh (((HK6.out.trans (ZnF.of HB7.out)).trans (ZnF.upd (HN6.out.old HB7.out).map HV.out)).trans (ZnF.of hb8));clear hb8)
      exact j0
   have hb1:Bl 1:=by unfold Bl;omega
   by_cases ho:ZaR op=true
   ·rcases HYc.out with ⟨_,r,_⟩|⟨en,F,S,a1,b1',a2,b2',hye,hen,he35,ho',⟨hfn,hrF,hnF,hpa1,hbp1⟩,⟨hsn,hrS,hnS,hpa2,hbp2⟩,hval⟩
    ·exact absurd (ho.symm.trans r) (by decide)
    subst hye hfn hsn
    have hpb1:p'≤b:=HIt.out.2.2.2.1
    have hpa:a≤p:=HIt.out.2.2.2.2
    have hbf:=Zpi (m:=m) (T:=fun t=>T t.toNat) (fun i hi=>((HWk.out.ok hk).i i hi).1) (fun t=>HWk.out.bd _) hnF.seg 0 (by unfold Bl;omega)
    have hbs:=Zpi (m:=m) (T:=fun t=>T t.toNat) (fun i hi=>((HWk.out.ok hk).i i hi).1) (fun t=>HWk.out.bd _) hnS.seg 0 (by unfold Bl;omega)
    have HLf:=Zh (show ∀ w' Q',Zay w' h m→KnM T w' M Q'→ZnF wo w'→_ from fun w' Q' hH hK hk=>HLc.out a1 b1' (by omega) (by omega) w' Q' yf yfc F hH hK (ZnG hrF hk) (hnF.keeps hk))
    have HLs:=Zh (show ∀ w' Q',Zay w' h m→KnM T w' M Q'→ZnF wo w'→_ from fun w' Q' hH hK hk=>HLc.out a2 b2' (by omega) (by omega) w' Q' ys ysc S hH hK (ZnG hrS hk) (hnS.keeps hk))
    change Bl (WA (gLT m T) (cdM m k) a1 b1' 0) at hbf
    change Bl (WA (gLT m T) (cdM m k) a2 b2' 0) at hbs
    obtain ⟨f,hf⟩:∃ f,f=WA (gLT m T) (cdM m k) a1 b1' 0:=⟨_,rfl⟩
    obtain ⟨s,hs⟩:∃ f,f=WA (gLT m T) (cdM m k) a2 b2' 0:=⟨_,rfl⟩
    rw [←hf] at hbf HLf hval
    rw [←hs] at hbs HLs hval
    have HVal:=Zh hval
    have hop5:29≤op∧op≤33:=by have:=ho;unfold ZaR inI at this;simpa using this
    clear hf hs hval hrF hnF hrS hnS he35 ho' hen ho hpb1 hpa HYc
    by_cases h29:op=29∨op=33
    ·rcases h29 with h29|h29<;>subst h29
     all_goals
      as_aux_lemma=>
      go_upto_region 25 with fail
      have HC6:=Zh (show Cs [(⟨w.heap.size,0,none⟩,.slice h.co m.cl.length h.cc),(⟨w.heap.size,1,none⟩,.slice h.so m.st.length h.sc),(⟨w.heap.size,2,none⟩,.slice h.eo m.me.length h.ec),(⟨w.heap.size,3,none⟩,.int .i64 m.sel),(⟨w.heap.size,4,none⟩,.map (some M)),(⟨wo.heap.size,3,none⟩,.slice yf F.length yfc),(⟨wo.heap.size,4,none⟩,.slice ys S.length ysc)] w6 from ⟨b0,b1,b2,b3,b4,x3,x4,trivial⟩)
      refine rO (Cs [(⟨w.heap.size,0,none⟩,.slice h.co m.cl.length h.cc),(⟨w.heap.size,1,none⟩,.slice h.so m.st.length h.sc),(⟨w.heap.size,2,none⟩,.slice h.eo m.me.length h.ec),(⟨w.heap.size,3,none⟩,.int .i64 m.sel),(⟨w.heap.size,4,none⟩,.map (some M)),(⟨wo.heap.size,3,none⟩,.slice yf F.length yfc),(⟨wo.heap.size,4,none⟩,.slice ys S.length ysc)]) (oL [0,1,2,3,4,6,7,8,9,105,110,111,112,113,14]) HC6.out ?_
      clear b0 b1 b2 b3 b4 x3 x4
      repeat refine pO ?_
      refine oO fun Kv hK=>?_
      go_simp
      refine (HLf.out _ _ (HMd6.out.old (Below.refl _ _).drew) (HN6.out.eq rfl) HK6.out).mono ?_
      rintro e w7 ⟨rfl,hu7,hn7⟩
      have HD7:=Zh ((Upd.refl M M w6).drew.trans hu7)
      have HN7:=Zh (hn7.weak (R:=fun j=>Q j∨j<k) fun q hq=>hq.elim id .inr)
      refine hK _ _ ⟨Cs.keeps (ZnF.upd HN6.out.map HD7.out) HC6.out,?_⟩
      clear hK Kv hu7 hn7
      repeat refine pO ?_
      refine oO fun Kv hK=>?_
      go_simp
      refine (HLs.out _ _ (HMd6.out.keeps (ZnF.upd HN6.out.map HD7.out)) HN7.out (HK6.out.trans (ZnF.upd HN6.out.map HD7.out))).mono ?_
      rintro e w8 ⟨rfl,hu8,hn8⟩
      have HD8:=Zh (HD7.out.trans hu8)
      have HN8:=Zh (hn8.weak (R:=fun j=>Q j∨j<k) fun q hq=>hq.elim id .inr)
      refine hK _ _ ⟨Cs.keeps (ZnF.upd HN6.out.map HD8.out) HC6.out,?_⟩
      clear hK Kv hu8 hn8
      repeat refine pO ?_
      refine oO fun Kv hK=>?_
      go_simp
      refine (Zo7 f s _).mono ?_
      rintro e w9 ⟨rfl,hb9⟩
      have HD9:=Zh (HD8.out.bel hb9)
      have HN9:=Zh (HN8.out.old hb9)
      refine hK _ _ ⟨Cs.keeps (ZnF.upd HN6.out.map HD9.out) HC6.out,?_⟩
      clear hK Kv hb9
      repeat refine pO ?_
      refine oO fun Kv hK=>?_
      go_simp
      refine (Zo6 (ZmK f s) 1 _ (Zo5 hbf hbs) hb1).mono ?_
      rintro e w10 ⟨rfl,hb10⟩
      have HD10:=Zh (HD9.out.bel hb10)
      have HN10:=Zh (HN9.out.old hb10)
      refine hK _ _ ⟨Cs.keeps (ZnF.upd HN6.out.map HD10.out) HC6.out,?_⟩
      clear hK Kv hb10
      repeat refine pO ?_
      refine oO fun Kv hK=>?_
      go_simp
      refine (Zo6 cv _ _ HBc.out (Zo4 (Zo5 hbf hbs) hb1)).mono ?_
      rintro e w11 ⟨rfl,hb11⟩
      have HD11:=Zh (HD10.out.bel hb11)
      have HN11:=Zh (HN10.out.old hb11)
      refine hK _ _ ⟨Cs.keeps (ZnF.upd HN6.out.map HD11.out) HC6.out,?_⟩
      clear hK Kv hb11
      repeat refine pO ?_
      refine Zd5 ?_
      have HXv:=Zh (show v=ZmJ cv (ZmJ (ZmK f s) 1) by rw [HVal.out,Zpc (by simp),HCv.out])
      have HXb:=Zh (Zo4 HBc.out (Zo4 (Zo5 hbf hbs) hb1))
      have HUz:=Zh (HU6.out.trans HD11.out)
      have HNz:=HN11
      have HKz:=Zh (HK6.out.trans (ZnF.upd HN6.out.map HD11.out))
      go_wp2_with (go_at_call 292;refine (Zo6 sv _ _ HIt.out.2.1 HXb.out).mono ?_;rintro e wE ⟨rfl,hbE⟩;have HBe:=Zh hbE;clear hbE)
      obtain ⟨q1,q2,q3,q4,q5⟩:=HIt.out
      exact ⟨⟨j+1,p',ZmJ sv v,rfl,by rw [HXv.out],hjl,⟨by omega,q4,Zo4 q2 (HXv.out▸HXb.out),q1.keeps (HKz.out.trans (ZnF.of HBe.out)),HWa.out⟩,HUz.out.bel HBe.out,HNz.out.old HBe.out⟩,by simp [intOf];omega⟩
    by_cases h30:op=30
    ·subst h30
     as_aux_lemma=>
     have HXv:=Zh (show v=cv by rw [HVal.out,Zpd rfl,HCv.out])
     have HXb:=HBc
     have HUz:=HU6
     have HNz:=HN6
     have HKz:=HK6
     exact j0
    ·rcases (show op=31∨op=32 by omega) with h31|h31<;>subst h31
     all_goals
      as_aux_lemma=>
      have HXv:=Zh (show v=ZmJ cv (ZmJ f 1) by rw [HVal.out,Zpe (by simp),HCv.out])
      have HXb:=Zh (Zo4 HBc.out (Zo4 hbf hb1))
      go_upto_region 28 with fail
      clear i1 x4
      go_wp2_with fail
      refine (HLf.out _ _ HMd6.out HN6.out HK6.out).mono ?_
      rintro e w7 ⟨rfl,hu7,hn7⟩
      have HD7:=Zh hu7
      have HN7:=Zh (hn7.weak (R:=fun j=>Q j∨j<k) fun q hq=>hq.elim id .inr)
      clear hu7 hn7 b0 b1 b2 b3 b4 x3
      go_wp2_with fail
      refine (Zo6 f 1 _ hbf hb1).mono ?_
      rintro e w8 ⟨rfl,hb8⟩
      have HB8:=Zh hb8
      clear hb8
      go_wp2_with fail
      refine (Zo6 cv _ _ HBc.out (Zo4 hbf hb1)).mono ?_
      rintro e w9 ⟨rfl,hb9⟩
      have HB9:=Zh (Zaf HB8.out hb9)
      clear hb9
      go_upto_region 31 with fail
      have HUz:=Zh ((HU6.out.trans HD7.out).bel HB9.out)
      have HNz:=Zh (HN7.out.old HB9.out)
      have HKz:=Zh ((HK6.out.trans (ZnF.upd HN6.out.map HD7.out)).trans (ZnF.of HB9.out))
      go_wp2_with (go_at_call 292;refine (Zo6 sv _ _ HIt.out.2.1 HXb.out).mono ?_;rintro e wE ⟨rfl,hbE⟩;have HBe:=Zh hbE;clear hbE)
      obtain ⟨q1,q2,q3,q4,q5⟩:=HIt.out
      exact ⟨⟨j+1,p',ZmJ sv v,rfl,by rw [HXv.out],hjl,⟨by omega,q4,Zo4 q2 (HXv.out▸HXb.out),q1.keeps (HKz.out.trans (ZnF.of HBe.out)),HWa.out⟩,HUz.out.bel HBe.out,HNz.out.old HBe.out⟩,by simp [intOf];omega⟩
   ·have ho2:ZaR op=false:=by simpa using ho
    have hn1:¬ op=29:=by have:=ho2;unfold ZaR inI at this;simp at this;omega
    have hn2:¬ op=33:=by have:=ho2;unfold ZaR inI at this;simp at this;omega
    have hn3:¬ op=31:=by have:=ho2;unfold ZaR inI at this;simp at this;omega
    have hn4:¬ op=32:=by have:=ho2;unfold ZaR inI at this;simp at this;omega
    by_cases h28:op=28
    ·subst h28
     as_aux_lemma=>
     have HXv:=Zh (show v=-1 by rw [HPl.out ho2,Zpa rfl])
     have HXb:=Zh (show Bl (-1) by unfold Bl;omega)
     have HUz:=HU6
     have HNz:=HN6
     have HKz:=HK6
     clear ho ho2
     exact j0
    ·have HXv:=Zh (show v=cv by rw [HPl.out ho2,Zpb h25 h26 h28,HCv.out])
     have HXb:=HBc
     have HUz:=HU6
     have HNz:=HN6
     have HKz:=HK6
     clear ho ho2
     exact j0
  ·obtain rfl:j=rows.length:=by omega
   have hj5:¬ (rows.length:Int) < rows.length:=by omega
   go_wp2
   go_ret
   obtain ⟨-,-,-,hnd,hwa⟩:=HS.out
   rw [List.drop_eq_nil_iff.2 (Nat.le_refl _)] at hnd
   cases hnd with
   | nil _ _=>exact ⟨by rw [hwa,Zmv];rfl,(Upd.of HB1.out).trans HU.out,HN.out⟩
end
end
section
open Go.RowKit
section
variable {M:Nat}{h:Hd}{m:Md}{T:Nat→Int}{k:Nat}
theorem Zpq (HW:Lkr m T) (hk:k<m.me.length) (hm:∀ j,j<k→Zpj M h m T j):∀ (n a b:Nat),b-a≤n→Zpk M h m T k a b
 | 0,a,b,hn=>Zpp HW hk hm fun a' b' h4 h5 w Q ro rc rows _ _ _ hd=>by have:=hd.le;omega
 | n+1,a,b,hn=>Zpp HW hk hm fun a' b' h4 h5=>Zpq HW hk hm n a' b' (by omega)
theorem Zpr (HW:Lkr m T):∀ (n k:Nat),k<n→k<m.me.length→Zpj M h m T k
 | 0,k,hn,_=>by omega
 | n+1,k,hn,hk=>Zpl HW hk (Zpq HW hk (fun j hj=>Zpr HW n j (by omega) (by omega)) (cdM m k).length 0 (cdM m k).length (by omega))
end
theorem Zps {m:Md} (hm:Za1 m=true):∀ (n k:Nat),k<n→Bl (ZmN (gL m) m k)
 | 0,k,hn=>by omega
 | n+1,k,hn=>by
  have h0:Bl 0:=by unfold Bl;omega
  rw [ZoR]
  by_cases hk:k<m.me.length
  ·refine Zpi (fun i hi=>((ZfN hm hk).i i hi).1) (fun t=>?_) (Zmq (ZfN hm hk).n) 0 h0
   by_cases hj:t.toNat<k
   ·rw [ZmP _ _ hj]
    exact Zps hm n _ (by omega)
   ·rw [List.getD_eq_getElem?_getD,List.getElem?_eq_none (by rw [ZmO];omega)]
    exact h0
  ·rw [ZoQ (by omega)]
   show Bl (WA _ _ 0 0 0)
   rw [Zmv]
   exact h0
theorem Zpt {m:Md} (hm:Za1 m=true) {k:Nat} (hk:k<m.me.length):ZmN (gL m) m k=WA (gLT m (ZmN (gL m) m)) (cdM m k) 0 (cdM m k).length 0:=by
 refine ZmR (Zmq (ZfN hm hk).n) (fun _ _=>rfl) (fun _ _=>rfl) (fun i hi=>?_)
 have ho:=ZfS ((ZfN hm hk).i i hi).1 ((ZfN hm hk).i i hi).2
 show (if i.op=25 then ZmJ (ZmG i) _ else if i.op=26 then ZmJ (ZmG i) _ else _)=if i.op=25 then ZmJ (ZmG i) _ else if i.op=26 then ZmJ (ZmG i) _ else _
 by_cases h25:i.op=25
 ·exact j8
 ·rw [if_neg h25,if_neg h25]
  by_cases h26:i.op=26
  ·rw [if_pos h26,if_pos h26]
   congr 1
   refine ZmT fun t ht=>?_
   have:=(ho.o26 h26).2 t ht
   have:=ZfT ht
   rw [ZmP _ _ (by omega)]
  ·rw [if_neg h26,if_neg h26]
theorem Zpu {m:Md} (hm:Za1 m=true):Lkr m (ZmN (gL m) m):=⟨hm,fun k=>Zps hm (k+1) k (by omega),fun k hk=>Zpt hm hk⟩
def Zpv (m:Md) (k:Int):Int × Int:=if ZoY m k=true then (if ZmN (gL m) m k.toNat<0 then (0,3) else if 1000000000<ZmN (gL m) m k.toNat then (0,6) else (ZmN (gL m) m k.toNat,0)) else (0,1)
theorem Zpw (m:Md) (h:Hd) (k:Int) (w:World) (H:Zay w h m):Calls Tryz.prog 98 #[.agg #[.slice h.co m.cl.length h.cc,.slice h.so m.st.length h.sc,.slice h.eo m.me.length h.ec,.int .i64 m.sel],.int .i64 k] w (Zhf w (.int .i64 (Zpv m k).1) (.int .i64 (Zpv m k).2)):=by
 have hmm:=@run_makeMap Tryz.prog
 have hb0:Below w.heap.size w (w.alloc (.cells #[.slice h.co m.cl.length h.cc,.slice h.so m.st.length h.sc,.slice h.eo m.me.length h.ec,.int .i64 m.sel] 26)):=by exact bE
 have HA:=Zh (Zo0 m h k _ (H.old hb0))
 obtain ⟨r1,hr1⟩:∃ r,r=(Zpv m k).1:=⟨_,rfl⟩
 obtain ⟨r2,hr2⟩:∃ r,r=(Zpv m k).2:=⟨_,rfl⟩
 rw [←hr1,←hr2]
 have HB0:=Zh hb0
 have HX0:=Zh (Blk.new w #[.slice h.co m.cl.length h.cc,.slice h.so m.st.length h.sc,.slice h.eo m.me.length h.ec,.int .i64 m.sel] 26)
 have HH:=Zh H
 rcases hq:ZoY m k with _|_
 ·rw [hq] at HA
  have e1:r1=0:=by rw [hr1];unfold Zpv;rw [hq];rfl
  have e2:r2=1:=by rw [hr2];unfold Zpv;rw [hq];rfl
  have HE:=Zh (And.intro e1 e2)
  clear hb0 H hr1 hr2 hq e1 e2 hmm
  go_enter Tryz.func98,Tryz.ntmps98
  exact j7
 ·rw [hq] at HA
  obtain ⟨hm,hk0,hk1⟩:=ZoZ hq
  obtain ⟨k,rfl⟩:∃ d:Nat,k=d:=⟨k.toNat,by omega⟩
  have hkl:k<m.me.length:=by omega
  obtain ⟨v,hv⟩:∃ v,v=ZmN (gL m) m k:=⟨_,rfl⟩
  have e1:r1=if v<0 then 0 else if 1000000000<v then 0 else v:=by rw [hr1,hv];unfold Zpv;rw [hq,if_pos rfl,Int.toNat_natCast];split;rfl;split<;>rfl
  have e2:r2=if v<0 then 3 else if 1000000000<v then 6 else 0:=by rw [hr2,hv];unfold Zpv;rw [hq,if_pos rfl,Int.toNat_natCast];split;rfl;split<;>rfl
  have HE:=Zh (And.intro e1 e2)
  have HM:=Zh (fun M=>Zpr (M:=M) (h:=h) (Zpu hm) (k+1) k (by omega) hkl)
  have HV:=Zh hv
  clear hb0 H hr1 hr2 hq e1 e2 hv hm
  go_enter Tryz.func98,Tryz.ntmps98
  by_cases hneg:v<0
  all_goals
   go_wp2_with (first
    | (go_at_call 100;refine HA.out.mono ?_;rintro e w1 ⟨rfl,hb1⟩;have HB1:=Zh (Zaf HB0.out hb1);have HX1:=Zh (HX0.out.old hb1);have x0:=HX1.out.cell 0 (v:=.slice h.co m.cl.length h.cc) rfl;have x1:=HX1.out.cell 1 (v:=.slice h.so m.st.length h.sc) rfl;have x2:=HX1.out.cell 2 (v:=.slice h.eo m.me.length h.ec) rfl;have x3:=HX1.out.cell 3 (v:=.int .i64 m.sel) rfl;clear hb1)
    | (go_at_call 156;refine (HM.out w1.heap.size _ _ (HH.out.old (by have:=HB1.out;exact bE)) (KnM.made _ w1)).mono ?_;rintro e w3 ⟨rfl,hu3,hn3⟩;rw [←HV.out];have HU3:=Zh hu3;clear hu3 hn3)
    | (go_at_call 105;refine (Znn _ _).mono ?_;rintro e w4 ⟨rfl,hb4⟩))
   all_goals
    go_ret2
    exact Zhg (ZcY (by rw [HE.out.1];grind)) (ZcY (by rw [HE.out.2];grind)) (by
     have h3:=HU3.out.below (bal HB1.out _) (Nat.le_refl _) HB1.out.size HB1.out.size
     first|exact h3|exact Zaf h3 hb4)
end
end Go.Proofs.YtcfjblcgceednaaGreat
