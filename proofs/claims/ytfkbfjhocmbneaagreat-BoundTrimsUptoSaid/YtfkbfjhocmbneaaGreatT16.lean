/- Joined texts. The first: How an argument that is a slice of integers is opened, and what the bound on the whole input gives of it. -/
import Derived.Test.YtfkbfjhocmbneaaGreatG1
import Derived.WalkKit
import Derived.ProofKit
import Derived.OpenShut
import Derived.ShutString
import Derived.ChangeOld
import Derived.Below
import Derived.JoinedCond
import Derived.Lib.SmallJoins
import Derived.Deep.Slices
import Derived.Deep.Fields
import Derived.Test.YtfkbfjhocmbneaaGreatG2
import Derived.Test.YtfkbfjhocmbneaaGreatG4
import Derived.Test.YtfkbfjhocmbneaaGreatG6
import Derived.Maps.AppendAt
import Derived.Test.YtfkbfjhocmbneaaGreatG5
import Derived.Maps.OwnSet
set_option linter.all false
set_option linter.unusedVariables false
set_option linter.unusedSimpArgs false
set_option maxRecDepth 100000
set_option maxHeartbeats 8000000
namespace Go.Proofs.YtfkbfjhocmbneaaGreat
theorem j2{p:Prop}(h:p:=by
 go_enter Tryz.func113,Tryz.ntmps113
 go_wp2_with (first
  | (go_at_call 158;refine (HV.out _).mono ?_;rintro e w1 ⟨rfl,hb1⟩;have HX1:=Lib.hid (HX.out.old hb1);have HB1:=Lib.hid (bthen HB0.out hb1);have x0:=HX1.out.cell 0 (v:=.int .i64 k) rfl;clear hb1)
  | (go_at_call 159;refine (HK.out _).mono ?_;rintro e w2 ⟨rfl,hb2⟩;have HX2:=Lib.hid (HX1.out.old hb2);have HB2:=Lib.hid (bthen HB1.out hb2);clear x0;have x0:=HX2.out.cell 0 (v:=.int .i64 k) rfl;have x1:=HX2.out.cell 1 (v:=.int .i64 a) rfl;have xl:=HX2.out.lt;clear hb2))
 all_goals first
  | (exfalso;simp at *;omega)
  | (go_ret2;exact ret_ok (by rw [HQ.out];rfl) (bal HB2.out _))):p:=h
theorem j3{p:Prop}(h:p:=by
 clear hn3 hown3 hput hT
 go_wp2_with (at_mapUpdate;refine wpList_mapUpdate_own _ rfl _ _ _ 86 rfl 3 3 lawInt Tryz.underlying86 _ M n _ rfl HO3.out (by unfold maxLen;omega) _ _ _ rfl rfl (key_nat (by omega)) _ [] (plainElem_int Tryz.underlying3 (WalkArith.wf_i64 (by omega))) ?_;intro w4 hown4 hg4)
 go_ret
 exact ⟨rfl,HU3.out.trans ⟨hg4.os,hg4.tape,hg4.output,hg4.size,fun q hq h1 _=>hg4.block q hq fun e=>h1 (Option.some.inj e)⟩,HPt.out _ _ (fun j hj=>by rcases hj with (hj|hj)|hj<;>first|exact .inl hj.1|(right;omega)) hown4⟩):p:=h
theorem j5{p:Prop}(h:p:=by
 have h3:IntKind.i64.wrap (a*b)=a*b:=IntWalk.i64_in _ (by omega)
 have H3:=Lib.hid h3
 generalize hq:mulV a b=q
 have HQ:=Lib.hid hq
 clear hq
 go_enter Tryz.func77,Tryz.ntmps77
 go_wp2
 all_goals
  go_ret
  exact ret_ok (int_eq (by rw [←HQ.out];unfold mulV hugeV;omega)) bE):p:=h
theorem j11{p:Prop}(h:p:=by
 rw [if_neg (by have:=hm.z;omega),if_pos (List.all_eq_true.2 fun i hi=>(hm.i i hi).1),hm.n]
 rfl):p:=h
section
open Go.ChangeShapes Go.WideShapes Go.ChangeAt Go.RowKit
theorem one_le {H:Type} (d:DataW H):1≤Rows.uptoBulk d:=by
 cases d with
 | lit l=>cases l<;>simp [Rows.uptoBulk]
 | nil=>simp [Rows.uptoBulk]
 | ptr d=>simp [Rows.uptoBulk]
 | slice elems spare=>simp [Rows.uptoBulk]
 | agg parts=>simp [Rows.uptoBulk]
 | iface t d=>simp [Rows.uptoBulk]
 | map entries=>simp [Rows.uptoBulk]
 | held h=>simp [Rows.uptoBulk]
theorem length_le {H:Type} (l:List (DataW H)):l.length≤Rows.uptoBulkAll l:=by
 induction l with
 | nil=>simp [Rows.uptoBulkAll]
 | cons x r ih=>have:=one_le x;simp only [Rows.uptoBulkAll,List.length_cons];omega
theorem slice_bulk {H:Type} (elems spare:List (DataW H)):elems.length+spare.length+1≤Rows.uptoBulk (.slice elems spare):=by
 have h1:=length_le elems
 have h2:=length_le spare
 simp only [Rows.uptoBulk]
 omega
theorem bulk_of {H:Type}{l:List (DataW H)} (hk:Rows.uptoSmall H l=true):Rows.uptoBulkAll l≤1048576:=of_decide_eq_true hk
end
section
open Go.ChangeShapes Go.WideShapes Go.ChangeAt Go.RowKit Go.Deep
theorem list_each {α:Type} [Inhabited α] {Q:Nat→α→Prop}:∀ n,(∀ i,i<n→∃ x,Q i x)→∃ l:List α,l.length=n∧∀ i,i<n→Q i (l.getD i default)
 | 0,_=>⟨[],rfl,fun i hi=>by omega⟩
 | n+1,h=>by
  obtain ⟨l,hl,hq⟩:=list_each n fun i hi=>h i (by omega)
  obtain ⟨x,hx⟩:=h n (by omega)
  refine ⟨l++[x],by simp [hl],fun i hi=>?_⟩
  by_cases hin:i<n
  ·rw [List.getD_eq_getElem?_getD,List.getElem?_append_left (by omega),←List.getD_eq_getElem?_getD];exact hq i hin
  ·obtain rfl:i=n:=by omega
   rw [List.getD_eq_getElem?_getD,List.getElem?_append_right (by omega),hl];simpa using hx
section
variable {H:Type}{enc:TypeId × Value→H}{P:Program}{W:World}
theorem bulk_mem {d:DataW H}:∀ {l:List (DataW H)},d∈l→Rows.uptoBulk d≤Rows.uptoBulkAll l
 | [],h=>by cases h
 | x :: r,h=>by
  unfold Rows.uptoBulkAll
  rcases List.mem_cons.1 h with rfl|h
  ·omega
  ·have:=bulk_mem h;omega
theorem open_row {α:Type} [Cells α] [Inhabited α] {Q:α→Prop}{t e:TypeId}{fuel:Nat}{v:Value}{y:DataW H × List MemPlace} (hN:Rows.uptoBulk y.1≤1048576) (ht:P.underlying t=some (.slice e)) (hC:P.cellsOf e=Cells.n α)
  (hel:∀ n cs z,Rows.uptoBulk z.1≤1048576→cs.length=Cells.n α→DataW.trod enc P W 0 (fun _=>true) true n e cs=some z→∃ x:α,cs=Cells.cells x∧Q x) (h:DataW.trod enc P W 0 (fun _=>true) true fuel t [v]=some y) :
  ∃ ao cap,∃ l:List α,v=.slice ao l.length cap∧RowAt W ao cap l∧l.length≤cap∧l.length≤1048576∧∀ i,i<l.length→Q (l.getD i default):=by
 rcases open_slice ht h with ⟨hcs,_⟩|⟨a,len,cap,k,n,D,Pl,hcs,_,hl,hm,hmm,hx,hi⟩
 ·obtain rfl:v=.slice none 0 0:=by simpa using hcs
  exact ⟨none,0,[],rfl,RowAt.nil W,by simp,by simp,fun i hi=>by simp at hi⟩
 ·obtain rfl:v=.slice (some a) len cap:=by simpa using hcs
  have hlm:len≤k:=by simp at hmm;omega
  have hex:∀ i,i<len→∃ x:α,Q x∧∀ j (hj:j<Cells.n α),W.cell? (a.add (i*Cells.n α+j))=(Cells.cells x)[j]?:=by
   intro i hil
   obtain ⟨cs',hc,ht'⟩:=hi i (by omega)
   rw [hC] at hc
   obtain ⟨_,hcl,hat⟩:=World.cells?_some hc
   obtain ⟨x,hxc,hq⟩:=hel n cs' _ (Nat.le_trans (bulk_mem (List.mem_map.2 ⟨i,List.mem_range.2 hil,rfl⟩)) (by rw [hx] at hN;unfold Rows.uptoBulk at hN;omega)) hcl ht'
   refine ⟨x,hq,fun j hj=>?_⟩
   rw [←hxc,←hat j hj,Go.Deep.add_add]
  obtain ⟨l,hll,hq⟩:=list_each len hex
  refine ⟨some a,cap,l,by rw [hll],⟨flatR_length l,(fun h=>by cases h),fun j u hu=>⟨a,rfl,?_⟩⟩,by omega,?_,fun i hi=>(hq i (by omega)).1⟩
  rotate_left
  ·rw [hx] at hN
   dsimp only at hN
   have:=slice_bulk ((List.range len).map D) ((List.range (k-len)).map fun j=>D (len+j))
   simp only [List.length_map,List.length_range] at this
   omega
  have hn:=Cells.pos (α:=α)
  have hj:j<l.length*Cells.n α:=by
   have:=(List.getElem?_eq_some_iff.1 hu).1
   rwa [flatR_length] at this
  have hi4:j / Cells.n α<l.length:=(Nat.div_lt_iff_lt_mul hn).2 hj
  have hjm:j % Cells.n α<Cells.n α:=Nat.mod_lt _ hn
  have hjj:j=j / Cells.n α*Cells.n α+j % Cells.n α:=by rw [Nat.mul_comm];exact (Nat.div_add_mod j _).symm
  have h1:=(hq (j / Cells.n α) (by omega)).2 (j % Cells.n α) hjm
  rw [hjj,flatR_get l _ hi4 _ hjm] at hu
  rw [←hjj] at h1
  rw [h1,←hu]
  simp [hi4]
theorem cells2 {cs:List Value} (hl:cs.length=2):∃ a b,cs=[a,b]:=by
 match cs,hl with
 | [a,b],_=>exact ⟨a,b,rfl⟩
theorem cells3 {cs:List Value} (hl:cs.length=3):∃ a b c,cs=[a,b,c]:=by
 match cs,hl with
 | [a,b,c],_=>exact ⟨a,b,c,rfl⟩
theorem cells4 {cs:List Value} (hl:cs.length=4):∃ a b c d,cs=[a,b,c,d]:=by
 match cs,hl with
 | [a,b,c,d],_=>exact ⟨a,b,c,d,rfl⟩
theorem cells7 {cs:List Value} (hl:cs.length=7):∃ a b c d e f g,cs=[a,b,c,d,e,f,g]:=by
 match cs,hl with
 | [a,b,c,d,e,f,g],_=>exact ⟨a,b,c,d,e,f,g,rfl⟩
end
section
variable {H:Type}{enc:TypeId × Value→H}{W:World}
section
variable (n:Nat)(cs:List Value)(z:DataW H × List MemPlace)
include n cs z
theorem el_int (_:Rows.uptoBulk z.1≤1048576) (_:cs.length=Cells.n Int) (h:DataW.trod enc Tryz.prog W 0 (fun _=>true) true n 3 cs=some z):∃ x:Int,cs=Cells.cells x∧True:=by
 obtain ⟨k,e,_⟩:=DataW.trod_int Tryz.underlying3 h
 exact ⟨k,e,trivial⟩
theorem el_ty (_:Rows.uptoBulk z.1≤1048576) (hl:cs.length=Cells.n Ty) (h:DataW.trod enc Tryz.prog W 0 (fun _=>true) true n 35 cs=some z):∃ x:Ty,cs=Cells.cells x∧True:=by
 obtain ⟨xs,n,_,_,_,hlen,hf⟩:=DataW.trod_struct Tryz.underlying35 h
 obtain ⟨a,b,rfl⟩:=cells2 hl
 have h0:=hf 0 _ rfl
 have h1:=hf 1 _ rfl
 rw [show xs[0]?=some (xs[0]'(by rw [hlen];decide)) by simp] at h0
 rw [show xs[1]?=some (xs[1]'(by rw [hlen];decide)) by simp] at h1
 obtain ⟨k0,e0,_⟩:=DataW.trod_int Tryz.underlying3 h0
 obtain ⟨k1,e1,_⟩:=DataW.trod_int Tryz.underlying3 h1
 have e0':[a]=[Value.int .i64 k0]:=e0
 have e1':[b]=[Value.int .i64 k1]:=e1
 cases e0'
 cases e1'
 exact ⟨⟨k0,k1⟩,rfl,trivial⟩
theorem el_in (_:Rows.uptoBulk z.1≤1048576) (hl:cs.length=Cells.n In3) (h:DataW.trod enc Tryz.prog W 0 (fun _=>true) true n 42 cs=some z):∃ x:In3,cs=Cells.cells x∧True:=by
 obtain ⟨xs,n,_,_,_,hlen,hf⟩:=DataW.trod_struct Tryz.underlying42 h
 obtain ⟨a,b,c,rfl⟩:=cells3 hl
 have h0:=hf 0 _ rfl
 have h1:=hf 1 _ rfl
 have h2:=hf 2 _ rfl
 rw [show xs[0]?=some (xs[0]'(by rw [hlen];decide)) by simp] at h0
 rw [show xs[1]?=some (xs[1]'(by rw [hlen];decide)) by simp] at h1
 rw [show xs[2]?=some (xs[2]'(by rw [hlen];decide)) by simp] at h2
 obtain ⟨k0,e0,_⟩:=DataW.trod_int Tryz.underlying3 h0
 obtain ⟨k1,e1,_⟩:=DataW.trod_int Tryz.underlying3 h1
 obtain ⟨k2,e2,_⟩:=DataW.trod_int Tryz.underlying3 h2
 have e0':[a]=[Value.int .i64 k0]:=e0
 have e1':[b]=[Value.int .i64 k1]:=e1
 have e2':[c]=[Value.int .i64 k2]:=e2
 cases e0'
 cases e1'
 cases e2'
 exact ⟨⟨k0,k1,k2⟩,rfl,trivial⟩
end
theorem part_bulk {z:DataW H × List MemPlace}{xs:List (DataW H × List MemPlace)} (hzx:z=(.agg (xs.map (·.1)),xs.flatMap (·.2))) (hz:Rows.uptoBulk z.1≤1048576) {i:Nat} (hi:i<xs.length):Rows.uptoBulk (xs[i]).1≤1048576:=by
 refine Nat.le_trans (bulk_mem (l:=xs.map (·.1)) (List.mem_map.2 ⟨xs[i],List.getElem_mem hi,rfl⟩)) ?_
 rw [hzx] at hz
 unfold Rows.uptoBulk at hz
 omega
def QCls (W:World) (x:Cls × CHd):Prop:=RowAt W x.2.fo x.2.fc x.1.f∧RowAt W x.2.mo x.2.mc x.1.m∧x.1.f.length≤x.2.fc
def QMth (W:World) (x:Mth × MHd):Prop:=RowAt W x.2.po x.2.pc x.1.p∧RowAt W x.2.lo x.2.lc x.1.l∧RowAt W x.2.ko x.2.kc x.1.k∧x.1.p.length≤140737488355328∧x.1.l.length≤140737488355328∧x.1.k.length≤140737488355328
instance:Inhabited (Cls × CHd):=⟨default,default⟩
instance:Inhabited (Mth × MHd):=⟨default,default⟩
theorem el_cls (n:Nat) (cs:List Value) (z:DataW H × List MemPlace) (hz:Rows.uptoBulk z.1≤1048576) (hl:cs.length=Cells.n (Cls × CHd)) (h:DataW.trod enc Tryz.prog W 0 (fun _=>true) true n 63 cs=some z):∃ x:Cls × CHd,cs=Cells.cells x∧QCls W x:=by
 obtain ⟨xs,n,_,hzx,_,hlen,hf⟩:=DataW.trod_struct Tryz.underlying63 h
 have hp:∀ i (hi:i<xs.length),Rows.uptoBulk (xs[i]).1≤1048576:=fun i hi=>part_bulk hzx hz hi
 obtain ⟨a,b,c,d,rfl⟩:=cells4 hl
 have h0:=hf 0 _ rfl
 have h1:=hf 1 _ rfl
 have h2:=hf 2 _ rfl
 have h3:=hf 3 _ rfl
 rw [show xs[0]?=some (xs[0]'(by rw [hlen];decide)) by simp] at h0
 rw [show xs[1]?=some (xs[1]'(by rw [hlen];decide)) by simp] at h1
 rw [show xs[2]?=some (xs[2]'(by rw [hlen];decide)) by simp] at h2
 rw [show xs[3]?=some (xs[3]'(by rw [hlen];decide)) by simp] at h3
 obtain ⟨k0,e0,_⟩:=DataW.trod_string Tryz.underlying9 h0
 obtain ⟨k1,e1,_⟩:=DataW.trod_int Tryz.underlying3 h1
 have e0':[a]=[Value.string k0]:=e0
 have e1':[b]=[Value.int .i64 k1]:=e1
 cases e0'
 cases e1'
 obtain ⟨fo,fc,f,rfl,hfr,hfl,hfc,_⟩:=open_row (α:=Ty) (v:=c) (hp 2 _) Tryz.underlying23 (by kernel_rfl) el_ty h2
 obtain ⟨mo,mc,l,rfl,hmr,hml,hmc,_⟩:=open_row (α:=Int) (v:=d) (hp 3 _) Tryz.underlying29 (by kernel_rfl) el_int h3
 exact ⟨(⟨k0,k1,f,l⟩,⟨fo,fc,mo,mc⟩),rfl,hfr,hmr,hfl⟩
theorem el_mth (n:Nat) (cs:List Value) (z:DataW H × List MemPlace) (hz:Rows.uptoBulk z.1≤1048576) (hl:cs.length=Cells.n (Mth × MHd)) (h:DataW.trod enc Tryz.prog W 0 (fun _=>true) true n 38 cs=some z):∃ x:Mth × MHd,cs=Cells.cells x∧QMth W x:=by
 obtain ⟨xs,n,_,hzx,_,hlen,hf⟩:=DataW.trod_struct Tryz.underlying38 h
 have hp:∀ i (hi:i<xs.length),Rows.uptoBulk (xs[i]).1≤1048576:=fun i hi=>part_bulk hzx hz hi
 obtain ⟨a,b,c,d,r,s,k,rfl⟩:=cells7 hl
 have h0:=hf 0 _ rfl
 have h1:=hf 1 _ rfl
 have h2:=hf 2 _ rfl
 have h3:=hf 3 _ rfl
 have h4:=hf 4 _ rfl
 have h5:=hf 5 _ rfl
 rw [show xs[0]?=some (xs[0]'(by rw [hlen];decide)) by simp] at h0
 rw [show xs[1]?=some (xs[1]'(by rw [hlen];decide)) by simp] at h1
 rw [show xs[2]?=some (xs[2]'(by rw [hlen];decide)) by simp] at h2
 rw [show xs[3]?=some (xs[3]'(by rw [hlen];decide)) by simp] at h3
 rw [show xs[4]?=some (xs[4]'(by rw [hlen];decide)) by simp] at h4
 rw [show xs[5]?=some (xs[5]'(by rw [hlen];decide)) by simp] at h5
 obtain ⟨k0,e0,_⟩:=DataW.trod_string Tryz.underlying9 h0
 obtain ⟨k1,e1,_⟩:=DataW.trod_int Tryz.underlying3 h1
 have e0':[a]=[Value.string k0]:=e0
 have e1':[b]=[Value.int .i64 k1]:=e1
 cases e0'
 cases e1'
 obtain ⟨po,pc,p,rfl,hpr,hpl,hpc,_⟩:=open_row (α:=Ty) (v:=c) (hp 2 _) Tryz.underlying23 (by kernel_rfl) el_ty h2
 obtain ⟨lo,lc,l,rfl,hlr,hll,hlc,_⟩:=open_row (α:=Ty) (v:=d) (hp 3 _) Tryz.underlying23 (by kernel_rfl) el_ty h3
 obtain ⟨t,ht,_⟩:=el_ty (cs:=[r,s]) _ _ (hp 4 _) rfl h4
 have ht':[r,s]=[Value.int .i64 t.k,Value.int .i64 t.c]:=ht
 cases ht'
 obtain ⟨ko,kc,q,rfl,hkr,hkl,hkc,_⟩:=open_row (α:=In3) (v:=k) (hp 5 _) Tryz.underlying36 (by kernel_rfl) el_in h5
 exact ⟨(⟨k0,k1,p,l,t,q⟩,⟨po,pc,lo,lc,ko,kc⟩),rfl,hpr,hlr,hkr,by dsimp only;omega,by dsimp only;omega,by dsimp only;omega⟩
theorem map_fst_getD {α β:Type} [Inhabited α] [Inhabited (α × β)] (l:List (α × β)) {i:Nat} (hi:i<l.length):(l.map Prod.fst).getD i default=(l.getD i default).1:=by simp [hi]
theorem rows_eq {α β:Type} [Inhabited β] [Inhabited (α × β)] (l:List (α × β)):((l.map Prod.fst).mapIdx fun i x=>(x,(l.getD i default).2))=l:=by
 apply List.ext_getElem
 ·simp
 ·intro i h1 h2
  simp [h2]
theorem open_module {r:Reach}{b0:Nat}{v:Value}{d:DataW H}{ps:List MemPlace} (hval:Value.okWide Tryz.prog W r b0 26 v) (hd:DataW.Trod enc Tryz.prog W 0 (fun _=>true) true 26 v d ps) (hN:Rows.uptoBulk d≤1048576) :
  ∃ h m,v=.agg #[.slice h.co m.cl.length h.cc,.slice h.so m.st.length h.sc,.slice h.eo m.me.length h.ec,.int .i64 m.sel]∧ModAt W h m:=by
 obtain ⟨v0,v1,v2,v3,y0,y1,y2,y3,n,rfl,hdd,_,h0,h1,h2,h3⟩:=Go.Joins.open_agg4 Tryz.underlying26 (by kernel_rfl) (by kernel_rfl) hval hd
 rw [hdd] at hN
 simp only [Rows.uptoBulk,Rows.uptoBulkAll] at hN
 obtain ⟨co,cc,cl,rfl,hcr,hcl,hcm,hcq⟩:=open_row (α:=Cls × CHd) (v:=v0) (by omega) Tryz.underlying22 (by kernel_rfl) el_cls h0
 obtain ⟨so,sc,st,rfl,hsr,hsl,hsm,_⟩:=open_row (α:=Ty) (v:=v1) (by omega) Tryz.underlying23 (by kernel_rfl) el_ty h1
 obtain ⟨eo,ec,me,rfl,her,hel,hem,heq⟩:=open_row (α:=Mth × MHd) (v:=v2) (by omega) Tryz.underlying24 (by kernel_rfl) el_mth h2
 obtain ⟨s,e3,_⟩:=DataW.trod_int Tryz.underlying3 h3
 obtain rfl:v3=_:=by simpa using e3
 refine ⟨⟨co,cc,so,sc,eo,ec,fun i=>(cl.getD i default).2,fun i=>(me.getD i default).2⟩,⟨cl.map Prod.fst,st,me.map Prod.fst,s⟩,by simp,?_⟩
 refine ⟨?_,hsr,?_,?_,?_,?_,?_,?_,?_,?_,?_⟩
 ·show RowAt W co cc ((cl.map Prod.fst).mapIdx fun i x=>(x,(cl.getD i default).2))
  rw [rows_eq];exact hcr
 ·show RowAt W eo ec ((me.map Prod.fst).mapIdx fun i x=>(x,(me.getD i default).2))
  rw [rows_eq];exact her
 all_goals try (intro i hi;dsimp only at hi ⊢;rw [List.length_map] at hi;rw [map_fst_getD _ hi])
 ·exact (hcq i hi).1
 ·exact (hcq i hi).2.1
 ·exact (heq i hi).1
 ·exact (heq i hi).2.1
 ·exact (heq i hi).2.2.1
 ·exact (hcq i hi).2.2
 ·exact (heq i hi).2.2.2
 ·dsimp only;simp only [List.length_map];omega
end
end
section
def mtF (l:List In3):Nat→Nat→Nat→Int→Int × Nat
 | 0,_,_,_=>(-1,0)
 | f+1,d,p,alt=>
  if opensV (l.getD p default).op=true then mtF l f (d+1) (p+1) alt
  else if (l.getD p default).op=34 then mtF l f d (p+1) (if d=0 then (p:Int) else alt)
  else if (l.getD p default).op=35 then (match d with
   | 0=>(alt,p)
   | e+1=>mtF l f e (p+1) alt)
  else mtF l f d (p+1) alt
def mtV (l:List In3) (o:Nat):Int × Nat:=mtF l l.length 0 (o+1) (-1)
theorem mt_scan {l:List In3} (alt:Int):∀ (n p f:Nat) (S T:List Br) (D D':Nat),p+n≤l.length→n≤f→nestF (S,D) ((l.drop p).take n)=some (T,D')→mtF l f S.length p alt=mtF l (f-n) T.length (p+n) alt
 | 0,p,f,S,T,D,D',_,_,h=>by cases h;rfl
 | n+1,p,f,S,T,D,D',hp,hf,h=>by
  obtain ⟨f,rfl⟩:∃ g,f=g+1:=⟨f-1,by omega⟩
  rw [List.drop_eq_getElem_cons (by omega),List.take_succ_cons] at h
  unfold nestF at h
  have hx:l[p]'(by omega)=l.getD p default:=by simp [show p<l.length by omega]
  rw [hx] at h
  split at h
  ·cases h
  ·rename_i t ht
   obtain ⟨U,D2⟩:=t
   have ih:=mt_scan alt n (p+1) f U T D2 D' (by omega) (by omega) h
   rw [show f+1-(n+1)=f-n by omega,show p+(n+1)=p+1+n by omega,←ih]
   unfold nestS at ht
   conv=>lhs;unfold mtF
   split at ht
   ·rename_i ho
    rw [if_pos ho]
    cases ht
    rfl
   ·rename_i ho
    rw [if_neg ho]
    split at ht
    ·rename_i h34
     rw [if_pos h34]
     cases S with
     | nil=>cases ht
     | cons b r=>
      dsimp only at ht
      split at ht
      ·cases ht
       rw [if_neg (by simp)]
       rfl
      ·cases ht
    ·rename_i h34
     rw [if_neg h34]
     split at ht
     ·rename_i h35
      rw [if_pos h35]
      cases S with
      | nil=>cases ht
      | cons b r=>
       dsimp only at ht
       split at ht
       ·cases ht
       ·cases ht
        rfl
     ·rename_i h35
      rw [if_neg h35]
      cases ht
      rfl
theorem mt_good {l:List In3}{a b d f:Nat} (alt:Int) (h:Good l a b d) (hf:b-a≤f):mtF l f 0 a alt=mtF l (f-(b-a)) 0 b alt:=by
 obtain ⟨h1,h2,h3⟩:=h [] 0 (Nat.le_refl _)
 have:=mt_scan alt (b-a) a f [] [] 0 _ (by omega) hf h3
 rw [show a+(b-a)=b by omega] at this
 exact this
theorem mt_of {l:List In3}{o en:Nat}{alt:Int} (h:Mat l o alt en):mtV l o=(alt,en):=by
 have hlt:=mat_lt h
 obtain ⟨h0,h1,h2,h3,h4⟩:=h
 have hend:∀ f (x:Int),0<f→mtF l f 0 en x=(x,en):=fun f x hf=>by
  obtain ⟨g,rfl⟩:∃ g,f=g+1:=⟨f-1,by omega⟩
  unfold mtF
  rw [if_neg (by rw [opens_not (.inr h3)];decide),if_neg (by omega),if_pos h3]
 unfold mtV
 rcases h4 with ⟨rfl,h5,d,h6⟩|⟨n,rfl,h5,h6,h7,⟨d,h8⟩,i,h9⟩
 ·have:=good_le h6
  rw [mt_good (-1) h6 (by omega),hend _ _ (by omega)]
 ·have g1:=good_le h8
  have g2:=good_le h9
  rw [mt_good (-1) h8 (by omega)]
  obtain ⟨f,hf⟩:∃ f,l.length-(n-(o+1))=f+1:=⟨l.length-(n-(o+1))-1,by omega⟩
  rw [hf]
  conv=>lhs;unfold mtF
  rw [if_neg (by rw [opens_not (.inl h6)];decide),if_pos h6,if_pos rfl,mt_good (n:Int) h9 (by omega),hend _ _ (by omega)]
structure Wg where
 plus:Int→Int→Int
 pl:In3→Int
 brk:In3→Int→Int→Int
def wL (g:Wg) (l:List In3):Nat→Nat→Nat→Int→Int
 | 0,_,_,acc=>acc
 | f+1,a,b,acc=>
  if a<b then
   if opensV (l.getD a default).op=true then
    wL g l f ((mtV l a).2+1) b (g.plus acc (g.brk (l.getD a default) (wL g l f (a+1) (if (mtV l a).1<0 then (mtV l a).2 else (mtV l a).1.toNat) 0) (if (mtV l a).1<0 then 0 else wL g l f ((mtV l a).1.toNat+1) (mtV l a).2 0)))
   else wL g l f (a+1) b (g.plus acc (g.pl (l.getD a default)))
  else acc
end
section
inductive Seg (l:List In3):Nat→Nat→Prop
 | nil (a:Nat):a≤l.length→Seg l a a
 | pl (a b:Nat):a<l.length→opensV (l.getD a default).op=false→(l.getD a default).op≠34→(l.getD a default).op≠35→Seg l (a+1) b→Seg l a b
 | one (a en b:Nat):Mat l a (-1) en→Seg l (a+1) en→Seg l (en+1) b→Seg l a b
 | two (a n en b:Nat):Mat l a n en→Seg l (a+1) n→Seg l (n+1) en→Seg l (en+1) b→Seg l a b
theorem seg_le {l:List In3}{a b:Nat} (h:Seg l a b):a≤b∧b≤l.length:=by
 induction h with
 | nil a h=>exact ⟨Nat.le_refl _,h⟩
 | pl a b h1 h2 h3 h4 h5 ih=>omega
 | one a en b h1 h2 h3 i1 i2=>have:=mat_lt h1;omega
 | two a n en b h1 h2 h3 h4 i1 i2 i3=>have:=mat_lt h1;omega
theorem seg_parse (l:List In3):∀ (n a:Nat) (S:List Br) (D D':Nat),l.length-a≤n→a≤l.length→nestF (S,D) (l.drop a)=some ([],D') →
  ∃ b d E,Seg l a b∧Good l a b d∧nestF (S,E) (l.drop b)=some ([],D')∧((b=l.length∧S=[])∨(b<l.length∧((l.getD b default).op=34∨(l.getD b default).op=35)))
 | n,a,S,D,D',hn,ha,h=>by
  by_cases hal:a=l.length
  ·refine ⟨a,0,D,.nil a ha,good_refl ha,h,.inl ⟨hal,?_⟩⟩
   rw [hal,List.drop_length] at h
   cases h
   rfl
  have hal2:a<l.length:=by omega
  obtain ⟨n,rfl⟩:∃ k,n=k+1:=⟨n-1,by omega⟩
  have hst:∀ (S:List Br) (D b:Nat),b<l.length→nestF (S,D) (l.drop b)=some ([],D')→∃ T E,nestS (S,D) (l.getD b default)=some (T,E)∧nestF (T,E) (l.drop (b+1))=some ([],D'):=fun S D b hb h=>by
   have hx:l[b]=l.getD b default:=by simp [hb]
   rw [List.drop_eq_getElem_cons hb,hx] at h
   unfold nestF at h
   split at h
   ·cases h
   ·rename_i t ht
    exact ⟨t.1,t.2,ht,h⟩
  obtain ⟨T,E,h1,h2⟩:=hst _ _ _ hal2 h
  by_cases hop:opensV (l.getD a default).op=true
  ·unfold nestS at h1
   rw [if_pos hop] at h1
   cases h1
   obtain ⟨b1,d1,E1,s1,g1,n1,q1⟩:=seg_parse l n (a+1) _ _ D' (by omega) (by omega) h2
   rcases q1 with ⟨_,hq⟩|⟨hb1,hq⟩
   ·cases hq
   obtain ⟨T2,E2,h3,h4⟩:=hst _ _ _ hb1 n1
   have hle:=(seg_le s1).1
   rcases hq with hq|hq
   ·unfold nestS at h3
    rw [opens_not (.inl hq),if_neg (by decide),if_pos hq] at h3
    dsimp only at h3
    split at h3
    ·rename_i hc
     cases h3
     obtain ⟨b2,d2,E3,s2,g2,n2,q2⟩:=seg_parse l n (b1+1) _ _ D' (by omega) (by omega) h4
     rcases q2 with ⟨_,hq2⟩|⟨hb2,hq2⟩
     ·cases hq2
     obtain ⟨T3,E4,h5,h6⟩:=hst _ _ _ hb2 n2
     have hle2:=(seg_le s2).1
     have h35:(l.getD b2 default).op=35:=by
      rcases hq2 with hq2|hq2
      ·unfold nestS at h5
       rw [opens_not (.inl hq2),if_neg (by decide),if_pos hq2] at h5
       simp at h5
      ·exact hq2
     unfold nestS at h5
     rw [opens_not (.inr h35),if_neg (by decide),if_neg (by omega),if_pos h35] at h5
     simp at h5
     obtain ⟨rfl,rfl⟩:=h5
     obtain ⟨b3,d3,E5,s3,g3,n3,q3⟩:=seg_parse l n (b2+1) _ _ D' (by omega) (by omega) h6
     exact ⟨b3,_,E5,.two a b1 b2 b3 ⟨hal2,hop,hb2,h35,.inr ⟨b1,rfl,hb1,hq,hc.1,⟨_,g1⟩,_,g2⟩⟩ s1 s2 s3,good_both (br_two hal2 hop g1 hb1 hq hc.1 g2 hb2 h35) g3,n3,q3⟩
    ·cases h3
   ·unfold nestS at h3
    rw [opens_not (.inr hq),if_neg (by decide),if_neg (by omega),if_pos hq] at h3
    dsimp only at h3
    split at h3
    ·cases h3
    ·rename_i hc
     cases h3
     have h33:(l.getD a default).op≠33:=fun q=>hc ⟨q,rfl⟩
     obtain ⟨b3,d3,E5,s3,g3,n3,q3⟩:=seg_parse l n (b1+1) _ _ D' (by omega) (by omega) h4
     exact ⟨b3,_,E5,.one a b1 b3 ⟨hal2,hop,hb1,hq,.inl ⟨rfl,h33,_,g1⟩⟩ s1 s3,good_both (br_one hal2 hop g1 hb1 hq h33) g3,n3,q3⟩
  ·by_cases hx:(l.getD a default).op=34∨(l.getD a default).op=35
   ·exact ⟨a,0,D,.nil a ha,good_refl ha,h,.inr ⟨hal2,hx⟩⟩
   ·have hop':opensV (l.getD a default).op=false:=by simpa using hop
    rw [plain_step hop' (by omega) (by omega)] at h1
    cases h1
    obtain ⟨b,d,E,s,g,n3,q3⟩:=seg_parse l n (a+1) _ _ D' (by omega) (by omega) h2
    exact ⟨b,_,E,.pl a b hal2 hop' (by omega) (by omega) s,good_both (good_plain (good_refl ha) hal2 hop' (by omega) (by omega)) g,n3,q3⟩
theorem seg_of {l:List In3} (h:nestV l=true):Seg l 0 l.length:=by
 unfold nestV at h
 split at h
 ·cases h
 ·rename_i st d hf
  simp only [Bool.and_eq_true,List.isEmpty_iff] at h
  obtain ⟨rfl,_⟩:=h
  obtain ⟨b,e,E,s,g,n,q⟩:=seg_parse l l.length 0 [] 0 d (by omega) (by omega) hf
  rcases q with ⟨rfl,_⟩|⟨hb,hq⟩
  ·exact s
  ·have hx:l[b]=l.getD b default:=by simp [hb]
   rw [List.drop_eq_getElem_cons hb,hx] at n
   unfold nestF nestS at n
   rw [opens_not hq,if_neg (by decide)] at n
   rcases hq with hq|hq
   ·rw [if_pos hq] at n;cases n
   ·rw [if_neg (by omega),if_pos hq] at n;cases n
theorem wL_nil (g:Wg) (l:List In3) (f a:Nat) (acc:Int):wL g l f a a acc=acc:=by
 cases f with
 | zero=>rfl
 | succ f=>unfold wL;rw [if_neg (Nat.lt_irrefl a)]
theorem wL_pl {g:Wg}{l:List In3}{f a b:Nat}{acc:Int} (h1:opensV (l.getD a default).op=false) (hab:a<b):wL g l (f+1) a b acc=wL g l f (a+1) b (g.plus acc (g.pl (l.getD a default))):=by
 conv=>lhs;unfold wL
 rw [if_pos hab,if_neg (by rw [h1];decide)]
theorem wL_br {g:Wg}{l:List In3}{f a b en:Nat}{alt acc:Int} (h:Mat l a alt en) (hab:a<b):wL g l (f+1) a b acc =
  wL g l f (en+1) b (g.plus acc (g.brk (l.getD a default) (wL g l f (a+1) (if alt<0 then en else alt.toNat) 0) (if alt<0 then 0 else wL g l f (alt.toNat+1) en 0))):=by
 conv=>lhs;unfold wL
 rw [if_pos hab,if_pos (show opensV (l.getD a default).op=true from h.2.1),mt_of h]
theorem wL_fuel {g:Wg}{l:List In3}{a b:Nat} (h:Seg l a b):∀ (f f':Nat) (acc:Int),b-a≤f→b-a≤f'→wL g l f a b acc=wL g l f' a b acc:=by
 induction h with
 | nil a h=>intro f f' acc _ _;rw [wL_nil,wL_nil]
 | pl a b h1 h2 h3 h4 h5 ih=>
  intro f f' acc hf hf'
  have:=(seg_le h5).1
  obtain ⟨f,rfl⟩:∃ k,f=k+1:=⟨f-1,by omega⟩
  obtain ⟨f',rfl⟩:∃ k,f'=k+1:=⟨f'-1,by omega⟩
  rw [wL_pl h2 (by omega),wL_pl h2 (by omega)]
  exact ih _ _ _ (by omega) (by omega)
 | one a en b h1 h2 h3 i1 i2=>
  intro f f' acc hf hf'
  have:=mat_lt h1
  have:=(seg_le h3).1
  obtain ⟨f,rfl⟩:∃ k,f=k+1:=⟨f-1,by omega⟩
  obtain ⟨f',rfl⟩:∃ k,f'=k+1:=⟨f'-1,by omega⟩
  rw [wL_br h1 (by omega),wL_br h1 (by omega),if_pos (by decide),if_pos (by decide),if_pos (by decide),i1 f f' _ (by omega) (by omega)]
  exact i2 _ _ _ (by omega) (by omega)
 | two a n en b h1 h2 h3 h4 i1 i2 i3=>
  intro f f' acc hf hf'
  have:=mat_lt h1
  have:=(seg_le h2).1
  have:=(seg_le h3).1
  have:=(seg_le h4).1
  obtain ⟨f,rfl⟩:∃ k,f=k+1:=⟨f-1,by omega⟩
  obtain ⟨f',rfl⟩:∃ k,f'=k+1:=⟨f'-1,by omega⟩
  have hn:¬ (n:Int) < 0:=by omega
  rw [wL_br h1 (by omega),wL_br h1 (by omega),if_neg hn,if_neg hn,if_neg hn,Int.toNat_natCast,i1 f f' _ (by omega) (by omega),i2 f f' _ (by omega) (by omega)]
  exact i3 _ _ _ (by omega) (by omega)
def WA (g:Wg) (l:List In3) (a b:Nat) (acc:Int):Int:=wL g l (b-a) a b acc
section
variable {g:Wg}{l:List In3}{a n en b:Nat}{acc:Int}
theorem WA_nil:WA g l a a acc=acc:=wL_nil _ _ _ _ _
theorem WA_pl (h2:opensV (l.getD a default).op=false) (h5:Seg l (a+1) b):WA g l a b acc=WA g l (a+1) b (g.plus acc (g.pl (l.getD a default))):=by
 have:=(seg_le h5).1
 unfold WA
 rw [show b-a=(b-(a+1))+1 by omega,wL_pl h2 (by omega)]
theorem WA_one (h1:Mat l a (-1) en) (h2:Seg l (a+1) en) (h3:Seg l (en+1) b):WA g l a b acc=WA g l (en+1) b (g.plus acc (g.brk (l.getD a default) (WA g l (a+1) en 0) 0)):=by
 have:=mat_lt h1
 have:=(seg_le h3).1
 unfold WA
 rw [show b-a=(b-(a+1))+1 by omega,wL_br h1 (by omega),if_pos (by decide),if_pos (by decide),wL_fuel h2 _ (en-(a+1)) _ (by omega) (by omega),wL_fuel h3 _ (b-(en+1)) _ (by omega) (by omega)]
theorem WA_two (h1:Mat l a n en) (h2:Seg l (a+1) n) (h3:Seg l (n+1) en) (h4:Seg l (en+1) b):WA g l a b acc=WA g l (en+1) b (g.plus acc (g.brk (l.getD a default) (WA g l (a+1) n 0) (WA g l (n+1) en 0))):=by
 have:=mat_lt h1
 have:=(seg_le h2).1
 have:=(seg_le h3).1
 have:=(seg_le h4).1
 have hn:¬ (n:Int) < 0:=by omega
 unfold WA
 rw [show b-a=(b-(a+1))+1 by omega,wL_br h1 (by omega),if_neg hn,if_neg hn,Int.toNat_natCast,wL_fuel h2 _ (n-(a+1)) _ (by omega) (by omega),wL_fuel h3 _ (en-(n+1)) _ (by omega) (by omega),wL_fuel h4 _ (b-(en+1)) _ (by omega) (by omega)]
end
end
section
def hugeV:Int:=1000000001
def addV (a b:Int):Int:=min (a+b) hugeV
def mulV (a b:Int):Int:=min (a*b) hugeV
def costV (i:In3):Int:=((opC.getD i.op.toNat 0:Nat):Int)+if i.op=15∨i.op=16 then i.a else 0
structure Ms where
 wt:In3→Int
 tl:Int
 sc:Bool
def byCost:Ms:=⟨costV,1,false⟩
def mostT (T:Int→Int) (l:List Int):Int:=l.foldl (fun a t=>max a (T t)) 0
def gW (x:Ms) (m:Md) (T:Int→Int):Wg where
 plus:=addV
 pl i:=if i.op=25 then addV (x.wt i) (T i.a) else if i.op=26 then addV (x.wt i) (mostT T (tgtV m i.a)) else x.wt i
 brk i f s:=if i.op=29 then addV (x.wt i) (max (addV f x.tl) (addV s x.tl)) else if i.op=30 then addV (x.wt i) (mulV i.a (addV f x.tl)) else if i.op=32∧x.sc=true then x.wt i else if i.op=33 then addV (x.wt i) (addV (addV f x.tl) s) else addV (x.wt i) (addV f x.tl)
def bothV (a b:Int):Int:=if a<0∨b<0 then -1 else addV a b
def lightV (a b:Int):Int:=if a<0 then b else if b<0 then a else min a b
def lowT (T:Int→Int) (l:List Int):Int:=l.foldl (fun a t=>lightV a (T t)) (match l with|[]=>0|t :: _=>T t)
def gL (m:Md) (T:Int→Int):Wg where
 plus:=bothV
 pl i:=if i.op=25 then bothV (costV i) (T i.a) else if i.op=26 then bothV (costV i) (lowT T (tgtV m i.a)) else if i.op=28 then -1 else costV i
 brk i f s:=if i.op=29∨i.op=33 then bothV (costV i) (bothV (lightV f s) 1) else if i.op=30 then costV i else bothV (costV i) (bothV f 1)
def tabV (G:(Int→Int)→Wg) (m:Md):Nat→List Int
 | 0=>[]
 | k+1=>tabV G m k++[WA (G fun t=>(tabV G m k).getD t.toNat 0) (m.me.getD k default).k 0 (m.me.getD k default).k.length 0]
def mthW (G:(Int→Int)→Wg) (m:Md) (k:Nat):Int:=(tabV G m (k+1)).getD k 0
theorem tabV_len (G:(Int→Int)→Wg) (m:Md):∀ k,(tabV G m k).length=k
 | 0=>rfl
 | k+1=>by unfold tabV;simp [tabV_len G m k]
theorem tabV_get (G:(Int→Int)→Wg) (m:Md) {j k:Nat} (h:j<k):(tabV G m k).getD j 0=mthW G m j:=by
 induction k with
 | zero=>omega
 | succ k ih=>
  by_cases hj:j=k
  ·subst hj;rfl
  ·conv=>lhs;unfold tabV
   rw [List.getD_eq_getElem?_getD,List.getElem?_append_left (by rw [tabV_len];omega),←List.getD_eq_getElem?_getD]
   exact ih (by omega)
theorem WA_congr {g g':Wg}{l:List In3}{a b:Nat} (h:Seg l a b) (h1:g.plus=g'.plus) (h2:g.brk=g'.brk) (h3:∀ i∈l,g.pl i=g'.pl i):∀ acc,WA g l a b acc=WA g' l a b acc:=by
 induction h with
 | nil a h=>intro acc;rw [WA_nil,WA_nil]
 | pl a b q1 q2 q3 q4 q5 ih=>
  intro acc
  rw [WA_pl q2 q5,WA_pl q2 q5,ih,h1,h3 _ (by rw [List.getD_eq_getElem?_getD,List.getElem?_eq_getElem q1];exact List.getElem_mem q1)]
 | one a en b q1 q2 q3 i1 i2=>intro acc;rw [WA_one q1 q2 q3,WA_one q1 q2 q3,i1,i2,h1,h2]
 | two a n en b q1 q2 q3 q4 i1 i2 i3=>intro acc;rw [WA_two q1 q2 q3 q4,WA_two q1 q2 q3 q4,i1,i2,i3,h1,h2]
theorem mthW_eq {G:(Int→Int)→Wg}{m:Md}{k:Nat} (hs:Seg (m.me.getD k default).k 0 (m.me.getD k default).k.length) {T:Int→Int} (hp:∀ S S',(G S).plus=(G S').plus) (hb:∀ S S',(G S).brk=(G S').brk)
  (hc:∀ i∈(m.me.getD k default).k,(G fun t=>(tabV G m k).getD t.toNat 0).pl i=(G T).pl i):mthW G m k=WA (G T) (m.me.getD k default).k 0 (m.me.getD k default).k.length 0:=by
 unfold mthW tabV
 rw [List.getD_eq_getElem?_getD,List.getElem?_append_right (by rw [tabV_len];omega),tabV_len,Nat.sub_self]
 exact WA_congr hs (hp _ _) (hb _ _) hc 0
theorem mostT_congr {T T':Int→Int}{l:List Int} (h:∀ t∈l,T t=T' t):mostT T l=mostT T' l:=by
 unfold mostT
 generalize (0:Int)=a
 induction l generalizing a with
 | nil=>rfl
 | cons x r ih=>rw [List.foldl_cons,List.foldl_cons,h x (by simp)];exact ih (fun t ht=>h t (by simp [ht])) _
theorem lowT_congr {T T':Int→Int}{l:List Int} (h:∀ t∈l,T t=T' t):lowT T l=lowT T' l:=by
 have:∀ (l:List Int) (a:Int),(∀ t∈l,T t=T' t)→l.foldl (fun a t=>lightV a (T t)) a=l.foldl (fun a t=>lightV a (T' t)) a:=by
  intro l
  induction l with
  | nil=>intro a _;rfl
  | cons x r ih=>intro a h;rw [List.foldl_cons,List.foldl_cons,h x (by simp)];exact ih _ (fun t ht=>h t (by simp [ht]))
 unfold lowT
 cases l with
 | nil=>rfl
 | cons x r=>dsimp only;rw [h x (by simp)];exact this _ _ h
end
section
open Go.RowKit
theorem add_any (a b:Int) (w:World) (ha:0≤a∧a≤1000000001) (hb:0≤b∧b≤1000000001):Calls Tryz.prog 97 #[.int .i64 a,.int .i64 b] w (Ret w (.int .i64 (addV a b))):=by
 obtain ⟨a0,a1⟩:=ha
 obtain ⟨b0,b1⟩:=hb
 generalize hq:addV a b=q
 have HQ:=Lib.hid hq
 clear hq
 go_enter Tryz.func97,Tryz.ntmps97
 go_wp2
 all_goals
  go_ret
  exact ret_ok (int_eq (by rw [←HQ.out];unfold addV hugeV;omega)) bE
theorem multiply_any (a b:Int) (w:World) (ha:0≤a∧a≤1000) (hb:0≤b∧b≤1000000001):Calls Tryz.prog 77 #[.int .i64 a,.int .i64 b] w (Ret w (.int .i64 (mulV a b))):=by
 obtain ⟨a0,a1⟩:=ha
 obtain ⟨b0,b1⟩:=hb
 have h1:0≤a*b:=Int.mul_nonneg a0 b0
 have h2:a*b≤1000*1000000001:=Int.mul_le_mul a1 b1 b0 (by decide)
 exact j5
theorem bfits_any (n:Int) (w:World):Calls Tryz.prog 50 #[.int .i64 n] w (Ret w (.tuple #[.int .i64 (if 1000000000<n then 0 else n),.int .i64 (if 1000000000<n then 6 else 0)])):=by
 by_cases h:1000000000<n
 all_goals
  first|rw [if_pos h,if_pos h]|rw [if_neg h,if_neg h]
  go_enter Tryz.func50,Tryz.ntmps50
  go_wp2
  go_ret2
  exact ret_ok rfl bE
theorem opC_le (k:Nat):opC.getD k 0≤12:=by
 by_cases h:k<36
 ·have:∀ i,i<36→opC.getD i 0≤12:=by decide
  exact this k h
 ·rw [List.getD_eq_getElem?_getD,List.getElem?_eq_none (by simp only [opC,List.length_cons,List.length_nil];omega)]
  simp
theorem insnV_op {p:Bool}{i:In3} (h:insnV p i=true):0≤i.op∧i.op<36:=by
 unfold insnV at h
 simp only [Bool.and_eq_true,decide_eq_true_eq] at h
 omega
theorem cCost_any (i:In3) (w:World) (hv:insnV false i=true) (ha:i.op=15∨i.op=16→0≤i.a∧i.a≤1000):Calls Tryz.prog 113 #[.agg #[.int .i64 i.op,.int .i64 i.a,.int .i64 i.b]] w (Ret w (.tuple #[.int .i64 (costV i),.int .i64 0])):=by
 have hop:=insnV_op hv
 have HV:=Lib.hid (cValid_any i false)
 rw [hv] at HV
 obtain ⟨op,a,b⟩:=i
 dsimp only at hop HV ha
 obtain ⟨k,rfl⟩:∃ k:Nat,op=k:=⟨op.toNat,by omega⟩
 have hk:k<36:=by omega
 have HK:=Lib.hid (known_yes k hk)
 have hc:costV ⟨k,a,b⟩=((opC.getD k 0:Nat):Int)+if (k:Int)=15∨(k:Int)=16 then a else 0:=by unfold costV;rw [Int.toNat_natCast]
 have hle:=opC_le k
 generalize costV ⟨k,a,b⟩=q at hc ⊢
 generalize opN.getD k default=n0 at HK
 generalize ((opA.getD k 0:Nat):Int)=n1 at HK
 generalize ((opB.getD k 0:Nat):Int)=n2 at HK
 generalize opC.getD k 0=n3 at HK hc hle
 have HQ:=Lib.hid hc
 have HX:=Lib.hid (Blk.new w #[.int .i64 k,.int .i64 a,.int .i64 b] 42)
 have hb0:Below w.heap.size w (w.alloc (.cells #[.int .i64 k,.int .i64 a,.int .i64 b] 42)):=by exact bE
 have HB0:=Lib.hid hb0
 clear hc hv hb0
 by_cases h:(k:Int)=15∨(k:Int)=16
 ·obtain ⟨a0,a1⟩:=ha h
  rw [if_pos h] at HQ
  exact j2
 ·rw [if_neg h,Int.add_zero] at HQ
  clear ha
  exact j2
end
section
open Go.RowKit
structure VN where
 at_:Int
 alt:Int
 en:Int
 fo:Option Addr
 fn:Nat
 fc:Nat
 so:Option Addr
 sn:Nat
 sc:Nat
instance:Inhabited VN:=⟨⟨0,0,0,none,0,0,none,0,0⟩⟩
instance:Cells VN:=⟨5,by decide,fun t=>[.int .i64 t.at_,.int .i64 t.alt,.int .i64 t.en,.slice t.fo t.fn t.fc,.slice t.so t.sn t.sc],fun _=>rfl,by
 intro x u hu;simp only [List.mem_cons,List.not_mem_nil,or_false] at hu;rcases hu with rfl|rfl|rfl|rfl|rfl<;>rfl⟩
def Lie (P:Nat→Prop) (ao:Option Addr):Prop:=∀ ad,ao=some ad→P ad.block
inductive Nds (w:World) (l:List In3) (P:Nat→Prop):Nat→Nat→List VN→Prop
 | nil (a:Nat):a≤l.length→Nds w l P a a []
 | pl (a b:Nat) (r:List VN):a<l.length→opensV (l.getD a default).op=false→(l.getD a default).op≠34→(l.getD a default).op≠35→Nds w l P (a+1) b r→Nds w l P a b (⟨a,-1,-1,none,0,0,none,0,0⟩ :: r)
 | one (a en b:Nat) (fo:Option Addr) (fc:Nat) (F r:List VN):Mat l a (-1) en→RowAt w fo fc F→Lie P fo→Nds w l P (a+1) en F→Nds w l P (en+1) b r→Nds w l P a b (⟨a,-1,en,fo,F.length,fc,none,0,0⟩ :: r)
 | two (a n en b:Nat) (fo so:Option Addr) (fc sc:Nat) (F S r:List VN):Mat l a n en→RowAt w fo fc F→Lie P fo→Nds w l P (a+1) n F→RowAt w so sc S→Lie P so→Nds w l P (n+1) en S→Nds w l P (en+1) b r→Nds w l P a b (⟨a,n,en,fo,F.length,fc,so,S.length,sc⟩ :: r)
theorem Nds.le {w:World}{l:List In3}{P:Nat→Prop}{a b:Nat}{r:List VN} (h:Nds w l P a b r):a+r.length≤b∧b≤l.length:=by
 induction h with
 | nil a h=>simp [h]
 | pl a b r h1 h2 h3 h4 h5 ih=>simp;omega
 | one a en b fo fc F r h1 h2 h3 h4 h5 i1 i2=>have:=mat_lt h1;simp;omega
 | two a n en b fo so fc sc F S r h1 h2 h3 h4 h5 h6 h7 h8 i1 i2 i3=>have:=mat_lt h1;simp;omega
theorem Nds.seg {w:World}{l:List In3}{P:Nat→Prop}{a b:Nat}{r:List VN} (h:Nds w l P a b r):Seg l a b:=by
 induction h with
 | nil a h=>exact .nil a h
 | pl a b r h1 h2 h3 h4 h5 ih=>exact .pl a b h1 h2 h3 h4 ih
 | one a en b fo fc F r h1 h2 h3 h4 h5 i1 i2=>exact .one a en b h1 i1 i2
 | two a n en b fo so fc sc F S r h1 h2 h3 h4 h5 h6 h7 h8 i1 i2 i3=>exact .two a n en b h1 i1 i2 i3
theorem Nds.keep {w w':World}{l:List In3}{P Q:Nat→Prop}{a b:Nat}{r:List VN} (h:Nds w l P a b r) (hr:∀ (ao:Option Addr) (c:Nat) (L:List VN),RowAt w ao c L→Lie P ao→RowAt w' ao c L∧Lie Q ao):Nds w' l Q a b r:=by
 induction h with
 | nil a h=>exact .nil a h
 | pl a b r h1 h2 h3 h4 h5 ih=>exact .pl a b r h1 h2 h3 h4 ih
 | one a en b fo fc F r h1 h2 h3 h4 h5 i1 i2=>exact .one a en b fo fc F r h1 (hr _ _ _ h2 h3).1 (hr _ _ _ h2 h3).2 i1 i2
 | two a n en b fo so fc sc F S r h1 h2 h3 h4 h5 h6 h7 h8 i1 i2 i3=>exact .two a n en b fo so fc sc F S r h1 (hr _ _ _ h2 h3).1 (hr _ _ _ h2 h3).2 i1 (hr _ _ _ h5 h6).1 (hr _ _ _ h5 h6).2 i2 i3
theorem Nds.old {w w':World}{l:List In3}{P:Nat→Prop}{a b:Nat}{r:List VN} (h:Nds w l P a b r) (hb:Below w.heap.size w w'):Nds w' l P a b r:=
 h.keep fun _ _ _ h1 h2=>⟨h1.old hb,h2⟩
theorem Nds.weak {w:World}{l:List In3}{P Q:Nat→Prop}{a b:Nat}{r:List VN} (h:Nds w l P a b r) (hq:∀ k,P k→Q k):Nds w l Q a b r:=
 h.keep fun _ _ _ h1 h2=>⟨h1,fun ad e=>hq _ (h2 ad e)⟩
theorem Nds.snoc_pl {w:World}{l:List In3}{P:Nat→Prop}{a k:Nat}{r:List VN} (h:Nds w l P a k r) (h1:k<l.length) (h2:opensV (l.getD k default).op=false) (h3:(l.getD k default).op≠34) (h4:(l.getD k default).op≠35):Nds w l P a (k+1) (r++[⟨k,-1,-1,none,0,0,none,0,0⟩]):=by
 induction h with
 | nil a h=>exact .pl a (a+1) [] h1 h2 h3 h4 (.nil _ (by omega))
 | pl a b r q1 q2 q3 q4 q5 ih=>exact .pl a _ _ q1 q2 q3 q4 (ih h1 h2 h3 h4)
 | one a en b fo fc F r q1 q2 q3 q4 q5 i1 i2=>exact .one a en _ fo fc F _ q1 q2 q3 q4 (i2 h1 h2 h3 h4)
 | two a n en b fo so fc sc F S r q1 q2 q3 q4 q5 q6 q7 q8 i1 i2 i3=>exact .two a n en _ fo so fc sc F S _ q1 q2 q3 q4 q5 q6 q7 (i3 h1 h2 h3 h4)
theorem Nds.snoc_one {w:World}{l:List In3}{P:Nat→Prop}{a k en:Nat}{r F:List VN}{fo:Option Addr}{fc:Nat} (h:Nds w l P a k r) (h1:Mat l k (-1) en) (h2:RowAt w fo fc F) (h3:Lie P fo) (h4:Nds w l P (k+1) en F):Nds w l P a (en+1) (r++[⟨k,-1,en,fo,F.length,fc,none,0,0⟩]):=by
 induction h with
 | nil a h=>exact .one a en _ fo fc F [] h1 h2 h3 h4 (.nil _ (by have:=h1.2.2.1;omega))
 | pl a b r q1 q2 q3 q4 q5 ih=>exact .pl a _ _ q1 q2 q3 q4 (ih h1 h4)
 | one a en b fo fc F r q1 q2 q3 q4 q5 i1 i2=>exact .one a en _ fo fc F _ q1 q2 q3 q4 (i2 h1 h4)
 | two a n en b fo so fc sc F S r q1 q2 q3 q4 q5 q6 q7 q8 i1 i2 i3=>exact .two a n en _ fo so fc sc F S _ q1 q2 q3 q4 q5 q6 q7 (i3 h1 h4)
theorem Nds.snoc_two {w:World}{l:List In3}{P:Nat→Prop}{a k n en:Nat}{r F S:List VN}{fo so:Option Addr}{fc sc:Nat} (h:Nds w l P a k r) (h1:Mat l k n en) (h2:RowAt w fo fc F) (h3:Lie P fo) (h4:Nds w l P (k+1) n F) (h5:RowAt w so sc S) (h6:Lie P so) (h7:Nds w l P (n+1) en S) :
  Nds w l P a (en+1) (r++[⟨k,n,en,fo,F.length,fc,so,S.length,sc⟩]):=by
 induction h with
 | nil a h=>exact .two a n en _ fo so fc sc F S [] h1 h2 h3 h4 h5 h6 h7 (.nil _ (by have:=h1.2.2.1;omega))
 | pl a b r q1 q2 q3 q4 q5 ih=>exact .pl a _ _ q1 q2 q3 q4 (ih h1 h4)
 | one a en b fo fc F r q1 q2 q3 q4 q5 i1 i2=>exact .one a en _ fo fc F _ q1 q2 q3 q4 (i2 h1 h4)
 | two a n en b fo so fc sc F S r q1 q2 q3 q4 q5 q6 q7 q8 i1 i2 i3=>exact .two a n en _ fo so fc sc F S _ q1 q2 q3 q4 q5 q6 q7 (i3 h1 h4)
def NdOwn (W:World) (l:List In3) (a b:Nat):Ending→World→Prop:=fun e w'=>∃ ro rc rows,e=.returned (.slice ro rows.length rc)∧w'.ownsRow W.heap.size 112 5 (.slice ro rows.length rc) rows.length (flatR rows)∧Nds w' l (fun k=>W.heap.size≤k∧k<w'.heap.size) a b rows∧Below W.heap.size W w'
theorem own_lie {w:World}{base:Nat}{e:TypeId}{size:Nat}{ao:Option Addr}{n c:Nat}{xs:List Value} (h:w.ownsRow base e size (.slice ao n c) n xs):Lie (fun k=>base≤k∧k<w.heap.size) ao:=by
 intro ad hd
 subst hd
 exact h.lt ad.block rfl
theorem row_but {w w':World}{row:Option Nat}{ao:Option Addr}{c:Nat}{L:List VN} (h:RowAt w ao c L) (hg:w.grownBy w' row) (hne:∀ ad,ao=some ad→row≠some ad.block):RowAt w' ao c L:=
 ⟨h.1,h.2.1,fun j u hu=>by
  obtain ⟨a,ha,hc⟩:=h.2.2 j u hu
  exact ⟨a,ha,(World.cell?_of_block (w:=w) (hg.block _ (cell_lt hc) (fun e=>hne a ha (by rw [add_block] at e;exact e.symm)))).trans hc⟩⟩
theorem Nds.grow {w w':World}{l:List In3}{row:Option Nat}{base a b:Nat}{r:List VN} (h:Nds w l (fun k=>base≤k∧k<w.heap.size∧row≠some k) a b r) (hg:w.grownBy w' row) {Q:Nat→Prop} (hq:∀ k,base≤k→k<w.heap.size→row≠some k→Q k):Nds w' l Q a b r:=
 h.keep fun _ _ _ h1 h2=>⟨row_but h1 hg fun ad e=>(h2 ad e).2.2,fun ad e=>hq _ (h2 ad e).1 (h2 ad e).2.1 (h2 ad e).2.2⟩
end
section
open Go.RowKit
theorem blk_neU {w:World}{a b:Nat}{xs ys:Array Value}{t u:TypeId} (h:Blk w a xs t) (g:Blk w b ys u) (hn:t≠u):a≠b:=by
 rintro rfl
 unfold Blk at h g
 rw [h] at g
 cases g
 exact hn rfl
theorem ShAt.set {l:List In3}{w:World}{v0 v1 v2 v3:Value} (H:ShAt l w v0 v1 v2 v3) {B:Nat}{xs:Array Value}{t:TypeId} (hB:Blk w B xs t) (ht:3≠t) (j:Nat) (v:Value):ShAt l (w.setCell ⟨B,j,none⟩ v) v0 v1 v2 v3:=by
 obtain ⟨g0,g1,g2,g3,P,E,Q,R,h0,h1,h2,h3,hl,b0,b1,b2,b3,ha⟩:=H
 exact ⟨g0,g1,g2,g3,P,E,Q,R,h0,h1,h2,h3,hl,b0.other (a:=⟨B,j,none⟩) (blk_neU b0 hB ht) v,b1.other (a:=⟨B,j,none⟩) (blk_neU b1 hB ht) v,b2.other (a:=⟨B,j,none⟩) (blk_neU b2 hB ht) v,b3.other (a:=⟨B,j,none⟩) (blk_neU b3 hB ht) v,ha⟩
theorem ShAt.alloc {l:List In3}{w:World}{v0 v1 v2 v3:Value} (H:ShAt l w v0 v1 v2 v3) (o:Obj):ShAt l (w.alloc o) v0 v1 v2 v3:=by
 obtain ⟨g0,g1,g2,g3,P,E,Q,R,h0,h1,h2,h3,hl,b0,b1,b2,b3,ha⟩:=H
 exact ⟨g0,g1,g2,g3,P,E,Q,R,h0,h1,h2,h3,hl,b0.alloc o,b1.alloc o,b2.alloc o,b3.alloc o,ha⟩
def IxPost (l:List In3) (W:World):Ending→World→Prop:=fun e w'=>(∃ v0 v1 v2 v3:Value,∃ n:Int,e=.returned (.tuple #[.agg #[v0,v1,v2,v3,.int .i64 n,.bool true],.int .i64 0])∧ShAt l w' v0 v1 v2 v3)∧Below W.heap.size W w'
theorem code_ok {l:List In3} (h:codeE false l=0):l.length≤120∧l.all (insnV false)=true∧nestV l=true:=by
 unfold codeE at h
 split at h
 ·omega
 ·split at h
  ·split at h
   ·rename_i h1 h2 h3;exact ⟨by omega,h2,h3⟩
   ·omega
  ·omega
theorem indexed_ok (l:List In3) (ao:Option Addr) (cap:Nat) (w:World) (hl:RowAt w ao cap l) (hv:codeE false l=0) (k:Nat) (hk:k<l.length) :
  Calls Tryz.prog 112 #[.slice ao l.length cap,.int .i64 k] w (IxPost l w):=by
 obtain ⟨h1,h2,h3⟩:=code_ok hv
 obtain ⟨B,hB⟩:∃ B,B=w.heap.size:=⟨_,rfl⟩
 have hb0:=(Below.refl w.heap.size w).alloc (Nat.le_refl _) (.cells #[.slice none 0 0,.slice none 0 0,.slice none 0 0,.slice none 0 0,.int .i64 0,.bool false] 137)
 have hX:=Blk.new' (w:=w) #[.slice none 0 0,.slice none 0 0,.slice none 0 0,.slice none 0 0,.int .i64 0,.bool false] 137 hB
 have HC:=Lib.hid (cCheck_any l ao cap false _ (hl.old hb0))
 rw [hv] at HC
 have HS:=Lib.hid (fun w' hb=>shape_full l ao cap w' (hl.old hb) h1)
 have H3:=Lib.hid h3
 have HB:=Lib.hid hB
 have HX:=Lib.hid hX
 have HB0:=Lib.hid hb0
 have hk2:(k:Int) < l.length:=by omega
 clear hl hv h2 h3 hB hX hb0
 go_enter Tryz.func112,Tryz.ntmps112
 go_wp2_with (first
  | (go_at_call 156;refine HC.out.mono ?_;rintro e w1 ⟨rfl,hb1⟩;have HB1:=Lib.hid (bthen HB0.out hb1);have HX1:=Lib.hid (HX.out.old hb1);clear hb1)
  | (go_at_call 157;refine (HS.out _ HB1.out).mono ?_;rintro e w2 ⟨⟨v0,v1,v2,v3,n,rfl,hs⟩,hb2⟩;have HB2:=Lib.hid (bthen HB1.out hb2);have HX2:=Lib.hid (HX1.out.old hb2);obtain ⟨g0,g1,g2,g3,P,E,Q,R,rfl,rfl,rfl,rfl,hr⟩:=hs H3.out;have HS2:RowKit.Hid (ShAt l w2 _ _ _ _):=⟨g0,g1,g2,g3,P,E,Q,R,rfl,rfl,rfl,rfl,hr⟩;rw [H3.out];clear hb2 hs hr;rw [←HB.out];have x0:=HX2.out.cell 0 rfl;have x1:=HX2.out.cell 1 rfl;have x2:=HX2.out.cell 2 rfl;have x3:=HX2.out.cell 3 rfl;have x4:=HX2.out.cell 4 rfl;have x5:=HX2.out.cell 5 rfl;have f0:=HX2.out.frozen 0;have f1:=HX2.out.frozen 1;have f2:=HX2.out.frozen 2;have f3:=HX2.out.frozen 3;have f4:=HX2.out.frozen 4;have f5:=HX2.out.frozen 5))
 have hR:=(((((HX2.out.set 0 (.slice (some ⟨g0,0,none⟩) l.length l.length)).set 1 (.slice (some ⟨g1,0,none⟩) l.length l.length)).set 2 (.slice (some ⟨g2,0,none⟩) l.length l.length)).set 3 (.slice (some ⟨g3,0,none⟩) l.length l.length)).set 4 (.int .i64 n)).set 5 (.bool true)
 have y0:=hR.cell 0 rfl
 have y1:=hR.cell 1 rfl
 have y2:=hR.cell 2 rfl
 have y3:=hR.cell 3 rfl
 have y4:=hR.cell 4 rfl
 have y5:=hR.cell 5 rfl
 refine bodyPost_ret (v:=.tuple #[.agg #[.slice (some ⟨g0,0,none⟩) l.length l.length,.slice (some ⟨g1,0,none⟩) l.length l.length,.slice (some ⟨g2,0,none⟩) l.length l.length,.slice (some ⟨g3,0,none⟩) l.length l.length,.int .i64 n,.bool true],.int .i64 0]) (by simp [results,Tryz.results112,go_sem,y0,y1,y2,y3,y4,y5]) rfl ⟨⟨_,_,_,_,_,rfl,?_⟩,?_⟩
 ·exact (((((HS2.out.set HX2.out (by decide) 0 _).set (HX2.out.set 0 _) (by decide) 1 _).set ((HX2.out.set 0 _).set 1 _) (by decide) 2 _).set (((HX2.out.set 0 _).set 1 _).set 2 _) (by decide) 3 _).set ((((HX2.out.set 0 _).set 1 _).set 2 _).set 3 _) (by decide) 4 _).set (((((HX2.out.set 0 _).set 1 _).set 2 _).set 3 _).set 4 _) (by decide) 5 _
 ·have:=HB.out
  exact bsetV (bsetV (bsetV (bsetV (bsetV (bsetV HB2.out (by omega) _) (by omega) _) (by omega) _) (by omega) _) (by omega) _) (by omega) _
theorem ShAt.mat {l:List In3}{w:World}{v0 v1 v2 v3:Value} (H:ShAt l w v0 v1 v2 v3) {k en:Nat}{alt:Int} (hm:Mat l k alt en):∃ g0 g1 g2 g3,(v0=.slice (some ⟨g0,0,none⟩) l.length l.length∧v1=.slice (some ⟨g1,0,none⟩) l.length l.length∧v2=.slice (some ⟨g2,0,none⟩) l.length l.length∧v3=.slice (some ⟨g3,0,none⟩) l.length l.length)∧w.cell? ⟨g1,k,none⟩=some (.int .i64 alt)∧w.cell? ⟨g2,k,none⟩=some (.int .i64 en):=by
 obtain ⟨g0,g1,g2,g3,P,E,Q,R,h0,h1,h2,h3,⟨l0,l1,l2,l3⟩,b0,b1,b2,b3,ha⟩:=H
 obtain ⟨n,hn,hm2⟩:=arr_done ha hm.1 hm.2.1
 obtain ⟨e1,e2⟩:=mat_one hm hm2
 have hk:=hm.1
 refine ⟨g0,g1,g2,g3,⟨h0,h1,h2,h3⟩,?_,?_⟩
 ·rw [b1.cell k (v:=.int .i64 alt) (by simp [show k<E.length by omega];unfold gx at e1;simpa [show k<E.length by omega] using e1.symm)]
 ·rw [b2.cell k (v:=.int .i64 en) (by simp [show k<Q.length by omega];unfold gx at hn;simp [show k<Q.length by omega] at hn;omega)]
theorem match_ok (l:List In3) (ao:Option Addr) (cap:Nat) (w:World) (hl:RowAt w ao cap l) (hv:codeE false l=0) {k en:Nat}{alt:Int} (hm:Mat l k alt en) :
  Calls Tryz.prog 79 #[.slice ao l.length cap,.int .i64 k] w (Ret w (.tuple #[.int .i64 alt,.int .i64 en,.int .i64 0])):=by
 have hk:=hm.1
 have hk2:(k:Int) < l.length:=by omega
 have HI:=Lib.hid (indexed_ok l ao cap w hl hv k hk)
 have HOp:=Lib.hid (show opensV (l.getD k default).op=true from hm.2.1)
 have HM:=Lib.hid hm
 have HL:=Lib.hid (fun w' hb=>row_in (RowAt.old hl (w':=w') hb) hk)
 clear hl hv hm
 obtain ⟨op,hop⟩:∃ o,o=(l.getD k default).op:=⟨_,rfl⟩
 rw [←hop] at HOp HL
 have HOq:=Lib.hid hop
 clear hop
 go_enter Tryz.func79,Tryz.ntmps79
 go_wp2_with (first
  | (go_at_call 112;refine HI.out.mono ?_;rintro e w1 ⟨⟨v0,v1,v2,v3,n,rfl,hs⟩,hb1⟩;have HB1:=Lib.hid hb1;obtain ⟨g0,g1,g2,g3,⟨rfl,rfl,rfl,rfl⟩,c1,c2⟩:=hs.mat HM.out;obtain ⟨ad,rfl,o0,-,-⟩:=HL.out _ hb1;have hl1:=cell_lt c1;have hl2:=cell_lt c2;dsimp only at hl1 hl2;have hl3:=cell_lt o0;clear hb1 hs)
  | (go_at_call 78;refine (opens_any _ _).mono ?_;rintro e w2 ⟨rfl,rfl⟩;rw [HOp.out]))
 go_quiet (fail)
 go_wp2
 go_ret3
 exact ret_ok rfl (by have:=HB1.out;exact bE)
end
section
open Go.RowKit
theorem wpList_append_slat {P:Program}{w:World}{ops:Array Oper}{rest:List Oper}{o:Oper}{a:Act}{Q:Exit→Act→World→Prop} (hgd:o.guard=none) (s x:Operand) (t:TypeId)
  (ho:o.op=.call { callee:=.builtin .append,args:=#[s,x],argTypes:=#[t,t] })
  (base:Nat) (e:TypeId) (size bytes:Nat) (hel:El P t e size bytes)
  (v:Value) (n:Nat) (xs:List Value) (hs:a.eval s=v) (hown:w.ownsRow base e size v n xs)
  (ad:Addr) (m c:Nat) (news:List Value) (hx:a.eval x=.slice (some ad) m c) (hsl:SlA w size (some ad) m c news) (h1:∀ u∈news,u.oneCell'=true)
  (hbytes:(n+m)*bytes≤140737488355328) (h63:n+m≤maxLen) (hbase:base≤w.heap.size) (hm:0<m)
  (h:∀ ao' cap' w',w'.ownsRow base e size (.slice ao' (n+m) cap') (n+m) (xs++news)→w.grownBy w' v.ownBlock→((Value.slice ao' (n+m) cap').ownBlock=v.ownBlock∨(Value.slice ao' (n+m) cap').ownBlock=some w.heap.size)→wpList P ops Q rest (a.put o.dst (.slice ao' (n+m) cap')) w'):wpList P ops Q (o :: rest) a w:=by
 obtain ⟨i,z,hi,hz,hsize,hby,hzs⟩:=hel.info
 refine wpList_append_own_at _ hgd s x t ho base e i z size bytes hel.und hi hz hsize hby hzs hel.pos v n xs hs hown ad m c news hx hsl.1 (fun j u hu=>?_) h1 h63 hbytes hbase ?_
 ·obtain ⟨a',ha',hc⟩:=hsl.2.2 j u hu
  obtain rfl:=Option.some.inj ha'
  exact hc
 ·intro v' w' hown' hg _ hat
  rcases hown'.2 with ⟨rfl,hnm⟩|⟨g,c,cur,rfl,hr⟩
  ·omega
  ·exact h _ c w' hown' hg hat
theorem elNd:El Tryz.prog 67 112 5 72:=El.mk' (z:=.agg #[.int .i64 0,.int .i64 0,.int .i64 0,.slice none 0 0,.slice none 0 0]) Tryz.underlying67 (by kernel_rfl) (by kernel_rfl) (by decide)
theorem seg_cases {l:List In3}{a b:Nat} (h:Seg l a b):a=b∨(a<b∧opensV (l.getD a default).op=false∧(l.getD a default).op≠34∧(l.getD a default).op≠35∧Seg l (a+1) b) ∨
  (∃ en:Nat,Mat l a (-1) en∧a<en∧en<b∧Seg l (a+1) en∧Seg l (en+1) b)∨∃ n en:Nat,Mat l a n en∧a<n∧n<en∧en<b∧Seg l (a+1) n∧Seg l (n+1) en∧Seg l (en+1) b:=by
 cases h with
 | nil _ h=>exact .inl rfl
 | pl _ _ h1 h2 h3 h4 h5=>exact .inr (.inl ⟨(seg_le h5).1,h2,h3,h4,h5⟩)
 | one _ en _ h1 h2 h3=>exact .inr (.inr (.inl ⟨en,h1,mat_lt h1,(seg_le h3).1,h2,h3⟩))
 | two _ n en _ h1 h2 h3 h4=>exact .inr (.inr (.inr ⟨n,en,h1,(seg_le h2).1,(seg_le h3).1,(seg_le h4).1,h2,h3,h4⟩))
theorem sla_built1 (w:World) (xs:Array Value) (t:TypeId) {b n size:Nat}{ys:List Value} (hb:b=w.heap.size) (hx:xs.toList=ys∧ys.length=n*size):SlA (w.alloc (.cells xs t)) size (some ⟨b,0,none⟩) n n ys:=by
 subst hb
 obtain ⟨rfl,h⟩:=hx
 exact sla_builtV w xs t (by simpa using h)
structure NdSt (W w:World) (l:List In3) (a k:Nat) (ro:Option Addr) (rc:Nat) (rows:List VN):Prop where
 own:w.ownsRow W.heap.size 112 5 (.slice ro rows.length rc) rows.length (flatR rows)
 nds:Nds w l (fun q=>W.heap.size≤q∧q<w.heap.size∧(Value.slice ro rows.length rc).ownBlock≠some q) a k rows
 low:Below W.heap.size W w
theorem NdSt.old {W w w':World}{l:List In3}{a k:Nat}{ro:Option Addr}{rc:Nat}{rows:List VN} (H:NdSt W w l a k ro rc rows) (hb:Below w.heap.size w w'):NdSt W w' l a k ro rc rows:=
 ⟨own_eqV H.own fun k hk=>hb.block k (H.own.lt k hk).2,(H.nds.old hb).weak fun q hq=>⟨hq.1,Nat.lt_of_lt_of_le hq.2.1 hb.size,hq.2.2⟩,bthen H.low hb⟩
theorem NdSt.push {W w w2:World}{l:List In3}{a k k':Nat}{ro ao:Option Addr}{rc cap:Nat}{rows:List VN} (H:NdSt W w l a k ro rc rows) (x:VN)
  (hx:Nds w l (fun q=>W.heap.size≤q∧q<w.heap.size∧(Value.slice ro rows.length rc).ownBlock≠some q) a k' (rows++[x]))
  (hown:w2.ownsRow W.heap.size 112 5 (.slice ao (rows.length+1) cap) (rows.length+1) (flatR rows++flatR [x])) (hg:w.grownBy w2 (Value.slice ro rows.length rc).ownBlock)
  (hat:(Value.slice ao (rows.length+1) cap).ownBlock=(Value.slice ro rows.length rc).ownBlock∨(Value.slice ao (rows.length+1) cap).ownBlock=some w.heap.size):NdSt W w2 l a k' ao cap (rows++[x]):=by
 have hlen:(rows++[x]).length=rows.length+1:=by simp
 refine ⟨by rw [hlen,flatR_append];exact hown,hx.grow hg fun q h1 h2 h3=>⟨h1,Nat.lt_of_lt_of_le h2 hg.size,?_⟩,bgrown H.low hg fun q hq=>(H.own.lt q hq).1⟩
 rw [hlen]
 rcases hat with e|e
 ·rw [e];exact h3
 ·rw [e];intro q;cases q;omega
theorem row_upd {w w':World}{K B:Nat}{ao:Option Addr}{c:Nat}{L:List VN} (h:RowAt w ao c L) (hu:Upd K B w w') (hne:∀ ad,ao=some ad→ad.block≠K∧ad.block≠B):RowAt w' ao c L:=
 ⟨h.1,h.2.1,fun j u hu'=>by
  obtain ⟨a,ha,hc⟩:=h.2.2 j u hu'
  exact ⟨a,ha,(World.cell?_of_block (w:=w) (hu.block _ (cell_lt hc) (by rw [add_block];exact (hne a ha).1) (by rw [add_block];exact (hne a ha).2))).trans hc⟩⟩
theorem nd_part {W w w3 w4 w6:World}{l:List In3}{a k x y B:Nat}{ro fo:Option Addr}{rc fc:Nat}{rows F:List VN} (H:NdSt W w l a k ro rc rows) (hz:w.heap.size≤w3.heap.size) (hB:B<w3.heap.size)
  (hF:w4.ownsRow w3.heap.size 112 5 (.slice fo F.length fc) F.length (flatR F)∧Nds w4 l (fun q=>w3.heap.size≤q∧q<w4.heap.size) x y F) (hu:Upd B B w4 w6) :
  RowAt w6 fo fc F∧Lie (fun q=>W.heap.size≤q∧q<w6.heap.size∧(Value.slice ro rows.length rc).ownBlock≠some q) fo∧Nds w6 l (fun q=>W.heap.size≤q∧q<w6.heap.size∧(Value.slice ro rows.length rc).ownBlock≠some q) x y F:=by
 have hW:=H.low.size
 have hP:∀ q,w3.heap.size≤q∧q<w4.heap.size→W.heap.size≤q∧q<w6.heap.size∧(Value.slice ro rows.length rc).ownBlock≠some q:=fun q hq=>⟨by omega,Nat.lt_of_lt_of_le hq.2 hu.size,fun e=>by have:=(H.own.lt q e).2;omega⟩
 have hl:=own_lie hF.1
 have hr:∀ (ao:Option Addr) (c:Nat) (L:List VN),RowAt w4 ao c L→Lie (fun q=>w3.heap.size≤q∧q<w4.heap.size) ao→RowAt w6 ao c L∧Lie (fun q=>W.heap.size≤q∧q<w6.heap.size∧(Value.slice ro rows.length rc).ownBlock≠some q) ao:=
  fun ao c L h1 h2=>⟨row_upd h1 hu fun ad e=>by have:=(h2 ad e).1;omega,fun ad e=>hP _ (h2 ad e)⟩
 exact ⟨(hr _ _ _ (RowAt.of_own hF.1) hl).1,(hr _ _ _ (RowAt.of_own hF.1) hl).2,hF.2.keep hr⟩
theorem bparts_of (l:List In3) (ao:Option Addr) (cap a b:Nat) (w:World) (hl:RowAt w ao cap l) (hv:codeE false l=0) (hs:Seg l a b)
  (ih:∀ a' b' w',Seg l a' b'→a<a'→b' < b→Below w.heap.size w w'→Calls Tryz.prog 44 #[.slice ao l.length cap,.int .i64 a',.int .i64 b'] w' (NdOwn w' l a' b')) :
  Calls Tryz.prog 44 #[.slice ao l.length cap,.int .i64 a,.int .i64 b] w (NdOwn w l a b):=by
 have hlen:=(code_ok hv).1
 have hsl:=seg_le hs
 have HL:=Lib.hid (fun k (hk:k<l.length) w' hb=>row_in (RowAt.old hl (w':=w') hb) hk)
 have HMt:=Lib.hid (fun w' hb k en alt hm=>match_ok l ao cap w' (RowAt.old hl (w':=w') hb) hv (k:=k) (en:=en) (alt:=alt) hm)
 have HS0:=Lib.hid hs
 have HI:=Lib.hid ih
 clear hl hv hs ih
 go_enter Tryz.func44,Tryz.ntmps44
 go_wp2
 go_loopw [7,8] (fun o i wr=>∃ (k:Nat) (ro:Option Addr) (rc:Nat) (rows:List VN),i=.int .i64 k∧o=.slice ro rows.length rc∧a≤k∧k≤b∧rows.length≤k∧Hid (Seg l k b)∧Hid (NdSt w wr l a k ro rc rows)) (fun _ i _=>b-(intOf i).toNat)
 case atStart=>exact ⟨a,none,0,[],rfl,rfl,Nat.le_refl _,hsl.1,Nat.zero_le _,HS0,⟨World.ownsRow_nil _ _ _ _,.nil _ (by omega),Below.refl _ _⟩⟩
 case round=>
  obtain ⟨k,ro,rc,rows,rfl,rfl,hak,hkb,hrk,HS,HN⟩:=hrel
  rcases seg_cases HS.out with hq|⟨hkb2,hop,h34,h35,hs2⟩|⟨en,hm,hken,henb,hs2,hs3⟩|⟨n,en,hm,hkn,hnen,henb,hs2,hs3,hs4⟩
  ·have hq2:¬ (k:Int) < b:=by omega
   clear HI HMt HL
   go_wp2
   go_ret
   obtain rfl:b=k:=hq.symm
   exact ⟨ro,rc,rows,rfl,HN.out.own,HN.out.nds.weak fun _ h=>⟨h.1,h.2.1⟩,HN.out.low⟩
  ·have hkl:k<l.length:=by omega
   have hkb3:(k:Int) < b:=by omega
   have hkl2:(k:Int) < l.length:=by omega
   have hwr:IntKind.i64.wrap ((k:Int)+1)=k+1:=IntWalk.i64_in _ (by omega)
   have HW:=Lib.hid hwr
   have HP:=Lib.hid (And.intro hop (And.intro h34 (And.intro h35 hs2)))
   obtain ⟨ad,rfl,o0,-,-⟩:=HL.out k hkl wr HN.out.low
   obtain ⟨op,hop2⟩:∃ o,o=(l.getD k default).op:=⟨_,rfl⟩
   rw [←hop2] at o0
   have HO:=Lib.hid (show opensV op=false by rw [hop2];exact hop)
   have hl0:=cell_lt o0
   have HNd:=Lib.hid (Blk.new wr #[.int .i64 k,.int .i64 (-1),.int .i64 (-1),.slice none 0 0,.slice none 0 0] 112)
   have HB1:=Lib.hid (show Below wr.heap.size wr ((wr.alloc (.cells #[.int .i64 k,.int .i64 (-1),.int .i64 (-1),.slice none 0 0,.slice none 0 0] 112)).alloc (.cells #[.int .i64 k,.int .i64 (-1),.int .i64 (-1),.slice none 0 0,.slice none 0 0] 112)) by exact bE)
   clear hwr hop h34 h35 hs2 hop2 HI HMt
   go_wp2_with (first
    | (go_at_call 78;refine (opens_any _ _).mono ?_;rintro e w2 ⟨rfl,rfl⟩;rw [HO.out])
    | (at_builtin;refine wpList_append_slat rfl (.tmp 60) (.tmp 62) 67 rfl w.heap.size 112 5 72 elNd (.slice ro rows.length rc) rows.length (flatR rows) rfl (HN.out.old HB1.out).own ⟨wr.heap.size+1,0,none⟩ 1 1 (flatR [(⟨k,-1,-1,none,0,0,none,0,0⟩:VN)]) rfl (sla_built1 _ _ _ (by simp) ⟨rfl,rfl⟩) (flatR_oneC _) (by omega) (by unfold maxLen;omega) (by have:=HN.out.low.size;simp;omega) (by decide) ?_;intro ao' cap' w2 hown2 hg2 hat2))
   go_roundw
   case rel=>
    refine ⟨k+1,ao',cap',rows++[⟨k,-1,-1,none,0,0,none,0,0⟩],rfl,by simp,by omega,by omega,by simp;omega,HP.out.2.2.2,?_⟩
    exact (HN.out.old HB1.out).push _ ((HN.out.old HB1.out).nds.snoc_pl hkl HP.out.1 HP.out.2.1 HP.out.2.2.1) hown2 hg2 hat2
   case measure=>simp [intOf];omega
  ·have hkl:=hm.1
   have hkb3:(k:Int) < b:=by omega
   have hkl2:(k:Int) < l.length:=by omega
   have hwr:IntKind.i64.wrap ((k:Int)+1)=((k+1:Nat):Int):=IntWalk.i64_in _ (by omega)
   have hwe:IntKind.i64.wrap ((en:Int)+1)=((en+1:Nat):Int):=IntWalk.i64_in _ (by omega)
   have HW:=Lib.hid (And.intro hwr hwe)
   have HMm:=Lib.hid hm
   have HSs:=Lib.hid (And.intro hs2 hs3)
   obtain ⟨ad,rfl,o0,-,-⟩:=HL.out k hkl wr HN.out.low
   obtain ⟨op,hop2⟩:∃ o,o=(l.getD k default).op:=⟨_,rfl⟩
   rw [←hop2] at o0
   have HO:=Lib.hid (show opensV op=true by rw [hop2];exact hm.2.1)
   have hl0:=cell_lt o0
   obtain ⟨B,hB⟩:∃ B,B=wr.heap.size:=⟨_,rfl⟩
   have HBB:=Lib.hid hB
   have HX0:=Lib.hid (Blk.new' (w:=wr) #[.int .i64 k,.int .i64 (-1),.int .i64 (-1),.slice none 0 0,.slice none 0 0] 112 hB)
   have HB0:=Lib.hid (show Below wr.heap.size wr (wr.alloc (.cells #[.int .i64 k,.int .i64 (-1),.int .i64 (-1),.slice none 0 0,.slice none 0 0] 112)) by exact bE)
   have HC:=Lib.hid (HMt.out _ (bthen HN.out.low HB0.out) k en (-1) hm)
   clear hwr hwe hm hs2 hs3 hop2 hB
   go_upto_region 8 with (first
    | (go_at_call 78;refine (opens_any _ _).mono ?_;rintro e w2 ⟨rfl,rfl⟩;rw [HO.out])
    | (go_at_call 79;refine HC.out.mono ?_;rintro e w2 ⟨rfl,hb2⟩;have HB2:=Lib.hid (bthen HB0.out hb2);have HX2:=Lib.hid (HX0.out.old hb2);clear hb2;rw [←HBB.out];have x1:=HX2.out.cell 1 (v:=.int .i64 (-1)) rfl;have x2:=HX2.out.cell 2 (v:=.int .i64 (-1)) rfl;have f1:=HX2.out.frozen 1;have f2:=HX2.out.frozen 2))
   obtain ⟨w3,hw3⟩:∃ w3,w3=(w2.setCell ⟨B,1,none⟩ (.int .i64 (-1))).setCell ⟨B,2,none⟩ (.int .i64 en):=⟨_,rfl⟩
   have HX3:=Lib.hid (show Blk w3 B #[.int .i64 k,.int .i64 (-1),.int .i64 en,.slice none 0 0,.slice none 0 0] 112 by rw [hw3];exact (HX2.out.set 1 _).set 2 _)
   have HB3:=Lib.hid (show Below wr.heap.size wr w3 by rw [hw3];have:=HBB.out;exact bsetV (bsetV HB2.out (by omega) _) (by omega) _)
   rw [←hw3]
   clear x1 x2 f1 f2 hw3
   have y1:=HX3.out.cell 1 (v:=.int .i64 (-1)) rfl
   have y2:=HX3.out.cell 2 (v:=.int .i64 en) rfl
   have hwr:=HW.out.1
   go_upto_region 11 with (first
    | (go_at_call 44;refine (HI.out (k+1) en _ HSs.out.1 (by omega) henb (bthen HN.out.low HB3.out)).mono ?_;rintro e w4 ⟨fo,fc,F,rfl,hown4,hnd4,hb4⟩;have HF4:=Lib.hid (And.intro hown4 hnd4);have HB4:=Lib.hid (bthen HB3.out hb4);have HX4:=Lib.hid (HX3.out.old hb4);have HZ:=Lib.hid HB3.out.size;clear hown4 hnd4 hb4 y1 y2;have y3:=HX4.out.cell 3 (v:=.slice none 0 0) rfl;have f3:=HX4.out.frozen 3))
   obtain ⟨w5,hw5⟩:∃ w5,w5=w4.setCell ⟨B,3,none⟩ (.slice fo F.length fc):=⟨_,rfl⟩
   have HX5:=Lib.hid (show Blk w5 B #[.int .i64 k,.int .i64 (-1),.int .i64 en,.slice fo F.length fc,.slice none 0 0] 112 by rw [hw5];exact HX4.out.set 3 _)
   have HU5:=Lib.hid (show Upd B B w4 w5 by rw [hw5];exact (Upd.refl B B w4).set 3 _)
   have HB5:=Lib.hid (show Below wr.heap.size wr w5 by rw [hw5];have:=HBB.out;exact bsetV HB4.out (by omega) _)
   rw [←hw5]
   clear y3 f3 hw5 hwr
   have y0:=HX5.out.cell 0 (v:=.int .i64 k) rfl
   have y1:=HX5.out.cell 1 (v:=.int .i64 (-1)) rfl
   have y2:=HX5.out.cell 2 (v:=.int .i64 en) rfl
   have y3:=HX5.out.cell 3 (v:=.slice fo F.length fc) rfl
   have y4:=HX5.out.cell 4 (v:=.slice none 0 0) rfl
   have HB6:=Lib.hid (show Below wr.heap.size wr (w5.alloc (.cells #[.int .i64 k,.int .i64 (-1),.int .i64 en,.slice fo F.length fc,.slice none 0 0] 112)) by have:=HB5.out;exact bE)
   have HN6:=Lib.hid (HN.out.old HB6.out)
   have hwr:=HW.out.2
   go_wp2_with (at_builtin;refine wpList_append_slat rfl (.tmp 60) (.tmp 62) 67 rfl w.heap.size 112 5 72 elNd (.slice ro rows.length rc) rows.length (flatR rows) rfl HN6.out.own ⟨w5.heap.size,0,none⟩ 1 1 (flatR [(⟨k,-1,en,fo,F.length,fc,none,0,0⟩:VN)]) rfl (sla_built1 _ _ _ (by simp) ⟨rfl,rfl⟩) (flatR_oneC _) (by omega) (by unfold maxLen;omega) (by have:=HN6.out.low.size;simp at this ⊢;omega) (by decide) ?_;intro ao' cap' w7 hown7 hg7 hat7)
   go_roundw
   case rel=>
    refine ⟨en+1,ao',cap',rows++[⟨k,-1,en,fo,F.length,fc,none,0,0⟩],rfl,by simp,by omega,by omega,by simp;omega,HSs.out.2,?_⟩
    have hz:=HZ.out
    have hp:=nd_part (w6:=w5.alloc (.cells #[.int .i64 k,.int .i64 (-1),.int .i64 en,.slice fo F.length fc,.slice none 0 0] 112)) HN.out hz HX3.out.lt HF4.out (HU5.out.alloc _)
    exact HN6.out.push _ (HN6.out.nds.snoc_one HMm.out hp.1 hp.2.1 hp.2.2) hown7 hg7 hat7
   case measure=>simp [intOf];omega
  ·have hkl:=hm.1
   have hkb3:(k:Int) < b:=by omega
   have hkl2:(k:Int) < l.length:=by omega
   have hwr:IntKind.i64.wrap ((k:Int)+1)=((k+1:Nat):Int):=IntWalk.i64_in _ (by omega)
   have hwe:IntKind.i64.wrap ((en:Int)+1)=((en+1:Nat):Int):=IntWalk.i64_in _ (by omega)
   have hwn:IntKind.i64.wrap ((n:Int)+1)=((n+1:Nat):Int):=IntWalk.i64_in _ (by omega)
   have HW:=Lib.hid (And.intro hwr (And.intro hwe hwn))
   have HMm:=Lib.hid hm
   have HSs:=Lib.hid (And.intro hs2 (And.intro hs3 hs4))
   obtain ⟨ad,rfl,o0,-,-⟩:=HL.out k hkl wr HN.out.low
   obtain ⟨op,hop2⟩:∃ o,o=(l.getD k default).op:=⟨_,rfl⟩
   rw [←hop2] at o0
   have HO:=Lib.hid (show opensV op=true by rw [hop2];exact hm.2.1)
   have hl0:=cell_lt o0
   obtain ⟨B,hB⟩:∃ B,B=wr.heap.size:=⟨_,rfl⟩
   have HBB:=Lib.hid hB
   have HX0:=Lib.hid (Blk.new' (w:=wr) #[.int .i64 k,.int .i64 (-1),.int .i64 (-1),.slice none 0 0,.slice none 0 0] 112 hB)
   have HB0:=Lib.hid (show Below wr.heap.size wr (wr.alloc (.cells #[.int .i64 k,.int .i64 (-1),.int .i64 (-1),.slice none 0 0,.slice none 0 0] 112)) by exact bE)
   have HC:=Lib.hid (HMt.out _ (bthen HN.out.low HB0.out) k en n hm)
   clear hwr hwe hwn hm hs2 hs3 hs4 hop2 hB
   go_upto_region 8 with (first
    | (go_at_call 78;refine (opens_any _ _).mono ?_;rintro e w2 ⟨rfl,rfl⟩;rw [HO.out])
    | (go_at_call 79;refine HC.out.mono ?_;rintro e w2 ⟨rfl,hb2⟩;have HB2:=Lib.hid (bthen HB0.out hb2);have HX2:=Lib.hid (HX0.out.old hb2);clear hb2;rw [←HBB.out];have x1:=HX2.out.cell 1 (v:=.int .i64 (-1)) rfl;have x2:=HX2.out.cell 2 (v:=.int .i64 (-1)) rfl;have f1:=HX2.out.frozen 1;have f2:=HX2.out.frozen 2))
   obtain ⟨w3,hw3⟩:∃ w3,w3=(w2.setCell ⟨B,1,none⟩ (.int .i64 n)).setCell ⟨B,2,none⟩ (.int .i64 en):=⟨_,rfl⟩
   have HX3:=Lib.hid (show Blk w3 B #[.int .i64 k,.int .i64 n,.int .i64 en,.slice none 0 0,.slice none 0 0] 112 by rw [hw3];exact (HX2.out.set 1 _).set 2 _)
   have HB3:=Lib.hid (show Below wr.heap.size wr w3 by rw [hw3];have:=HBB.out;exact bsetV (bsetV HB2.out (by omega) _) (by omega) _)
   rw [←hw3]
   clear x1 x2 f1 f2 hw3
   have y1:=HX3.out.cell 1 (v:=.int .i64 n) rfl
   have y2:=HX3.out.cell 2 (v:=.int .i64 en) rfl
   have hwr:=HW.out.1
   have hwn:=HW.out.2.2
   have hn0:¬ (n:Int) < 0:=by omega
   go_upto_region 10 with fail
   refine rO (Cs [(⟨B,1,none⟩,.int .i64 n),(⟨B,2,none⟩,.int .i64 en)]) (oL [0,1,2,3,4,6,7,8,9,10,11,105,13,112,114,15,116]) ⟨y1,y2,trivial⟩ ?_
   repeat refine pO ?_
   refine oO fun Kv hK=>?_
   go_simp
   refine (HI.out (k+1) n _ HSs.out.1 (by omega) (by omega) (bthen HN.out.low HB3.out.drew)).mono ?_
   rintro e w4 ⟨fo,fc,F,rfl,hown4,hnd4,hb4⟩
   have HF4:=Lib.hid (And.intro hown4 hnd4)
   have HB4:=Lib.hid (bthen HB3.out.drew hb4)
   have HX4:=Lib.hid (HX3.out.old (bthen (Below.refl _ _).drew hb4))
   refine hK _ _ ⟨⟨HX4.out.cell 1 rfl,HX4.out.cell 2 rfl,trivial⟩,?_⟩
   clear hK Kv hown4 hnd4 hb4 y1 y2
   repeat refine pO ?_
   refine oO fun Kv hK=>?_
   go_simp
   refine (HI.out (n+1) en _ HSs.out.2.1 (by omega) henb (bthen HN.out.low HB4.out)).mono ?_
   rintro e w5 ⟨so,sc,S,rfl,hown5,hnd5,hb5⟩
   have HF5:=Lib.hid (And.intro hown5 hnd5)
   have HB45:=Lib.hid hb5
   have HB5:=Lib.hid (bthen HB4.out hb5)
   have HX5:=Lib.hid (HX4.out.old hb5)
   refine hK _ _ ⟨⟨HX5.out.cell 1 rfl,HX5.out.cell 2 rfl,trivial⟩,?_⟩
   clear hK Kv hown5 hnd5 hb5
   have y3:=HX5.out.cell 3 (v:=.slice none 0 0) rfl
   have f3:=HX5.out.frozen 3
   refine oO fun Kv hK=>?_
   go_simp
   obtain ⟨w6,hw6⟩:∃ w6,w6=w5.setCell ⟨B,3,none⟩ (.slice fo F.length fc):=⟨_,rfl⟩
   have HX6:=Lib.hid (show Blk w6 B #[.int .i64 k,.int .i64 n,.int .i64 en,.slice fo F.length fc,.slice none 0 0] 112 by rw [hw6];exact HX5.out.set 3 _)
   have HU6:=Lib.hid (show Upd B B w5 w6 by rw [hw6];exact (Upd.refl B B w5).set 3 _)
   have HB6:=Lib.hid (show Below wr.heap.size wr w6 by rw [hw6];have:=HBB.out;exact bsetV HB5.out (by omega) _)
   rw [←hw6]
   refine hK _ _ ⟨⟨HX6.out.cell 1 rfl,HX6.out.cell 2 rfl,trivial⟩,?_⟩
   clear hK Kv y3 f3 hw6
   repeat refine pO ?_
   have y4:=HX6.out.cell 4 (v:=.slice none 0 0) rfl
   have f4:=HX6.out.frozen 4
   refine oO fun Kv hK=>?_
   go_simp
   obtain ⟨w7,hw7⟩:∃ w7,w7=w6.setCell ⟨B,4,none⟩ (.slice so S.length sc):=⟨_,rfl⟩
   have HX7:=Lib.hid (show Blk w7 B #[.int .i64 k,.int .i64 n,.int .i64 en,.slice fo F.length fc,.slice so S.length sc] 112 by rw [hw7];exact HX6.out.set 4 _)
   have HU7:=Lib.hid (show Upd B B w5 w7 by rw [hw7];exact HU6.out.set 4 _)
   have HB7:=Lib.hid (show Below wr.heap.size wr w7 by rw [hw7];have:=HBB.out;exact bsetV HB6.out (by omega) _)
   rw [←hw7]
   refine hK _ _ ⟨⟨HX7.out.cell 1 rfl,HX7.out.cell 2 rfl,trivial⟩,?_⟩
   clear hK Kv y4 f4 hw7 hwr hwn
   refine wpMixO_done ?_
   have y0:=HX7.out.cell 0 (v:=.int .i64 k) rfl
   have y1:=HX7.out.cell 1 (v:=.int .i64 n) rfl
   have y2:=HX7.out.cell 2 (v:=.int .i64 en) rfl
   have y3:=HX7.out.cell 3 (v:=.slice fo F.length fc) rfl
   have y4:=HX7.out.cell 4 (v:=.slice so S.length sc) rfl
   have HB8:=Lib.hid (show Below wr.heap.size wr (w7.alloc (.cells #[.int .i64 k,.int .i64 n,.int .i64 en,.slice fo F.length fc,.slice so S.length sc] 112)) by have:=HB7.out;exact bE)
   have HN8:=Lib.hid (HN.out.old HB8.out)
   have hwr:=HW.out.2.1
   go_wp2_with (at_builtin;refine wpList_append_slat rfl (.tmp 60) (.tmp 62) 67 rfl w.heap.size 112 5 72 elNd (.slice ro rows.length rc) rows.length (flatR rows) rfl HN8.out.own ⟨w7.heap.size,0,none⟩ 1 1 (flatR [(⟨k,n,en,fo,F.length,fc,so,S.length,sc⟩:VN)]) rfl (sla_built1 _ _ _ (by simp) ⟨rfl,rfl⟩) (flatR_oneC _) (by omega) (by unfold maxLen;omega) (by have:=HN8.out.low.size;simp at this ⊢;omega) (by decide) ?_;intro ao' cap' w9 hown9 hg9 hat9)
   go_roundw
   case rel=>
    refine ⟨en+1,ao',cap',rows++[⟨k,n,en,fo,F.length,fc,so,S.length,sc⟩],rfl,by simp,by omega,by omega,by simp;omega,HSs.out.2.2,?_⟩
    have h3:=HX3.out.lt
    have h4:=HX4.out.lt
    have hp:=nd_part (w6:=w7.alloc (.cells #[.int .i64 k,.int .i64 n,.int .i64 en,.slice fo F.length fc,.slice so S.length sc] 112)) HN.out HB3.out.size HX3.out.lt HF4.out (((Upd.of HB45.out).trans HU7.out).alloc _)
    have hq:=nd_part (w6:=w7.alloc (.cells #[.int .i64 k,.int .i64 n,.int .i64 en,.slice fo F.length fc,.slice so S.length sc] 112)) HN.out HB4.out.size HX4.out.lt HF5.out (HU7.out.alloc _)
    exact HN8.out.push _ (HN8.out.nds.snoc_two HMm.out hp.1 hp.2.1 hp.2.2 hq.1 hq.2.1 hq.2.2) hown9 hg9 hat9
   case measure=>simp [intOf];omega
theorem bparts_any (l:List In3) (ao:Option Addr) (cap:Nat) (hv:codeE false l=0):∀ (n a b:Nat) (w:World),b-a≤n→RowAt w ao cap l→Seg l a b →
  Calls Tryz.prog 44 #[.slice ao l.length cap,.int .i64 a,.int .i64 b] w (NdOwn w l a b)
 | 0,a,b,w,hn,hl,hs=>bparts_of l ao cap a b w hl hv hs fun a' b' w' h1 h2 h3 h4=>by have:=(seg_le h1).1;omega
 | n+1,a,b,w,hn,hl,hs=>bparts_of l ao cap a b w hl hv hs fun a' b' w' h1 h2 h3 h4=>bparts_any l ao cap hv n a' b' w' (by have:=(seg_le h1).1;omega) (RowAt.old hl h4) h1
end
section
open Go.RowKit
def Keeps (w w':World):Prop:=∀ p v,w.cell? p=some v→w'.cell? p=some v
theorem Keeps.refl (w:World):Keeps w w:=fun _ _ h=>h
theorem Keeps.trans {a b c:World} (h:Keeps a b) (k:Keeps b c):Keeps a c:=fun p v q=>k p v (h p v q)
theorem Keeps.of {a b:World} (h:Below a.heap.size a b):Keeps a b:=fun _ _ hc=>(h.cell (cell_lt hc)).trans hc
theorem row_keeps {α:Type} [Cells α] {w w':World}{ao:Option Addr}{c:Nat}{L:List α} (h:RowAt w ao c L) (hk:Keeps w w'):RowAt w' ao c L:=
 ⟨h.1,h.2.1,fun j u hu=>by obtain ⟨a,ha,hc⟩:=h.2.2 j u hu;exact ⟨a,ha,hk _ _ hc⟩⟩
theorem ModAt.keeps {w w':World}{h:Hd}{m:Md} (H:ModAt w h m) (hk:Keeps w w'):ModAt w' h m:=
 ⟨row_keeps H.cl hk,row_keeps H.st hk,row_keeps H.me hk,fun i hi=>row_keeps (H.f i hi) hk,fun i hi=>row_keeps (H.t i hi) hk,fun i hi=>row_keeps (H.p i hi) hk,fun i hi=>row_keeps (H.l i hi) hk,fun i hi=>row_keeps (H.k i hi) hk,H.bf,H.bm,H.bz⟩
theorem Nds.keeps {w w':World}{l:List In3}{P:Nat→Prop}{a b:Nat}{r:List VN} (h:Nds w l P a b r) (hk:Keeps w w'):Nds w' l P a b r:=h.keep fun _ _ _ h1 h2=>⟨row_keeps h1 hk,h2⟩
theorem Cs.keeps {w w':World} (hk:Keeps w w'):∀ {l:List (Addr × Value)},Cs l w→Cs l w'
 | [],_=>trivial
 | (_,_) :: _,h=>⟨hk _ _ h.1,Cs.keeps hk h.2⟩
def IsMap (w:World) (M:Nat):Prop:=∃ es c,w.heap[M]?=some (.map es c)
theorem Keeps.upd {w w':World}{M:Nat} (hm:IsMap w M) (hu:Upd M M w w'):Keeps w w':=fun p v hc=>by
 obtain ⟨es,c,hm⟩:=hm
 have hne:p.block≠M:=fun e=>by unfold World.cell? at hc;rw [e,hm] at hc;simp at hc
 exact (World.cell?_of_block (w:=w) (hu.block _ (cell_lt hc) hne hne)).trans hc
theorem pigeon:∀ (n:Nat) (l:List Nat),l.Nodup→(∀ k∈l,k<n)→l.length≤n
 | 0,l,_,h=>by
  cases l with
  | nil=>simp
  | cons x r=>have:=h x (by simp);omega
 | n+1,l,hn,h=>by
  have h1:=pigeon n (l.filter fun x=>decide (x≠n)) (hn.filter _) (fun k hk=>by simp at hk;have:=h k hk.1;omega)
  have h2:∀ l:List Nat,l.Nodup→l.length≤(l.filter fun x=>decide (x≠n)).length+1:=by
   intro l
   induction l with
   | nil=>intro _;simp
   | cons x r ih=>
    intro hr
    rw [List.nodup_cons] at hr
    by_cases hx:x=n
    ·have:r.filter (fun x=>decide (x≠n))=r:=List.filter_eq_self.2 fun y hy=>by
      have:y≠n:=fun e=>hr.1 (by rw [hx,←e];exact hy)
      simp [this]
     rw [List.filter_cons_of_neg (by simp [hx]),this];simp
    ·have:=ih hr.2
     rw [List.filter_cons_of_pos (by simp [hx])];simp only [List.length_cons];omega
  have:=h2 l hn
  omega
def KnM (T:Nat→Int) (w:World) (M:Nat) (Q:Nat→Prop):Prop:=∃ (K:List Nat) (D:DataW Unit),K.Nodup∧(∀ k∈K,k<16∧Q k)∧w.ownsMap Tryz.prog 3 (plainElem Tryz.prog 3) M K.length D∧Maps.IsMap D∧(∀ k:Nat,Maps.has D (.int .i64 k)=decide (k∈K))∧∀ k∈K,D.atKey (.int .i64 k) (.lit (.int .i64 0))=.lit (.int .i64 (T k))
theorem KnM.map {T:Nat→Int}{w:World}{M:Nat}{Q:Nat→Prop} (H:KnM T w M Q):IsMap w M:=by
 obtain ⟨K,D,_,_,⟨es,c,h,_⟩,_⟩:=H
 exact ⟨es,c,h⟩
theorem KnM.eq {T:Nat→Int}{w w':World}{M:Nat}{Q:Nat→Prop} (H:KnM T w M Q) (h:w'.heap[M]?=w.heap[M]?):KnM T w' M Q:=by
 obtain ⟨K,D,h1,h2,⟨es,c,h3,h4⟩,h5⟩:=H
 exact ⟨K,D,h1,h2,⟨es,c,h.trans h3,h4⟩,h5⟩
theorem IsMap.lt {w:World}{M:Nat} (H:IsMap w M):M<w.heap.size:=by
 obtain ⟨es,c,h⟩:=H
 exact (Array.getElem?_eq_some_iff.1 h).1
theorem KnM.old {T:Nat→Int}{w w':World}{M:Nat}{Q:Nat→Prop} (H:KnM T w M Q) (hb:Below w.heap.size w w'):KnM T w' M Q:=H.eq (hb.block M H.map.lt)
theorem KnM.weak {T:Nat→Int}{w:World}{M:Nat}{Q R:Nat→Prop} (H:KnM T w M Q) (h:∀ k,Q k→R k):KnM T w M R:=by
 obtain ⟨K,D,h1,h2,h3⟩:=H
 exact ⟨K,D,h1,fun k hk=>⟨(h2 k hk).1,h k (h2 k hk).2⟩,h3⟩
theorem KnM.put {T:Nat→Int}{w:World}{M k:Nat}{Q:Nat→Prop} (H:KnM T w M Q) (hk:¬ Q k) (h16:k<16):∃ (n:Nat) (D:DataW Unit),w.ownsMap Tryz.prog 3 (plainElem Tryz.prog 3) M n D∧n≤16∧∀ (w':World) (R:Nat→Prop),(∀ j,Q j∨j=k→R j)→w'.ownsMap Tryz.prog 3 (plainElem Tryz.prog 3) M (n+1) (D.put (.int .i64 k) (.lit (.int .i64 (T k))))→KnM T w' M R:=by
 obtain ⟨K,D,h1,h2,h3,h4,h5,h6⟩:=H
 refine ⟨K.length,D,h3,pigeon 16 K h1 fun j hj=>(h2 j hj).1,fun w' R hR hw=>⟨k :: K,_,List.nodup_cons.2 ⟨fun e=>hk (h2 k e).2,h1⟩,fun j hj=>?_,hw,h4.put _ _,fun j=>?_,fun j hj=>?_⟩⟩
 ·rcases List.mem_cons.1 hj with rfl|e
  ·exact ⟨h16,hR _ (.inr rfl)⟩
  ·exact ⟨(h2 j e).1,hR _ (.inl (h2 j e).2)⟩
 ·by_cases e:j=k
  ·subst e;rw [Maps.has_put_same (k:=.int .i64 j) h4 trivial];simp
  ·rw [Maps.has_put_other (by intro q;cases q;omega),h5];simp [e]
 ·by_cases e:j=k
  ·subst e;exact Maps.atKey_put_same (k:=.int .i64 j) h4 trivial _ _
  ·rw [Maps.atKey_put_other (by intro q;cases q;omega)]
   exact h6 j ((List.mem_cons.1 hj).resolve_left e)
theorem map_ne {w:World}{B M:Nat}{xs:Array Value}{t:TypeId} (h:Blk w B xs t) (hm:IsMap w M):B≠M:=by
 rintro rfl
 obtain ⟨es,c,hm⟩:=hm
 unfold Blk at h
 rw [h] at hm
 cases hm
structure WsAt (w:World) (B M:Nat) (h:Hd) (m:Md) (F:Value) (sc:Bool) (T:Nat→Int) (Q:Nat→Prop):Prop where
 wk:Blk w B #[.slice h.co m.cl.length h.cc,.slice h.so m.st.length h.sc,.slice h.eo m.me.length h.ec,.int .i64 m.sel,F,.bool sc,.map (some M)] 103
 md:ModAt w h m
 kn:KnM T w M Q
def WPost (w:World) (M:Nat) (T:Nat→Int) (Q:Nat→Prop) (v:Int):Ending→World→Prop:=fun e w'=>e=.returned (.int .i64 v)∧Upd M M w w'∧KnM T w' M Q
section
variable {w w':World}{B M:Nat}{h:Hd}{m:Md}{F:Value}{sc:Bool}{T:Nat→Int}{Q R:Nat→Prop}
section
variable (H:WsAt w B M h m F sc T Q)
include H
theorem WsAt.keeps (hu:Upd M M w w'):Keeps w w':=Keeps.upd H.kn.map hu
theorem WsAt.next (hu:Upd M M w w') (hn:KnM T w' M R):WsAt w' B M h m F sc T R:=
 ⟨(hu.block B (Blk.lt H.wk) (map_ne H.wk H.kn.map) (map_ne H.wk H.kn.map)).trans H.wk,H.md.keeps (H.keeps hu),hn⟩
theorem WsAt.old (hb:Below w.heap.size w w'):WsAt w' B M h m F sc T Q:=H.next (.of hb) (H.kn.old hb)
theorem WsAt.drew:WsAt w.drew B M h m F sc T Q:=⟨H.wk,H.md.keeps (fun _ _ h=>h),H.kn.eq rfl⟩
end
theorem WPost.bel {W:World}{v:Int}{e:Ending} (H:WPost w M T Q v e w') (hb:Below W.heap.size W w):WPost W M T Q v e w':=⟨H.1,(Upd.of hb).trans H.2.1,H.2.2⟩
end
def Bd (n:Int):Prop:=0≤n∧n≤1000000001
theorem addV_bd {a b:Int} (ha:Bd a) (hb:Bd b):Bd (addV a b):=by unfold Bd addV hugeV at *;omega
theorem mulV_bd {a b:Int} (ha:0≤a) (hb:Bd b):Bd (mulV a b):=by
 have:=Int.mul_nonneg ha hb.1
 unfold Bd mulV hugeV at *
 omega
theorem max_bd {a b:Int} (ha:Bd a) (hb:Bd b):Bd (max a b):=by unfold Bd at *;omega
theorem mostT_bd {T:Int→Int}{l:List Int} (h:∀ t∈l,Bd (T t)):Bd (mostT T l):=by
 unfold mostT
 have:∀ (l:List Int) (a:Int),Bd a→(∀ t∈l,Bd (T t))→Bd (l.foldl (fun a t=>max a (T t)) a):=by
  intro l
  induction l with
  | nil=>intro a ha _;exact ha
  | cons x r ih=>intro a ha h;exact ih _ (max_bd ha (h x (by simp))) fun t ht=>h t (by simp [ht])
 exact this l 0 (by unfold Bd;omega) h
section
variable {x:Ms}{m:Md}{T:Int→Int}{l:List In3} (hw:∀ i∈l,0≤x.wt i∧x.wt i≤1000) (ht:0≤x.tl∧x.tl≤1000) (hT:∀ t,Bd (T t)) (ha:∀ i∈l,i.op≠1→0≤i.a)
include hw ht hT ha
theorem pl_bd:∀ i∈l,Bd ((gW x m T).pl i):=fun i hi=>by
 have h1:=hw i hi
 have hb:Bd (x.wt i):=by unfold Bd;omega
 show Bd (if i.op=25 then _ else if i.op=26 then _ else _)
 split
 ·exact addV_bd hb (hT _)
 ·split
  ·exact addV_bd hb (mostT_bd fun t _=>hT t)
  ·exact hb
theorem brk_bd:∀ i∈l,∀ f s,Bd f→Bd s→Bd ((gW x m T).brk i f s):=fun i hi f s hf hs=>by
 have h1:=hw i hi
 have hb:Bd (x.wt i):=by unfold Bd;omega
 have htl:Bd x.tl:=by unfold Bd;omega
 show Bd (if i.op=29 then _ else if i.op=30 then _ else if i.op=32∧x.sc=true then _ else if i.op=33 then _ else _)
 split
 ·exact addV_bd hb (max_bd (addV_bd hf htl) (addV_bd hs htl))
 ·split
  ·exact addV_bd hb (mulV_bd (ha i hi (by omega)) (addV_bd hf htl))
  ·split
   ·exact hb
   ·split
    ·exact addV_bd hb (addV_bd (addV_bd hf htl) hs)
    ·exact addV_bd hb (addV_bd hf htl)
theorem WA_bd {a b:Nat} (hs:Seg l a b):∀ acc,Bd acc→Bd (WA (gW x m T) l a b acc):=by
 have hm:∀ k,k<l.length→l.getD k default∈l:=fun k hk=>getD_mem _ hk
 have hpl:=pl_bd (m:=m) hw ht hT ha
 have hbr:=brk_bd (m:=m) hw ht hT ha
 have h0:Bd 0:=by unfold Bd;omega
 induction hs with
 | nil a h=>intro acc hacc;rw [WA_nil];exact hacc
 | pl a b q1 q2 q3 q4 q5 ih=>intro acc hacc;rw [WA_pl q2 q5];exact ih _ (addV_bd hacc (hpl _ (hm a q1)))
 | one a en b q1 q2 q3 i1 i2=>intro acc hacc;rw [WA_one q1 q2 q3];exact i2 _ (addV_bd hacc (hbr _ (hm a q1.1) _ _ (i1 _ h0) h0))
 | two a n en b q1 q2 q3 q4 i1 i2 i3=>intro acc hacc;rw [WA_two q1 q2 q3 q4];exact i3 _ (addV_bd hacc (hbr _ (hm a q1.1) _ _ (i1 _ h0) (i2 _ h0)))
end
inductive Item (w:World) (l:List In3) (p:Nat):VN→Nat→Prop
 | pl:p<l.length→opensV (l.getD p default).op=false→Item w l p ⟨p,-1,-1,none,0,0,none,0,0⟩ (p+1)
 | one (en:Nat) (fo:Option Addr) (fc:Nat) (F:List VN):Mat l p (-1) en→RowAt w fo fc F→Nds w l (fun _=>True) (p+1) en F→Item w l p ⟨p,-1,en,fo,F.length,fc,none,0,0⟩ (en+1)
 | two (n en:Nat) (fo so:Option Addr) (fc sc:Nat) (F S:List VN):Mat l p n en→RowAt w fo fc F→Nds w l (fun _=>True) (p+1) n F→RowAt w so sc S→Nds w l (fun _=>True) (n+1) en S→Item w l p ⟨p,n,en,fo,F.length,fc,so,S.length,sc⟩ (en+1)
def itemW (g:Wg) (l:List In3) (p:Nat) (x:VN):Int:=if opensV (l.getD p default).op=true then g.brk (l.getD p default) (WA g l (p+1) (if x.alt<0 then x.en.toNat else x.alt.toNat) 0) (if x.alt<0 then 0 else WA g l (x.alt.toNat+1) x.en.toNat 0) else g.pl (l.getD p default)
theorem nds_cons {w:World}{l:List In3}{p b:Nat}{x:VN}{r:List VN} (H:Nds w l (fun _=>True) p b (x :: r)) (g:Wg):∃ p',Item w l p x p'∧Nds w l (fun _=>True) p' b r∧p<p'∧p'≤b∧∀ acc,WA g l p b acc=WA g l p' b (g.plus acc (itemW g l p x)):=by
 cases H with
 | pl _ _ _ h1 h2 h3 h4 h5=>exact ⟨p+1,.pl h1 h2,h5,by omega,by have:=(h5.le).1;omega,fun acc=>by rw [WA_pl h2 h5.seg];unfold itemW;rw [if_neg (by rw [h2];decide)]⟩
 | one _ en _ fo fc F _ h1 h2 h3 h4 h5=>
  refine ⟨en+1,.one en fo fc F h1 h2 h4,h5,by have:=mat_lt h1;omega,by have:=(h5.le).1;omega,fun acc=>?_⟩
  rw [WA_one h1 h4.seg h5.seg]
  unfold itemW
  rw [if_pos (show opensV (l.getD p default).op=true from h1.2.1)]
  dsimp only
  rw [if_pos (show (-1:Int) < 0 by decide),if_pos (show (-1:Int) < 0 by decide)]
  rfl
 | two _ n en _ fo so fc sc F S _ h1 h2 h3 h4 h5 h6 h7 h8=>
  refine ⟨en+1,.two n en fo so fc sc F S h1 h2 h4 h5 h7,h8,by have:=mat_lt h1;omega,by have:=(h8.le).1;omega,fun acc=>?_⟩
  rw [WA_two h1 h4.seg h7.seg h8.seg]
  unfold itemW
  have hn:¬ (n:Int) < 0:=by omega
  rw [if_pos (show opensV (l.getD p default).op=true from h1.2.1)]
  dsimp only
  rw [if_neg hn,if_neg hn,Int.toNat_natCast,Int.toNat_natCast]
theorem itemW_bd {w:World}{x:Ms}{m:Md}{T:Int→Int}{l:List In3} (hw:∀ i∈l,0≤x.wt i∧x.wt i≤1000) (ht:0≤x.tl∧x.tl≤1000) (hT:∀ t,Bd (T t)) (ha:∀ i∈l,i.op≠1→0≤i.a) {p p':Nat}{y:VN} (H:Item w l p y p'):Bd (itemW (gW x m T) l p y):=by
 have hm:∀ k,k<l.length→l.getD k default∈l:=fun k hk=>getD_mem _ hk
 have h0:Bd 0:=by unfold Bd;omega
 unfold itemW
 cases H with
 | pl h1 h2=>rw [if_neg (by rw [h2];decide)];exact pl_bd hw ht hT ha _ (hm p h1)
 | one en fo fc F h1 h2 h3=>
  rw [if_pos (show opensV (l.getD p default).op=true from h1.2.1)]
  dsimp only
  rw [if_pos (show (-1:Int) < 0 by decide),if_pos (show (-1:Int) < 0 by decide)]
  exact brk_bd hw ht hT ha _ (hm p h1.1) _ _ (WA_bd hw ht hT ha h3.seg _ h0) h0
 | two n en fo so fc sc F S h1 h2 h3 h4 h5=>
  have hn:¬ (n:Int) < 0:=by omega
  rw [if_pos (show opensV (l.getD p default).op=true from h1.2.1)]
  dsimp only
  rw [if_neg hn,if_neg hn]
  exact brk_bd hw ht hT ha _ (hm p h1.1) _ _ (WA_bd hw ht hT ha h3.seg _ h0) (WA_bd hw ht hT ha h5.seg _ h0)
theorem Item.keeps {w w':World}{l:List In3}{p p':Nat}{x:VN} (H:Item w l p x p') (hk:Keeps w w'):Item w' l p x p':=by
 cases H with
 | pl h1 h2=>exact .pl h1 h2
 | one en fo fc F h1 h2 h3=>exact .one en fo fc F h1 (row_keeps h2 hk) (h3.keeps hk)
 | two n en fo so fc sc F S h1 h2 h3 h4 h5=>exact .two n en fo so fc sc F S h1 (row_keeps h2 hk) (h3.keeps hk) (row_keeps h4 hk) (h5.keeps hk)
end
section
open Go.RowKit
theorem row_vn {w:World}{ao:Option Addr}{cap:Nat}{l:List VN} (h:RowAt w ao cap l) {i:Nat} (hi:i<l.length):∃ ad,ao=some ad ∧
  w.cell? (ad.add (i*5))=some (.int .i64 (l.getD i default).at_)∧w.cell? ⟨(ad.add (i*5)).block,(ad.add (i*5)).off+1,none⟩=some (.int .i64 (l.getD i default).alt)∧w.cell? ⟨(ad.add (i*5)).block,(ad.add (i*5)).off+2,none⟩=some (.int .i64 (l.getD i default).en) ∧
  w.cell? ⟨(ad.add (i*5)).block,(ad.add (i*5)).off+3,none⟩=some (.slice (l.getD i default).fo (l.getD i default).fn (l.getD i default).fc)∧w.cell? ⟨(ad.add (i*5)).block,(ad.add (i*5)).off+4,none⟩=some (.slice (l.getD i default).so (l.getD i default).sn (l.getD i default).sc):=by
 obtain ⟨ad,ha⟩:=h.some (by omega)
 subst ha
 have hx:l.getD i default=l[i]:=by simp [hi]
 rw [hx]
 exact ⟨ad,rfl,h.cell hi 0 rfl,h.cell hi 1 rfl,h.cell hi 2 rfl,h.cell hi 3 rfl,h.cell hi 4 rfl⟩
def cdM (m:Md) (k:Nat):List In3:=(m.me.getD k default).k
def gT (x:Ms) (m:Md) (T:Nat→Int):Wg:=gW x m fun t=>T t.toNat
structure Wkr (x:Ms) (m:Md) (T:Nat→Int) (g:Nat) (caps:Array Value) (W0:World):Prop where
 hm:modV m=true
 wt:∀ k,k<m.me.length→∀ i∈(cdM m k),0≤x.wt i∧x.wt i≤1000
 tl:0≤x.tl∧x.tl≤1000
 te:∀ i:In3,i.op=35→x.wt i=x.tl
 bd:∀ k,Bd (T k)
 eq:∀ k,k<m.me.length→T k=WA (gT x m T) (cdM m k) 0 (cdM m k).length 0
 cf:∀ A W,(callFunc g (A++caps)).run Tryz.prog W=.ok (.enter g (A++caps)) W
 fn:∀ k,k<m.me.length→∀ i∈(cdM m k),∀ w',Keeps W0 w'→Calls Tryz.prog g (#[.agg #[.int .i64 i.op,.int .i64 i.a,.int .i64 i.b]]++caps) w' (Ret w' (.int .i64 (x.wt i)))
def MethC (x:Ms) (B M:Nat) (h:Hd) (m:Md) (T:Nat→Int) (g:Nat) (caps:Array Value) (W0:World) (k:Nat):Prop:=∀ w Q,WsAt w B M h m (.func (Fn.func g) #[] caps) x.sc T Q→Keeps W0 w→Calls Tryz.prog 52 #[.pointer (some ⟨B,0,none⟩),.int .i64 k] w (WPost w M T (fun j=>Q j∨j<k+1) (T k))
def ListC (x:Ms) (B M:Nat) (h:Hd) (m:Md) (T:Nat→Int) (g:Nat) (caps:Array Value) (W0:World) (k a b:Nat):Prop:=∀ w Q ro rc rows,WsAt w B M h m (.func (Fn.func g) #[] caps) x.sc T Q→Keeps W0 w→RowAt w ro rc rows→Nds w (cdM m k) (fun _=>True) a b rows →
 Calls Tryz.prog 87 #[.pointer (some ⟨B,0,none⟩),.int .i64 k,.slice ro rows.length rc] w (WPost w M T (fun j=>Q j∨j<k) (WA (gT x m T) (cdM m k) a b 0))
def NodeC (x:Ms) (B M:Nat) (h:Hd) (m:Md) (T:Nat→Int) (g:Nat) (caps:Array Value) (W0:World) (k p:Nat) (y:VN) (p':Nat):Prop:=∀ w Q,WsAt w B M h m (.func (Fn.func g) #[] caps) x.sc T Q→Keeps W0 w→Item w (cdM m k) p y p' →
 Calls Tryz.prog 114 #[.pointer (some ⟨B,0,none⟩),.int .i64 k,.agg #[.int .i64 y.at_,.int .i64 y.alt,.int .i64 y.en,.slice y.fo y.fn y.fc,.slice y.so y.sn y.sc]] w (WPost w M T (fun j=>Q j∨j<k) (itemW (gT x m T) (cdM m k) p y))
section
variable {x:Ms}{B M:Nat}{h:Hd}{m:Md}{T:Nat→Int}{g:Nat}{caps:Array Value}{W0:World}{k:Nat}
section
variable (H:Wkr x m T g caps W0)(hk:k<m.me.length)
include H hk
theorem Wkr.ok:MthOk m k:=mth_ok H.hm hk
theorem Wkr.code:codeE false (cdM m k)=0:=by
 have hm:=H.ok hk
 unfold codeE
 unfold cdM
 exact j11
theorem Wkr.opd {i:In3} (hi:i∈(cdM m k)):OpdOk m k i:=opd_ok ((H.ok hk).i i hi).1 ((H.ok hk).i i hi).2
theorem Wkr.bdW {a b:Nat} (hs:Seg (cdM m k) a b) {acc:Int} (ha:Bd acc):Bd (WA (gT x m T) (cdM m k) a b acc):=
 WA_bd (H.wt k hk) H.tl (fun _=>H.bd _) (fun i hi=>(H.opd hk hi).a0) hs _ ha
end
theorem wlist_of (HW:Wkr x m T g caps W0) (hk:k<m.me.length) {a b:Nat} (hn:∀ p y p',a≤p→p<p'→p'≤b→NodeC x B M h m T g caps W0 k p y p'):ListC x B M h m T g caps W0 k a b:=by
 intro w Q ro rc rows H hk0 hr hnd
 have hle:=hnd.le
 have hc:(cdM m k).length≤120:=(HW.ok hk).z.2.2
 have HNo:=Lib.hid hn
 have HH:=Lib.hid H
 have HK:=Lib.hid hk0
 have HR:=Lib.hid hr
 have HD:=Lib.hid hnd
 have HWk:=Lib.hid HW
 have hlen:rows.length≤120:=by omega
 clear hn H hk0 hr hnd hle hc
 go_enter Tryz.func87,Tryz.ntmps87
 go_wp2
 go_loopw [7,12] (fun s i wr=>∃ (j p:Nat) (sv:Int),i=.int .i64 j∧s=.int .i64 sv∧j≤rows.length∧Hid (a≤p∧Bd sv∧Nds wr (cdM m k) (fun _=>True) p b (rows.drop j)∧WA (gT x m T) (cdM m k) a b 0=WA (gT x m T) (cdM m k) p b sv)∧Hid (Upd M M w wr)∧Hid (KnM T wr M fun j=>Q j∨j<k)) (fun _ i _=>rows.length-(intOf i).toNat)
 case atStart=>exact ⟨0,a,0,rfl,rfl,Nat.zero_le _,⟨Nat.le_refl _,by unfold Bd;omega,HD.out,rfl⟩,Upd.refl _ _ _,HH.out.kn.weak fun _ h=>.inl h⟩
 case round=>
  obtain ⟨j,p,sv,rfl,rfl,hj,HS,HU,HN⟩:=hrel
  have HHr:=Lib.hid (HH.out.next HU.out HN.out)
  have HKr:=Lib.hid (HK.out.trans (HH.out.keeps HU.out))
  by_cases hjl:j<rows.length
  ·obtain ⟨hap,hsv,hnd,hwa⟩:=HS.out
   have hdr:rows.drop j=rows.getD j default :: rows.drop (j+1):=by
    rw [List.drop_eq_getElem_cons hjl];simp [hjl]
   rw [hdr] at hnd
   obtain ⟨p',hit,hnd',hpp,hpb,hwa'⟩:=nds_cons hnd (gT x m T)
   obtain ⟨ad,rfl,c0,c1,c2,c3,c4⟩:=row_vn (row_keeps HR.out (HH.out.keeps HU.out)) hjl
   obtain ⟨y,hy⟩:∃ y,y=rows.getD j default:=⟨_,rfl⟩
   rw [←hy] at hit hwa' c0 c1 c2 c3 c4
   have hbv:Bd (itemW (gT x m T) (cdM m k) p y):=itemW_bd (HWk.out.wt k hk) HWk.out.tl (fun _=>HWk.out.bd _) (fun i hi=>(HWk.out.opd hk hi).a0) hit
   obtain ⟨v,hv⟩:∃ v,v=itemW (gT x m T) (cdM m k) p y:=⟨_,rfl⟩
   have HC:=Lib.hid (HNo.out p y p' hap hpp hpb)
   unfold NodeC at HC
   rw [←hv] at HC hwa' hbv
   obtain ⟨ya,yl,ye,yf,yfn,yfc,ys,ysn,ysc⟩:=y
   dsimp only at c0 c1 c2 c3 c4 HC
   have HIt:=Lib.hid (And.intro hit (And.intro hnd' (And.intro hbv (And.intro hsv (And.intro hpp hpb)))))
   have HWa:=Lib.hid (hwa.trans (hwa' sv))
   have hl0:=cell_lt c0
   have hjl2:(j:Int) < rows.length:=by omega
   have hwj:IntKind.i64.wrap ((j:Int)+1)=((j+1:Nat):Int):=IntWalk.i64_in _ (by omega)
   clear hit hnd hnd' hwa hwa' hy hdr hv hbv hsv
   go_wp2_with (first
    | (go_at_call 114;refine (HC.out _ _ (HHr.out.old bE) (HKr.out.trans (Keeps.of bE)) (HIt.out.1.keeps (Keeps.of bE))).mono ?_;rintro e w2 ⟨rfl,hu2,hn2⟩;have HU2:=Lib.hid ((HU.out.alloc _).trans hu2);have HN2:=Lib.hid (hn2.weak (R:=fun j=>Q j∨j<k) fun _ h=>h.elim id .inr);have HKk:=Lib.hid (Keeps.upd (HN.out.old bE).map hu2);clear hu2 hn2)
    | (go_at_call 97;refine (add_any _ _ _ HIt.out.2.2.2.1 HIt.out.2.2.1).mono ?_;rintro e w3 ⟨rfl,hb3⟩;have HB3:=Lib.hid hb3;clear hb3))
   have hkk:=(Keeps.of (show Below wr.heap.size wr (wr.alloc (.cells #[.int .i64 ya,.int .i64 yl,.int .i64 ye,.slice yf yfn yfc,.slice ys ysn ysc] 112)) by exact bE)).trans (HKk.out.trans (Keeps.of HB3.out))
   exact ⟨⟨j+1,p',addV sv v,rfl,rfl,hjl,⟨by omega,addV_bd HIt.out.2.2.2.1 HIt.out.2.2.1,HIt.out.2.1.keeps hkk,HWa.out⟩,HU2.out.bel HB3.out,HN2.out.old HB3.out⟩,by simp [intOf];omega⟩
  ·have hj2:¬ (j:Int) < rows.length:=by omega
   go_wp2
   go_ret
   obtain ⟨-,-,hnd,hwa⟩:=HS.out
   rw [List.drop_eq_nil_iff.2 (by omega)] at hnd
   cases hnd with
   | nil _ _=>exact ⟨by rw [hwa,WA_nil];rfl,HU.out,HN.out⟩
theorem lawInt:Go.Maps.Keyed Tryz.prog 3:=Go.Maps.int_keyed Tryz.underlying3
theorem zeroI (w:World):(zeroValue 3).run Tryz.prog w=.ok (.int .i64 0) w:=by kernel_rfl
theorem wf_nat {k:Nat} (h:k<1000000):(Lit.int .i64 (k:Int)).wf=true:=WalkArith.wf_i64 (by omega)
theorem key_nat {k:Nat} (h:k<1000000):keyOf Tryz.prog 3 (.int .i64 k)=some (.int .i64 k):=Go.Maps.keyOf_int_mk Tryz.underlying3 (wf_nat h)
theorem KnM.look {Q:Nat→Prop}{w:World} (H:KnM T w M Q):∃ (K:List Nat) (D:DataW Unit),w.ownsMap Tryz.prog 3 (plainElem Tryz.prog 3) M K.length D∧(∀ k:Nat,Maps.has D (.int .i64 k)=decide (k∈K))∧(∀ k∈K,D.atKey (.int .i64 k) (.lit (.int .i64 0))=.lit (.int .i64 (T k)))∧∀ k,k ∉ K→KnM T w M fun j=>Q j∧j≠k:=by
 obtain ⟨K,D,h1,h2,h3,h4,h5,h6⟩:=H
 exact ⟨K,D,h3,h5,h6,fun k hk=>⟨K,D,h1,fun j hj=>⟨(h2 j hj).1,(h2 j hj).2,fun e=>hk (e▸hj)⟩,h3,h4,h5,h6⟩⟩
theorem wmeth_of (HW:Wkr x m T g caps W0) (hk:k<m.me.length) (hl:ListC x B M h m T g caps W0 k 0 (cdM m k).length):MethC x B M h m T g caps W0 k:=by
 intro w Q H hk0
 have h16:k<16:=by have:=(modV_size HW.hm).2.1;omega
 obtain ⟨K,D,hown,hhas,hat,hnk⟩:=H.kn.look
 have hhk:=hhas k
 have hT:=HW.eq k hk
 have HH:=Lib.hid H
 have HK0:=Lib.hid hk0
 have HL:=Lib.hid hl
 have HO:=Lib.hid hown
 have HNk:=Lib.hid (hnk k)
 have HAt:=Lib.hid (hat k)
 have HWk:=Lib.hid HW
 have c6:=H.wk.cell 6 (v:=.map (some M)) rfl
 clear H hk0 hl hown hhas hnk hat HW
 by_cases hkK:k∈K
 ·rw [decide_eq_true hkK] at hhk
  have HHk:=Lib.hid hhk
  clear hhk
  go_enter Tryz.func52,Tryz.ntmps52
  go_wp2_with (at_lookup;(refine wpList_lookup_own_ok_int _ rfl _ _ 86 rfl 3 3 .i64 lawInt Tryz.underlying86 Tryz.underlying3 (zeroI _) M K.length D rfl HO.out _ _ rfl (key_nat (by omega)) ?_);intro c hc hwc;rw [HHk.out])
  go_ret
  have:=HAt.out hkK
  rw [this] at hc
  cases hc
  exact ⟨rfl,Upd.refl _ _ _,HH.out.kn.weak fun _ h=>.inl h⟩
 ·rw [decide_eq_false hkK] at hhk
  have HHk:=Lib.hid hhk
  have HN0:=Lib.hid (HNk.out hkK)
  clear hhk
  have hm2:=HH.out.md.mth hk
  obtain ⟨ea,he,-,-,-,-,-,-,e6⟩:=hm2
  have c2:=HH.out.wk.cell 2 (v:=.slice h.eo m.me.length h.ec) rfl
  rw [he] at c2
  clear he
  have hke:=HH.out.md.k k hk
  have HP:=Lib.hid (fun w' hb=>bparts_any (cdM m k) (h.e k).ko (h.e k).kc (HWk.out.code hk) (cdM m k).length 0 (cdM m k).length w' (by omega) (RowAt.old hke (w':=w') hb) (seg_of (HWk.out.ok hk).n))
  have hcl:(m.me.getD k default).k.length=(cdM m k).length:=rfl
  rw [hcl] at e6
  have HLn:=Lib.hid (show (cdM m k).length≤120 from (HWk.out.ok hk).z.2.2)
  have hkl:(k:Int) < m.me.length:=by omega
  clear hke hcl
  go_enter Tryz.func52,Tryz.ntmps52
  go_upto_region 4 with (at_lookup;refine wpList_lookup_own_ok_int _ rfl _ _ 86 rfl 3 3 .i64 lawInt Tryz.underlying86 Tryz.underlying3 (zeroI _) M K.length D rfl HO.out _ _ rfl (key_nat (by omega)) ?_;intro c hc hwc;rw [HHk.out])
  have HCs:=Lib.hid (show Cs [(⟨B,2,none⟩,.slice (some ea) m.me.length h.ec),(⟨(ea.add (k*7)).block,(ea.add (k*7)).off+6,none⟩,.slice (h.e k).ko (cdM m k).length (h.e k).kc)] w from ⟨c2,e6,trivial⟩)
  clear hc hwc
  refine rO (Cs [(⟨B,2,none⟩,.slice (some ea) m.me.length h.ec),(⟨(ea.add (k*7)).block,(ea.add (k*7)).off+6,none⟩,.slice (h.e k).ko (cdM m k).length (h.e k).kc)]) (oL [0,1,2,3,4,5,6,7,8,9,10,11,12,13,14,15,16,17,18,19,20,121,122,23]) ⟨c2,e6,trivial⟩ ?_
  clear c2 e6
  repeat refine pO ?_
  refine oO fun Kv hK=>?_
  go_simp
  refine (HP.out _ (Below.refl _ _).drew).mono ?_
  rintro e w2 ⟨ro,rc,rows,rfl,hown2,hnd2,hb2⟩
  have HB2:=Lib.hid (bthen (Below.refl w.heap.size w).drew hb2)
  have HR2:=Lib.hid (RowAt.of_own hown2)
  have HD2:=Lib.hid (hnd2.weak (Q:=fun _=>True) fun _ _=>trivial)
  refine hK _ _ ⟨Cs.keeps (Keeps.of HB2.out) HCs.out,?_⟩
  clear hK Kv hown2 hnd2 hb2
  refine oO fun Kv hK=>?_
  go_simp
  refine (HL.out _ (fun j=>Q j∧j≠k) ro rc rows ⟨(HH.out.old HB2.out).wk,(HH.out.old HB2.out).md,HN0.out.old HB2.out⟩ (HK0.out.trans (Keeps.of HB2.out)) HR2.out HD2.out).mono ?_
  rintro e w3 ⟨rfl,hu3,hn3⟩
  have hkk:=(Keeps.of HB2.out).trans (Keeps.upd (HN0.out.old HB2.out).map hu3)
  have HU3:=Lib.hid ((Upd.of HB2.out).trans hu3)
  refine hK _ _ ⟨Cs.keeps hkk HCs.out,?_⟩
  have hc6:=hkk _ _ c6
  clear hK Kv hu3 c6 hkk
  repeat refine pO ?_
  refine wpMixO_done ?_
  rw [←hT]
  obtain ⟨n,D3,hown3,hn16,hput⟩:=hn3.put (k:=k) (by omega) h16
  have HO3:=Lib.hid hown3
  have HPt:=Lib.hid hput
  have hbT:=HWk.out.bd k
  unfold Bd at hbT
  exact j3
end
end
end Go.Proofs.YtfkbfjhocmbneaaGreat
