/- Joined texts. The first: Ranges: pairs of numbers; null, join, after, fits, valid: both sides. -/
import Derived.Lib.AppendZeros
import Derived.Lib.SmallJoins
import Derived.Test.YtcfjblcgceednaaGreatG23
set_option linter.all false
set_option linter.unusedVariables false
set_option linter.unusedSimpArgs false
set_option maxRecDepth 100000
set_option maxHeartbeats 8000000
namespace Go.Proofs.YtcfjblcgceednaaGreat
section
open Go.RowKit
attribute [local go_sem] World.cell?_alloc_some
structure Rg where
 lo:Int
 hi:Int
 deriving DecidableEq
instance:Inhabited Rg:=⟨⟨0,0⟩⟩
instance:Cells Rg:=⟨2,by decide,fun t=>[.int .i64 t.lo,.int .i64 t.hi],fun _=>rfl,by
 intro x u hu;simp only [List.mem_cons,List.not_mem_nil,or_false] at hu;rcases hu with rfl|rfl<;>rfl⟩
theorem Zmn {w:World}{ao:Option Addr}{cap:Nat}{l:List Rg} (h:Zar w ao cap l) {i:Nat} (hi:i<l.length):∃ ad,ao=some ad ∧
  w.cell? (ad.add (i*2))=some (.int .i64 (l.getD i default).lo)∧w.cell? ⟨(ad.add (i*2)).block,(ad.add (i*2)).off+1,none⟩=some (.int .i64 (l.getD i default).hi):=by
 obtain ⟨ad,rfl⟩:=h.some (by omega)
 have hx:l.getD i default=l[i]:=by simp [hi]
 rw [hx]
 exact ⟨ad,rfl,h.cell hi 0 rfl,h.cell hi 1 rfl⟩
theorem Zmo:El Tryz.prog 39 44 2 16:=El.mk' (z:=.agg #[.int .i64 0,.int .i64 0]) Tryz.underlying39 (by kernel_rfl) (by kernel_rfl) (by decide)
def Zmp:Rg:=⟨9,-9⟩
def Zmq (a b:Rg):Rg:=⟨min a.lo b.lo,max a.hi b.hi⟩
def Zmr (a:Rg) (d:Int):Rg:=if a.lo ≥ d then Zmp else ⟨a.lo,min a.hi (d-1)⟩
def Zms (v o:Rg):Bool:=decide (v.hi≤o.lo)
def Zmt (n:Int):Bool:=decide (n=-9∨(0≤n∧n≤8))
def Zmu (a:Rg):Bool:=decide (a=Zmp)||(Zmt a.lo&&Zmt a.hi&&decide (a.lo≤a.hi))
theorem eq2 (a b x y:Int) (w:World):Sem.run Tryz.prog (Op.equalIn 10000 44 (.agg #[.int .i64 a,.int .i64 b]) (.agg #[.int .i64 x,.int .i64 y])) w=.ok (a == x&&b == y) w:=by
 have ht:Tryz.prog.underlying 44=some (.array 2 3):=Tryz.underlying44
 have h1:∀ (p q:Int) (w:World),Sem.run Tryz.prog (Op.equalIn 9999 3 (.int .i64 p) (.int .i64 q)) w=.ok (p == q) w:=fun p q w=>run_equalIn_int w 9998 3 .i64 .i64 p q Tryz.underlying3
 have hs:∀ w,Sem.run Tryz.prog (sizeOf 3) w=.ok 1 w:=fun w=>by kernel_rfl
 have hg:∀ w,Sem.run Tryz.prog (isAgg 3) w=.ok false w:=fun w=>by kernel_rfl
 show Sem.run Tryz.prog (Op.equalIn (9999+1) 44 _ _) w=_
 rw [Op.equalIn]
 simp only [Sem.run_bind,run_underlying ht,Result.andThen_ok]
 cases h2:(a == x)<;>cases h3:(b == y)<;>simp [go_sem,hs,hg,h1,h2,h3,Std.Legacy.Range.forIn_eq_forIn_range',List.range']
theorem Zmv (w:World):Calls Tryz.prog 128 #[] w (Ret w (.agg #[.int .i64 9,.int .i64 (-9)])):=by
 go_enter Tryz.func128,Tryz.ntmps128
 go_wp2
 exact bodyPost_ret (v:=.agg #[.int .i64 9,.int .i64 (-9)]) (by simp [results,Tryz.results128,go_sem]) rfl ⟨rfl,by exact bE⟩
theorem Zmw (w:World):Calls Tryz.prog 30 #[] w (Ret w (.agg #[.int .i64 9,.int .i64 (-9)])):=by
 go_enter Tryz.func30,Tryz.ntmps30
 go_wp2
 exact bodyPost_ret (v:=.agg #[.int .i64 9,.int .i64 (-9)]) (by simp [results,Tryz.results30,go_sem]) rfl ⟨rfl,by exact bE⟩
theorem Zmx (a b:Rg) (w:World):Calls Tryz.prog 77 #[.agg #[.int .i64 a.lo,.int .i64 a.hi],.agg #[.int .i64 b.lo,.int .i64 b.hi]] w (Ret w (.agg #[.int .i64 (Zmq a b).lo,.int .i64 (Zmq a b).hi])):=by
 go_enter Tryz.func77,Tryz.ntmps77
 go_wp2
 all_goals
  refine bodyPost_ret (v:=.agg #[.int .i64 (Zmq a b).lo,.int .i64 (Zmq a b).hi]) ?_ rfl ⟨rfl,by exact bE⟩
  simp [results,Tryz.results77,go_sem,Zmq]
  try omega
theorem Zmy (a b:Rg) (w:World):Calls Tryz.prog 74 #[.agg #[.int .i64 a.lo,.int .i64 a.hi],.agg #[.int .i64 b.lo,.int .i64 b.hi]] w (Ret w (.bool (Zms a b))):=by
 go_enter Tryz.func74,Tryz.ntmps74
 go_wp2
 go_ret
 exact ZcT (ZcX rfl) bE
theorem Zmz (n:Int) (w:World):Calls Tryz.prog 140 #[.int .i64 n] w (Ret w (.bool (Zmt n))):=by
 go_enter Tryz.func140,Tryz.ntmps140
 go_wp2
 all_goals
  go_ret
  refine ZcT (ZcX ?_) bE
  unfold Zmt
  grind
end
section
open Go.RowKit
attribute [local go_sem] World.cell?_alloc_some
theorem ZmA (n:Nat) (hn:n≤1000000) (W:World):Calls Tryz.prog 266 #[.slice none 0 0,.int .i64 n] W fun e w'=>(∃ ao cap,e=.returned (.slice ao 0 cap)∧w'.ownsRow W.heap.size 44 2 (.slice ao 0 cap) 0 [])∧Below W.heap.size W w':=by
 have h0:¬ (n:Int) < 0:=by omega
 have hw0:IntKind.i64.wrap ((n:Int)-0)=n:=IntWalk.i64_in _ (by omega)
 by_cases hz:n=0
 ·subst hz
  go_enter Tryz.func266,Tryz.ntmps266
  go_wp2
  go_ret
  exact ⟨⟨none,0,rfl,World.ownsRow_nil _ _ _ _⟩,Below.refl _ _⟩
 ·have h1:(n:Int) > 0:=by omega
  have hA:=Zh (Lib.run_append_nil_zeros (P:=Tryz.prog) W 39 3 39 44 (Tryz.prog.info? 44).get! (.agg #[.int .i64 0,.int .i64 0]) .i64 .i64 Tryz.underlying39 Tryz.underlying3 (by kernel_rfl) (by kernel_rfl) n (by omega) (of_decide_eq_true (by kernel_rfl)) (by omega) (by rw [show (Tryz.prog.info? 44).get!.bytes=16 by kernel_rfl];omega))
  have hge:=grownCap_ge W n 0 44
  have hle:=grownCap_le_maxLen W n 0 44 (by unfold maxLen;omega)
  have HG:=Zh (And.intro hge hle)
  generalize hc:grownCap W n 0 44=c at hA HG
  clear hge hle hc
  go_enter Tryz.func266,Tryz.ntmps266
  go_wp2_with (at_builtin;refine Lib.wpList_append_run _ rfl _ _ _ _ rfl _ _ rfl rfl _ _ hA.out ?_)
  go_ret
  have hg:=HG.out
  refine ⟨⟨_,c,rfl,?_⟩,?_⟩
  ·refine World.ownsRow_made (e:=44) (size:=2) W.drew _ c (Nat.le_refl _) hg.2 ?_
   rw [Array.size_append,size_zeroCells,size_zeroCells]
   show n*2+(c-n)*2=c*2
   omega
  ·exact bal (Below.refl _ _).drew _
def ZmB (w:World) (ao:Option Addr) (cap:Nat) (hs:List SH) (ls:List (List Rg)):Prop:=Zar w ao cap hs∧hs.length=ls.length∧∀ i,i<hs.length→(hs.getD i default).n=(ls.getD i []).length∧Zar w (hs.getD i default).ao (hs.getD i default).c (ls.getD i [])
theorem ZmB.old {w w':World}{ao:Option Addr}{cap:Nat}{hs:List SH}{ls:List (List Rg)} (h:ZmB w ao cap hs ls) (hb:Below w.heap.size w w'):ZmB w' ao cap hs ls:=⟨h.1.old hb,h.2.1,fun i hi=>⟨(h.2.2 i hi).1,(h.2.2 i hi).2.old hb⟩⟩
def ZmC (ls:List (List Rg)) (j:Nat):List Rg:=(ls.take j).flatten
theorem ZmD (ls:List (List Rg)) (j:Nat) (hj:j<ls.length):ZmC ls (j+1)=ZmC ls j++ls.getD j []:=by
 unfold ZmC
 rw [List.take_succ_eq_append_getElem hj,List.flatten_append];simp [hj]
theorem ZmE (ls:List (List Rg)) (j:Nat):(ZmC ls j).length≤ls.flatten.length:=by
 unfold ZmC
 conv=>rhs;rw [←List.take_append_drop j ls,List.flatten_append,List.length_append]
 omega
theorem ZmF (ls:List (List Rg)) {n:Nat} (h:n=ls.length):ZmC ls n=ls.flatten:=by subst h;unfold ZmC;rw [List.take_length]
theorem ZmG (W:World) (ao:Option Addr) (cap n:Nat) (hs:List SH) (ls:List (List Rg)) (H:ZmB W ao cap hs ls) (hn:hs.length=n) (hn9:n≤1000) (hl:ls.flatten.length≤1000000):Calls Tryz.prog 195 #[.slice ao n cap] W (Zfg 44 W ls.flatten):=by
 subst hn
 have HS:=Zh H
 have hln:=H.2.1
 obtain ⟨fl,hfl⟩:∃ fl,fl=ls.flatten:=⟨_,rfl⟩
 have HFl:=Zh hfl.symm
 have HLe:=Zh hl
 rw [←hfl] at hl ⊢
 clear H hfl
 go_enter Tryz.func195,Tryz.ntmps195
 go_wp2
 go_loopw [3,11] (fun s i wr=>∃ j:Nat,j≤hs.length∧i=.int .i64 j∧s=.int .i64 (ZmC ls j).length∧wr=W) (fun _ i _=>hs.length-(intOf i).toNat)
 case atStart=>exact ⟨0,Nat.zero_le _,rfl,rfl,rfl⟩
 case round=>
  obtain ⟨j,hj,rfl,rfl,rfl⟩:=hrel
  rename World=>wo
  by_cases hjl:j<hs.length
  ·have hjl2:(j:Int) < hs.length:=by omega
   have hwj:IntKind.i64.wrap ((j:Int)+1)=((j+1:Nat):Int):=IntWalk.i64_in _ (by omega)
   have hf:=ZmD ls j (by omega)
   have hf2:=Nat.le_trans (ZmE ls (j+1)) HLe.out
   have h2:=(HS.out.2.2 j hjl).1
   obtain ⟨ad,rfl,c0⟩:=ZlZ HS.out.1 hjl
   rw [h2] at c0
   obtain ⟨a,ha⟩:∃ a,a=(ZmC ls j).length:=⟨_,rfl⟩
   obtain ⟨b,hb⟩:∃ b,b=(ls.getD j []).length:=⟨_,rfl⟩
   obtain ⟨c,hc⟩:∃ c,c=(ZmC ls (j+1)).length:=⟨_,rfl⟩
   have hab:c=a+b:=by rw [hc,hf,List.length_append,ha,hb]
   rw [←hb] at c0
   rw [←hc] at hf2
   rw [←ha]
   have hwa:IntKind.i64.wrap ((a:Int)+b)=((c:Nat):Int):=by rw [hab];exact IntWalk.i64_in _ (by omega)
   have h0:¬ ((c:Nat):Int) < 0:=by omega
   have HC:=Zh hc
   generalize (hs.getD j default).ao=bo at c0
   generalize (hs.getD j default).c=bc at c0
   clear hf hf2 h2 ha hb hc hab
   go_wp2
   exact ⟨⟨j+1,hjl,rfl,by rw [HC.out],by trivial⟩,by simp [intOf];omega⟩
  ·obtain rfl:j=hs.length:=by omega
   have hjl2:¬ ((hs.length:Nat):Int) < hs.length:=by omega
   rw [ZmF ls hln,HFl.out]
   have HGr:=Zh (ZmA fl.length hl wo)
   go_upto_region 10 with (go_at_call 266;refine HGr.out.mono ?_;rintro e w1 ⟨⟨go,gc,rfl,hown⟩,hb1⟩;have HO:=Zh hown;have HB:=Zh hb1;clear hown hb1)
   go_upto_region 11 with fail
   go_loopw [6,27] (fun s i wr=>∃ (j:Nat) (oo:Option Addr) (oc:Nat),j≤hs.length∧i=.int .i64 j∧s=.slice oo (ZmC ls j).length oc∧Hid (wr.ownsRow wo.heap.size 44 2 (.slice oo (ZmC ls j).length oc) (ZmC ls j).length (Zak (ZmC ls j)))∧Hid (Below wo.heap.size wo wr)) (fun _ i _=>hs.length-(intOf i).toNat)
   case atStart=>exact ⟨0,go,gc,Nat.zero_le _,rfl,rfl,HO.out,HB.out⟩
   case round=>
    obtain ⟨j,oo,oc,hj,rfl,rfl,HOj,HBj⟩:=hrel
    rename World=>wi
    have hf2:=Nat.le_trans (ZmE ls j) HLe.out
    by_cases hjl:j<hs.length
    ·have hjl2:(j:Int) < hs.length:=by omega
     have hwj:IntKind.i64.wrap ((j:Int)+1)=((j+1:Nat):Int):=IntWalk.i64_in _ (by omega)
     have hf:=ZmD ls j (by omega)
     have hf3:=Nat.le_trans (ZmE ls (j+1)) HLe.out
     have h2:=(HS.out.2.2 j hjl).1
     have hr:=((HS.out.2.2 j hjl).2).old HBj.out
     obtain ⟨ad,rfl,c0⟩:=ZlZ (HS.out.1.old HBj.out) hjl
     rw [h2] at c0
     obtain ⟨zs,hzs⟩:∃ zs,zs=(ZmC ls j):=⟨_,rfl⟩
     obtain ⟨ts,hts⟩:∃ ts,ts=ls.getD j []:=⟨_,rfl⟩
     obtain ⟨bo,hbo⟩:∃ bo,bo=(hs.getD j default).ao:=⟨_,rfl⟩
     obtain ⟨bc,hbc⟩:∃ bc,bc=(hs.getD j default).c:=⟨_,rfl⟩
     rw [←hts,←hbo,←hbc] at c0 hr
     rw [←hzs] at HOj hf2
     rw [←hzs,←hts] at hf
     rw [hf,List.length_append] at hf3
     rw [←hzs]
     have HF:=Zh hf
     have HR:=Zh hr
     have hown:=HOj.out
     clear hf h2 hr hzs hts hbo hbc
     go_wp2_with (at_builtin;refine Zaj rfl (.tmp 31) (.tmp 32) 39 rfl wo.heap.size 44 2 16 Zmo (.slice oo zs.length oc) zs.length (Zak zs) rfl hown bo ts.length bc (Zak ts) rfl HR.out (Zaq ts) (by omega) (by unfold maxLen;omega) (by have:=HBj.out.size;omega) ?_;intro ao1 cap1 w10 hown9 hg9;have HO9:=Zh hown9;have HB9:=Zh (ZcV HBj.out hg9 (fun j hj=>(hown.lt j hj).1));clear hown9 hg9)
     refine ⟨⟨j+1,ao1,cap1,hjl,rfl,by rw [HF.out,List.length_append],?_,HB9.out⟩,by simp [intOf];omega⟩
     rw [HF.out,List.length_append,Zan]
     exact HO9.out
    ·obtain rfl:j=hs.length:=by omega
     have hjl2:¬ ((hs.length:Nat):Int) < hs.length:=by omega
     rw [ZmF ls hln] at HOj ⊢
     rw [HFl.out] at HOj ⊢
     go_wp2
     go_ret
     exact ⟨⟨oo,oc,rfl,HOj.out⟩,HBj.out⟩
end
section
open Go.RowKit
theorem ZmH {m:Md} (hm:Za1 m=true) {lo:List Ty} (hlo:∀ t∈lo,Zfi m t) {k:Nat} (hk:k<m.me.length) (r:Ty):∀ (l:List In3) (n:Nat) (s:Ps),(∀ i∈l,ZfR m k i∧0≤i.op∧i.op<36)→Wf m s l→(∀ t∈(ZeE m lo r n l s).1,Zfj m t)∧(ZeE m lo r n l s).1.length≤l.length+1
 |[],n,s,_,hw=>by
  unfold ZeE
  split
  ·exact ⟨fun t ht=>by rw [List.mem_singleton.1 ht];exact hw.stk,by simp⟩
  ·exact ⟨fun t ht=>(by cases ht),by simp⟩
 |i :: l,n,s,hi,hw=>by
  unfold ZeE
  split
  ·rename_i h0
   obtain ⟨q1,q2⟩:=hi i List.mem_cons_self
   obtain ⟨a1,a2⟩:=ZmH hm hlo hk r l (n+1) _ (fun j hj=>hi j (List.mem_cons_of_mem _ hj)) (Zgo hm hlo hk q2 q1 hw h0)
   dsimp only
   split
   ·refine ⟨fun t ht=>?_,by simp;omega⟩
    rcases List.mem_cons.1 ht with rfl|ht
    ·exact hw.stk
    ·exact a1 t ht
   ·exact ⟨fun t ht=>(by cases ht),by simp⟩
  ·exact ⟨fun t ht=>(by cases ht),by simp⟩
theorem ZmI (m:Md) (k:Int):(∀ t∈(ZeH m k).1,Zfj m t)∧(ZeH m k).1.length≤121:=by
 unfold ZeH
 split
 ·rename_i h
  obtain ⟨hm,h0,h1⟩:=h
  have hk:k.toNat<m.me.length:=by omega
  have hmt:=ZfN hm hk
  obtain ⟨a,b⟩:=ZmH hm (ZfO hm hk) hk (m.me.getD k.toNat default).r (m.me.getD k.toNat default).k 0 ⟨[],[]⟩ (fun i hi=>⟨ZfS (hmt.i i hi).1 (hmt.i i hi).2,ZfQ (hmt.i i hi).1⟩) (Zfo hmt.n)
  have:=hmt.z.2.2
  exact ⟨a,by unfold ZeG;omega⟩
 ·exact ⟨fun t ht=>(by cases ht),by simp⟩
theorem ZjL.rows {w:World}{N:Nat}{so:Option Addr}{sc:Nat}{rows:List SH}{m:Md}{k:Int} (H:ZjJ w N so sc rows (ZeH m k).1):rows.length≤121:=by rw [H.len];exact (ZmI m k).2
end
section
open Go.RowKit
def ZmJ (m:Md) (k:Int):List Ty × Ty × Int:=if (Za1 m&&inV m.me.length k)=true then ((if 0≤(m.me.getD k.toNat default).c then [⟨2,(m.me.getD k.toNat default).c⟩] else [])++(m.me.getD k.toNat default).p,(m.me.getD k.toNat default).r,0) else ([],⟨0,0⟩,1)
def ZmK (W:World) (q:List Ty × Ty × Int):Ending→World→Prop:=fun e w'=>∃ ao ac,e=.returned (.tuple #[.slice ao q.1.length ac,.agg #[.int .i64 q.2.1.k,.int .i64 q.2.1.c],.int .i64 q.2.2])∧Zar w' ao ac q.1∧Below W.heap.size W w'
theorem ZmL (w:World) (h:Hd) (m:Md) (H:Zay w h m) (k:Int):Calls Tryz.prog 127 #[.agg #[.slice h.co m.cl.length h.cc,.slice h.so m.st.length h.sc,.slice h.eo m.me.length h.ec,.int .i64 m.sel],.int .i64 k] w (ZmK w (ZmJ m k)):=by
 obtain ⟨W0,hW0⟩:∃ W0,W0=(w.alloc (.cells #[.slice h.co m.cl.length h.cc,.slice h.so m.st.length h.sc,.slice h.eo m.me.length h.ec,.int .i64 m.sel] 26)).alloc (.cells #[.int .i64 0,.int .i64 0] 76):=⟨_,rfl⟩
 have hb0:Below w.heap.size w W0:=by rw [hW0];exact bE
 have x0:Blk W0 w.heap.size #[.slice h.co m.cl.length h.cc,.slice h.so m.st.length h.sc,.slice h.eo m.me.length h.ec,.int .i64 m.sel] 26:=by rw [hW0];exact (Blk.new w _ _).alloc _
 have z0:Blk W0 (w.heap.size+1) #[.int .i64 0,.int .i64 0] 76:=by rw [hW0];exact Blk.new' (w:=w.alloc (.cells #[.slice h.co m.cl.length h.cc,.slice h.so m.st.length h.sc,.slice h.eo m.me.length h.ec,.int .i64 m.sel] 26)) _ _ (by simp)
 have HSz:=Zh (show W0.heap.size=w.heap.size+2 by rw [hW0];simp)
 have HX:=Zh (show ∀ w',Below W0.heap.size W0 w'→_ from fun w' hb=>Zj5 (x0.old hb))
 have HZ:=Zh z0
 have HI:=Zh (Zhr m h k W0 (H.old hb0))
 have HW:=Zh hW0
 have HB0:=Zh hb0
 have HM:=Zh H
 clear x0 z0 hW0 hb0 H
 cases hin:Za1 m&&inV m.me.length k
 ·rw [hin] at HI
  rw [show ZmJ m k=([],⟨0,0⟩,1) by unfold ZmJ;rw [hin];rfl]
  go_enter Tryz.func127,Tryz.ntmps127
  go_upto_region 1 with fail
  rw [←HW.out]
  obtain ⟨c0,c1,c2,c3⟩:=HX.out _ (Below.refl _ _)
  go_wp2_with (go_at_call 57;refine HI.out.mono ?_;rintro r w1 ⟨rfl,hb1⟩;obtain ⟨y0,y1,g0,g1⟩:=Zki (HZ.out.old hb1))
  refine bodyPost_ret (v:=.tuple #[.slice none 0 0,.agg #[.int .i64 0,.int .i64 0],.int .i64 1]) (by simp [results,Tryz.results127,go_sem,y0,y1]) rfl ?_
  exact ⟨none,0,rfl,Zar.nil _,Zkj HB0.out hb1⟩
 ·have hi2:=hin
  rw [hin] at HI
  simp only [Bool.and_eq_true,inV,decide_eq_true_eq] at hi2
  obtain ⟨hmv,hk0,hk1⟩:=hi2
  obtain ⟨kk,rfl⟩:∃ d:Nat,k=d:=⟨k.toNat,by omega⟩
  have hkk:kk<m.me.length:=by omega
  have hc9:=(ZfN hmv hkk).c.1
  have hp9:=(ZfN hmv hkk).z.1
  obtain ⟨ea,heo,m0,m1,m2,m3,m4,m5,m6⟩:=HM.out.mth hkk
  have hpr:=HM.out.p kk hkk
  rw [show ZmJ m kk=((if 0≤(m.me.getD kk default).c then [⟨2,(m.me.getD kk default).c⟩] else [])++(m.me.getD kk default).p,(m.me.getD kk default).r,0) by unfold ZmJ;rw [hin,if_pos rfl,Int.toNat_natCast]]
  generalize m.me.getD kk default=x at hc9 hp9 hpr m0 m1 m2 m3 m4 m5 m6 ⊢
  obtain ⟨nm,c,pl,ll,⟨rk,rc⟩,kl⟩:=x
  dsimp only at hc9 hp9 hpr m0 m1 m2 m3 m4 m5 m6 ⊢
  have HP:=Zh hpr
  have HEo:=Zh heo
  clear hpr hin hmv hk0 heo
  have HS:=Zh (show Zkd (Cs [(⟨(ea.add (kk*7)).block,(ea.add (kk*7)).off+1,none⟩,.int .i64 c),(⟨(ea.add (kk*7)).block,(ea.add (kk*7)).off+2,none⟩,.slice (h.e kk).po pl.length (h.e kk).pc),(⟨(ea.add (kk*7)).block,(ea.add (kk*7)).off+4,none⟩,.int .i64 rk),(⟨(ea.add (kk*7)).block,(ea.add (kk*7)).off+5,none⟩,.int .i64 rc)]) (w.heap.size+1) W0 from fun w' hu=>Zke HB0.out (Nat.le_succ _) hu ⟨m1,m2,m4,m5,trivial⟩)
  clear m0 m1 m2 m3 m4 m5 m6
  by_cases hc:0≤c
  case' pos=>
   have hc2:c ≥ 0:=hc
   have HC:=Zh hc
   clear hc
   go_enter Tryz.func127,Tryz.ntmps127
   go_upto_region 1 with fail
   rw [←HW.out]
   obtain ⟨c0,c1,c2,c3⟩:=HX.out _ (Below.refl _ _)
   go_upto_region 7 with (first
    | (go_at_call 57;refine HI.out.mono ?_;rintro r w1 ⟨rfl,hb1⟩;have HB1:=Zh hb1;clear hb1 c0 c1 c2 c3;obtain ⟨c0,c1,c2,c3⟩:=HX.out _ HB1.out;rw [HEo.out] at c2;obtain ⟨m1,m2,m4,m5,-⟩:=HS.out _ (Upd.of HB1.out))
    | (go_at_call 191;refine (Zhn _ _).mono ?_;rintro r w2 ⟨rfl,hb2⟩;have HB2:=Zh (Zaf HB1.out hb2);clear hb2)
    | (at_builtin;refine Zaj rfl (.tmp 23) (.tmp 29) 23 rfl (w.heap.size+2) 76 2 16 Zff _ 0 [] rfl (World.ownsRow_nil _ _ _ _) _ 1 1 [.int .i64 2,.int .i64 c] rfl (ZdL (Blk.new' #[.int .i64 2,.int .i64 c] 76 (by simp)) rfl) (by intro u hu;simp only [List.mem_cons,List.not_mem_nil,or_false] at hu;rcases hu with rfl|rfl<;>rfl) (by omega) (by unfold maxLen;omega) (by have:=HSz.out;have:=HB2.out.size;simp;omega) ?_;intro oo oc wz hown hg))
   have HOw:=Zh hown
   have HBz:=Zh (ZcV (bal HB2.out _) hg (fun j hj=>by cases hj))
   clear hown hg c0 c1 c2 c3 m1 m2 m4 m5
  case' neg=>
   have hc2:¬ c ≥ 0:=hc
   have HC:=Zh hc
   clear hc
   go_enter Tryz.func127,Tryz.ntmps127
   go_upto_region 1 with fail
   rw [←HW.out]
   obtain ⟨c0,c1,c2,c3⟩:=HX.out _ (Below.refl _ _)
   go_upto_region 7 with (go_at_call 57;refine HI.out.mono ?_;rintro r w1 ⟨rfl,hb1⟩;have HB1:=Zh hb1;clear hb1 c0 c1 c2 c3;obtain ⟨c0,c1,c2,c3⟩:=HX.out _ HB1.out;rw [HEo.out] at c2;obtain ⟨m1,m2,m4,m5,-⟩:=HS.out _ (Upd.of HB1.out))
   have HOw:=Zh (World.ownsRow_nil w1 (w.heap.size+2) 76 2)
   have HBz:=HB1
   clear c0 c1 c2 c3 m1 m2 m4 m5
  all_goals
   refine kO HS.out (oL [0,1,2,3,4,6,7,8,9,105,10,111,12]) (Upd.of HBz.out).drew ?_
   repeat refine pO ?_
   refine oO fun Kv hK=>?_
   refine Zej (.tmp 31) (.tmp 35) 23 rfl (w.heap.size+2) 76 2 16 Zff _ _ _ rfl (Zco HOw.out) _ _ _ _ rfl (Zar.old HP.out (Zaf HB0.out HBz.out.drew)) (Zaq pl) (by omega) (by unfold maxLen;omega) (Nat.le_trans (Nat.le_of_eq HSz.out.symm) HBz.out.size) ?_
   intro ao2 cap2 w3 hown3 hg3
   have HB3:=Zh (ZcV HBz.out.drew hg3 (fun j hj=>by have:=(HOw.out.lt j hj).1;have:=HSz.out;omega))
   have HO3:=Zh hown3
   clear hown3 hg3
   refine hK _ _ ⟨HS.out _ (Upd.of HB3.out),?_⟩
   clear hK Kv
   repeat refine pO ?_
   obtain ⟨y0,y1,g0,g1⟩:=Zki (HZ.out.old HB3.out)
   refine oO fun Kv hK=>?_
   go_simp
   refine hK _ _ ⟨HS.out _ (((Upd.of HB3.out).set 0 _).set 1 _),?_⟩
   clear hK Kv
   repeat refine pO ?_
   refine Zd5 ?_
   go_wp2
   have HO5:=Zh (show World.ownsRow ((w3.setCell ⟨w.heap.size+1,0,none⟩ (.int .i64 rk)).setCell ⟨w.heap.size+1,1,none⟩ (.int .i64 rc)) _ _ _ _ _ _ from ownsRow_setCell_other (ownsRow_setCell_other HO3.out (fun e=>Zcs HO3.out (b:=w.heap.size+1) (by omega) e.symm) (.int .i64 rk)) (fun e=>Zcs HO3.out (b:=w.heap.size+1) (by omega) e.symm) (.int .i64 rc))
   first
    | (refine bodyPost_ret (v:=.tuple #[.slice ao2 (0+1+pl.length) cap2,.agg #[.int .i64 rk,.int .i64 rc],.int .i64 0]) (by simp [results,Tryz.results127,go_sem,y0,y1]) rfl ?_;have h9:=HO5.out;refine ⟨ao2,cap2,by simp;omega,Zar.of_own (base:=(w.heap.size+2)) (e:=76) ?_,Zkj HB0.out HB3.out⟩;rw [show 0+1+pl.length=pl.length+1 by omega] at h9;exact h9)
    | (refine bodyPost_ret (v:=.tuple #[.slice ao2 (0+pl.length) cap2,.agg #[.int .i64 rk,.int .i64 rc],.int .i64 0]) (by simp [results,Tryz.results127,go_sem,y0,y1]) rfl ?_;have h9:=HO5.out;rw [Nat.zero_add] at h9 ⊢;exact ⟨ao2,cap2,rfl,Zar.of_own (base:=(w.heap.size+2)) (e:=76) h9,Zkj HB0.out HB3.out⟩)
end
section
open Go.ChangeShapes Go.WideShapes Go.ChangeAt Go.RowKit
theorem ZmM {H:Type} (d:DataW H):1≤Rows.uptoBulk d:=by
 cases d with
 | lit l=>cases l<;>simp [Rows.uptoBulk]
 | nil=>simp [Rows.uptoBulk]
 | ptr d=>simp [Rows.uptoBulk]
 | slice elems spare=>simp [Rows.uptoBulk]
 | agg parts=>simp [Rows.uptoBulk]
 | iface t d=>simp [Rows.uptoBulk]
 | map entries=>simp [Rows.uptoBulk]
 | held h=>simp [Rows.uptoBulk]
theorem ZmN {H:Type} (l:List (DataW H)):l.length≤Rows.uptoBulkAll l:=by
 induction l with
 | nil=>simp [Rows.uptoBulkAll]
 | cons x r ih=>have:=ZmM x;simp only [Rows.uptoBulkAll,List.length_cons];omega
theorem ZmO {H:Type} (elems spare:List (DataW H)):elems.length+spare.length+1≤Rows.uptoBulk (.slice elems spare):=by
 have h1:=ZmN elems
 have h2:=ZmN spare
 simp only [Rows.uptoBulk]
 omega
theorem ZmP {H:Type}{l:List (DataW H)} (hk:Rows.uptoSmall H l=true):Rows.uptoBulkAll l≤1048576:=of_decide_eq_true hk
theorem ZmQ {H:Type} (k:IntKind) (zs:List Int):(lits (H:=H) k zs).length=zs.length:=by simp [lits]
theorem ZmR {H:Type}{enc:TypeId × Value→H}{P:Program}{W:World}{r:Reach}{b0:Nat}{t e:TypeId}{k:IntKind}{v:Value}{d:DataW H}{ps:List MemPlace}
  (ht:P.underlying t=some (.slice e)) (he:P.underlying e=some (.int k)) (hc:P.cellsOf e=1)
  (hval:Value.okWide P W r b0 t v) (hd:DataW.Trod enc P W 0 (fun _=>true) true t v d ps) :
  ∃ a cap zs,v=.slice a zs.length cap∧(Sl k W a zs∧(a=none→cap=0))∧(∀ n∈zs,(Lit.int k n).wf=true)∧zs.length≤maxLen∧zs.length≤Rows.uptoBulk d:=by
 obtain ⟨a,len,cap,rfl⟩:=okWide_slice ht hval
 obtain ⟨fuel,hf⟩:=hd
 rcases open_ints ht he hc hf with ⟨hcs,_⟩|⟨x,l,c,zs,hcs,_,hl,hm,hz,hx,hcell,hwz⟩
 ·simp [Value.cells] at hcs
  obtain ⟨rfl,rfl,rfl⟩:=hcs
  exact ⟨none,0,[],rfl,⟨fun i hi=>by simp at hi,fun _=>rfl⟩,by simp,by simp,by simp⟩
 ·simp [Value.cells] at hcs
  obtain ⟨rfl,rfl,rfl⟩:=hcs
  have hz':zs.length=cap:=by simpa using hz
  obtain ⟨rfl,_⟩:=Prod.mk.inj hx
  refine ⟨some x,cap,zs.take len,by rw [List.length_take,Nat.min_eq_left (by omega)],⟨?_,fun h=>by cases h⟩,fun n hn=>hwz n (List.mem_of_mem_take hn),by rw [List.length_take];omega,?_⟩
  ·intro i hi
   rw [List.length_take] at hi
   refine ⟨x,rfl,?_⟩
   rw [hcell i (by omega),List.getD_eq_getElem?_getD,List.getD_eq_getElem?_getD,List.getElem?_take_of_lt (by omega)]
  ·refine Nat.le_trans ?_ (ZmO _ _)
   rw [ZmQ];omega
theorem ZmS {n:Int} (h:(Lit.int .i64 n).wf=true):-9223372036854775808≤n∧n≤9223372036854775807:=by
 simpa [Lit.wf,IntKind.min,IntKind.max,IntKind.bits,IntKind.signed] using h
end
section
open Go.ChangeShapes Go.WideShapes Go.ChangeAt Go.RowKit
theorem ZmT {cs:Array Value} (h:cs.size=2):∃ a b,cs=#[a,b]:=by
 obtain ⟨l⟩:=cs
 match l,h with
 | [a,b],_=>exact ⟨a,b,rfl⟩
theorem ZmU {H:Type}{enc:TypeId × Value→H}{P:Program}{W:World}{r:Reach}{b0:Nat}{t e:TypeId}{k:IntKind}{v:Value}{d:DataW H}{ps:List MemPlace}
  (ht:P.underlying t=some (.array 2 e)) (he:P.underlying e=some (.int k)) (hC:P.cellsOf t=2) (hc:P.cellsOf e=1)
  (hval:Value.okWide P W r b0 t v) (hd:DataW.Trod enc P W 0 (fun _=>true) true t v d ps):∃ a b,v=.agg #[.int k a,.int k b]:=by
 unfold Value.okWide at hval
 rw [ht] at hval
 obtain ⟨cs,rfl,hsz,_⟩:=hval
 obtain ⟨c0,c1,rfl⟩:=ZmT (hsz.trans hC)
 obtain ⟨fuel,hf⟩:=hd
 obtain ⟨xs,m,_,_,_,hl,hi⟩:=DataW.trod_array ht hf
 have g:∀ i c,i<2→(#[c0,c1]:Array Value)[i]?=some c→∃ n,c=.int k n:=by
  intro i c hi3 hcx
  have h1:=hi i hi3
  have h2:∃ y,xs[i]?=some y:=⟨xs[i]'(by omega),List.getElem?_eq_getElem (by omega)⟩
  obtain ⟨y,hy⟩:=h2
  rw [hy,hc] at h1
  have h3:(((Value.agg #[c0,c1]).cells.toList.drop (i*1)).take 1)=[c]:=by
   match i,hi3,hcx with
   | 0,_,h=>simp at h;subst h;rfl
   | 1,_,h=>simp at h;subst h;rfl
  rw [h3] at h1
  obtain ⟨n,hn,_⟩:=DataW.trod_int he h1
  exact ⟨n,by simpa using hn⟩
 obtain ⟨a,rfl⟩:=g 0 c0 (by decide) rfl
 obtain ⟨b,rfl⟩:=g 1 c1 (by decide) rfl
 exact ⟨a,b,rfl⟩
end
end Go.Proofs.YtcfjblcgceednaaGreat
