/- verify: more closures: those of dup, setstatic and cast. -/
import Derived.Test.YtcfjblcgceednaaGreatG10
set_option linter.all false
set_option linter.unusedVariables false
set_option linter.unusedSimpArgs false
set_option maxRecDepth 100000
set_option maxHeartbeats 4000000
namespace Go.Proofs.YtcfjblcgceednaaGreat
section
open Go.RowKit
section
variable (K:Nat)(h:Hd)(m:Md)(L S O:Value)(a:Ty)
include K h m L S O a
theorem Zi9 (to':Option Addr) (tc:Nat) (w W:World) (H:Ck W K h m L S O 0) (hu:Upd K K w W) (hown:W.ownsRow w.heap.size 76 2 (.slice to' 1 tc) 1 (Zak [a])):
  Calls Tryz.prog 258 #[.slice to' 1 tc] W (ZhV w K h m L S O fun out e'=>out=[a,a]∧e'=0):=by
 obtain ⟨g,rfl,hgK,hgl,htc,hcl⟩:=Zh1 hown H
 have hb:=hown.lt g rfl
 obtain ⟨ak,ac⟩:=a
 have a0:=hcl 0 (.int .i64 ak) rfl
 have a1:=hcl 1 (.int .i64 ac) rfl
 have hz:=hu.size
 have HO:=Zh (World.ownsRow.alloc hown (.cells #[.int .i64 ak,.int .i64 ac] 76))
 have HX:=Zh (ZdL (n:=1) (size:=2) (Blk.new W #[.int .i64 ak,.int .i64 ac] 76) rfl)
 have HC:=Zh H
 have HU:=Zh hu
 clear H hu hown hcl
 go_enter Tryz.func258,Tryz.ntmps258
 go_wp2_with (at_builtin;refine ZhC rfl ?_;refine Zej (.tmp 3) (.tmp 7) 23 rfl w.heap.size 76 2 16 Zff _ 1 _ rfl HO.out _ 1 1 [.int .i64 ak,.int .i64 ac] rfl HX.out (by intro u hu;simp only [List.mem_cons,List.not_mem_nil,or_false] at hu;rcases hu with rfl|rfl<;>rfl) (by decide) (by decide) (by simp;omega) ?_;intro ao2 cap2 w4 hown4 hg4;have HO4:=Zh hown4;have HG4:=Zh hg4;clear hown4 hg4)
 go_ret
 have hK:=Blk.lt HC.out
 have hkg:some K≠(Value.slice (some ⟨g,0,none⟩) 1 tc).ownBlock:=fun e=>hgK (Option.some.inj e).symm
 refine ⟨ao2,cap2,[⟨ak,ac⟩,⟨ak,ac⟩],0,rfl,ZeP.own HO4.out,?_,?_,rfl,rfl⟩
 ·unfold Ck Blk
  rw [HG4.out.block K (by simp;omega) hkg]
  exact Ck.old (w':=W.alloc (.cells #[.int .i64 ak,.int .i64 ac] 76)) HC.out bE
 ·have h1:=HU.out.alloc (.cells #[.int .i64 ak,.int .i64 ac] 76)
  refine ⟨HG4.out.os.trans h1.os,HG4.out.tape.trans h1.tape,HG4.out.output.trans h1.output,Nat.le_trans h1.size HG4.out.size,fun k hk hne _=>?_⟩
  rw [HG4.out.block k (Nat.lt_of_lt_of_le hk h1.size) (fun e=>by have:=(Option.some.inj e:k=g);omega)]
  exact h1.block k hk hne hne
theorem Zja (op ia ib:Int) (to':Option Addr) (tc base cb ib0:Nat) (W:World) (H:Ck W K h m L S O 0) (HMo:∀ w',Upd K K W w'→Zay w' h m) (hcb:Blk W cb #[.pointer (some ⟨K,0,none⟩)] 211) (hib:Blk W ib0 #[.int .i64 op,.int .i64 ia,.int .i64 ib] 78) (hown:W.ownsRow base 76 2 (.slice to' 1 tc) 1 (Zak [a])) (ha:0≤ia) (hi:ia<m.st.length):
  Calls Tryz.prog 329 #[.slice to' 1 tc,.pointer (some ⟨cb,0,none⟩),.pointer (some ⟨ib0,0,none⟩)] W (ZhV W K h m L S O fun out e'=>out=[]∧e'=ZeT 0 (Zho m a (m.st.getD ia.toNat default))):=by
 obtain ⟨ia,rfl⟩:∃ d:Nat,ia=d:=⟨ia.toNat,by omega⟩
 have hi':ia<m.st.length:=by omega
 rw [Int.toNat_natCast]
 obtain ⟨⟨uk,uc⟩,HLu'⟩:∃ x:Ty,x=m.st.getD ia default:=⟨_,rfl⟩
 rw [←HLu']
 obtain ⟨sa,hso,-,-⟩:=Zaz (HMo W (Upd.refl K K W)).st hi'
 have hst:∀ w',Upd K K W w'→w'.cell? (sa.add (ia*2))=some (.int .i64 uk)∧w'.cell? ⟨(sa.add (ia*2)).block,(sa.add (ia*2)).off+1,none⟩=some (.int .i64 uc):=fun w' hu=>by
  obtain ⟨ad,h1,h2,h3⟩:=Zaz (HMo w' hu).st hi'
  rw [hso] at h1
  cases h1
  rw [←HLu'] at h2 h3
  exact ⟨h2,h3⟩
 have hk1:∀ w' e',Ck w' K h m L S O e'→w'.cell? ⟨K,1,none⟩=some (.slice (some sa) m.st.length h.sc):=fun w' e' hc=>by have:=hc.cells.2.2.1;rwa [hso] at this
 obtain ⟨g,rfl,hgK,hgl,htc,hcl⟩:=Zh1 hown H
 obtain ⟨ak,ac⟩:=a
 have kl:=Blk.lt H
 have a0:=hcl 0 (.int .i64 ak) rfl
 have a1:=hcl 1 (.int .i64 ac) rfl
 have c0:=hcb.cell 0 (v:=.pointer (some ⟨K,0,none⟩)) rfl
 have cne:cb≠K:=ZhZ hcb H (by decide)
 have cl:=hcb.lt
 have i0:=hib.cell 0 (v:=.int .i64 op) rfl
 have i1:=hib.cell 1 (v:=.int .i64 ia) rfl
 have i2:=hib.cell 2 (v:=.int .i64 ib) rfl
 have ine:ib0≠K:=ZhZ hib H (by decide)
 have il:=hib.lt
 have hS:∀ w' e',Upd K K W w'→Ck w' K h m L S O e'→(fun w':World=>w'.cell? ⟨cb,0,none⟩=some (.pointer (some ⟨K,0,none⟩))∧w'.cell? ⟨g,0,none⟩=some (.int .i64 ak)∧w'.cell? ⟨g,1,none⟩=some (.int .i64 ac)∧w'.cell? ⟨ib0,0,none⟩=some (.int .i64 op)∧w'.cell? ⟨ib0,1,none⟩=some (.int .i64 ia)∧w'.cell? ⟨ib0,2,none⟩=some (.int .i64 ib)∧w'.cell? ⟨K,1,none⟩=some (.slice (some sa) m.st.length h.sc)∧w'.cell? (sa.add (ia*2))=some (.int .i64 uk)∧w'.cell? ⟨(sa.add (ia*2)).block,(sa.add (ia*2)).off+1,none⟩=some (.int .i64 uc)) w':=fun w' e' hu hc'=>⟨hu.cell c0 cne cne,hu.cell a0 hgK hgK,hu.cell a1 hgK hgK,hu.cell i0 ine ine,hu.cell i1 ine ine,hu.cell i2 ine ine,hk1 _ _ hc',(hst _ hu).1,(hst _ hu).2⟩
 have HS:=Zh hS
 have HU0:=Zh (Upd.refl K K W)
 have HC0:=Zh H
 have HO:=Zh hown
 have HM0:=Zh HMo
 clear hS H hcb hib c0 a0 a1 i0 i1 i2
 obtain ⟨ft,HFt'⟩:∃ x:Bool,x=Zho m ⟨ak,ac⟩ ⟨uk,uc⟩:=⟨_,rfl⟩
 have HFi:=Zh (show ∀ e w',Ck w' K h m L S O e→Upd K K W w'→Calls Tryz.prog 257 #[.pointer (some ⟨K,0,none⟩),.agg #[.int .i64 ak,.int .i64 ac],.agg #[.int .i64 uk,.int .i64 uc]] w' fun r w''=>(∃ v,r=.returned v)∧Ck w'' K h m L S O (ZeT e (decide (e=0)&&ft))∧Upd K K w' w'' from fun e w' hc hu=>by have:=Zht K h m L S O e ⟨ak,ac⟩ ⟨uk,uc⟩ w' hc (HMo w' hu);rw [←HFt'] at this;exact this)
 have HFt:=Zh HFt'
 clear HFt'
 clear hown hcl HMo
 have hne:=ZdW
 have heq:=ZdV
 have hgu:=ZdX
 have HLu:=Zh HLu'
 clear HLu' hst hk1 hso
 go_enter Tryz.func329,Tryz.ntmps329
 go_wp2_with fail
 refine rO (fun w':World=>w'.cell? ⟨cb,0,none⟩=some (.pointer (some ⟨K,0,none⟩))∧w'.cell? ⟨g,0,none⟩=some (.int .i64 ak)∧w'.cell? ⟨g,1,none⟩=some (.int .i64 ac)∧w'.cell? ⟨ib0,0,none⟩=some (.int .i64 op)∧w'.cell? ⟨ib0,1,none⟩=some (.int .i64 ia)∧w'.cell? ⟨ib0,2,none⟩=some (.int .i64 ib)∧w'.cell? ⟨K,1,none⟩=some (.slice (some sa) m.st.length h.sc)∧w'.cell? (sa.add (ia*2))=some (.int .i64 uk)∧w'.cell? ⟨(sa.add (ia*2)).block,(sa.add (ia*2)).off+1,none⟩=some (.int .i64 uc)) (oL [0,1,2,3,4,5,6,7,8,9,10,11,12,113]) (HS.out _ _ HU0.out.drew (Ck.drew HC0.out)) ?_
 have HU1:=Zh HU0.out.drew
 have HC1:=Zh (Ck.drew HC0.out)
 repeat refine pO ?_
 refine oO fun Kv hK=>?_
 go_simp
 refine (HFi.out _ _ HC1.out HU1.out).mono ?_
 rintro r w2 ⟨⟨v2,rfl⟩,hc2,hu2⟩
 have HU2:=Zh (HU1.out.trans hu2)
 have HC2:=Zh hc2
 clear hc2 hu2
 refine hK _ _ ⟨HS.out _ _ HU2.out HC2.out,?_⟩
 clear hK Kv
 repeat refine pO ?_
 refine Zd5 ?_
 go_wp2
 go_ret
 refine ⟨none,0,[],_,rfl,ZeP.nil _,HC2.out,HU2.out,rfl,?_⟩
 rw [HFt.out];simp [ZeT]
theorem Zjb (op ia ib:Int) (to':Option Addr) (tc base cb ib0:Nat) (W:World) (H:Ck W K h m L S O 0) (HMo:∀ w',Upd K K W w'→Zay w' h m) (hcb:Blk W cb #[.pointer (some ⟨K,0,none⟩)] 211) (hib:Blk W ib0 #[.int .i64 op,.int .i64 ia,.int .i64 ib] 78) (hown:W.ownsRow base 76 2 (.slice to' 1 tc) 1 (Zak [a])) (h1:a.k≠2):
  Calls Tryz.prog 330 #[.slice to' 1 tc,.pointer (some ⟨ib0,0,none⟩),.pointer (some ⟨cb,0,none⟩)] W (ZhV W K h m L S O fun out e'=>out=[⟨2,ia⟩]∧e'=11):=by
 obtain ⟨g,rfl,hgK,hgl,htc,hcl⟩:=Zh1 hown H
 obtain ⟨ak,ac⟩:=a
 have kl:=Blk.lt H
 have a0:=hcl 0 (.int .i64 ak) rfl
 have a1:=hcl 1 (.int .i64 ac) rfl
 have c0:=hcb.cell 0 (v:=.pointer (some ⟨K,0,none⟩)) rfl
 have cne:cb≠K:=ZhZ hcb H (by decide)
 have cl:=hcb.lt
 have i0:=hib.cell 0 (v:=.int .i64 op) rfl
 have i1:=hib.cell 1 (v:=.int .i64 ia) rfl
 have i2:=hib.cell 2 (v:=.int .i64 ib) rfl
 have ine:ib0≠K:=ZhZ hib H (by decide)
 have il:=hib.lt
 have HC0:=Zh H
 have HU0:=Zh (Upd.refl K K W)
 have HM0:=Zh HMo
 clear H
 have hk:(ak == 2)=false:=by simpa using h1
 clear h1
 clear hown hcl HMo
 have hne:=ZdW
 have heq:=ZdV
 have hgu:=ZdX
 go_enter Tryz.func330,Tryz.ntmps330
 go_wp2_with (go_at_call 191;refine (Zhn _ _).mono ?_;rintro r w1 ⟨rfl,hb1⟩)
 have HU1:=Zh ((HU0.out.bel hb1).alloc (.cells #[.int .i64 2,.int .i64 ia] 76))
 have HC1:=Zh (Ck.old (w':=w1.alloc (.cells #[.int .i64 2,.int .i64 ia] 76)) (HC0.out.old hb1) bE)
 have hx:=Blk.new w1 #[.int .i64 2,.int .i64 ia] 76
 have hsz:=HU0.out.bel hb1
 have hsz:=hsz.size
 obtain ⟨W1,hW1⟩:∃ W1,W1=w1.alloc (.cells #[.int .i64 2,.int .i64 ia] 76):=⟨_,rfl⟩
 rw [←hW1] at HU1 HC1 hx ⊢
 have t0:=hx.cell 0 (v:=.int .i64 2) rfl
 have t1:=hx.cell 1 (v:=.int .i64 ia) rfl
 have tne:w1.heap.size≠K:=by omega
 have c0:=HU1.out.cell c0 cne cne
 have a0:=HU1.out.cell a0 hgK hgK
 have a1:=HU1.out.cell a1 hgK hgK
 have i0:=HU1.out.cell i0 ine ine
 have i1:=HU1.out.cell i1 ine ine
 have i2:=HU1.out.cell i2 ine ine
 clear hb1 hW1 hx
 have hS:∀ w' e',Upd K K W1 w'→Ck w' K h m L S O e'→(fun w':World=>w'.cell? ⟨cb,0,none⟩=some (.pointer (some ⟨K,0,none⟩))∧w'.cell? ⟨g,0,none⟩=some (.int .i64 ak)∧w'.cell? ⟨g,1,none⟩=some (.int .i64 ac)∧w'.cell? ⟨ib0,0,none⟩=some (.int .i64 op)∧w'.cell? ⟨ib0,1,none⟩=some (.int .i64 ia)∧w'.cell? ⟨ib0,2,none⟩=some (.int .i64 ib)∧w'.cell? ⟨w1.heap.size,0,none⟩=some (.int .i64 2)∧w'.cell? ⟨w1.heap.size,1,none⟩=some (.int .i64 ia)∧w'.cell? ⟨K,0,none⟩=some (.slice h.co m.cl.length h.cc)∧w'.cell? ⟨K,1,none⟩=some (.slice h.so m.st.length h.sc)∧w'.cell? ⟨K,2,none⟩=some (.slice h.eo m.me.length h.ec)∧w'.cell? ⟨K,3,none⟩=some (.int .i64 m.sel)) w':=fun w' e' hu hc'=>⟨hu.cell c0 cne cne,hu.cell a0 hgK hgK,hu.cell a1 hgK hgK,hu.cell i0 ine ine,hu.cell i1 ine ine,hu.cell i2 ine ine,hu.cell t0 tne tne,hu.cell t1 tne tne,hc'.cells.2.1,hc'.cells.2.2.1,hc'.cells.2.2.2.1,hc'.cells.2.2.2.2.1⟩
 have HS:=Zh hS
 clear hS
 clear c0 a0 a1 i0 i1 i2 t0 t1
 have HV1:=Zh (Upd.refl K K W1)
 go_wp2_with fail
 refine rO (fun w':World=>w'.cell? ⟨cb,0,none⟩=some (.pointer (some ⟨K,0,none⟩))∧w'.cell? ⟨g,0,none⟩=some (.int .i64 ak)∧w'.cell? ⟨g,1,none⟩=some (.int .i64 ac)∧w'.cell? ⟨ib0,0,none⟩=some (.int .i64 op)∧w'.cell? ⟨ib0,1,none⟩=some (.int .i64 ia)∧w'.cell? ⟨ib0,2,none⟩=some (.int .i64 ib)∧w'.cell? ⟨w1.heap.size,0,none⟩=some (.int .i64 2)∧w'.cell? ⟨w1.heap.size,1,none⟩=some (.int .i64 ia)∧w'.cell? ⟨K,0,none⟩=some (.slice h.co m.cl.length h.cc)∧w'.cell? ⟨K,1,none⟩=some (.slice h.so m.st.length h.sc)∧w'.cell? ⟨K,2,none⟩=some (.slice h.eo m.me.length h.ec)∧w'.cell? ⟨K,3,none⟩=some (.int .i64 m.sel)) (oL [0,1,2,3,4,5,6,7,8,9,10,11,12,13,14,115,16,17,18,19,20,21,22,23,24,125,26,27,128]) (HS.out _ _ HV1.out.drew (Ck.drew HC1.out)) ?_
 have HU2:=Zh HU1.out.drew
 have HV2:=Zh HV1.out.drew
 have HC2:=Zh (Ck.drew HC1.out)
 repeat refine pO ?_
 refine Zd3 ?_
 refine Zh0 24 (by rfl) ?_
 refine ⟨HS.out _ _ HV2.out HC2.out,?_⟩
 simp only [List.setIfInBounds_toArray,List.set_cons_zero,List.set_cons_succ]
 repeat refine pO ?_
 refine Zd3 ?_
 refine Zh0 34 (by rfl) ?_
 refine ⟨HS.out _ _ HV2.out HC2.out,?_⟩
 simp only [List.setIfInBounds_toArray,List.set_cons_zero,List.set_cons_succ]
 repeat refine pO ?_
 refine oO fun Kv hK=>?_
 go_simp
 refine (ZeU K h m L S O _ _ _ HC2.out).mono ?_
 rintro r w3 ⟨⟨v3,rfl⟩,hc3,hu3⟩
 have HU3:=Zh (HU2.out.trans hu3)
 have HV3:=Zh (HV2.out.trans hu3)
 have HC3:=Zh hc3
 clear hc3 hu3
 refine hK _ _ ⟨HS.out _ _ HV3.out HC3.out,?_⟩
 clear hK Kv
 repeat refine pO ?_
 refine Zd5 ?_
 have u0:=(HS.out _ _ HV3.out HC3.out)
 obtain ⟨-,-,-,-,-,-,v0,v1,-⟩:=u0
 go_wp2
 go_ret
 refine ⟨some ⟨w3.heap.size,0,none⟩,1,[_],_,rfl,ZeP.one (t:=⟨2,ia⟩) (Blk.new w3 _ _),Ck.old HC3.out bE,HU3.out.alloc _,rfl,?_⟩
 rfl
theorem Zjc (op ia ib:Int) (to':Option Addr) (tc base cb ib0:Nat) (W:World) (H:Ck W K h m L S O 0) (HMo:∀ w',Upd K K W w'→Zay w' h m) (hcb:Blk W cb #[.pointer (some ⟨K,0,none⟩)] 211) (hib:Blk W ib0 #[.int .i64 op,.int .i64 ia,.int .i64 ib] 78) (hown:W.ownsRow base 76 2 (.slice to' 1 tc) 1 (Zak [a])) (h1:a.k=2) (hf1:Zho m a ⟨2,ia⟩=true):
  Calls Tryz.prog 330 #[.slice to' 1 tc,.pointer (some ⟨ib0,0,none⟩),.pointer (some ⟨cb,0,none⟩)] W (ZhV W K h m L S O fun out e'=>out=[⟨2,ia⟩]∧e'=0):=by
 obtain ⟨g,rfl,hgK,hgl,htc,hcl⟩:=Zh1 hown H
 obtain ⟨ak,ac⟩:=a
 obtain rfl:ak=2:=h1
 have kl:=Blk.lt H
 have a0:=hcl 0 (.int .i64 2) rfl
 have a1:=hcl 1 (.int .i64 ac) rfl
 have c0:=hcb.cell 0 (v:=.pointer (some ⟨K,0,none⟩)) rfl
 have cne:cb≠K:=ZhZ hcb H (by decide)
 have cl:=hcb.lt
 have i0:=hib.cell 0 (v:=.int .i64 op) rfl
 have i1:=hib.cell 1 (v:=.int .i64 ia) rfl
 have i2:=hib.cell 2 (v:=.int .i64 ib) rfl
 have ine:ib0≠K:=ZhZ hib H (by decide)
 have il:=hib.lt
 have HC0:=Zh H
 have HU0:=Zh (Upd.refl K K W)
 have HM0:=Zh HMo
 clear H
 have HF1:=Zh (show ∀ w',Upd K K W w'→Calls Tryz.prog 189 #[.agg #[.slice h.co m.cl.length h.cc,.slice h.so m.st.length h.sc,.slice h.eo m.me.length h.ec,.int .i64 m.sel],.agg #[.int .i64 2,.int .i64 ac],.agg #[.int .i64 2,.int .i64 ia]] w' (Ret w' (.bool true)) from fun w' hu=>by have:=Zhq m h ⟨2,ac⟩ ⟨2,ia⟩ w' (HMo w' hu);rw [hf1] at this;exact this)
 clear hf1
 clear hown hcl HMo
 have hne:=ZdW
 have heq:=ZdV
 have hgu:=ZdX
 go_enter Tryz.func330,Tryz.ntmps330
 go_wp2_with (go_at_call 191;refine (Zhn _ _).mono ?_;rintro r w1 ⟨rfl,hb1⟩)
 have HU1:=Zh ((HU0.out.bel hb1).alloc (.cells #[.int .i64 2,.int .i64 ia] 76))
 have HC1:=Zh (Ck.old (w':=w1.alloc (.cells #[.int .i64 2,.int .i64 ia] 76)) (HC0.out.old hb1) bE)
 have hx:=Blk.new w1 #[.int .i64 2,.int .i64 ia] 76
 have hsz:=HU0.out.bel hb1
 have hsz:=hsz.size
 obtain ⟨W1,hW1⟩:∃ W1,W1=w1.alloc (.cells #[.int .i64 2,.int .i64 ia] 76):=⟨_,rfl⟩
 rw [←hW1] at HU1 HC1 hx ⊢
 have t0:=hx.cell 0 (v:=.int .i64 2) rfl
 have t1:=hx.cell 1 (v:=.int .i64 ia) rfl
 have tne:w1.heap.size≠K:=by omega
 have c0:=HU1.out.cell c0 cne cne
 have a0:=HU1.out.cell a0 hgK hgK
 have a1:=HU1.out.cell a1 hgK hgK
 have i0:=HU1.out.cell i0 ine ine
 have i1:=HU1.out.cell i1 ine ine
 have i2:=HU1.out.cell i2 ine ine
 clear hb1 hW1 hx
 have hS:∀ w' e',Upd K K W1 w'→Ck w' K h m L S O e'→(fun w':World=>w'.cell? ⟨cb,0,none⟩=some (.pointer (some ⟨K,0,none⟩))∧w'.cell? ⟨g,0,none⟩=some (.int .i64 2)∧w'.cell? ⟨g,1,none⟩=some (.int .i64 ac)∧w'.cell? ⟨ib0,0,none⟩=some (.int .i64 op)∧w'.cell? ⟨ib0,1,none⟩=some (.int .i64 ia)∧w'.cell? ⟨ib0,2,none⟩=some (.int .i64 ib)∧w'.cell? ⟨w1.heap.size,0,none⟩=some (.int .i64 2)∧w'.cell? ⟨w1.heap.size,1,none⟩=some (.int .i64 ia)∧w'.cell? ⟨K,0,none⟩=some (.slice h.co m.cl.length h.cc)∧w'.cell? ⟨K,1,none⟩=some (.slice h.so m.st.length h.sc)∧w'.cell? ⟨K,2,none⟩=some (.slice h.eo m.me.length h.ec)∧w'.cell? ⟨K,3,none⟩=some (.int .i64 m.sel)) w':=fun w' e' hu hc'=>⟨hu.cell c0 cne cne,hu.cell a0 hgK hgK,hu.cell a1 hgK hgK,hu.cell i0 ine ine,hu.cell i1 ine ine,hu.cell i2 ine ine,hu.cell t0 tne tne,hu.cell t1 tne tne,hc'.cells.2.1,hc'.cells.2.2.1,hc'.cells.2.2.2.1,hc'.cells.2.2.2.2.1⟩
 have HS:=Zh hS
 clear hS
 clear c0 a0 a1 i0 i1 i2 t0 t1
 have HV1:=Zh (Upd.refl K K W1)
 go_wp2_with fail
 refine rO (fun w':World=>w'.cell? ⟨cb,0,none⟩=some (.pointer (some ⟨K,0,none⟩))∧w'.cell? ⟨g,0,none⟩=some (.int .i64 2)∧w'.cell? ⟨g,1,none⟩=some (.int .i64 ac)∧w'.cell? ⟨ib0,0,none⟩=some (.int .i64 op)∧w'.cell? ⟨ib0,1,none⟩=some (.int .i64 ia)∧w'.cell? ⟨ib0,2,none⟩=some (.int .i64 ib)∧w'.cell? ⟨w1.heap.size,0,none⟩=some (.int .i64 2)∧w'.cell? ⟨w1.heap.size,1,none⟩=some (.int .i64 ia)∧w'.cell? ⟨K,0,none⟩=some (.slice h.co m.cl.length h.cc)∧w'.cell? ⟨K,1,none⟩=some (.slice h.so m.st.length h.sc)∧w'.cell? ⟨K,2,none⟩=some (.slice h.eo m.me.length h.ec)∧w'.cell? ⟨K,3,none⟩=some (.int .i64 m.sel)) (oL [0,1,2,3,4,5,6,7,8,9,10,11,12,13,14,115,16,17,18,19,20,21,22,23,24,125,26,27,128]) (HS.out _ _ HV1.out.drew (Ck.drew HC1.out)) ?_
 have HU2:=Zh HU1.out.drew
 have HV2:=Zh HV1.out.drew
 have HC2:=Zh (Ck.drew HC1.out)
 repeat refine pO ?_
 refine oO fun Kv hK=>?_
 go_simp
 refine (HF1.out _ HU2.out).mono ?_
 rintro r w3 ⟨rfl,hb3⟩
 have HU3:=Zh (HU2.out.bel hb3)
 have HV3:=Zh (HV2.out.bel hb3)
 have HC3:=Zh (HC2.out.old hb3)
 clear hb3
 refine hK _ _ ⟨HS.out _ _ HV3.out HC3.out,?_⟩
 clear hK Kv
 repeat refine pO ?_
 refine Zd3 ?_
 refine Zh0 34 (by rfl) ?_
 refine ⟨HS.out _ _ HV3.out HC3.out,?_⟩
 simp only [List.setIfInBounds_toArray,List.set_cons_zero,List.set_cons_succ]
 repeat refine pO ?_
 refine oO fun Kv hK=>?_
 go_simp
 refine (ZeU K h m L S O _ _ _ HC3.out).mono ?_
 rintro r w4 ⟨⟨v4,rfl⟩,hc4,hu4⟩
 have HU4:=Zh (HU3.out.trans hu4)
 have HV4:=Zh (HV3.out.trans hu4)
 have HC4:=Zh hc4
 clear hc4 hu4
 refine hK _ _ ⟨HS.out _ _ HV4.out HC4.out,?_⟩
 clear hK Kv
 repeat refine pO ?_
 refine Zd5 ?_
 have u0:=(HS.out _ _ HV4.out HC4.out)
 obtain ⟨-,-,-,-,-,-,v0,v1,-⟩:=u0
 go_wp2
 go_ret
 refine ⟨some ⟨w4.heap.size,0,none⟩,1,[_],_,rfl,ZeP.one (t:=⟨2,ia⟩) (Blk.new w4 _ _),Ck.old HC4.out bE,HU4.out.alloc _,rfl,?_⟩
 rfl
theorem Zjd (op ia ib:Int) (to':Option Addr) (tc base cb ib0:Nat) (W:World) (H:Ck W K h m L S O 0) (HMo:∀ w',Upd K K W w'→Zay w' h m) (hcb:Blk W cb #[.pointer (some ⟨K,0,none⟩)] 211) (hib:Blk W ib0 #[.int .i64 op,.int .i64 ia,.int .i64 ib] 78) (hown:W.ownsRow base 76 2 (.slice to' 1 tc) 1 (Zak [a])) (h1:a.k=2) (hf1:Zho m a ⟨2,ia⟩=false):
  Calls Tryz.prog 330 #[.slice to' 1 tc,.pointer (some ⟨ib0,0,none⟩),.pointer (some ⟨cb,0,none⟩)] W (ZhV W K h m L S O fun out e'=>out=[⟨2,ia⟩]∧e'=ZeT 0 (Zho m ⟨2,ia⟩ a)):=by
 obtain ⟨g,rfl,hgK,hgl,htc,hcl⟩:=Zh1 hown H
 obtain ⟨ak,ac⟩:=a
 obtain rfl:ak=2:=h1
 have kl:=Blk.lt H
 have a0:=hcl 0 (.int .i64 2) rfl
 have a1:=hcl 1 (.int .i64 ac) rfl
 have c0:=hcb.cell 0 (v:=.pointer (some ⟨K,0,none⟩)) rfl
 have cne:cb≠K:=ZhZ hcb H (by decide)
 have cl:=hcb.lt
 have i0:=hib.cell 0 (v:=.int .i64 op) rfl
 have i1:=hib.cell 1 (v:=.int .i64 ia) rfl
 have i2:=hib.cell 2 (v:=.int .i64 ib) rfl
 have ine:ib0≠K:=ZhZ hib H (by decide)
 have il:=hib.lt
 have HC0:=Zh H
 have HU0:=Zh (Upd.refl K K W)
 have HM0:=Zh HMo
 clear H
 have HF1:=Zh (show ∀ w',Upd K K W w'→Calls Tryz.prog 189 #[.agg #[.slice h.co m.cl.length h.cc,.slice h.so m.st.length h.sc,.slice h.eo m.me.length h.ec,.int .i64 m.sel],.agg #[.int .i64 2,.int .i64 ac],.agg #[.int .i64 2,.int .i64 ia]] w' (Ret w' (.bool false)) from fun w' hu=>by have:=Zhq m h ⟨2,ac⟩ ⟨2,ia⟩ w' (HMo w' hu);rw [hf1] at this;exact this)
 clear hf1
 obtain ⟨f2,HF2'⟩:∃ x:Bool,x=Zho m ⟨2,ia⟩ ⟨2,ac⟩:=⟨_,rfl⟩
 have HF3:=Zh (show ∀ w',Upd K K W w'→Calls Tryz.prog 189 #[.agg #[.slice h.co m.cl.length h.cc,.slice h.so m.st.length h.sc,.slice h.eo m.me.length h.ec,.int .i64 m.sel],.agg #[.int .i64 2,.int .i64 ia],.agg #[.int .i64 2,.int .i64 ac]] w' (Ret w' (.bool f2)) from fun w' hu=>by have:=Zhq m h ⟨2,ia⟩ ⟨2,ac⟩ w' (HMo w' hu);rw [←HF2'] at this;exact this)
 have HF2:=Zh HF2'
 clear HF2'
 clear hown hcl HMo
 have hne:=ZdW
 have heq:=ZdV
 have hgu:=ZdX
 go_enter Tryz.func330,Tryz.ntmps330
 go_wp2_with (go_at_call 191;refine (Zhn _ _).mono ?_;rintro r w1 ⟨rfl,hb1⟩)
 have HU1:=Zh ((HU0.out.bel hb1).alloc (.cells #[.int .i64 2,.int .i64 ia] 76))
 have HC1:=Zh (Ck.old (w':=w1.alloc (.cells #[.int .i64 2,.int .i64 ia] 76)) (HC0.out.old hb1) bE)
 have hx:=Blk.new w1 #[.int .i64 2,.int .i64 ia] 76
 have hsz:=HU0.out.bel hb1
 have hsz:=hsz.size
 obtain ⟨W1,hW1⟩:∃ W1,W1=w1.alloc (.cells #[.int .i64 2,.int .i64 ia] 76):=⟨_,rfl⟩
 rw [←hW1] at HU1 HC1 hx ⊢
 have t0:=hx.cell 0 (v:=.int .i64 2) rfl
 have t1:=hx.cell 1 (v:=.int .i64 ia) rfl
 have tne:w1.heap.size≠K:=by omega
 have c0:=HU1.out.cell c0 cne cne
 have a0:=HU1.out.cell a0 hgK hgK
 have a1:=HU1.out.cell a1 hgK hgK
 have i0:=HU1.out.cell i0 ine ine
 have i1:=HU1.out.cell i1 ine ine
 have i2:=HU1.out.cell i2 ine ine
 clear hb1 hW1 hx
 have hS:∀ w' e',Upd K K W1 w'→Ck w' K h m L S O e'→(fun w':World=>w'.cell? ⟨cb,0,none⟩=some (.pointer (some ⟨K,0,none⟩))∧w'.cell? ⟨g,0,none⟩=some (.int .i64 2)∧w'.cell? ⟨g,1,none⟩=some (.int .i64 ac)∧w'.cell? ⟨ib0,0,none⟩=some (.int .i64 op)∧w'.cell? ⟨ib0,1,none⟩=some (.int .i64 ia)∧w'.cell? ⟨ib0,2,none⟩=some (.int .i64 ib)∧w'.cell? ⟨w1.heap.size,0,none⟩=some (.int .i64 2)∧w'.cell? ⟨w1.heap.size,1,none⟩=some (.int .i64 ia)∧w'.cell? ⟨K,0,none⟩=some (.slice h.co m.cl.length h.cc)∧w'.cell? ⟨K,1,none⟩=some (.slice h.so m.st.length h.sc)∧w'.cell? ⟨K,2,none⟩=some (.slice h.eo m.me.length h.ec)∧w'.cell? ⟨K,3,none⟩=some (.int .i64 m.sel)) w':=fun w' e' hu hc'=>⟨hu.cell c0 cne cne,hu.cell a0 hgK hgK,hu.cell a1 hgK hgK,hu.cell i0 ine ine,hu.cell i1 ine ine,hu.cell i2 ine ine,hu.cell t0 tne tne,hu.cell t1 tne tne,hc'.cells.2.1,hc'.cells.2.2.1,hc'.cells.2.2.2.1,hc'.cells.2.2.2.2.1⟩
 have HS:=Zh hS
 clear hS
 clear c0 a0 a1 i0 i1 i2 t0 t1
 have HV1:=Zh (Upd.refl K K W1)
 go_wp2_with fail
 refine rO (fun w':World=>w'.cell? ⟨cb,0,none⟩=some (.pointer (some ⟨K,0,none⟩))∧w'.cell? ⟨g,0,none⟩=some (.int .i64 2)∧w'.cell? ⟨g,1,none⟩=some (.int .i64 ac)∧w'.cell? ⟨ib0,0,none⟩=some (.int .i64 op)∧w'.cell? ⟨ib0,1,none⟩=some (.int .i64 ia)∧w'.cell? ⟨ib0,2,none⟩=some (.int .i64 ib)∧w'.cell? ⟨w1.heap.size,0,none⟩=some (.int .i64 2)∧w'.cell? ⟨w1.heap.size,1,none⟩=some (.int .i64 ia)∧w'.cell? ⟨K,0,none⟩=some (.slice h.co m.cl.length h.cc)∧w'.cell? ⟨K,1,none⟩=some (.slice h.so m.st.length h.sc)∧w'.cell? ⟨K,2,none⟩=some (.slice h.eo m.me.length h.ec)∧w'.cell? ⟨K,3,none⟩=some (.int .i64 m.sel)) (oL [0,1,2,3,4,5,6,7,8,9,10,11,12,13,14,115,16,17,18,19,20,21,22,23,24,125,26,27,128]) (HS.out _ _ HV1.out.drew (Ck.drew HC1.out)) ?_
 have HU2:=Zh HU1.out.drew
 have HV2:=Zh HV1.out.drew
 have HC2:=Zh (Ck.drew HC1.out)
 repeat refine pO ?_
 refine oO fun Kv hK=>?_
 go_simp
 refine (HF1.out _ HU2.out).mono ?_
 rintro r w3 ⟨rfl,hb3⟩
 have HU3:=Zh (HU2.out.bel hb3)
 have HV3:=Zh (HV2.out.bel hb3)
 have HC3:=Zh (HC2.out.old hb3)
 clear hb3
 refine hK _ _ ⟨HS.out _ _ HV3.out HC3.out,?_⟩
 clear hK Kv
 repeat refine pO ?_
 refine oO fun Kv hK=>?_
 go_simp
 refine (HF3.out _ HU3.out).mono ?_
 rintro r w4 ⟨rfl,hb4⟩
 have HU4:=Zh (HU3.out.bel hb4)
 have HV4:=Zh (HV3.out.bel hb4)
 have HC4:=Zh (HC3.out.old hb4)
 clear hb4
 refine hK _ _ ⟨HS.out _ _ HV4.out HC4.out,?_⟩
 clear hK Kv
 repeat refine pO ?_
 refine oO fun Kv hK=>?_
 go_simp
 refine (ZeU K h m L S O _ _ _ HC4.out).mono ?_
 rintro r w5 ⟨⟨v5,rfl⟩,hc5,hu5⟩
 have HU5:=Zh (HU4.out.trans hu5)
 have HV5:=Zh (HV4.out.trans hu5)
 have HC5:=Zh hc5
 clear hc5 hu5
 refine hK _ _ ⟨HS.out _ _ HV5.out HC5.out,?_⟩
 clear hK Kv
 repeat refine pO ?_
 refine Zd5 ?_
 have u0:=(HS.out _ _ HV5.out HC5.out)
 obtain ⟨-,-,-,-,-,-,v0,v1,-⟩:=u0
 go_wp2
 go_ret
 refine ⟨some ⟨w5.heap.size,0,none⟩,1,[_],_,rfl,ZeP.one (t:=⟨2,ia⟩) (Blk.new w5 _ _),Ck.old HC5.out bE,HU5.out.alloc _,rfl,?_⟩
 rw [HF2.out]
end
end
end Go.Proofs.YtcfjblcgceednaaGreat
