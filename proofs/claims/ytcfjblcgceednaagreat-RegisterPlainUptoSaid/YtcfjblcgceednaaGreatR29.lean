/- Joined texts. The first: ref05.Copy: a module of the call's own that reads as the given one. -/
import Derived.Test.YtcfjblcgceednaaGreatR25
set_option linter.all false
set_option linter.unusedVariables false
set_option linter.unusedSimpArgs false
set_option maxRecDepth 100000
set_option maxHeartbeats 8000000
namespace Go.Proofs.YtcfjblcgceednaaGreat
theorem j0{p:Prop}(h:p:=by
 refine hK _ _ ⟨HS.out _ hb5,?_⟩
 clear hK Kv hg
 repeat refine pO ?_
 have z0:=hz5.cell 0 (v:=.slice none 0 0) rfl
 have f0:=hz5.frozen 0
 have z1:=hz5.cell 1 (v:=.slice none 0 0) rfl
 have f1:=hz5.frozen 1
 have z2:=hz5.cell 2 (v:=.slice none 0 0) rfl
 have f2:=hz5.frozen 2
 have z3:=hz5.cell 3 (v:=.int .i64 0) rfl
 have f3:=hz5.frozen 3
 have zl:=hz5.lt
 refine oO fun Kv hK=>?_
 go_simp
 refine hK _ _ ⟨HS.out _ (ZcW (ZcW (ZcW (ZcW hb5 hle0 _) hle0 _) hle0 _) hle0 _),?_⟩
 refine Zd5 ?_
 exact key OB _ _ _ _ _ _ _ _ ao ac (ZcW (ZcW (ZcW (ZcW hb5 hle0 _) hle0 _) hle0 _) hle0 _) (by have:=HSz.out;omega) (by have:=HSz.out;omega) (by have:=HSz.out;omega) ((((hz5.set 0 (.slice none 0 0)).set 1 (.slice ao m.st.length ac)).set 2 (.slice none 0 0)).set 3 (.int .i64 m.sel)) (ZoJ (ZoJ (ZoJ (ZoJ hown hz5 (by decide) 0 (.slice none 0 0)) (hz5.set 0 (.slice none 0 0)) (by decide) 1 (.slice ao m.st.length ac)) ((hz5.set 0 (.slice none 0 0)).set 1 (.slice ao m.st.length ac)) (by decide) 2 (.slice none 0 0)) (((hz5.set 0 (.slice none 0 0)).set 1 (.slice ao m.st.length ac)).set 2 (.slice none 0 0)) (by decide) 3 (.int .i64 m.sel))):p:=h
section
open Go.RowKit
theorem ZoG {w:World}{b base:Nat}{e:TypeId}{size:Nat} (hb:b=w.heap.size) (h:base≤w.heap.size):(w.alloc (.cells #[] e)).ownsRow base e size (.slice (some ⟨b,0,none⟩) 0 0) 0 []:=by subst hb;exact ZnO w base e size h
theorem ZoH {w w':World}{base:Nat}{e:TypeId}{size:Nat}{v:Value}{n:Nat}{xs:List Value} (h:w.ownsRow base e size v n xs) (hb:Below w.heap.size w w'):w'.ownsRow base e size v n xs:=ZhI h fun k hk=>hb.block k (h.lt k hk).2
section
variable {w:World}{base:Nat}{e:TypeId}{size:Nat}{v:Value}{n:Nat}{xs:List Value}(h:w.ownsRow base e size v n xs){b:Nat}{ys:Array Value}{t:TypeId}(hb:Blk w b ys t)(ht:e≠t)
include w base e size v n xs h b ys t hb ht
theorem ZoI:some b≠v.ownBlock:=by
 intro q
 rcases h.2 with ⟨hv,_⟩|⟨g,c,cur,hv,_,hg,_⟩
 ·rw [hv] at q;cases q
 ·rw [hv] at q
  have e':b=g:=Option.some.inj q
  subst e'
  rw [show w.heap[b]?=_ from hb] at hg
  cases hg
  exact ht rfl
theorem ZoJ (i:Nat) (u:Value):(w.setCell ⟨b,i,none⟩ u).ownsRow base e size v n xs:=
 ownsRow_setCell_other h (fun q=>ZoI h hb ht q.symm) u
end
theorem ZoK {α:Type} [Cells α] {w:World}{ao:Option Addr}{cap:Nat}{l:List α} (h:Zar w ao cap l) (o:Obj):Zar (w.alloc o) ao cap l:=h.old ((Below.refl _ _).alloc (Nat.le_refl _) o)
theorem ZoL {w w8:World}{o:Obj}{base:Nat}{e:TypeId}{size:Nat}{v:Value}{n:Nat}{xs:List Value} (ho:w.ownsRow base e size v n xs) (hg:(w.alloc o).grownBy w8 v.ownBlock) {b:Nat}{ys:Array Value}{t:TypeId} (hb:Blk w b ys t) (ht:e≠t):Blk w8 b ys t:=Blk.grownV (hb.alloc o) hg (ZoI (ho.alloc o) (hb.alloc o) ht)
theorem ZoM {α β:Type} [Inhabited α] (l:List α) (f:Nat→β) (k:Nat):ZnJ l f (k+1)=ZnJ l f k++[(l.getD k default,f k)]:=rfl
theorem ZoN {wr w1 w3:World}{b N:Nat}{xs:Array Value}{t e:TypeId}{size n cap:Nat}{ao:Option Addr}{ys:List Value} (i:Nat) (hN:N≤wr.heap.size) (hbl:Below wr.heap.size wr w1) (hx:Blk w1 b xs t) (hb:wr.heap.size≤b)
  (ho:w3.ownsRow N e size (.slice ao (0+n) cap) (0+n) ([]++ys)) (hg:(w1.alloc (.cells #[] e)).grownBy w3 (Value.slice (some ⟨w1.heap.size,0,none⟩) 0 0).ownBlock) (ht:e≠t) :
  ∃ w4,w4=w3.setCell ⟨b,i,none⟩ (.slice ao n cap)∧RowKit.Hid (Below wr.heap.size wr w4)∧RowKit.Hid (Blk w4 b (xs.setIfInBounds i (.slice ao n cap)) t)∧RowKit.Hid (w4.ownsRow N e size (.slice ao n cap) n ys)∧RowKit.Hid (∀ {base':Nat}{e':TypeId}{size':Nat}{v':Value}{n':Nat}{ys':List Value},w1.ownsRow base' e' size' v' n' ys'→e'≠t→w4.ownsRow base' e' size' v' n' ys')∧w3.frozen? ⟨b,i,none⟩=false∧Blk w3 b xs t:=by
 have h13:Below w1.heap.size w1 w3:=ZcV (bal (Below.refl _ _) _) hg (fun j hj=>by cases hj;exact Nat.le_refl _)
 have hx3:Blk w3 b xs t:=hx.old h13
 rw [Nat.zero_add,List.nil_append] at ho
 exact ⟨_,rfl,ZcW (Zaf hbl h13) hb _,hx3.set i _,ZoJ ho hx3 ht _ _,fun h1 h2=>ZoJ (ZoH h1 h13) hx3 h2 _ _,hx3.frozen i,hx3⟩
def CpD (f:Nat→MHd) (k:Nat):Prop:=∀ i j,i<j→j<k→∀ a b,(f i).ko=some a→(f j).ko=some b→a.block≠b.block
theorem ZoO {w:World}{base:Nat}{e:TypeId}{size:Nat}{ao:Option Addr}{n cap:Nat}{xs:List Value} (h:w.ownsRow base e size (.slice ao n cap) n xs):∀ a,ao=some a→base≤a.block∧a.block<w.heap.size:=fun a ha=>by
 subst ha
 exact h.lt a.block rfl
theorem ZoP {f:Nat→MHd}{k N:Nat}{x:MHd} (h:CpD f k) (hf:∀ i,i<k→∀ a,(f i).ko=some a→a.block<N) (hx:∀ b,x.ko=some b→N≤b.block):CpD (fun i=>if i=k then x else f i) (k+1):=fun i j hij hj a b ha hb=>by
 dsimp only at ha hb
 rw [if_neg (by omega)] at ha
 by_cases e:j=k
 ·rw [if_pos e] at hb
  have:=hf i (by omega) a ha
  have:=hx b hb
  omega
 ·rw [if_neg e] at hb
  exact h i j hij (by omega) a b ha hb
theorem ZoQ (w:World) (h:Hd) (m:Md) (H:Zay w h m) (hs:ZnQ m):Calls Tryz.prog 34 #[.agg #[.slice h.co m.cl.length h.cc,.slice h.so m.st.length h.sc,.slice h.eo m.me.length h.ec,.int .i64 m.sel]] w fun e w'=>∃ h':Hd,e=.returned (.agg #[.slice h'.co m.cl.length h'.cc,.slice h'.so m.st.length h'.sc,.slice h'.eo m.me.length h'.ec,.int .i64 m.sel])∧ZnP w' w.heap.size h' m∧Below w.heap.size w w'∧CpD h'.e m.me.length:=by
 have hX:=(Blk.new w #[.slice h.co m.cl.length h.cc,.slice h.so m.st.length h.sc,.slice h.eo m.me.length h.ec,.int .i64 m.sel] 26).alloc (.cells #[.slice none 0 0,.slice none 0 0,.slice none 0 0,.int .i64 0] 26)
 have hR:Blk ((w.alloc (.cells #[.slice h.co m.cl.length h.cc,.slice h.so m.st.length h.sc,.slice h.eo m.me.length h.ec,.int .i64 m.sel] 26)).alloc (.cells #[.slice none 0 0,.slice none 0 0,.slice none 0 0,.int .i64 0] 26)) (w.heap.size+1) #[.slice none 0 0,.slice none 0 0,.slice none 0 0,.int .i64 0] 26:=Blk.new' _ _ (by simp)
 have hb0:Below w.heap.size w ((w.alloc (.cells #[.slice h.co m.cl.length h.cc,.slice h.so m.st.length h.sc,.slice h.eo m.me.length h.ec,.int .i64 m.sel] 26)).alloc (.cells #[.slice none 0 0,.slice none 0 0,.slice none 0 0,.int .i64 0] 26)):=by exact bE
 have hs1:=hs.st
 have HM:=Zh H
 have HSm:=Zh hs
 clear H hs
 obtain ⟨co,cc,so,sc,eo,ec,hc,he⟩:=h
 dsimp only at hX hR hb0 HM ⊢
 have hsz:((w.alloc (.cells #[.slice co m.cl.length cc,.slice so m.st.length sc,.slice eo m.me.length ec,.int .i64 m.sel] 26)).alloc (.cells #[.slice none 0 0,.slice none 0 0,.slice none 0 0,.int .i64 0] 26)).heap.size=w.heap.size+2:=by simp
 obtain ⟨W0,hW0⟩:∃ W0,W0=(w.alloc (.cells #[.slice co m.cl.length cc,.slice so m.st.length sc,.slice eo m.me.length ec,.int .i64 m.sel] 26)).alloc (.cells #[.slice none 0 0,.slice none 0 0,.slice none 0 0,.int .i64 0] 26):=⟨_,rfl⟩
 rw [←hW0] at hX hR hb0 hsz
 have HX:=Zh hX
 have HR:=Zh hR
 have HB0:=Zh hb0
 have HSz:=Zh hsz
 have HW:=Zh hW0
 clear hX hR hb0 hsz hW0
 go_enter Tryz.func34,Tryz.ntmps34
 go_upto_region 1 with fail
 rw [←HW.out]
 rename_i K hK
 have key:∀ (OB:Nat) (wz:World) (u8 u9 u10 u11 u12 u13 u14:Value) (so':Option Addr) (sc':Nat),Below W0.heap.size W0 wz→OB≠w.heap.size→OB≠w.heap.size+1→w.heap.size≤OB→Blk wz OB #[.slice none 0 0,.slice so' m.st.length sc',.slice none 0 0,.int .i64 m.sel] 26→wz.ownsRow w.heap.size 76 2 (.slice so' m.st.length sc') m.st.length (Zak m.st)→K { tmps:=#[.agg #[.slice co m.cl.length cc,.slice so m.st.length sc,.slice eo m.me.length ec,.int .i64 m.sel],.pointer (some ⟨w.heap.size,0,none⟩),.pointer (some ⟨w.heap.size+1,0,none⟩),.pointer (some ⟨OB,0,none⟩),undef,undef,undef,undef,u8,u9,u10,u11,u12,u13,u14,undef,undef,undef,undef,undef,undef,undef,undef,undef,undef,undef,undef,undef,undef,undef,undef,undef,undef,undef,undef,undef,undef,undef,undef,undef,undef,undef,undef,undef,undef,undef,undef,undef,undef,undef,undef,undef,undef,undef,undef,undef,undef,undef,undef,undef,undef,undef,undef,undef,undef,undef,undef,undef,undef,undef,undef,undef,undef,undef,undef,undef,undef],defers:=[] } wz:=by
  intro OB wz u8 u9 u10 u11 u12 u13 u14 so' sc' hbz hne0 hne1 hle hob host
  refine hK _ _ ?_
  clear hK
  go_wp2_with fail
  go_loopw [4] (fun i wr=>∃ (k:Nat) (c':Nat→CHd) (co':Option Addr) (cc':Nat),k≤m.cl.length∧i=.int .i64 k∧Below w.heap.size w wr∧Blk wr w.heap.size #[.slice co m.cl.length cc,.slice so m.st.length sc,.slice eo m.me.length ec,.int .i64 m.sel] 26∧Blk wr (w.heap.size+1) #[.slice none 0 0,.slice none 0 0,.slice none 0 0,.int .i64 0] 26∧Blk wr OB #[.slice co' k cc',.slice so' m.st.length sc',.slice none 0 0,.int .i64 m.sel] 26∧wr.ownsRow w.heap.size 99 4 (.slice co' k cc') k (Zak (ZnJ m.cl c' k))∧(∀ i,i<k→CpC wr w.heap.size (c' i) (m.cl.getD i default))∧wr.ownsRow w.heap.size 76 2 (.slice so' m.st.length sc') m.st.length (Zak m.st)) (fun i _=>m.cl.length-(intOf i).toNat)
  case atStart=>exact ⟨0,fun _=>default,none,0,by omega,rfl,Zaf HB0.out hbz,HX.out.old hbz,HR.out.old hbz,hob,World.ownsRow_nil _ _ _ _,fun i hi=>by omega,host⟩
  case round=>
   obtain ⟨k,c',co',cc',hk,rfl,hbw,hbx,hbr,hbo,hrow,hcp,hold⟩:=hrel
   have hN:w.heap.size≤wr.heap.size:=hbw.size
   have x0:=hbx.cell 0 (v:=.slice co m.cl.length cc) rfl
   have xl:=hbx.lt
   have HBw:=Zh hbw
   have HBx:=Zh hbx
   have HBr:=Zh hbr
   have HBo:=Zh hbo
   have HRow:=Zh hrow
   have HCp:=Zh hcp
   have HOl:=Zh hold
   clear hbw hbx hbr hbo hrow hcp hold
   by_cases hkl:k<m.cl.length
   ·obtain ⟨ad,had,d0,d1,d2,d3⟩:=(HM.out.old HBw.out).cls hkl
    dsimp only at had
    subst had
    have hkn:(k:Int) < m.cl.length:=by omega
    have hwr:IntKind.i64.wrap ((k:Int)+1)=k+1:=IntWalk.i64_in _ (by have:=HSm.out.cl;omega)
    have hsz:=HSm.out.c k hkl
    have hr2:=(HM.out.old HBw.out).f k hkl
    have hr3:=(HM.out.old HBw.out).t k hkl
    dsimp only at hr2 hr3 d0 d1 d2 d3
    have hxk:m.cl.getD k default=m.cl.getD k default:=rfl
    generalize hxe:m.cl.getD k default=x at d0 d1 d2 d3 hsz hr2 hr3
    have HXe:=Zh hxe
    generalize hc k=y at d0 d1 d2 d3 hr2 hr3
    obtain ⟨nm,sp,fl,ml⟩:=x
    obtain ⟨fo,fc,mo,mc⟩:=y
    dsimp only at d0 d1 d2 d3 hsz hr2 hr3
    have HR2:=Zh hr2
    have HR3:=Zh hr3
    clear hxe hxk hr2 hr3
    go_upto_region 6 with fail
    have hx1:=Blk.new wr #[.string nm,.int .i64 sp,.slice fo fl.length fc,.slice mo ml.length mc] 99
    have hb1:Below wr.heap.size wr (wr.alloc (.cells #[.string nm,.int .i64 sp,.slice fo fl.length fc,.slice mo ml.length mc] 99)):=by exact bE
    have hz1:(wr.alloc (.cells #[.string nm,.int .i64 sp,.slice fo fl.length fc,.slice mo ml.length mc] 99)).heap.size=wr.heap.size+1:=by simp
    generalize wr.alloc _=w1 at hx1 hb1 hz1 ⊢
    obtain ⟨B,hB⟩:∃ B,B=wr.heap.size:=⟨_,rfl⟩
    have hBl:wr.heap.size≤B:=by omega
    rw [←hB] at hx1 ⊢
    have HBl:=Zh hBl
    have HB1:=Zh hb1
    have HX1:=Zh hx1
    clear hx1 hb1 hz1 hB hBl d0 d1 d2 d3 x0
    have y2:=HX1.out.cell 2 (v:=.slice fo fl.length fc) rfl
    have yl:=HX1.out.lt
    go_upto_region 7 with (at_builtin;refine Zaj rfl (.tmp 27) (.tmp 29) 23 rfl w.heap.size 76 2 16 Zff _ 0 [] rfl (ZoG rfl (Nat.le_trans hN HB1.out.size)) _ _ _ _ rfl (ZoK (Zar.old HR2.out HB1.out) _) (Zaq _) (by omega) (by unfold maxLen;omega) (by have:=HB1.out.size;simp;omega) ?_;intro ao2 ac2 w3 hown hg;obtain ⟨w4,hw4,HB2,HX2,HF2,HG2,hfz,hx3⟩:=ZoN 2 hN HB1.out HX1.out HBl.out hown hg (by decide);have z2:=hx3.cell 2 (v:=.slice fo fl.length fc) rfl;clear hown hg hx3)
    try simp only [Nat.zero_add]
    rw [←hw4]
    clear hw4 hfz yl y2 z2
    have y3:=HX2.out.cell 3 (v:=.slice mo ml.length mc) rfl
    have yl:=HX2.out.lt
    go_upto_region 8 with (at_builtin;refine Zaj rfl (.tmp 32) (.tmp 34) 34 rfl w.heap.size 3 1 8 Zcq _ 0 [] rfl (ZoG rfl (Nat.le_trans hN HB2.out.size)) _ _ _ _ rfl (ZoK (Zar.old HR3.out HB2.out) _) (Zaq _) (by omega) (by unfold maxLen;omega) (by have:=HB2.out.size;simp;omega) ?_;intro ao3 ac3 w3 hown hg;obtain ⟨w4,hw4,HB3,HX3,HF3,HG3,hfz,hx3⟩:=ZoN 3 hN HB2.out HX2.out HBl.out hown hg (by decide);have z3:=hx3.cell 3 (v:=.slice mo ml.length mc) rfl;clear hown hg hx3)
    try simp only [Nat.zero_add]
    rw [←hw4]
    clear hw4 hfz yl y3 z3
    have HE2:=Zh (HG3.out HF2.out (by decide))
    have HE3:=HF3
    have y0:=HX3.out.cell 0 (v:=.string nm) rfl
    have y1:=HX3.out.cell 1 (v:=.int .i64 sp) rfl
    have y2:=HX3.out.cell 2 (v:=.slice ao2 fl.length ac2) rfl
    have y3:=HX3.out.cell 3 (v:=.slice ao3 ml.length ac3) rfl
    have yl:=HX3.out.lt
    have hob4:=HBo.out.old HB3.out
    have o0:=hob4.cell 0 (v:=.slice co' k cc') rfl
    have ol:=hob4.lt
    have HO4:=Zh (ZoH HRow.out HB3.out)
    go_upto_region 4 with (at_builtin;refine Zaj rfl (.tmp 38) (.tmp 40) 22 rfl w.heap.size 99 4 72 ZnG _ k _ rfl (HO4.out.alloc _) _ 1 1 [.string nm,.int .i64 sp,.slice ao2 fl.length ac2,.slice ao3 ml.length ac3] rfl (ZdL (Blk.new' #[.string nm,.int .i64 sp,.slice ao2 fl.length ac2,.slice ao3 ml.length ac3] 99 (by simp)) rfl) (by intro u hu;simp only [List.mem_cons,List.not_mem_nil,or_false] at hu;rcases hu with rfl|rfl|rfl|rfl<;>rfl) (by have:=HSm.out.cl;omega) (by have:=HSm.out.cl;unfold maxLen;omega) (by have:=HB3.out.size;simp;omega) ?_;intro ro2 rc2 w8 hown8 hg8;have hob8:=ZoL HO4.out hg8 hob4 (by decide);have z0:=hob8.cell 0 (v:=.slice co' k cc') rfl;have zf:=hob8.frozen 0;have zl:=hob8.lt;have HO8:=Zh hown8;have HG8:=Zh hg8;have HB8:=Zh hob8;clear hown8 hg8 hob8)
    have hkp2:Kp [26,99] w.heap.size w4 (w8.setCell ⟨OB,0,none⟩ (.slice ro2 (k+1) rc2)):=((Kp.of (bal (Below.refl _ _) _) (Nat.le_trans hN HB3.out.size)).trans (Kp.grown (HO4.out.alloc _) HG8.out (Nat.le_refl _) (by have:=HB3.out.size;simp;omega) (by decide))).set HB8.out (by decide) hle 0 _
    have hkp:=(Kp.of HB3.out hN).trans hkp2
    have hA:=Blk.other (ZoL HO4.out HG8.out (HBx.out.old HB3.out) (by decide)) (a:=⟨OB,0,none⟩) hne0.symm (.slice ro2 (k+1) rc2)
    have hR:=Blk.other (ZoL HO4.out HG8.out (HBr.out.old HB3.out) (by decide)) (a:=⟨OB,0,none⟩) hne1.symm (.slice ro2 (k+1) rc2)
    have HK2:=Zh hkp2
    have HK:=Zh hkp
    have HA:=Zh hA
    have HR:=Zh hR
    clear hkp2 hkp hA hR y0 y1 y2 y3 o0 ol hob4 z0 zf zl yl
    go_wp2
    go_roundw
    case rel=>
     refine ⟨k+1,fun i=>if i=k then ⟨ao2,ac2,ao3,ac3⟩ else c' i,ro2,rc2,by omega,by go_num,HBw.out.trans HK.out.bw,HA.out,HR.out,HB8.out.set 0 _,?_,fun i hi=>?_,HK.out.own HOl.out⟩
     ·have h9:=ZoJ HO8.out HB8.out (by decide) 0 (.slice ro2 (k+1) rc2)
      have e:Zak (ZnJ m.cl (fun i=>if i=k then ⟨ao2,ac2,ao3,ac3⟩ else c' i) (k+1))=Zak (ZnJ m.cl c' k)++[.string nm,.int .i64 sp,.slice ao2 fl.length ac2,.slice ao3 ml.length ac3]:=by
       rw [ZoM,Zan,Zao,ZnL m.cl (g:=c') k (fun i hi=>if_neg (by omega)),HXe.out,if_pos rfl]
       rfl
      rw [e]
      exact h9
     ·by_cases hik:i=k
      ·subst hik
       show CpC _ _ (if i=i then _ else _) _
       rw [if_pos rfl,HXe.out]
       exact (⟨HE2.out,HE3.out⟩:CpC w4 _ _ _).kp HK2.out
      ·show CpC _ _ (if i=k then _ else _) _
       rw [if_neg hik]
       exact (HCp.out i (by omega)).kp HK.out
    case measure=>simp [intOf];omega
   ·have hkn:¬ (k:Int) < m.cl.length:=by omega
    obtain rfl:k=m.cl.length:=by omega
    go_wp2_with fail
    go_loopw [6] (fun i wr=>∃ (k:Nat) (e':Nat→MHd) (eo':Option Addr) (ec':Nat),k≤m.me.length∧i=.int .i64 k∧Below w.heap.size w wr∧Blk wr w.heap.size #[.slice co m.cl.length cc,.slice so m.st.length sc,.slice eo m.me.length ec,.int .i64 m.sel] 26∧Blk wr (w.heap.size+1) #[.slice none 0 0,.slice none 0 0,.slice none 0 0,.int .i64 0] 26∧Blk wr OB #[.slice co' m.cl.length cc',.slice so' m.st.length sc',.slice eo' k ec',.int .i64 m.sel] 26∧wr.ownsRow w.heap.size 81 7 (.slice eo' k ec') k (Zak (ZnJ m.me e' k))∧((∀ i,i<k→CpM wr w.heap.size (e' i) (m.me.getD i default))∧CpD e' k)∧wr.ownsRow w.heap.size 99 4 (.slice co' m.cl.length cc') m.cl.length (Zak (ZnJ m.cl c' m.cl.length))∧(∀ i,i<m.cl.length→CpC wr w.heap.size (c' i) (m.cl.getD i default))∧wr.ownsRow w.heap.size 76 2 (.slice so' m.st.length sc') m.st.length (Zak m.st)) (fun i _=>m.me.length-(intOf i).toNat)
    case atStart=>exact ⟨0,fun _=>default,none,0,by omega,rfl,HBw.out,HBx.out,HBr.out,HBo.out,World.ownsRow_nil _ _ _ _,⟨fun i hi=>by omega,fun i j _ hj=>by omega⟩,HRow.out,HCp.out,HOl.out⟩
    case round=>
     obtain ⟨k,e',eo',ec',hk,rfl,hbw,hbx,hbr,hbo,hrow,hcp,hold⟩:=hrel
     have hN:w.heap.size≤wr.heap.size:=hbw.size
     have x0:=hbx.cell 2 (v:=.slice eo m.me.length ec) rfl
     have xl:=hbx.lt
     have HBw:=Zh hbw
     have HBx:=Zh hbx
     have HBr:=Zh hbr
     have HBo:=Zh hbo
     have HRow:=Zh hrow
     have HCp:=Zh hcp
     have HOl:=Zh hold
     clear hbw hbx hbr hbo hrow hcp hold
     by_cases hkl:k<m.me.length
     ·obtain ⟨ad,had,d0,d1,d2,d3,d4,d5,d6⟩:=(HM.out.old HBw.out).mth hkl
      dsimp only at had
      subst had
      have hkn:(k:Int) < m.me.length:=by omega
      have hwr:IntKind.i64.wrap ((k:Int)+1)=k+1:=IntWalk.i64_in _ (by have:=HSm.out.me;omega)
      have hsz:=HSm.out.m k hkl
      have hr2:=(HM.out.old HBw.out).p k hkl
      have hr3:=(HM.out.old HBw.out).l k hkl
      have hr6:=(HM.out.old HBw.out).k k hkl
      dsimp only at hr2 hr3 hr6 d0 d1 d2 d3 d4 d5 d6
      have hxk:m.me.getD k default=m.me.getD k default:=rfl
      generalize hxe:m.me.getD k default=x at d0 d1 d2 d3 d4 d5 d6 hsz hr2 hr3 hr6
      have HXe:=Zh hxe
      generalize he k=y at d0 d1 d2 d3 d4 d5 d6 hr2 hr3 hr6
      obtain ⟨nm,mc,pl,ll,⟨rk,rq⟩,kl⟩:=x
      obtain ⟨po,pc,lo,lc,ko,kc⟩:=y
      dsimp only at d0 d1 d2 d3 d4 d5 d6 hsz hr2 hr3 hr6
      have HR2:=Zh hr2
      have HR3:=Zh hr3
      have HR6:=Zh hr6
      clear hxe hxk hr2 hr3 hr6
      go_upto_region 13 with fail
      have hx1:=Blk.new wr #[.string nm,.int .i64 mc,.slice po pl.length pc,.slice lo ll.length lc,.int .i64 rk,.int .i64 rq,.slice ko kl.length kc] 81
      have hb1:Below wr.heap.size wr (wr.alloc (.cells #[.string nm,.int .i64 mc,.slice po pl.length pc,.slice lo ll.length lc,.int .i64 rk,.int .i64 rq,.slice ko kl.length kc] 81)):=by exact bE
      have hz1:(wr.alloc (.cells #[.string nm,.int .i64 mc,.slice po pl.length pc,.slice lo ll.length lc,.int .i64 rk,.int .i64 rq,.slice ko kl.length kc] 81)).heap.size=wr.heap.size+1:=by simp
      generalize wr.alloc _=w1 at hx1 hb1 hz1 ⊢
      obtain ⟨B,hB⟩:∃ B,B=wr.heap.size:=⟨_,rfl⟩
      have hBl:wr.heap.size≤B:=by omega
      rw [←hB] at hx1 ⊢
      have HBl:=Zh hBl
      have HB1:=Zh hb1
      have HX1:=Zh hx1
      clear hx1 hb1 hz1 hB hBl d0 d1 d2 d3 d4 d5 d6 x0
      have y2:=HX1.out.cell 2 (v:=.slice po pl.length pc) rfl
      have yl:=HX1.out.lt
      go_upto_region 14 with (at_builtin;refine Zaj rfl (.tmp 55) (.tmp 57) 23 rfl w.heap.size 76 2 16 Zff _ 0 [] rfl (ZoG rfl (Nat.le_trans hN HB1.out.size)) _ _ _ _ rfl (ZoK (Zar.old HR2.out HB1.out) _) (Zaq _) (by omega) (by unfold maxLen;omega) (by have:=HB1.out.size;simp;omega) ?_;intro ao2 ac2 w3 hown hg;obtain ⟨w4,hw4,HB2,HX2,HF2,HG2,hfz,hx3⟩:=ZoN 2 hN HB1.out HX1.out HBl.out hown hg (by decide);have z2:=hx3.cell 2 (v:=.slice po pl.length pc) rfl;clear hown hg hx3)
      try simp only [Nat.zero_add]
      rw [←hw4]
      clear hw4 hfz yl y2 z2
      have y3:=HX2.out.cell 3 (v:=.slice lo ll.length lc) rfl
      have yl:=HX2.out.lt
      go_upto_region 15 with (at_builtin;refine Zaj rfl (.tmp 60) (.tmp 62) 23 rfl w.heap.size 76 2 16 Zff _ 0 [] rfl (ZoG rfl (Nat.le_trans hN HB2.out.size)) _ _ _ _ rfl (ZoK (Zar.old HR3.out HB2.out) _) (Zaq _) (by omega) (by unfold maxLen;omega) (by have:=HB2.out.size;simp;omega) ?_;intro ao3 ac3 w3 hown hg;obtain ⟨w4,hw4,HB3,HX3,HF3,HG3,hfz,hx3⟩:=ZoN 3 hN HB2.out HX2.out HBl.out hown hg (by decide);have z3:=hx3.cell 3 (v:=.slice lo ll.length lc) rfl;clear hown hg hx3)
      try simp only [Nat.zero_add]
      rw [←hw4]
      clear hw4 hfz yl y3 z3
      have y6:=HX3.out.cell 6 (v:=.slice ko kl.length kc) rfl
      have yl:=HX3.out.lt
      go_upto_region 16 with (at_builtin;refine Zaj rfl (.tmp 65) (.tmp 67) 79 rfl wr.heap.size 78 3 24 ZnI _ 0 [] rfl (ZoG rfl HB3.out.size) _ _ _ _ rfl (ZoK (Zar.old HR6.out HB3.out) _) (Zaq _) (by omega) (by unfold maxLen;omega) (by have:=HB3.out.size;simp;omega) ?_;intro ao6 ac6 w3 hown hg;obtain ⟨w4,hw4,HB4,HX4,HF6,HG6,hfz,hx3⟩:=ZoN 6 (Nat.le_refl _) HB3.out HX3.out HBl.out hown hg (by decide);have z6:=hx3.cell 6 (v:=.slice ko kl.length kc) rfl;clear hown hg hx3)
      try simp only [Nat.zero_add]
      rw [←hw4]
      clear hw4 hfz yl y6 z6
      have HE2:=Zh (HG6.out (HG3.out HF2.out (by decide)) (by decide))
      have HE3:=Zh (HG6.out HF3.out (by decide))
      have HE6:=HF6
      have y0:=HX4.out.cell 0 (v:=.string nm) rfl
      have y1:=HX4.out.cell 1 (v:=.int .i64 mc) rfl
      have y2:=HX4.out.cell 2 (v:=.slice ao2 pl.length ac2) rfl
      have y3:=HX4.out.cell 3 (v:=.slice ao3 ll.length ac3) rfl
      have y4:=HX4.out.cell 4 (v:=.int .i64 rk) rfl
      have y5:=HX4.out.cell 5 (v:=.int .i64 rq) rfl
      have y6:=HX4.out.cell 6 (v:=.slice ao6 kl.length ac6) rfl
      have yl:=HX4.out.lt
      have hob4:=HBo.out.old HB4.out
      have o0:=hob4.cell 2 (v:=.slice eo' k ec') rfl
      have ol:=hob4.lt
      have HO4:=Zh (ZoH HRow.out HB4.out)
      go_upto_region 11 with (at_builtin;refine Zaj rfl (.tmp 71) (.tmp 73) 24 rfl w.heap.size 81 7 112 ZnH _ k _ rfl (HO4.out.alloc _) _ 1 1 [.string nm,.int .i64 mc,.slice ao2 pl.length ac2,.slice ao3 ll.length ac3,.int .i64 rk,.int .i64 rq,.slice ao6 kl.length ac6] rfl (ZdL (Blk.new' #[.string nm,.int .i64 mc,.slice ao2 pl.length ac2,.slice ao3 ll.length ac3,.int .i64 rk,.int .i64 rq,.slice ao6 kl.length ac6] 81 (by simp)) rfl) (by intro u hu;simp only [List.mem_cons,List.not_mem_nil,or_false] at hu;rcases hu with rfl|rfl|rfl|rfl|rfl|rfl|rfl<;>rfl) (by have:=HSm.out.me;omega) (by have:=HSm.out.me;unfold maxLen;omega) (by have:=HB4.out.size;simp;omega) ?_;intro ro2 rc2 w8 hown8 hg8;have hob8:=ZoL HO4.out hg8 hob4 (by decide);have z0:=hob8.cell 2 (v:=.slice eo' k ec') rfl;have zf:=hob8.frozen 2;have zl:=hob8.lt;have HO8:=Zh hown8;have HG8:=Zh hg8;have HB8:=Zh hob8;clear hown8 hg8 hob8)
      have hkp2:Kp [26,81] w.heap.size w4 (w8.setCell ⟨OB,2,none⟩ (.slice ro2 (k+1) rc2)):=((Kp.of (bal (Below.refl _ _) _) (Nat.le_trans hN HB4.out.size)).trans (Kp.grown (HO4.out.alloc _) HG8.out (Nat.le_refl _) (by have:=HB4.out.size;simp;omega) (by decide))).set HB8.out (by decide) hle 2 _
      have hkp:=(Kp.of HB4.out hN).trans hkp2
      have hA:=Blk.other (ZoL HO4.out HG8.out (HBx.out.old HB4.out) (by decide)) (a:=⟨OB,2,none⟩) hne0.symm (.slice ro2 (k+1) rc2)
      have hR:=Blk.other (ZoL HO4.out HG8.out (HBr.out.old HB4.out) (by decide)) (a:=⟨OB,2,none⟩) hne1.symm (.slice ro2 (k+1) rc2)
      have HK2:=Zh hkp2
      have HK:=Zh hkp
      have HA:=Zh hA
      have HR:=Zh hR
      clear hkp2 hkp hA hR y0 y1 y2 y3 y4 y5 y6 o0 ol hob4 z0 zf zl yl
      go_wp2
      go_roundw
      case rel=>
       refine ⟨k+1,fun i=>if i=k then ⟨ao2,ac2,ao3,ac3,ao6,ac6⟩ else e' i,ro2,rc2,by omega,by go_num,HBw.out.trans HK.out.bw,HA.out,HR.out,HB8.out.set 2 _,?_,⟨fun i hi=>?_,ZoP HCp.out.2 (fun i hi a ha=>(ZoO (HCp.out.1 i hi).k a ha).2) fun b hb=>(ZoO HE6.out b hb).1⟩,HK.out.own HOl.out.1,fun i hi=>(HOl.out.2.1 i hi).kp HK.out,HK.out.own HOl.out.2.2⟩
       ·have h9:=ZoJ HO8.out HB8.out (by decide) 2 (.slice ro2 (k+1) rc2)
        have e:Zak (ZnJ m.me (fun i=>if i=k then ⟨ao2,ac2,ao3,ac3,ao6,ac6⟩ else e' i) (k+1))=Zak (ZnJ m.me e' k)++[.string nm,.int .i64 mc,.slice ao2 pl.length ac2,.slice ao3 ll.length ac3,.int .i64 rk,.int .i64 rq,.slice ao6 kl.length ac6]:=by
         rw [ZoM,Zan,Zao,ZnL m.me (g:=e') k (fun i hi=>if_neg (by omega)),HXe.out,if_pos rfl]
         rfl
        rw [e]
        exact h9
       ·by_cases hik:i=k
        ·subst hik
         show CpM _ _ (if i=i then _ else _) _
         rw [if_pos rfl,HXe.out]
         exact (⟨HE2.out,HE3.out,Zed HE6.out hN⟩:CpM w4 _ _ _).kp HK2.out
        ·show CpM _ _ (if i=k then _ else _) _
         rw [if_neg hik]
         exact (HCp.out.1 i (by omega)).kp HK.out
      case measure=>simp [intOf];omega
     ·have hkn:¬ (k:Int) < m.me.length:=by omega
      obtain rfl:k=m.me.length:=by omega
      have hbo:=HBo.out
      have hbr:=HBr.out
      have o0:=hbo.cell 0 (v:=.slice co' m.cl.length cc') rfl
      have o1:=hbo.cell 1 (v:=.slice so' m.st.length sc') rfl
      have o2:=hbo.cell 2 (v:=.slice eo' m.me.length ec') rfl
      have o3:=hbo.cell 3 (v:=.int .i64 m.sel) rfl
      have r0:=hbr.cell 0 (v:=.slice none 0 0) rfl
      have r1:=hbr.cell 1 (v:=.slice none 0 0) rfl
      have r2:=hbr.cell 2 (v:=.slice none 0 0) rfl
      have r3:=hbr.cell 3 (v:=.int .i64 0) rfl
      have f0:=hbr.frozen 0
      have f1:=hbr.frozen 1
      have f2:=hbr.frozen 2
      have f3:=hbr.frozen 3
      have hl:=hbr.lt
      have hk:=(((((Kp.refl [26] w.heap.size wr).set hbr (by decide) (Nat.le_succ _) 0 (.slice co' m.cl.length cc')).set (hbr.set 0 _) (by decide) (Nat.le_succ _) 1 (.slice so' m.st.length sc')).set ((hbr.set 0 _).set 1 _) (by decide) (Nat.le_succ _) 2 (.slice eo' m.me.length ec')).set (((hbr.set 0 _).set 1 _).set 2 _) (by decide) (Nat.le_succ _) 3 (.int .i64 m.sel))
      have HKf:=Zh hk
      clear hbo hbr hk
      go_wp2
      refine bodyPost_ret (v:=.agg #[.slice co' m.cl.length cc',.slice so' m.st.length sc',.slice eo' m.me.length ec',.int .i64 m.sel]) (by simp [results,Tryz.results34,go_sem,r0,r1,r2,r3]) rfl ?_
      refine ⟨⟨co',cc',so',sc',eo',ec',c',e'⟩,rfl,⟨?_,HKf.out.own HOl.out.2.2,?_,fun i hi=>(HOl.out.2.1 i hi).kp HKf.out,fun i hi=>(HCp.out.1 i hi).kp HKf.out⟩,HBw.out.trans HKf.out.bw,HCp.out.2⟩
      ·have h9:=HKf.out.own HOl.out.1
       rw [ZnN] at h9
       exact h9
      ·have h9:=HKf.out.own HRow.out
       rw [ZnN] at h9
       exact h9
 clear hK
 have HS:=Zh (show ∀ w',Below W0.heap.size W0 w'→Cs [(⟨w.heap.size,1,none⟩,.slice so m.st.length sc),(⟨w.heap.size,3,none⟩,.int .i64 m.sel)] w' from fun w' hb=>⟨(HX.out.old hb).cell 1 rfl,(HX.out.old hb).cell 3 rfl,trivial⟩)
 refine rO (Cs [(⟨w.heap.size,1,none⟩,.slice so m.st.length sc),(⟨w.heap.size,3,none⟩,.int .i64 m.sel)]) (.plain 0 (.plain 1 (.plain 3 (.plain 4 (.two 2 7 (.two 5 7 (oL [6,107,108]) (oL [105,6,108])) (oL [102,105,6,108])))))) (HS.out _ (Below.drew (Below.refl _ _))) ?_
 repeat refine pO ?_
 have hd0:Below W0.heap.size W0 W0.drew:=Below.drew (Below.refl _ _)
 have HDz:=Zh (show W0.drew.heap.size=W0.heap.size from rfl)
 generalize W0.drew=w1 at hd0 HDz ⊢
 refine Zd4 (Zd2 _ (by rfl) (by rfl) fun Kv hK=>?_) (Zd2 _ (by rfl) (by rfl) fun Kv hK=>?_)
 ·go_simp
  have hb2:Below W0.heap.size W0 (w1.alloc (.cells #[] 76)):=bal hd0 _
  have ho2:(w1.alloc (.cells #[] 76)).ownsRow w.heap.size 76 2 (.slice (some ⟨w1.heap.size,0,none⟩) 0 0) 0 []:=ZoG rfl (by have:=HDz.out;have:=HSz.out;omega)
  have HZ2:=Zh (show (w1.alloc (.cells #[] 76)).heap.size=w1.heap.size+1 by simp)
  refine hK _ _ ⟨HS.out _ hb2,?_⟩
  clear hK Kv
  generalize w1.alloc _=w2 at hb2 ho2 HZ2 ⊢
  generalize w1.heap.size=g at ho2 HZ2 HDz ⊢
  refine Zd4 (Zd2 _ (by rfl) (by rfl) fun Kv hK=>?_) (Zd2 _ (by rfl) (by rfl) fun Kv hK=>?_)
  ·refine Zej (.tmp 10) (.tmp 12) 23 rfl w.heap.size 76 2 16 Zff _ 0 [] rfl ho2 _ _ _ _ rfl (Zar.old HM.out.st (Zaf HB0.out hb2)) (Zaq _) (by omega) (by unfold maxLen;omega) (by have:=HSz.out;have:=(hb2).size;omega) ?_
   intro ao ac w3 hown hg
   rw [Nat.zero_add,List.nil_append] at hown
   have hb3:Below W0.heap.size W0 w3:=ZcV hb2 hg (fun j hj=>by cases hj;show W0.heap.size≤g;have:=HDz.out;omega)
   refine hK _ _ ⟨HS.out _ hb3,?_⟩
   clear hK Kv hg
   repeat refine pO ?_
   refine oO fun Kv hK=>?_
   go_simp
   have hb4:Below W0.heap.size W0 (w3.alloc (.cells #[.slice none 0 0,.slice none 0 0,.slice none 0 0,.int .i64 0] 26)):=bal hb3 _
   have hz4:=Blk.new w3 #[.slice none 0 0,.slice none 0 0,.slice none 0 0,.int .i64 0] 26
   have ho4:=hown.alloc (.cells #[.slice none 0 0,.slice none 0 0,.slice none 0 0,.int .i64 0] 26)
   have hle0:W0.heap.size≤w3.heap.size:=hb3.size
   refine hK _ _ ⟨HS.out _ hb4,?_⟩
   clear hK Kv
   generalize w3.alloc _=w4 at hb4 hz4 ho4 ⊢
   generalize w3.heap.size=OB at hz4 hle0 ⊢
   have z0:=hz4.cell 0 (v:=.slice none 0 0) rfl
   have f0:=hz4.frozen 0
   have z1:=hz4.cell 1 (v:=.slice none 0 0) rfl
   have f1:=hz4.frozen 1
   have z2:=hz4.cell 2 (v:=.slice none 0 0) rfl
   have f2:=hz4.frozen 2
   have z3:=hz4.cell 3 (v:=.int .i64 0) rfl
   have f3:=hz4.frozen 3
   have zl:=hz4.lt
   refine oO fun Kv hK=>?_
   go_simp
   refine hK _ _ ⟨HS.out _ (ZcW (ZcW (ZcW (ZcW hb4 hle0 _) hle0 _) hle0 _) hle0 _),?_⟩
   refine Zd5 ?_
   exact key OB _ _ _ _ _ _ _ _ ao ac (ZcW (ZcW (ZcW (ZcW hb4 hle0 _) hle0 _) hle0 _) hle0 _) (by have:=HSz.out;omega) (by have:=HSz.out;omega) (by have:=HSz.out;omega) ((((hz4.set 0 (.slice none 0 0)).set 1 (.slice ao m.st.length ac)).set 2 (.slice none 0 0)).set 3 (.int .i64 m.sel)) (ZoJ (ZoJ (ZoJ (ZoJ ho4 hz4 (by decide) 0 (.slice none 0 0)) (hz4.set 0 (.slice none 0 0)) (by decide) 1 (.slice ao m.st.length ac)) ((hz4.set 0 (.slice none 0 0)).set 1 (.slice ao m.st.length ac)) (by decide) 2 (.slice none 0 0)) (((hz4.set 0 (.slice none 0 0)).set 1 (.slice ao m.st.length ac)).set 2 (.slice none 0 0)) (by decide) 3 (.int .i64 m.sel))
  ·go_simp
   have hb4:Below W0.heap.size W0 (w2.alloc (.cells #[.slice none 0 0,.slice none 0 0,.slice none 0 0,.int .i64 0] 26)):=bal hb2 _
   have hz4:=Blk.new w2 #[.slice none 0 0,.slice none 0 0,.slice none 0 0,.int .i64 0] 26
   have ho4:=ho2.alloc (.cells #[.slice none 0 0,.slice none 0 0,.slice none 0 0,.int .i64 0] 26)
   have hle0:W0.heap.size≤w2.heap.size:=hb2.size
   have HNe:=Zh (show g≠w2.heap.size by have:=HZ2.out;omega)
   refine hK _ _ ⟨HS.out _ hb4,?_⟩
   clear hK Kv
   generalize w2.alloc _=w4 at hb4 hz4 ho4 ⊢
   generalize w2.heap.size=OB at hz4 hle0 HNe ⊢
   refine oO fun Kv hK=>?_
   refine Zej (.tmp 10) (.tmp 12) 23 rfl w.heap.size 76 2 16 Zff _ 0 [] rfl ho4 _ _ _ _ rfl (Zar.old HM.out.st (Zaf HB0.out hb4)) (Zaq _) (by omega) (by unfold maxLen;omega) (by have:=HSz.out;have:=(hb4).size;omega) ?_
   intro ao ac w5 hown hg
   rw [Nat.zero_add,List.nil_append] at hown
   have hb5:Below W0.heap.size W0 w5:=ZcV hb4 hg (fun j hj=>by cases hj;show W0.heap.size≤g;have:=HDz.out;omega)
   have hz5:=Blk.grownV hz4 hg (ZoI ho4 hz4 (by decide))
   exact j0
 ·go_simp
  have hb2:Below W0.heap.size W0 (w1.alloc (.cells #[.slice none 0 0,.slice none 0 0,.slice none 0 0,.int .i64 0] 26)):=bal hd0 _
  have hz2:=Blk.new w1 #[.slice none 0 0,.slice none 0 0,.slice none 0 0,.int .i64 0] 26
  have hle0:W0.heap.size≤w1.heap.size:=hd0.size
  refine hK _ _ ⟨HS.out _ hb2,?_⟩
  clear hK Kv
  generalize w1.alloc _=w2 at hb2 hz2 ⊢
  generalize w1.heap.size=OB at hz2 hle0 ⊢
  refine oO fun Kv hK=>?_
  go_simp
  have hb3:Below W0.heap.size W0 (w2.alloc (.cells #[] 76)):=bal hb2 _
  have ho3:(w2.alloc (.cells #[] 76)).ownsRow w.heap.size 76 2 (.slice (some ⟨w2.heap.size,0,none⟩) 0 0) 0 []:=ZoG rfl (by have:=hb2.size;have:=HSz.out;omega)
  have hz3:=hz2.alloc (.cells #[] 76)
  have hg9:=hb2.size
  refine hK _ _ ⟨HS.out _ hb3,?_⟩
  clear hK Kv
  generalize w2.alloc _=w3 at hb3 hz3 ho3 ⊢
  generalize w2.heap.size=g at ho3 hg9 ⊢
  refine oO fun Kv hK=>?_
  refine Zej (.tmp 10) (.tmp 12) 23 rfl w.heap.size 76 2 16 Zff _ 0 [] rfl ho3 _ _ _ _ rfl (Zar.old HM.out.st (Zaf HB0.out hb3)) (Zaq _) (by omega) (by unfold maxLen;omega) (by have:=HSz.out;have:=(hb3).size;omega) ?_
  intro ao ac w5 hown hg
  rw [Nat.zero_add,List.nil_append] at hown
  have hb5:Below W0.heap.size W0 w5:=ZcV hb3 hg (fun j hj=>by cases hj;exact hg9)
  have hz5:=Blk.grownV hz3 hg (ZoI ho3 hz3 (by decide))
  exact j0
theorem ZoR (w:World) (h:Hd) (m:Md) (H:Zay w h m) (hs:ZnQ m):Calls Tryz.prog 34 #[.agg #[.slice h.co m.cl.length h.cc,.slice h.so m.st.length h.sc,.slice h.eo m.me.length h.ec,.int .i64 m.sel]] w fun e w'=>∃ h':Hd,e=.returned (.agg #[.slice h'.co m.cl.length h'.cc,.slice h'.so m.st.length h'.sc,.slice h'.eo m.me.length h'.ec,.int .i64 m.sel])∧ZnP w' w.heap.size h' m∧Below w.heap.size w w':=
 (ZoQ w h m H hs).mono fun e w' ⟨h',h1,h2,h3,h4⟩=>⟨h',h1,h2,h3⟩
end
section
open Go.ChangeShapes Go.WideShapes Go.ChangeAt Go.RowKit Go.Deep
theorem ZoS {α:Type} [Inhabited α] {Q:Nat→α→Prop}:∀ n,(∀ i,i<n→∃ x,Q i x)→∃ l:List α,l.length=n∧∀ i,i<n→Q i (l.getD i default)
 | 0,_=>⟨[],rfl,fun i hi=>by omega⟩
 |n+1,h=>by
  obtain ⟨l,hl,hq⟩:=ZoS n fun i hi=>h i (by omega)
  obtain ⟨x,hx⟩:=h n (by omega)
  refine ⟨l++[x],by simp [hl],fun i hi=>?_⟩
  by_cases hin:i<n
  ·rw [List.getD_eq_getElem?_getD,List.getElem?_append_left (by omega),←List.getD_eq_getElem?_getD];exact hq i hin
  ·obtain rfl:i=n:=by omega
   rw [List.getD_eq_getElem?_getD,List.getElem?_append_right (by omega),hl];simpa using hx
section
variable {H:Type}{enc:TypeId × Value→H}{P:Program}{W:World}
theorem ZoT {d:DataW H}:∀ {l:List (DataW H)},d∈l→Rows.uptoBulk d≤Rows.uptoBulkAll l
 | [],h=>by cases h
 |x :: r,h=>by
  unfold Rows.uptoBulkAll
  rcases List.mem_cons.1 h with rfl|h
  ·omega
  ·have:=ZoT h;omega
theorem ZoU {α:Type} [Cells α] [Inhabited α] {Q:α→Prop}{t e:TypeId}{fuel:Nat}{v:Value}{y:DataW H × List MemPlace} (hN:Rows.uptoBulk y.1≤1048576) (ht:P.underlying t=some (.slice e)) (hC:P.cellsOf e=Cells.n α)
  (hel:∀ n cs z,Rows.uptoBulk z.1≤1048576→cs.length=Cells.n α→DataW.trod enc P W 0 (fun _=>true) true n e cs=some z→∃ x:α,cs=Cells.cells x∧Q x) (h:DataW.trod enc P W 0 (fun _=>true) true fuel t [v]=some y) :
  ∃ ao cap,∃ l:List α,v=.slice ao l.length cap∧Zar W ao cap l∧l.length≤cap∧l.length≤1048576∧∀ i,i<l.length→Q (l.getD i default):=by
 rcases open_slice ht h with ⟨hcs,_⟩|⟨a,len,cap,k,n,D,Pl,hcs,_,hl,hm,hmm,hx,hi⟩
 ·obtain rfl:v=.slice none 0 0:=by simpa using hcs
  exact ⟨none,0,[],rfl,Zar.nil W,by simp,by simp,fun i hi=>by simp at hi⟩
 ·obtain rfl:v=.slice (some a) len cap:=by simpa using hcs
  have hlm:len≤k:=by simp at hmm;omega
  have hex:∀ i,i<len→∃ x:α,Q x∧∀ j (hj:j<Cells.n α),W.cell? (a.add (i*Cells.n α+j))=(Cells.cells x)[j]?:=by
   intro i hil
   obtain ⟨cs',hc,ht'⟩:=hi i (by omega)
   rw [hC] at hc
   obtain ⟨_,hcl,hat⟩:=World.cells?_some hc
   obtain ⟨x,hxc,hq⟩:=hel n cs' _ (Nat.le_trans (ZoT (List.mem_map.2 ⟨i,List.mem_range.2 hil,rfl⟩)) (by rw [hx] at hN;unfold Rows.uptoBulk at hN;omega)) hcl ht'
   refine ⟨x,hq,fun j hj=>?_⟩
   rw [←hxc,←hat j hj,Go.Deep.add_add]
  obtain ⟨l,hll,hq⟩:=ZoS len hex
  refine ⟨some a,cap,l,by rw [hll],⟨Zam l,(fun h=>by cases h),fun j u hu=>⟨a,rfl,?_⟩⟩,by omega,?_,fun i hi=>(hq i (by omega)).1⟩
  rotate_left
  ·rw [hx] at hN
   dsimp only at hN
   have:=Zn1 ((List.range len).map D) ((List.range (k-len)).map fun j=>D (len+j))
   simp only [List.length_map,List.length_range] at this
   omega
  have hn:=Cells.pos (α:=α)
  have hj:j<l.length*Cells.n α:=by
   have:=(List.getElem?_eq_some_iff.1 hu).1
   rwa [Zam] at this
  have hi4:j / Cells.n α<l.length:=(Nat.div_lt_iff_lt_mul hn).2 hj
  have hjm:j % Cells.n α<Cells.n α:=Nat.mod_lt _ hn
  have hjj:j=j / Cells.n α*Cells.n α+j % Cells.n α:=by rw [Nat.mul_comm];exact (Nat.div_add_mod j _).symm
  have h1:=(hq (j / Cells.n α) (by omega)).2 (j % Cells.n α) hjm
  rw [hjj,Zap l _ hi4 _ hjm] at hu
  rw [←hjj] at h1
  rw [h1,←hu]
  simp [hi4]
theorem ZoV {cs:List Value} (hl:cs.length=2):∃ a b,cs=[a,b]:=by
 match cs,hl with
 | [a,b],_=>exact ⟨a,b,rfl⟩
theorem ZoW {cs:List Value} (hl:cs.length=3):∃ a b c,cs=[a,b,c]:=by
 match cs,hl with
 | [a,b,c],_=>exact ⟨a,b,c,rfl⟩
theorem ZoX {cs:List Value} (hl:cs.length=4):∃ a b c d,cs=[a,b,c,d]:=by
 match cs,hl with
 | [a,b,c,d],_=>exact ⟨a,b,c,d,rfl⟩
theorem ZoY {cs:List Value} (hl:cs.length=7):∃ a b c d e f g,cs=[a,b,c,d,e,f,g]:=by
 match cs,hl with
 | [a,b,c,d,e,f,g],_=>exact ⟨a,b,c,d,e,f,g,rfl⟩
end
section
variable {H:Type}{enc:TypeId × Value→H}{W:World}
section
variable (n:Nat)(cs:List Value)(z:DataW H × List MemPlace)
include n cs z
theorem ZoZ (_:Rows.uptoBulk z.1≤1048576) (_:cs.length=Cells.n Int) (h:DataW.trod enc Tryz.prog W 0 (fun _=>true) true n 3 cs=some z):∃ x:Int,cs=Cells.cells x∧True:=by
 obtain ⟨k,e,_⟩:=DataW.trod_int Tryz.underlying3 h
 exact ⟨k,e,trivial⟩
theorem Zo0 (_:Rows.uptoBulk z.1≤1048576) (hl:cs.length=Cells.n Ty) (h:DataW.trod enc Tryz.prog W 0 (fun _=>true) true n 76 cs=some z):∃ x:Ty,cs=Cells.cells x∧True:=by
 obtain ⟨xs,n,_,_,_,hlen,hf⟩:=DataW.trod_struct Tryz.underlying76 h
 obtain ⟨a,b,rfl⟩:=ZoV hl
 have h0:=hf 0 _ rfl
 have h1:=hf 1 _ rfl
 rw [show xs[0]?=some (xs[0]'(by rw [hlen];decide)) by simp] at h0
 rw [show xs[1]?=some (xs[1]'(by rw [hlen];decide)) by simp] at h1
 obtain ⟨k0,e0,_⟩:=DataW.trod_int Tryz.underlying3 h0
 obtain ⟨k1,e1,_⟩:=DataW.trod_int Tryz.underlying3 h1
 have e0':[a]=[Value.int .i64 k0]:=e0
 have e1':[b]=[Value.int .i64 k1]:=e1
 cases e0'
 cases e1'
 exact ⟨⟨k0,k1⟩,rfl,trivial⟩
theorem Zo1 (_:Rows.uptoBulk z.1≤1048576) (hl:cs.length=Cells.n In3) (h:DataW.trod enc Tryz.prog W 0 (fun _=>true) true n 78 cs=some z):∃ x:In3,cs=Cells.cells x∧True:=by
 obtain ⟨xs,n,_,_,_,hlen,hf⟩:=DataW.trod_struct Tryz.underlying78 h
 obtain ⟨a,b,c,rfl⟩:=ZoW hl
 have h0:=hf 0 _ rfl
 have h1:=hf 1 _ rfl
 have h2:=hf 2 _ rfl
 rw [show xs[0]?=some (xs[0]'(by rw [hlen];decide)) by simp] at h0
 rw [show xs[1]?=some (xs[1]'(by rw [hlen];decide)) by simp] at h1
 rw [show xs[2]?=some (xs[2]'(by rw [hlen];decide)) by simp] at h2
 obtain ⟨k0,e0,_⟩:=DataW.trod_int Tryz.underlying3 h0
 obtain ⟨k1,e1,_⟩:=DataW.trod_int Tryz.underlying3 h1
 obtain ⟨k2,e2,_⟩:=DataW.trod_int Tryz.underlying3 h2
 have e0':[a]=[Value.int .i64 k0]:=e0
 have e1':[b]=[Value.int .i64 k1]:=e1
 have e2':[c]=[Value.int .i64 k2]:=e2
 cases e0'
 cases e1'
 cases e2'
 exact ⟨⟨k0,k1,k2⟩,rfl,trivial⟩
end
theorem Zo2 {z:DataW H × List MemPlace}{xs:List (DataW H × List MemPlace)} (hzx:z=(.agg (xs.map (·.1)),xs.flatMap (·.2))) (hz:Rows.uptoBulk z.1≤1048576) {i:Nat} (hi:i<xs.length):Rows.uptoBulk (xs[i]).1≤1048576:=by
 refine Nat.le_trans (ZoT (l:=xs.map (·.1)) (List.mem_map.2 ⟨xs[i],List.getElem_mem hi,rfl⟩)) ?_
 rw [hzx] at hz
 unfold Rows.uptoBulk at hz
 omega
def Zo3 (W:World) (x:Cls × CHd):Prop:=Zar W x.2.fo x.2.fc x.1.f∧Zar W x.2.mo x.2.mc x.1.m∧x.1.f.length≤x.2.fc∧x.1.f.length≤1048576∧x.1.m.length≤1048576
def Zo4 (W:World) (x:Mth × MHd):Prop:=Zar W x.2.po x.2.pc x.1.p∧Zar W x.2.lo x.2.lc x.1.l∧Zar W x.2.ko x.2.kc x.1.k∧x.1.p.length≤1048576∧x.1.l.length≤1048576∧x.1.k.length≤1048576
instance:Inhabited (Cls × CHd):=⟨default,default⟩
instance:Inhabited (Mth × MHd):=⟨default,default⟩
theorem Zo5 (n:Nat) (cs:List Value) (z:DataW H × List MemPlace) (hz:Rows.uptoBulk z.1≤1048576) (hl:cs.length=Cells.n (Cls × CHd)) (h:DataW.trod enc Tryz.prog W 0 (fun _=>true) true n 99 cs=some z):∃ x:Cls × CHd,cs=Cells.cells x∧Zo3 W x:=by
 obtain ⟨xs,n,_,hzx,_,hlen,hf⟩:=DataW.trod_struct Tryz.underlying99 h
 have hp:∀ i (hi:i<xs.length),Rows.uptoBulk (xs[i]).1≤1048576:=fun i hi=>Zo2 hzx hz hi
 obtain ⟨a,b,c,d,rfl⟩:=ZoX hl
 have h0:=hf 0 _ rfl
 have h1:=hf 1 _ rfl
 have h2:=hf 2 _ rfl
 have h3:=hf 3 _ rfl
 rw [show xs[0]?=some (xs[0]'(by rw [hlen];decide)) by simp] at h0
 rw [show xs[1]?=some (xs[1]'(by rw [hlen];decide)) by simp] at h1
 rw [show xs[2]?=some (xs[2]'(by rw [hlen];decide)) by simp] at h2
 rw [show xs[3]?=some (xs[3]'(by rw [hlen];decide)) by simp] at h3
 obtain ⟨k0,e0,_⟩:=DataW.trod_string Tryz.underlying9 h0
 obtain ⟨k1,e1,_⟩:=DataW.trod_int Tryz.underlying3 h1
 have e0':[a]=[Value.string k0]:=e0
 have e1':[b]=[Value.int .i64 k1]:=e1
 cases e0'
 cases e1'
 obtain ⟨fo,fc,f,rfl,hfr,hfl,hfc,_⟩:=ZoU (α:=Ty) (v:=c) (hp 2 _) Tryz.underlying23 (by kernel_rfl) Zo0 h2
 obtain ⟨mo,mc,l,rfl,hmr,hml,hmc,_⟩:=ZoU (α:=Int) (v:=d) (hp 3 _) Tryz.underlying34 (by kernel_rfl) ZoZ h3
 exact ⟨(⟨k0,k1,f,l⟩,⟨fo,fc,mo,mc⟩),rfl,hfr,hmr,hfl,hfc,hmc⟩
theorem Zo6 (n:Nat) (cs:List Value) (z:DataW H × List MemPlace) (hz:Rows.uptoBulk z.1≤1048576) (hl:cs.length=Cells.n (Mth × MHd)) (h:DataW.trod enc Tryz.prog W 0 (fun _=>true) true n 81 cs=some z):∃ x:Mth × MHd,cs=Cells.cells x∧Zo4 W x:=by
 obtain ⟨xs,n,_,hzx,_,hlen,hf⟩:=DataW.trod_struct Tryz.underlying81 h
 have hp:∀ i (hi:i<xs.length),Rows.uptoBulk (xs[i]).1≤1048576:=fun i hi=>Zo2 hzx hz hi
 obtain ⟨a,b,c,d,r,s,k,rfl⟩:=ZoY hl
 have h0:=hf 0 _ rfl
 have h1:=hf 1 _ rfl
 have h2:=hf 2 _ rfl
 have h3:=hf 3 _ rfl
 have h4:=hf 4 _ rfl
 have h5:=hf 5 _ rfl
 rw [show xs[0]?=some (xs[0]'(by rw [hlen];decide)) by simp] at h0
 rw [show xs[1]?=some (xs[1]'(by rw [hlen];decide)) by simp] at h1
 rw [show xs[2]?=some (xs[2]'(by rw [hlen];decide)) by simp] at h2
 rw [show xs[3]?=some (xs[3]'(by rw [hlen];decide)) by simp] at h3
 rw [show xs[4]?=some (xs[4]'(by rw [hlen];decide)) by simp] at h4
 rw [show xs[5]?=some (xs[5]'(by rw [hlen];decide)) by simp] at h5
 obtain ⟨k0,e0,_⟩:=DataW.trod_string Tryz.underlying9 h0
 obtain ⟨k1,e1,_⟩:=DataW.trod_int Tryz.underlying3 h1
 have e0':[a]=[Value.string k0]:=e0
 have e1':[b]=[Value.int .i64 k1]:=e1
 cases e0'
 cases e1'
 obtain ⟨po,pc,p,rfl,hpr,hpl,hpc,_⟩:=ZoU (α:=Ty) (v:=c) (hp 2 _) Tryz.underlying23 (by kernel_rfl) Zo0 h2
 obtain ⟨lo,lc,l,rfl,hlr,hll,hlc,_⟩:=ZoU (α:=Ty) (v:=d) (hp 3 _) Tryz.underlying23 (by kernel_rfl) Zo0 h3
 obtain ⟨t,ht,_⟩:=Zo0 (cs:=[r,s]) _ _ (hp 4 _) rfl h4
 have ht':[r,s]=[Value.int .i64 t.k,Value.int .i64 t.c]:=ht
 cases ht'
 obtain ⟨ko,kc,q,rfl,hkr,hkl,hkc,_⟩:=ZoU (α:=In3) (v:=k) (hp 5 _) Tryz.underlying79 (by kernel_rfl) Zo1 h5
 exact ⟨(⟨k0,k1,p,l,t,q⟩,⟨po,pc,lo,lc,ko,kc⟩),rfl,hpr,hlr,hkr,hpc,hlc,hkc⟩
theorem Zo7 {α β:Type} [Inhabited α] [Inhabited (α × β)] (l:List (α × β)) {i:Nat} (hi:i<l.length):(l.map Prod.fst).getD i default=(l.getD i default).1:=by simp [hi]
theorem Zo8 {α β:Type} [Inhabited β] [Inhabited (α × β)] (l:List (α × β)):((l.map Prod.fst).mapIdx fun i x=>(x,(l.getD i default).2))=l:=by
 apply List.ext_getElem
 ·simp
 ·intro i h1 h2
  simp [h2]
structure MdB (m:Md):Prop where
 z:m.cl.length≤1048576∧m.st.length≤1048576∧m.me.length≤1048576
 c:∀ i,i<m.cl.length→(m.cl.getD i default).f.length≤1048576∧(m.cl.getD i default).m.length≤1048576
 m:∀ i,i<m.me.length→(m.me.getD i default).p.length≤1048576∧(m.me.getD i default).l.length≤1048576∧(m.me.getD i default).k.length≤1048576
section
variable {r:Reach}{b0:Nat}{v:Value}{d:DataW H}{ps:List MemPlace}(hval:Value.okWide Tryz.prog W r b0 26 v)(hd:DataW.Trod enc Tryz.prog W 0 (fun _=>true) true 26 v d ps)(hN:Rows.uptoBulk d≤1048576)
include r b0 v d ps hval hd hN
theorem Zo9:
  ∃ h m,v=.agg #[.slice h.co m.cl.length h.cc,.slice h.so m.st.length h.sc,.slice h.eo m.me.length h.ec,.int .i64 m.sel]∧Zay W h m∧MdB m:=by
 obtain ⟨v0,v1,v2,v3,y0,y1,y2,y3,n,rfl,hdd,_,h0,h1,h2,h3⟩:=Go.Joins.open_agg4 Tryz.underlying26 (by kernel_rfl) (by kernel_rfl) hval hd
 rw [hdd] at hN
 simp only [Rows.uptoBulk,Rows.uptoBulkAll] at hN
 obtain ⟨co,cc,cl,rfl,hcr,hcl,hcm,hcq⟩:=ZoU (α:=Cls × CHd) (v:=v0) (by omega) Tryz.underlying22 (by kernel_rfl) Zo5 h0
 obtain ⟨so,sc,st,rfl,hsr,hsl,hsm,_⟩:=ZoU (α:=Ty) (v:=v1) (by omega) Tryz.underlying23 (by kernel_rfl) Zo0 h1
 obtain ⟨eo,ec,me,rfl,her,hel,hem,heq⟩:=ZoU (α:=Mth × MHd) (v:=v2) (by omega) Tryz.underlying24 (by kernel_rfl) Zo6 h2
 obtain ⟨s,e3,_⟩:=DataW.trod_int Tryz.underlying3 h3
 obtain rfl:v3=_:=by simpa using e3
 refine ⟨⟨co,cc,so,sc,eo,ec,fun i=>(cl.getD i default).2,fun i=>(me.getD i default).2⟩,⟨cl.map Prod.fst,st,me.map Prod.fst,s⟩,by simp,?_,⟨by dsimp only;simp only [List.length_map];omega,fun i hi=>?_,fun i hi=>?_⟩⟩
 rotate_left
 ·dsimp only at hi ⊢;rw [List.length_map] at hi;rw [Zo7 _ hi];exact (hcq i hi).2.2.2
 ·dsimp only at hi ⊢;rw [List.length_map] at hi;rw [Zo7 _ hi];exact (heq i hi).2.2.2
 refine ⟨?_,hsr,?_,?_,?_,?_,?_,?_,?_,?_,?_⟩
 ·show Zar W co cc ((cl.map Prod.fst).mapIdx fun i x=>(x,(cl.getD i default).2))
  rw [Zo8];exact hcr
 ·show Zar W eo ec ((me.map Prod.fst).mapIdx fun i x=>(x,(me.getD i default).2))
  rw [Zo8];exact her
 all_goals try (intro i hi;dsimp only at hi ⊢;rw [List.length_map] at hi;rw [Zo7 _ hi])
 ·exact (hcq i hi).1
 ·exact (hcq i hi).2.1
 ·exact (heq i hi).1
 ·exact (heq i hi).2.1
 ·exact (heq i hi).2.2.1
 ·exact (hcq i hi).2.2.1
 ·have:=(heq i hi).2.2.2;omega
 ·dsimp only;simp only [List.length_map];omega
theorem Zpa:
  ∃ h m,v=.agg #[.slice h.co m.cl.length h.cc,.slice h.so m.st.length h.sc,.slice h.eo m.me.length h.ec,.int .i64 m.sel]∧Zay W h m:=by
 obtain ⟨h,m,h1,h2,_⟩:=Zo9 hval hd hN
 exact ⟨h,m,h1,h2⟩
end
theorem Zpb {r:Reach}{b0:Nat}{v:Value}{d:DataW H}{ps:List MemPlace} (hval:Value.okWide Tryz.prog W r b0 76 v) (hd:DataW.Trod enc Tryz.prog W 0 (fun _=>true) true 76 v d ps) :
  ∃ t:Ty,v=.agg #[.int .i64 t.k,.int .i64 t.c]:=by
 obtain ⟨v0,v1,y0,y1,n,rfl,_,_,h0,h1⟩:=Go.Joins.open_agg2 Tryz.underlying76 (by kernel_rfl) (by kernel_rfl) hval hd
 obtain ⟨k0,e0,_⟩:=DataW.trod_int Tryz.underlying3 h0
 obtain ⟨k1,e1,_⟩:=DataW.trod_int Tryz.underlying3 h1
 obtain rfl:v0=_:=by simpa using e0
 obtain rfl:v1=_:=by simpa using e1
 exact ⟨⟨k0,k1⟩,rfl⟩
end
end
end Go.Proofs.YtcfjblcgceednaaGreat
