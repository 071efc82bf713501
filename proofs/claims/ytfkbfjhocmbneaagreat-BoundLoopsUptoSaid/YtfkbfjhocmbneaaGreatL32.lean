/- Joined texts. The first: ref05.Copy: a module of the call's own that reads as the given one. -/
import Derived.Test.YtfkbfjhocmbneaaGreatL30
set_option linter.all false
set_option linter.unusedVariables false
set_option linter.unusedSimpArgs false
set_option maxRecDepth 100000
set_option maxHeartbeats 8000000
namespace Go.Proofs.YtfkbfjhocmbneaaGreat
theorem kC0{p:Prop}(h:p:=by
 refine hK _ _ ⟨HS.out _ hb5,?_⟩
 clear hK Kv hg
 repeat refine pO ?_
 have z0:=hz5.cell 0 (v:=.slice none 0 0) rfl
 have f0:=hz5.frozen 0
 have z1:=hz5.cell 1 (v:=.slice none 0 0) rfl
 have f1:=hz5.frozen 1
 have z2:=hz5.cell 2 (v:=.slice none 0 0) rfl
 have f2:=hz5.frozen 2
 have z3:=hz5.cell 3 (v:=.int .i64 0) rfl
 have f3:=hz5.frozen 3
 have zl:=hz5.lt
 refine oO fun Kv hK=>?_
 go_simp
 refine hK _ _ ⟨HS.out _ (ZcW (ZcW (ZcW (ZcW hb5 hle0 _) hle0 _) hle0 _) hle0 _),?_⟩
 refine Zd5 ?_
 exact key OB _ _ _ _ _ _ _ _ ao ac (ZcW (ZcW (ZcW (ZcW hb5 hle0 _) hle0 _) hle0 _) hle0 _) (by have:=HSz.out;omega) (by have:=HSz.out;omega) (by have:=HSz.out;omega) ((((hz5.set 0 (.slice none 0 0)).set 1 (.slice ao m.st.length ac)).set 2 (.slice none 0 0)).set 3 (.int .i64 m.sel)) (Zrc (Zrc (Zrc (Zrc hown hz5 (by decide) 0 (.slice none 0 0)) (hz5.set 0 (.slice none 0 0)) (by decide) 1 (.slice ao m.st.length ac)) ((hz5.set 0 (.slice none 0 0)).set 1 (.slice ao m.st.length ac)) (by decide) 2 (.slice none 0 0)) (((hz5.set 0 (.slice none 0 0)).set 1 (.slice ao m.st.length ac)).set 2 (.slice none 0 0)) (by decide) 3 (.int .i64 m.sel))):p:=h
theorem kC2{p:Prop}(h:p:=by
 rw [ZmF _ _ hj]
 exact ZoI hm (x:=Zmx) (fun k hk i hi=>ZoD ((ZfN hm hk).i i hi).1) (by decide) (t.toNat+1) _ (by omega)):p:=h
section
open Go.RowKit
theorem Zq9 {w:World}{b base:Nat}{e:TypeId}{size:Nat} (hb:b=w.heap.size) (h:base≤w.heap.size):(w.alloc (.cells #[] e)).ownsRow base e size (.slice (some ⟨b,0,none⟩) 0 0) 0 []:=by subst hb;exact ZqF w base e size h
theorem Zra {w w':World}{base:Nat}{e:TypeId}{size:Nat}{v:Value}{n:Nat}{xs:List Value} (h:w.ownsRow base e size v n xs) (hb:Below w.heap.size w w'):w'.ownsRow base e size v n xs:=ZhH h fun k hk=>hb.block k (h.lt k hk).2
section
variable {w:World}{base:Nat}{e:TypeId}{size:Nat}{v:Value}{n:Nat}{xs:List Value}(h:w.ownsRow base e size v n xs){b:Nat}{ys:Array Value}{t:TypeId}(hb:Blk w b ys t)(ht:e≠t)
include w base e size v n xs h b ys t hb ht
theorem Zrb:some b≠v.ownBlock:=by
 intro q
 rcases h.2 with ⟨hv,_⟩|⟨g,c,cur,hv,_,hg,_⟩
 ·rw [hv] at q;cases q
 ·rw [hv] at q
  have e':b=g:=Option.some.inj q
  subst e'
  rw [show w.heap[b]?=_ from hb] at hg
  cases hg
  exact ht rfl
theorem Zrc (i:Nat) (u:Value):(w.setCell ⟨b,i,none⟩ u).ownsRow base e size v n xs:=
 ownsRow_setCell_other h (fun q=>Zrb h hb ht q.symm) u
end
theorem Zrd {α:Type} [Cells α] {w:World}{ao:Option Addr}{cap:Nat}{l:List α} (h:Zar w ao cap l) (o:Obj):Zar (w.alloc o) ao cap l:=h.old ((Below.refl _ _).alloc (Nat.le_refl _) o)
theorem Zre {w w8:World}{o:Obj}{base:Nat}{e:TypeId}{size:Nat}{v:Value}{n:Nat}{xs:List Value} (ho:w.ownsRow base e size v n xs) (hg:(w.alloc o).grownBy w8 v.ownBlock) {b:Nat}{ys:Array Value}{t:TypeId} (hb:Blk w b ys t) (ht:e≠t):Blk w8 b ys t:=Blk.grownV (hb.alloc o) hg (Zrb (ho.alloc o) (hb.alloc o) ht)
theorem Zrf {α β:Type} [Inhabited α] (l:List α) (f:Nat→β) (k:Nat):ZqA l f (k+1)=ZqA l f k++[(l.getD k default,f k)]:=rfl
theorem Zrg {wr w1 w3:World}{b N:Nat}{xs:Array Value}{t e:TypeId}{size n cap:Nat}{ao:Option Addr}{ys:List Value} (i:Nat) (hN:N≤wr.heap.size) (hbl:Below wr.heap.size wr w1) (hx:Blk w1 b xs t) (hb:wr.heap.size≤b)
  (ho:w3.ownsRow N e size (.slice ao (0+n) cap) (0+n) ([]++ys)) (hg:(w1.alloc (.cells #[] e)).grownBy w3 (Value.slice (some ⟨w1.heap.size,0,none⟩) 0 0).ownBlock) (ht:e≠t) :
  ∃ w4,w4=w3.setCell ⟨b,i,none⟩ (.slice ao n cap)∧RowKit.Hid (Below wr.heap.size wr w4)∧RowKit.Hid (Blk w4 b (xs.setIfInBounds i (.slice ao n cap)) t)∧RowKit.Hid (w4.ownsRow N e size (.slice ao n cap) n ys)∧RowKit.Hid (∀ {base':Nat}{e':TypeId}{size':Nat}{v':Value}{n':Nat}{ys':List Value},w1.ownsRow base' e' size' v' n' ys'→e'≠t→w4.ownsRow base' e' size' v' n' ys')∧w3.frozen? ⟨b,i,none⟩=false∧Blk w3 b xs t:=by
 have h13:Below w1.heap.size w1 w3:=ZcV (bal (Below.refl _ _) _) hg (fun j hj=>by cases hj;exact Nat.le_refl _)
 have hx3:Blk w3 b xs t:=hx.old h13
 rw [Nat.zero_add,List.nil_append] at ho
 exact ⟨_,rfl,ZcW (Zaf hbl h13) hb _,hx3.set i _,Zrc ho hx3 ht _ _,fun h1 h2=>Zrc (Zra h1 h13) hx3 h2 _ _,hx3.frozen i,hx3⟩
def CpD (f:Nat→MHd) (k:Nat):Prop:=∀ i j,i<j→j<k→∀ a b,(f i).ko=some a→(f j).ko=some b→a.block≠b.block
theorem Zrh {w:World}{base:Nat}{e:TypeId}{size:Nat}{ao:Option Addr}{n cap:Nat}{xs:List Value} (h:w.ownsRow base e size (.slice ao n cap) n xs):∀ a,ao=some a→base≤a.block∧a.block<w.heap.size:=fun a ha=>by
 subst ha
 exact h.lt a.block rfl
theorem Zri {f:Nat→MHd}{k N:Nat}{x:MHd} (h:CpD f k) (hf:∀ i,i<k→∀ a,(f i).ko=some a→a.block<N) (hx:∀ b,x.ko=some b→N≤b.block):CpD (fun i=>if i=k then x else f i) (k+1):=fun i j hij hj a b ha hb=>by
 dsimp only at ha hb
 rw [if_neg (by omega)] at ha
 by_cases e:j=k
 ·rw [if_pos e] at hb
  have:=hf i (by omega) a ha
  have:=hx b hb
  omega
 ·rw [if_neg e] at hb
  exact h i j hij (by omega) a b ha hb
theorem Zrj (w:World) (h:Hd) (m:Md) (H:Zay w h m) (hs:ZqH m):Calls Tryz.prog 19 #[.agg #[.slice h.co m.cl.length h.cc,.slice h.so m.st.length h.sc,.slice h.eo m.me.length h.ec,.int .i64 m.sel]] w fun e w'=>∃ h':Hd,e=.returned (.agg #[.slice h'.co m.cl.length h'.cc,.slice h'.so m.st.length h'.sc,.slice h'.eo m.me.length h'.ec,.int .i64 m.sel])∧ZqG w' w.heap.size h' m∧Below w.heap.size w w'∧CpD h'.e m.me.length:=by
 have hX:=(Blk.new w #[.slice h.co m.cl.length h.cc,.slice h.so m.st.length h.sc,.slice h.eo m.me.length h.ec,.int .i64 m.sel] 26).alloc (.cells #[.slice none 0 0,.slice none 0 0,.slice none 0 0,.int .i64 0] 26)
 have hR:Blk ((w.alloc (.cells #[.slice h.co m.cl.length h.cc,.slice h.so m.st.length h.sc,.slice h.eo m.me.length h.ec,.int .i64 m.sel] 26)).alloc (.cells #[.slice none 0 0,.slice none 0 0,.slice none 0 0,.int .i64 0] 26)) (w.heap.size+1) #[.slice none 0 0,.slice none 0 0,.slice none 0 0,.int .i64 0] 26:=Blk.new' _ _ (by simp)
 have hb0:Below w.heap.size w ((w.alloc (.cells #[.slice h.co m.cl.length h.cc,.slice h.so m.st.length h.sc,.slice h.eo m.me.length h.ec,.int .i64 m.sel] 26)).alloc (.cells #[.slice none 0 0,.slice none 0 0,.slice none 0 0,.int .i64 0] 26)):=by exact bE
 have hs1:=hs.st
 have HM:=Zh H
 have HSm:=Zh hs
 clear H hs
 obtain ⟨co,cc,so,sc,eo,ec,hc,he⟩:=h
 dsimp only at hX hR hb0 HM ⊢
 have hsz:((w.alloc (.cells #[.slice co m.cl.length cc,.slice so m.st.length sc,.slice eo m.me.length ec,.int .i64 m.sel] 26)).alloc (.cells #[.slice none 0 0,.slice none 0 0,.slice none 0 0,.int .i64 0] 26)).heap.size=w.heap.size+2:=by simp
 obtain ⟨W0,hW0⟩:∃ W0,W0=(w.alloc (.cells #[.slice co m.cl.length cc,.slice so m.st.length sc,.slice eo m.me.length ec,.int .i64 m.sel] 26)).alloc (.cells #[.slice none 0 0,.slice none 0 0,.slice none 0 0,.int .i64 0] 26):=⟨_,rfl⟩
 rw [←hW0] at hX hR hb0 hsz
 have HX:=Zh hX
 have HR:=Zh hR
 have HB0:=Zh hb0
 have HSz:=Zh hsz
 have HW:=Zh hW0
 clear hX hR hb0 hsz hW0
 go_enter Tryz.func19,Tryz.ntmps19
 go_upto_region 1 with fail
 rw [←HW.out]
 rename_i K hK
 have key:∀ (OB:Nat) (wz:World) (u8 u9 u10 u11 u12 u13 u14:Value) (so':Option Addr) (sc':Nat),Below W0.heap.size W0 wz→OB≠w.heap.size→OB≠w.heap.size+1→w.heap.size≤OB→Blk wz OB #[.slice none 0 0,.slice so' m.st.length sc',.slice none 0 0,.int .i64 m.sel] 26→wz.ownsRow w.heap.size 35 2 (.slice so' m.st.length sc') m.st.length (Zak m.st)→K { tmps:=#[.agg #[.slice co m.cl.length cc,.slice so m.st.length sc,.slice eo m.me.length ec,.int .i64 m.sel],.pointer (some ⟨w.heap.size,0,none⟩),.pointer (some ⟨w.heap.size+1,0,none⟩),.pointer (some ⟨OB,0,none⟩),undef,undef,undef,undef,u8,u9,u10,u11,u12,u13,u14,undef,undef,undef,undef,undef,undef,undef,undef,undef,undef,undef,undef,undef,undef,undef,undef,undef,undef,undef,undef,undef,undef,undef,undef,undef,undef,undef,undef,undef,undef,undef,undef,undef,undef,undef,undef,undef,undef,undef,undef,undef,undef,undef,undef,undef,undef,undef,undef,undef,undef,undef,undef,undef,undef,undef,undef,undef,undef,undef,undef,undef,undef],defers:=[] } wz:=by
  intro OB wz u8 u9 u10 u11 u12 u13 u14 so' sc' hbz hne0 hne1 hle hob host
  refine hK _ _ ?_
  clear hK
  go_wp2_with fail
  go_loopw [4] (fun i wr=>∃ (k:Nat) (c':Nat→CHd) (co':Option Addr) (cc':Nat),k≤m.cl.length∧i=.int .i64 k∧Below w.heap.size w wr∧Blk wr w.heap.size #[.slice co m.cl.length cc,.slice so m.st.length sc,.slice eo m.me.length ec,.int .i64 m.sel] 26∧Blk wr (w.heap.size+1) #[.slice none 0 0,.slice none 0 0,.slice none 0 0,.int .i64 0] 26∧Blk wr OB #[.slice co' k cc',.slice so' m.st.length sc',.slice none 0 0,.int .i64 m.sel] 26∧wr.ownsRow w.heap.size 63 4 (.slice co' k cc') k (Zak (ZqA m.cl c' k))∧(∀ i,i<k→CpC wr w.heap.size (c' i) (m.cl.getD i default))∧wr.ownsRow w.heap.size 35 2 (.slice so' m.st.length sc') m.st.length (Zak m.st)) (fun i _=>m.cl.length-(intOf i).toNat)
  case atStart=>exact ⟨0,fun _=>default,none,0,by omega,rfl,Zaf HB0.out hbz,HX.out.old hbz,HR.out.old hbz,hob,World.ownsRow_nil _ _ _ _,fun i hi=>by omega,host⟩
  case round=>
   obtain ⟨k,c',co',cc',hk,rfl,hbw,hbx,hbr,hbo,hrow,hcp,hold⟩:=hrel
   have hN:w.heap.size≤wr.heap.size:=hbw.size
   have x0:=hbx.cell 0 (v:=.slice co m.cl.length cc) rfl
   have xl:=hbx.lt
   have HBw:=Zh hbw
   have HBx:=Zh hbx
   have HBr:=Zh hbr
   have HBo:=Zh hbo
   have HRow:=Zh hrow
   have HCp:=Zh hcp
   have HOl:=Zh hold
   clear hbw hbx hbr hbo hrow hcp hold
   by_cases hkl:k<m.cl.length
   ·obtain ⟨ad,had,d0,d1,d2,d3⟩:=(HM.out.old HBw.out).cls hkl
    dsimp only at had
    subst had
    have hkn:(k:Int) < m.cl.length:=by omega
    have hwr:IntKind.i64.wrap ((k:Int)+1)=k+1:=IntWalk.i64_in _ (by have:=HSm.out.cl;omega)
    have hsz:=HSm.out.c k hkl
    have hr2:=(HM.out.old HBw.out).f k hkl
    have hr3:=(HM.out.old HBw.out).t k hkl
    dsimp only at hr2 hr3 d0 d1 d2 d3
    have hxk:m.cl.getD k default=m.cl.getD k default:=rfl
    generalize hxe:m.cl.getD k default=x at d0 d1 d2 d3 hsz hr2 hr3
    have HXe:=Zh hxe
    generalize hc k=y at d0 d1 d2 d3 hr2 hr3
    obtain ⟨nm,sp,fl,ml⟩:=x
    obtain ⟨fo,fc,mo,mc⟩:=y
    dsimp only at d0 d1 d2 d3 hsz hr2 hr3
    have HR2:=Zh hr2
    have HR3:=Zh hr3
    clear hxe hxk hr2 hr3
    go_upto_region 6 with fail
    have hx1:=Blk.new wr #[.string nm,.int .i64 sp,.slice fo fl.length fc,.slice mo ml.length mc] 63
    have hb1:Below wr.heap.size wr (wr.alloc (.cells #[.string nm,.int .i64 sp,.slice fo fl.length fc,.slice mo ml.length mc] 63)):=by exact bE
    have hz1:(wr.alloc (.cells #[.string nm,.int .i64 sp,.slice fo fl.length fc,.slice mo ml.length mc] 63)).heap.size=wr.heap.size+1:=by simp
    generalize wr.alloc _=w1 at hx1 hb1 hz1 ⊢
    obtain ⟨B,hB⟩:∃ B,B=wr.heap.size:=⟨_,rfl⟩
    have hBl:wr.heap.size≤B:=by omega
    rw [←hB] at hx1 ⊢
    have HBl:=Zh hBl
    have HB1:=Zh hb1
    have HX1:=Zh hx1
    clear hx1 hb1 hz1 hB hBl d0 d1 d2 d3 x0
    have y2:=HX1.out.cell 2 (v:=.slice fo fl.length fc) rfl
    have yl:=HX1.out.lt
    go_upto_region 7 with (at_builtin;refine Zaj rfl (.tmp 27) (.tmp 29) 23 rfl w.heap.size 35 2 16 Zff _ 0 [] rfl (Zq9 rfl (Nat.le_trans hN HB1.out.size)) _ _ _ _ rfl (Zrd (Zar.old HR2.out HB1.out) _) (Zaq _) (by omega) (by unfold maxLen;omega) (by have:=HB1.out.size;simp;omega) ?_;intro ao2 ac2 w3 hown hg;obtain ⟨w4,hw4,HB2,HX2,HF2,HG2,hfz,hx3⟩:=Zrg 2 hN HB1.out HX1.out HBl.out hown hg (by decide);have z2:=hx3.cell 2 (v:=.slice fo fl.length fc) rfl;clear hown hg hx3)
    try simp only [Nat.zero_add]
    rw [←hw4]
    clear hw4 hfz yl y2 z2
    have y3:=HX2.out.cell 3 (v:=.slice mo ml.length mc) rfl
    have yl:=HX2.out.lt
    go_upto_region 8 with (at_builtin;refine Zaj rfl (.tmp 32) (.tmp 34) 29 rfl w.heap.size 3 1 8 Zcq _ 0 [] rfl (Zq9 rfl (Nat.le_trans hN HB2.out.size)) _ _ _ _ rfl (Zrd (Zar.old HR3.out HB2.out) _) (Zaq _) (by omega) (by unfold maxLen;omega) (by have:=HB2.out.size;simp;omega) ?_;intro ao3 ac3 w3 hown hg;obtain ⟨w4,hw4,HB3,HX3,HF3,HG3,hfz,hx3⟩:=Zrg 3 hN HB2.out HX2.out HBl.out hown hg (by decide);have z3:=hx3.cell 3 (v:=.slice mo ml.length mc) rfl;clear hown hg hx3)
    try simp only [Nat.zero_add]
    rw [←hw4]
    clear hw4 hfz yl y3 z3
    have HE2:=Zh (HG3.out HF2.out (by decide))
    have HE3:=HF3
    have y0:=HX3.out.cell 0 (v:=.string nm) rfl
    have y1:=HX3.out.cell 1 (v:=.int .i64 sp) rfl
    have y2:=HX3.out.cell 2 (v:=.slice ao2 fl.length ac2) rfl
    have y3:=HX3.out.cell 3 (v:=.slice ao3 ml.length ac3) rfl
    have yl:=HX3.out.lt
    have hob4:=HBo.out.old HB3.out
    have o0:=hob4.cell 0 (v:=.slice co' k cc') rfl
    have ol:=hob4.lt
    have HO4:=Zh (Zra HRow.out HB3.out)
    go_upto_region 4 with (at_builtin;refine Zaj rfl (.tmp 38) (.tmp 40) 22 rfl w.heap.size 63 4 72 Zqx _ k _ rfl (HO4.out.alloc _) _ 1 1 [.string nm,.int .i64 sp,.slice ao2 fl.length ac2,.slice ao3 ml.length ac3] rfl (ZdL (Blk.new' #[.string nm,.int .i64 sp,.slice ao2 fl.length ac2,.slice ao3 ml.length ac3] 63 (by simp)) rfl) (by intro u hu;simp only [List.mem_cons,List.not_mem_nil,or_false] at hu;rcases hu with rfl|rfl|rfl|rfl<;>rfl) (by have:=HSm.out.cl;omega) (by have:=HSm.out.cl;unfold maxLen;omega) (by have:=HB3.out.size;simp;omega) ?_;intro ro2 rc2 w8 hown8 hg8;have hob8:=Zre HO4.out hg8 hob4 (by decide);have z0:=hob8.cell 0 (v:=.slice co' k cc') rfl;have zf:=hob8.frozen 0;have zl:=hob8.lt;have HO8:=Zh hown8;have HG8:=Zh hg8;have HB8:=Zh hob8;clear hown8 hg8 hob8)
    have hkp2:Kp [26,63] w.heap.size w4 (w8.setCell ⟨OB,0,none⟩ (.slice ro2 (k+1) rc2)):=((Kp.of (bal (Below.refl _ _) _) (Nat.le_trans hN HB3.out.size)).trans (Kp.grown (HO4.out.alloc _) HG8.out (Nat.le_refl _) (by have:=HB3.out.size;simp;omega) (by decide))).set HB8.out (by decide) hle 0 _
    have hkp:=(Kp.of HB3.out hN).trans hkp2
    have hA:=Blk.other (Zre HO4.out HG8.out (HBx.out.old HB3.out) (by decide)) (a:=⟨OB,0,none⟩) hne0.symm (.slice ro2 (k+1) rc2)
    have hR:=Blk.other (Zre HO4.out HG8.out (HBr.out.old HB3.out) (by decide)) (a:=⟨OB,0,none⟩) hne1.symm (.slice ro2 (k+1) rc2)
    have HK2:=Zh hkp2
    have HK:=Zh hkp
    have HA:=Zh hA
    have HR:=Zh hR
    clear hkp2 hkp hA hR y0 y1 y2 y3 o0 ol hob4 z0 zf zl yl
    go_wp2
    go_roundw
    case rel=>
     refine ⟨k+1,fun i=>if i=k then ⟨ao2,ac2,ao3,ac3⟩ else c' i,ro2,rc2,by omega,by go_num,HBw.out.trans HK.out.bw,HA.out,HR.out,HB8.out.set 0 _,?_,fun i hi=>?_,HK.out.own HOl.out⟩
     ·have h9:=Zrc HO8.out HB8.out (by decide) 0 (.slice ro2 (k+1) rc2)
      have e:Zak (ZqA m.cl (fun i=>if i=k then ⟨ao2,ac2,ao3,ac3⟩ else c' i) (k+1))=Zak (ZqA m.cl c' k)++[.string nm,.int .i64 sp,.slice ao2 fl.length ac2,.slice ao3 ml.length ac3]:=by
       rw [Zrf,Zan,Zao,ZqC m.cl (g:=c') k (fun i hi=>if_neg (by omega)),HXe.out,if_pos rfl]
       rfl
      rw [e]
      exact h9
     ·by_cases hik:i=k
      ·subst hik
       show CpC _ _ (if i=i then _ else _) _
       rw [if_pos rfl,HXe.out]
       exact (⟨HE2.out,HE3.out⟩:CpC w4 _ _ _).kp HK2.out
      ·show CpC _ _ (if i=k then _ else _) _
       rw [if_neg hik]
       exact (HCp.out i (by omega)).kp HK.out
    case measure=>simp [intOf];omega
   ·have hkn:¬ (k:Int) < m.cl.length:=by omega
    obtain rfl:k=m.cl.length:=by omega
    go_wp2_with fail
    go_loopw [6] (fun i wr=>∃ (k:Nat) (e':Nat→MHd) (eo':Option Addr) (ec':Nat),k≤m.me.length∧i=.int .i64 k∧Below w.heap.size w wr∧Blk wr w.heap.size #[.slice co m.cl.length cc,.slice so m.st.length sc,.slice eo m.me.length ec,.int .i64 m.sel] 26∧Blk wr (w.heap.size+1) #[.slice none 0 0,.slice none 0 0,.slice none 0 0,.int .i64 0] 26∧Blk wr OB #[.slice co' m.cl.length cc',.slice so' m.st.length sc',.slice eo' k ec',.int .i64 m.sel] 26∧wr.ownsRow w.heap.size 38 7 (.slice eo' k ec') k (Zak (ZqA m.me e' k))∧((∀ i,i<k→CpM wr w.heap.size (e' i) (m.me.getD i default))∧CpD e' k)∧wr.ownsRow w.heap.size 63 4 (.slice co' m.cl.length cc') m.cl.length (Zak (ZqA m.cl c' m.cl.length))∧(∀ i,i<m.cl.length→CpC wr w.heap.size (c' i) (m.cl.getD i default))∧wr.ownsRow w.heap.size 35 2 (.slice so' m.st.length sc') m.st.length (Zak m.st)) (fun i _=>m.me.length-(intOf i).toNat)
    case atStart=>exact ⟨0,fun _=>default,none,0,by omega,rfl,HBw.out,HBx.out,HBr.out,HBo.out,World.ownsRow_nil _ _ _ _,⟨fun i hi=>by omega,fun i j _ hj=>by omega⟩,HRow.out,HCp.out,HOl.out⟩
    case round=>
     obtain ⟨k,e',eo',ec',hk,rfl,hbw,hbx,hbr,hbo,hrow,hcp,hold⟩:=hrel
     have hN:w.heap.size≤wr.heap.size:=hbw.size
     have x0:=hbx.cell 2 (v:=.slice eo m.me.length ec) rfl
     have xl:=hbx.lt
     have HBw:=Zh hbw
     have HBx:=Zh hbx
     have HBr:=Zh hbr
     have HBo:=Zh hbo
     have HRow:=Zh hrow
     have HCp:=Zh hcp
     have HOl:=Zh hold
     clear hbw hbx hbr hbo hrow hcp hold
     by_cases hkl:k<m.me.length
     ·obtain ⟨ad,had,d0,d1,d2,d3,d4,d5,d6⟩:=(HM.out.old HBw.out).mth hkl
      dsimp only at had
      subst had
      have hkn:(k:Int) < m.me.length:=by omega
      have hwr:IntKind.i64.wrap ((k:Int)+1)=k+1:=IntWalk.i64_in _ (by have:=HSm.out.me;omega)
      have hsz:=HSm.out.m k hkl
      have hr2:=(HM.out.old HBw.out).p k hkl
      have hr3:=(HM.out.old HBw.out).l k hkl
      have hr6:=(HM.out.old HBw.out).k k hkl
      dsimp only at hr2 hr3 hr6 d0 d1 d2 d3 d4 d5 d6
      have hxk:m.me.getD k default=m.me.getD k default:=rfl
      generalize hxe:m.me.getD k default=x at d0 d1 d2 d3 d4 d5 d6 hsz hr2 hr3 hr6
      have HXe:=Zh hxe
      generalize he k=y at d0 d1 d2 d3 d4 d5 d6 hr2 hr3 hr6
      obtain ⟨nm,mc,pl,ll,⟨rk,rq⟩,kl⟩:=x
      obtain ⟨po,pc,lo,lc,ko,kc⟩:=y
      dsimp only at d0 d1 d2 d3 d4 d5 d6 hsz hr2 hr3 hr6
      have HR2:=Zh hr2
      have HR3:=Zh hr3
      have HR6:=Zh hr6
      clear hxe hxk hr2 hr3 hr6
      go_upto_region 13 with fail
      have hx1:=Blk.new wr #[.string nm,.int .i64 mc,.slice po pl.length pc,.slice lo ll.length lc,.int .i64 rk,.int .i64 rq,.slice ko kl.length kc] 38
      have hb1:Below wr.heap.size wr (wr.alloc (.cells #[.string nm,.int .i64 mc,.slice po pl.length pc,.slice lo ll.length lc,.int .i64 rk,.int .i64 rq,.slice ko kl.length kc] 38)):=by exact bE
      have hz1:(wr.alloc (.cells #[.string nm,.int .i64 mc,.slice po pl.length pc,.slice lo ll.length lc,.int .i64 rk,.int .i64 rq,.slice ko kl.length kc] 38)).heap.size=wr.heap.size+1:=by simp
      generalize wr.alloc _=w1 at hx1 hb1 hz1 ⊢
      obtain ⟨B,hB⟩:∃ B,B=wr.heap.size:=⟨_,rfl⟩
      have hBl:wr.heap.size≤B:=by omega
      rw [←hB] at hx1 ⊢
      have HBl:=Zh hBl
      have HB1:=Zh hb1
      have HX1:=Zh hx1
      clear hx1 hb1 hz1 hB hBl d0 d1 d2 d3 d4 d5 d6 x0
      have y2:=HX1.out.cell 2 (v:=.slice po pl.length pc) rfl
      have yl:=HX1.out.lt
      go_upto_region 14 with (at_builtin;refine Zaj rfl (.tmp 55) (.tmp 57) 23 rfl w.heap.size 35 2 16 Zff _ 0 [] rfl (Zq9 rfl (Nat.le_trans hN HB1.out.size)) _ _ _ _ rfl (Zrd (Zar.old HR2.out HB1.out) _) (Zaq _) (by omega) (by unfold maxLen;omega) (by have:=HB1.out.size;simp;omega) ?_;intro ao2 ac2 w3 hown hg;obtain ⟨w4,hw4,HB2,HX2,HF2,HG2,hfz,hx3⟩:=Zrg 2 hN HB1.out HX1.out HBl.out hown hg (by decide);have z2:=hx3.cell 2 (v:=.slice po pl.length pc) rfl;clear hown hg hx3)
      try simp only [Nat.zero_add]
      rw [←hw4]
      clear hw4 hfz yl y2 z2
      have y3:=HX2.out.cell 3 (v:=.slice lo ll.length lc) rfl
      have yl:=HX2.out.lt
      go_upto_region 15 with (at_builtin;refine Zaj rfl (.tmp 60) (.tmp 62) 23 rfl w.heap.size 35 2 16 Zff _ 0 [] rfl (Zq9 rfl (Nat.le_trans hN HB2.out.size)) _ _ _ _ rfl (Zrd (Zar.old HR3.out HB2.out) _) (Zaq _) (by omega) (by unfold maxLen;omega) (by have:=HB2.out.size;simp;omega) ?_;intro ao3 ac3 w3 hown hg;obtain ⟨w4,hw4,HB3,HX3,HF3,HG3,hfz,hx3⟩:=Zrg 3 hN HB2.out HX2.out HBl.out hown hg (by decide);have z3:=hx3.cell 3 (v:=.slice lo ll.length lc) rfl;clear hown hg hx3)
      try simp only [Nat.zero_add]
      rw [←hw4]
      clear hw4 hfz yl y3 z3
      have y6:=HX3.out.cell 6 (v:=.slice ko kl.length kc) rfl
      have yl:=HX3.out.lt
      go_upto_region 16 with (at_builtin;refine Zaj rfl (.tmp 65) (.tmp 67) 36 rfl wr.heap.size 42 3 24 Zqz _ 0 [] rfl (Zq9 rfl HB3.out.size) _ _ _ _ rfl (Zrd (Zar.old HR6.out HB3.out) _) (Zaq _) (by omega) (by unfold maxLen;omega) (by have:=HB3.out.size;simp;omega) ?_;intro ao6 ac6 w3 hown hg;obtain ⟨w4,hw4,HB4,HX4,HF6,HG6,hfz,hx3⟩:=Zrg 6 (Nat.le_refl _) HB3.out HX3.out HBl.out hown hg (by decide);have z6:=hx3.cell 6 (v:=.slice ko kl.length kc) rfl;clear hown hg hx3)
      try simp only [Nat.zero_add]
      rw [←hw4]
      clear hw4 hfz yl y6 z6
      have HE2:=Zh (HG6.out (HG3.out HF2.out (by decide)) (by decide))
      have HE3:=Zh (HG6.out HF3.out (by decide))
      have HE6:=HF6
      have y0:=HX4.out.cell 0 (v:=.string nm) rfl
      have y1:=HX4.out.cell 1 (v:=.int .i64 mc) rfl
      have y2:=HX4.out.cell 2 (v:=.slice ao2 pl.length ac2) rfl
      have y3:=HX4.out.cell 3 (v:=.slice ao3 ll.length ac3) rfl
      have y4:=HX4.out.cell 4 (v:=.int .i64 rk) rfl
      have y5:=HX4.out.cell 5 (v:=.int .i64 rq) rfl
      have y6:=HX4.out.cell 6 (v:=.slice ao6 kl.length ac6) rfl
      have yl:=HX4.out.lt
      have hob4:=HBo.out.old HB4.out
      have o0:=hob4.cell 2 (v:=.slice eo' k ec') rfl
      have ol:=hob4.lt
      have HO4:=Zh (Zra HRow.out HB4.out)
      go_upto_region 11 with (at_builtin;refine Zaj rfl (.tmp 71) (.tmp 73) 24 rfl w.heap.size 38 7 112 Zqy _ k _ rfl (HO4.out.alloc _) _ 1 1 [.string nm,.int .i64 mc,.slice ao2 pl.length ac2,.slice ao3 ll.length ac3,.int .i64 rk,.int .i64 rq,.slice ao6 kl.length ac6] rfl (ZdL (Blk.new' #[.string nm,.int .i64 mc,.slice ao2 pl.length ac2,.slice ao3 ll.length ac3,.int .i64 rk,.int .i64 rq,.slice ao6 kl.length ac6] 38 (by simp)) rfl) (by intro u hu;simp only [List.mem_cons,List.not_mem_nil,or_false] at hu;rcases hu with rfl|rfl|rfl|rfl|rfl|rfl|rfl<;>rfl) (by have:=HSm.out.me;omega) (by have:=HSm.out.me;unfold maxLen;omega) (by have:=HB4.out.size;simp;omega) ?_;intro ro2 rc2 w8 hown8 hg8;have hob8:=Zre HO4.out hg8 hob4 (by decide);have z0:=hob8.cell 2 (v:=.slice eo' k ec') rfl;have zf:=hob8.frozen 2;have zl:=hob8.lt;have HO8:=Zh hown8;have HG8:=Zh hg8;have HB8:=Zh hob8;clear hown8 hg8 hob8)
      have hkp2:Kp [26,38] w.heap.size w4 (w8.setCell ⟨OB,2,none⟩ (.slice ro2 (k+1) rc2)):=((Kp.of (bal (Below.refl _ _) _) (Nat.le_trans hN HB4.out.size)).trans (Kp.grown (HO4.out.alloc _) HG8.out (Nat.le_refl _) (by have:=HB4.out.size;simp;omega) (by decide))).set HB8.out (by decide) hle 2 _
      have hkp:=(Kp.of HB4.out hN).trans hkp2
      have hA:=Blk.other (Zre HO4.out HG8.out (HBx.out.old HB4.out) (by decide)) (a:=⟨OB,2,none⟩) hne0.symm (.slice ro2 (k+1) rc2)
      have hR:=Blk.other (Zre HO4.out HG8.out (HBr.out.old HB4.out) (by decide)) (a:=⟨OB,2,none⟩) hne1.symm (.slice ro2 (k+1) rc2)
      have HK2:=Zh hkp2
      have HK:=Zh hkp
      have HA:=Zh hA
      have HR:=Zh hR
      clear hkp2 hkp hA hR y0 y1 y2 y3 y4 y5 y6 o0 ol hob4 z0 zf zl yl
      go_wp2
      go_roundw
      case rel=>
       refine ⟨k+1,fun i=>if i=k then ⟨ao2,ac2,ao3,ac3,ao6,ac6⟩ else e' i,ro2,rc2,by omega,by go_num,HBw.out.trans HK.out.bw,HA.out,HR.out,HB8.out.set 2 _,?_,⟨fun i hi=>?_,Zri HCp.out.2 (fun i hi a ha=>(Zrh (HCp.out.1 i hi).k a ha).2) fun b hb=>(Zrh HE6.out b hb).1⟩,HK.out.own HOl.out.1,fun i hi=>(HOl.out.2.1 i hi).kp HK.out,HK.out.own HOl.out.2.2⟩
       ·have h9:=Zrc HO8.out HB8.out (by decide) 2 (.slice ro2 (k+1) rc2)
        have e:Zak (ZqA m.me (fun i=>if i=k then ⟨ao2,ac2,ao3,ac3,ao6,ac6⟩ else e' i) (k+1))=Zak (ZqA m.me e' k)++[.string nm,.int .i64 mc,.slice ao2 pl.length ac2,.slice ao3 ll.length ac3,.int .i64 rk,.int .i64 rq,.slice ao6 kl.length ac6]:=by
         rw [Zrf,Zan,Zao,ZqC m.me (g:=e') k (fun i hi=>if_neg (by omega)),HXe.out,if_pos rfl]
         rfl
        rw [e]
        exact h9
       ·by_cases hik:i=k
        ·subst hik
         show CpM _ _ (if i=i then _ else _) _
         rw [if_pos rfl,HXe.out]
         exact (⟨HE2.out,HE3.out,Zed HE6.out hN⟩:CpM w4 _ _ _).kp HK2.out
        ·show CpM _ _ (if i=k then _ else _) _
         rw [if_neg hik]
         exact (HCp.out.1 i (by omega)).kp HK.out
      case measure=>simp [intOf];omega
     ·have hkn:¬ (k:Int) < m.me.length:=by omega
      obtain rfl:k=m.me.length:=by omega
      have hbo:=HBo.out
      have hbr:=HBr.out
      have o0:=hbo.cell 0 (v:=.slice co' m.cl.length cc') rfl
      have o1:=hbo.cell 1 (v:=.slice so' m.st.length sc') rfl
      have o2:=hbo.cell 2 (v:=.slice eo' m.me.length ec') rfl
      have o3:=hbo.cell 3 (v:=.int .i64 m.sel) rfl
      have r0:=hbr.cell 0 (v:=.slice none 0 0) rfl
      have r1:=hbr.cell 1 (v:=.slice none 0 0) rfl
      have r2:=hbr.cell 2 (v:=.slice none 0 0) rfl
      have r3:=hbr.cell 3 (v:=.int .i64 0) rfl
      have f0:=hbr.frozen 0
      have f1:=hbr.frozen 1
      have f2:=hbr.frozen 2
      have f3:=hbr.frozen 3
      have hl:=hbr.lt
      have hk:=(((((Kp.refl [26] w.heap.size wr).set hbr (by decide) (Nat.le_succ _) 0 (.slice co' m.cl.length cc')).set (hbr.set 0 _) (by decide) (Nat.le_succ _) 1 (.slice so' m.st.length sc')).set ((hbr.set 0 _).set 1 _) (by decide) (Nat.le_succ _) 2 (.slice eo' m.me.length ec')).set (((hbr.set 0 _).set 1 _).set 2 _) (by decide) (Nat.le_succ _) 3 (.int .i64 m.sel))
      have HKf:=Zh hk
      clear hbo hbr hk
      go_wp2
      refine bodyPost_ret (v:=.agg #[.slice co' m.cl.length cc',.slice so' m.st.length sc',.slice eo' m.me.length ec',.int .i64 m.sel]) (by simp [results,Tryz.results19,go_sem,r0,r1,r2,r3]) rfl ?_
      refine ⟨⟨co',cc',so',sc',eo',ec',c',e'⟩,rfl,⟨?_,HKf.out.own HOl.out.2.2,?_,fun i hi=>(HOl.out.2.1 i hi).kp HKf.out,fun i hi=>(HCp.out.1 i hi).kp HKf.out⟩,HBw.out.trans HKf.out.bw,HCp.out.2⟩
      ·have h9:=HKf.out.own HOl.out.1
       rw [ZqE] at h9
       exact h9
      ·have h9:=HKf.out.own HRow.out
       rw [ZqE] at h9
       exact h9
 clear hK
 have HS:=Zh (show ∀ w',Below W0.heap.size W0 w'→Cs [(⟨w.heap.size,1,none⟩,.slice so m.st.length sc),(⟨w.heap.size,3,none⟩,.int .i64 m.sel)] w' from fun w' hb=>⟨(HX.out.old hb).cell 1 rfl,(HX.out.old hb).cell 3 rfl,trivial⟩)
 refine rO (Cs [(⟨w.heap.size,1,none⟩,.slice so m.st.length sc),(⟨w.heap.size,3,none⟩,.int .i64 m.sel)]) (.plain 0 (.plain 1 (.plain 3 (.plain 4 (.two 2 7 (.two 5 7 (oL [6,107,108]) (oL [105,6,108])) (oL [102,105,6,108])))))) (HS.out _ (Below.drew (Below.refl _ _))) ?_
 repeat refine pO ?_
 have hd0:Below W0.heap.size W0 W0.drew:=Below.drew (Below.refl _ _)
 have HDz:=Zh (show W0.drew.heap.size=W0.heap.size from rfl)
 generalize W0.drew=w1 at hd0 HDz ⊢
 refine Zd4 (Zd2 _ (by rfl) (by rfl) fun Kv hK=>?_) (Zd2 _ (by rfl) (by rfl) fun Kv hK=>?_)
 ·go_simp
  have hb2:Below W0.heap.size W0 (w1.alloc (.cells #[] 35)):=bal hd0 _
  have ho2:(w1.alloc (.cells #[] 35)).ownsRow w.heap.size 35 2 (.slice (some ⟨w1.heap.size,0,none⟩) 0 0) 0 []:=Zq9 rfl (by have:=HDz.out;have:=HSz.out;omega)
  have HZ2:=Zh (show (w1.alloc (.cells #[] 35)).heap.size=w1.heap.size+1 by simp)
  refine hK _ _ ⟨HS.out _ hb2,?_⟩
  clear hK Kv
  generalize w1.alloc _=w2 at hb2 ho2 HZ2 ⊢
  generalize w1.heap.size=g at ho2 HZ2 HDz ⊢
  refine Zd4 (Zd2 _ (by rfl) (by rfl) fun Kv hK=>?_) (Zd2 _ (by rfl) (by rfl) fun Kv hK=>?_)
  ·refine Zej (.tmp 10) (.tmp 12) 23 rfl w.heap.size 35 2 16 Zff _ 0 [] rfl ho2 _ _ _ _ rfl (Zar.old HM.out.st (Zaf HB0.out hb2)) (Zaq _) (by omega) (by unfold maxLen;omega) (by have:=HSz.out;have:=(hb2).size;omega) ?_
   intro ao ac w3 hown hg
   rw [Nat.zero_add,List.nil_append] at hown
   have hb3:Below W0.heap.size W0 w3:=ZcV hb2 hg (fun j hj=>by cases hj;show W0.heap.size≤g;have:=HDz.out;omega)
   refine hK _ _ ⟨HS.out _ hb3,?_⟩
   clear hK Kv hg
   repeat refine pO ?_
   refine oO fun Kv hK=>?_
   go_simp
   have hb4:Below W0.heap.size W0 (w3.alloc (.cells #[.slice none 0 0,.slice none 0 0,.slice none 0 0,.int .i64 0] 26)):=bal hb3 _
   have hz4:=Blk.new w3 #[.slice none 0 0,.slice none 0 0,.slice none 0 0,.int .i64 0] 26
   have ho4:=hown.alloc (.cells #[.slice none 0 0,.slice none 0 0,.slice none 0 0,.int .i64 0] 26)
   have hle0:W0.heap.size≤w3.heap.size:=hb3.size
   refine hK _ _ ⟨HS.out _ hb4,?_⟩
   clear hK Kv
   generalize w3.alloc _=w4 at hb4 hz4 ho4 ⊢
   generalize w3.heap.size=OB at hz4 hle0 ⊢
   have z0:=hz4.cell 0 (v:=.slice none 0 0) rfl
   have f0:=hz4.frozen 0
   have z1:=hz4.cell 1 (v:=.slice none 0 0) rfl
   have f1:=hz4.frozen 1
   have z2:=hz4.cell 2 (v:=.slice none 0 0) rfl
   have f2:=hz4.frozen 2
   have z3:=hz4.cell 3 (v:=.int .i64 0) rfl
   have f3:=hz4.frozen 3
   have zl:=hz4.lt
   refine oO fun Kv hK=>?_
   go_simp
   refine hK _ _ ⟨HS.out _ (ZcW (ZcW (ZcW (ZcW hb4 hle0 _) hle0 _) hle0 _) hle0 _),?_⟩
   refine Zd5 ?_
   exact key OB _ _ _ _ _ _ _ _ ao ac (ZcW (ZcW (ZcW (ZcW hb4 hle0 _) hle0 _) hle0 _) hle0 _) (by have:=HSz.out;omega) (by have:=HSz.out;omega) (by have:=HSz.out;omega) ((((hz4.set 0 (.slice none 0 0)).set 1 (.slice ao m.st.length ac)).set 2 (.slice none 0 0)).set 3 (.int .i64 m.sel)) (Zrc (Zrc (Zrc (Zrc ho4 hz4 (by decide) 0 (.slice none 0 0)) (hz4.set 0 (.slice none 0 0)) (by decide) 1 (.slice ao m.st.length ac)) ((hz4.set 0 (.slice none 0 0)).set 1 (.slice ao m.st.length ac)) (by decide) 2 (.slice none 0 0)) (((hz4.set 0 (.slice none 0 0)).set 1 (.slice ao m.st.length ac)).set 2 (.slice none 0 0)) (by decide) 3 (.int .i64 m.sel))
  ·go_simp
   have hb4:Below W0.heap.size W0 (w2.alloc (.cells #[.slice none 0 0,.slice none 0 0,.slice none 0 0,.int .i64 0] 26)):=bal hb2 _
   have hz4:=Blk.new w2 #[.slice none 0 0,.slice none 0 0,.slice none 0 0,.int .i64 0] 26
   have ho4:=ho2.alloc (.cells #[.slice none 0 0,.slice none 0 0,.slice none 0 0,.int .i64 0] 26)
   have hle0:W0.heap.size≤w2.heap.size:=hb2.size
   have HNe:=Zh (show g≠w2.heap.size by have:=HZ2.out;omega)
   refine hK _ _ ⟨HS.out _ hb4,?_⟩
   clear hK Kv
   generalize w2.alloc _=w4 at hb4 hz4 ho4 ⊢
   generalize w2.heap.size=OB at hz4 hle0 HNe ⊢
   refine oO fun Kv hK=>?_
   refine Zej (.tmp 10) (.tmp 12) 23 rfl w.heap.size 35 2 16 Zff _ 0 [] rfl ho4 _ _ _ _ rfl (Zar.old HM.out.st (Zaf HB0.out hb4)) (Zaq _) (by omega) (by unfold maxLen;omega) (by have:=HSz.out;have:=(hb4).size;omega) ?_
   intro ao ac w5 hown hg
   rw [Nat.zero_add,List.nil_append] at hown
   have hb5:Below W0.heap.size W0 w5:=ZcV hb4 hg (fun j hj=>by cases hj;show W0.heap.size≤g;have:=HDz.out;omega)
   have hz5:=Blk.grownV hz4 hg (Zrb ho4 hz4 (by decide))
   exact kC0
 ·go_simp
  have hb2:Below W0.heap.size W0 (w1.alloc (.cells #[.slice none 0 0,.slice none 0 0,.slice none 0 0,.int .i64 0] 26)):=bal hd0 _
  have hz2:=Blk.new w1 #[.slice none 0 0,.slice none 0 0,.slice none 0 0,.int .i64 0] 26
  have hle0:W0.heap.size≤w1.heap.size:=hd0.size
  refine hK _ _ ⟨HS.out _ hb2,?_⟩
  clear hK Kv
  generalize w1.alloc _=w2 at hb2 hz2 ⊢
  generalize w1.heap.size=OB at hz2 hle0 ⊢
  refine oO fun Kv hK=>?_
  go_simp
  have hb3:Below W0.heap.size W0 (w2.alloc (.cells #[] 35)):=bal hb2 _
  have ho3:(w2.alloc (.cells #[] 35)).ownsRow w.heap.size 35 2 (.slice (some ⟨w2.heap.size,0,none⟩) 0 0) 0 []:=Zq9 rfl (by have:=hb2.size;have:=HSz.out;omega)
  have hz3:=hz2.alloc (.cells #[] 35)
  have hg9:=hb2.size
  refine hK _ _ ⟨HS.out _ hb3,?_⟩
  clear hK Kv
  generalize w2.alloc _=w3 at hb3 hz3 ho3 ⊢
  generalize w2.heap.size=g at ho3 hg9 ⊢
  refine oO fun Kv hK=>?_
  refine Zej (.tmp 10) (.tmp 12) 23 rfl w.heap.size 35 2 16 Zff _ 0 [] rfl ho3 _ _ _ _ rfl (Zar.old HM.out.st (Zaf HB0.out hb3)) (Zaq _) (by omega) (by unfold maxLen;omega) (by have:=HSz.out;have:=(hb3).size;omega) ?_
  intro ao ac w5 hown hg
  rw [Nat.zero_add,List.nil_append] at hown
  have hb5:Below W0.heap.size W0 w5:=ZcV hb3 hg (fun j hj=>by cases hj;exact hg9)
  have hz5:=Blk.grownV hz3 hg (Zrb ho3 hz3 (by decide))
  exact kC0
end
section
open Go.RowKit
section
variable {m:Md}{T:Int→Int}{c:List In3} (ha:∀ i∈c,i.op≠1→0≤i.a)
include ha
end
theorem Zrk (x:Ms) (m:Md) {kk:Nat} (hk:kk<m.me.length) (l:List In3):∀ k,k≤kk→ZmC (gW x (ZqN m kk l)) (ZqN m kk l) k=ZmC (gW x m) m k
 | 0,_=>rfl
 | k+1,h=>by
  unfold ZmC
  rw [Zrk x m hk l k (by omega),ZqP hk,if_neg (by omega)]
  rfl
theorem Zrl (x:Ms) (m:Md) {kk:Nat} (hk:kk<m.me.length) (l:List In3):ZmD (gW x (ZqN m kk l)) (ZqN m kk l) kk=WA (gW x m fun t=>(ZmC (gW x m) m kk).getD t.toNat 0) l 0 l.length 0:=by
 rw [ZoH,Zrk x m hk l kk (Nat.le_refl _)]
 unfold cdM
 rw [ZqP hk,if_pos rfl]
 rfl
theorem Zrm {m:Md}{kk:Nat} (hm:(Zl6 m).2.2=0) (hk:kk<m.me.length) {l:List In3} (hv:Za1 (ZqN m kk l)=true) (hp:(ZeG (ZqN m kk l) kk).2.2=0):(Zl6 (ZqN m kk l)).2.2=0:=by
 have hmv:=(Zqo hm).1
 have S:ZqR (ZqN m kk l).me m.me:=by
  refine ⟨by simp [ZqN],fun j=>?_,fun j=>?_,fun j=>?_,fun j=>?_⟩<;>rw [ZqP hk]<;>split<;>simp_all
 unfold Zl6 at hm ⊢
 rw [if_pos hmv] at hm
 rw [if_pos hv]
 have h2:∀ n k,(∀ j,k≤j→j<k+n→(ZeG (ZqN m kk l) j).2.2=0)→(Zl5 (ZqN m kk l) n k).2.2=0:=by
  intro n
  induction n with
  | zero=>intro k _;rfl
  | succ n ih=>
   intro k h
   unfold Zl5
   rw [if_pos (h k (Nat.le_refl _) (by omega))]
   exact ih (k+1) fun j h1 h2=>h j (by omega) (by omega)
 refine h2 _ _ fun j _ hj=>?_
 by_cases e:j=kk
 ·subst e;exact hp
 ·have h3:=Zqn _ _ hm j (Nat.zero_le _) (by rw [S.len] at hj;omega)
  unfold ZeG at h3 ⊢
  rw [ZqP hk,if_neg e]
  have h4:∀ lo r l' s,ZeE (ZqN m kk l) lo r 0 l' s=ZeE m lo r 0 l' s:=fun lo r l' s=>Zq1 (cl:=m.cl) (st:=m.st) (sel:=m.sel) S lo r l' 0 s
  rw [h4]
  exact h3
end
section
open Go.RowKit
def upI (i:In3):In3:=⟨i.op,i.a+1,i.b⟩
def Zrn (c:List In3) (p:Nat):List In3:=c.set p (upI (c.getD p default))
section
variable {c:List In3}{p:Nat}
theorem Zro:(Zrn c p).length=c.length:=by simp [Zrn]
theorem Zrp (hp:p<c.length) (k:Nat):(Zrn c p).getD k default=if k=p then upI (c.getD p default) else c.getD k default:=by
 unfold Zrn
 by_cases h:k=p
 ·subst h;rw [if_pos rfl,List.getD_eq_getElem?_getD,List.getElem?_set_self hp];rfl
 ·rw [if_neg h,List.getD_eq_getElem?_getD,List.getElem?_set_ne (fun q=>h q.symm),List.getD_eq_getElem?_getD]
theorem Zrq (hp:p<c.length) (k:Nat):((Zrn c p).getD k default).op=(c.getD k default).op:=by
 rw [Zrp hp]
 split
 ·subst_vars;rfl
 ·rfl
theorem Zrr:(Zrn c p).map In3.op=c.map In3.op:=by
 by_cases hp:p<c.length
 ·refine List.ext_getElem (by simp [Zro]) fun k h1 h2=>?_
  have h1':k<(Zrn c p).length:=by simpa using h1
  have h2':k<c.length:=by simpa using h2
  have:=Zrq hp k
  simpa [h1',h2'] using this
 ·unfold Zrn;rw [List.set_eq_of_length_le (by omega)]
end
theorem Zrs:∀ (l l':List In3) (s:List Br × Nat),l.map In3.op=l'.map In3.op→ZaT s l=ZaT s l'
 | [],[],_,_=>rfl
 | [],_ :: _,_,h=>by simp at h
 | _ :: _,[],_,h=>by simp at h
 | i :: l,j :: l',s,h=>by
  simp only [List.map_cons,List.cons.injEq] at h
  unfold ZaT
  have:ZaS s i=ZaS s j:=by unfold ZaS;rw [h.1]
  rw [this]
  cases ZaS s j with
  | none=>rfl
  | some t=>exact Zrs l l' t h.2
section
variable {l l':List In3} (hl:l.map In3.op=l'.map In3.op)
include hl
theorem Zrt:l.length=l'.length:=by have:=congrArg List.length hl;simpa using this
theorem Zru (k:Nat):(l.getD k default).op=(l'.getD k default).op:=by
 have e:∀ l:List In3,(l.getD k default).op=(l.map In3.op).getD k (default:In3).op:=fun l=>by
  rw [List.getD_eq_getElem?_getD,List.getD_eq_getElem?_getD,List.getElem?_map]
  cases l[k]?<;>rfl
 rw [e,e,hl]
theorem Zrv {a b d:Nat} (h:Za7 l a b d):Za7 l' a b d:=fun S D hD=>by
 obtain ⟨h1,h2,h3⟩:=h S D hD
 refine ⟨h1,Zrt hl▸h2,?_⟩
 rw [←h3]
 exact Zrs _ _ _ (by rw [List.map_take,List.map_drop,List.map_take,List.map_drop,hl])
theorem Zrw {o en:Nat}{alt:Int} (h:Mat l o alt en):Mat l' o alt en:=by
 obtain ⟨h0,h1,h2,h3,h4⟩:=h
 have e:=Zru hl
 have el:=Zrt hl
 refine ⟨el▸h0,by unfold ZbE at *;rw [←e];exact h1,el▸h2,by rw [←e];exact h3,?_⟩
 rcases h4 with ⟨q1,q2,d,q3⟩|⟨n,q1,q2,q3,q4,⟨d,q5⟩,f,q6⟩
 ·exact .inl ⟨q1,by rw [←e];exact q2,d,Zrv hl q3⟩
 ·exact .inr ⟨n,q1,el▸q2,by rw [←e];exact q3,by rw [←e];exact q4,⟨d,Zrv hl q5⟩,f,Zrv hl q6⟩
theorem Zrx {a b:Nat} (h:Seg l a b):Seg l' a b:=by
 have e:=Zru hl
 have el:=Zrt hl
 induction h with
 | nil a h=>exact .nil _ (el▸h)
 | pl a b h1 h2 h3 h4 h5 ih=>exact .pl _ _ (el▸h1) (by rw [←e];exact h2) (by rw [←e];exact h3) (by rw [←e];exact h4) ih
 | one a en b h1 h2 h3 i1 i2=>exact .one _ _ _ (Zrw hl h1) i1 i2
 | two a n en b h1 h2 h3 h4 i1 i2 i3=>exact .two _ _ _ _ (Zrw hl h1) i1 i2 i3
end
theorem Zry {c:List In3}{p o en:Nat}{alt:Int} (h:Mat c o alt en):Mat (Zrn c p) o alt en:=Zrw Zrr.symm h
theorem Zrz {c:List In3}{p a b:Nat} (h:Seg c a b):Seg (Zrn c p) a b:=Zrx Zrr.symm h
theorem ZrA {g:Wg}{c:List In3}{p a b:Nat} (hp:p<c.length) (hs:Seg c a b) (hne:p<a∨b≤p):∀ acc,WA g (Zrn c p) a b acc=WA g c a b acc:=by
 induction hs with
 | nil a h=>intro acc;rw [Zml,Zml]
 | pl a b q1 q2 q3 q4 q5 ih=>
  intro acc
  have hle:=(Zme q5).1
  have e:(Zrn c p).getD a default=c.getD a default:=by rw [Zrp hp,if_neg (by omega)]
  rw [Zmm (l:=Zrn c p) (by rw [e];exact q2) (Zrz q5),Zmm q2 q5,e]
  exact ih (by omega) _
 | one a en b q1 q2 q3 i1 i2=>
  intro acc
  have hle2:=(Zme q2).1
  have hle3:=(Zme q3).1
  have e:(Zrn c p).getD a default=c.getD a default:=by rw [Zrp hp,if_neg (by omega)]
  rw [Zmn (Zry q1) (Zrz q2) (Zrz q3),Zmn q1 q2 q3,e,i1 (by omega),i2 (by omega)]
 | two a n en b q1 q2 q3 q4 i1 i2 i3=>
  intro acc
  have hle2:=(Zme q2).1
  have hle3:=(Zme q3).1
  have hle4:=(Zme q4).1
  have e:(Zrn c p).getD a default=c.getD a default:=by rw [Zrp hp,if_neg (by omega)]
  rw [Zmo (Zry q1) (Zrz q2) (Zrz q3) (Zrz q4),Zmo q1 q2 q3 q4,e,i1 (by omega),i2 (by omega),i3 (by omega)]
section
variable {x:Ms}{m:Md}{T:Int→Int}{c:List In3} (hw:∀ i∈c,0≤x.wt i∧x.wt i≤1000) (ht:0≤x.tl∧x.tl≤1000) (hT:∀ t,Bd (T t)) (ha:∀ i∈c,i.op≠1→0≤i.a)
include hw ht hT ha
theorem ZrB {a b:Nat} (hs:Seg c a b):∀ acc,Bd acc→WA (gW x m T) c a b acc=Zmu acc (WA (gW x m T) c a b 0):=by
 have hm:∀ k,k<c.length→c.getD k default∈c:=fun k hk=>ZfU _ hk
 have hplus:∀ a b,(gW x m T).plus a b=Zmu a b:=fun _ _=>rfl
 have hpl:=ZnF (m:=m) hw ht hT ha
 have hbr:=ZnG (m:=m) hw ht hT ha
 have h0:Bd 0:=by unfold Bd;omega
 have key:∀ acc p S,Bd acc→Bd p→Bd S→Zmu (Zmu acc p) S=Zmu acc (Zmu (Zmu 0 p) S):=fun acc p S h1 h2 h3=>by unfold Bd at *;unfold Zmu Zmt;omega
 induction hs with
 | nil a h=>intro acc hacc;rw [Zml,Zml];unfold Bd at hacc;unfold Zmu Zmt;omega
 | pl a b q1 q2 q3 q4 q5 ih=>
  intro acc hacc
  have hp:=hpl _ (hm a q1)
  rw [Zmm q2 q5,Zmm q2 q5,hplus,hplus,ih _ (ZnB hacc hp),ih _ (ZnB h0 hp)]
  exact key _ _ _ hacc hp (ZnH (m:=m) hw ht hT ha q5 0 h0)
 | one a en b q1 q2 q3 i1 i2=>
  intro acc hacc
  have hp:=hbr _ (hm a q1.1) _ _ (ZnH (m:=m) hw ht hT ha q2 0 h0) h0
  rw [Zmn q1 q2 q3,Zmn q1 q2 q3,hplus,hplus,i2 _ (ZnB hacc hp),i2 _ (ZnB h0 hp)]
  exact key _ _ _ hacc hp (ZnH (m:=m) hw ht hT ha q3 0 h0)
 | two a n en b q1 q2 q3 q4 i1 i2 i3=>
  intro acc hacc
  have hp:=hbr _ (hm a q1.1) _ _ (ZnH (m:=m) hw ht hT ha q2 0 h0) (ZnH (m:=m) hw ht hT ha q3 0 h0)
  rw [Zmo q1 q2 q3 q4,Zmo q1 q2 q3 q4,hplus,hplus,i3 _ (ZnB hacc hp),i3 _ (ZnB h0 hp)]
  exact key _ _ _ hacc hp (ZnH (m:=m) hw ht hT ha q4 0 h0)
end
section
variable {m:Md}{T:Int→Int}{c:List In3}{p en:Nat} (hw:∀ i∈c,0≤Zmw i∧Zmw i≤1000) (hT:∀ t,Bd (T t)) (ha:∀ i∈c,i.op≠1→0≤i.a) (hm:Mat c p (-1) en) (h30:(c.getD p default).op=30) (htop:∀ o,o<p→ZaR (c.getD o default).op=true→(mtV c o).2<p)
include hw hT ha hm h30 htop
theorem ZrC {a b:Nat} (hs:Seg c a b):a≤p→p<b→∀ acc,Bd acc→WA (gW Zmx m T) c a b acc≤WA (gW Zmx m T) (Zrn c p) a b acc∧(WA (gW Zmx m T) (Zrn c p) a b acc≤1000000000→WA (gW Zmx m T) (Zrn c p) a b acc=WA (gW Zmx m T) c a b acc+WA (gW Zmx m T) c (p+1) en 0+1):=by
 have hmem:∀ k,k<c.length→c.getD k default∈c:=fun k hk=>ZfU _ hk
 have hplus:∀ a b,(gW Zmx m T).plus a b=Zmu a b:=fun _ _=>rfl
 have h0:Bd 0:=by unfold Bd;omega
 have hpl:=ZnF (x:=Zmx) (m:=m) hw (by decide) hT ha
 have hbr:=ZnG (x:=Zmx) (m:=m) hw (by decide) hT ha
 have hp:=hm.1
 induction hs with
 | nil a h=>intro h1 h2;omega
 | pl a b q1 q2 q3 q4 q5 ih=>
  intro h1 h2 acc hacc
  have hne:a≠p:=fun e=>by subst e;rw [h30] at q2;revert q2;decide
  have e:(Zrn c p).getD a default=c.getD a default:=by rw [Zrp hp,if_neg hne]
  rw [Zmm (l:=Zrn c p) (by rw [e];exact q2) (Zrz q5),Zmm q2 q5,e]
  exact ih (by omega) h2 _ (ZnB hacc (hpl _ (hmem a q1)))
 | one a en2 b q1 q2 q3 i1 i2=>
  intro h1 h2 acc hacc
  by_cases hap:a=p
  ·subst hap
   obtain ⟨_,rfl⟩:=ZbH q1 hm
   have e:(Zrn c a).getD a default=upI (c.getD a default):=by rw [Zrp hp,if_pos rfl]
   have hle2:=(Zme q2).1
   have hle3:=(Zme q3).1
   rw [Zmn (Zry q1) (Zrz q2) (Zrz q3),Zmn q1 q2 q3,e,ZrA hp q2 (by omega),ZrA hp q3 (by omega),hplus,hplus]
   have hf:=ZnH (x:=Zmx) (m:=m) hw (by decide) hT ha q2 0 h0
   generalize WA (gW Zmx m T) c (a+1) en2 0=f at hf ⊢
   have hi:=ha _ (hmem a hp) (by omega)
   have hc:=hw _ (hmem a hp)
   have hb1:(gW Zmx m T).brk (c.getD a default) f 0=Zmu (Zmw (c.getD a default)) (Zmv (c.getD a default).a (Zmu f 1)):=(if_neg (by omega)).trans (if_pos h30)
   have hb2:(gW Zmx m T).brk (upI (c.getD a default)) f 0=Zmu (Zmw (c.getD a default)) (Zmv ((c.getD a default).a+1) (Zmu f 1)):=by
    have hcc:Zmw (upI (c.getD a default))=Zmw (c.getD a default):=by
     unfold Zmw upI
     rw [if_neg (by dsimp only;omega),if_neg (by omega)]
    refine ((if_neg (by show ¬ (c.getD a default).op=29;omega)).trans (if_pos h30)).trans ?_
    show Zmu (Zmw (upI (c.getD a default))) _=_
    rw [hcc]
    rfl
   rw [hb1,hb2]
   have hg1:=hbr _ (hmem a hp) f 0 hf h0
   rw [hb1] at hg1
   have hg2:Bd (Zmu (Zmw (c.getD a default)) (Zmv ((c.getD a default).a+1) (Zmu f 1))):=ZnB (by unfold Bd;omega) (ZnC (by omega) (ZnB hf (by unfold Bd;omega)))
   rw [ZrB hw (by decide) hT ha q3 _ (ZnB hacc hg2),ZrB hw (by decide) hT ha q3 _ (ZnB hacc hg1)]
   have hS:=ZnH (x:=Zmx) (m:=m) hw (by decide) hT ha q3 0 h0
   have hmul:((c.getD a default).a+1)*Zmu f 1=(c.getD a default).a*Zmu f 1+Zmu f 1:=by rw [Int.add_mul,Int.one_mul]
   have hnn:=Int.mul_nonneg hi (show 0≤Zmu f 1 by unfold Bd at hf;unfold Zmu Zmt;omega)
   unfold Zmv
   rw [hmul]
   generalize (c.getD a default).a*Zmu f 1=z at hnn ⊢
   generalize Zmw (c.getD a default)=cc at hc ⊢
   generalize WA (gW Zmx m T) c (en2+1) b 0=S at hS ⊢
   unfold Bd at hf hacc hS
   unfold Zmu Zmt
   omega
  ·have hal:a<p:=by omega
   have hen:en2<p:=by have:=htop a hal q1.2.1;rw [Zmd q1] at this;exact this
   have e:(Zrn c p).getD a default=c.getD a default:=by rw [Zrp hp,if_neg hap]
   have hle2:=(Zme q2).1
   rw [Zmn (Zry q1) (Zrz q2) (Zrz q3),Zmn q1 q2 q3,e,ZrA hp q2 (by omega)]
   exact i2 (by omega) h2 _ (ZnB hacc (hbr _ (hmem a q1.1) _ _ (ZnH (x:=Zmx) (m:=m) hw (by decide) hT ha q2 0 h0) h0))
 | two a n en2 b q1 q2 q3 q4 i1 i2 i3=>
  intro h1 h2 acc hacc
  have hap:a≠p:=fun e=>by
   subst e
   rcases q1.2.2.2.2 with ⟨q,_⟩|⟨n2,_,_,_,q,_⟩<;>omega
  have hal:a<p:=by omega
  have hen:en2<p:=by have:=htop a hal q1.2.1;rw [Zmd q1] at this;exact this
  have e:(Zrn c p).getD a default=c.getD a default:=by rw [Zrp hp,if_neg hap]
  have hle2:=(Zme q2).1
  have hle3:=(Zme q3).1
  rw [Zmo (Zry q1) (Zrz q2) (Zrz q3) (Zrz q4),Zmo q1 q2 q3 q4,e,ZrA hp q2 (by omega),ZrA hp q3 (by omega)]
  exact i3 (by omega) h2 _ (ZnB hacc (hbr _ (hmem a q1.1) _ _ (ZnH (x:=Zmx) (m:=m) hw (by decide) hT ha q2 0 h0) (ZnH (x:=Zmx) (m:=m) hw (by decide) hT ha q3 0 h0)))
end
def ZrD (m:Md) (kk p:Nat):Md:=ZqN m kk (Zrn (cdM m kk) p)
theorem ZrE {m:Md}{lo:List Ty}{i:In3} (h:i.op=30) (s:Ps):ZeC m lo (upI i) s=ZeC m lo i s:=by
 obtain ⟨op,a,b⟩:=i
 dsimp only at h
 subst h
 rfl
theorem ZrF {m:Md}{lo:List Ty}{r:Ty}:∀ (l:List In3) (p n:Nat) (s:Ps),p<l.length→(l.getD p default).op=30→ZeE m lo r n (Zrn l p) s=ZeE m lo r n l s
 | [],p,n,s,hp,_=>by simp at hp
 | i :: l,0,n,s,_,h=>by
  show ZeE m lo r n (upI i :: l) s=_
  unfold ZeE
  rw [ZrE (i:=i) h]
 | i :: l,p+1,n,s,hp,h=>by
  show ZeE m lo r n (i :: Zrn l p) s=_
  unfold ZeE
  rw [ZrF l p (n+1) _ (by simpa using hp) (by simpa using h)]
theorem ZrG {cl:List Cls}{st:List Ty}{sel:Int}{a me:List Mth} (S:ZqR a me) {kk:Nat}{l:List In3} (hg:∀ j,a.getD j default=if j=kk then { me.getD kk default with k:=l } else me.getD j default) (hm:Za1 ⟨cl,st,me,sel⟩=true) (hl:ZaV false l=0) (ho:∀ i∈l,ZaW ⟨cl,st,me,sel⟩ kk i=true):Za1 ⟨cl,st,a,sel⟩=true:=by
 refine Zq5 S hm fun k hkl=>?_
 have h:=ZfI hm k hkl
 unfold ZaX at h ⊢
 rw [show ZaW ⟨cl,st,a,sel⟩ k=ZaW ⟨cl,st,me,sel⟩ k from funext (Zq3 S k)]
 dsimp only at h ⊢
 rw [hg k]
 split
 ·rename_i q
  subst q
  simp only [Bool.and_eq_true,decide_eq_true_eq] at h ⊢
  exact ⟨⟨h.1.1,hl⟩,List.all_eq_true.2 ho⟩
 ·exact h
section
variable {m:Md}{kk p:Nat} (hk:kk<m.me.length) (hp:p<(cdM m kk).length) (h30:((cdM m kk).getD p default).op=30)
include hk hp h30
theorem ZrH (hm:Za1 m=true) (ha:((cdM m kk).getD p default).a<50):Za1 (ZrD m kk p)=true:=by
 have S:ZqR (ZrD m kk p).me m.me:=by
  refine ⟨by simp [ZrD,ZqN],fun j=>?_,fun j=>?_,fun j=>?_,fun j=>?_⟩<;>(unfold ZrD;rw [ZqP hk];split<;>simp_all)
 have hok:=ZfN hm hk
 have hins:∀ i,i.op=30→i.a<50→ZaQ false i=true→ZaQ false (upI i)=true:=fun i h1 h2 h3=>by
  obtain ⟨op,a,b⟩:=i
  dsimp only at h1 h2
  subst h1
  simp only [ZaQ,upI,Bool.and_eq_true] at h3 ⊢
  have h4:=h3.1.1.2
  refine ⟨⟨⟨h3.1.1.1,?_⟩,h3.1.2⟩,by simp⟩
  simp [inR,opA,ZaO,inI,ZaP] at h4 ⊢
  omega
 have hmem:∀ i∈Zrn (cdM m kk) p,i∈cdM m kk∨i=upI ((cdM m kk).getD p default):=fun i hi=>List.mem_or_eq_of_mem_set hi
 have h0:(cdM m kk).getD p default∈cdM m kk:=ZfU _ hp
 have c1:(cdM m kk).length≤120:=hok.z.2.2
 have c3:ZaU (cdM m kk)=true:=hok.n
 have h2:∀ i∈cdM m kk,ZaQ false i=true:=fun i hi=>(hok.i i hi).1
 refine ZrG (cl:=m.cl) (st:=m.st) (sel:=m.sel) (kk:=kk) (l:=Zrn (cdM m kk) p) S (fun j=>ZqP hk _ j) hm ?_ fun i hi=>?_
 ·unfold ZaV
  rw [if_neg (by rw [Zro];omega),if_pos (List.all_eq_true.2 fun i hi=>?_),if_pos ?_]
  ·unfold ZaU at c3 ⊢
   rw [Zrs _ _ _ (Zrr (c:=cdM m kk) (p:=p))]
   exact c3
  ·rcases hmem i hi with q|q
   ·exact h2 i q
   ·rw [q];exact hins _ h30 ha (h2 _ h0)
 ·rcases hmem i hi with q|q
  ·exact (hok.i i q).2
  ·rw [q]
   unfold ZaW upI
   rw [h30]
   rfl
theorem ZrI (hm:(Zl6 m).2.2=0) (ha:((cdM m kk).getD p default).a<50):(Zl6 (ZrD m kk p)).2.2=0:=by
 have hmv:=(Zqo hm).1
 refine Zrm hm hk (ZrH hk hp h30 hmv ha) ?_
 have S:ZqR (ZqN m kk (Zrn (cdM m kk) p)).me m.me:=by
  refine ⟨by simp [ZqN],fun j=>?_,fun j=>?_,fun j=>?_,fun j=>?_⟩<;>(rw [ZqP hk];split<;>simp_all)
 unfold Zl6 at hm
 rw [if_pos hmv] at hm
 have h3:=Zqn _ _ hm kk (Nat.zero_le _) (by omega)
 unfold ZeG at h3 ⊢
 rw [ZqP hk,if_pos rfl]
 have h4:∀ lo r l' s,ZeE (ZqN m kk (Zrn (cdM m kk) p)) lo r 0 l' s=ZeE m lo r 0 l' s:=fun lo r l' s=>Zq1 (cl:=m.cl) (st:=m.st) (sel:=m.sel) S lo r l' 0 s
 rw [h4]
 dsimp only
 rw [ZrF _ _ _ _ hp h30]
 exact h3
theorem ZrJ (hm:Za1 m=true) {en:Nat} (hmt:Mat (cdM m kk) p (-1) en) (htop:∀ o,o<p→ZaR ((cdM m kk).getD o default).op=true→(mtV (cdM m kk) o).2<p) :
  ZmD (gW Zmx m) m kk≤ZmD (gW Zmx (ZrD m kk p)) (ZrD m kk p) kk∧(ZmD (gW Zmx (ZrD m kk p)) (ZrD m kk p) kk≤1000000000→ZmD (gW Zmx (ZrD m kk p)) (ZrD m kk p) kk=ZmD (gW Zmx m) m kk+WA (gW Zmx m fun t=>(ZmC (gW Zmx m) m kk).getD t.toNat 0) (cdM m kk) (p+1) en 0+1):=by
 have hok:=ZfN hm hk
 have h0:Bd 0:=by unfold Bd;omega
 have h:=ZrC (m:=m) (T:=fun t=>(ZmC (gW Zmx m) m kk).getD t.toNat 0) (c:=cdM m kk) (fun i hi=>ZoD (hok.i i hi).1) (fun t=>?_) (fun i hi=>(ZfS (hok.i i hi).1 (hok.i i hi).2).a0) hmt h30 htop (Zmg hok.n) (Nat.zero_le _) hp 0 h0
 ·unfold ZrD
  rw [Zrl Zmx m hk,ZoH,Zro]
  exact h
 ·by_cases hj:t.toNat<kk
  ·exact kC2
  ·rw [List.getD_eq_getElem?_getD,List.getElem?_eq_none (by rw [ZmE];omega)]
   exact h0
end
end
section
open Go.RowKit
theorem ZrK {w w':World}{g:Nat}{a:Addr}{v:Value} (h:w.cell? a=some v) (hu:Upd g g w w') (hne:a.block≠g):w'.cell? a=some v:=
 (World.cell?_of_block (w:=w) (hu.block _ (Zac h) hne hne)).trans h
def ZrL (G:(Int→Int)→Wg) (m:Md) (k:Nat):List Int:=ZmC G m k++List.replicate (m.me.length-k) 0
theorem ZrM {G:(Int→Int)→Wg}{m:Md}{k:Nat} (hk:k≤m.me.length):(ZrL G m k).length=m.me.length:=by unfold ZrL;simp [ZmE];omega
theorem ZrN {G:(Int→Int)→Wg}{m:Md}{k:Nat}:Zqb (ZrL G m k)=fun t=>(ZmC G m k).getD t.toNat 0:=by
 funext t
 unfold Zqb ZrL
 by_cases h:t.toNat<(ZmC G m k).length
 ·rw [List.getD_eq_getElem?_getD,List.getElem?_append_left h,←List.getD_eq_getElem?_getD]
 ·rw [List.getD_eq_getElem?_getD,List.getElem?_append_right (by omega),List.getD_eq_getElem?_getD,List.getElem?_eq_none (l:=ZmC G m k) (by omega),List.getElem?_replicate]
  split<;>rfl
theorem ZrO {G:(Int→Int)→Wg}{m:Md}{k:Nat} (hk:k<m.me.length):(ZrL G m k).set k (ZmD G m k)=ZrL G m (k+1):=by
 unfold ZrL
 rw [List.set_append_right _ _ (by rw [ZmE];omega),ZmE,Nat.sub_self,show m.me.length-k=(m.me.length-(k+1))+1 by omega,List.replicate_succ,List.set_cons_zero]
 have:ZmC G m (k+1)=ZmC G m k++[ZmD G m k]:=by
  rw [ZoH]
  rfl
 rw [this,List.append_assoc]
 rfl
structure MCx (bv:Int) (x:Ms) (m:Md):Prop where
 hm:Za1 m=true
 sd:∀ k,k<m.me.length→ZpP m (cdM m k)
 ow:∀ k,k<m.me.length→Zp4 bv m x (cdM m k)
 wt:∀ k,k<m.me.length→∀ i∈cdM m k,0≤x.wt i∧x.wt i≤1000
 tl:x.tl=tlV bv
 sc:x.sc=scV bv
theorem MCx.at {bv:Int}{x:Ms}{m:Md} (X:MCx bv x m) {l:Bool}{k:Nat}{L:List Int} (hk:k<m.me.length) (hn:∀ t,Pl l (Zqb L t)):RCx bv x l m k L:=⟨X.hm,hk,X.sd k hk,X.ow k hk,X.wt k hk,X.tl,X.sc,hn⟩
theorem ZrP {m:Md} (h:(Zl6 m).2.2=0):MCx 0 Zmx m:=
 have hk:=Zqo h
 ⟨hk.1,hk.2,fun k h2=>Zp5 fun i hi=>((ZfN hk.1 h2).i i hi).1,fun k h2 i hi=>ZoD ((ZfN hk.1 h2).i i hi).1,rfl,rfl⟩
def ZrQ (W:World) (h:Hd) (m:Md) (bv:Int) (l:Bool) (L:List Int):Ending→World→Prop:=fun e w'=>(∃ B g,e=.returned (.pointer (some ⟨B,0,none⟩))∧RT w' B g h m bv l L)∧Below W.heap.size W w'
theorem ZrR {bv:Int}{x:Ms}{m:Md} (X:MCx bv x m) (l:Bool) (h:Hd) (w:World) (H:Zay w h m):Calls Tryz.prog 55 #[.agg #[.slice h.co m.cl.length h.cc,.slice h.so m.st.length h.sc,.slice h.eo m.me.length h.ec,.int .i64 m.sel],.int .i64 bv,.bool l] w (ZrQ w h m bv l (ZmC (gR l x m) m m.me.length)):=by
 have hsz:=(Zqe X.hm).2
 have hmk:=run_make_row' (P:=Tryz.prog) 29 3 (.int .i64 0) 8 Tryz.underlying29 (by kernel_rfl) rfl .i64 .i64 m.me.length (by omega) (by omega)
 rw [Zcn] at hmk
 obtain ⟨w0,hw0⟩:∃ w0,w0=w.alloc (.cells #[.slice h.co m.cl.length h.cc,.slice h.so m.st.length h.sc,.slice h.eo m.me.length h.ec,.int .i64 m.sel] 26):=⟨_,rfl⟩
 have HB:=Zh (show Below w.heap.size w w0 by rw [hw0];exact bE)
 have HX:=Zh (show Blk w0 w.heap.size #[.slice h.co m.cl.length h.cc,.slice h.so m.st.length h.sc,.slice h.eo m.me.length h.ec,.int .i64 m.sel] 26 by rw [hw0];exact Blk.new _ _ _)
 have HM:=Zh (H.old HB.out)
 have HW:=Zh hw0
 have HXc:=Zh X
 clear hw0 H X
 go_enter Tryz.func55,Tryz.ntmps55
 go_upto_region 1 with fail
 rw [←HW.out]
 refine rO (Cs [(⟨w.heap.size,0,none⟩,.slice h.co m.cl.length h.cc),(⟨w.heap.size,1,none⟩,.slice h.so m.st.length h.sc),(⟨w.heap.size,2,none⟩,.slice h.eo m.me.length h.ec),(⟨w.heap.size,3,none⟩,.int .i64 m.sel)]) (oL [0,1,2,3,4,5,106,7,108,9]) ⟨HX.out.cell 0 rfl,HX.out.cell 1 rfl,HX.out.cell 2 rfl,HX.out.cell 3 rfl,trivial⟩ ?_
 repeat refine pO ?_
 refine oO fun Kv hK=>?_
 go_simp
 refine hK _ _ ⟨Cs.keeps (Znv.of bE) (show Cs _ w0 from ⟨HX.out.cell 0 rfl,HX.out.cell 1 rfl,HX.out.cell 2 rfl,HX.out.cell 3 rfl,trivial⟩),?_⟩
 clear hK Kv
 repeat refine pO ?_
 refine oO fun Kv hK=>?_
 go_simp
 refine hK _ _ ⟨Cs.keeps (Znv.of bE) (show Cs _ w0 from ⟨HX.out.cell 0 rfl,HX.out.cell 1 rfl,HX.out.cell 2 rfl,HX.out.cell 3 rfl,trivial⟩),?_⟩
 clear hK Kv
 repeat refine pO ?_
 refine Zd5 ?_
 go_wp2
 clear hmk
 obtain ⟨w2,hw2⟩:∃ w2,w2=((w0.alloc (Obj.cells (Array.replicate m.me.length (Value.int IntKind.i64 0)) 3)).alloc (Obj.cells #[Value.slice h.co m.cl.length h.cc,Value.slice h.so m.st.length h.sc,Value.slice h.eo m.me.length h.ec,Value.int IntKind.i64 m.sel,Value.int IntKind.i64 bv,Value.bool l,Value.slice (some { block:=w0.heap.size,off:=0 }) m.me.length m.me.length] 90)).drew:=⟨_,rfl⟩
 rw [←hw2]
 obtain ⟨g,hg⟩:∃ g,g=w0.heap.size:=⟨_,rfl⟩
 obtain ⟨B,hBq⟩:∃ B,B=w0.heap.size+1:=⟨_,rfl⟩
 have HB2:=Zh (show Below w0.heap.size w0 w2 by rw [hw2];exact bE)
 have HR2:=Zh (show RT w2 B g h m bv l (ZrL (gR l x m) m 0) from by
  rw [hw2,hg,hBq]
  refine ⟨?_,?_,HM.out.old bE,ZrM (Nat.zero_le _)⟩
  ·exact Blk.drew (Blk.new' _ _ (by simp))
  ·have:Zol (ZrL (gR l x m) m 0)=Array.replicate m.me.length (Value.int IntKind.i64 0):=by unfold Zol ZrL ZmC;rw [List.nil_append,Nat.sub_zero,List.map_replicate,List.toArray_replicate]
   rw [this]
   exact Blk.drew ((Blk.new w0 _ _).alloc _))
 have HG:=Zh (show w0.heap.size≤g∧B≠g∧w.heap.size<g by rw [hg,hBq];have:=HX.out.lt;omega)
 rw [←hBq,←hg]
 clear hw2 hg hBq
 go_loopw [8] (fun i wr=>∃ k:Nat,k≤m.me.length∧i=.int .i64 k∧Hid (RT wr B g h m bv l (ZrL (gR l x m) m k))∧Hid (∀ t,Pl l (Zqb (ZrL (gR l x m) m k) t))∧Hid (Upd g g w2 wr)) (fun i _=>m.me.length-(intOf i).toNat)
 case atStart=>
  refine ⟨0,Nat.zero_le _,rfl,HR2.out,fun t=>?_,Upd.refl _ _ _⟩
  rw [ZrN]
  unfold ZmC
  exact Pl.of (by show Bd (([]:List Int).getD _ 0);simp [Bd])
 case round=>
  obtain ⟨k,hk,rfl,HR,HN,HU⟩:=hrel
  rename World=>wo
  by_cases hkl:k<m.me.length
  ·have hkl2:(k:Int) < m.me.length:=by omega
   have hwk:IntKind.i64.wrap ((k:Int)+1)=((k+1:Nat):Int):=IntWalk.i64_in _ (by omega)
   have X:=HXc.out.at (l:=l) (L:=ZrL (gR l x m) m k) hkl HN.out
   have HP:=Zh (Zqw (B:=B) (g:=g) (h:=h) X (cdM m k).length 0 (cdM m k).length (by omega) (Zmg X.ok.n))
   obtain ⟨ea,he,-,-,-,-,-,-,e6⟩:=HM.out.mth hkl
   rw [show (m.me.getD k default).k.length=(cdM m k).length from rfl] at e6
   have HBo:=Zh (HU.out.below HB2.out (Nat.le_refl _) HG.out.1 HG.out.1)
   have hel:=Nat.lt_of_lt_of_le (Zac e6) HG.out.1
   have e6:=(HBo.out.cell (Zac e6)).trans e6
   have x2:=(HX.out.old HBo.out).cell 2 (v:=.slice h.eo m.me.length h.ec) rfl
   rw [he] at x2
   have HEl:=Zh hel
   have HEa:=Zh he
   clear hel he
   have t6:=HR.out.tb.cell 6 (v:=.slice (some ⟨g,0,none⟩) m.me.length m.me.length) rfl
   have X2:=Zh X
   clear X
   go_upto_region 5 with fail
   have HCs:=Zh (show Cs [(⟨B,6,none⟩,.slice (some ⟨g,0,none⟩) m.me.length m.me.length),(⟨w.heap.size,2,none⟩,.slice (some ea) m.me.length h.ec),(⟨(ea.add (k*7)).block,(ea.add (k*7)).off+6,none⟩,.slice (h.e k).ko (cdM m k).length (h.e k).kc)] wo from ⟨t6,x2,e6,trivial⟩)
   refine rO (Cs [(⟨B,6,none⟩,.slice (some ⟨g,0,none⟩) m.me.length m.me.length),(⟨w.heap.size,2,none⟩,.slice (some ea) m.me.length h.ec),(⟨(ea.add (k*7)).block,(ea.add (k*7)).off+6,none⟩,.slice (h.e k).ko (cdM m k).length (h.e k).kc)]) (oL [0,1,2,3,4,5,6,7,8,9,10,11,12,13,14,15,16,17,18,119,20,121]) ⟨t6,x2,e6,trivial⟩ ?_
   clear t6 x2 e6
   repeat refine pO ?_
   refine oO fun Kv hK=>?_
   go_simp
   refine (HP.out _ (HR.out.old (Below.refl _ _).drew)).mono ?_
   rintro e w3 ⟨rfl,hb3⟩
   have HB3:=Zh (Zaf (Below.refl wo.heap.size wo).drew hb3)
   have HR3:=Zh (HR.out.old HB3.out)
   have HCs3:=Zh (Cs.keeps (Znv.of HB3.out) HCs.out)
   refine hK _ _ ⟨HCs3.out,?_⟩
   clear hK Kv hb3
   repeat refine pO ?_
   refine oO fun Kv hK=>?_
   have g0:=Zon HR3.out.nb (k:=k) (by rw [ZrM hk];exact hkl)
   have f0:=HR3.out.nb.frozen k
   go_simp
   obtain ⟨v,hv⟩:∃ v,v=WA (GR x l m (ZrL (gR l x m) m k)) (cdM m k) 0 (cdM m k).length 0:=⟨_,rfl⟩
   rw [←hv]
   obtain ⟨w4,hw4⟩:∃ w4,w4=w3.setCell ⟨g,k,none⟩ (.int .i64 v):=⟨_,rfl⟩
   have hu4:Upd g g w3 w4:=by rw [hw4];exact (Upd.refl g g w3).set k _
   have hvm:v=ZmD (gR l x m) m k:=by rw [hv,ZoH];show WA (gR l x m (Zqb _)) _ _ _ _=_;rw [ZrN]
   have HVP:=Zh (show Pl l v by rw [hv];exact X2.out.wa (Zmg X2.out.ok.n) (Pl.of (by unfold Bd;omega)))
   have HU4:=Zh ((HU.out.bel HB3.out).trans hu4)
   have HR4:=Zh (show RT w4 B g h m bv l (ZrL (gR l x m) m (k+1)) from by
    refine ⟨?_,?_,HM.out.old (HU4.out.below HB2.out (Nat.le_refl _) HG.out.1 HG.out.1),ZrM hkl⟩
    ·rw [hw4];exact HR3.out.tb.other (a:=⟨g,k,none⟩) HG.out.2.1 _
    ·rw [hw4,←ZrO hkl,←hvm];exact Zom HR3.out.nb _)
   rw [←hw4]
   refine hK _ _ ⟨⟨ZrK HCs3.out.1 hu4 HG.out.2.1,ZrK HCs3.out.2.1 hu4 (by have:=HG.out.2.2;dsimp only;omega),ZrK HCs3.out.2.2.1 hu4 (by have:=HEl.out;omega),trivial⟩,?_⟩
   clear hK Kv g0 f0 hw4 hu4 hv
   have HVm:=Zh hvm
   clear hvm
   refine Zd5 ?_
   go_wp2
   refine ⟨⟨k+1,hkl,rfl,HR4.out,fun t=>?_,HU4.out⟩,by simp [intOf];omega⟩
   rw [←ZrO hkl,←HVm.out]
   unfold Zqb
   rw [Zou _ _ _ (by rw [ZrM hk];exact hkl)]
   split
   ·exact HVP.out
   ·exact HN.out t
  ·obtain rfl:k=m.me.length:=by omega
   have hj5:¬ (m.me.length:Int) < m.me.length:=by omega
   have x2:=(HX.out.old (HU.out.below HB2.out (Nat.le_refl _) HG.out.1 HG.out.1)).cell 2 (v:=.slice h.eo m.me.length h.ec) rfl
   go_wp2
   go_ret
   have hz:ZrL (gR l x m) m m.me.length=ZmC (gR l x m) m m.me.length:=by unfold ZrL;simp
   exact ⟨⟨B,g,rfl,hz▸HR.out⟩,Zaf HB.out (HU.out.below HB2.out (Nat.le_refl _) HG.out.1 HG.out.1)⟩
end
section
open Go.RowKit
theorem ZrS {m:Md}{k:Int} (h:ZoO m k=true):(Zl6 m).2.2=0:=by
 unfold ZoO at h
 simp only [Bool.and_eq_true,decide_eq_true_eq] at h
 exact h.1
theorem ZrT {m:Md}{k:Nat} (h:(Zl6 m).2.2=0) (hk:k<m.me.length):ZmD (gR false Zmx m) m k=ZmD (gW Zmx m) m k:=
 Zqp (Zqo h).1 (Zqo h).2 (ZrP h).wt (by decide) (fun q=>by cases q) (k+1) k (by omega) hk
section
variable (m:Md) (h:Hd) (k:Int) (w:World) (H:Zay w h m)
include H
end
end
end Go.Proofs.YtfkbfjhocmbneaaGreat
