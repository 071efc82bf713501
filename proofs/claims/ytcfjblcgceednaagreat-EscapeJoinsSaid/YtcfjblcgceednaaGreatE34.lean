/- Joined texts. The first: escape: flow's walk through a list of instructions none of which opens. -/
import Derived.Test.YtcfjblcgceednaaGreatE30
set_option linter.all false
set_option linter.unusedVariables false
set_option linter.unusedSimpArgs false
set_option maxRecDepth 100000
set_option maxHeartbeats 8000000
namespace Go.Proofs.YtcfjblcgceednaaGreat
theorem j3{p:Prop}(h:p:=by
 refine Zd5 ?_
 have p5:=HP9.out.cell 5 (v:=.slice (some ⟨W+2,0,none⟩) c.length c.length) rfl
 have e0:=HE9.out.cell 0 (v:=.slice lo' (X c.length).l.length lc') rfl
 have e1:=HE9.out.cell 1 (v:=.slice so' (X c.length).s.length sc') rfl
 have e2:=HE9.out.cell 2 (v:=.int .i64 (X c.length).o) rfl
 go_upto_region 3 with fail
 refine rO (Cs [(⟨PB,5,none⟩,.slice (some ⟨W+2,0,none⟩) c.length c.length),(⟨E,0,none⟩,.slice lo' (X c.length).l.length lc'),(⟨E,1,none⟩,.slice so' (X c.length).s.length sc'),(⟨E,2,none⟩,.int .i64 (X c.length).o)]) (oL [0,1,2,3,4,5,106]) ⟨p5,e0,e1,e2,trivial⟩ ?_
 repeat refine pO ?_
 refine oO fun Kv hK=>?_
 have r0:=HR9.out.cell 0 (v:=.slice none 0 0) rfl
 have r1:=HR9.out.cell 1 (v:=.slice none 0 0) rfl
 have r2:=HR9.out.cell 2 (v:=.int .i64 0) rfl
 have f0:=HR9.out.frozen 0
 have f1:=HR9.out.frozen 1
 have f2:=HR9.out.frozen 2
 have rl:=HR9.out.lt
 go_simp
 have hR8:=((HR9.out.set 0 (.slice lo' (X c.length).l.length lc')).set 1 (.slice so' (X c.length).s.length sc')).set 2 (.int .i64 (X c.length).o)
 have hU8:=(((Upd.refl (W+1) (W+1) w9).set 0 (.slice lo' (X c.length).l.length lc')).set 1 (.slice so' (X c.length).s.length sc')).set 2 (.int .i64 (X c.length).o)
 have hV8:Upd PB PB w _:=((HV9.out.setN (c:=W+1) (by have:=HWs.out;omega) 0 (.slice lo' (X c.length).l.length lc')).setN (c:=W+1) (by have:=HWs.out;omega) 1 (.slice so' (X c.length).s.length sc')).setN (c:=W+1) (by have:=HWs.out;omega) 2 (.int .i64 (X c.length).o)
 generalize hw8:((w9.setCell _ _).setCell _ _).setCell _ _=w8 at hR8 hU8 hV8 ⊢
 clear hw8
 have hPR:PB≠W+1:=by have:=HPl.out;omega
 have hER:E≠W+1:=by have:=HEl.out;omega
 have HS8:=Zh (HS9.out.upd hU8 (HL9.out.1.w fun _ h=>⟨h.2.2.2.2,h.2.2.2.2⟩) (HL9.out.2.w fun _ h=>⟨h.2.2.2.2,h.2.2.2.2⟩))
 have HA8:=Zh ((HA9.out.off (D:=W+1) (fun _ h=>h.2) (by omega) hU8).weak fun _ h=>h.1)
 have HR8:=Zh hR8
 have HV8:=Zh hV8
 refine hK _ _ ⟨⟨(HP9.out.upd hU8 hPR hPR).cell 5 rfl,(HE9.out.upd hU8 hER hER).cell 0 rfl,(HE9.out.upd hU8 hER hER).cell 1 rfl,(HE9.out.upd hU8 hER hER).cell 2 rfl,trivial⟩,?_⟩
 clear hK Kv hR8 hU8 hV8 p5 e0 e1 e2 f0 f1 f2 r0 r1 r2 rl
 refine Zd5 ?_
 go_wp2
 have z0:=HR8.out.cell 0 (v:=.slice lo' (X c.length).l.length lc') rfl
 have z1:=HR8.out.cell 1 (v:=.slice so' (X c.length).s.length sc') rfl
 have z2:=HR8.out.cell 2 (v:=.int .i64 (X c.length).o) rfl
 exact bodyPost_ret (v:=.tuple #[.slice (some ⟨W+2,0,none⟩) c.length c.length,.agg #[.slice lo' (X c.length).l.length lc',.slice so' (X c.length).s.length sc',.int .i64 (X c.length).o]]) (by simp [results,Tryz.results134,go_sem,z0,z1,z2]) rfl ⟨lo',lc',so',sc',W+2,T,C,rfl,HS8.out.old (Below.refl _ _).drew,HA8.out.old (Below.refl _ _).drew,HL9.out.1.w fun _ h=>⟨h.1,h.2.1,h.2.2.1,h.2.2.2.1⟩,HL9.out.2.w fun _ h=>⟨h.1,h.2.1,h.2.2.1,h.2.2.2.1⟩,by have:=HWs.out;omega,HV8.out.drew⟩):p:=h
section
open Go.RowKit
attribute [local go_sem] World.cell?_alloc_some
theorem ZnG {α:Type} [Cells α] {w w':World}{g t:Nat}{ao:Option Addr}{c:Nat}{L:List α} (h:Zar w ao c L) (hu:Upd g t w w') (hne:Lie (fun b=>b≠g∧b≠t) ao):Zar w' ao c L:=
 ⟨h.1,h.2.1,fun j u hu'=>by
  obtain ⟨a,ha,hc⟩:=h.2.2 j u hu'
  exact ⟨a,ha,(World.cell?_of_block (w:=w) (hu.block _ (Zac hc) (by rw [Zag];exact (hne a ha).1) (by rw [Zag];exact (hne a ha).2))).trans hc⟩⟩
theorem Znz.upd {w w':World}{g t:Nat}{lo so:Option Addr}{lc sc:Nat}{x:Sta} (H:Znz w lo lc so sc x) (hu:Upd g t w w') (h1:Lie (fun b=>b≠g∧b≠t) lo) (h2:Lie (fun b=>b≠g∧b≠t) so):Znz w' lo lc so sc x:=⟨ZnG H.l hu h1,ZnG H.s hu h2,H.lr,H.sr⟩
theorem AnC.updG {w w':World}{A G:Nat}{MP:Addr}{ko:Option Addr}{kc:Nat}{c:List In3} (H:AnC w A MP ko kc c) (hu:Upd G G w w') (hA:A≠G∧MP.block≠G∧Lie (·≠G) ko):AnC w' A MP ko kc c:=⟨hu.cell H.a4 hA.1 hA.1,hu.cell H.e6 hA.2.1 hA.2.1,Zm8 H.k hu hA.2.2⟩
def Pg (Q:Nat→Prop) (G T:Nat):Nat→Prop:=fun b=>b≠G∧b≠T∧b≠T+1∧Q b
theorem Lie.w {P Q:Nat→Prop}{ao:Option Addr} (h:Lie P ao) (f:∀ b,P b→Q b):Lie Q ao:=fun a ha=>f _ (h a ha)
structure Ahd (w:World) (Q:Nat→Prop) (G T:Nat) (X:Nat→Sta) (i n:Nat) (C:Array Value):Prop where
 b:Blk w G C 86
 z:C.size=n*3
 e:∀ j,j<i→∃ lo lc so sc,C[j*3]?=some (.slice lo (X j).l.length lc)∧C[j*3+1]?=some (.slice so (X j).s.length sc)∧C[j*3+2]?=some (.int .i64 (X j).o)∧Znz w lo lc so sc (X j)∧Lie (Pg Q G T) lo∧Lie (Pg Q G T) so
section
variable {w w':World}{Q:Nat→Prop}{G T:Nat}{X:Nat→Sta}{i n:Nat}{C:Array Value}(H:Ahd w Q G T X i n C)
include w w' Q G T X i n C H
theorem Ahd.put (hi:i<n) {lo so:Option Addr} {lc sc:Nat} (HS:Znz w lo lc so sc (X i)) (h1:Lie (Pg Q G T) lo) (h2:Lie (Pg Q G T) so) (hu:Upd G T w w') (hb:Blk w' G (((C.setIfInBounds (i*3) (.slice lo (X i).l.length lc)).setIfInBounds (i*3+1) (.slice so (X i).s.length sc)).setIfInBounds (i*3+2) (.int .i64 (X i).o)) 86):
  Ahd w' Q G T X (i+1) n (((C.setIfInBounds (i*3) (.slice lo (X i).l.length lc)).setIfInBounds (i*3+1) (.slice so (X i).s.length sc)).setIfInBounds (i*3+2) (.int .i64 (X i).o)):=by
 refine ⟨hb,by simp [H.z],fun j hj=>?_⟩
 have hz:=H.z
 by_cases e:j=i
 ·subst e
  refine ⟨lo,lc,so,sc,?_,?_,?_,HS.upd hu (h1.w fun _ h=>⟨h.1,h.2.1⟩) (h2.w fun _ h=>⟨h.1,h.2.1⟩),h1,h2⟩
  all_goals simp [Array.getElem?_setIfInBounds];try omega
 ·obtain ⟨lo',lc',so',sc',e0,e1,e2,e3,e4,e5⟩:=H.e j (by omega)
  refine ⟨lo',lc',so',sc',?_,?_,?_,e3.upd hu (e4.w fun _ h=>⟨h.1,h.2.1⟩) (e5.w fun _ h=>⟨h.1,h.2.1⟩),e4,e5⟩
  ·rw [Array.getElem?_setIfInBounds_ne (by omega),Array.getElem?_setIfInBounds_ne (by omega),Array.getElem?_setIfInBounds_ne (by omega)];exact e0
  ·rw [Array.getElem?_setIfInBounds_ne (by omega),Array.getElem?_setIfInBounds_ne (by omega),Array.getElem?_setIfInBounds_ne (by omega)];exact e1
  ·rw [Array.getElem?_setIfInBounds_ne (by omega),Array.getElem?_setIfInBounds_ne (by omega),Array.getElem?_setIfInBounds_ne (by omega)];exact e2
theorem Ahd.upd {D:Nat} (hD:D=T∨D=T+1) (hu:Upd D D w w') (hb:Blk w' G C 86):Ahd w' Q G T X i n C:=
 ⟨hb,H.z,fun j hj=>by
  obtain ⟨lo',lc',so',sc',e0,e1,e2,e3,e4,e5⟩:=H.e j hj
  exact ⟨lo',lc',so',sc',e0,e1,e2,e3.upd hu (e4.w fun b h=>by have h1:=h.2.1;have h2:=h.2.2.1;omega) (e5.w fun b h=>by have h1:=h.2.1;have h2:=h.2.2.1;omega),e4,e5⟩⟩
end
def doF (A:Nat):Value:=.func (Fn.func 130) #[.pointer (some ⟨A,0,none⟩)] #[]
def ZnH (w:World) (Q:Nat→Prop) (G:Nat) (X:Nat→Sta) (n:Nat):Ending→World→Prop:=fun e w'=>∃ lo lc so sc T C,e=.returned (.agg #[.slice lo (X n).l.length lc,.slice so (X n).s.length sc,.int .i64 (X n).o])∧Znz w' lo lc so sc (X n)∧Ahd w' Q G T X n n C∧Lie (Pg Q G T) lo∧Lie (Pg Q G T) so∧w.heap.size≤T∧Upd G G w w'
theorem ZnI (A PB G:Nat) (MP:Addr) (ko:Option Addr) (kc:Nat) (c:List In3) (v2 v3 v4:Value) (X:Nat→Sta) (C0:Array Value) (w:World) (H:AnC w A MP ko kc c) (hA:A≠G∧MP.block≠G∧Lie (·≠G) ko)
  (hpb:Blk w PB #[.slice ko c.length kc,doF A,v2,v3,v4,.slice (some ⟨G,0,none⟩) c.length c.length] 172) (hpg:PB≠G) (Q:Nat→Prop) (hQ:∀ b,w.heap.size≤b→Q b) (hg:Blk w G C0 86) (hgz:C0.size=c.length*3) (hc:c.length≤1000)
  (hop:∀ i,i<c.length→ZaR (c.getD i default).op=false)
  (hD:∀ i,i<c.length→∀ w',AnC w' A MP ko kc c→∀ lo lc so sc,Znz w' lo lc so sc (X i)→Calls Tryz.prog 130 #[.pointer (some ⟨A,0,none⟩),.int .i64 i,.agg #[.slice lo (X i).l.length lc,.slice so (X i).s.length sc,.int .i64 (X i).o]] w' (ZnA w' (X (i+1))))
  (lo so:Option Addr) (lc sc:Nat) (HS0:Znz w lo lc so sc (X 0)) (hl0:Lie (fun b=>b≠G∧b<w.heap.size∧Q b) lo) (hs0:Lie (fun b=>b≠G∧b<w.heap.size∧Q b) so) :
  Calls Tryz.prog 199 #[.pointer (some ⟨PB,0,none⟩),.int .i64 0,.int .i64 c.length,.agg #[.slice lo (X 0).l.length lc,.slice so (X 0).s.length sc,.int .i64 (X 0).o]] w (ZnH w Q G X c.length):=by
 have HA:=Zh H
 have HQ:=Zh hQ
 have HNe:=Zh hA
 have HP:=Zh hpb
 have HG:=Zh hg
 have HGz:=Zh hgz
 have HO:=Zh hop
 have HD:=Zh hD
 have HS:=Zh HS0
 have HL0:=Zh hl0
 have HS00:=Zh hs0
 obtain ⟨T,hT⟩:∃ T,T=w.heap.size:=⟨_,rfl⟩
 have HT:=Zh hT
 have HGl:=Zh (show G<T by rw [hT];exact hg.lt)
 have HPl:=Zh (show PB<T by rw [hT];exact hpb.lt)
 clear H hQ hA hpb hg hgz hop hD HS0 hl0 hs0
 obtain ⟨w0,hw0⟩:∃ w0,w0=(w.alloc (.cells #[.slice lo (X 0).l.length lc,.slice so (X 0).s.length sc,.int .i64 (X 0).o] 86)).alloc (.cells #[.slice none 0 0,.slice none 0 0,.int .i64 0] 86):=⟨_,rfl⟩
 have hb0:Below w.heap.size w w0:=by rw [hw0];exact bE
 have HT0:=Zh (show Blk w0 T #[.slice lo (X 0).l.length lc,.slice so (X 0).s.length sc,.int .i64 (X 0).o] 86 by rw [hw0,hT];exact (Blk.new w _ _).alloc _)
 have HR0:=Zh (show Blk w0 (T+1) #[.slice none 0 0,.slice none 0 0,.int .i64 0] 86 by rw [hw0];exact Blk.new' _ _ (by simp [hT]))
 have HB0:=Zh hb0
 have HW:=Zh (And.intro hT hw0)
 have HG0:=Zh (HG.out.old hb0)
 have HSt:=Zh (HS.out.old hb0)
 have HLt:=Zh (show Lie (Pg Q G T) lo from fun a ha=>⟨(HL0.out a ha).1,by have:=(HL0.out a ha).2.1;omega,by have:=(HL0.out a ha).2.1;omega,(HL0.out a ha).2.2⟩)
 have HSs:=Zh (show Lie (Pg Q G T) so from fun a ha=>⟨(HS00.out a ha).1,by have:=(HS00.out a ha).2.1;omega,by have:=(HS00.out a ha).2.1;omega,(HS00.out a ha).2.2⟩)
 clear hw0 hb0 hT
 go_enter Tryz.func199,Tryz.ntmps199
 go_upto_region 1 with fail
 rw [←HW.out.1,←HW.out.2]
 go_wp2
 go_loopw [9] (fun i wr=>∃ (k:Nat) (lo:Option Addr) (lc:Nat) (so:Option Addr) (sc:Nat) (C:Array Value),k≤c.length∧i=.int .i64 k∧Hid (Upd G G w wr)∧Hid (Blk wr T #[.slice lo (X k).l.length lc,.slice so (X k).s.length sc,.int .i64 (X k).o] 86)∧Hid (Blk wr (T+1) #[.slice none 0 0,.slice none 0 0,.int .i64 0] 86)∧Hid (Znz wr lo lc so sc (X k))∧Hid (Lie (Pg Q G T) lo∧Lie (Pg Q G T) so)∧Hid (Ahd wr Q G T X k c.length C)) (fun i _=>c.length-(intOf i).toNat)
 case atStart=>exact ⟨0,lo,lc,so,sc,C0,Nat.zero_le _,rfl,Upd.of HB0.out,HT0.out,HR0.out,HSt.out,⟨HLt.out,HSs.out⟩,HG0.out,HGz.out,fun j hj=>absurd hj (by omega)⟩
 case round=>
  obtain ⟨k,lo,lc,so,sc,C,hk,rfl,HU,HTb,HRb,HSa,HLi,HAh⟩:=hrel
  rename World=>wr
  by_cases hkl:k<c.length
  ·have hkl2:(k:Int) < c.length:=by omega
   have hkb:(k:Int)*3<1000000:=by omega
   have hwk:IntKind.i64.wrap ((k:Int)+1)=((k+1:Nat):Int):=IntWalk.i64_in _ (by omega)
   have HPr:=Zh (HP.out.upd HU.out hpg hpg)
   have p5:=HPr.out.cell 5 (v:=.slice (some ⟨G,0,none⟩) c.length c.length) rfl
   have t0:=HTb.out.cell 0 (v:=.slice lo (X k).l.length lc) rfl
   have t1:=HTb.out.cell 1 (v:=.slice so (X k).s.length sc) rfl
   have t2:=HTb.out.cell 2 (v:=.int .i64 (X k).o) rfl
   have tl:=HTb.out.lt
   go_upto_region 3 with fail
   refine rO (Cs [(⟨PB,5,none⟩,.slice (some ⟨G,0,none⟩) c.length c.length),(⟨T,0,none⟩,.slice lo (X k).l.length lc),(⟨T,1,none⟩,.slice so (X k).s.length sc),(⟨T,2,none⟩,.int .i64 (X k).o)]) (oL [0,1,2,3,4,5,6,107]) ⟨p5,t0,t1,t2,trivial⟩ ?_
   repeat refine pO ?_
   refine oO fun Kv hK=>?_
   have hz:=HAh.out.z
   have g0:=HAh.out.b.cell (k*3) (Array.getElem?_eq_getElem (by omega))
   have g1:=HAh.out.b.cell (k*3+1) (Array.getElem?_eq_getElem (by omega))
   have g2:=HAh.out.b.cell (k*3+2) (Array.getElem?_eq_getElem (by omega))
   obtain ⟨a0,ha0⟩:∃ a,a=C[k*3]'(by omega):=⟨_,rfl⟩
   obtain ⟨a1,ha1⟩:∃ a,a=C[k*3+1]'(by omega):=⟨_,rfl⟩
   obtain ⟨a2,ha2⟩:∃ a,a=C[k*3+2]'(by omega):=⟨_,rfl⟩
   rw [←ha0] at g0
   rw [←ha1] at g1
   rw [←ha2] at g2
   clear ha0 ha1 ha2 hz
   have f0:=HAh.out.b.frozen (k*3)
   have f1:=HAh.out.b.frozen (k*3+1)
   have f2:=HAh.out.b.frozen (k*3+2)
   have gl:=HAh.out.b.lt
   go_simp
   have hU1:=(((Upd.refl G G wr).set (k*3) (.slice lo (X k).l.length lc)).set (k*3+1) (.slice so (X k).s.length sc)).set (k*3+2) (.int .i64 (X k).o)
   have hGb:=((HAh.out.b.set (k*3) (.slice lo (X k).l.length lc)).set (k*3+1) (.slice so (X k).s.length sc)).set (k*3+2) (.int .i64 (X k).o)
   have hTG:T≠G:=by have:=HGl.out;omega
   have hTG1:T+1≠G:=by have:=HGl.out;omega
   obtain ⟨wf,hwf⟩:∃ wf,wf=(((wr.setCell ⟨G,k*3,none⟩ (.slice lo (X k).l.length lc)).setCell ⟨G,k*3+1,none⟩ (.slice so (X k).s.length sc)).setCell ⟨G,k*3+2,none⟩ (.int .i64 (X k).o)).drew:=⟨_,rfl⟩
   have hU2:Upd G G wr wf:=by rw [hwf];exact hU1.drew
   have hGf:=hGb.drew
   rw [←hwf] at hGf ⊢
   clear hwf hU1 hGb g0 g1 g2 f0 f1 f2 gl p5 t0 t1 t2 tl
   have HPf:=Zh (HPr.out.upd hU2 hpg hpg)
   have HTf:=Zh (HTb.out.upd hU2 hTG hTG)
   have HRf:=Zh (HRb.out.upd hU2 hTG1 hTG1)
   have HSf:=Zh (HSa.out.upd hU2.more (HLi.out.1.w fun _ h=>⟨h.1,h.2.1⟩) (HLi.out.2.w fun _ h=>⟨h.1,h.2.1⟩))
   have HAf:=Zh (HAh.out.put hkl HSa.out HLi.out.1 HLi.out.2 hU2.more hGf)
   have HUf:=Zh (HU.out.trans hU2)
   have HAn:=Zh (HA.out.updG HUf.out HNe.out)
   refine hK _ _ ⟨⟨HPf.out.cell 5 rfl,HTf.out.cell 0 rfl,HTf.out.cell 1 rfl,HTf.out.cell 2 rfl,trivial⟩,?_⟩
   clear hK Kv hU2 hGf
   refine Zd5 ?_
   obtain ⟨ad,hko,o0,o1,o2⟩:=ZaA HAn.out.k hkl
   have p0:=HPf.out.cell 0 (v:=.slice ko c.length kc) rfl
   have hof:=HO.out k hkl
   rw [hko] at p0
   obtain ⟨op,hop⟩:∃ op,op=(c.getD k default).op:=⟨_,rfl⟩
   rw [←hop] at hof o0
   clear hop o1 o2
   go_wp2_with (go_at_call 162;refine (ZcP _ _).mono ?_;rintro e w3 ⟨rfl,rfl⟩)
   clear p0 o0 hko
   have p1:=HPf.out.cell 1 (v:=.func (Fn.func 130) #[.pointer (some ⟨A,0,none⟩)] #[]) rfl
   have t0:=HTf.out.cell 0 (v:=.slice lo (X k).l.length lc) rfl
   have t1:=HTf.out.cell 1 (v:=.slice so (X k).s.length sc) rfl
   have t2:=HTf.out.cell 2 (v:=.int .i64 (X k).o) rfl
   refine rE (Cs [(⟨PB,1,none⟩,.func (Fn.func 130) #[.pointer (some ⟨A,0,none⟩)] #[]),(⟨T,0,none⟩,.slice lo (X k).l.length lc),(⟨T,1,none⟩,.slice so (X k).s.length sc),(⟨T,2,none⟩,.int .i64 (X k).o)]) 7 (oL [0,1,2,3,4,5,106]) ⟨p1,t0,t1,t2,trivial⟩ ?_
   repeat refine pE ?_
   refine oE fun Kv hK=>?_
   go_simp
   refine (HD.out k hkl _ (HAn.out.keeps (ZmV.of (show Below wf.heap.size wf wf.drew by exact bE))) lo lc so sc (HSf.out.old bE)).mono ?_
   rintro e w6 ⟨⟨lo',lc',so',sc',rfl,hs6,hl6,hz6⟩,hb6⟩
   rename World=>w6
   have hbf:Below wf.heap.size wf w6:=(show Below wf.heap.size wf wf.drew by exact bE).trans hb6
   have HP6:=Zh (HPf.out.old hbf)
   have HT6:=Zh (HTf.out.old hbf)
   have HR6:=Zh (HRf.out.old hbf)
   have HA6:=Zh (HAf.out.upd (.inl rfl) (Upd.of hbf) (HAf.out.b.old hbf))
   have HU6:=Zh (HUf.out.trans (Upd.of hbf))
   have hTl:=HRf.out.lt
   have hGl2:=HAf.out.b.lt
   have HLi6:=Zh (show Lie (Pg Q G T) lo'∧Lie (Pg Q G T) so' from ⟨fun a ha=>by have h1:=hl6 a ha;have h2:wf.drew.heap.size=wf.heap.size:=rfl;have h3:=HUf.out.size;exact ⟨by omega,by omega,by omega,HQ.out _ (by omega)⟩,fun a ha=>by have h1:=hz6 a ha;have h2:wf.drew.heap.size=wf.heap.size:=rfl;have h3:=HUf.out.size;exact ⟨by omega,by omega,by omega,HQ.out _ (by omega)⟩⟩)
   have HS6:=Zh hs6
   refine hK _ _ ⟨⟨HP6.out.cell 1 rfl,HT6.out.cell 0 rfl,HT6.out.cell 1 rfl,HT6.out.cell 2 rfl,trivial⟩,?_⟩
   clear hK Kv hs6 hl6 hz6 hb6 hbf p1 t0 t1 t2 hTl hGl2
   refine sE fun Kv hK=>?_
   have t0:=HT6.out.cell 0 (v:=.slice lo (X k).l.length lc) rfl
   have t1:=HT6.out.cell 1 (v:=.slice so (X k).s.length sc) rfl
   have t2:=HT6.out.cell 2 (v:=.int .i64 (X k).o) rfl
   have f0:=HT6.out.frozen 0
   have f1:=HT6.out.frozen 1
   have f2:=HT6.out.frozen 2
   have tl:=HT6.out.lt
   go_simp
   have hTb9:=((HT6.out.set 0 (.slice lo' (X (k+1)).l.length lc')).set 1 (.slice so' (X (k+1)).s.length sc')).set 2 (.int .i64 (X (k+1)).o)
   have hU9:=(((Upd.refl T T w6).set 0 (.slice lo' (X (k+1)).l.length lc')).set 1 (.slice so' (X (k+1)).s.length sc')).set 2 (.int .i64 (X (k+1)).o)
   have hV9:Upd G G w _:=((HU6.out.setN (c:=T) (by rw [HT.out];exact Nat.le_refl _) 0 (.slice lo' (X (k+1)).l.length lc')).setN (c:=T) (by rw [HT.out];exact Nat.le_refl _) 1 (.slice so' (X (k+1)).s.length sc')).setN (c:=T) (by rw [HT.out];exact Nat.le_refl _) 2 (.int .i64 (X (k+1)).o)
   have hGT:G≠T:=by have:=HGl.out;omega
   have hPT:PB≠T:=by have:=HPl.out;omega
   have hRT:T+1≠T:=by omega
   generalize ((w6.setCell _ _).setCell _ _).setCell _ _=w9 at hTb9 hU9 hV9 ⊢
   have HP9:=Zh (HP6.out.upd hU9 hPT hPT)
   have HR9:=Zh (HR6.out.upd hU9 hRT hRT)
   have HA9:=Zh (HA6.out.upd (.inl rfl) hU9 (HA6.out.b.upd hU9 hGT hGT))
   have HS9:=Zh (HS6.out.upd hU9 (HLi6.out.1.w fun b h=>⟨h.2.1,h.2.1⟩) (HLi6.out.2.w fun b h=>⟨h.2.1,h.2.1⟩))
   have HT9:=Zh hTb9
   have HV9:=Zh hV9
   refine hK _ _ ?_
   clear hK Kv hTb9 hU9 hV9 t0 t1 t2 f0 f1 f2 tl
   go_wp2
   exact ⟨⟨k+1,lo',lc',so',sc',_,hkl,rfl,HV9.out,HT9.out,HR9.out,HS9.out,⟨HLi6.out.1,HLi6.out.2⟩,HA9.out⟩,by simp [intOf];omega⟩
  ·have hkl2:¬ (k:Int) < c.length:=by omega
   have hkc:k=c.length:=by omega
   subst hkc
   have t0:=HTb.out.cell 0 (v:=.slice lo (X c.length).l.length lc) rfl
   have t1:=HTb.out.cell 1 (v:=.slice so (X c.length).s.length sc) rfl
   have t2:=HTb.out.cell 2 (v:=.int .i64 (X c.length).o) rfl
   have r0:=HRb.out.cell 0 (v:=.slice none 0 0) rfl
   have r1:=HRb.out.cell 1 (v:=.slice none 0 0) rfl
   have r2:=HRb.out.cell 2 (v:=.int .i64 0) rfl
   have f0:=HRb.out.frozen 0
   have f1:=HRb.out.frozen 1
   have f2:=HRb.out.frozen 2
   have rl:=HRb.out.lt
   go_wp2
   have hTl:=HTb.out.lt
   have hZ:=((HRb.out.set 0 (.slice lo (X c.length).l.length lc)).set 1 (.slice so (X c.length).s.length sc)).set 2 (.int .i64 (X c.length).o)
   have hUz:=(((Upd.refl (T+1) (T+1) wr).set 0 (.slice lo (X c.length).l.length lc)).set 1 (.slice so (X c.length).s.length sc)).set 2 (.int .i64 (X c.length).o)
   have hUw:Upd G G w _:=((HU.out.setN (c:=T+1) (by rw [HT.out];omega) 0 (.slice lo (X c.length).l.length lc)).setN (c:=T+1) (by rw [HT.out];omega) 1 (.slice so (X c.length).s.length sc)).setN (c:=T+1) (by rw [HT.out];omega) 2 (.int .i64 (X c.length).o)
   have hGR:G≠T+1:=by have:=HGl.out;omega
   generalize ((wr.setCell _ _).setCell _ _).setCell _ _=wz at hZ hUz hUw ⊢
   have HSz:=Zh (HSa.out.upd hUz (HLi.out.1.w fun b h=>⟨h.2.2.1,h.2.2.1⟩) (HLi.out.2.w fun b h=>⟨h.2.2.1,h.2.2.1⟩))
   have HAz:=Zh (HAh.out.upd (.inr rfl) hUz (HAh.out.b.upd hUz hGR hGR))
   have z0:=hZ.cell 0 (v:=.slice lo (X c.length).l.length lc) rfl
   have z1:=hZ.cell 1 (v:=.slice so (X c.length).s.length sc) rfl
   have z2:=hZ.cell 2 (v:=.int .i64 (X c.length).o) rfl
   exact bodyPost_ret (v:=.agg #[.slice lo (X c.length).l.length lc,.slice so (X c.length).s.length sc,.int .i64 (X c.length).o]) (by simp [results,Tryz.results199,go_sem,z0,z1,z2]) rfl ⟨lo,lc,so,sc,T,C,rfl,HSz.out,HAz.out,HLi.out.1,HLi.out.2,Nat.le_of_eq HT.out.symm,hUw⟩
end
section
open Go.RowKit
attribute [local go_sem] World.cell?_alloc_some
theorem ZnJ (n:Nat) (hn:n≤1000):∃ C0:Array Value,C0.size=n*3∧∀ w:World,(Instr.makeSlice 87 (.int .i64 (n:Int)) (.int .i64 (n:Int))).run Tryz.prog w=.ok (.slice (some ⟨w.heap.size,0,none⟩) n n) (w.alloc (.cells C0 86)):=by
 have hinfo:(Tryz.prog.info? 86).map (fun i=>(i.zero,i.size,i.bytes))=some (some (.agg #[.slice none 0 0,.slice none 0 0,.int .i64 0]),3,56):=by kernel_rfl
 obtain ⟨i,hi,hzz⟩:=Option.map_eq_some_iff.1 hinfo
 simp only [Prod.mk.injEq] at hzz
 obtain ⟨hz,hs,hb⟩:=hzz
 refine ⟨_,size_madeCells (Value.cells (.agg #[.slice none 0 0,.slice none 0 0,.int .i64 0])) (n*3),fun w=>?_⟩
 have hr:=run_make (P:=Tryz.prog) w 87 86 i (.agg #[.slice none 0 0,.slice none 0 0,.int .i64 0]) Tryz.underlying87 hi hz .i64 .i64 n n (by omega) (Int.le_refl _) (by rw [hb];omega) (by omega)
 simp only [Int.toNat_natCast,hs] at hr
 exact hr
theorem Ahd.weak {w:World}{Q R:Nat→Prop}{G T:Nat}{X:Nat→Sta}{i n:Nat}{C:Array Value} (H:Ahd w Q G T X i n C) (f:∀ b,Q b→R b):Ahd w R G T X i n C:=
 ⟨H.b,H.z,fun j hj=>by
  obtain ⟨lo',lc',so',sc',e0,e1,e2,e3,e4,e5⟩:=H.e j hj
  exact ⟨lo',lc',so',sc',e0,e1,e2,e3,e4.w fun _ h=>⟨h.1,h.2.1,h.2.2.1,f _ h.2.2.2⟩,e5.w fun _ h=>⟨h.1,h.2.1,h.2.2.1,f _ h.2.2.2⟩⟩⟩
theorem Ahd.off {w w':World}{Q:Nat→Prop}{G T D:Nat}{X:Nat→Sta}{i n:Nat}{C:Array Value} (H:Ahd w Q G T X i n C) (hQ:∀ b,Q b→b≠D) (hG:G≠D) (hu:Upd D D w w'):Ahd w' Q G T X i n C:=
 ⟨H.b.upd hu hG hG,H.z,fun j hj=>by
  obtain ⟨lo',lc',so',sc',e0,e1,e2,e3,e4,e5⟩:=H.e j hj
  exact ⟨lo',lc',so',sc',e0,e1,e2,e3.upd hu (e4.w fun _ h=>⟨hQ _ h.2.2.2,hQ _ h.2.2.2⟩) (e5.w fun _ h=>⟨hQ _ h.2.2.2,hQ _ h.2.2.2⟩),e4,e5⟩⟩
theorem Ahd.old {w w':World}{Q:Nat→Prop}{G T:Nat}{X:Nat→Sta}{i n:Nat}{C:Array Value} (H:Ahd w Q G T X i n C) (hb:Below w.heap.size w w'):Ahd w' Q G T X i n C:=
 ⟨H.b.old hb,H.z,fun j hj=>by
  obtain ⟨lo',lc',so',sc',e0,e1,e2,e3,e4,e5⟩:=H.e j hj
  exact ⟨lo',lc',so',sc',e0,e1,e2,e3.old hb,e4,e5⟩⟩
theorem Upd.fresh {G PB:Nat}{w w1 w':World} (h:Upd PB PB w w1) (hu:Upd G G w1 w') (hG:w.heap.size≤G):Upd PB PB w w':=
 ⟨hu.os.trans h.os,hu.tape.trans h.tape,hu.output.trans h.output,Nat.le_trans h.size hu.size,fun i hi h1 h2=>(hu.block i (Nat.lt_of_lt_of_le hi h.size) (by omega) (by omega)).trans (h.block i hi h1 h2)⟩
def ZnK (w:World) (Q:Nat→Prop) (PB:Nat) (X:Nat→Sta) (n:Nat):Ending→World→Prop:=fun e w'=>∃ lo lc so sc G T C,e=.returned (.tuple #[.slice (some ⟨G,0,none⟩) n n,.agg #[.slice lo (X n).l.length lc,.slice so (X n).s.length sc,.int .i64 (X n).o]])∧Znz w' lo lc so sc (X n)∧Ahd w' Q G T X n n C∧Lie (Pg Q G T) lo∧Lie (Pg Q G T) so∧w.heap.size≤G∧Upd PB PB w w'
theorem ZnL (A PB:Nat) (MP:Addr) (ko:Option Addr) (kc:Nat) (c:List In3) (v2 v3 v4:Value) (X:Nat→Sta) (w:World) (H:AnC w A MP ko kc c) (hA:A≠PB∧MP.block≠PB∧Lie (fun b=>b≠PB∧b<w.heap.size) ko)
  (hpb:Blk w PB #[.slice ko c.length kc,doF A,v2,v3,v4,.slice none 0 0] 172) (hc:c.length≤1000) (Q:Nat→Prop) (hQ:∀ b,w.heap.size≤b→Q b)
  (hop:∀ i,i<c.length→ZaR (c.getD i default).op=false)
  (hD:∀ i,i<c.length→∀ w',AnC w' A MP ko kc c→∀ lo lc so sc,Znz w' lo lc so sc (X i)→Calls Tryz.prog 130 #[.pointer (some ⟨A,0,none⟩),.int .i64 i,.agg #[.slice lo (X i).l.length lc,.slice so (X i).s.length sc,.int .i64 (X i).o]] w' (ZnA w' (X (i+1))))
  (lo so:Option Addr) (lc sc:Nat) (HS0:Znz w lo lc so sc (X 0)) (hl0:Lie (fun b=>b≠PB∧b<w.heap.size∧Q b) lo) (hs0:Lie (fun b=>b≠PB∧b<w.heap.size∧Q b) so) :
  Calls Tryz.prog 134 #[.pointer (some ⟨PB,0,none⟩),.agg #[.slice lo (X 0).l.length lc,.slice so (X 0).s.length sc,.int .i64 (X 0).o]] w (ZnK w Q PB X c.length):=by
 obtain ⟨C0,hCz,hmk⟩:=ZnJ c.length hc
 obtain ⟨W,hW⟩:∃ W,W=w.heap.size:=⟨_,rfl⟩
 obtain ⟨w0,hw0⟩:∃ w0,w0=(w.alloc (.cells #[.slice lo (X 0).l.length lc,.slice so (X 0).s.length sc,.int .i64 (X 0).o] 86)).alloc (.cells #[.slice none 0 0,.slice none 0 0,.int .i64 0] 86):=⟨_,rfl⟩
 have hb0:Below w.heap.size w w0:=by rw [hw0];exact bE
 have HT0:=Zh (show Blk w0 W #[.slice lo (X 0).l.length lc,.slice so (X 0).s.length sc,.int .i64 (X 0).o] 86 by rw [hw0,hW];exact (Blk.new w _ _).alloc _)
 have HR0:=Zh (show Blk w0 (W+1) #[.slice none 0 0,.slice none 0 0,.int .i64 0] 86 by rw [hw0];exact Blk.new' _ _ (by simp [hW]))
 have hz0:w0.heap.size=W+2:=by rw [hw0];simp [hW]
 have HP0:=Zh (hpb.old hb0)
 have HA0:=Zh (H.keeps (ZmV.of hb0))
 have HS:=Zh (HS0.old hb0)
 have HPl:=Zh (show PB<W by rw [hW];exact hpb.lt)
 have HAl:=Zh (show A<W by rw [hW];exact Zac H.a4)
 have HMl:=Zh (show MP.block<W by rw [hW];exact Zac (a:=⟨MP.block,MP.off+6,none⟩) H.e6)
 have HNe:=Zh hA
 have HQ:=Zh hQ
 have HL0:=Zh hl0
 have HS0:=Zh hs0
 have HO:=Zh hop
 have HD:=Zh hD
 have HW:=Zh (And.intro hW hw0)
 have HB0:=Zh hb0
 have HCz:=Zh hCz
 have HZ:=Zh hz0
 clear H hQ hA hpb hop hD hl0 hs0 hb0 hz0 hCz hw0 hW
 go_enter Tryz.func134,Tryz.ntmps134
 go_upto_region 1 with fail
 rw [←HW.out.1,←HW.out.2]
 have p0:=HP0.out.cell 0 (v:=.slice ko c.length kc) rfl
 have p5:=HP0.out.cell 5 (v:=.slice none 0 0) rfl
 have f5:=HP0.out.frozen 5
 have pl:=HP0.out.lt
 go_upto_region 2 with fail
 rw [HZ.out]
 have hU1:=((Upd.refl PB PB w0).set 5 (.slice (some ⟨W+2,0,none⟩) c.length c.length)).alloc (.cells C0 86)
 have hP1:=(HP0.out.set 5 (.slice (some ⟨W+2,0,none⟩) c.length c.length)).alloc (.cells C0 86)
 have hG1:Blk ((w0.setCell ⟨PB,5,none⟩ (.slice (some ⟨W+2,0,none⟩) c.length c.length)).alloc (.cells C0 86)) (W+2) C0 86:=Blk.new' _ _ (by simp [World.setCell];exact HZ.out.symm)
 have hz1:((w0.setCell ⟨PB,5,none⟩ (.slice (some ⟨W+2,0,none⟩) c.length c.length)).alloc (.cells C0 86)).heap.size=W+3:=by simp [World.setCell];exact HZ.out
 generalize (w0.setCell _ _).alloc _=w1 at hU1 hP1 hG1 hz1 ⊢
 clear p0 p5 f5 pl hmk
 have hne:W≠PB∧W+1≠PB:=by have:=HPl.out;omega
 have HP1:=Zh hP1
 have HG1:=Zh hG1
 have HZ1:=Zh hz1
 have HT1:=Zh (HT0.out.upd hU1 hne.1 hne.1)
 have HR1:=Zh (HR0.out.upd hU1 hne.2 hne.2)
 have HA1:=Zh (HA0.out.updG hU1 ⟨HNe.out.1,HNe.out.2.1,HNe.out.2.2.w fun _ h=>h.1⟩)
 have HS1:=Zh (HS.out.upd hU1 (HL0.out.w fun _ h=>⟨h.1,h.1⟩) (HS0.out.w fun _ h=>⟨h.1,h.1⟩))
 have HU1:=Zh ((show Upd PB PB w w0 from Upd.of HB0.out).trans hU1)
 clear hU1 hP1 hG1 hz1 hne
 have hWs:=HW.out.1
 have HWs:=Zh hWs
 clear hWs
 have p0:=HP1.out.cell 0 (v:=.slice ko c.length kc) rfl
 have t0:=HT1.out.cell 0 (v:=.slice lo (X 0).l.length lc) rfl
 have t1:=HT1.out.cell 1 (v:=.slice so (X 0).s.length sc) rfl
 have t2:=HT1.out.cell 2 (v:=.int .i64 (X 0).o) rfl
 refine rO (Cs [(⟨PB,0,none⟩,.slice ko c.length kc),(⟨W,0,none⟩,.slice lo (X 0).l.length lc),(⟨W,1,none⟩,.slice so (X 0).s.length sc),(⟨W,2,none⟩,.int .i64 (X 0).o)]) (.plain 0 (.plain 1 (.plain 2 (.plain 3 (.plain 4 (.plain 5 (.plain 6 (.two 7 8 (.one 8 (.one 9 .done)) (.one 7 (.one 9 .done)))))))))) ⟨p0,t0,t1,t2,trivial⟩ ?_
 repeat refine pO ?_
 refine Zd4 ?_ ?_
 ·refine Zd2 _ (by rfl) (by rfl) fun Kv hK=>?_
  go_simp
  have hbx:Below w1.heap.size w1 w1.drew:=by exact bE
  refine (ZnI A PB (W+2) MP ko kc c v2 v3 v4 X C0 _ (HA1.out.keeps (ZmV.of hbx)) ⟨by have:=HAl.out;omega,by have:=HMl.out;omega,HNe.out.2.2.w fun b h=>by have h1:=h.2;have h2:=HWs.out;show b≠W+2;omega⟩ (HP1.out.old hbx) (by have:=HPl.out;omega) (fun b=>Q b∧b≠W+1) (fun b hb=>⟨HQ.out b (by have h1:w1.drew.heap.size=w1.heap.size:=rfl;have h2:=HZ1.out;have h3:=HWs.out;omega),by have h1:w1.drew.heap.size=w1.heap.size:=rfl;have h2:=HZ1.out;omega⟩) (HG1.out.old hbx) HCz.out hc HO.out HD.out lo so lc sc (HS1.out.old hbx) ?_ ?_).mono ?_
  ·exact HL0.out.w fun b h=>by have h1:=h.2.1;have h2:=HWs.out;have h3:=HZ1.out;have h4:=hbx.size;exact ⟨by omega,by omega,h.2.2,by omega⟩
  ·exact HS0.out.w fun b h=>by have h1:=h.2.1;have h2:=HWs.out;have h3:=HZ1.out;have h4:=hbx.size;exact ⟨by omega,by omega,h.2.2,by omega⟩
  rintro e w6 ⟨lo',lc',so',sc',T,C,rfl,hs6,ha6,hl6,hz6,hT6,hu6⟩
  rename World=>w6
  have hPG:PB≠W+2:=by have:=HPl.out;omega
  have hu16:Upd (W+2) (W+2) w1 w6:=(Upd.of hbx).trans hu6
  have HP6:=Zh (HP1.out.upd hu16 hPG hPG)
  have HT6:=Zh (HT1.out.upd hu16 (by omega) (by omega))
  have HR6:=Zh (HR1.out.upd hu16 (by omega) (by omega))
  have HS6:=Zh hs6
  have HA6:=Zh ha6
  have HL9:=Zh (And.intro hl6 hz6)
  have HU6:=Zh (HU1.out.fresh hu16 (by have:=HWs.out;omega))
  have HZ6:=Zh (show W+3≤w6.heap.size by have:=HZ1.out;have:=hu16.size;omega)
  clear hs6 ha6 hl6 hz6 hu6 hu16 hbx
  refine hK _ _ ⟨⟨HP6.out.cell 0 rfl,HT6.out.cell 0 rfl,HT6.out.cell 1 rfl,HT6.out.cell 2 rfl,trivial⟩,?_⟩
  clear hK Kv
  refine oO fun Kv hK=>?_
  go_simp
  obtain ⟨E,hE⟩:∃ E,E=w6.heap.size:=⟨_,rfl⟩
  obtain ⟨w7,hw7⟩:∃ w7,w7=w6.alloc (.cells #[.slice none 0 0,.slice none 0 0,.int .i64 0] 86):=⟨_,rfl⟩
  have hb7:Below w6.heap.size w6 w7:=by rw [hw7];exact bE
  have HE7:=Zh (show Blk w7 E #[.slice none 0 0,.slice none 0 0,.int .i64 0] 86 by rw [hw7];exact Blk.new' _ _ hE)
  rw [←hE,←hw7]
  have HEl:=Zh (show W+2<E by have:=HZ6.out;omega)
  have HP7:=Zh (HP6.out.old hb7)
  have HT7:=Zh (HT6.out.old hb7)
  have HR7:=Zh (HR6.out.old hb7)
  have HU7:=Zh (HU6.out.trans (Upd.of hb7))
  have HB7:=Zh hb7
  have HEe:=Zh hE
  refine hK _ _ ⟨⟨HP7.out.cell 0 rfl,HT7.out.cell 0 rfl,HT7.out.cell 1 rfl,HT7.out.cell 2 rfl,trivial⟩,?_⟩
  clear hK Kv hE hw7 hb7
  refine oO fun Kv hK=>?_
  have e0:=HE7.out.cell 0 (v:=.slice none 0 0) rfl
  have e1:=HE7.out.cell 1 (v:=.slice none 0 0) rfl
  have e2:=HE7.out.cell 2 (v:=.int .i64 0) rfl
  have f0:=HE7.out.frozen 0
  have f1:=HE7.out.frozen 1
  have f2:=HE7.out.frozen 2
  have el:=HE7.out.lt
  go_simp
  have hE9:=((HE7.out.set 0 (.slice lo' (X c.length).l.length lc')).set 1 (.slice so' (X c.length).s.length sc')).set 2 (.int .i64 (X c.length).o)
  have hU9:=(((Upd.refl E E w7).set 0 (.slice lo' (X c.length).l.length lc')).set 1 (.slice so' (X c.length).s.length sc')).set 2 (.int .i64 (X c.length).o)
  have hV9:Upd PB PB w _:=((HU7.out.setN (c:=E) (by have:=HEl.out;have:=HWs.out;omega) 0 (.slice lo' (X c.length).l.length lc')).setN (c:=E) (by have:=HEl.out;have:=HWs.out;omega) 1 (.slice so' (X c.length).s.length sc')).setN (c:=E) (by have:=HEl.out;have:=HWs.out;omega) 2 (.int .i64 (X c.length).o)
  have hB9:=ZcW (j:=2) (ZcW (j:=1) (ZcW (j:=0) HB7.out (b:=E) (by have:=HEe.out;omega) (.slice lo' (X c.length).l.length lc')) (b:=E) (by have:=HEe.out;omega) (.slice so' (X c.length).s.length sc')) (b:=E) (by have:=HEe.out;omega) (.int .i64 (X c.length).o)
  generalize ((w7.setCell _ _).setCell _ _).setCell _ _=w9 at hE9 hU9 hV9 hB9 ⊢
  have hEE:PB≠E∧W≠E∧W+1≠E∧W+2≠E:=by have:=HPl.out;have:=HEl.out;omega
  have HP9:=Zh (HP7.out.upd hU9 hEE.1 hEE.1)
  have HT9:=Zh (HT7.out.upd hU9 hEE.2.1 hEE.2.1)
  have HR9:=Zh (HR7.out.upd hU9 hEE.2.2.1 hEE.2.2.1)
  have HS9:=Zh (HS6.out.old hB9)
  have HA9:=Zh (HA6.out.old hB9)
  have HE9:=Zh hE9
  have HV9:=Zh hV9
  refine hK _ _ ⟨⟨HP9.out.cell 0 rfl,HT9.out.cell 0 rfl,HT9.out.cell 1 rfl,HT9.out.cell 2 rfl,trivial⟩,?_⟩
  clear hK Kv hE9 hU9 hV9 hB9 e0 e1 e2 f0 f1 f2 el
  exact j3
 ·refine Zd2 _ (by rfl) (by rfl) fun Kv hK=>?_
  go_simp
  rw [HZ1.out]
  obtain ⟨w2,hw2⟩:∃ w2,w2=(w1.alloc (.cells #[.slice none 0 0,.slice none 0 0,.int .i64 0] 86)).drew:=⟨_,rfl⟩
  have hb2:Below w1.heap.size w1 w2:=by rw [hw2];exact bE
  have HE2:=Zh (show Blk w2 (W+3) #[.slice none 0 0,.slice none 0 0,.int .i64 0] 86 by rw [hw2];exact (Blk.new' _ _ HZ1.out.symm).drew)
  have HZ2:=Zh (show w2.heap.size=W+4 by rw [hw2];show (w1.alloc _).heap.size=W+4;simp;exact HZ1.out)
  rw [←hw2]
  have HP2:=Zh (HP1.out.old hb2)
  have HT2:=Zh (HT1.out.old hb2)
  have HB2:=Zh hb2
  refine hK _ _ ⟨⟨HP2.out.cell 0 rfl,HT2.out.cell 0 rfl,HT2.out.cell 1 rfl,HT2.out.cell 2 rfl,trivial⟩,?_⟩
  clear hK Kv hw2 hb2
  refine oO fun Kv hK=>?_
  go_simp
  have hbx:=HB2.out
  refine (ZnI A PB (W+2) MP ko kc c v2 v3 v4 X C0 _ (HA1.out.keeps (ZmV.of hbx)) ⟨by have:=HAl.out;omega,by have:=HMl.out;omega,HNe.out.2.2.w fun b h=>by have h1:=h.2;have h2:=HWs.out;show b≠W+2;omega⟩ (HP1.out.old hbx) (by have:=HPl.out;omega) (fun b=>Q b∧b≠W+1∧b≠W+3) (fun b hb=>⟨HQ.out b (by have h2:=HZ2.out;have h3:=HWs.out;omega),by have h2:=HZ2.out;omega,by have h2:=HZ2.out;omega⟩) (HG1.out.old hbx) HCz.out hc HO.out HD.out lo so lc sc (HS1.out.old hbx) ?_ ?_).mono ?_
  ·exact HL0.out.w fun b h=>by have h1:=h.2.1;have h2:=HWs.out;have h3:=HZ1.out;have h4:=hbx.size;exact ⟨by omega,by omega,h.2.2,by omega,by omega⟩
  ·exact HS0.out.w fun b h=>by have h1:=h.2.1;have h2:=HWs.out;have h3:=HZ1.out;have h4:=hbx.size;exact ⟨by omega,by omega,h.2.2,by omega,by omega⟩
  rintro e w6 ⟨lo',lc',so',sc',T,C,rfl,hs6,ha6,hl6,hz6,hT6,hu6⟩
  rename World=>w6
  have hPG:PB≠W+2:=by have:=HPl.out;omega
  have hu16:Upd (W+2) (W+2) w1 w6:=(Upd.of hbx).trans hu6
  have HP6:=Zh (HP1.out.upd hu16 hPG hPG)
  have HT6:=Zh (HT1.out.upd hu16 (by omega) (by omega))
  have HR6:=Zh (HR1.out.upd hu16 (by omega) (by omega))
  have HS6:=Zh hs6
  have HA6:=Zh ha6
  have HLx:=Zh (And.intro hl6 hz6)
  have HL9:=Zh (show Lie (Pg (fun b=>Q b∧b≠W+1) (W+2) T) lo'∧Lie (Pg (fun b=>Q b∧b≠W+1) (W+2) T) so' from ⟨hl6.w fun _ h=>⟨h.1,h.2.1,h.2.2.1,h.2.2.2.1,h.2.2.2.2.1⟩,hz6.w fun _ h=>⟨h.1,h.2.1,h.2.2.1,h.2.2.2.1,h.2.2.2.2.1⟩⟩)
  have HU6:=Zh (HU1.out.fresh hu16 (by have:=HWs.out;omega))
  have HZ6:=Zh (show W+3≤w6.heap.size by have:=HZ1.out;have:=hu16.size;omega)
  have HE7:=Zh (HE2.out.upd hu6 (by omega) (by omega))
  clear hs6 ha6 hl6 hz6 hu6 hu16 hbx
  refine hK _ _ ⟨⟨HP6.out.cell 0 rfl,HT6.out.cell 0 rfl,HT6.out.cell 1 rfl,HT6.out.cell 2 rfl,trivial⟩,?_⟩
  clear hK Kv
  obtain ⟨E,hE⟩:∃ E,E=W+3:=⟨_,rfl⟩
  rw [←hE] at HE7 ⊢
  have HEl:=Zh (show W+2<E by omega)
  have HEe:=Zh hE
  clear hE
  have HP7:=HP6
  have HT7:=HT6
  have HR7:=HR6
  have HU7:=HU6
  refine oO fun Kv hK=>?_
  have e0:=HE7.out.cell 0 (v:=.slice none 0 0) rfl
  have e1:=HE7.out.cell 1 (v:=.slice none 0 0) rfl
  have e2:=HE7.out.cell 2 (v:=.int .i64 0) rfl
  have f0:=HE7.out.frozen 0
  have f1:=HE7.out.frozen 1
  have f2:=HE7.out.frozen 2
  have el:=HE7.out.lt
  go_simp
  have hE9:=((HE7.out.set 0 (.slice lo' (X c.length).l.length lc')).set 1 (.slice so' (X c.length).s.length sc')).set 2 (.int .i64 (X c.length).o)
  have hU9:=(((Upd.refl E E w6).set 0 (.slice lo' (X c.length).l.length lc')).set 1 (.slice so' (X c.length).s.length sc')).set 2 (.int .i64 (X c.length).o)
  have hV9:Upd PB PB w _:=((HU7.out.setN (c:=E) (by have:=HEl.out;have:=HWs.out;omega) 0 (.slice lo' (X c.length).l.length lc')).setN (c:=E) (by have:=HEl.out;have:=HWs.out;omega) 1 (.slice so' (X c.length).s.length sc')).setN (c:=E) (by have:=HEl.out;have:=HWs.out;omega) 2 (.int .i64 (X c.length).o)
  generalize ((w6.setCell _ _).setCell _ _).setCell _ _=w9 at hE9 hU9 hV9 ⊢
  have hEE:PB≠E∧W≠E∧W+1≠E∧W+2≠E:=by have:=HPl.out;have:=HEl.out;omega
  have HP9:=Zh (HP7.out.upd hU9 hEE.1 hEE.1)
  have HT9:=Zh (HT7.out.upd hU9 hEE.2.1 hEE.2.1)
  have HR9:=Zh (HR7.out.upd hU9 hEE.2.2.1 hEE.2.2.1)
  have HS9:=Zh (HS6.out.upd hU9 (HLx.out.1.w fun b h=>by have h1:=h.2.2.2.2.2;have h2:=HEe.out;show b≠E∧b≠E;omega) (HLx.out.2.w fun b h=>by have h1:=h.2.2.2.2.2;have h2:=HEe.out;show b≠E∧b≠E;omega))
  have HA9:=Zh ((HA6.out.off (D:=E) (fun b h=>by have h1:=h.2.2;have h2:=HEe.out;omega) (by omega) hU9).weak (R:=fun b=>Q b∧b≠W+1) fun _ h=>⟨h.1,h.2.1⟩)
  have HE9:=Zh hE9
  have HV9:=Zh hV9
  refine hK _ _ ⟨⟨HP9.out.cell 0 rfl,HT9.out.cell 0 rfl,HT9.out.cell 1 rfl,HT9.out.cell 2 rfl,trivial⟩,?_⟩
  clear hK Kv hE9 hU9 hV9 e0 e1 e2 f0 f1 f2 el
  exact j3
end
section
open Go.RowKit
def ZnM:List In3:=[⟨14,0,0⟩,⟨14,0,0⟩,⟨18,0,0⟩,⟨2,0,0⟩,⟨14,0,0⟩,⟨18,0,0⟩]
def ZnN:Nat→Sta
 | 0=>⟨[⟨-9,0⟩],[],0⟩
 | 1=>⟨[⟨-9,0⟩],[⟨0,0⟩],0⟩
 | 2=>⟨[⟨-9,0⟩],[⟨0,0⟩,⟨0,0⟩],0⟩
 | 3=>⟨[⟨-9,0⟩],[],0⟩
 | 4=>⟨[⟨-9,0⟩],[⟨-9,0⟩],0⟩
 | 5=>⟨[⟨-9,0⟩],[⟨-9,0⟩,⟨0,0⟩],0⟩
 | _=>⟨[⟨-9,0⟩],[],0⟩
section
variable (A:Nat)(MP:Addr)(ko:Option Addr)(kc:Nat)
include A MP ko kc
theorem ZnO (i:Nat) (hi:i<ZnM.length) (ho:(ZnM.getD i default)=⟨14,0,0⟩) (l s:List Rg) (hl:l.length≤1000) (hs:s.length≤1000) (w':World) (H:AnC w' A MP ko kc ZnM) (lo:Option Addr) (lc:Nat) (so:Option Addr) (sc:Nat) (HS:Znz w' lo lc so sc ⟨l,s,0⟩):Calls Tryz.prog 130 #[.pointer (some ⟨A,0,none⟩),.int .i64 i,.agg #[.slice lo l.length lc,.slice so s.length sc,.int .i64 0]] w' (ZnA w' ⟨l,s++[⟨0,0⟩],0⟩):=by
 have h:=ZnE A MP ko kc ZnM i w' H hi (by rw [ho];decide) (by rw [ho];decide) (by rw [ho];decide) l s 0 lo so lc sc HS (by omega) hs 0 (Nat.zero_le _) [⟨0,0⟩] (by decide) (fun w2=>by rw [ho];exact Zm2 A 0 0 w2) (fun w2 hb to' tn tc=>Zm5 A MP ko kc ZnM i w2 (H.keeps (ZmV.of hb)) hi (by rw [ho]) l lo so to' lc s.length sc tn tc 0 (HS.l.old hb))
 rwa [Nat.sub_zero,List.take_length] at h
theorem ZnP (i:Nat) (hi:i<ZnM.length) (ho:(ZnM.getD i default)=⟨18,0,0⟩) (l:List Rg) (x y:Rg) (hl:l.length≤1000) (w':World) (H:AnC w' A MP ko kc ZnM) (lo:Option Addr) (lc:Nat) (so:Option Addr) (sc:Nat) (HS:Znz w' lo lc so sc ⟨l,[x,y],0⟩):Calls Tryz.prog 130 #[.pointer (some ⟨A,0,none⟩),.int .i64 i,.agg #[.slice lo l.length lc,.slice so 2 sc,.int .i64 0]] w' (ZnA w' ⟨l,[],0⟩):=
 ZnE A MP ko kc ZnM i w' H hi (by rw [ho];decide) (by rw [ho];decide) (by rw [ho];decide) l [x,y] 0 lo so lc sc HS (by omega) (by simp) 2 (Nat.le_refl _) [] (by decide) (fun w2=>by rw [ho];exact Zm3 A 0 0 w2) (fun w2 hb to' tn tc=>Zm6 A MP ko kc ZnM i w2 (H.keeps (ZmV.of hb)) hi (by rw [ho]) l lo so to' lc 2 sc tn tc 0 (HS.l.old hb))
theorem ZnQ (w':World) (H:AnC w' A MP ko kc ZnM) (lo:Option Addr) (lc:Nat) (so:Option Addr) (sc:Nat) (HS:Znz w' lo lc so sc (ZnN 3)):Calls Tryz.prog 130 #[.pointer (some ⟨A,0,none⟩),.int .i64 3,.agg #[.slice lo 1 lc,.slice so 0 sc,.int .i64 0]] w' (ZnA w' (ZnN 4)):=
 ZnE A MP ko kc ZnM 3 w' H (by decide) (by decide) (by decide) (by decide) [⟨-9,0⟩] [] 0 lo so lc sc HS (by decide) (by decide) 0 (by decide) [⟨-9,0⟩] (by decide) (fun w2=>Zm4 A 0 0 w2) (fun w2 hb to' tn tc=>Zm7 A MP ko kc ZnM 3 w2 (H.keeps (ZmV.of hb)) (by decide) rfl [⟨-9,0⟩] lo so to' lc 0 sc tn tc 0 (HS.l.old hb) (q:=0) (by decide) rfl)
theorem ZnR:∀ i,i<ZnM.length→∀ w',AnC w' A MP ko kc ZnM→∀ lo lc so sc,Znz w' lo lc so sc (ZnN i)→Calls Tryz.prog 130 #[.pointer (some ⟨A,0,none⟩),.int .i64 i,.agg #[.slice lo (ZnN i).l.length lc,.slice so (ZnN i).s.length sc,.int .i64 (ZnN i).o]] w' (ZnA w' (ZnN (i+1))):=by
 intro i hi w' H lo lc so sc HS
 have hi6:i=0∨i=1∨i=2∨i=3∨i=4∨i=5:=by have:ZnM.length=6:=rfl;omega
 rcases hi6 with rfl|rfl|rfl|rfl|rfl|rfl
 ·exact ZnO A MP ko kc 0 hi rfl [⟨-9,0⟩] [] (by decide) (by decide) w' H lo lc so sc HS
 ·exact ZnO A MP ko kc 1 hi rfl [⟨-9,0⟩] [⟨0,0⟩] (by decide) (by decide) w' H lo lc so sc HS
 ·exact ZnP A MP ko kc 2 hi rfl [⟨-9,0⟩] ⟨0,0⟩ ⟨0,0⟩ (by decide) w' H lo lc so sc HS
 ·exact ZnQ A MP ko kc w' H lo lc so sc HS
 ·exact ZnO A MP ko kc 4 hi rfl [⟨-9,0⟩] [⟨-9,0⟩] (by decide) (by decide) w' H lo lc so sc HS
 ·exact ZnP A MP ko kc 5 hi rfl [⟨-9,0⟩] ⟨-9,0⟩ ⟨0,0⟩ (by decide) w' H lo lc so sc HS
end
theorem ZnS (A PB:Nat) (MP:Addr) (ko:Option Addr) (kc:Nat) (v2 v3 v4:Value) (w:World) (H:AnC w A MP ko kc ZnM) (hA:A≠PB∧MP.block≠PB∧Lie (fun b=>b≠PB∧b<w.heap.size) ko)
  (hpb:Blk w PB #[.slice ko 6 kc,doF A,v2,v3,v4,.slice none 0 0] 172) (Q:Nat→Prop) (hQ:∀ b,w.heap.size≤b→Q b)
  (lo so:Option Addr) (lc sc:Nat) (HS0:Znz w lo lc so sc (ZnN 0)) (hl0:Lie (fun b=>b≠PB∧b<w.heap.size∧Q b) lo) (hs0:Lie (fun b=>b≠PB∧b<w.heap.size∧Q b) so) :
  Calls Tryz.prog 134 #[.pointer (some ⟨PB,0,none⟩),.agg #[.slice lo 1 lc,.slice so 0 sc,.int .i64 0]] w (ZnK w Q PB ZnN 6):=
 ZnL A PB MP ko kc ZnM v2 v3 v4 ZnN w H hA hpb (by decide) Q hQ (fun i hi=>by
  have hi6:i=0∨i=1∨i=2∨i=3∨i=4∨i=5:=by have:ZnM.length=6:=rfl;omega
  rcases hi6 with rfl|rfl|rfl|rfl|rfl|rfl<;>decide) (ZnR A MP ko kc) lo so lc sc HS0 hl0 hs0
end
end Go.Proofs.YtcfjblcgceednaaGreat
