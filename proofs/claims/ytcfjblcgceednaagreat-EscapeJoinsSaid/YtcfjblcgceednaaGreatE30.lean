/- escape: the state behind an instruction. -/
import Derived.Test.YtcfjblcgceednaaGreatE27
set_option linter.all false
set_option linter.unusedVariables false
set_option linter.unusedSimpArgs false
set_option maxRecDepth 100000
set_option maxHeartbeats 16000000
namespace Go.Proofs.YtcfjblcgceednaaGreat
theorem j0{p:Prop}(h:p:=by
 refine hK _ _ ⟨⟨HSb.out.cell 0 rfl,HSb.out.cell 1 rfl,HSb.out.cell 2 rfl,trivial⟩,?_⟩
 clear hK Kv hb hown
 repeat refine pO ?_
 refine oO fun Kv hK=>?_
 go_simp
 have HCc:=ZmG _ (some ⟨D,0,none⟩) 2 2 _ _ HSl.out rfl (by decide) (by simp;omega)
 rw [show [s.take (s.length-t),pv].flatten=rs by rw [HRs.out];simp] at HCc
 refine HCc.mono ?_
 clear HCc
 rintro e wc ⟨⟨oo,oc,rfl,hown⟩,hb⟩
 have HRb0:=HRb
 have HQ0:=HQ
 have HQ:=Zh (Zaf HQ.out hb)
 have HSb:=Zh (HSb.out.old hb)
 have HRb:=Zh (HRb.out.old hb)
 have HIb:=Zh (HIb.out.old hb)
 have HOb0:=HOb
 have HCl:=Zh (And.intro (HCl.out.1.old hb) HCl.out.2)
 have HClt:=Zh (fun a ha=>Nat.lt_of_lt_of_le (HClt.out a ha) hb.size)
 have HSl:=Zh (HSl.out.old hb)
 have HOb:=Zh (HOb.out.old hb)
 have HOs:=Zh (And.intro (Zar.of_own hown) (ZnB hown))
 have HOst:=Zh (show ∀ a,oo=some a→a.block<wc.heap.size from fun a ha=>(hown.lt a.block (by rw [ha];rfl)).2)
 have HOsr:=Zh (show Lie (·≠SB+1) oo from fun a ha=>by have h1:=(hown.lt a.block (by rw [ha];rfl)).1;have h2:=HRb0.out.lt;show a.block≠SB+1;omega)
 have HOsf:=Zh (show Lie (fun b=>w.heap.size≤b) oo from fun a ha=>by have h1:=(hown.lt a.block (by rw [ha];rfl)).1;have h2:=HQ0.out.size;show w.heap.size≤a.block;omega)
 have HOsn:=Zh (show Lie (·≠OB) oo from fun a ha=>by have h1:=(hown.lt a.block (by rw [ha];rfl)).1;have h2:=HOb0.out.lt;show a.block≠OB;omega)
 exact j2):p:=h
theorem j2{p:Prop}(h:p:=by
 refine hK _ _ ⟨⟨HSb.out.cell 0 rfl,HSb.out.cell 1 rfl,HSb.out.cell 2 rfl,trivial⟩,?_⟩
 clear hK Kv hb hown
 repeat refine pO ?_
 refine oO fun Kv hK=>?_
 obtain ⟨q0,q1,q2⟩:=HOl.out
 have hSw:=HW.out.1
 have r0:=HOb.out.cell 0 (v:=.slice none 0 0) rfl
 have r1:=HOb.out.cell 1 (v:=.slice none 0 0) rfl
 have r2:=HOb.out.cell 2 (v:=.int .i64 0) rfl
 have f0:=HOb.out.frozen 0
 have f1:=HOb.out.frozen 1
 have f2:=HOb.out.frozen 2
 have rl:=HOb.out.lt
 have HSw:=Zh hSw
 clear hSw
 go_simp
 have hSw:=HSw.out
 have hY:=((HOb.out.set 0 (.slice clo l.length clc)).set 1 (.slice oo rs.length oc)).set 2 (.int .i64 o)
 have hU:=(((Upd.refl OB OB wc).set 0 (.slice clo l.length clc)).set 1 (.slice oo rs.length oc)).set 2 (.int .i64 o)
 have hQ9:=ZcW (j:=2) (ZcW (j:=1) (ZcW (j:=0) HQ.out (b:=OB) (by omega) (.slice clo l.length clc)) (b:=OB) (by omega) (.slice oo rs.length oc)) (b:=OB) (by omega) (.int .i64 o)
 have hS9:=((HSb.out.other (a:=⟨OB,0,none⟩) (by show SB≠OB;omega) (.slice clo l.length clc)).other (a:=⟨OB,1,none⟩) (by show SB≠OB;omega) (.slice oo rs.length oc)).other (a:=⟨OB,2,none⟩) (by show SB≠OB;omega) (.int .i64 o)
 have hR9:=((HRb.out.other (a:=⟨OB,0,none⟩) (by show SB+1≠OB;omega) (.slice clo l.length clc)).other (a:=⟨OB,1,none⟩) (by show SB+1≠OB;omega) (.slice oo rs.length oc)).other (a:=⟨OB,2,none⟩) (by show SB+1≠OB;omega) (.int .i64 o)
 have hI9:=((HIb.out.other (a:=⟨OB,0,none⟩) (by show SB+1+1≠OB;omega) (.slice clo l.length clc)).other (a:=⟨OB,1,none⟩) (by show SB+1+1≠OB;omega) (.slice oo rs.length oc)).other (a:=⟨OB,2,none⟩) (by show SB+1+1≠OB;omega) (.int .i64 o)
 refine hK _ _ ⟨⟨hS9.cell 0 rfl,hS9.cell 1 rfl,hS9.cell 2 rfl,trivial⟩,?_⟩
 have HY:=Zh hY
 have HQ9:=Zh hQ9
 have HR9:=Zh hR9
 have HI9:=Zh hI9
 have HC9:=Zh (Zm8 HCl.out.1 hU HCln.out)
 have HO9:=Zh (Zm8 HOs.out.1 hU HOsn.out)
 clear hK Kv hY hU hQ9 hS9 hR9 hI9 r0 r1 r2 f0 f1 f2 rl q0 q1 q2 hSw
 generalize ((wc.setCell _ _).setCell _ _).setCell _ _=wf at HY HQ9 HR9 HI9 HC9 HO9 ⊢
 repeat refine pO ?_
 refine Zd5 ?_
 have n3b:(op == 3)=false:=by simpa using n3
 have x0:=HI9.out.cell 0 (v:=.int .i64 op) rfl
 have y0:=HY.out.cell 0 (v:=.slice clo l.length clc) rfl
 have y1:=HY.out.cell 1 (v:=.slice oo rs.length oc) rfl
 have y2:=HY.out.cell 2 (v:=.int .i64 o) rfl
 have r0:=HR9.out.cell 0 (v:=.slice none 0 0) rfl
 have r1:=HR9.out.cell 1 (v:=.slice none 0 0) rfl
 have r2:=HR9.out.cell 2 (v:=.int .i64 0) rfl
 have f0:=HR9.out.frozen 0
 have f1:=HR9.out.frozen 1
 have f2:=HR9.out.frozen 2
 have rl:=HR9.out.lt
 go_wp2
 all_goals
  have hSw:=HSw.out
  have hZ:=((HR9.out.set 0 (.slice clo l.length clc)).set 1 (.slice oo rs.length oc)).set 2 (.int .i64 o)
  have hU2:=(((Upd.refl (SB+1) (SB+1) wf).set 0 (.slice clo l.length clc)).set 1 (.slice oo rs.length oc)).set 2 (.int .i64 o)
  have hQ10:=ZcW (j:=2) (ZcW (j:=1) (ZcW (j:=0) HQ9.out (b:=SB+1) (by omega) (.slice clo l.length clc)) (b:=SB+1) (by omega) (.slice oo rs.length oc)) (b:=SB+1) (by omega) (.int .i64 o)
  have HC10:=Zh (Zm8 HC9.out hU2 HClr.out)
  have HO10:=Zh (Zm8 HO9.out hU2 HOsr.out)
  have HZ9:=Zh hZ
  have HQ10:=Zh hQ10
  clear hZ hU2 hQ10 r0 r1 r2 f0 f1 f2 rl x0 y0 y1 y2 hSw
  generalize ((wf.setCell _ _).setCell _ _).setCell _ _=wg at HZ9 HQ10 HC10 HO10 ⊢
  have z0:=HZ9.out.cell 0 (v:=.slice clo l.length clc) rfl
  have z1:=HZ9.out.cell 1 (v:=.slice oo rs.length oc) rfl
  have z2:=HZ9.out.cell 2 (v:=.int .i64 o) rfl
  exact bodyPost_ret (v:=.agg #[.slice clo l.length clc,.slice oo rs.length oc,.int .i64 o]) (by simp [results,Tryz.results130,go_sem,z0,z1,z2]) rfl ⟨⟨clo,clc,oo,oc,rfl,⟨HC10.out,HO10.out,HCl.out.2,HOs.out.2⟩,HClf.out,HOsf.out⟩,HQ10.out⟩):p:=h
theorem j6{p:Prop}(h:p:=by
 refine hK _ _ ⟨⟨HSb.out.cell 0 rfl,HSb.out.cell 1 rfl,HSb.out.cell 2 rfl,trivial⟩,?_⟩
 clear hK Kv hb hown
 repeat refine pO ?_
 refine oO fun Kv hK=>?_
 go_simp
 obtain ⟨D,hD⟩:∃ D,D=wc.heap.size:=⟨_,rfl⟩
 obtain ⟨wn,hwn⟩:∃ wn,wn=wc.alloc (.cells #[.slice so (s.length-t) sc,.slice po pv.length pc] 39):=⟨_,rfl⟩
 have hb:Below wc.heap.size wc wn:=by rw [hwn];exact bE
 have hown:ZmB wn (some ⟨D,0,none⟩) 2 [⟨so,s.length-t,sc⟩,⟨po,pv.length,pc⟩] [s.take (s.length-t),pv]:=ZnD (by rw [hwn];exact Blk.new' _ _ hD) (ZnC (HS.out.s.old (Zaf HQ.out hb)) _ (by omega)) (by rw [List.length_take];omega) (HPr.out.old hb)
 rw [←hD,←hwn]
 clear hD hwn HPr
 rename World=>wc
 have HRb0:=HRb
 have HQ0:=HQ
 have HQ:=Zh (Zaf HQ.out hb)
 have HSb:=Zh (HSb.out.old hb)
 have HRb:=Zh (HRb.out.old hb)
 have HIb:=Zh (HIb.out.old hb)
 have HOb0:=HOb
 have HCl:=Zh (And.intro (HCl.out.1.old hb) HCl.out.2)
 have HClt:=Zh (fun a ha=>Nat.lt_of_lt_of_le (HClt.out a ha) hb.size)
 have HOb:=Zh (HOb.out.old hb)
 have HSl:=Zh hown
 exact j0):p:=h
theorem j10{p:Prop}(h:p:=by
 refine hK _ _ ⟨⟨HSb.out.cell 0 rfl,HSb.out.cell 1 rfl,HSb.out.cell 2 rfl,trivial⟩,?_⟩
 clear hK Kv hb hown
 repeat refine pO ?_
 refine oO fun Kv hK=>?_
 go_simp
 refine (HPu.out _ HQ.out _ _ _).mono ?_
 rintro e wc ⟨⟨po,pc,rfl,hown,-⟩,hb⟩
 have HRb0:=HRb
 have HQ0:=HQ
 have HQ:=Zh (Zaf HQ.out hb)
 have HSb:=Zh (HSb.out.old hb)
 have HRb:=Zh (HRb.out.old hb)
 have HIb:=Zh (HIb.out.old hb)
 have HOb0:=HOb
 have HCl:=Zh (And.intro (HCl.out.1.old hb) HCl.out.2)
 have HClt:=Zh (fun a ha=>Nat.lt_of_lt_of_le (HClt.out a ha) hb.size)
 have HOb:=Zh (HOb.out.old hb)
 have HPr:=Zh hown
 exact j6):p:=h
section
open Go.RowKit
attribute [local go_sem] World.cell?_alloc_some
theorem Zny (W:World) (ao:Option Addr) (cap:Nat) (l:List Rg) (h:Zar W ao cap l) (hl:l.length≤1000000) :
    Calls Tryz.prog 68 #[.slice ao l.length cap] W (Zfg 44 W l):=by
 cases ao with
 | none=>
   have hlz:l.length=0:=(h.2.1 rfl).1
   have hcz:cap=0:=(h.2.1 rfl).2
   have hl0:l=[]:=by cases l with|nil=>rfl|cons x r=>simp at hlz
   subst hl0
   subst hcz
   clear h
   have hnil:=fun w=>Lib.run_eql_slice_nil (P:=Tryz.prog) w 39 44 none 0 0 0 0 Tryz.underlying39
   simp only [List.length_nil] at *
   go_enter Tryz.func68,Tryz.ntmps68
   go_wp2
   go_ret
   exact ⟨⟨none,0,rfl,⟨rfl,.inl ⟨rfl,rfl⟩⟩⟩,Below.refl _ _⟩
 | some a=>
   have HH:=Zh h
   clear h
   have HO:=Zh (World.ownsRow_made (e:=44) (size:=2) W #[] 0 (Nat.le_refl _) (by decide) rfl)
   have hnil:=fun w=>Lib.run_eql_slice_nil (P:=Tryz.prog) w 39 44 (some a) l.length cap 0 0 Tryz.underlying39
   go_enter Tryz.func68,Tryz.ntmps68
   go_wp2_with (first
     | (at_builtin;refine Zaj rfl (.tmp 5) (.tmp 6) 39 rfl W.heap.size 44 2 16 Zmo (.slice (some ⟨W.heap.size,0,none⟩) 0 0) 0 [] rfl HO.out (some a) l.length cap (Zak l) rfl (SlA.alloc (w:=W) HH.out _) (Zaq l) (by omega) (by unfold maxLen;omega) (by simp) ?_
        intro ao1 cap1 w1 hown hg
        simp only [Nat.zero_add,List.nil_append] at hown ⊢
        have hb:=((Below.refl W.heap.size W).alloc (Nat.le_refl _) (.cells #[] 44)).grown hg (by simp) (by intro k hk;simp [Value.ownBlock] at hk;omega)
        have HR:=Zh (And.intro hown hb)
        clear hown hg hb))
   go_ret
   exact ⟨⟨ao1,cap1,rfl,HR.out.1⟩,HR.out.2⟩
structure Sta where
 l:List Rg
 s:List Rg
 o:Int
structure Znz (w:World) (lo:Option Addr) (lc:Nat) (so:Option Addr) (sc:Nat) (x:Sta):Prop where
 l:Zar w lo lc x.l
 s:Zar w so sc x.s
 lr:x.l.length≤lc
 sr:x.s.length≤sc
theorem Znz.old {w w':World}{lo so:Option Addr}{lc sc:Nat}{x:Sta} (H:Znz w lo lc so sc x) (hb:Below w.heap.size w w'):Znz w' lo lc so sc x:=⟨H.l.old hb,H.s.old hb,H.lr,H.sr⟩
theorem Znz.keeps {w w':World}{lo so:Option Addr}{lc sc:Nat}{x:Sta} (H:Znz w lo lc so sc x) (hb:ZmV w w'):Znz w' lo lc so sc x:=⟨ZmW H.l hb,ZmW H.s hb,H.lr,H.sr⟩
def ZnA (w:World) (x:Sta):Ending→World→Prop:=fun e w'=>(∃ lo lc so sc,e=.returned (.agg #[.slice lo x.l.length lc,.slice so x.s.length sc,.int .i64 x.o])∧Znz w' lo lc so sc x∧Lie (fun b=>w.heap.size≤b) lo∧Lie (fun b=>w.heap.size≤b) so)∧Below w.heap.size w w'
theorem ZnB {w:World}{base:Nat}{e:TypeId}{size n cap:Nat}{ao:Option Addr}{xs:List Value} (h:w.ownsRow base e size (.slice ao n cap) n xs):n≤cap:=by
 rcases h.2 with ⟨hv,hn⟩|⟨g,c,cur,hv,_,_,hle,_⟩
 ·omega
 ·rw [(Value.slice.inj hv).2.2];exact hle
theorem ZnC {α:Type} [Cells α] {w:World}{ao:Option Addr}{cap:Nat}{L:List α} (h:Zar w ao cap L) (n:Nat) (hn:n≤L.length):Zar w ao cap (L.take n):=by
 have he:Zak L=Zak (L.take n)++Zak (L.drop n):=by rw [←Zan,List.take_append_drop]
 refine ⟨Zam _,fun hz=>?_,fun j u hu=>?_⟩
 ·obtain ⟨h1,h2⟩:=h.2.1 hz
  exact ⟨by simp;omega,h2⟩
 ·exact h.2.2 j u (by rw [he,List.getElem?_append_left (List.getElem?_eq_some_iff.1 hu).1];exact hu)
theorem ZnD {w:World}{D:Nat}{ao bo:Option Addr}{an ac bc:Nat}{x y:List Rg} (hb:Blk w D #[.slice ao an ac,.slice bo y.length bc] 39) (h1:Zar w ao ac x) (hx:an=x.length) (h2:Zar w bo bc y):ZmB w (some ⟨D,0,none⟩) 2 [⟨ao,an,ac⟩,⟨bo,y.length,bc⟩] [x,y]:=by
 refine ⟨?_,rfl,fun i hi=>?_⟩
 ·exact ZdL (w:=w) (b:=D) (xs:=#[.slice ao an ac,.slice bo y.length bc]) (t:=39) hb (n:=2) (size:=1) rfl
 ·have hi3:i=0∨i=1:=by simp at hi;omega
  rcases hi3 with rfl|rfl
  ·exact ⟨hx,h1⟩
  ·exact ⟨rfl,h2⟩
theorem ZnE (A:Nat) (MP:Addr) (ko:Option Addr) (kc:Nat) (c:List In3) (p:Nat) (w:World) (H:AnC w A MP ko kc c) (hp:p<c.length) (n32:¬ (c.getD p default).op=32) (n35:¬ (c.getD p default).op=35) (n3:¬ (c.getD p default).op=3)
  (l s:List Rg) (o:Int) (lo so:Option Addr) (lc sc:Nat) (HS0:Znz w lo lc so sc ⟨l,s,o⟩) (hll:l.length≤1000000) (hsl:s.length≤1000) (t:Nat) (ht:t≤s.length) (pv:List Rg) (hpv:pv.length≤10)
  (hT:∀ w',Calls Tryz.prog 194 #[.pointer (some ⟨A,0,none⟩),.agg #[.int .i64 (c.getD p default).op,.int .i64 (c.getD p default).a,.int .i64 (c.getD p default).b]] w' (Ret w' (.int .i64 t)))
  (hP:∀ w',Below w.heap.size w w'→∀ to' tn tc,Calls Tryz.prog 196 #[.pointer (some ⟨A,0,none⟩),.int .i64 p,.agg #[.slice lo l.length lc,.slice so s.length sc,.int .i64 o],.slice to' tn tc] w' (ZdF w' pv)) :
  Calls Tryz.prog 130 #[.pointer (some ⟨A,0,none⟩),.int .i64 p,.agg #[.slice lo l.length lc,.slice so s.length sc,.int .i64 o]] w (ZnA w ⟨l,s.take (s.length-t)++pv,o⟩):=by
 have hp2:(p:Int) < c.length:=by omega
 obtain ⟨rs,hrs⟩:∃ rs,rs=s.take (s.length-t)++pv:=⟨_,rfl⟩
 rw [←hrs]
 have HRs:=Zh hrs
 clear hrs
 have HS:=Zh HS0
 have HPu:=Zh hP
 have HT:=Zh hT
 have HA:=Zh H
 obtain ⟨i,hi⟩:∃ i,i=c.getD p default:=⟨_,rfl⟩
 rw [←hi] at n32 n35 n3 HT
 have HI:=Zh hi
 obtain ⟨op,ia,ib⟩:=i
 dsimp only at n32 n35 n3 HT
 have hsr:=HS0.sr
 dsimp only at hsr
 obtain ⟨SB,hSB⟩:∃ SB,SB=w.heap.size:=⟨_,rfl⟩
 obtain ⟨w0,hw0⟩:∃ w0,w0=(w.alloc (.cells #[.slice lo l.length lc,.slice so s.length sc,.int .i64 o] 86)).alloc (.cells #[.slice none 0 0,.slice none 0 0,.int .i64 0] 86):=⟨_,rfl⟩
 have hb0:Below w.heap.size w w0:=by rw [hw0];exact bE
 have hs0:Blk w0 SB #[.slice lo l.length lc,.slice so s.length sc,.int .i64 o] 86:=by rw [hw0,hSB];exact (Blk.new w _ _).alloc _
 have hr0:Blk w0 (SB+1) #[.slice none 0 0,.slice none 0 0,.int .i64 0] 86:=by rw [hw0];exact Blk.new' _ _ (by simp [hSB])
 have hz0:w0.heap.size=SB+1+1:=by rw [hw0];simp [hSB]
 have HW:=Zh (And.intro hSB hw0)
 have HB0:=Zh hb0
 have HS2:=Zh hs0
 have HR2:=Zh hr0
 have a4:=(ZmV.of hb0) _ _ H.a4
 have e6:=(ZmV.of hb0) _ _ H.e6
 obtain ⟨ad,hko,o0,o1,o2⟩:=ZaA (H.k.old hb0) hp
 rw [←HI.out] at o0 o1 o2
 dsimp only at o0 o1 o2
 rw [hko] at e6
 have hl4:=Zac a4
 have hl0:=Zac o0
 have HZ:=Zh hz0
 clear H HS0 hT hP hi hSB hw0 hb0 hs0 hr0 hko hz0
 go_enter Tryz.func130,Tryz.ntmps130
 go_upto_region 1 with fail
 rw [←HW.out.1,←HW.out.2]
 go_upto_region 2 with fail
 obtain ⟨w1,hw1⟩:∃ w1,w1=w0.alloc (.cells #[.int .i64 op,.int .i64 ia,.int .i64 ib] 78):=⟨_,rfl⟩
 have hb1:Below w0.heap.size w0 w1:=by rw [hw1];exact bE
 have hi1:Blk w1 (SB+1+1) #[.int .i64 op,.int .i64 ia,.int .i64 ib] 78:=by rw [hw1];exact Blk.new' _ _ HZ.out.symm
 rw [←hw1,HZ.out]
 have HB1:=Zh (Zaf HB0.out hb1)
 have HS3:=Zh (HS2.out.old hb1)
 have HR3:=Zh (HR2.out.old hb1)
 have HI3:=Zh hi1
 clear hw1 hb1 hi1 a4 e6 o0 o1 o2 hl4 hl0 HZ
 have x0:=HI3.out.cell 0 (v:=.int .i64 op) rfl
 have s1:=HS3.out.cell 1 (v:=.slice so s.length sc) rfl
 have x1:=HI3.out.cell 1 (v:=.int .i64 ia) rfl
 have x2:=HI3.out.cell 2 (v:=.int .i64 ib) rfl
 go_upto_region 11 with fail
 refine rO (Cs [(⟨SB,1,none⟩,.slice so s.length sc),(⟨SB+1+1,0,none⟩,.int .i64 op),(⟨SB+1+1,1,none⟩,.int .i64 ia),(⟨SB+1+1,2,none⟩,.int .i64 ib)]) (oL [0,1,2,3,4,105,6,7]) ⟨s1,x0,x1,x2,trivial⟩ ?_
 repeat refine pO ?_
 refine oO fun Kv hK=>?_
 go_simp
 refine (HT.out _).mono ?_
 rintro e w2 ⟨rfl,hb2⟩
 have HB2:=Zh (Zaf HB1.out.drew hb2)
 have HS4:=Zh (HS3.out.drew.old hb2)
 have HR4:=Zh (HR3.out.drew.old hb2)
 have HI4:=Zh (HI3.out.drew.old hb2)
 refine hK _ _ ⟨⟨HS4.out.cell 1 rfl,HI4.out.cell 0 rfl,HI4.out.cell 1 rfl,HI4.out.cell 2 rfl,trivial⟩,?_⟩
 clear hK Kv hb2 s1 x0 x1 x2
 have hwt:IntKind.i64.wrap ((s.length:Int)-t)=((s.length-t:Nat):Int):=by rw [show (s.length:Int)-t=((s.length-t:Nat):Int) by omega];exact IntWalk.i64_in _ (by omega)
 repeat refine pO ?_
 refine Zd5 ?_
 have s0:=HS4.out.cell 0 (v:=.slice lo l.length lc) rfl
 have s1:=HS4.out.cell 1 (v:=.slice so s.length sc) rfl
 have s2:=HS4.out.cell 2 (v:=.int .i64 o) rfl
 have hle1:s.length-t≤s.length:=by omega
 have hle2:s.length-t≤sc:=by omega
 go_upto_region 13 with fail
 have HQ:=Zh HB2.out.drew
 have HSb:=Zh HS4.out.drew
 have HRb:=Zh HR4.out.drew
 have HIb:=Zh HI4.out.drew
 refine rO (Cs [(⟨SB,0,none⟩,.slice lo l.length lc),(⟨SB,1,none⟩,.slice so s.length sc),(⟨SB,2,none⟩,.int .i64 o)]) (.plain 0 (.plain 1 (.plain 3 (.plain 4 (.plain 5 (.plain 6 (.plain 7 (.plain 8 (.plain 9 (.plain 10 (.plain 14 (.plain 15 (.two 2 17 (.two 11 17 (.two 12 17 (.two 13 17 (oL [16,117,118]) (oL [113,16,118])) (oL [112,113,16,118])) (oL [111,112,113,16,118])) (oL [102,111,112,113,16,118])))))))))))))) ⟨s0,s1,s2,trivial⟩ ?_
 clear s0 s1 s2 HB2 HS4 HR4 HI4
 generalize w2.drew=wc at HQ HSb HRb HIb ⊢
 repeat refine pO ?_
 refine Zd4 ?_ ?_
 ·refine Zd2 _ (by rfl) (by rfl) fun Kv hK=>?_
  go_simp
  refine (Zny _ lo lc l (HS.out.l.old HQ.out) hll).mono ?_
  rintro e wc ⟨⟨clo,clc,rfl,hown⟩,hb⟩
  have HRb0:=HRb
  have HQ0:=HQ
  have HQ:=Zh (Zaf HQ.out hb)
  have HSb:=Zh (HSb.out.old hb)
  have HRb:=Zh (HRb.out.old hb)
  have HIb:=Zh (HIb.out.old hb)
  have HCl:=Zh (And.intro (Zar.of_own hown) (ZnB hown))
  have HClt:=Zh (show ∀ a,clo=some a→a.block<wc.heap.size from fun a ha=>(hown.lt a.block (by rw [ha];rfl)).2)
  have HClr:=Zh (show Lie (·≠SB+1) clo from fun a ha=>by have h1:=(hown.lt a.block (by rw [ha];rfl)).1;have h2:=HRb0.out.lt;show a.block≠SB+1;omega)
  have HClf:=Zh (show Lie (fun b=>w.heap.size≤b) clo from fun a ha=>by have h1:=(hown.lt a.block (by rw [ha];rfl)).1;have h2:=HQ0.out.size;show w.heap.size≤a.block;omega)
  refine hK _ _ ⟨⟨HSb.out.cell 0 rfl,HSb.out.cell 1 rfl,HSb.out.cell 2 rfl,trivial⟩,?_⟩
  clear hK Kv hb hown
  repeat refine pO ?_
  refine Zd4 ?_ ?_
  ·refine Zd2 _ (by rfl) (by rfl) fun Kv hK=>?_
   go_simp
   refine (HPu.out _ HQ.out _ _ _).mono ?_
   rintro e wc ⟨⟨po,pc,rfl,hown,-⟩,hb⟩
   have HRb0:=HRb
   have HQ0:=HQ
   have HQ:=Zh (Zaf HQ.out hb)
   have HSb:=Zh (HSb.out.old hb)
   have HRb:=Zh (HRb.out.old hb)
   have HIb:=Zh (HIb.out.old hb)
   have HCl:=Zh (And.intro (HCl.out.1.old hb) HCl.out.2)
   have HClt:=Zh (fun a ha=>Nat.lt_of_lt_of_le (HClt.out a ha) hb.size)
   have HPr:=Zh hown
   refine hK _ _ ⟨⟨HSb.out.cell 0 rfl,HSb.out.cell 1 rfl,HSb.out.cell 2 rfl,trivial⟩,?_⟩
   clear hK Kv hb hown
   repeat refine pO ?_
   refine Zd4 ?_ ?_
   ·refine Zd2 _ (by rfl) (by rfl) fun Kv hK=>?_
    go_simp
    obtain ⟨D,hD⟩:∃ D,D=wc.heap.size:=⟨_,rfl⟩
    obtain ⟨wn,hwn⟩:∃ wn,wn=wc.alloc (.cells #[.slice so (s.length-t) sc,.slice po pv.length pc] 39):=⟨_,rfl⟩
    have hb:Below wc.heap.size wc wn:=by rw [hwn];exact bE
    have hown:ZmB wn (some ⟨D,0,none⟩) 2 [⟨so,s.length-t,sc⟩,⟨po,pv.length,pc⟩] [s.take (s.length-t),pv]:=ZnD (by rw [hwn];exact Blk.new' _ _ hD) (ZnC (HS.out.s.old (Zaf HQ.out hb)) _ (by omega)) (by rw [List.length_take];omega) (HPr.out.old hb)
    rw [←hD,←hwn]
    clear hD hwn HPr
    rename World=>wc
    have HRb0:=HRb
    have HQ0:=HQ
    have HQ:=Zh (Zaf HQ.out hb)
    have HSb:=Zh (HSb.out.old hb)
    have HRb:=Zh (HRb.out.old hb)
    have HIb:=Zh (HIb.out.old hb)
    have HCl:=Zh (And.intro (HCl.out.1.old hb) HCl.out.2)
    have HClt:=Zh (fun a ha=>Nat.lt_of_lt_of_le (HClt.out a ha) hb.size)
    have HSl:=Zh hown
    refine hK _ _ ⟨⟨HSb.out.cell 0 rfl,HSb.out.cell 1 rfl,HSb.out.cell 2 rfl,trivial⟩,?_⟩
    clear hK Kv hb hown
    repeat refine pO ?_
    refine Zd4 ?_ ?_
    ·refine Zd2 _ (by rfl) (by rfl) fun Kv hK=>?_
     go_simp
     have HCc:=ZmG _ (some ⟨D,0,none⟩) 2 2 _ _ HSl.out rfl (by decide) (by simp;omega)
     rw [show [s.take (s.length-t),pv].flatten=rs by rw [HRs.out];simp] at HCc
     refine HCc.mono ?_
     clear HCc
     rintro e wc ⟨⟨oo,oc,rfl,hown⟩,hb⟩
     have HRb0:=HRb
     have HQ0:=HQ
     have HQ:=Zh (Zaf HQ.out hb)
     have HSb:=Zh (HSb.out.old hb)
     have HRb:=Zh (HRb.out.old hb)
     have HIb:=Zh (HIb.out.old hb)
     have HCl:=Zh (And.intro (HCl.out.1.old hb) HCl.out.2)
     have HClt:=Zh (fun a ha=>Nat.lt_of_lt_of_le (HClt.out a ha) hb.size)
     have HSl:=Zh (HSl.out.old hb)
     have HOs:=Zh (And.intro (Zar.of_own hown) (ZnB hown))
     have HOst:=Zh (show ∀ a,oo=some a→a.block<wc.heap.size from fun a ha=>(hown.lt a.block (by rw [ha];rfl)).2)
     have HOsr:=Zh (show Lie (·≠SB+1) oo from fun a ha=>by have h1:=(hown.lt a.block (by rw [ha];rfl)).1;have h2:=HRb0.out.lt;show a.block≠SB+1;omega)
     have HOsf:=Zh (show Lie (fun b=>w.heap.size≤b) oo from fun a ha=>by have h1:=(hown.lt a.block (by rw [ha];rfl)).1;have h2:=HQ0.out.size;show w.heap.size≤a.block;omega)
     refine hK _ _ ⟨⟨HSb.out.cell 0 rfl,HSb.out.cell 1 rfl,HSb.out.cell 2 rfl,trivial⟩,?_⟩
     clear hK Kv hb hown
     repeat refine pO ?_
     refine oO fun Kv hK=>?_
     go_simp
     obtain ⟨OB,hOB⟩:∃ D,D=wc.heap.size:=⟨_,rfl⟩
     obtain ⟨wn,hwn⟩:∃ wn,wn=wc.alloc (.cells #[.slice none 0 0,.slice none 0 0,.int .i64 0] 86):=⟨_,rfl⟩
     have hb:Below wc.heap.size wc wn:=by rw [hwn];exact bE
     have hown:Blk wn OB #[.slice none 0 0,.slice none 0 0,.int .i64 0] 86:=by rw [hwn];exact Blk.new' _ _ hOB
     have HOl:=Zh (show SB<OB∧SB+1<OB∧SB+1+1<OB by rw [hOB];exact ⟨HSb.out.lt,HRb.out.lt,HIb.out.lt⟩)
     have HCln:=Zh (show Lie (·≠OB) clo from fun a ha=>by have h1:=HClt.out a ha;show a.block≠OB;omega)
     have HOsn:=Zh (show Lie (·≠OB) oo from fun a ha=>by have h1:=HOst.out a ha;show a.block≠OB;omega)
     rw [←hOB,←hwn]
     clear hOB hwn
     rename World=>wc
     have HRb0:=HRb
     have HQ0:=HQ
     have HQ:=Zh (Zaf HQ.out hb)
     have HSb:=Zh (HSb.out.old hb)
     have HRb:=Zh (HRb.out.old hb)
     have HIb:=Zh (HIb.out.old hb)
     have HCl:=Zh (And.intro (HCl.out.1.old hb) HCl.out.2)
     have HClt:=Zh (fun a ha=>Nat.lt_of_lt_of_le (HClt.out a ha) hb.size)
     have HOs:=Zh (And.intro (HOs.out.1.old hb) HOs.out.2)
     have HOst:=Zh (fun a ha=>Nat.lt_of_lt_of_le (HOst.out a ha) hb.size)
     have HOb:=Zh hown
     exact j2
    ·refine Zd2 _ (by rfl) (by rfl) fun Kv hK=>?_
     go_simp
     obtain ⟨OB,hOB⟩:∃ D,D=wc.heap.size:=⟨_,rfl⟩
     obtain ⟨wn,hwn⟩:∃ wn,wn=wc.alloc (.cells #[.slice none 0 0,.slice none 0 0,.int .i64 0] 86):=⟨_,rfl⟩
     have hb:Below wc.heap.size wc wn:=by rw [hwn];exact bE
     have hown:Blk wn OB #[.slice none 0 0,.slice none 0 0,.int .i64 0] 86:=by rw [hwn];exact Blk.new' _ _ hOB
     have HOl:=Zh (show SB<OB∧SB+1<OB∧SB+1+1<OB by rw [hOB];exact ⟨HSb.out.lt,HRb.out.lt,HIb.out.lt⟩)
     have HCln:=Zh (show Lie (·≠OB) clo from fun a ha=>by have h1:=HClt.out a ha;show a.block≠OB;omega)
     rw [←hOB,←hwn]
     clear hOB hwn
     rename World=>wc
     have HRb0:=HRb
     have HQ0:=HQ
     have HQ:=Zh (Zaf HQ.out hb)
     have HSb:=Zh (HSb.out.old hb)
     have HRb:=Zh (HRb.out.old hb)
     have HIb:=Zh (HIb.out.old hb)
     have HCl:=Zh (And.intro (HCl.out.1.old hb) HCl.out.2)
     have HClt:=Zh (fun a ha=>Nat.lt_of_lt_of_le (HClt.out a ha) hb.size)
     have HSl:=Zh (HSl.out.old hb)
     have HOb:=Zh hown
     exact j0
   ·refine Zd2 _ (by rfl) (by rfl) fun Kv hK=>?_
    go_simp
    obtain ⟨OB,hOB⟩:∃ D,D=wc.heap.size:=⟨_,rfl⟩
    obtain ⟨wn,hwn⟩:∃ wn,wn=wc.alloc (.cells #[.slice none 0 0,.slice none 0 0,.int .i64 0] 86):=⟨_,rfl⟩
    have hb:Below wc.heap.size wc wn:=by rw [hwn];exact bE
    have hown:Blk wn OB #[.slice none 0 0,.slice none 0 0,.int .i64 0] 86:=by rw [hwn];exact Blk.new' _ _ hOB
    have HOl:=Zh (show SB<OB∧SB+1<OB∧SB+1+1<OB by rw [hOB];exact ⟨HSb.out.lt,HRb.out.lt,HIb.out.lt⟩)
    have HCln:=Zh (show Lie (·≠OB) clo from fun a ha=>by have h1:=HClt.out a ha;show a.block≠OB;omega)
    rw [←hOB,←hwn]
    clear hOB hwn
    rename World=>wc
    have HRb0:=HRb
    have HQ0:=HQ
    have HQ:=Zh (Zaf HQ.out hb)
    have HSb:=Zh (HSb.out.old hb)
    have HRb:=Zh (HRb.out.old hb)
    have HIb:=Zh (HIb.out.old hb)
    have HCl:=Zh (And.intro (HCl.out.1.old hb) HCl.out.2)
    have HClt:=Zh (fun a ha=>Nat.lt_of_lt_of_le (HClt.out a ha) hb.size)
    have HPr:=Zh (HPr.out.old hb)
    have HOb:=Zh hown
    exact j6
  ·refine Zd2 _ (by rfl) (by rfl) fun Kv hK=>?_
   go_simp
   obtain ⟨OB,hOB⟩:∃ D,D=wc.heap.size:=⟨_,rfl⟩
   obtain ⟨wn,hwn⟩:∃ wn,wn=wc.alloc (.cells #[.slice none 0 0,.slice none 0 0,.int .i64 0] 86):=⟨_,rfl⟩
   have hb:Below wc.heap.size wc wn:=by rw [hwn];exact bE
   have hown:Blk wn OB #[.slice none 0 0,.slice none 0 0,.int .i64 0] 86:=by rw [hwn];exact Blk.new' _ _ hOB
   have HOl:=Zh (show SB<OB∧SB+1<OB∧SB+1+1<OB by rw [hOB];exact ⟨HSb.out.lt,HRb.out.lt,HIb.out.lt⟩)
   have HCln:=Zh (show Lie (·≠OB) clo from fun a ha=>by have h1:=HClt.out a ha;show a.block≠OB;omega)
   rw [←hOB,←hwn]
   clear hOB hwn
   rename World=>wc
   have HRb0:=HRb
   have HQ0:=HQ
   have HQ:=Zh (Zaf HQ.out hb)
   have HSb:=Zh (HSb.out.old hb)
   have HRb:=Zh (HRb.out.old hb)
   have HIb:=Zh (HIb.out.old hb)
   have HCl:=Zh (And.intro (HCl.out.1.old hb) HCl.out.2)
   have HClt:=Zh (fun a ha=>Nat.lt_of_lt_of_le (HClt.out a ha) hb.size)
   have HOb:=Zh hown
   exact j10
 ·refine Zd2 _ (by rfl) (by rfl) fun Kv hK=>?_
  go_simp
  obtain ⟨OB,hOB⟩:∃ D,D=wc.heap.size:=⟨_,rfl⟩
  obtain ⟨wn,hwn⟩:∃ wn,wn=wc.alloc (.cells #[.slice none 0 0,.slice none 0 0,.int .i64 0] 86):=⟨_,rfl⟩
  have hb:Below wc.heap.size wc wn:=by rw [hwn];exact bE
  have hown:Blk wn OB #[.slice none 0 0,.slice none 0 0,.int .i64 0] 86:=by rw [hwn];exact Blk.new' _ _ hOB
  have HOl:=Zh (show SB<OB∧SB+1<OB∧SB+1+1<OB by rw [hOB];exact ⟨HSb.out.lt,HRb.out.lt,HIb.out.lt⟩)
  rw [←hOB,←hwn]
  clear hOB hwn
  rename World=>wc
  have HRb0:=HRb
  have HQ0:=HQ
  have HQ:=Zh (Zaf HQ.out hb)
  have HSb:=Zh (HSb.out.old hb)
  have HRb:=Zh (HRb.out.old hb)
  have HIb:=Zh (HIb.out.old hb)
  have HOb:=Zh hown
  refine hK _ _ ⟨⟨HSb.out.cell 0 rfl,HSb.out.cell 1 rfl,HSb.out.cell 2 rfl,trivial⟩,?_⟩
  clear hK Kv hb hown
  repeat refine pO ?_
  refine oO fun Kv hK=>?_
  go_simp
  refine (Zny _ lo lc l (HS.out.l.old HQ.out) hll).mono ?_
  rintro e wc ⟨⟨clo,clc,rfl,hown⟩,hb⟩
  have HRb0:=HRb
  have HQ0:=HQ
  have HQ:=Zh (Zaf HQ.out hb)
  have HSb:=Zh (HSb.out.old hb)
  have HRb:=Zh (HRb.out.old hb)
  have HIb:=Zh (HIb.out.old hb)
  have HOb0:=HOb
  have HOb:=Zh (HOb.out.old hb)
  have HCl:=Zh (And.intro (Zar.of_own hown) (ZnB hown))
  have HClt:=Zh (show ∀ a,clo=some a→a.block<wc.heap.size from fun a ha=>(hown.lt a.block (by rw [ha];rfl)).2)
  have HClr:=Zh (show Lie (·≠SB+1) clo from fun a ha=>by have h1:=(hown.lt a.block (by rw [ha];rfl)).1;have h2:=HRb0.out.lt;show a.block≠SB+1;omega)
  have HClf:=Zh (show Lie (fun b=>w.heap.size≤b) clo from fun a ha=>by have h1:=(hown.lt a.block (by rw [ha];rfl)).1;have h2:=HQ0.out.size;show w.heap.size≤a.block;omega)
  have HCln:=Zh (show Lie (·≠OB) clo from fun a ha=>by have h1:=(hown.lt a.block (by rw [ha];rfl)).1;have h2:=HOb0.out.lt;show a.block≠OB;omega)
  exact j10
end
end Go.Proofs.YtcfjblcgceednaaGreat
