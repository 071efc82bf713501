/- Joined texts. The first: ref06: what an instruction pushes, all operations. -/
import Derived.Test.YtfkbfjhocmbneaaGreatG9
import Derived.Test.YtfkbfjhocmbneaaGreatG11
import Derived.Test.YtfkbfjhocmbneaaGreatG12
import Derived.Test.YtfkbfjhocmbneaaGreatG14
import Derived.Test.YtfkbfjhocmbneaaGreatG10
set_option linter.all false
set_option linter.unusedVariables false
set_option linter.unusedSimpArgs false
set_option maxRecDepth 100000
set_option maxHeartbeats 10000000
namespace Go.Proofs.YtfkbfjhocmbneaaGreat
theorem k31{p:Prop}(h:p:=by
 by_cases q:a=tInt
 ·exact p_6y H HM hd ht (by decide) hr q
 ·exact p_6n H HM hd ht (by decide) hr q):p:=h
theorem k33{p:Prop}(h:p:=by
 by_cases h0:er=0
 ·have HG:=Lib.hid (show modF m (n-(k+1)) (k+1)=q by have:=HFk.out;rwa [if_pos h0] at this)
  subst h0
  go_wp2
  go_roundw
  case rel=>exact ⟨k+1,by omega,by go_num,HB2.out,HG⟩
  case measure=>simp [intOf];omega
 ·have HG:=Lib.hid (show q=(k,pl,er) by have:=HFk.out;rw [if_neg h0] at this;exact this.symm)
  have hn0:(er != 0)=true:=by simpa using h0
  go_wp2
  go_ret3
  rw [HG.out]
  exact ⟨rfl,bthen HB0.out HB2.out⟩):p:=h
theorem k63{p:Prop}(h:p:=by
 have hkn:¬ (k:Int) < n:=by omega
 have HG:=Lib.hid (show q=(0,0,0) by have:=HF.out;rw [show n-k=0 by omega] at this;exact this.symm)
 go_wp2
 go_ret3
 rw [HG.out]
 exact ⟨rfl,bthen HB0.out HL.out⟩):p:=h
theorem k64{p:Prop}(h:p:=by
 go_wp2_with (go_at_call 237;refine (HBs.out _ (bthen HB1.out HB2.out)).mono ?_;rintro r w3 ⟨rfl,hb3⟩)
 go_ret
 exact no6_end hn1 hn2 he (by decide) (Upd.of (bthen HB1.out (bthen HB2.out hb3)))):p:=h
section
open Go.RowKit
theorem p_1 {w:World}{K:Nat}{m:Md}{ls:List Ty}{ia ib:Int}{la:Option Addr}{lcap:Nat} :
  Calls Tryz.prog 238 #[.pointer (some ⟨K,0,none⟩),.agg #[.int .i64 1,.int .i64 ia,.int .i64 ib],.slice la 0 lcap] w (RetP w (pushV m ls ⟨1,ia,ib⟩ [])):=by
 have hbr:Blk ((w.alloc (.cells #[.int .i64 1,.int .i64 ia,.int .i64 ib] 42)).alloc (.cells #[.int .i64 0,.int .i64 0] 35)) (w.heap.size+1) #[.int .i64 0,.int .i64 0] 35:=Blk.new' (w:=w.alloc (.cells #[.int .i64 1,.int .i64 ia,.int .i64 ib] 42)) _ _ (by simp)
 have HBr:=Lib.hid hbr
 have HB0:=Lib.hid (show Below w.heap.size w ((w.alloc (.cells #[.int .i64 1,.int .i64 ia,.int .i64 ib] 42)).alloc (.cells #[.int .i64 0,.int .i64 0] 35)) by exact bE)
 clear hbr
 have hp:pushV m ls ⟨1,ia,ib⟩ []=some ⟨1,0⟩:=pv1 rfl
 go_enter Tryz.func238,Tryz.ntmps238
 go_wp2_with (go_at_call 253;refine (integer_any _).mono ?_;rintro r w2 ⟨rfl,hb2⟩;have HB2:=Lib.hid hb2;clear hb2;have y0:=(HBr.out.old HB2.out).cell 0 (v:=.int .i64 0) rfl;have y1:=(HBr.out.old HB2.out).cell 1 (v:=.int .i64 0) rfl;have g0:=(HBr.out.old HB2.out).frozen 0;have g1:=(HBr.out.old HB2.out).frozen 1;have hrl:=(HBr.out.old HB2.out).lt)
 refine bodyPost_ret (v:=.tuple #[.agg #[.int .i64 1,.int .i64 0],.bool true]) (by simp [results,Tryz.results238,go_sem,y0,y1]) rfl ?_
 exact retP (by rw [hp];rfl) (fun u hu=>by rw [hp] at hu;exact Option.some.inj hu) (bsetV (bsetV (bthen HB0.out HB2.out) (Nat.le_succ _) _) (Nat.le_succ _) _)
theorem push_via {w:World}{K:Nat}{op ia ib:Int}{la:Option Addr}{n lcap:Nat}{q:Option Ty} (hop:op=17∨op=18∨op=19∨op=20∨op=21∨op=24∨op=25∨op=26)
  (hR:op≠25→op≠26→∀ w',Below w.heap.size w w'→Calls Tryz.prog 254 #[.pointer (some ⟨K,0,none⟩),.agg #[.int .i64 op,.int .i64 ia,.int .i64 ib],.slice la n lcap] w' (RetP w' q))
  (hC:op=25∨op=26→∀ w',Below w.heap.size w w'→Calls Tryz.prog 255 #[.pointer (some ⟨K,0,none⟩),.agg #[.int .i64 op,.int .i64 ia,.int .i64 ib],.slice la n lcap] w' (RetP w' q)) :
  Calls Tryz.prog 238 #[.pointer (some ⟨K,0,none⟩),.agg #[.int .i64 op,.int .i64 ia,.int .i64 ib],.slice la n lcap] w (RetP w q):=by
 have hbr:Blk ((w.alloc (.cells #[.int .i64 op,.int .i64 ia,.int .i64 ib] 42)).alloc (.cells #[.int .i64 0,.int .i64 0] 35)) (w.heap.size+1) #[.int .i64 0,.int .i64 0] 35:=Blk.new' (w:=w.alloc (.cells #[.int .i64 op,.int .i64 ia,.int .i64 ib] 42)) _ _ (by simp)
 have hb0:Below w.heap.size w ((w.alloc (.cells #[.int .i64 op,.int .i64 ia,.int .i64 ib] 42)).alloc (.cells #[.int .i64 0,.int .i64 0] 35)):=by exact bE
 have HR:=Lib.hid hR
 have HC:=Lib.hid hC
 clear hR hC
 rcases hop with rfl|rfl|rfl|rfl|rfl|rfl|rfl|rfl
 all_goals
  have HBr:=Lib.hid hbr
  have HB0:=Lib.hid hb0
  clear hbr hb0
  go_enter Tryz.func238,Tryz.ntmps238
  go_wp2_with (first
   | (go_at_call 254;refine (HR.out (by decide) (by decide) _ HB0.out).mono ?_;rintro r w2 ⟨t,rfl,ht,hb2⟩;obtain ⟨tk,tc⟩:=t;have HT:=Lib.hid ht;have HB2:=Lib.hid hb2;clear ht hb2;have y0:=(HBr.out.old HB2.out).cell 0 (v:=.int .i64 0) rfl;have y1:=(HBr.out.old HB2.out).cell 1 (v:=.int .i64 0) rfl;have g0:=(HBr.out.old HB2.out).frozen 0;have g1:=(HBr.out.old HB2.out).frozen 1;have hrl:=(HBr.out.old HB2.out).lt)
   | (go_at_call 255;refine (HC.out (by decide) _ HB0.out).mono ?_;rintro r w2 ⟨t,rfl,ht,hb2⟩;obtain ⟨tk,tc⟩:=t;have HT:=Lib.hid ht;have HB2:=Lib.hid hb2;clear ht hb2;have y0:=(HBr.out.old HB2.out).cell 0 (v:=.int .i64 0) rfl;have y1:=(HBr.out.old HB2.out).cell 1 (v:=.int .i64 0) rfl;have g0:=(HBr.out.old HB2.out).frozen 0;have g1:=(HBr.out.old HB2.out).frozen 1;have hrl:=(HBr.out.old HB2.out).lt))
  refine bodyPost_ret (v:=.tuple #[.agg #[.int .i64 tk,.int .i64 tc],.bool q.isSome]) (by simp [results,Tryz.results238,go_sem,y0,y1]) rfl ?_
  exact retP rfl (fun u hu=>HT.out u hu) (bsetV (bsetV (bthen HB0.out HB2.out) (Nat.le_succ _) _) (Nat.le_succ _) _)
theorem len_0 {l:List Ty} (h:l.length=0):l=[]:=List.eq_nil_of_length_eq_zero h
theorem len_1 {l:List Ty} (h:l.length=1):∃ a,l=[a]:=List.length_eq_one_iff.1 h
theorem len_2 {l:List Ty} (h:l.length=2):∃ a b,l=[a,b]:=by
 match l,h with
 | [a,b],_=>exact ⟨a,b,rfl⟩
theorem len_3 {l:List Ty} (h:l.length=3):∃ a b c,l=[a,b,c]:=by
 match l,h with
 | [a,b,c],_=>exact ⟨a,b,c,rfl⟩
theorem pushed6_any {w:World}{K:Nat}{h:Hd}{m:Md}{lo:Option Addr}{lc:Nat}{ls:List Ty}{S O:Value} (H:Pk w K h m (.slice lo ls.length lc) S O) (HM:ModAt w h m) (hm:modV m=true) (ht:RowAt w lo lc ls) (hlo:∀ t∈ls,tyOk m t) {k:Nat} (hk:k<m.me.length) {i:In3} (hi:OpdOk m k i) (hop:0≤i.op∧i.op<34) {l:List Ty}{la:Option Addr}{lcap:Nat} (hr:RowAt w la lcap l) (hl:l.length=(cntV m i).1) (hty:∀ t∈l,tyOk m t) :
  Calls Tryz.prog 238 #[.pointer (some ⟨K,0,none⟩),.agg #[.int .i64 i.op,.int .i64 i.a,.int .i64 i.b],.slice la l.length lcap] w (RetP w (pushV m ls i l)):=by
 have hd:Desc m m.cl.length:=desc_of (modV_clsN hm)
 by_cases hc:i.op=25∨i.op=26
 ·exact push_via (by omega) (fun q q2=>absurd hc (by omega)) (fun _ w' hb=>called6_any (H.old hb) (HM.old hb) hm hk hi hc (hr.old hb) hl hty)
 ·have a0:=hi.a0
  have b0:=hi.b0
  have o22:=hi.o22
  have o12:=hi.o12
  have o14:=hi.o14
  have o16:=hi.o16
  clear hi
  obtain ⟨op,ia,ib⟩:=i
  dsimp only at hop hc a0 b0 o22 o12 o14 o16 ⊢
  have cls:op=0∨op=1∨op=2∨op=3∨op=4∨op=5∨op=6∨op=7∨op=8∨op=9∨op=10∨op=11∨op=12∨op=13∨op=14∨op=15∨op=16∨op=17∨op=18∨op=19∨op=20∨op=21∨op=22∨op=23∨op=24∨op=27∨op=28∨op=29∨op=30∨op=31∨op=32∨op=33:=by omega
  rcases cls with rfl|rfl|rfl|rfl|rfl|rfl|rfl|rfl|rfl|rfl|rfl|rfl|rfl|rfl|rfl|rfl|rfl|rfl|rfl|rfl|rfl|rfl|rfl|rfl|rfl|rfl|rfl|rfl|rfl|rfl|rfl|rfl
  all_goals first|(obtain rfl:=len_0 hl)|(obtain ⟨a,rfl⟩:=len_1 hl)|(obtain ⟨a,b,rfl⟩:=len_2 hl)|(obtain ⟨a,b,d,rfl⟩:=len_3 hl)
  ·exact p_0 H HM hd ht hr
  ·exact p_1
  ·by_cases q:ia<ls.length
   ·exact p_2y H HM hd ht hr (a0 (by decide)) q
   ·exact p_2n H HM hd ht hr (a0 (by decide)) q
  ·by_cases q:ia<ls.length
   ·exact p_3y H HM hd ht hr (fun q=>ty_cls (hty a (by simp)) (.inl q)) hlo (a0 (by decide)) q
   ·exact p_3n H HM hd ht hr (a0 (by decide)) q
  ·exact p_4 H HM hd ht hr
  ·exact p_5 H HM hd ht hr
  ·exact k31
  ·exact k31
  ·exact k31
  ·exact k31
  ·exact k31
  ·exact k31
  ·by_cases q:ia=3
   ·exact p_12s H HM hd ht hr q ((o12 rfl).2.1 q)
   ·exact p_12o H HM hd ht hr q
  ·exact p_13 H HM hd ht hr
  ·exact p_14 H HM hd ht hr
  ·exact p_15 H HM hd ht hr
  ·exact p_16 H HM hd ht hr
  ·refine push_via (by decide) (fun _ _ w' hb=>?_) (fun q=>absurd q (by decide))
   have hca:=fun q=>ty_cls (hty a (by simp)) (.inl q)
   by_cases q:a.k=2
   ·by_cases q2:ia<(m.cl.getD a.c.toNat default).f.length
    ·exact r_17c (H.old hb) (HM.old hb) hd (ht.old hb) (hr.old hb) hca q (a0 (by decide)) q2
    ·exact r_17b (H.old hb) (HM.old hb) hd (ht.old hb) (hr.old hb) hca q (a0 (by decide)) q2
   ·exact r_17a (H.old hb) (HM.old hb) hd (ht.old hb) (hr.old hb) q
  ·refine push_via (by decide) (fun _ _ w' hb=>?_) (fun q=>absurd q (by decide))
   have hca:=fun q=>ty_cls (hty a (by simp)) (.inl q)
   by_cases q:a.k=2
   ·by_cases q2:ia<(m.cl.getD a.c.toNat default).f.length
    ·exact r_18c (H.old hb) (HM.old hb) hd (ht.old hb) (hr.old hb) hca (fun q=>ty_cls (hty b (by simp)) (.inl q)) (fields_ty hm (hca q).1 (hca q).2) q (a0 (by decide)) q2
    ·exact r_18b (H.old hb) (HM.old hb) hd (ht.old hb) (hr.old hb) hca q (a0 (by decide)) q2
   ·exact r_18a (H.old hb) (HM.old hb) hd (ht.old hb) (hr.old hb) q
  ·refine push_via (by decide) (fun _ _ w' hb=>?_) (fun q=>absurd q (by decide))
   by_cases q3:a.k=3
   ·by_cases q:b=tInt
    ·exact r_193y (H.old hb) (HM.old hb) hd (ht.old hb) (hr.old hb) q3 q
    ·exact r_193n (H.old hb) (HM.old hb) hd (ht.old hb) (hr.old hb) q3 q
   ·by_cases q4:a.k=4
    ·by_cases q:b=tInt
     ·exact r_194y (H.old hb) (HM.old hb) hd (ht.old hb) (hr.old hb) q4 q
     ·exact r_194n (H.old hb) (HM.old hb) hd (ht.old hb) (hr.old hb) q4 q
    ·exact r_19z (H.old hb) (HM.old hb) hd (ht.old hb) (hr.old hb) q3 q4
  ·refine push_via (by decide) (fun _ _ w' hb=>?_) (fun q=>absurd q (by decide))
   have hcd:=fun q=>ty_cls (hty d (by simp)) (.inl q)
   by_cases q3:a.k=3
   ·by_cases q:b=tInt
    ·exact r_203y (H.old hb) (HM.old hb) hd (ht.old hb) (hr.old hb) q3 q hcd
    ·exact r_203n (H.old hb) (HM.old hb) hd (ht.old hb) (hr.old hb) q3 q
   ·by_cases q4:a.k=4
    ·by_cases q:b=tInt
     ·exact r_204y (H.old hb) (HM.old hb) hd (ht.old hb) (hr.old hb) q4 q hcd (ty_cls (hty a (by simp)) (.inr q4)).1
     ·exact r_204n (H.old hb) (HM.old hb) hd (ht.old hb) (hr.old hb) q4 q
    ·exact r_20z (H.old hb) (HM.old hb) hd (ht.old hb) (hr.old hb) q3 q4
  ·refine push_via (by decide) (fun _ _ w' hb=>?_) (fun q=>absurd q (by decide))
   by_cases q3:a.k=3
   ·exact r_21a (H.old hb) (HM.old hb) hd (ht.old hb) (hr.old hb) q3
   ·by_cases q4:a.k=4
    ·exact r_21b (H.old hb) (HM.old hb) hd (ht.old hb) (hr.old hb) q4
    ·exact r_21c (H.old hb) (HM.old hb) hd (ht.old hb) (hr.old hb) q3 q4
  ·have:=o22 (.inl rfl)
   have:=a0 (by decide)
   exact p_22 H HM hd ht hr (by omega) (by omega)
  ·have:=o22 (.inr rfl)
   have:=a0 (by decide)
   exact p_23 H HM hd ht hr (fun q=>ty_cls (hty a (by simp)) (.inl q)) (by omega) (by omega) (statics_ty hm)
  ·refine push_via (by decide) (fun _ _ w' hb=>?_) (fun q=>absurd q (by decide))
   have hca:=fun q=>ty_cls (hty a (by simp)) (.inl q)
   have h14:=o14 (.inr rfl)
   by_cases q:a.k=2
   ·cases q2:fitsV m ⟨2,ia⟩ a
    ·exact r_24c (H.old hb) (HM.old hb) hd (ht.old hb) (hr.old hb) hca q (a0 (by decide)) (by omega) q2
    ·exact r_24b (H.old hb) (HM.old hb) hd (ht.old hb) (hr.old hb) hca q (a0 (by decide)) (by omega) q2
   ·exact r_24a (H.old hb) (HM.old hb) hd (ht.old hb) (hr.old hb) q
  ·exact p_27 H HM hd ht (by decide) hr
  ·exact p_28 H HM hd ht hr
  ·exact p_27 H HM hd ht (by decide) hr
  ·by_cases q:a=tInt
   ·by_cases q2:ib<ls.length
    ·exact p_30y H HM hd ht hr q b0 q2
    ·exact p_30o H HM hd ht hr q b0 q2
   ·exact p_30n H HM hd ht hr q
  ·exact p_31 H HM hd ht hr
  ·exact p_32 H HM hd ht hr
  ·exact p_33 H HM hd ht hr
end
section
open Go.RowKit
theorem elV6:El Tryz.prog 199 230 4 64:=El.mk' (z:=.agg #[.int .i64 0,.slice none 0 0,.slice none 0 0,.bool false]) Tryz.underlying199 (by kernel_rfl) (by kernel_rfl) (by decide)
theorem drop_row {w:World}{so:Option Addr}{sc:Nat}{st:List Ty} (H:TyAt w so sc st) {lf:Nat} (hlf:lf≤st.length):∃ co cc,(if sc=lf then so else so.map fun x=>x.add (lf*2))=co∧sc-lf=cc∧RowAt w co cc (st.drop lf):=by
 refine ⟨_,_,rfl,rfl,?_⟩
 have hcap:=H.2.1
 cases so with
 | none=>
  have h1:=H.1.2.1 rfl
  have h2:st=[]:=by cases st with|nil=>rfl|cons x r=>simp at h1
  subst h2
  simp only [List.drop_nil,Option.map_none,h1.2,Nat.zero_sub,ite_self]
  exact RowAt.nil _
 | some ad=>
  by_cases hsc:sc=lf
  ·have h0:st.drop lf=[]:=by rw [List.drop_eq_nil_iff];omega
   rw [h0,if_pos hsc]
   exact ⟨by simp [flatR],(fun h=>by simp at h),fun j u hu=>by simp [flatR] at hu⟩
  ·rw [if_neg hsc]
   exact H.dropA _ hlf
theorem own_ne {w:World}{base:Nat}{e:TypeId}{size:Nat}{so:Option Addr}{n sc:Nat}{xs:List Value} (h:w.ownsRow base e size (.slice so n sc) n xs) {b:Nat} (hb:b<base):(Value.slice so n sc).ownBlock≠some b:=by
 intro q
 rcases h.2 with ⟨hv,_⟩|⟨g,c,cur,hv,hg,_⟩
 ·rw [hv] at q;cases q
 ·rw [hv] at q
  have:g=b:=Option.some.inj q
  omega
section
variable {w0 w:World}{K:Nat}{h:Hd}{m:Md}{lo:Option Addr}{lc:Nat}{ls:List Ty}
include w0 w K h m lo lc ls
theorem open6_end {s:Ps} {so:Option Addr} {sc:Nat} {oo:Option Addr} {oc:Nat} {bs:List VB} {i:In3} (H:S6 w0 w K h m lo lc ls s so sc oo oc bs) (h1:i.op≠34) (h2:i.op≠35) (h3:opensV i.op=true) (h0:(midV m ls i s).1=0) {w1 w2 w4:World} {so':Option Addr} {sc':Nat} (hu:Upd K K w w1) (hc:Pk w1 K h m (.slice lo ls.length lc) (.slice so' (midV m ls i s).2.length sc') (.slice oo bs.length oc)) (ht:TyAt w1 so' sc' (midV m ls i s).2) (hb2:Below w1.heap.size w1 w2) {bo:Option Addr} {bc:Nat} (hcl:TyAt w2 bo bc (midV m ls i s).2) {ao2:Option Addr} {cap2:Nat} (hown4:w4.ownsRow w0.heap.size 230 4 (.slice ao2 (bs.length+1) cap2) (bs.length+1) (flatR bs++vbL i.op bo (midV m ls i s).2.length bc)) (hg4:w2.grownBy w4 (Value.slice oo bs.length oc).ownBlock):
  P6 w0 w K h m lo lc ls oo (stepV m ls i s) (.returned (.int .i64 0)) (w4.setCell ⟨K,6,none⟩ (.slice ao2 (bs.length+1) cap2)):=by
 have hu2:Upd K K w w2:=hu.bel hb2
 have hO2:=H.op.upd hu2 H.pk.noTy H.ne
 have hc2:=hc.old hb2
 have hno2:=hO2.noTy hc2.noTy
 have hneK:K≠oblk K oo∨oo=none:=by
  cases oo with
  | none=>exact .inr rfl
  | some a=>exact .inl (fun q=>H.ne a rfl q.symm)
 have hu4:Upd K (oblk K oo) w2 w4:=(Upd.refl K (oblk K oo) w2).grown hg4 (fun k hk=>.inl (row_own K oo _ _ k hk))
 have hKw:K<w2.heap.size:=Blk.lt hc2
 have hc4:Pk w4 K h m (.slice lo ls.length lc) (.slice so' (midV m ls i s).2.length sc') (.slice oo bs.length oc):=by
  unfold Pk Blk
  exact k80
 have hu5:Upd K (oblk K oo) w4 (w4.setCell ⟨K,6,none⟩ (.slice ao2 (bs.length+1) cap2)):=(Upd.refl K _ w4).set 6 _
 have hall:Upd K (oblk K oo) w (w4.setCell ⟨K,6,none⟩ (.slice ao2 (bs.length+1) cap2)):=(hu2.more.trans hu4).trans hu5
 have hnoO:=H.op.noTy H.pk.noTy
 have hN:w0.heap.size≤oblk K oo:=by
  exact k49
 have hst:stepV m ls i s=(0,⟨(midV m ls i s).2,s.opn++[⟨i.op,(midV m ls i s).2,[],false⟩]⟩):=by
  rw [stepV_mid h1 h2,h3,if_pos h0,h0]
  rfl
 rw [hst]
 generalize (midV m ls i s).2=st at hc ht hcl hown4 hc2 hc4
 refine ⟨rfl,hall,fun _=>⟨so',sc',ao2,cap2,bs++[⟨i.op,bo,st.length,bc,none,0,0,false⟩],?_⟩⟩
 have hlen:(bs++[(⟨i.op,bo,st.length,bc,none,0,0,false⟩:VB)]).length=bs.length+1:=by simp
 refine ⟨?_,?_,⟨?_,by simp [H.op.len],fun j hj=>?_⟩,H.tl.upd hall H.pk.noTy hnoO,hall.below H.hb (Nat.le_refl _) H.hK hN,H.hK⟩
 ·rw [hlen]
  exact Blk.set hc4 6 _
 ·exact (ht.upd (Upd.of (K:=K) (B:=K) hb2) hc.noTy hc.noTy).upd (hu4.trans hu5) hc2.noTy hno2
 ·exact k54
 ·rw [hlen] at hj
  by_cases hjl:j<bs.length
  ·have hb:=H.op.at_ j hjl
   have hjo:j<s.opn.length:=by rw [←H.op.len];exact hjl
   rw [show (bs++[(⟨i.op,bo,st.length,bc,none,0,0,false⟩:VB)]).getD j default=bs.getD j default by simp [List.getElem?_append_left hjl],show (s.opn++[(⟨i.op,st,[],false⟩:Opn)]).getD j default=s.opn.getD j default by simp [List.getElem?_append_left hjo]]
   exact hb.upd hall H.pk.noTy hnoO
  ·exact k36
theorem plain6_end {s:Ps} {so:Option Addr} {sc:Nat} {oo:Option Addr} {oc:Nat} {bs:List VB} {i:In3} (H:S6 w0 w K h m lo lc ls s so sc oo oc bs) (h1:i.op≠34) (h2:i.op≠35) (h3:opensV i.op=false) (h0:(midV m ls i s).1=0) {w1:World} {so':Option Addr} {sc':Nat} (hu:Upd K K w w1) (hc:Pk w1 K h m (.slice lo ls.length lc) (.slice so' (midV m ls i s).2.length sc') (.slice oo bs.length oc)) (ht:TyAt w1 so' sc' (midV m ls i s).2):
  P6 w0 w K h m lo lc ls oo (stepV m ls i s) (.returned (.int .i64 0)) w1:=by
 have hst:stepV m ls i s=(0,⟨(midV m ls i s).2,s.opn⟩):=by
  rw [stepV_mid h1 h2,h3,if_pos h0,h0]
  rfl
 rw [hst]
 exact ⟨rfl,hu.more,fun _=>⟨so',sc',oo,oc,bs,hc,ht,H.op.upd hu H.pk.noTy H.ne,H.tl.upd hu H.pk.noTy H.pk.noTy,hu.below H.hb (Nat.le_refl _) H.hK H.hK,H.hK⟩⟩
theorem no6_end {s:Ps} {oo:Option Addr} {i:In3} (h1:i.op≠34) (h2:i.op≠35) {e:Int} (he:(midV m ls i s).1=e) (h0:e≠0) {w1:World} (hu:Upd K K w w1):
  P6 w0 w K h m lo lc ls oo (stepV m ls i s) (.returned (.int .i64 e)) w1:=by
 have hst:(stepV m ls i s).1=e:=by rw [stepV_mid h1 h2,he]
 exact ⟨by rw [hst],hu.more,fun q=>absurd (hst▸q) h0⟩
theorem step6_mid {s:Ps} {so:Option Addr} {sc:Nat} {oo:Option Addr} {oc:Nat} {bs:List VB} {i:In3} {k:Nat} (H:S6 w0 w K h m lo lc ls s so sc oo oc bs) (HM:ModAt w h m) (hm:modV m=true) (hlo:∀ t∈ls,tyOk m t) (hk:k<m.me.length) (hi:OpdOk m k i) (hop:0≤i.op∧i.op<34) (HW:stkOk m s.stk) (hd:s.opn.length≤6) (hba:baseV s.opn≤s.stk.length):
  Calls Tryz.prog 193 #[.pointer (some ⟨K,0,none⟩),.agg #[.int .i64 i.op,.int .i64 i.a,.int .i64 i.b]] w (P6 w0 w K h m lo lc ls oo (stepV m ls i s)):=by
 have hn1:i.op≠34:=by omega
 have hn2:i.op≠35:=by omega
 obtain ⟨tk,htk⟩:∃ n,n=(cntV m i).1:=⟨_,rfl⟩
 obtain ⟨ps,hps⟩:∃ n,n=(cntV m i).2:=⟨_,rfl⟩
 have hps2:ps≤2:=by
  rw [hps];unfold cntV
  repeat' split
  all_goals first|decide|(dsimp only;omega)
 have htk2:tk≤1000:=by
  rw [htk]
  by_cases hc:i.op=25∨i.op=26
  ·rw [cnt_args hc]
   have:=argsV_len hm hk hi hc
   dsimp only;omega
  ·unfold cntV
   repeat' split
   all_goals first|decide|(exact absurd (by assumption) hc)
 have k5:w.cell? ⟨K,5,none⟩=some (.slice so s.stk.length sc):=Blk.cell H.pk 5 rfl
 have k6:w.cell? ⟨K,6,none⟩=some (.slice oo bs.length oc):=Blk.cell H.pk 6 rfl
 have HC:=Lib.hid (show ∀ w',Below w.heap.size w w'→_ from fun w' hb=>counts6_any (H.pk.old hb) (HM.old hb) hm hk hi hop)
 have HBs:=Lib.hid (show ∀ w',Below w.heap.size w w'→_ from fun w' hb=>base6_any K oo oc bs w' (cell_bel hb k6) ((RowAt.of_own H.op.own).old hb) (by have:=H.op.len;omega))
 rw [←htk,←hps] at HC
 obtain ⟨bv,hbv⟩:∃ n,n=baseB bs:=⟨_,rfl⟩
 rw [←hbv] at HBs
 rw [baseB_eq6 H.op] at hbv
 obtain ⟨sn,hsn⟩:∃ n,n=s.stk.length:=⟨_,rfl⟩
 have hsn12:sn≤12:=by rw [hsn];exact HW.1
 have hw1:IntKind.i64.wrap ((sn:Int)-(tk:Int))=(sn:Int)-tk:=IntWalk.i64_in _ (by omega)
 have hw2:IntKind.i64.wrap ((sn:Int)-(tk:Int)+(ps:Int))=(sn:Int)-tk+ps:=IntWalk.i64_in _ (by omega)
 have hmid:midV m ls i s=if sn<tk+bv∨12<sn-tk+ps then ((12:Int),s.stk) else match pushV m ls i (s.stk.drop (sn-tk)) with
  | none=>((11:Int),s.stk)
  | some t=>(0,s.stk.take (sn-tk)++List.replicate ps t):=by
  unfold midV
  rw [←htk,←hps,←hbv,←hsn]
  rfl
 rw [←hsn] at k5
 have e34:(i.op == 34)=false:=by simp;omega
 have e35:(i.op == 35)=false:=by simp;omega
 obtain ⟨W1,hW1⟩:∃ W1,W1=w.alloc (.cells #[.int .i64 i.op,.int .i64 i.a,.int .i64 i.b] 42):=⟨_,rfl⟩
 have hb1:Below w.heap.size w W1:=by rw [hW1];exact bE
 have hbi:Blk W1 w.heap.size #[.int .i64 i.op,.int .i64 i.a,.int .i64 i.b] 42:=by rw [hW1];exact Blk.new w _ _
 have HB1:=Lib.hid hb1
 have HBi:=Lib.hid hbi
 have HW1:=Lib.hid hW1
 have HH:=Lib.hid H
 have HHM:=Lib.hid HM
 have HMi:=Lib.hid hmid
 have HSn:=Lib.hid hsn
 have HTk:=Lib.hid htk
 have kl:=Blk.lt H.pk
 have HX:=Lib.hid (show ∀ w',Below W1.heap.size W1 w'→w'.cell? ⟨K,5,none⟩=some (.slice so sn sc)∧w'.cell? ⟨w.heap.size,0,none⟩=some (.int .i64 i.op)∧w'.cell? ⟨w.heap.size,1,none⟩=some (.int .i64 i.a)∧w'.cell? ⟨w.heap.size,2,none⟩=some (.int .i64 i.b) from fun w' hb=>⟨cell_bel hb (cell_bel hb1 k5),(hbi.old hb).cell 0 rfl,(hbi.old hb).cell 1 rfl,(hbi.old hb).cell 2 rfl⟩)
 have HPu:=Lib.hid (show ∀ lf,lf=sn-tk→tk≤sn→∀ w',Below w.heap.size w w'→∀ co cc,RowAt w' co cc (s.stk.drop lf)→Calls Tryz.prog 238 #[.pointer (some ⟨K,0,none⟩),.agg #[.int .i64 i.op,.int .i64 i.a,.int .i64 i.b],.slice co (s.stk.drop lf).length cc] w' (RetP w' (pushV m ls i (s.stk.drop lf))) from
  fun lf hlf hle w' hb co cc hr=>pushed6_any (H.pk.old hb) (HM.old hb) hm (H.tl.1.old hb) hlo hk hi hop hr (by rw [List.length_drop,←hsn,←htk,hlf];omega) (fun t ht=>HW.2 t (List.mem_of_mem_drop ht)))
 have hss:=H.ts
 have HTs:=Lib.hid hss
 have HOp:=Lib.hid hop
 have HBl6:=Lib.hid (show bs.length≤6 by rw [H.op.len];exact hd)
 clear hmid hW1 hb1 hbi HM hm hlo hk hi HW hd hsn htk hps k5 k6 H hss hop
 clear hbv hba
 go_enter Tryz.func193,Tryz.ntmps193
 go_upto_region 1 with fail
 rw [←HW1.out]
 obtain ⟨k5,i0,i1,i2⟩:=HX.out _ (Below.refl _ _)
 go_upto_region 5 with (go_at_call 236;refine (HC.out _ HB1.out).mono ?_;rintro r w2 ⟨rfl,hb2⟩;have HB2:=Lib.hid hb2;clear hb2 k5 i0 i1 i2;obtain ⟨k5,i0,i1,i2⟩:=HX.out _ HB2.out)
 by_cases hc1:sn<tk+bv
 ·have he:(midV m ls i s).1=12:=by rw [HMi.out,if_pos (.inl hc1)]
  have hlt:(sn:Int)-tk<bv:=by omega
  exact k64
 ·have hlt:¬ (sn:Int)-tk<bv:=by omega
  by_cases hc2:12<sn-tk+ps
  ·have he:(midV m ls i s).1=12:=by rw [HMi.out,if_pos (.inr hc2)]
   have hgt:(sn:Int)-tk+ps > 12:=by omega
   exact k64
  ·have hgt:¬ (sn:Int)-tk+ps > 12:=by omega
   have hmid:midV m ls i s=match pushV m ls i (s.stk.drop (sn-tk)) with
    | none=>((11:Int),s.stk)
    | some t=>(0,s.stk.take (sn-tk)++List.replicate ps t):=by rw [HMi.out,if_neg (by omega)]
   obtain ⟨lf,hlf⟩:∃ n,n=sn-tk:=⟨_,rfl⟩
   have hcl:(sn:Int)-tk=lf:=by omega
   rw [←hlf] at hmid
   have HLf:=Lib.hid hlf
   have hlfs:lf≤sn:=by omega
   have hlfi:(lf:Int)≤sn:=by omega
   have HMid:=Lib.hid hmid
   clear hmid HMi hc1 hc2 hlf
   have hfz:∀ w',Below w.heap.size w w'→w'.frozen? ⟨K,5,none⟩=false∧w'.frozen? ⟨K,6,none⟩=false:=fun w' hb'=>⟨(HH.out.pk.old hb').frozen 5,(HH.out.pk.old hb').frozen 6⟩
   have HFz:=Lib.hid hfz
   have hscn:¬ (sc:Int) < sn:=by have:=HTs.out.2.1;have:=HSn.out;omega
   have hlf2:¬ (sn:Int) < lf:=by omega
   have hlf3:¬ (sc:Int) < lf:=by omega
   have hlfn:((sn-lf:Nat):Int)=sn-lf:=by omega
   clear hfz
   go_upto_region 7 with (go_at_call 237;refine (HBs.out _ (bthen HB1.out HB2.out)).mono ?_;rintro r w3 ⟨rfl,hb3⟩;have HB3:=Lib.hid (bthen HB2.out hb3);clear hb3)
   try rw [hcl]
   obtain ⟨co,cc,hco,hcc,hrow⟩:=drop_row HTs.out (lf:=lf) (by rw [←HSn.out];exact hlfs)
   refine rO (fun w':World=>w'.cell? ⟨K,5,none⟩=some (.slice so sn sc)∧w'.cell? ⟨w.heap.size,0,none⟩=some (.int .i64 i.op)∧w'.cell? ⟨w.heap.size,1,none⟩=some (.int .i64 i.a)∧w'.cell? ⟨w.heap.size,2,none⟩=some (.int .i64 i.b)) (.plain 0 (.plain 1 (.plain 2 (.plain 3 (.plain 4 (.plain 5 (.plain 6 (.plain 7 (.two 8 12 (oL [9,10,11,112,113,14]) (oL [108,9,10,11,113,14])))))))))) (HX.out _ (Below.drew HB3.out)) ?_
   repeat refine pO ?_
   have hdl:(s.stk.drop lf).length=sn-lf:=by rw [List.length_drop,←HSn.out]
   obtain ⟨q,hq⟩:∃ q,q=pushV m ls i (s.stk.drop lf):=⟨_,rfl⟩
   have HP:=Lib.hid (show ∀ w',Below w.heap.size w w'→Calls Tryz.prog 238 #[.pointer (some ⟨K,0,none⟩),.agg #[.int .i64 i.op,.int .i64 i.a,.int .i64 i.b],.slice co (sn-lf) cc] w' (RetP w' q) from fun w' hb'=>by
    have:=HPu.out lf HLf.out (by omega) w' hb' co cc (hrow.old hb')
    rw [hdl,←hq] at this
    exact this)
   have hmq:=HMid.out
   rw [←hq] at hmq
   have HMq:=Lib.hid hmq
   clear hmq hq HMid HPu hrow hdl
   refine wpMixO_two ?_ ?_
   refine wpOp_one _ (by rfl) (by rfl) fun Kv hK=>?_
   go_simp
   try rw [hco]
   refine (HP.out _ (bthen HB1.out (Below.drew HB3.out))).mono ?_
   rintro r w5 ⟨⟨t0,t1⟩,rfl,ht,hb5⟩
   have HT:=Lib.hid ht
   have HB5:=Lib.hid (bthen HB3.out (bthen (Below.drew (Below.refl _ _)) hb5))
   refine hK _ _ ⟨HX.out _ HB5.out,?_⟩
   clear hK Kv ht hb5
   repeat refine pO ?_
   refine oO fun Kv hK=>?_
   go_simp
   refine hK _ _ ⟨HX.out _ (bal HB5.out _),?_⟩
   clear hK Kv
   obtain ⟨Nt,hNt⟩:∃ n,n=w5.heap.size:=⟨_,rfl⟩
   have hbt:Blk (w5.alloc (.cells #[.int .i64 0,.int .i64 0] 35)) Nt #[.int .i64 0,.int .i64 0] 35:=Blk.new' _ _ hNt
   have hNl:W1.heap.size≤Nt:=by rw [hNt];exact HB5.out.size
   have hb6:Below W1.heap.size W1 (w5.alloc (.cells #[.int .i64 0,.int .i64 0] 35)):=bal HB5.out _
   obtain ⟨w6,hw6⟩:∃ x,x=w5.alloc (.cells #[.int .i64 0,.int .i64 0] 35):=⟨_,rfl⟩
   rw [←hNt]
   rw [←hw6] at hbt hb6 ⊢
   clear hw6 hNt
   refine oO fun Kv hK=>?_
   have y0:=hbt.cell 0 (v:=.int .i64 0) rfl
   have y1:=hbt.cell 1 (v:=.int .i64 0) rfl
   have g0:=hbt.frozen 0
   have g1:=hbt.frozen 1
   go_simp
   have hNw:w.heap.size<Nt:=Nat.lt_of_lt_of_le HBi.out.lt hNl
   have hb7:Below W1.heap.size W1 ((w6.setCell ⟨Nt,0,none⟩ (.int .i64 t0)).setCell ⟨Nt,1,none⟩ (.int .i64 t1)):=bsetV (bsetV hb6 hNl _) hNl _
   have HT7:=Lib.hid (show Blk ((w6.setCell ⟨Nt,0,none⟩ (.int .i64 t0)).setCell ⟨Nt,1,none⟩ (.int .i64 t1)) Nt #[.int .i64 t0,.int .i64 t1] 35 from Blk.set (Blk.set hbt 0 _) 1 _)
   have HB7:=Lib.hid hb7
   refine hK _ _ ⟨HX.out _ hb7,?_⟩
   clear hK Kv y0 y1 g0 g1 hbt hb6 hb7
   repeat refine pO ?_
   refine wpMixO_done ?_
   rotate_left
   refine wpOp_one _ (by rfl) (by rfl) fun Kv hK=>?_
   go_simp
   refine hK _ _ ⟨HX.out _ (bal (Below.drew HB3.out) _),?_⟩
   clear hK Kv
   obtain ⟨Nt,hNt⟩:∃ n,n=w3.heap.size:=⟨_,rfl⟩
   have hbt0:Blk (w3.alloc (.cells #[.int .i64 0,.int .i64 0] 35)).drew Nt #[.int .i64 0,.int .i64 0] 35:=Blk.drew (Blk.new' _ _ hNt)
   have hNl:W1.heap.size≤Nt:=by rw [hNt];exact HB3.out.size
   have hb50:Below W1.heap.size W1 (w3.alloc (.cells #[.int .i64 0,.int .i64 0] 35)).drew:=Below.drew (bal HB3.out _)
   obtain ⟨w5,hw5⟩:∃ x,x=(w3.alloc (.cells #[.int .i64 0,.int .i64 0] 35)).drew:=⟨_,rfl⟩
   rw [←hNt]
   rw [←hw5] at hbt0 hb50 ⊢
   clear hw5 hNt
   refine oO fun Kv hK=>?_
   go_simp
   try rw [hco]
   refine (HP.out _ (bthen HB1.out hb50)).mono ?_
   rintro r w6 ⟨⟨t0,t1⟩,rfl,ht,hb60⟩
   have HT:=Lib.hid ht
   have hb6:=bthen hb50 hb60
   have hbt:=hbt0.old hb60
   refine hK _ _ ⟨HX.out _ hb6,?_⟩
   clear hK Kv ht hbt0 hb50 hb60
   repeat refine pO ?_
   refine oO fun Kv hK=>?_
   have y0:=hbt.cell 0 (v:=.int .i64 0) rfl
   have y1:=hbt.cell 1 (v:=.int .i64 0) rfl
   have g0:=hbt.frozen 0
   have g1:=hbt.frozen 1
   go_simp
   have hNw:w.heap.size<Nt:=Nat.lt_of_lt_of_le HBi.out.lt hNl
   have hb7:Below W1.heap.size W1 ((w6.setCell ⟨Nt,0,none⟩ (.int .i64 t0)).setCell ⟨Nt,1,none⟩ (.int .i64 t1)):=bsetV (bsetV hb6 hNl _) hNl _
   have HT7:=Lib.hid (show Blk ((w6.setCell ⟨Nt,0,none⟩ (.int .i64 t0)).setCell ⟨Nt,1,none⟩ (.int .i64 t1)) Nt #[.int .i64 t0,.int .i64 t1] 35 from Blk.set (Blk.set hbt 0 _) 1 _)
   have HB7:=Lib.hid hb7
   refine hK _ _ ⟨HX.out _ hb7,?_⟩
   clear hK Kv y0 y1 g0 g1 hbt hb6 hb7
   repeat refine pO ?_
   refine wpMixO_done ?_
   clear k5 i0 i1 i2
   rotate_left
   all_goals
    obtain ⟨w7,hw7⟩:∃ x,x=(w6.setCell ⟨Nt,0,none⟩ (.int .i64 t0)).setCell ⟨Nt,1,none⟩ (.int .i64 t1):=⟨_,rfl⟩
    rw [←hw7] at HT7 HB7 ⊢
    clear hw7
    obtain ⟨k5,i0,i1,i2⟩:=HX.out _ HB7.out
    rcases q with _|t
    ·have he:(midV m ls i s).1=11:=by rw [HMq.out]
     go_wp2
     go_ret
     exact no6_end hn1 hn2 he (by decide) (Upd.of (bthen HB1.out HB7.out))
    ·obtain rfl:=HT.out t rfl
     have HM0:=Lib.hid (show (midV m ls i s).1=0 by rw [HMq.out])
     have HM1:=Lib.hid (show (midV m ls i s).2=s.stk.take lf++List.replicate ps ⟨t0,t1⟩ by rw [HMq.out])
     have hsl:(s.stk.take lf).length=lf:=by rw [List.length_take,←HSn.out];omega
     have HCp:=Lib.hid (show Calls Tryz.prog 192 #[.slice so lf sc] w7 (RetOwn 35 w7 (s.stk.take lf)) by
      have h9:=copied_any w7 so sc (s.stk.take lf) ((HTs.out.1.old (bthen HB1.out HB7.out)).take lf (by rw [←HSn.out];exact hlfs) sc (fun q9=>(HTs.out.1.2.1 q9).2)) (by omega)
      rwa [hsl] at h9)
     have HSl:=Lib.hid hsl
     clear hsl HMq HT
     go_upto_region 11 with (go_at_call 192;refine HCp.out.mono ?_;rintro r w8 ⟨⟨to8,tc8,rfl,hown8⟩,hb8⟩;rw [HSl.out];have HO8:=Lib.hid hown8;have HB8:=Lib.hid (bthen HB7.out hb8);have HB78:=Lib.hid hb8;clear hown8 hb8;have f5:=(HFz.out w8 (bthen HB1.out HB8.out)).1;have c5:=(HX.out _ HB8.out).1)
     have hO8:=HO8.out
     rw [HSl.out] at hO8
     have hKw7:K<w7.heap.size:=Nat.lt_of_lt_of_le kl (bthen HB1.out HB7.out).size
     have hNw7:Nt<w7.heap.size:=HT7.out.lt
     have hIw7:w.heap.size<w7.heap.size:=Nat.lt_of_lt_of_le HBi.out.lt HB7.out.size
     have hU9:Upd K K w (w8.setCell ⟨K,5,none⟩ (.slice to8 lf tc8)):=(Upd.of (bthen HB1.out HB8.out)).set 5 _
     have hP9:Pk (w8.setCell ⟨K,5,none⟩ (.slice to8 lf tc8)) K h m (.slice lo ls.length lc) (.slice to8 lf tc8) (.slice oo bs.length oc):=Blk.set (HH.out.pk.old (bthen HB1.out HB8.out)) 5 _
     have hO9:(w8.setCell ⟨K,5,none⟩ (.slice to8 lf tc8)).ownsRow w7.heap.size 35 2 (.slice to8 lf tc8) lf (flatR (s.stk.take lf)):=ownsRow_setCell_other hO8 (own_ne hO8 hKw7) _
     have hI9:Blk (w8.setCell ⟨K,5,none⟩ (.slice to8 lf tc8)) w.heap.size #[.int .i64 i.op,.int .i64 i.a,.int .i64 i.b] 42:=Blk.other (HBi.out.old HB8.out) (by show w.heap.size≠K;omega) _
     have hT9:Blk (w8.setCell ⟨K,5,none⟩ (.slice to8 lf tc8)) Nt #[.int .i64 t0,.int .i64 t1] 35:=Blk.other (HT7.out.old HB78.out) (by show Nt≠K;omega) _
     obtain ⟨W9,hW9⟩:∃ x,x=w8.setCell ⟨K,5,none⟩ (.slice to8 lf tc8):=⟨_,rfl⟩
     rw [←hW9] at hU9 hP9 hO9 hI9 hT9 ⊢
     have HSz9:=Lib.hid (show w7.heap.size≤W9.heap.size by rw [hW9,size_set];exact HB78.out.size)
     have HU9:=Lib.hid hU9
     have HP9:=Lib.hid hP9
     have HO9:=Lib.hid hO9
     have HI9:=Lib.hid hI9
     have HT9:=Lib.hid hT9
     clear hW9 hU9 hP9 hO9 hI9 hT9 hO8 f5 c5 k5 i0 i1 i2
     go_wp2
     go_loopw [10] (fun x wr=>∃ j:Nat,j≤ps∧x=.int .i64 (j:Int)∧∃ so' sc',Hid (Upd K K w wr)∧Hid (Pk wr K h m (.slice lo ls.length lc) (.slice so' (lf+j) sc') (.slice oo bs.length oc))∧Hid (wr.ownsRow w7.heap.size 35 2 (.slice so' (lf+j) sc') (lf+j) (flatR (s.stk.take lf++List.replicate j ⟨t0,t1⟩)))∧Hid (Blk wr w.heap.size #[.int .i64 i.op,.int .i64 i.a,.int .i64 i.b] 42)∧Hid (Blk wr Nt #[.int .i64 t0,.int .i64 t1] 35)∧Hid (w7.heap.size≤wr.heap.size)) (fun x _=>ps-(intOf x).toNat)
     case atStart=>exact ⟨0,Nat.zero_le _,rfl,to8,tc8,HU9,HP9,Lib.hid (by rw [List.replicate_zero,List.append_nil];exact HO9.out),HI9,HT9,HSz9⟩
     case round=>
      obtain ⟨j,hj,rfl,so',sc',HU,HPj,HOj,HI,HTt,HSz⟩:=hrel
      by_cases hjl:j<ps
      ·have hjl2:(j:Int) < ps:=by omega
       have hwr:IntKind.i64.wrap ((j:Int)+1)=j+1:=IntWalk.i64_in _ (by omega)
       have k5:wr.cell? ⟨K,5,none⟩=some (.slice so' (lf+j) sc'):=HPj.out.cell 5 rfl
       have z0:wr.cell? ⟨Nt,0,none⟩=some (.int .i64 t0):=HTt.out.cell 0 rfl
       have z1:wr.cell? ⟨Nt,1,none⟩=some (.int .i64 t1):=HTt.out.cell 1 rfl
       go_upto_region 14 with fail
       have k5a:(wr.alloc (.cells #[.int .i64 t0,.int .i64 t1] 35)).cell? ⟨K,5,none⟩=some (.slice so' (lf+j) sc'):=cell_bel (show Below wr.heap.size wr (wr.alloc (.cells #[.int .i64 t0,.int .i64 t1] 35)) by exact bE) k5
       refine rO (fun _:World=>True) (.plain 0 (.plain 1 (.plain 2 (.plain 3 (.two 4 5 (oL [105,106,107,8,9,110]) (.two 4 6 (oL [106,107,8,9,110]) (oL [104,107,8,9,110]))))))) trivial ?_
       repeat refine pO ?_
       refine wpMixO_two ?_ ?_
       refine wpOp_one _ (by rfl) (by rfl) fun Kv hK=>?_
       go_simp
       refine hK _ _ ⟨trivial,?_⟩
       clear hK Kv
       refine oO fun Kv hK=>?_
       go_simp
       refine hK _ _ ⟨trivial,?_⟩
       clear hK Kv
       refine oO fun Kv hK=>?_
       go_simp
       refine hK _ _ ⟨trivial,?_⟩
       clear hK Kv
       rotate_left
       refine wpOp_one _ (by rfl) (by rfl) fun Kv hK=>?_
       go_simp
       refine hK _ _ ⟨trivial,?_⟩
       clear hK Kv
       refine wpMixO_two ?_ ?_
       refine wpOp_one _ (by rfl) (by rfl) fun Kv hK=>?_
       go_simp
       refine hK _ _ ⟨trivial,?_⟩
       clear hK Kv
       refine oO fun Kv hK=>?_
       go_simp
       refine hK _ _ ⟨trivial,?_⟩
       clear hK Kv
       rotate_left
       refine wpOp_one _ (by rfl) (by rfl) fun Kv hK=>?_
       go_simp
       refine hK _ _ ⟨trivial,?_⟩
       clear hK Kv
       refine oO fun Kv hK=>?_
       go_simp
       refine hK _ _ ⟨trivial,?_⟩
       clear hK Kv
       all_goals
        clear k5 k5a z0 z1
        have hba:Below wr.heap.size wr (wr.alloc (.cells #[.int .i64 t0,.int .i64 t1] 35)).drew:=by exact bE
        have HOa:=Lib.hid (show (wr.alloc (.cells #[.int .i64 t0,.int .i64 t1] 35)).drew.ownsRow w7.heap.size 35 2 (.slice so' (lf+j) sc') (lf+j) (flatR (s.stk.take lf++List.replicate j ⟨t0,t1⟩)) from own_eqV HOj.out fun k hk=>hba.block k (HOj.out.lt k hk).2)
        have HRa:=Lib.hid (row_built wr ([⟨t0,t1⟩]:List Ty) _ 35 rfl)
        have HBa:=Lib.hid hba
        clear hba
        refine oO fun Kv hK=>?_
        refine wp_append_slx (.tmp 78) (.tmp 80) 23 rfl w7.heap.size 35 2 16 elTyV (.slice so' (lf+j) sc') (lf+j) _ rfl HOa.out (some ⟨wr.heap.size,0,none⟩) 1 1 (flatR ([⟨t0,t1⟩]:List Ty)) rfl HRa.out (flatR_oneC _) (by omega) (by unfold maxLen;omega) (Nat.le_trans HSz.out HBa.out.size) ?_
        intro ao2 cap2 w10 hown10 hg10
        have hnK:=own_ne HOa.out hKw7
        have hnT:=own_ne HOa.out hNw7
        have hnI:=own_ne HOa.out hIw7
        have hwl:wr.heap.size≤(wr.alloc (.cells #[.int .i64 t0,.int .i64 t1] 35)).drew.heap.size:=HBa.out.size
        have hP10:Pk w10 K h m (.slice lo ls.length lc) (.slice so' (lf+j) sc') (.slice oo bs.length oc):=by
         have h9:=HPj.out.old HBa.out
         unfold Pk Blk
         rw [hg10.block K (Blk.lt h9) (fun e=>hnK e.symm)]
         exact h9
        have hT10:Blk w10 Nt #[.int .i64 t0,.int .i64 t1] 35:=by
         have h9:=HTt.out.old HBa.out
         unfold Blk
         rw [hg10.block Nt (Blk.lt h9) (fun e=>hnT e.symm)]
         exact h9
        have hI10:Blk w10 w.heap.size #[.int .i64 i.op,.int .i64 i.a,.int .i64 i.b] 42:=by
         have h9:=HI.out.old HBa.out
         unfold Blk
         rw [hg10.block w.heap.size (Blk.lt h9) (fun e=>hnI e.symm)]
         exact h9
        have hU10:Upd K K w w10:=(HU.out.bel HBa.out).grown hg10 (fun k hk=>.inr (by
         rcases HOa.out.2 with ⟨hv,_⟩|⟨g,c,cur,hv,hbg,hgg,_⟩
         ·rw [hv] at hk;cases hk
         ·rw [hv] at hk
          have e9:g=k:=Option.some.inj hk
          have:=(bthen HB1.out HB7.out).size
          omega))
        have HP10:=Lib.hid hP10
        have HT10:=Lib.hid hT10
        have HI10:=Lib.hid hI10
        have HU10:=Lib.hid hU10
        have HO10:=Lib.hid hown10
        have HZ10:=Lib.hid (show w7.heap.size≤w10.heap.size from Nat.le_trans HSz.out (Nat.le_trans hwl hg10.size))
        clear hP10 hT10 hI10 hU10 hown10 hg10 hnK hnT hnI hwl
        refine hK _ _ ⟨trivial,?_⟩
        clear hK Kv
        repeat refine pO ?_
        have c5:w10.cell? ⟨K,5,none⟩=some (.slice so' (lf+j) sc'):=HP10.out.cell 5 rfl
        have f5:w10.frozen? ⟨K,5,none⟩=false:=HP10.out.frozen 5
        refine oO fun Kv hK=>?_
        go_simp
        refine hK _ _ ⟨trivial,?_⟩
        clear hK Kv c5 f5
        refine wpMixO_done ?_
        go_wp2
        go_roundw
        case rel=>
         refine ⟨j+1,by omega,by go_num,ao2,cap2,Lib.hid (HU10.out.set 5 _),Lib.hid (Blk.set HP10.out 5 _),Lib.hid ?_,Lib.hid (Blk.other HI10.out (by show w.heap.size≠K;omega) _),Lib.hid (Blk.other HT10.out (by show Nt≠K;omega) _),Lib.hid (by rw [size_set];exact HZ10.out)⟩
         rw [List.replicate_succ',←List.append_assoc,flatR_append]
         exact ownsRow_setCell_other HO10.out (own_ne HO10.out hKw7) _
        case measure=>simp [intOf];omega
      ·obtain rfl:j=ps:=by omega
       have hnj:¬ (j:Int) < j:=by omega
       have i0:wr.cell? ⟨w.heap.size,0,none⟩=some (.int .i64 i.op):=HI.out.cell 0 rfl
       obtain ⟨n9,hn9⟩:∃ n,n=lf+j:=⟨_,rfl⟩
       have hm2l:(midV m ls i s).2.length=n9:=by rw [HM1.out,List.length_append,HSl.out,List.length_replicate,hn9]
       have hPm:Pk wr K h m (.slice lo ls.length lc) (.slice so' (midV m ls i s).2.length sc') (.slice oo bs.length oc):=by rw [hm2l,hn9];exact HPj.out
       have hTm:TyAt wr so' sc' (midV m ls i s).2:=by
        refine TyAt.own (base:=w7.heap.size) ?_
        rw [hm2l,HM1.out,hn9]
        exact HOj.out
       have k5:wr.cell? ⟨K,5,none⟩=some (.slice so' n9 sc'):=by rw [hn9];exact HPj.out.cell 5 rfl
       have k6:wr.cell? ⟨K,6,none⟩=some (.slice oo bs.length oc):=HPj.out.cell 6 rfl
       have hop9:=HOp.out
       by_cases h3:opensV i.op=true
       ·have h39:=h3
        unfold opensV inI at h39
        simp only [Bool.and_eq_true,decide_eq_true_eq] at h39
        have g29:i.op ≥ 29:=by omega
        have g33:i.op≤33:=h39.2
        have HPm:=Lib.hid hPm
        have HTm:=Lib.hid hTm
        have HNn:=Lib.hid hm2l
        have H3:=Lib.hid h3
        have HCq:=Lib.hid (show ∀ w',Below wr.heap.size wr w'→Calls Tryz.prog 192 #[.slice so' n9 sc'] w' (RetOwn 35 w' (midV m ls i s).2) from fun w' hb'=>by
         have h9:=copied_any w' so' sc' (midV m ls i s).2 (hTm.1.old hb') (by omega)
         rwa [hm2l] at h9)
        have hS:∀ w',Upd K K wr w'→w'.cell? ⟨K,5,none⟩=some (.slice so' n9 sc')→(fun w':World=>w'.cell? ⟨K,5,none⟩=some (.slice so' n9 sc')∧w'.cell? ⟨w.heap.size,0,none⟩=some (.int .i64 i.op)) w':=fun w' hu hk=>⟨hk,hu.cell (HI.out.cell 0 rfl) (by show w.heap.size≠K;omega) (by show w.heap.size≠K;omega)⟩
        have HS0:=Lib.hid hS
        have HS:=Lib.hid (show ∀ w',Below wr.heap.size wr w'→(fun w':World=>w'.cell? ⟨K,5,none⟩=some (.slice so' n9 sc')∧w'.cell? ⟨w.heap.size,0,none⟩=some (.int .i64 i.op)) w' from fun w' hb=>hS w' (Upd.of hb) (cell_bel hb k5))
        clear hS hn9 hm2l hPm hTm h3 h39 hop9
        go_upto_region 16 with fail
        refine rO (fun w':World=>w'.cell? ⟨K,5,none⟩=some (.slice so' n9 sc')∧w'.cell? ⟨w.heap.size,0,none⟩=some (.int .i64 i.op)) (.plain 0 (.plain 1 (.plain 2 (.plain 3 (.plain 5 (.plain 6 (.plain 7 (.plain 8 (.plain 9 (.plain 10 (.two 4 11 (oL [111,12,113,114,15,16,117]) (.plain 12 (.two 4 13 (oL [113,114,15,16,117]) (oL [104,114,15,16,117])))))))))))))) (HS.out _ (Below.drew (Below.refl _ _))) ?_
        repeat refine pO ?_
        refine wpMixO_two ?_ ?_
        refine wpOp_one _ (by rfl) (by rfl) fun Kv hK=>?_
        go_simp
        refine hK _ _ ⟨HS.out _ (Below.drew (Below.refl _ _)),?_⟩
        clear hK Kv
        refine oO fun Kv hK=>?_
        go_simp
        refine (HCq.out _ (Below.drew (Below.refl _ _))).mono ?_
        rintro r w11 ⟨⟨bo,bc,rfl,hown11⟩,hb11⟩
        rw [HNn.out]
        have HB11:=Lib.hid (show Below wr.heap.size wr w11 from bthen (Below.drew (Below.refl _ _)) hb11)
        have HO11:=Lib.hid hown11
        clear hown11 hb11
        have k6b:=cell_bel HB11.out k6
        refine hK _ _ ⟨HS.out _ HB11.out,?_⟩
        clear hK Kv
        repeat refine pO ?_
        refine oO fun Kv hK=>?_
        go_simp
        refine hK _ _ ⟨HS.out _ (bal HB11.out _),?_⟩
        clear hK Kv
        rotate_left
        refine wpOp_one _ (by rfl) (by rfl) fun Kv hK=>?_
        go_simp
        refine (HCq.out _ (Below.drew (Below.refl _ _))).mono ?_
        rintro r w11 ⟨⟨bo,bc,rfl,hown11⟩,hb11⟩
        rw [HNn.out]
        have HB11:=Lib.hid (show Below wr.heap.size wr w11 from bthen (Below.drew (Below.refl _ _)) hb11)
        have HO11:=Lib.hid hown11
        clear hown11 hb11
        have k6b:=cell_bel HB11.out k6
        refine hK _ _ ⟨HS.out _ HB11.out,?_⟩
        clear hK Kv
        repeat refine pO ?_
        refine wpMixO_two ?_ ?_
        refine wpOp_one _ (by rfl) (by rfl) fun Kv hK=>?_
        go_simp
        refine hK _ _ ⟨HS.out _ HB11.out,?_⟩
        clear hK Kv
        refine oO fun Kv hK=>?_
        go_simp
        refine hK _ _ ⟨HS.out _ (bal HB11.out _),?_⟩
        clear hK Kv
        rotate_left
        refine wpOp_one _ (by rfl) (by rfl) fun Kv hK=>?_
        go_simp
        refine hK _ _ ⟨HS.out _ (bal HB11.out _),?_⟩
        clear hK Kv
        have k6c:=cell_bel (show Below w11.heap.size w11 (w11.alloc (.cells #[.int .i64 i.op,.slice bo n9 bc,.slice none 0 0,.bool false] 230)) by exact bE) k6b
        refine oO fun Kv hK=>?_
        go_simp
        refine hK _ _ ⟨HS.out _ (bal HB11.out _),?_⟩
        clear hK Kv k6c
        all_goals
         have hb12:Below wr.heap.size wr (w11.alloc (.cells #[.int .i64 i.op,.slice bo n9 bc,.slice none 0 0,.bool false] 230)):=bal HB11.out _
         have hUo:Upd K K w (w11.alloc (.cells #[.int .i64 i.op,.slice bo n9 bc,.slice none 0 0,.bool false] 230)):=HU.out.bel hb12
         have HOo:=Lib.hid ((HH.out.op.upd hUo HH.out.pk.noTy HH.out.ne).own)
         have HSo:=Lib.hid (sla_builtV w11 #[.int .i64 i.op,.slice bo n9 bc,.slice none 0 0,.bool false] 230 (n:=1) (size:=4) rfl)
         have hw0:w0.heap.size≤(w11.alloc (.cells #[.int .i64 i.op,.slice bo n9 bc,.slice none 0 0,.bool false] 230)).heap.size:=Nat.le_trans HH.out.hb.size hUo.size
         have HBl:=HBl6.out
         refine oO fun Kv hK=>?_
         refine wp_append_slx (.tmp 96) (.tmp 105) 199 rfl w0.heap.size 230 4 64 elV6 (.slice oo bs.length oc) bs.length _ rfl HOo.out (some ⟨w11.heap.size,0,none⟩) 1 1 (vbL i.op bo n9 bc) rfl HSo.out (by intro u hu;simp only [vbL,List.mem_cons,List.not_mem_nil,or_false] at hu;rcases hu with rfl|rfl|rfl|rfl<;>rfl) (by omega) (by unfold maxLen;omega) hw0 ?_
         intro ao2 cap2 w13 hown13 hg13
         have hP12:Pk (w11.alloc (.cells #[.int .i64 i.op,.slice bo n9 bc,.slice none 0 0,.bool false] 230)) K h m (.slice lo ls.length lc) (.slice so' (midV m ls i s).2.length sc') (.slice oo bs.length oc):=HPm.out.old hb12
         have hnK:(Value.slice oo bs.length oc).ownBlock≠some K:=by
          intro e9
          cases hoo:oo with
          | none=>rw [hoo] at e9;cases e9
          | some a=>rw [hoo] at e9;exact HH.out.ne a hoo (Option.some.inj e9)
         have hnI:(Value.slice oo bs.length oc).ownBlock≠some w.heap.size:=by
          intro e9
          have:=(HH.out.op.own.lt _ e9).2
          omega
         have hP13:Pk w13 K h m (.slice lo ls.length lc) (.slice so' (midV m ls i s).2.length sc') (.slice oo bs.length oc):=by
          unfold Pk Blk
          rw [hg13.block K (Blk.lt hP12) (fun e=>hnK e.symm)]
          exact hP12
         have hI13:Blk w13 w.heap.size #[.int .i64 i.op,.int .i64 i.a,.int .i64 i.b] 42:=by
          have h9:=HI.out.old hb12
          unfold Blk
          rw [hg13.block w.heap.size (Blk.lt h9) (fun e=>hnI e.symm)]
          exact h9
         have c5:w13.cell? ⟨K,5,none⟩=some (.slice so' n9 sc'):=by rw [←HNn.out];exact Blk.cell hP13 5 rfl
         have c6:w13.cell? ⟨K,6,none⟩=some (.slice oo bs.length oc):=Blk.cell hP13 6 rfl
         have f6:w13.frozen? ⟨K,6,none⟩=false:=Blk.frozen hP13 6
         have HPx:=Lib.hid hP13
         have HIx:=Lib.hid hI13
         have HOx:=Lib.hid hown13
         have HGx:=Lib.hid hg13
         have HBx:=Lib.hid hb12
         clear hP12 hnK hnI hP13 hown13 hg13 hb12 hUo hw0 HBl
         refine hK _ _ ⟨⟨c5,hI13.cell 0 rfl⟩,?_⟩
         clear hK Kv hI13
         repeat refine pO ?_
         refine oO fun Kv hK=>?_
         go_simp
         refine hK _ _ ⟨⟨?_,?_⟩,?_⟩
         ·rw [←HNn.out];exact Blk.cell (Blk.set HPx.out 6 _) 5 rfl
         ·exact (Blk.other HIx.out (by show w.heap.size≠K;omega) _).cell 0 rfl
         clear hK Kv c5 c6 f6
         refine wpMixO_done ?_
         go_wp2
         go_ret
         refine open6_end (bo:=bo) (bc:=bc) HH.out hn1 hn2 H3.out HM0.out HU.out HPm.out HTm.out HBx.out ?_ ?_ HGx.out
         ·exact (TyAt.own HO11.out).upd ((Upd.refl K K w11).alloc _) (Pk.noTy (HPm.out.old HB11.out)) (Pk.noTy (HPm.out.old HB11.out))
         ·rw [HNn.out];exact HOx.out
       ·have g29:¬ i.op ≥ 29:=by
         intro hh
         exact h3 (by unfold opensV inI;simp;omega)
        have h3':opensV i.op=false:=by simpa using h3
        have HPm:=Lib.hid hPm
        have HTm:=Lib.hid hTm
        clear hPm hTm hm2l hn9 h3
        go_wp2
        go_ret
        exact plain6_end HH.out hn1 hn2 h3' HM0.out HU.out HPm.out HTm.out
theorem S6.old {s:Ps} {so:Option Addr} {sc:Nat} {oo:Option Addr} {oc:Nat} {bs:List VB} (H:S6 w0 w K h m lo lc ls s so sc oo oc bs) {w1:World} (hb:Below w.heap.size w w1):S6 w0 w1 K h m lo lc ls s so sc oo oc bs:=
 ⟨H.pk.old hb,H.ts.upd (Upd.of (K:=K) (B:=K) hb) H.pk.noTy H.pk.noTy,H.op.upd (Upd.of hb) H.pk.noTy H.ne,H.tl.upd (Upd.of (K:=K) (B:=K) hb) H.pk.noTy H.pk.noTy,bthen H.hb hb,H.hK⟩
theorem P6.pre {oo:Option Addr} {q:Int × Ps} {r:Ending} {w' w1:World} (hb:Below w.heap.size w w1) (H:P6 w0 w1 K h m lo lc ls oo q r w'):P6 w0 w K h m lo lc ls oo q r w':=⟨H.1,(Upd.of hb).trans H.2.1,H.2.2⟩
theorem step6_cl {s:Ps} {oo:Option Addr} {i:In3} (hop:i.op=34∨i.op=35) (HC:∀ w1,Below w.heap.size w w1→Calls Tryz.prog 235 #[.pointer (some ⟨K,0,none⟩),.agg #[.int .i64 i.op,.int .i64 i.a,.int .i64 i.b]] w1 (P6 w0 w1 K h m lo lc ls oo (stepV m ls i s))):
  Calls Tryz.prog 193 #[.pointer (some ⟨K,0,none⟩),.agg #[.int .i64 i.op,.int .i64 i.a,.int .i64 i.b]] w (P6 w0 w K h m lo lc ls oo (stepV m ls i s)):=by
 obtain ⟨q,hq⟩:∃ q,q=stepV m ls i s:=⟨_,rfl⟩
 rw [←hq] at HC ⊢
 clear hq
 obtain ⟨op,ia,ib⟩:=i
 dsimp only at hop HC ⊢
 have hb0:Below w.heap.size w (w.alloc (.cells #[.int .i64 op,.int .i64 ia,.int .i64 ib] 42)):=by exact bE
 have HCl:=Lib.hid (HC _ hb0)
 have HB:=Lib.hid hb0
 clear HC hb0
 rcases hop with rfl|rfl
 all_goals
  go_enter Tryz.func193,Tryz.ntmps193
  go_wp2_with (go_at_call 235;refine HCl.out.mono ?_;rintro r w1 ⟨rfl,hu,hs⟩;have HU:=Lib.hid hu;have HS:=Lib.hid hs;clear hu hs)
  go_ret
  exact P6.pre HB.out ⟨rfl,HU.out,HS.out⟩
theorem step6_any {s:Ps} {so:Option Addr} {sc:Nat} {oo:Option Addr} {oc:Nat} {bs:List VB} {i:In3} {l:List In3} {k:Nat} (H:S6 w0 w K h m lo lc ls s so sc oo oc bs) (HM:ModAt w h m) (hm:modV m=true) (hlo:∀ t∈ls,tyOk m t) (hk:k<m.me.length) (hi:OpdOk m k i) (hop:0≤i.op∧i.op<36) (HW:Wf m s (i :: l)):
  Calls Tryz.prog 193 #[.pointer (some ⟨K,0,none⟩),.agg #[.int .i64 i.op,.int .i64 i.a,.int .i64 i.b]] w (P6 w0 w K h m lo lc ls oo (stepV m ls i s)):=by
 have hd:=HW.depth
 have hst:=HW.stk
 by_cases h34:i.op=34
 ·obtain ⟨r,o,hs,-,-⟩:=HW.else_ h34
  have hbl:o.beg.length≤12:=by
   have h9:=HW.opn
   rw [hs,List.reverse_append,List.reverse_singleton,List.singleton_append] at h9
   exact h9.1.1
  refine step6_cl (.inl h34) fun w1 hb=>?_
  have:=closes6_else (H.old hb) h34 hs hd hbl hst.1
  rwa [←h34] at this
 ·by_cases h35:i.op=35
  ·obtain ⟨r,o,hs,-⟩:=HW.end_ h35
   refine step6_cl (.inr h35) fun w1 hb=>?_
   have:=closes6_endc (H.old hb) h35 hs hd hst.1
   rwa [←h35] at this
  ·exact step6_mid H HM hm hlo hk hi (by omega) hst hd HW.base
end
end
section
open Go.RowKit
section
variable {w0 w:World}{K:Nat}{h:Hd}{m:Md}{lo:Option Addr}{lc:Nat}{ls:List Ty}{s:Ps}{sso:Option Addr}{ssc:Nat}{oo:Option Addr}{oc:Nat}{bs:List VB}
section
variable (H:S6 w0 w K h m lo lc ls s sso ssc oo oc bs)
include H
theorem S6.grow {w':World} {row:Option Nat} (hg:w.grownBy w' row) (hr:∀ b,row=some b→NoTy w b∧b≠K∧(∀ a,oo=some a→a.block≠b)∧w0.heap.size≤b):S6 w0 w' K h m lo lc ls s sso ssc oo oc bs:=by
 cases row with
 | none=>exact H.old ((Below.refl _ _).grown hg (Nat.le_refl _) (fun j hj=>by cases hj))
 | some b=>
  obtain ⟨h1,h2,h3,h4⟩:=hr b rfl
  have hu:Upd b b w w':=(Upd.refl b b w).grown hg (fun k hk=>.inl (Option.some.inj hk).symm)
  refine ⟨?_,H.ts.upd hu h1 h1,⟨own_eqV H.op.own fun k hk=>hu.block k (H.op.own.lt k hk).2 ?_ ?_,H.op.len,fun i hi=>(H.op.at_ i hi).upd hu h1 h1⟩,H.tl.upd hu h1 h1,hu.below H.hb (Nat.le_refl _) h4 h4,H.hK⟩
  ·exact Blk.upd H.pk hu h2.symm h2.symm
  all_goals
   intro e
   cases oo with
   | none=>cases hk
   | some a=>cases hk;exact h3 a rfl e
theorem S6.grow_st {so:Option Addr} {sc:Nat} {rows:List SH} {sts:List (List Ty)} (HS:StOwn w w0.heap.size so sc rows sts) {w':World} (hg:w.grownBy w' (Value.slice so rows.length sc).ownBlock):S6 w0 w' K h m lo lc ls s sso ssc oo oc bs:=by
 refine H.grow hg fun b hb=>⟨HS.noTy hb,fun e=>?_,fun a ha e=>?_,(HS.own.lt b hb).1⟩
 ·exact HS.ne (b:=K) (show w.heap[K]?=some (.cells _ 201 (0,0)) from H.pk) (by decide) (e▸hb)
 ·exact k86
theorem StOwn.step6 {w':World} {N:Nat} {so:Option Addr} {sc:Nat} {rows:List SH} {sts:List (List Ty)} (HS:StOwn w N so sc rows sts) (hu:Upd K (oblk K oo) w w'):StOwn w' N so sc rows sts:=by
 have h1:=HS.ne (b:=K) (show w.heap[K]?=some (.cells _ 201 (0,0)) from H.pk) (by decide)
 refine HS.upd hu H.pk.noTy (H.op.noTy H.pk.noTy) h1 ?_
 exact k85
theorem Blk.step6 {w':World} {b:Nat} {xs:Array Value} {t:TypeId} (HB:Blk w b xs t) (ht:t≠201) (ht2:t≠230) (hu:Upd K (oblk K oo) w w'):Blk w' b xs t:=by
 have h1:b≠K:=blk_ne HB H.pk ht
 exact k77
theorem S6.upper {w':World} (hu:Upd K (oblk K oo) w w'):Below w0.heap.size w0 w':=by
 refine hu.below H.hb (Nat.le_refl _) H.hK ?_
 exact k49
end
end
structure Rd6 (w wr:World) (K:Nat) (h:Hd) (m:Md) (kk:Nat) (lo:Option Addr) (lc:Nat) (ls:List Ty) (k:Nat) (so:Option Addr) (sc nr:Nat):Prop where
 ex:∃ (s:Ps) (acc:List (List Ty)) (rows:List SH) (sso:Option Addr) (ssc:Nat) (oo:Option Addr) (oc:Nat) (bs:List VB),
  S6 w wr K h m lo lc ls s sso ssc oo oc bs∧Wf m s ((m.me.getD kk default).k.drop k)∧rows.length=nr∧StOwn wr w.heap.size so sc rows acc ∧
  passV m kk=compP acc (passF m ls (m.me.getD kk default).r k ((m.me.getD kk default).k.drop k) s)
theorem S6.start {w w2:World}{h:Hd}{m:Md}{lo:Option Addr}{lc:Nat}{ls:List Ty}{K:Nat} (hb:Below w.heap.size w w2) (hK:w.heap.size≤K) (hl:TyAt w2 lo lc ls) (hp:Pk w2 K h m (.slice lo ls.length lc) (.slice none 0 0) (.slice none 0 0)) :
  S6 w w2 K h m lo lc ls ⟨[],[]⟩ none 0 none 0 []:=⟨hp,TyAt.nil _,⟨World.ownsRow_nil _ _ _ _,rfl,fun i hi=>by simp at hi⟩,hl,hb,hK⟩
theorem rMeth6_no (h:Hd) (m:Md) (at':Int) (w:World) (HM:ModAt w h m) (hno:modV m=false∨at' < 0∨(m.me.length:Int)≤at'):Calls Tryz.prog 138 #[.agg #[.slice h.co m.cl.length h.cc,.slice h.so m.st.length h.sc,.slice h.eo m.me.length h.ec,.int .i64 m.sel],.int .i64 at'] w (RetM w ([],0,1)):=by
 have hb0:Below w.heap.size w (w.alloc (.cells #[.slice h.co m.cl.length h.cc,.slice h.so m.st.length h.sc,.slice h.eo m.me.length h.ec,.int .i64 m.sel] 26)):=by exact bE
 have hx:=Blk.new w #[.slice h.co m.cl.length h.cc,.slice h.so m.st.length h.sc,.slice h.eo m.me.length h.ec,.int .i64 m.sel] 26
 have HC:=Lib.hid (rCheck_any m h _ (HM.old hb0))
 have HX:=Lib.hid hx
 have HB0:=Lib.hid hb0
 have hcs:(modV m=false)∨(modV m=true∧at' < 0)∨(modV m=true∧¬ at' < 0∧(m.me.length:Int)≤at'):=by
  cases hq:modV m
  ·exact .inl rfl
  ·rw [hq] at hno
   rcases hno with q|q|q
   ·cases q
   ·exact .inr (.inl ⟨rfl,q⟩)
   ·by_cases q2:at' < 0
    ·exact .inr (.inl ⟨rfl,q2⟩)
    ·exact .inr (.inr ⟨rfl,q2,q⟩)
 clear hx hb0 HM hno
 rcases hcs with q|⟨q,q2⟩|⟨q,q2,q3⟩
 all_goals
  rw [q] at HC
  have HQ:=Lib.hid q
  clear q
  go_enter Tryz.func138,Tryz.ntmps138
  go_wp2_with (go_at_call 94;refine HC.out.mono ?_;rintro e w1 ⟨rfl,hb1⟩;have c2:=(HX.out.old hb1).cell 2 (v:=.slice h.eo m.me.length h.ec) rfl)
  go_ret3
  exact RetM.no w (bthen HB0.out hb1) 0 1
theorem rMeth6_yes (h:Hd) (m:Md) (kk:Nat) (w:World) (HM:ModAt w h m) (hm:modV m=true) (hk:kk<m.me.length):Calls Tryz.prog 138 #[.agg #[.slice h.co m.cl.length h.cc,.slice h.so m.st.length h.sc,.slice h.eo m.me.length h.ec,.int .i64 m.sel],.int .i64 kk] w (RetM w (passV m kk)):=by
 have hmt:=mth_ok hm hk
 obtain ⟨ls,hls⟩:∃ l,l=localsV (m.me.getD kk default):=⟨_,rfl⟩
 obtain ⟨nc,hnc⟩:∃ n,n=(m.me.getD kk default).k.length:=⟨_,rfl⟩
 have hnc2:nc≤120:=by rw [hnc];exact hmt.z.2.2
 have hlo:=own_neg hm hk
 rw [←hls] at hlo
 have hb1:Below w.heap.size w (w.alloc (.cells #[.slice h.co m.cl.length h.cc,.slice h.so m.st.length h.sc,.slice h.eo m.me.length h.ec,.int .i64 m.sel] 26)):=by exact bE
 have hx1:=Blk.new w #[.slice h.co m.cl.length h.cc,.slice h.so m.st.length h.sc,.slice h.eo m.me.length h.ec,.int .i64 m.sel] 26
 have HC:=Lib.hid (show ∀ w',Below w.heap.size w w'→Calls Tryz.prog 94 #[.agg #[.slice h.co m.cl.length h.cc,.slice h.so m.st.length h.sc,.slice h.eo m.me.length h.ec,.int .i64 m.sel]] w' (Ret w' (.int .i64 0)) from fun w' hb'=>by have:=rCheck_any m h w' (HM.old hb');rwa [hm] at this)
 have HLo:=Lib.hid (show ∀ w',Below w.heap.size w w'→Calls Tryz.prog 153 #[.agg #[.slice h.co m.cl.length h.cc,.slice h.so m.st.length h.sc,.slice h.eo m.me.length h.ec,.int .i64 m.sel],.int .i64 kk] w' (RetOwn2 35 w' ls 0) from fun w' hb'=>by rw [hls];exact rLocals_yes m h kk w' (HM.old hb') hm hk)
 obtain ⟨W1,hW1⟩:∃ W1,W1=w.alloc (.cells #[.slice h.co m.cl.length h.cc,.slice h.so m.st.length h.sc,.slice h.eo m.me.length h.ec,.int .i64 m.sel] 26):=⟨_,rfl⟩
 rw [←hW1] at hx1 hb1
 have HX:=Lib.hid (show ∀ w',Below W1.heap.size W1 w'→_ from fun w' hb=>blk4 (hx1.old hb))
 have HX1:=Lib.hid hx1
 have HHM:=Lib.hid HM
 have HHm:=Lib.hid hm
 have HMt:=Lib.hid hmt
 have HLs:=Lib.hid hls
 have HLt:=Lib.hid hlo
 have HNc:=Lib.hid hnc
 have HW1:=Lib.hid hW1
 have HB1:=Lib.hid hb1
 have hkk2:(kk:Int) < m.me.length:=by omega
 have hkk3:¬ (kk:Int) < 0:=by omega
 have hkk4:¬ (m.me.length:Int)≤kk:=by omega
 clear hx1 HM hm hmt hls hlo hnc hW1 hb1
 go_enter Tryz.func138,Tryz.ntmps138
 go_upto_region 1 with fail
 rw [←HW1.out]
 obtain ⟨c0,c1,c2,c3⟩:=HX.out _ (Below.refl _ _)
 go_upto_region 4 with (first
  | (go_at_call 94;refine (HC.out _ HB1.out).mono ?_;rintro e w2 ⟨rfl,hb2⟩;have HB2:=Lib.hid hb2;clear hb2 c0 c1 c2 c3;obtain ⟨c0,c1,c2,c3⟩:=HX.out _ HB2.out)
  | (go_at_call 153;refine (HLo.out _ (bthen HB1.out HB2.out)).mono ?_;rintro r w3 ⟨⟨lo,lc,rfl,hown3⟩,hb3⟩;have HO3:=Lib.hid hown3;have HB3:=Lib.hid (bthen HB2.out hb3);clear hown3 hb3 c0 c1 c2 c3;obtain ⟨c0,c1,c2,c3⟩:=HX.out _ HB3.out))
 obtain ⟨W4,hW4⟩:∃ W4,W4=w3.alloc (.cells #[.slice h.co m.cl.length h.cc,.slice h.so m.st.length h.sc,.slice h.eo m.me.length h.ec,.int .i64 m.sel,.slice lo ls.length lc,.slice none 0 0,.slice none 0 0] 201):=⟨_,rfl⟩
 have hp4:Pk W4 w3.heap.size h m (.slice lo ls.length lc) (.slice none 0 0) (.slice none 0 0):=by rw [hW4];exact Blk.new w3 _ _
 have hb34:Below w3.heap.size w3 W4:=by rw [hW4];exact bE
 have ht4:TyAt W4 lo lc ls:=by rw [hW4];exact TyAt.alloc' (TyAt.own HO3.out) _
 go_upto_region 5 with fail
 rw [←hW4]
 have HB4:=Lib.hid (bthen HB3.out hb34)
 clear c0 c1 c2 c3
 obtain ⟨ea,heo,m0,m1,m2,m3,m4,m5,m6⟩:=(HHM.out.old (bthen HB1.out HB4.out)).mth hk
 obtain ⟨c0,c1,c2,c3⟩:=HX.out _ HB4.out
 rw [heo] at c2
 obtain ⟨ma,hma⟩:∃ a,a=ea.add (kk*7):=⟨_,rfl⟩
 rw [←HNc.out] at m6
 obtain ⟨nm,mc,pn,ln,rk,rq,hX7⟩:∃ (nm:ByteArray) (mc:Int) (pn ln:Nat) (rk rq:Int),nm=(m.me.getD kk default).n∧mc=(m.me.getD kk default).c∧pn=(m.me.getD kk default).p.length∧ln=(m.me.getD kk default).l.length∧(⟨rk,rq⟩:Ty)=(m.me.getD kk default).r:=⟨_,_,_,_,(m.me.getD kk default).r.k,(m.me.getD kk default).r.c,rfl,rfl,rfl,rfl,rfl⟩
 obtain ⟨e0,e1,e2,e3,e4⟩:=hX7
 rw [←e4] at m4 m5
 rw [←e0] at m0
 rw [←e1] at m1
 rw [←e2] at m2
 rw [←e3] at m3
 dsimp only at m4 m5
 have HR4:=Lib.hid e4
 have HSt:=Lib.hid (S6.start (bthen HB1.out HB4.out) (bthen HB1.out HB3.out).size ht4 hp4)
 have HW4:=Lib.hid hW4
 clear hW4 hp4 hb34 ht4 e0 e1 e2 e3 e4
 have hx5:=Blk.new W4 #[.string nm,.int .i64 mc,.slice (h.e kk).po pn (h.e kk).pc,.slice (h.e kk).lo ln (h.e kk).lc,.int .i64 rk,.int .i64 rq,.slice (h.e kk).ko nc (h.e kk).kc] 38
 obtain ⟨W5,hW5⟩:∃ W5,W5=W4.alloc (.cells #[.string nm,.int .i64 mc,.slice (h.e kk).po pn (h.e kk).pc,.slice (h.e kk).lo ln (h.e kk).lc,.int .i64 rk,.int .i64 rq,.slice (h.e kk).ko nc (h.e kk).kc] 38):=⟨_,rfl⟩
 have hb45:Below W4.heap.size W4 W5:=by rw [hW5];exact bE
 go_upto_region 6 with fail
 rw [←hW5] at hx5 ⊢
 clear c0 c1 c2 c3 m0 m1 m2 m3 m4 m5 m6 hma heo hW5
 have HSt5:=Lib.hid (HSt.out.old hb45)
 obtain ⟨K,hK⟩:∃ K,K=w3.heap.size:=⟨_,rfl⟩
 obtain ⟨X,hX⟩:∃ X,X=W4.heap.size:=⟨_,rfl⟩
 rw [←hK] at HSt5 ⊢
 rw [←hX] at hx5 ⊢
 have HX5:=Lib.hid hx5
 have hwf:Wf m ⟨[],[]⟩ (m.me.getD kk default).k:=wf_start HMt.out.n
 have hpv:passV m kk=compP [] (passF m ls (m.me.getD kk default).r 0 (m.me.getD kk default).k ⟨[],[]⟩):=by
  rw [←passF_start,HLs.out];rfl
 have HRd:=Lib.hid (show Rd6 w W5 K h m kk lo lc ls 0 none 0 0 from ⟨⟨_,[],[],_,_,_,_,_,HSt5.out,by rw [List.drop_zero];exact hwf,rfl,StOwn.nil _ _,by rw [List.drop_zero];exact hpv⟩⟩)
 clear hx5 hb45 hK hX hwf hpv HSt HSt5 HW4 HB4 HB3 HO3 HB2
 go_wp2
 go_loopw [11,12] (fun a i wr=>∃ (k:Nat) (so:Option Addr) (sc nr:Nat),k≤nc∧i=.int .i64 k∧a=.slice so nr sc∧nr=k∧Hid (Rd6 w wr K h m kk lo lc ls k so sc nr)∧Hid (Blk wr X #[.string nm,.int .i64 mc,.slice (h.e kk).po pn (h.e kk).pc,.slice (h.e kk).lo ln (h.e kk).lc,.int .i64 rk,.int .i64 rq,.slice (h.e kk).ko nc (h.e kk).kc] 38)) (fun _ i _=>nc-(intOf i).toNat)
 case atStart=>exact ⟨0,none,0,0,by omega,rfl,rfl,rfl,HRd,HX5⟩
 case round=>
  obtain ⟨k,so,sc,nr,hkn,rfl,rfl,hnr,HR,HXr⟩:=hrel
  have HNr:=Lib.hid hnr
  clear hnr
  obtain ⟨s,acc,rows,sso,ssc,oo,oc,bs,hst,hwf,hrl,hso,hpv⟩:=HR.out.ex
  subst hrl
  have HSt:=Lib.hid hst
  have HWf:=Lib.hid hwf
  have HSo:=Lib.hid hso
  have HPv:=Lib.hid hpv
  have k5:wr.cell? ⟨K,5,none⟩=some (.slice sso s.stk.length ssc):=Blk.cell hst.pk 5 rfl
  have x6:wr.cell? ⟨X,6,none⟩=some (.slice (h.e kk).ko nc (h.e kk).kc):=HXr.out.cell 6 rfl
  have HBr:=Lib.hid hst.hb
  have hs12:=hwf.stk.1
  have HCo:=Lib.hid (show ∀ w',Below wr.heap.size wr w'→Calls Tryz.prog 192 #[.slice sso s.stk.length ssc] w' (RetOwn 35 w' s.stk) from fun w' hb'=>copied_any w' sso ssc s.stk (HSt.out.ts.1.old hb') (by omega))
  clear hst hwf hso hpv HRd HR
  by_cases hkl:k<nc
  ·have hkl2:(k:Int) < nc:=by omega
   have hkd:k<(m.me.getD kk default).k.length:=by have:=HNc.out;omega
   obtain ⟨hopd,hop0,hop36⟩:=getD_opd HMt.out hkd
   have HIn:=Lib.hid (show ∀ w',Below w.heap.size w w'→_ from fun w' hb'=>row_in ((HHM.out.old hb').k kk hk) hkd)
   obtain ⟨i,hi⟩:∃ i,i=(m.me.getD kk default).k.getD k default:=⟨_,rfl⟩
   have hdr:(m.me.getD kk default).k.drop k=i :: (m.me.getD kk default).k.drop (k+1):=by rw [hi];exact drop_getD hkd
   rw [←hi] at hopd hop0 hop36 HIn
   have hwr:IntKind.i64.wrap ((k:Int)+1)=k+1:=IntWalk.i64_in _ (by omega)
   have hwf2:=HWf.out
   rw [hdr] at hwf2
   have hpv2:=HPv.out
   rw [hdr] at hpv2
   have HWf2:=Lib.hid hwf2
   have HPv2:=Lib.hid hpv2
   have HOpd:=Lib.hid hopd
   have HO0:=Lib.hid (And.intro hop0 hop36)
   obtain ⟨er,her⟩:∃ e,e=(stepV m ls i s).1:=⟨_,rfl⟩
   have HEr:=Lib.hid her
   clear hopd hdr hi hwf2 hpv2 her hop0 hop36
   as_aux_lemma=>
   go_upto_region 11 with (first
    | (go_at_call 192;refine (HCo.out _ (Below.refl _ _)).mono ?_;rintro r w2 ⟨⟨to',tc,rfl,hown2⟩,hb2⟩;have HO2:=Lib.hid hown2;have HB2:=Lib.hid hb2;have HB3':=Lib.hid (show Below wr.heap.size wr (w2.alloc (.cells #[.slice to' s.stk.length tc] 23)) from bal hb2 _);have HSo3:=Lib.hid (HSo.out.old HB3'.out);have HT3:=Lib.hid (TyAt.alloc' (TyAt.own HO2.out) (.cells #[.slice to' s.stk.length tc] 23));have HX3':=Lib.hid (sla_blkV (n:=1) (size:=1) (Blk.new w2 #[.slice to' s.stk.length tc] 23) rfl);have hzz:=HB3'.out.size;have hzw:=HBr.out.size;clear hown2 hb2)
    | (at_builtin;refine wpList_wp rfl ?_;refine wp_append_slx (.tmp 51) (.tmp 57) 122 rfl w.heap.size 23 1 24 elVs _ rows.length _ rfl HSo3.out.own _ 1 1 [.slice to' s.stk.length tc] rfl HX3'.out (by intro u hu;rw [List.mem_singleton.1 hu];rfl) (by have:=HNr.out;omega) (by have:=HNr.out;unfold maxLen;omega) (by omega) ?_;intro ao2 cap2 w4 hown4 hg4;have HS4:=Lib.hid (HSo3.out.snoc HT3.out hown4 hg4);have HSt4:=Lib.hid (S6.grow_st (HSt.out.old HB3'.out) HSo3.out hg4);have HXr4:=Lib.hid (Blk.grown_st HSo3.out (HXr.out.old HB3'.out) (by decide) hg4);have x64:=HXr4.out.cell 6 (v:=.slice (h.e kk).ko nc (h.e kk).kc) rfl;clear hown4 hg4))
   obtain ⟨ka,hka,i0,i1,i2⟩:=HIn.out w4 HSt4.out.hb
   have hstep:=step6_any HSt4.out (HHM.out.old HSt4.out.hb) HHm.out HLt.out hk HOpd.out HO0.out HWf2.out
   rw [hka] at x64
   clear hka k5 x6
   obtain ⟨op,ia,ib⟩:=i
   dsimp only at i0 i1 i2 hstep
   have HStep:=Lib.hid hstep
   clear hstep
   go_upto_region 12 with (go_at_call 193;refine HStep.out.mono ?_;rintro r w5 ⟨rfl,hu5,hse⟩;rw [←HEr.out];have HU5:=Lib.hid hu5;have HSe:=Lib.hid hse;clear hu5 hse)
   by_cases h0:er=0
   ·subst h0
    obtain ⟨sso2,ssc2,oo2,oc2,bs2,hst5⟩:=HSe.out HEr.out.symm
    have hrd:Rd6 w w5 K h m kk lo lc ls (k+1) ao2 cap2 (rows.length+1):=⟨⟨_,acc++[s.stk],_,sso2,ssc2,oo2,oc2,bs2,hst5,wf_step HHm.out HLt.out hk HO0.out HOpd.out HWf2.out HEr.out.symm,by simp,StOwn.step6 HSt4.out HS4.out HU5.out,by rw [HPv2.out,passF_cons_ok HEr.out.symm,compP_comp]⟩⟩
    have HRd5:=Lib.hid hrd
    have HX5:=Lib.hid (Blk.step6 HSt4.out HXr4.out (by decide) (by decide) HU5.out)
    clear hst5 hrd
    go_wp2
    go_roundw
    case rel=>exact ⟨k+1,ao2,cap2,rows.length+1,by omega,by go_num,rfl,by rw [HNr.out],HRd5,HX5⟩
    case measure=>simp [intOf];omega
   ·have hn0:(er != 0)=true:=by simpa using h0
    have HPe:=Lib.hid (show passV m kk=([],k,er) by rw [HPv2.out,passF_cons_no (by rw [←HEr.out];exact h0),←HEr.out];exact compP_no h0)
    have HBe:=Lib.hid (S6.upper HSt4.out HU5.out)
    go_wp2
    go_ret3
    rw [HPe.out]
    exact RetM.no w HBe.out k er
  ·have hke:nc=k:=by omega
   subst hke
   have hknn:¬ (nc:Int) < nc:=by omega
   have hdn:(m.me.getD kk default).k.drop nc=[]:=by rw [List.drop_eq_nil_iff];have:=HNc.out;omega
   have hpv2:=HPv.out
   rw [hdn,←HR4.out,passF_nil] at hpv2
   have hrt:=HMt.out.r
   rw [←HR4.out] at hrt
   have HRt:=Lib.hid hrt
   obtain ⟨ev,hev⟩:∃ e,e=endedV m ⟨rk,rq⟩ s.stk:=⟨_,rfl⟩
   rw [←hev] at hpv2
   have HPv2:=Lib.hid hpv2
   have HEv:=Lib.hid hev
   clear hdn hpv2 hrt hev hkl
   as_aux_lemma=>
   go_upto_region 15 with (first
    | (go_at_call 192;refine (HCo.out _ (Below.refl _ _)).mono ?_;rintro r w2 ⟨⟨to',tc,rfl,hown2⟩,hb2⟩;have HO2:=Lib.hid hown2;have HB2:=Lib.hid hb2;have HB3':=Lib.hid (show Below wr.heap.size wr (w2.alloc (.cells #[.slice to' s.stk.length tc] 23)) from bal hb2 _);have HSo3:=Lib.hid (HSo.out.old HB3'.out);have HT3:=Lib.hid (TyAt.alloc' (TyAt.own HO2.out) (.cells #[.slice to' s.stk.length tc] 23));have HX3':=Lib.hid (sla_blkV (n:=1) (size:=1) (Blk.new w2 #[.slice to' s.stk.length tc] 23) rfl);have hzz:=HB3'.out.size;have hzw:=HBr.out.size;clear hown2 hb2)
    | (at_builtin;refine wpList_wp rfl ?_;refine wp_append_slx (.tmp 70) (.tmp 76) 122 rfl w.heap.size 23 1 24 elVs _ rows.length _ rfl HSo3.out.own _ 1 1 [.slice to' s.stk.length tc] rfl HX3'.out (by intro u hu;rw [List.mem_singleton.1 hu];rfl) (by have:=HNr.out;omega) (by have:=HNr.out;unfold maxLen;omega) (by omega) ?_;intro ao2 cap2 w4 hown4 hg4;have HS4:=Lib.hid (HSo3.out.snoc HT3.out hown4 hg4);have HSt4:=Lib.hid (S6.grow_st (HSt.out.old HB3'.out) HSo3.out hg4);have HXr4:=Lib.hid (Blk.grown_st HSo3.out (HXr.out.old HB3'.out) (by decide) hg4);have x44:=HXr4.out.cell 4 (v:=.int .i64 rk) rfl;have x45:=HXr4.out.cell 5 (v:=.int .i64 rq) rfl;clear hown4 hg4))
   have HEn:=Lib.hid (ended6_any (r:=⟨rk,rq⟩) HSt4.out.pk (HHM.out.old HSt4.out.hb) HSt4.out.ts.1 HHm.out HWf.out.stk.2 (fun q=>ty_none HRt.out q))
   rw [←HEv.out] at HEn
   go_upto_region 16 with (go_at_call 194;refine HEn.out.mono ?_;rintro r w5 ⟨rfl,hb5⟩;have HB5:=Lib.hid hb5;clear hb5;have x56:=(HXr4.out.old HB5.out).cell 6 (v:=.slice (h.e kk).ko nc (h.e kk).kc) rfl)
   by_cases h0:ev=0
   ·have HPe:=Lib.hid (show passV m kk=(acc++[s.stk],0,0) by rw [HPv2.out,if_pos h0];rfl)
    subst h0
    go_wp2
    go_ret3
    rw [HPe.out]
    exact ⟨⟨ao2,cap2,rows++[⟨to',s.stk.length,tc⟩],by simp,HS4.out.old HB5.out⟩,bthen HSt4.out.hb HB5.out⟩
   ·have hn0:(ev != 0)=true:=by simpa using h0
    have HPe:=Lib.hid (show passV m kk=([],nc,ev) by rw [HPv2.out,if_neg h0];exact compP_no h0)
    go_wp2_with fail
    refine rO (fun w':World=>w'.cell? ⟨X,6,none⟩=some (.slice (h.e kk).ko nc (h.e kk).kc)) (oL [0,1,2,3,4,5,6]) x56 ?_
    repeat refine pO ?_
    refine wpMixO_done ?_
    go_wp2
    go_ret3
    rw [HPe.out]
    exact RetM.no w (Below.drew (bthen HSt4.out.hb HB5.out)) nc ev
theorem rMeth6_any (h:Hd) (m:Md) (at':Int) (w:World) (HM:ModAt w h m):Calls Tryz.prog 138 #[.agg #[.slice h.co m.cl.length h.cc,.slice h.so m.st.length h.sc,.slice h.eo m.me.length h.ec,.int .i64 m.sel],.int .i64 at'] w (RetM w (methodV m at')):=by
 unfold methodV
 by_cases hq:modV m=true∧0≤at'∧at' < m.me.length
 ·rw [if_pos hq]
  obtain ⟨q1,q2,q3⟩:=hq
  obtain ⟨k,rfl⟩:∃ k:Nat,at'=k:=⟨at'.toNat,by omega⟩
  rw [Int.toNat_natCast]
  exact rMeth6_yes h m k w HM q1 (by omega)
 ·rw [if_neg hq]
  refine rMeth6_no h m at' w HM ?_
  cases hm:modV m
  ·exact .inl rfl
  ·by_cases h0:at' < 0
   ·exact .inr (.inl h0)
   ·exact .inr (.inr (by
     by_cases h1:(m.me.length:Int)≤at'
     ·exact h1
     ·exact absurd ⟨hm,by omega,by omega⟩ hq))
end
section
open Go.RowKit
def modF (m:Md):Nat→Nat→Nat × Nat × Int
 | 0,_=>(0,0,0)
 | n+1,k=>if (passV m k).2.2=0 then modF m n (k+1) else (k,(passV m k).2.1,(passV m k).2.2)
def moduleV (m:Md):Nat × Nat × Int:=if modV m=true then modF m m.me.length 0 else (0,0,1)
def Ret3 (W:World) (q:Nat × Nat × Int):Ending→World→Prop:=fun e w'=>e=.returned (.tuple #[.int .i64 (q.1:Int),.int .i64 (q.2.1:Int),.int .i64 q.2.2])∧Below W.heap.size W w'
theorem methodV_in {m:Md} (hm:modV m=true) {k:Nat} (hk:k<m.me.length):methodV m k=passV m k:=by
 unfold methodV
 rw [if_pos ⟨hm,by omega,by omega⟩,Int.toNat_natCast]
theorem vModule_any (w:World) (h:Hd) (m:Md) (H:ModAt w h m):Calls Tryz.prog 60 #[.agg #[.slice h.co m.cl.length h.cc,.slice h.so m.st.length h.sc,.slice h.eo m.me.length h.ec,.int .i64 m.sel]] w (Ret3 w (moduleV m)):=by
 obtain ⟨W0,hW0⟩:∃ W0,W0=w.alloc (.cells #[.slice h.co m.cl.length h.cc,.slice h.so m.st.length h.sc,.slice h.eo m.me.length h.ec,.int .i64 m.sel] 26):=⟨_,rfl⟩
 have hb0:Below w.heap.size w W0:=by rw [hW0];exact bE
 have x0:Blk W0 w.heap.size #[.slice h.co m.cl.length h.cc,.slice h.so m.st.length h.sc,.slice h.eo m.me.length h.ec,.int .i64 m.sel] 26:=by rw [hW0];exact Blk.new w _ _
 have HX:=Lib.hid (show ∀ w',Below W0.heap.size W0 w'→_ from fun w' hb=>blk4 (x0.old hb))
 have HC:=Lib.hid (lCheck_any m h W0 (H.old hb0))
 have HW:=Lib.hid hW0
 have HB0:=Lib.hid hb0
 obtain ⟨n,hn⟩:∃ n,n=m.me.length:=⟨_,rfl⟩
 have hn5:n≤140737488355328:=by rw [hn];exact H.bz.2.2
 have HN:=Lib.hid hn
 have HM:=Lib.hid H
 clear x0 hW0 hb0 hn H
 cases hq:modV m
 ·have HQ:=Lib.hid hq
  rw [hq] at HC
  clear hq
  rw [show moduleV m=(0,0,1) by unfold moduleV;rw [HQ.out];rfl]
  go_enter Tryz.func60,Tryz.ntmps60
  go_upto_region 1 with fail
  rw [←HW.out]
  obtain ⟨c0,c1,c2,c3⟩:=HX.out _ (Below.refl _ _)
  go_wp2_with (go_at_call 92;refine HC.out.mono ?_;rintro r w1 ⟨rfl,hb1⟩;have HB1:=Lib.hid hb1;clear hb1)
  go_ret3
  exact ⟨rfl,bthen HB0.out HB1.out⟩
 ·have HQ:=Lib.hid hq
  rw [hq] at HC
  clear hq
  obtain ⟨q,hmq⟩:∃ q,q=moduleV m:=⟨_,rfl⟩
  have hmf:modF m n 0=q:=by rw [hmq,HN.out];unfold moduleV;rw [HQ.out];rfl
  rw [←hmq]
  have HMf:=Lib.hid hmf
  have HP:=Lib.hid (show ∀ (k:Nat),k<n→∀ w',Below w.heap.size w w'→Calls Tryz.prog 93 #[.agg #[.slice h.co m.cl.length h.cc,.slice h.so m.st.length h.sc,.slice h.eo m.me.length h.ec,.int .i64 m.sel],.int .i64 k] w' (RetM w' (passV m k)) from fun k hk w' hb'=>vMethod_any h m k w' (HM.out.old hb') HQ.out (by rw [←HN.out];exact hk))
  clear hmq hmf
  go_enter Tryz.func60,Tryz.ntmps60
  go_upto_region 1 with fail
  rw [←HW.out]
  obtain ⟨c0,c1,c2,c3⟩:=HX.out _ (Below.refl _ _)
  go_wp2_with (go_at_call 92;refine HC.out.mono ?_;rintro r w1 ⟨rfl,hb1⟩;have HB1:=Lib.hid hb1;clear hb1 c0 c1 c2 c3;obtain ⟨c0,c1,c2,c3⟩:=HX.out _ HB1.out;rw [←HN.out] at c2)
  clear c0 c1 c2 c3
  go_loopw [15] (fun i wr=>∃ k:Nat,k≤n∧i=.int .i64 k∧Below W0.heap.size W0 wr∧Hid (modF m (n-k) k=q)) (fun i _=>n-(intOf i).toNat)
  case atStart=>exact ⟨0,by omega,rfl,HB1.out,HMf⟩
  case round=>
   obtain ⟨k,hk,rfl,hbel,HF⟩:=hrel
   have HL:=Lib.hid hbel
   clear hbel
   obtain ⟨c0,c1,c2,c3⟩:=HX.out _ HL.out
   rw [←HN.out] at c2
   by_cases hkl:k<n
   ·have hkn:(k:Int) < n:=by omega
    have hwr:IntKind.i64.wrap ((k:Int)+1)=k+1:=IntWalk.i64_in _ (by omega)
    have hfk:=HF.out
    rw [show n-k=(n-(k+1))+1 by omega,modF] at hfk
    have hPk:=HP.out k hkl
    generalize passV m k=p at hPk hfk
    obtain ⟨sts,pl,er⟩:=p
    have HPk:=Lib.hid hPk
    dsimp only at hfk
    have HFk:=Lib.hid hfk
    clear hPk hfk
    go_upto_region 7 with (go_at_call 93;have h9:=HPk.out _ (bthen HB0.out HL.out);rw [←HN.out] at h9;refine h9.mono ?_;rintro r w2 ⟨⟨so,sc,rows,rfl,hs⟩,hb2⟩;have HB2:=Lib.hid (bthen HL.out hb2);clear hs hb2 h9)
    exact k33
   ·exact k63
theorem rModule_any (w:World) (h:Hd) (m:Md) (H:ModAt w h m):Calls Tryz.prog 95 #[.agg #[.slice h.co m.cl.length h.cc,.slice h.so m.st.length h.sc,.slice h.eo m.me.length h.ec,.int .i64 m.sel]] w (Ret3 w (moduleV m)):=by
 obtain ⟨W0,hW0⟩:∃ W0,W0=w.alloc (.cells #[.slice h.co m.cl.length h.cc,.slice h.so m.st.length h.sc,.slice h.eo m.me.length h.ec,.int .i64 m.sel] 26):=⟨_,rfl⟩
 have hb0:Below w.heap.size w W0:=by rw [hW0];exact bE
 have x0:Blk W0 w.heap.size #[.slice h.co m.cl.length h.cc,.slice h.so m.st.length h.sc,.slice h.eo m.me.length h.ec,.int .i64 m.sel] 26:=by rw [hW0];exact Blk.new w _ _
 have HX:=Lib.hid (show ∀ w',Below W0.heap.size W0 w'→_ from fun w' hb=>blk4 (x0.old hb))
 have HC:=Lib.hid (rCheck_any m h W0 (H.old hb0))
 have HW:=Lib.hid hW0
 have HB0:=Lib.hid hb0
 obtain ⟨n,hn⟩:∃ n,n=m.me.length:=⟨_,rfl⟩
 have hn5:n≤140737488355328:=by rw [hn];exact H.bz.2.2
 have HN:=Lib.hid hn
 have HM:=Lib.hid H
 clear x0 hW0 hb0 hn H
 cases hq:modV m
 ·have HQ:=Lib.hid hq
  rw [hq] at HC
  clear hq
  rw [show moduleV m=(0,0,1) by unfold moduleV;rw [HQ.out];rfl]
  go_enter Tryz.func95,Tryz.ntmps95
  go_upto_region 1 with fail
  rw [←HW.out]
  obtain ⟨c0,c1,c2,c3⟩:=HX.out _ (Below.refl _ _)
  go_wp2_with (go_at_call 94;refine HC.out.mono ?_;rintro r w1 ⟨rfl,hb1⟩;have HB1:=Lib.hid hb1;clear hb1)
  go_ret3
  exact ⟨rfl,bthen HB0.out HB1.out⟩
 ·have HQ:=Lib.hid hq
  rw [hq] at HC
  clear hq
  obtain ⟨q,hmq⟩:∃ q,q=moduleV m:=⟨_,rfl⟩
  have hmf:modF m n 0=q:=by rw [hmq,HN.out];unfold moduleV;rw [HQ.out];rfl
  rw [←hmq]
  have HMf:=Lib.hid hmf
  have HP:=Lib.hid (show ∀ (k:Nat),k<n→∀ w',Below w.heap.size w w'→Calls Tryz.prog 138 #[.agg #[.slice h.co m.cl.length h.cc,.slice h.so m.st.length h.sc,.slice h.eo m.me.length h.ec,.int .i64 m.sel],.int .i64 k] w' (RetM w' (passV m k)) from fun k hk w' hb'=>by have:=rMeth6_any h m k w' (HM.out.old hb');rwa [methodV_in HQ.out (by rw [←HN.out];exact hk)] at this)
  clear hmq hmf
  go_enter Tryz.func95,Tryz.ntmps95
  go_upto_region 1 with fail
  rw [←HW.out]
  obtain ⟨c0,c1,c2,c3⟩:=HX.out _ (Below.refl _ _)
  go_wp2_with (go_at_call 94;refine HC.out.mono ?_;rintro r w1 ⟨rfl,hb1⟩;have HB1:=Lib.hid hb1;clear hb1 c0 c1 c2 c3;obtain ⟨c0,c1,c2,c3⟩:=HX.out _ HB1.out;rw [←HN.out] at c2)
  clear c0 c1 c2 c3
  go_loopw [5] (fun i wr=>∃ k:Nat,k≤n∧i=.int .i64 k∧Below W0.heap.size W0 wr∧Hid (modF m (n-k) k=q)) (fun i _=>n-(intOf i).toNat)
  case atStart=>exact ⟨0,by omega,rfl,HB1.out,HMf⟩
  case round=>
   obtain ⟨k,hk,rfl,hbel,HF⟩:=hrel
   have HL:=Lib.hid hbel
   clear hbel
   obtain ⟨c0,c1,c2,c3⟩:=HX.out _ HL.out
   rw [←HN.out] at c2
   by_cases hkl:k<n
   ·have hkn:(k:Int) < n:=by omega
    have hwr:IntKind.i64.wrap ((k:Int)+1)=k+1:=IntWalk.i64_in _ (by omega)
    have hfk:=HF.out
    rw [show n-k=(n-(k+1))+1 by omega,modF] at hfk
    have hPk:=HP.out k hkl
    generalize passV m k=p at hPk hfk
    obtain ⟨sts,pl,er⟩:=p
    have HPk:=Lib.hid hPk
    dsimp only at hfk
    have HFk:=Lib.hid hfk
    clear hPk hfk
    go_upto_region 7 with (go_at_call 138;have h9:=HPk.out _ (bthen HB0.out HL.out);rw [←HN.out] at h9;refine h9.mono ?_;rintro r w2 ⟨⟨so,sc,rows,rfl,hs⟩,hb2⟩;have HB2:=Lib.hid (bthen HL.out hb2);clear hs hb2 h9)
    exact k33
   ·exact k63
end
end Go.Proofs.YtfkbfjhocmbneaaGreat
