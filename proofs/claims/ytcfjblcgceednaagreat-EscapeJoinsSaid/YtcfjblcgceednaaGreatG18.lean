/- Joined texts. The first: ref06: what an instruction pushes. -/
import Derived.Test.YtcfjblcgceednaaGreatG16
import Derived.Test.YtcfjblcgceednaaGreatG15
import Derived.Test.YtcfjblcgceednaaGreatG17
set_option linter.all false
set_option linter.unusedVariables false
set_option linter.unusedSimpArgs false
set_option maxRecDepth 100000
set_option maxHeartbeats 10000000
namespace Go.Proofs.YtcfjblcgceednaaGreat
theorem k8{p:Prop}(h:p:=by
 rw [←HW1.out]
 clear a0 a1 hal
 refine kO HS.out (oL [0,1,2,3,4,5,6,7,8,9,10,11,12,13,14,15,16,17,18]) (Upd.of HB0.out).drew ?_
 have HB1:=Zh HB0.out.drew
 repeat refine pO ?_
 refine Zd5 ?_
 obtain ⟨y0,y1,g0,g1⟩:=Zki (HX.out.old HB0.out)
 go_wp2
 refine bodyPost_ret (v:=.tuple #[.agg #[.int .i64 0,.int .i64 0],.bool false]) (by simp [results,Tryz.results338,go_sem,y0,y1]) rfl ?_
 exact Zkl HPv.out (Zkj HBw.out HB1.out)):p:=h
theorem k12{p:Prop}(h:p:=by
 clear H HM ht hr
 go_enter Tryz.func273,Tryz.ntmps273
 go_wp2
 refine bodyPost_ret (v:=.tuple #[.agg #[.int .i64 0,.int .i64 0],.bool true]) (by simp [results,Tryz.results273,go_sem,Nat.add_zero]) rfl ?_
 exact Zkk HPv.out bE):p:=h
theorem k13{p:Prop}(h:p:=by
 have i0:=(HBi.out.old HB3.out).cell 0 (v:=.int .i64 20) rfl
 have HS2:=Zh (Zkh HS.out (Upd.of HB3.out) hx6 (by omega))
 clear hx6 x0 x1
 go_wp2_with fail
 refine kO HS2.out (oL [0,1,2,3,4,5,6,7,8,109,110,11]) (Upd.refl _ _ _).drew ?_
 repeat refine pO ?_
 refine oO fun Kv hK=>?_
 go_simp
 refine (HFi.out _ (Zaf HBw.out (Zaf HB3.out (show Below w6.heap.size w6 w6.drew by exact bE)))).mono ?_
 rintro r w7 ⟨rfl,hb7⟩
 have HBv:=Zh (Zaf (show Below w6.heap.size w6 w6.drew by exact bE) hb7)
 have HB4:=Zh (Zaf HB3.out HBv.out)
 refine hK _ _ ⟨HS2.out _ (Upd.of HBv.out),?_⟩
 clear hK Kv hb7
 repeat refine pO ?_
 obtain ⟨y0,y1,g0,g1⟩:=Zki (HX.out.old HB4.out)
 refine oO fun Kv hK=>?_
 go_simp
 refine hK _ _ ⟨HS2.out _ (((Upd.of HBv.out).set 0 _).set 1 _),?_⟩
 clear hK Kv
 repeat refine pO ?_
 refine Zd5 ?_
 go_wp2
 refine bodyPost_ret (v:=.tuple #[.agg #[.int .i64 0,.int .i64 0],.bool ft]) (by simp [results,Tryz.results338,go_sem,y0,y1]) rfl ?_
 exact Zko HPv.out Hft.out (Zkj HBw.out HB4.out)):p:=h
theorem k15{p:Prop}(h:p:=by
 have HB0:=Zh (Below.refl W1.heap.size W1)
 have hne:=ZdW
 have heq:=ZdV
 have hgu:=ZdX
 have hal:=Zac a0
 clear H HM ht hr
 go_enter Tryz.func338,Tryz.ntmps338
 go_upto_region 12 with fail
 rw [←HW1.out]
 clear a0 a1 hal
 refine kO HS.out (oL [1,2,3,100,4,5,6,7,8,109,10]) (Upd.of HB0.out).drew ?_
 have HB1:=Zh HB0.out.drew
 repeat refine pO ?_
 refine oO fun Kv hK=>?_
 go_simp
 refine (Zj9 _).mono ?_
 rintro r w5 ⟨rfl,hb5⟩
 have HB2:=Zh (Zaf HB1.out hb5)
 refine hK _ _ ⟨HS.out _ (Upd.of HB2.out),?_⟩
 clear hK Kv hb5
 repeat refine pO ?_
 obtain ⟨y0,y1,g0,g1⟩:=Zki (HX.out.old HB2.out)
 refine oO fun Kv hK=>?_
 go_simp
 refine hK _ _ ⟨HS.out _ (((Upd.of HB2.out).set 0 _).set 1 _),?_⟩
 clear hK Kv
 repeat refine pO ?_
 refine Zd5 ?_
 go_wp2
 refine bodyPost_ret (v:=.tuple #[.agg #[.int .i64 1,.int .i64 0],.bool true]) (by simp [results,Tryz.results338,go_sem,y0,y1]) rfl ?_
 exact k88):p:=h
theorem k17{p:Prop}(h:p:=by
 go_enter Tryz.func273,Tryz.ntmps273
 go_upto_region 39 with fail
 rw [←HW1.out]
 refine kO HS.out (oL [0,1,2,3,104,5,6,7,8,9,10,11,12,13,14,15,16,17,18,19,20,21,22,23,24,125,26,27,128,29]) (Upd.of HB0.out).drew ?_
 have HB1:=Zh HB0.out.drew
 repeat refine pO ?_
 refine oO fun Kv hK=>?_
 go_simp
 refine (Zj9 _).mono ?_
 rintro r w5 ⟨rfl,hb5⟩
 have HB2:=Zh (Zaf HB1.out hb5)
 refine hK _ _ ⟨HS.out _ (Upd.of HB2.out),?_⟩
 clear hK Kv hb5
 repeat refine pO ?_
 refine sO 185 (HS.out _ (Upd.of HB2.out)) ?_
 repeat refine pO ?_
 obtain ⟨y0,y1,g0,g1⟩:=Zki (HX.out.old HB2.out)
 refine oO fun Kv hK=>?_
 go_simp
 refine hK _ _ ⟨HS.out _ (((Upd.of HB2.out).set 0 _).set 1 _),?_⟩
 clear hK Kv
 repeat refine pO ?_
 refine Zd5 ?_
 go_wp2
 refine bodyPost_ret (v:=.tuple #[.agg #[.int .i64 0,.int .i64 0],.bool false]) (by simp [results,Tryz.results273,go_sem,y0,y1]) rfl ?_
 exact Zkl HPv.out (Zkj HBw.out HB2.out)):p:=h
theorem k44{p:Prop}(h:p:=by
 unfold Zkp
 have hz:=fun j (hj:j<m.me.length)=>(ZfN hm hj).z.1
 split
 ·rename_i q
  have:=hz i.a.toNat (by have:=(hi.o25 q).1;have:=hi.a0 (by omega);omega)
  omega
 ·split
  ·simp
  ·rename_i x hx
   obtain ⟨j,h1,h2,-⟩:=ZfV hi hc hx
   have:=hz j (by omega)
   rw [←h2] at this
   simp;omega):p:=h
theorem k58{p:Prop}(h:p:=by
 clear H HM ht hr
 go_enter Tryz.func273,Tryz.ntmps273
 go_wp2
 refine bodyPost_ret (v:=.tuple #[.agg #[.int .i64 3,.int .i64 0],.bool true]) (by simp [results,Tryz.results273,go_sem,Nat.add_zero]) rfl ?_
 exact Zkk HPv.out bE):p:=h
theorem k88{p:Prop}(h:p:=by
 exact Zkk HPv.out (Zkj HBw.out HB2.out)):p:=h
section
open Go.RowKit
def Pk (w:World) (K:Nat) (h:Hd) (m:Md) (L S O:Value):Prop:=Blk w K #[.slice h.co m.cl.length h.cc,.slice h.so m.st.length h.sc,.slice h.eo m.me.length h.ec,.int .i64 m.sel,L,S,O] 229
theorem Pk.cells {w:World}{K:Nat}{h:Hd}{m:Md}{L S O:Value} (H:Pk w K h m L S O):K<w.heap.size∧w.cell? ⟨K,0,none⟩=some (.slice h.co m.cl.length h.cc)∧w.cell? ⟨K,1,none⟩=some (.slice h.so m.st.length h.sc)∧w.cell? ⟨K,2,none⟩=some (.slice h.eo m.me.length h.ec)∧w.cell? ⟨K,3,none⟩=some (.int .i64 m.sel)∧w.cell? ⟨K,4,none⟩=some L:=
 ⟨Blk.lt H,Blk.cell H 0 rfl,Blk.cell H 1 rfl,Blk.cell H 2 rfl,Blk.cell H 3 rfl,Blk.cell H 4 rfl⟩
theorem Zj4 {w w':World} (hb:Below w.heap.size w w') {p:Addr}{v:Value} (hc:w.cell? p=some v):w'.cell? p=some v:=(hb.cell (Zac hc)).trans hc
theorem Zj5 {w:World}{K:Nat}{h:Hd}{m:Md}{t:TypeId} (H:Blk w K #[.slice h.co m.cl.length h.cc,.slice h.so m.st.length h.sc,.slice h.eo m.me.length h.ec,.int .i64 m.sel] t):w.cell? ⟨K,0,none⟩=some (.slice h.co m.cl.length h.cc)∧w.cell? ⟨K,1,none⟩=some (.slice h.so m.st.length h.sc)∧w.cell? ⟨K,2,none⟩=some (.slice h.eo m.me.length h.ec)∧w.cell? ⟨K,3,none⟩=some (.int .i64 m.sel):=
 ⟨H.cell 0 rfl,H.cell 1 rfl,H.cell 2 rfl,H.cell 3 rfl⟩
def Zj6 (W:World) (q:Option Ty):Ending→World→Prop:=fun e w'=>∃ t:Ty,e=.returned (.tuple #[.agg #[.int .i64 t.k,.int .i64 t.c],.bool q.isSome])∧(∀ u,q=some u→t=u)∧Below W.heap.size W w'
theorem Zj7 {W w':World}{q:Option Ty}{x y:Int}{b:Bool} (hb:b=q.isSome) (ht:∀ u,q=some u→(⟨x,y⟩:Ty)=u) (h:Below W.heap.size W w'):Zj6 W q (.returned (.tuple #[.agg #[.int .i64 x,.int .i64 y],.bool b])) w':=⟨⟨x,y⟩,by rw [hb],ht,h⟩
theorem Zj8 {w W1 w':World}{rb:Nat} (hb:Below w.heap.size w W1) (hrb:w.heap.size≤rb) (hu:Upd rb rb W1 w') {p:Addr}{v:Value} (hc:w.cell? p=some v):w'.cell? p=some v:=
 hu.cell ((hb.cell (Zac hc)).trans hc) (by have:=Zac hc;omega) (by have:=Zac hc;omega)
theorem Zj9 (w:World):Calls Tryz.prog 337 #[] w (Ret w (.agg #[.int .i64 1,.int .i64 0])):=by
 go_enter Tryz.func337,Tryz.ntmps337
 go_wp2
 exact bodyPost_ret (v:=.agg #[.int .i64 1,.int .i64 0]) (by simp [results,Tryz.results337,go_sem]) rfl ⟨rfl,by exact bE⟩
theorem Zka {w:World}{la:Option Addr}{lcap:Nat}{a:Ty} (hr:Zar w la lcap ([a]:List Ty)):∃ ad,la=some ad∧w.cell? ad=some (.int .i64 a.k)∧w.cell? ⟨ad.block,ad.off+1,none⟩=some (.int .i64 a.c):=by
 obtain ⟨ad,hla,a0,a1⟩:=Zaz hr (i:=0) (by simp)
 simp only [Nat.zero_mul,List.getD_cons_zero,show ad.add 0=ad from by simp [Addr.add]] at a0 a1
 exact ⟨ad,hla,a0,a1⟩
theorem Zkb {w:World}{la:Option Addr}{lcap:Nat}{a b:Ty} (hr:Zar w la lcap ([a,b]:List Ty)):∃ ad,la=some ad∧w.cell? ad=some (.int .i64 a.k)∧w.cell? ⟨ad.block,ad.off+1,none⟩=some (.int .i64 a.c)∧w.cell? ⟨ad.block,ad.off+2,none⟩=some (.int .i64 b.k)∧w.cell? ⟨ad.block,ad.off+3,none⟩=some (.int .i64 b.c):=by
 obtain ⟨ad,hla,a0,a1⟩:=Zaz hr (i:=0) (by simp)
 obtain ⟨ad1,hla1,b0,b1⟩:=Zaz hr (i:=1) (by simp)
 rw [hla] at hla1
 cases hla1
 simp only [Nat.zero_mul,List.getD_cons_zero,show ad.add 0=ad from by simp [Addr.add]] at a0 a1
 exact ⟨ad,hla,a0,a1,b0,b1⟩
theorem Zkc {w:World}{la:Option Addr}{lcap:Nat}{a b d:Ty} (hr:Zar w la lcap ([a,b,d]:List Ty)):∃ ad,la=some ad∧w.cell? ad=some (.int .i64 a.k)∧w.cell? ⟨ad.block,ad.off+1,none⟩=some (.int .i64 a.c)∧w.cell? ⟨ad.block,ad.off+2,none⟩=some (.int .i64 b.k)∧w.cell? ⟨ad.block,ad.off+3,none⟩=some (.int .i64 b.c)∧w.cell? ⟨ad.block,ad.off+4,none⟩=some (.int .i64 d.k)∧w.cell? ⟨ad.block,ad.off+5,none⟩=some (.int .i64 d.c):=by
 obtain ⟨ad,hla,a0,a1⟩:=Zaz hr (i:=0) (by simp)
 obtain ⟨ad1,hla1,b0,b1⟩:=Zaz hr (i:=1) (by simp)
 obtain ⟨ad2,hla2,d0,d1⟩:=Zaz hr (i:=2) (by simp)
 rw [hla] at hla1 hla2
 cases hla1
 cases hla2
 simp only [Nat.zero_mul,List.getD_cons_zero,show ad.add 0=ad from by simp [Addr.add]] at a0 a1
 exact ⟨ad,hla,a0,a1,b0,b1,d0,d1⟩
def Zkd (S:World→Prop) (r:Nat) (W1:World):Prop:=∀ w',Upd r r W1 w'→S w'
theorem Zke {w W1 w':World}{rb:Nat} (hb:Below w.heap.size w W1) (hrb:w.heap.size≤rb) (hu:Upd rb rb W1 w'):∀ {l:List (Addr × Value)},Cs l w→Cs l w'
 | [],_=>trivial
 | (_,_) :: _,h=>⟨Zj8 hb hrb hu h.1,Zke hb hrb hu h.2⟩
theorem Zkf (w:World) (op ia ib:Int) {l:List (Addr × Value)} (h:Cs l w):∃ W1,RowKit.Hid (W1=((w.alloc (.cells #[.int .i64 op,.int .i64 ia,.int .i64 ib] 78)).alloc (.cells #[.int .i64 0,.int .i64 0] 76)))∧RowKit.Hid (Below w.heap.size w W1)∧RowKit.Hid (Blk W1 (w.heap.size+1) #[.int .i64 0,.int .i64 0] 76) ∧
  RowKit.Hid (Zkd (fun w'=>Cs l w'∧Cs [(⟨w.heap.size,0,none⟩,.int .i64 op),(⟨w.heap.size,1,none⟩,.int .i64 ia),(⟨w.heap.size,2,none⟩,.int .i64 ib)] w') (w.heap.size+1) W1)∧w.heap.size+1<W1.heap.size:=by
 obtain ⟨W1,hW1⟩:∃ W1,W1=((w.alloc (.cells #[.int .i64 op,.int .i64 ia,.int .i64 ib] 78)).alloc (.cells #[.int .i64 0,.int .i64 0] 76)):=⟨_,rfl⟩
 have hb1:Below w.heap.size w W1:=by rw [hW1];exact bE
 have hbi:Blk W1 w.heap.size #[.int .i64 op,.int .i64 ia,.int .i64 ib] 78:=by rw [hW1];exact ((Blk.new w _ _).alloc _)
 have hbr:Blk W1 (w.heap.size+1) #[.int .i64 0,.int .i64 0] 76:=by rw [hW1];exact (Blk.new' (w:=w.alloc (.cells #[.int .i64 op,.int .i64 ia,.int .i64 ib] 78)) _ _ (by simp))
 exact ⟨W1,hW1,hb1,hbr,fun w' hu=>⟨Zke hb1 (Nat.le_succ _) hu h,hu.cell (hbi.cell 0 rfl) (by show w.heap.size≠_;omega) (by show w.heap.size≠_;omega),hu.cell (hbi.cell 1 rfl) (by show w.heap.size≠_;omega) (by show w.heap.size≠_;omega),hu.cell (hbi.cell 2 rfl) (by show w.heap.size≠_;omega) (by show w.heap.size≠_;omega),trivial⟩,hbr.lt⟩
theorem Zkg (w:World) (op ia ib tk tc:Int) {l:List (Addr × Value)} (h:Cs l w):∃ W1,RowKit.Hid (W1=((w.alloc (.cells #[.int .i64 op,.int .i64 ia,.int .i64 ib] 78)).alloc (.cells #[.int .i64 0,.int .i64 0] 76)).alloc (.cells #[.int .i64 tk,.int .i64 tc] 76))∧RowKit.Hid (Below w.heap.size w W1)∧RowKit.Hid (Blk W1 (w.heap.size+1) #[.int .i64 0,.int .i64 0] 76)∧RowKit.Hid (Blk W1 (w.heap.size+2) #[.int .i64 tk,.int .i64 tc] 76)∧RowKit.Hid (Blk W1 w.heap.size #[.int .i64 op,.int .i64 ia,.int .i64 ib] 78) ∧
  RowKit.Hid (Zkd (fun w'=>Cs l w'∧Cs [(⟨w.heap.size+2,0,none⟩,.int .i64 tk),(⟨w.heap.size+2,1,none⟩,.int .i64 tc),(⟨w.heap.size,0,none⟩,.int .i64 op),(⟨w.heap.size,1,none⟩,.int .i64 ia),(⟨w.heap.size,2,none⟩,.int .i64 ib)] w') (w.heap.size+1) W1)∧w.heap.size+1<W1.heap.size:=by
 obtain ⟨W1,hW1⟩:∃ W1,W1=((w.alloc (.cells #[.int .i64 op,.int .i64 ia,.int .i64 ib] 78)).alloc (.cells #[.int .i64 0,.int .i64 0] 76)).alloc (.cells #[.int .i64 tk,.int .i64 tc] 76):=⟨_,rfl⟩
 have hb1:Below w.heap.size w W1:=by rw [hW1];exact bE
 have hbi:Blk W1 w.heap.size #[.int .i64 op,.int .i64 ia,.int .i64 ib] 78:=by rw [hW1];exact ((Blk.new w _ _).alloc _).alloc _
 have hbr:Blk W1 (w.heap.size+1) #[.int .i64 0,.int .i64 0] 76:=by rw [hW1];exact (Blk.new' (w:=w.alloc (.cells #[.int .i64 op,.int .i64 ia,.int .i64 ib] 78)) _ _ (by simp)).alloc _
 have hbt:Blk W1 (w.heap.size+2) #[.int .i64 tk,.int .i64 tc] 76:=by rw [hW1];exact Blk.new' (w:=(w.alloc (.cells #[.int .i64 op,.int .i64 ia,.int .i64 ib] 78)).alloc (.cells #[.int .i64 0,.int .i64 0] 76)) _ _ (by simp)
 exact ⟨W1,hW1,hb1,hbr,hbt,hbi,fun w' hu=>⟨Zke hb1 (Nat.le_succ _) hu h,hu.cell (hbt.cell 0 rfl) (by show w.heap.size+2≠_;omega) (by show w.heap.size+2≠_;omega),hu.cell (hbt.cell 1 rfl) (by show w.heap.size+2≠_;omega) (by show w.heap.size+2≠_;omega),hu.cell (hbi.cell 0 rfl) (by show w.heap.size≠_;omega) (by show w.heap.size≠_;omega),hu.cell (hbi.cell 1 rfl) (by show w.heap.size≠_;omega) (by show w.heap.size≠_;omega),hu.cell (hbi.cell 2 rfl) (by show w.heap.size≠_;omega) (by show w.heap.size≠_;omega),trivial⟩,hbr.lt⟩
theorem Zkh {S:World→Prop}{r b:Nat}{W1 w2:World} (HS:Zkd S r W1) (hu:Upd r r W1 w2) {tk tc:Int}{t:TypeId} (hx:Blk w2 b #[.int .i64 tk,.int .i64 tc] t) (hb:b≠r):Zkd (fun w'=>S w'∧Cs [(⟨b,0,none⟩,.int .i64 tk),(⟨b,1,none⟩,.int .i64 tc)] w') r w2:=
 fun w' hu'=>⟨HS w' (hu.trans hu'),hu'.cell (hx.cell 0 rfl) hb hb,hu'.cell (hx.cell 1 rfl) hb hb,trivial⟩
theorem kO {P:Program}{S:World→Prop}{Q:Exit→Act→World→Prop}{id r:Nat}{a:Act}{W1 w:World}{l:List Oper} (HS:Zkd S r W1) (t:Ord) (hu:Upd r r W1 w.drew) (h:ZdY P l Q S t a w.drew) (hm:P.follows .mixedOrders=true:=by kernel_rfl)
  (hB:(Region.noSelect l.toArray&&decide (t.len=l.length)&&t.inB l.length&&ZdZ .any l.toArray t (Array.replicate l.length false))=true:=by kernel_rfl) (hQ:∀ c a d v w,Q (.panic c) (Act.put a d v) w→Q (.panic c) a w:=by intro c a d v w h;cases d<;>exact h):(Code.region id l.toArray true).wp P Q a w:=Zd1 S t hm hB hQ (HS _ hu) h
theorem sO {P:Program}{S:World→Prop}{Q:Exit→Act→World→Prop}{l:List Oper}{k:Nat}{t:Ord}{a a':Act}{w:World} (d:Tmp) (hS:S w) (h:ZdY P l Q S t a' w) (hs:(l.toArray[k]?.map fun o=>(o.dst,Region.wanted o (yielded l.toArray a.tmps)))=some (some d,false):=by rfl)
  (ha:({ a with tmps:=a.tmps.setIfInBounds d undef }:Act)=a':=by ((try simp only [List.setIfInBounds_toArray,List.set_cons_zero,List.set_cons_succ]);rfl)):ZdY P l Q S (.one k t) a w:=by
 subst ha
 exact Zd3 (Zh0 d hs ⟨hS,h⟩)
theorem Zki {w:World}{b:Nat}{t:TypeId} (H:Blk w b #[.int .i64 0,.int .i64 0] t):w.cell? ⟨b,0,none⟩=some (.int .i64 0)∧w.cell? ⟨b,1,none⟩=some (.int .i64 0)∧w.frozen? ⟨b,0,none⟩=false∧w.frozen? ⟨b,1,none⟩=false:=⟨H.cell 0 rfl,H.cell 1 rfl,H.frozen 0,H.frozen 1⟩
theorem Zkj {w W1 w':World} (hb:Below w.heap.size w W1) (hb':Below W1.heap.size W1 w') {v u:Value}:Below w.heap.size w ((w'.setCell ⟨w.heap.size+1,0,none⟩ v).setCell ⟨w.heap.size+1,1,none⟩ u):=ZcW (ZcW (Zaf hb hb') (Nat.le_succ _) _) (Nat.le_succ _) _
theorem Zkk {W w':World}{q:Option Ty}{x y:Int} (h:q=some ⟨x,y⟩) (hb:Below W.heap.size W w'):Zj6 W q (.returned (.tuple #[.agg #[.int .i64 x,.int .i64 y],.bool true])) w':=Zj7 (by rw [h];rfl) (fun u hu=>Option.some.inj (h.symm.trans hu)) hb
theorem Zkl {W w':World}{q:Option Ty}{x y:Int} (h:q=none) (hb:Below W.heap.size W w'):Zj6 W q (.returned (.tuple #[.agg #[.int .i64 x,.int .i64 y],.bool false])) w':=Zj7 (by rw [h];rfl) (fun u hu=>by rw [h] at hu;cases hu) hb
theorem Zkm {c:Bool}{t:Ty}:c=(if c=true then some t else none).isSome:=by cases c<;>rfl
theorem Zkn {c:Bool}{t u:Ty} (h:(if c=true then some t else none)=some u):t=u:=by cases c<;>simp_all
theorem Zko {W w':World}{q:Option Ty}{x y:Int}{b c:Bool} (h:q=if c=true then some ⟨x,y⟩ else none) (hc:b=c) (hb:Below W.heap.size W w'):Zj6 W q (.returned (.tuple #[.agg #[.int .i64 x,.int .i64 y],.bool b])) w':=Zj7 (by rw [h,hc];exact Zkm) (fun u hu=>Zkn (h.symm.trans hu)) hb
end
section
open Go.RowKit
def Zkp (m:Md) (i:In3):List Ty:=if i.op=25 then (m.me.getD i.a.toNat default).p else match Zew m i with
 | none=>[]
 | some x=>⟨2,-1⟩ :: x.p
def Zkq (m:Md) (i:In3):Ty:=match Zew m i with
 | none=>ty0
 | some x=>x.r
section
variable {w:World}{K:Nat}{h:Hd}{m:Md}{L S O:Value}(H:Pk w K h m L S O)(HM:Zay w h m)(hm:Za1 m=true){ia:Nat}{ib:Int}
include w K h m L S O H HM hm ia ib
theorem Zkr (hj:ia<m.me.length):
  Calls Tryz.prog 336 #[.pointer (some ⟨K,0,none⟩),.agg #[.int .i64 25,.int .i64 ia,.int .i64 ib]] w (ZdE w (m.me.getD ia default).p):=by
 obtain ⟨kl,k0,k1,k2,k3,-⟩:=H.cells
 obtain ⟨ea,heo,-,-,f2,-,f4,f5,-⟩:=HM.mth hj
 obtain ⟨ma,hma⟩:∃ a,a=ea.add (ia*7):=⟨_,rfl⟩
 rw [←hma] at f2 f4 f5
 rw [heo] at k2
 obtain ⟨ps,hps⟩:∃ l,l=(m.me.getD ia default).p:=⟨_,rfl⟩
 rw [←hps] at f2 ⊢
 have HPs:=Zh hps
 clear hps
 obtain ⟨np,hnp⟩:∃ n,n=ps.length:=⟨_,rfl⟩
 rw [←hnp] at f2
 obtain ⟨W1,hW1⟩:∃ W1,W1=(w.alloc (.cells #[.int .i64 25,.int .i64 ia,.int .i64 ib] 78)):=⟨_,rfl⟩
 have hb1:Below w.heap.size w W1:=by rw [hW1];exact bE
 have hbi:Blk W1 w.heap.size #[.int .i64 25,.int .i64 ia,.int .i64 ib] 78:=by rw [hW1];exact (Blk.new w _ _)
 have hS:∀ w',Below W1.heap.size W1 w'→(fun w':World=>w'.cell? ⟨K,2,none⟩=some (.slice (some ea) m.me.length h.ec)∧w'.cell? ⟨ma.block,ma.off+2,none⟩=some (.slice (h.e ia).po np (h.e ia).pc)∧w'.cell? ⟨w.heap.size,0,none⟩=some (.int .i64 25)∧w'.cell? ⟨w.heap.size,1,none⟩=some (.int .i64 ia)∧w'.cell? ⟨w.heap.size,2,none⟩=some (.int .i64 ib)) w':=fun w' hu=>⟨Zj4 (Zaf hb1 hu) k2,Zj4 (Zaf hb1 hu) f2,(hbi.old hu).cell 0 rfl,(hbi.old hu).cell 1 rfl,(hbi.old hu).cell 2 rfl⟩
 have HS:=Zh hS
 have HBw:=Zh hb1
 have HW1:=Zh hW1
 have HHM:=Zh HM
 have HMa:=Zh hma
 have hj2:(ia:Int) < m.me.length:=by omega
 have HB0:=Zh (Below.refl W1.heap.size W1)
 have HNp:=Zh hnp
 clear hS hW1 hb1 hbi H HM hm k0 k1 k2 k3 hma heo f2 f4 f5 hnp
 go_enter Tryz.func336,Tryz.ntmps336
 go_upto_region 2 with fail
 rw [←HW1.out]
 refine rO (fun w':World=>w'.cell? ⟨K,2,none⟩=some (.slice (some ea) m.me.length h.ec)∧w'.cell? ⟨ma.block,ma.off+2,none⟩=some (.slice (h.e ia).po np (h.e ia).pc)∧w'.cell? ⟨w.heap.size,0,none⟩=some (.int .i64 25)∧w'.cell? ⟨w.heap.size,1,none⟩=some (.int .i64 ia)∧w'.cell? ⟨w.heap.size,2,none⟩=some (.int .i64 ib)) (oL [0,1,2,3,4,5,6,7,8,9,10]) (HS.out _ HB0.out.drew) ?_
 have HB1:=Zh HB0.out.drew
 iterate 8 (refine pO ?_)
 rw [←HMa.out]
 repeat refine pO ?_
 refine Zd5 ?_
 go_wp2
 go_ret
 rw [HNp.out]
 exact ⟨⟨_,_,rfl,by rw [HPs.out];exact (HHM.out.old (Zaf HBw.out HB1.out)).p ia hj⟩,Zaf HBw.out HB1.out⟩
theorem Zks (hs:(ia:Int) < m.sel) (htg:ZaN m ia=[]):
  Calls Tryz.prog 336 #[.pointer (some ⟨K,0,none⟩),.agg #[.int .i64 26,.int .i64 ia,.int .i64 ib]] w (ZdE w ([]:List Ty)):=by
 obtain ⟨kl,k0,k1,k2,k3,-⟩:=H.cells
 obtain ⟨W1,hW1⟩:∃ W1,W1=(w.alloc (.cells #[.int .i64 26,.int .i64 ia,.int .i64 ib] 78)):=⟨_,rfl⟩
 have hb1:Below w.heap.size w W1:=by rw [hW1];exact bE
 have hbi:Blk W1 w.heap.size #[.int .i64 26,.int .i64 ia,.int .i64 ib] 78:=by rw [hW1];exact (Blk.new w _ _)
 have hS:∀ w',Below W1.heap.size W1 w'→(fun w':World=>w'.cell? ⟨K,0,none⟩=some (.slice h.co m.cl.length h.cc)∧w'.cell? ⟨K,1,none⟩=some (.slice h.so m.st.length h.sc)∧w'.cell? ⟨K,2,none⟩=some (.slice h.eo m.me.length h.ec)∧w'.cell? ⟨K,3,none⟩=some (.int .i64 m.sel)∧w'.cell? ⟨w.heap.size,0,none⟩=some (.int .i64 26)∧w'.cell? ⟨w.heap.size,1,none⟩=some (.int .i64 ia)∧w'.cell? ⟨w.heap.size,2,none⟩=some (.int .i64 ib)) w':=fun w' hu=>⟨Zj4 (Zaf hb1 hu) k0,Zj4 (Zaf hb1 hu) k1,Zj4 (Zaf hb1 hu) k2,Zj4 (Zaf hb1 hu) k3,(hbi.old hu).cell 0 rfl,(hbi.old hu).cell 1 rfl,(hbi.old hu).cell 2 rfl⟩
 have HS:=Zh hS
 have HBw:=Zh hb1
 have HW1:=Zh hW1
 have HHM:=Zh HM
 have HB0:=Zh (Below.refl W1.heap.size W1)
 have HT:=Zh (show ∀ w',Below W1.heap.size W1 w'→Calls Tryz.prog 348 #[.agg #[.slice h.co m.cl.length h.cc,.slice h.so m.st.length h.sc,.slice h.eo m.me.length h.ec,.int .i64 m.sel],.int .i64 ia] w' (Zij w' (ZaN m ia) 0) from fun w' hb'=>Zjn m h ia w' (HM.old (Zaf hb1 hb')) hm hs)
 obtain ⟨nt,hnt⟩:∃ n,n=(ZaN m ia).length:=⟨_,rfl⟩
 have HNt:=Zh hnt
 have HTg:=Zh htg
 clear hS hW1 hb1 hbi H HM hm k0 k1 k2 k3 htg hnt
 go_enter Tryz.func336,Tryz.ntmps336
 go_upto_region 3 with fail
 rw [←HW1.out]
 refine rO (fun w':World=>w'.cell? ⟨K,0,none⟩=some (.slice h.co m.cl.length h.cc)∧w'.cell? ⟨K,1,none⟩=some (.slice h.so m.st.length h.sc)∧w'.cell? ⟨K,2,none⟩=some (.slice h.eo m.me.length h.ec)∧w'.cell? ⟨K,3,none⟩=some (.int .i64 m.sel)∧w'.cell? ⟨w.heap.size,0,none⟩=some (.int .i64 26)∧w'.cell? ⟨w.heap.size,1,none⟩=some (.int .i64 ia)∧w'.cell? ⟨w.heap.size,2,none⟩=some (.int .i64 ib)) (oL [0,1,2,3,4,5,106,7,8,9,10,11]) (HS.out _ HB0.out.drew) ?_
 have HB1:=Zh HB0.out.drew
 repeat refine pO ?_
 refine oO fun Kv hK=>?_
 go_simp
 refine (HT.out _ HB1.out).mono ?_
 rintro r w2 ⟨⟨ao,cap,rfl,hrow⟩,hb2⟩
 have HB2:=Zh (Zaf HB1.out hb2)
 rw [←HNt.out]
 refine hK _ _ ⟨HS.out _ HB2.out,?_⟩
 clear hK Kv hb2
 repeat refine pO ?_
 refine Zd5 ?_
 have hn0:nt=0:=by rw [HNt.out,HTg.out];rfl
 subst hn0
 clear hrow
 go_wp2
 go_ret
 exact ⟨⟨none,0,rfl,Zar.nil _⟩,Zaf HBw.out HB2.out⟩
theorem Zkt (hs:(ia:Int) < m.sel) {tj:Nat} {rest:List Int} (htg:ZaN m ia=(tj:Int) :: rest) (htj:tj<m.me.length):
  Calls Tryz.prog 336 #[.pointer (some ⟨K,0,none⟩),.agg #[.int .i64 26,.int .i64 ia,.int .i64 ib]] w (ZdE w ((⟨2,-1⟩:Ty) :: (m.me.getD tj default).p)):=by
 obtain ⟨kl,k0,k1,k2,k3,-⟩:=H.cells
 have k2':=k2
 obtain ⟨ea,heo,-,-,f2,-,f4,f5,-⟩:=HM.mth htj
 obtain ⟨ma,hma⟩:∃ a,a=ea.add (tj*7):=⟨_,rfl⟩
 rw [←hma] at f2 f4 f5
 rw [heo] at k2'
 have hpl:(m.me.getD tj default).p.length≤4:=(ZfN hm htj).z.1
 obtain ⟨ps,hps⟩:∃ l,l=(m.me.getD tj default).p:=⟨_,rfl⟩
 rw [←hps] at f2 hpl ⊢
 have HPs:=Zh hps
 clear hps
 obtain ⟨np,hnp⟩:∃ n,n=ps.length:=⟨_,rfl⟩
 rw [←hnp] at f2 hpl
 obtain ⟨W1,hW1⟩:∃ W1,W1=(w.alloc (.cells #[.int .i64 26,.int .i64 ia,.int .i64 ib] 78)):=⟨_,rfl⟩
 have hb1:Below w.heap.size w W1:=by rw [hW1];exact bE
 have hbi:Blk W1 w.heap.size #[.int .i64 26,.int .i64 ia,.int .i64 ib] 78:=by rw [hW1];exact (Blk.new w _ _)
 have hS:∀ w',Below W1.heap.size W1 w'→(fun w':World=>w'.cell? ⟨K,0,none⟩=some (.slice h.co m.cl.length h.cc)∧w'.cell? ⟨K,1,none⟩=some (.slice h.so m.st.length h.sc)∧w'.cell? ⟨K,2,none⟩=some (.slice h.eo m.me.length h.ec)∧w'.cell? ⟨K,3,none⟩=some (.int .i64 m.sel)∧w'.cell? ⟨w.heap.size,0,none⟩=some (.int .i64 26)∧w'.cell? ⟨w.heap.size,1,none⟩=some (.int .i64 ia)∧w'.cell? ⟨w.heap.size,2,none⟩=some (.int .i64 ib)) w':=fun w' hu=>⟨Zj4 (Zaf hb1 hu) k0,Zj4 (Zaf hb1 hu) k1,Zj4 (Zaf hb1 hu) k2,Zj4 (Zaf hb1 hu) k3,(hbi.old hu).cell 0 rfl,(hbi.old hu).cell 1 rfl,(hbi.old hu).cell 2 rfl⟩
 have HS:=Zh hS
 have hS2:∀ w',Below W1.heap.size W1 w'→(fun w':World=>w'.cell? ⟨K,2,none⟩=some (.slice (some ea) m.me.length h.ec)∧w'.cell? ⟨ma.block,ma.off+2,none⟩=some (.slice (h.e tj).po np (h.e tj).pc)∧w'.cell? ⟨w.heap.size,0,none⟩=some (.int .i64 26)∧w'.cell? ⟨w.heap.size,1,none⟩=some (.int .i64 ia)∧w'.cell? ⟨w.heap.size,2,none⟩=some (.int .i64 ib)) w':=fun w' hu=>⟨Zj4 (Zaf hb1 hu) k2',Zj4 (Zaf hb1 hu) f2,(hbi.old hu).cell 0 rfl,(hbi.old hu).cell 1 rfl,(hbi.old hu).cell 2 rfl⟩
 have HS2:=Zh hS2
 have HMa:=Zh hma
 have HNp:=Zh hnp
 have HBw:=Zh hb1
 have HW1:=Zh hW1
 have HHM:=Zh HM
 have HB0:=Zh (Below.refl W1.heap.size W1)
 have HT:=Zh (show ∀ w',Below W1.heap.size W1 w'→Calls Tryz.prog 348 #[.agg #[.slice h.co m.cl.length h.cc,.slice h.so m.st.length h.sc,.slice h.eo m.me.length h.ec,.int .i64 m.sel],.int .i64 ia] w' (Zij w' (ZaN m ia) 0) from fun w' hb'=>Zjn m h ia w' (HM.old (Zaf hb1 hb')) hm hs)
 obtain ⟨nt,hnt⟩:∃ n,n=(ZaN m ia).length:=⟨_,rfl⟩
 have HNt:=Zh hnt
 have HTg:=Zh htg
 clear hS hW1 hb1 hbi H HM hm k0 k1 k2 k3 htg hnt hma heo f2 f4 f5 hS2 k2' hnp
 go_enter Tryz.func336,Tryz.ntmps336
 go_upto_region 3 with fail
 rw [←HW1.out]
 refine rO (fun w':World=>w'.cell? ⟨K,0,none⟩=some (.slice h.co m.cl.length h.cc)∧w'.cell? ⟨K,1,none⟩=some (.slice h.so m.st.length h.sc)∧w'.cell? ⟨K,2,none⟩=some (.slice h.eo m.me.length h.ec)∧w'.cell? ⟨K,3,none⟩=some (.int .i64 m.sel)∧w'.cell? ⟨w.heap.size,0,none⟩=some (.int .i64 26)∧w'.cell? ⟨w.heap.size,1,none⟩=some (.int .i64 ia)∧w'.cell? ⟨w.heap.size,2,none⟩=some (.int .i64 ib)) (oL [0,1,2,3,4,5,106,7,8,9,10,11]) (HS.out _ HB0.out.drew) ?_
 have HB1:=Zh HB0.out.drew
 repeat refine pO ?_
 refine oO fun Kv hK=>?_
 go_simp
 refine (HT.out _ HB1.out).mono ?_
 rintro r w2 ⟨⟨ao,cap,rfl,hrow⟩,hb2⟩
 have HB2:=Zh (Zaf HB1.out hb2)
 rw [←HNt.out]
 refine hK _ _ ⟨HS.out _ HB2.out,?_⟩
 clear hK Kv hb2
 repeat refine pO ?_
 refine Zd5 ?_
 have hn0:0<nt:=by rw [HNt.out,HTg.out];simp
 have hnz:((nt:Int) == 0)=false:=by simp;omega
 obtain ⟨ta,hao,t0⟩:=ZaB hrow (i:=0) (by have:=HNt.out;omega)
 rw [show ta.add 0=ta from by simp [Addr.add],HTg.out] at t0
 have t0':w2.cell? ta=some (.int .i64 tj):=t0
 subst hao
 have htj2:(tj:Int) < m.me.length:=by omega
 have hS3:∀ w',Below w2.heap.size w2 w'→(fun w':World=>w'.cell? ⟨K,2,none⟩=some (.slice (some ea) m.me.length h.ec)∧w'.cell? ⟨ma.block,ma.off+2,none⟩=some (.slice (h.e tj).po np (h.e tj).pc)∧w'.cell? ta=some (.int .i64 tj)∧w'.cell? ⟨w.heap.size,0,none⟩=some (.int .i64 26)∧w'.cell? ⟨w.heap.size,1,none⟩=some (.int .i64 ia)∧w'.cell? ⟨w.heap.size,2,none⟩=some (.int .i64 ib)) w':=fun w' hu=>by
  obtain ⟨z0,z1,z2,z3,z4⟩:=HS2.out w' (Zaf HB2.out hu)
  exact ⟨z0,z1,Zj4 hu t0',z2,z3,z4⟩
 have HS3:=Zh hS3
 clear hS3 hrow t0 t0'
 go_wp2_with fail
 refine rO (fun w':World=>w'.cell? ⟨K,2,none⟩=some (.slice (some ea) m.me.length h.ec)∧w'.cell? ⟨ma.block,ma.off+2,none⟩=some (.slice (h.e tj).po np (h.e tj).pc)∧w'.cell? ta=some (.int .i64 tj)∧w'.cell? ⟨w.heap.size,0,none⟩=some (.int .i64 26)∧w'.cell? ⟨w.heap.size,1,none⟩=some (.int .i64 ia)∧w'.cell? ⟨w.heap.size,2,none⟩=some (.int .i64 ib)) (oL [0,2,3,4,5,6,7,8,9,10,11,12,101,113,14]) (HS3.out _ (show Below w2.heap.size w2 w2.drew by exact bE)) ?_
 iterate 10 (refine pO ?_)
 rw [←HMa.out]
 repeat refine pO ?_
 refine oO fun Kv hK=>?_
 go_simp
 have HB3:=Zh (show Below w2.heap.size w2 (w2.alloc (.cells #[.int .i64 2,.int .i64 (-1)] 76)).drew by exact bE)
 refine hK _ _ ⟨HS3.out _ HB3.out,?_⟩
 clear hK Kv
 repeat refine pO ?_
 have HO:=Zh (World.ownsRow.drew (World.ownsRow_lit (base:=w2.heap.size) (e:=76) (size:=2) w2 #[.int .i64 2,.int .i64 (-1)] 1 (Nat.le_refl _) (by decide) rfl))
 have HR:=Zh ((HHM.out.old (Zaf (Zaf HBw.out HB2.out) HB3.out)).p tj htj)
 refine oO fun Kv hK=>?_
 refine Zej (.tmp 34) (.tmp 45) 23 rfl w2.heap.size 76 2 16 Zff _ 1 _ rfl HO.out (h.e tj).po np (h.e tj).pc (Zak ps) rfl (by rw [HNp.out,HPs.out];exact HR.out) (Zaq _) (by omega) (by unfold maxLen;omega) (by simp) ?_
 intro ao2 cap2 w4 hown4 hg4
 have HO4:=Zh hown4
 have HB4:=Zh ((show Below w2.heap.size w2 (w2.alloc (.cells #[.int .i64 2,.int .i64 (-1)] 76)).drew from HB3.out).grown hg4 (by simp) (fun k hk=>by cases hk;exact Nat.le_refl _))
 refine hK _ _ ⟨HS3.out _ HB4.out,?_⟩
 clear hK Kv hown4 hg4
 repeat refine pO ?_
 refine Zd5 ?_
 go_wp2
 go_ret
 have hl9:((⟨2,-1⟩:Ty) :: ps).length=1+np:=by rw [List.length_cons,←HNp.out,Nat.add_comm]
 refine ⟨⟨ao2,cap2,?_,?_⟩,Zaf (Zaf HBw.out HB2.out) HB4.out⟩
 ·rw [hl9];rfl
 ·have h9:=(Zah HO4.out).2
  unfold Zar
  rw [hl9]
  exact h9
theorem Zku (hj:ia<m.me.length):
  Calls Tryz.prog 335 #[.pointer (some ⟨K,0,none⟩),.agg #[.int .i64 25,.int .i64 ia,.int .i64 ib]] w (Ret w (.agg #[.int .i64 (m.me.getD ia default).r.k,.int .i64 (m.me.getD ia default).r.c])):=by
 obtain ⟨kl,k0,k1,k2,k3,-⟩:=H.cells
 obtain ⟨ea,heo,-,-,f2,-,f4,f5,-⟩:=HM.mth hj
 obtain ⟨ma,hma⟩:∃ a,a=ea.add (ia*7):=⟨_,rfl⟩
 rw [←hma] at f2 f4 f5
 rw [heo] at k2
 obtain ⟨⟨rk,rq⟩,hr⟩:∃ r:Ty,r=(m.me.getD ia default).r:=⟨_,rfl⟩
 rw [←hr] at f4 f5 ⊢
 dsimp only at f4 f5 ⊢
 obtain ⟨W1,hW1⟩:∃ W1,W1=(w.alloc (.cells #[.int .i64 25,.int .i64 ia,.int .i64 ib] 78)).alloc (.cells #[.int .i64 0,.int .i64 0] 76):=⟨_,rfl⟩
 have hb1:Below w.heap.size w W1:=by rw [hW1];exact bE
 have hbi:Blk W1 w.heap.size #[.int .i64 25,.int .i64 ia,.int .i64 ib] 78:=by rw [hW1];exact (Blk.new w _ _).alloc _
 have hbr:Blk W1 (w.heap.size+1) #[.int .i64 0,.int .i64 0] 76:=by rw [hW1];exact Blk.new' (w:=w.alloc (.cells #[.int .i64 25,.int .i64 ia,.int .i64 ib] 78)) _ _ (by simp)
 have HX:=Zh hbr
 have hrl:=hbr.lt
 have hS:∀ w',Upd (w.heap.size+1) (w.heap.size+1) W1 w'→(fun w':World=>w'.cell? ⟨K,2,none⟩=some (.slice (some ea) m.me.length h.ec)∧w'.cell? ⟨ma.block,ma.off+4,none⟩=some (.int .i64 rk)∧w'.cell? ⟨ma.block,ma.off+5,none⟩=some (.int .i64 rq)∧w'.cell? ⟨w.heap.size,0,none⟩=some (.int .i64 25)∧w'.cell? ⟨w.heap.size,1,none⟩=some (.int .i64 ia)∧w'.cell? ⟨w.heap.size,2,none⟩=some (.int .i64 ib)) w':=fun w' hu=>⟨Zj8 hb1 (Nat.le_succ _) hu k2,Zj8 hb1 (Nat.le_succ _) hu f4,Zj8 hb1 (Nat.le_succ _) hu f5,hu.cell (hbi.cell 0 rfl) (by show w.heap.size≠_;omega) (by show w.heap.size≠_;omega),hu.cell (hbi.cell 1 rfl) (by show w.heap.size≠_;omega) (by show w.heap.size≠_;omega),hu.cell (hbi.cell 2 rfl) (by show w.heap.size≠_;omega) (by show w.heap.size≠_;omega)⟩
 have HS:=Zh hS
 have HBw:=Zh hb1
 have HW1:=Zh hW1
 have HHM:=Zh HM
 have HMa:=Zh hma
 have hj2:(ia:Int) < m.me.length:=by omega
 have HB0:=Zh (Below.refl W1.heap.size W1)
 clear hS hW1 hb1 hbi hbr H HM hm k0 k1 k2 k3 hma heo f2 f4 f5 hr
 go_enter Tryz.func335,Tryz.ntmps335
 go_upto_region 2 with fail
 rw [←HW1.out]
 refine rO (fun w':World=>w'.cell? ⟨K,2,none⟩=some (.slice (some ea) m.me.length h.ec)∧w'.cell? ⟨ma.block,ma.off+4,none⟩=some (.int .i64 rk)∧w'.cell? ⟨ma.block,ma.off+5,none⟩=some (.int .i64 rq)∧w'.cell? ⟨w.heap.size,0,none⟩=some (.int .i64 25)∧w'.cell? ⟨w.heap.size,1,none⟩=some (.int .i64 ia)∧w'.cell? ⟨w.heap.size,2,none⟩=some (.int .i64 ib)) (oL [0,1,2,3,4,5,6,7,8,9,110]) (HS.out _ (Upd.of HB0.out).drew) ?_
 have HB1:=Zh HB0.out.drew
 iterate 8 (refine pO ?_)
 rw [←HMa.out]
 repeat refine pO ?_
 have hxn:=HX.out.old HB0.out
 have y0:=hxn.cell 0 (v:=.int .i64 0) rfl
 have y1:=hxn.cell 1 (v:=.int .i64 0) rfl
 have g0:=hxn.frozen 0
 have g1:=hxn.frozen 1
 refine oO fun Kv hK=>?_
 go_simp
 refine hK _ _ ⟨HS.out _ (((Upd.of HB1.out).set 0 _).set 1 _),?_⟩
 clear hK Kv
 refine Zd5 ?_
 go_wp2
 refine bodyPost_ret (v:=.agg #[.int .i64 rk,.int .i64 rq]) (by simp [results,Tryz.results335,go_sem,y0,y1]) rfl ⟨rfl,?_⟩
 exact ZcW (ZcW (Zaf HBw.out HB1.out) (Nat.le_succ _) _) (Nat.le_succ _) _
theorem Zkv (hs:(ia:Int) < m.sel) (htg:ZaN m ia=[]):
  Calls Tryz.prog 335 #[.pointer (some ⟨K,0,none⟩),.agg #[.int .i64 26,.int .i64 ia,.int .i64 ib]] w (Ret w (.agg #[.int .i64 0,.int .i64 0])):=by
 obtain ⟨kl,k0,k1,k2,k3,-⟩:=H.cells
 obtain ⟨W1,hW1⟩:∃ W1,W1=(w.alloc (.cells #[.int .i64 26,.int .i64 ia,.int .i64 ib] 78)).alloc (.cells #[.int .i64 0,.int .i64 0] 76):=⟨_,rfl⟩
 have hb1:Below w.heap.size w W1:=by rw [hW1];exact bE
 have hbi:Blk W1 w.heap.size #[.int .i64 26,.int .i64 ia,.int .i64 ib] 78:=by rw [hW1];exact (Blk.new w _ _).alloc _
 have hbr:Blk W1 (w.heap.size+1) #[.int .i64 0,.int .i64 0] 76:=by rw [hW1];exact Blk.new' (w:=w.alloc (.cells #[.int .i64 26,.int .i64 ia,.int .i64 ib] 78)) _ _ (by simp)
 have HX:=Zh hbr
 have hrl:=hbr.lt
 have hS:∀ w',Upd (w.heap.size+1) (w.heap.size+1) W1 w'→(fun w':World=>w'.cell? ⟨K,0,none⟩=some (.slice h.co m.cl.length h.cc)∧w'.cell? ⟨K,1,none⟩=some (.slice h.so m.st.length h.sc)∧w'.cell? ⟨K,2,none⟩=some (.slice h.eo m.me.length h.ec)∧w'.cell? ⟨K,3,none⟩=some (.int .i64 m.sel)∧w'.cell? ⟨w.heap.size,0,none⟩=some (.int .i64 26)∧w'.cell? ⟨w.heap.size,1,none⟩=some (.int .i64 ia)∧w'.cell? ⟨w.heap.size,2,none⟩=some (.int .i64 ib)) w':=fun w' hu=>⟨Zj8 hb1 (Nat.le_succ _) hu k0,Zj8 hb1 (Nat.le_succ _) hu k1,Zj8 hb1 (Nat.le_succ _) hu k2,Zj8 hb1 (Nat.le_succ _) hu k3,hu.cell (hbi.cell 0 rfl) (by show w.heap.size≠_;omega) (by show w.heap.size≠_;omega),hu.cell (hbi.cell 1 rfl) (by show w.heap.size≠_;omega) (by show w.heap.size≠_;omega),hu.cell (hbi.cell 2 rfl) (by show w.heap.size≠_;omega) (by show w.heap.size≠_;omega)⟩
 have HS:=Zh hS
 have HBw:=Zh hb1
 have HW1:=Zh hW1
 have HHM:=Zh HM
 have HB0:=Zh (Below.refl W1.heap.size W1)
 have HT:=Zh (show ∀ w',Below W1.heap.size W1 w'→Calls Tryz.prog 348 #[.agg #[.slice h.co m.cl.length h.cc,.slice h.so m.st.length h.sc,.slice h.eo m.me.length h.ec,.int .i64 m.sel],.int .i64 ia] w' (Zij w' (ZaN m ia) 0) from fun w' hb'=>Zjn m h ia w' (HM.old (Zaf hb1 hb')) hm hs)
 obtain ⟨nt,hnt⟩:∃ n,n=(ZaN m ia).length:=⟨_,rfl⟩
 have HNt:=Zh hnt
 have HTg:=Zh htg
 clear hS hW1 hb1 hbi hbr H HM hm k0 k1 k2 k3 htg hnt
 go_enter Tryz.func335,Tryz.ntmps335
 go_upto_region 3 with fail
 rw [←HW1.out]
 refine rO (fun w':World=>w'.cell? ⟨K,0,none⟩=some (.slice h.co m.cl.length h.cc)∧w'.cell? ⟨K,1,none⟩=some (.slice h.so m.st.length h.sc)∧w'.cell? ⟨K,2,none⟩=some (.slice h.eo m.me.length h.ec)∧w'.cell? ⟨K,3,none⟩=some (.int .i64 m.sel)∧w'.cell? ⟨w.heap.size,0,none⟩=some (.int .i64 26)∧w'.cell? ⟨w.heap.size,1,none⟩=some (.int .i64 ia)∧w'.cell? ⟨w.heap.size,2,none⟩=some (.int .i64 ib)) (oL [0,1,2,3,4,5,106,7,8,9,10,11]) (HS.out _ (Upd.of HB0.out).drew) ?_
 have HB1:=Zh HB0.out.drew
 repeat refine pO ?_
 refine oO fun Kv hK=>?_
 go_simp
 refine (HT.out _ HB1.out).mono ?_
 rintro r w2 ⟨⟨ao,cap,rfl,hrow⟩,hb2⟩
 have HB2:=Zh (Zaf HB1.out hb2)
 rw [←HNt.out]
 refine hK _ _ ⟨HS.out _ (Upd.of HB2.out),?_⟩
 clear hK Kv hb2
 repeat refine pO ?_
 refine Zd5 ?_
 have hn0:nt=0:=by rw [HNt.out,HTg.out];rfl
 subst hn0
 have hxn:=HX.out.old HB2.out
 have y0:=hxn.cell 0 (v:=.int .i64 0) rfl
 have y1:=hxn.cell 1 (v:=.int .i64 0) rfl
 have g0:=hxn.frozen 0
 have g1:=hxn.frozen 1
 clear hrow
 go_wp2
 refine bodyPost_ret (v:=.agg #[.int .i64 0,.int .i64 0]) (by simp [results,Tryz.results335,go_sem,y0,y1]) rfl ⟨rfl,?_⟩
 exact ZcW (ZcW (Zaf HBw.out HB2.out) (Nat.le_succ _) _) (Nat.le_succ _) _
theorem Zkw (hs:(ia:Int) < m.sel) {tj:Nat} {rest:List Int} (htg:ZaN m ia=(tj:Int) :: rest) (htj:tj<m.me.length):
  Calls Tryz.prog 335 #[.pointer (some ⟨K,0,none⟩),.agg #[.int .i64 26,.int .i64 ia,.int .i64 ib]] w (Ret w (.agg #[.int .i64 (m.me.getD tj default).r.k,.int .i64 (m.me.getD tj default).r.c])):=by
 obtain ⟨kl,k0,k1,k2,k3,-⟩:=H.cells
 have k2':=k2
 obtain ⟨ea,heo,-,-,f2,-,f4,f5,-⟩:=HM.mth htj
 obtain ⟨ma,hma⟩:∃ a,a=ea.add (tj*7):=⟨_,rfl⟩
 rw [←hma] at f2 f4 f5
 rw [heo] at k2'
 obtain ⟨⟨rk,rq⟩,hr⟩:∃ r:Ty,r=(m.me.getD tj default).r:=⟨_,rfl⟩
 rw [←hr] at f4 f5 ⊢
 dsimp only at f4 f5 ⊢
 obtain ⟨W1,hW1⟩:∃ W1,W1=(w.alloc (.cells #[.int .i64 26,.int .i64 ia,.int .i64 ib] 78)).alloc (.cells #[.int .i64 0,.int .i64 0] 76):=⟨_,rfl⟩
 have hb1:Below w.heap.size w W1:=by rw [hW1];exact bE
 have hbi:Blk W1 w.heap.size #[.int .i64 26,.int .i64 ia,.int .i64 ib] 78:=by rw [hW1];exact (Blk.new w _ _).alloc _
 have hbr:Blk W1 (w.heap.size+1) #[.int .i64 0,.int .i64 0] 76:=by rw [hW1];exact Blk.new' (w:=w.alloc (.cells #[.int .i64 26,.int .i64 ia,.int .i64 ib] 78)) _ _ (by simp)
 have HX:=Zh hbr
 have hrl:=hbr.lt
 have hS:∀ w',Upd (w.heap.size+1) (w.heap.size+1) W1 w'→(fun w':World=>w'.cell? ⟨K,0,none⟩=some (.slice h.co m.cl.length h.cc)∧w'.cell? ⟨K,1,none⟩=some (.slice h.so m.st.length h.sc)∧w'.cell? ⟨K,2,none⟩=some (.slice h.eo m.me.length h.ec)∧w'.cell? ⟨K,3,none⟩=some (.int .i64 m.sel)∧w'.cell? ⟨w.heap.size,0,none⟩=some (.int .i64 26)∧w'.cell? ⟨w.heap.size,1,none⟩=some (.int .i64 ia)∧w'.cell? ⟨w.heap.size,2,none⟩=some (.int .i64 ib)) w':=fun w' hu=>⟨Zj8 hb1 (Nat.le_succ _) hu k0,Zj8 hb1 (Nat.le_succ _) hu k1,Zj8 hb1 (Nat.le_succ _) hu k2,Zj8 hb1 (Nat.le_succ _) hu k3,hu.cell (hbi.cell 0 rfl) (by show w.heap.size≠_;omega) (by show w.heap.size≠_;omega),hu.cell (hbi.cell 1 rfl) (by show w.heap.size≠_;omega) (by show w.heap.size≠_;omega),hu.cell (hbi.cell 2 rfl) (by show w.heap.size≠_;omega) (by show w.heap.size≠_;omega)⟩
 have HS:=Zh hS
 have hS2:∀ w',Upd (w.heap.size+1) (w.heap.size+1) W1 w'→(fun w':World=>w'.cell? ⟨K,2,none⟩=some (.slice (some ea) m.me.length h.ec)∧w'.cell? ⟨ma.block,ma.off+4,none⟩=some (.int .i64 rk)∧w'.cell? ⟨ma.block,ma.off+5,none⟩=some (.int .i64 rq)∧w'.cell? ⟨w.heap.size,0,none⟩=some (.int .i64 26)∧w'.cell? ⟨w.heap.size,1,none⟩=some (.int .i64 ia)∧w'.cell? ⟨w.heap.size,2,none⟩=some (.int .i64 ib)) w':=fun w' hu=>⟨Zj8 hb1 (Nat.le_succ _) hu k2',Zj8 hb1 (Nat.le_succ _) hu f4,Zj8 hb1 (Nat.le_succ _) hu f5,hu.cell (hbi.cell 0 rfl) (by show w.heap.size≠_;omega) (by show w.heap.size≠_;omega),hu.cell (hbi.cell 1 rfl) (by show w.heap.size≠_;omega) (by show w.heap.size≠_;omega),hu.cell (hbi.cell 2 rfl) (by show w.heap.size≠_;omega) (by show w.heap.size≠_;omega)⟩
 have HS2:=Zh hS2
 have HMa:=Zh hma
 have HBw:=Zh hb1
 have HW1:=Zh hW1
 have HHM:=Zh HM
 have HB0:=Zh (Below.refl W1.heap.size W1)
 have HT:=Zh (show ∀ w',Below W1.heap.size W1 w'→Calls Tryz.prog 348 #[.agg #[.slice h.co m.cl.length h.cc,.slice h.so m.st.length h.sc,.slice h.eo m.me.length h.ec,.int .i64 m.sel],.int .i64 ia] w' (Zij w' (ZaN m ia) 0) from fun w' hb'=>Zjn m h ia w' (HM.old (Zaf hb1 hb')) hm hs)
 obtain ⟨nt,hnt⟩:∃ n,n=(ZaN m ia).length:=⟨_,rfl⟩
 have HNt:=Zh hnt
 have HTg:=Zh htg
 clear hS hW1 hb1 hbi hbr H HM hm k0 k1 k2 k3 htg hnt hma heo f2 f4 f5 hS2 k2' hr
 go_enter Tryz.func335,Tryz.ntmps335
 go_upto_region 3 with fail
 rw [←HW1.out]
 refine rO (fun w':World=>w'.cell? ⟨K,0,none⟩=some (.slice h.co m.cl.length h.cc)∧w'.cell? ⟨K,1,none⟩=some (.slice h.so m.st.length h.sc)∧w'.cell? ⟨K,2,none⟩=some (.slice h.eo m.me.length h.ec)∧w'.cell? ⟨K,3,none⟩=some (.int .i64 m.sel)∧w'.cell? ⟨w.heap.size,0,none⟩=some (.int .i64 26)∧w'.cell? ⟨w.heap.size,1,none⟩=some (.int .i64 ia)∧w'.cell? ⟨w.heap.size,2,none⟩=some (.int .i64 ib)) (oL [0,1,2,3,4,5,106,7,8,9,10,11]) (HS.out _ (Upd.of HB0.out).drew) ?_
 have HB1:=Zh HB0.out.drew
 repeat refine pO ?_
 refine oO fun Kv hK=>?_
 go_simp
 refine (HT.out _ HB1.out).mono ?_
 rintro r w2 ⟨⟨ao,cap,rfl,hrow⟩,hb2⟩
 have HB2:=Zh (Zaf HB1.out hb2)
 rw [←HNt.out]
 refine hK _ _ ⟨HS.out _ (Upd.of HB2.out),?_⟩
 clear hK Kv hb2
 repeat refine pO ?_
 refine Zd5 ?_
 have hn0:0<nt:=by rw [HNt.out,HTg.out];simp
 have hnz:((nt:Int) == 0)=false:=by simp;omega
 obtain ⟨ta,hao,t0⟩:=ZaB hrow (i:=0) (by have:=HNt.out;omega)
 rw [show ta.add 0=ta from by simp [Addr.add],HTg.out] at t0
 have t0':w2.cell? ta=some (.int .i64 tj):=t0
 subst hao
 have htj2:(tj:Int) < m.me.length:=by omega
 have hS3:∀ w',Below w2.heap.size w2 w'→(fun w':World=>w'.cell? ⟨K,2,none⟩=some (.slice (some ea) m.me.length h.ec)∧w'.cell? ⟨ma.block,ma.off+4,none⟩=some (.int .i64 rk)∧w'.cell? ⟨ma.block,ma.off+5,none⟩=some (.int .i64 rq)∧w'.cell? ta=some (.int .i64 tj)∧w'.cell? ⟨w.heap.size,0,none⟩=some (.int .i64 26)∧w'.cell? ⟨w.heap.size,1,none⟩=some (.int .i64 ia)∧w'.cell? ⟨w.heap.size,2,none⟩=some (.int .i64 ib)) w':=fun w' hu=>by
  obtain ⟨z0,z1,z2,z3,z4,z5⟩:=HS2.out w' ((Upd.of HB2.out).trans (Upd.of hu))
  exact ⟨z0,z1,z2,Zj4 hu t0',z3,z4,z5⟩
 have HS3:=Zh hS3
 clear hS3 hrow t0 t0'
 go_wp2_with fail
 refine rE (fun w':World=>w'.cell? ⟨K,2,none⟩=some (.slice (some ea) m.me.length h.ec)∧w'.cell? ⟨ma.block,ma.off+4,none⟩=some (.int .i64 rk)∧w'.cell? ⟨ma.block,ma.off+5,none⟩=some (.int .i64 rq)∧w'.cell? ta=some (.int .i64 tj)∧w'.cell? ⟨w.heap.size,0,none⟩=some (.int .i64 26)∧w'.cell? ⟨w.heap.size,1,none⟩=some (.int .i64 ia)∧w'.cell? ⟨w.heap.size,2,none⟩=some (.int .i64 ib)) 11 (oL [0,1,2,3,4,5,6,7,8,9,10]) (HS3.out _ (show Below w2.heap.size w2 w2.drew by exact bE)) ?_
 iterate 9 (refine pE ?_)
 rw [←HMa.out]
 repeat refine pE ?_
 have hxn:=HX.out.old HB2.out
 have y0:=hxn.cell 0 (v:=.int .i64 0) rfl
 have y1:=hxn.cell 1 (v:=.int .i64 0) rfl
 have g0:=hxn.frozen 0
 have g1:=hxn.frozen 1
 refine sE fun Kv hK=>?_
 go_simp
 refine hK _ _ ?_
 clear hK Kv
 go_wp2
 refine bodyPost_ret (v:=.agg #[.int .i64 rk,.int .i64 rq]) (by simp [results,Tryz.results335,go_sem,y0,y1]) rfl ⟨rfl,?_⟩
 exact ZcW (ZcW (Zaf HBw.out (HB2.out.trans ((show Below w2.heap.size w2 w2.drew by exact bE).mono HB2.out.size))) (Nat.le_succ _) _) (Nat.le_succ _) _
end
end
section
open Go.RowKit
theorem Zkx {m:Md} (hm:Za1 m=true) {sl:Nat} (hs:(sl:Int) < m.sel) (c:Int) (h0:0≤c) (h1:c<m.cl.length):sl<(m.cl.getD c.toNat default).m.length:=by
 have hc:=ZfH hm c.toNat (by omega)
 simp only [ZaK,Bool.and_eq_true,decide_eq_true_eq] at hc
 have:=hc.1.1.2
 omega
section
variable {w0 w:World}{K:Nat}{h:Hd}{m:Md}{lo:Option Addr}{lc:Nat}{ls:List Ty}{s:Ps}{so:Option Addr}{sc:Nat}{oo:Option Addr}{oc:Nat}{bs:List VB}{i:In3}{k:Nat}(hm:Za1 m=true)(hlo:∀ t∈ls,Zfi m t)(HW:Zfj m s.stk)(H:St w0 w K h m lo lc ls s so sc oo oc bs)(HM:Zay w0 h m)(hd:s.opn.length≤6)(hi:ZfR m k i)
include w0 w K h m lo lc ls s so sc oo oc bs i k hm hlo HW H HM hd hi
theorem Zky (hkm:k<m.me.length) (hop:i.op=25):
  Calls Tryz.prog 262 #[.pointer (some ⟨K,0,none⟩),.agg #[.int .i64 i.op,.int .i64 i.a,.int .i64 i.b]] w (ZhR w K h m lo lc ls oo oc bs (ZhO m ls i s)):=by
 obtain ⟨op,ia,ib⟩:=i
 dsimp only at hop
 subst hop
 have ha0:=hi.a0 (by simp)
 dsimp only at ha0
 obtain ⟨ia,rfl⟩:∃ d:Nat,ia=d:=⟨ia.toNat,by omega⟩
 have hb1:Below w.heap.size w ((w.alloc (.cells #[.pointer (some ⟨K,0,none⟩)] 211)).alloc (.cells #[.int .i64 25,.int .i64 ia,.int .i64 ib] 78)):=by exact bE
 have hbx:=(Blk.new w #[.pointer (some ⟨K,0,none⟩)] 211).alloc (.cells #[.int .i64 25,.int .i64 ia,.int .i64 ib] 78)
 have hbi:Blk ((w.alloc (.cells #[.pointer (some ⟨K,0,none⟩)] 211)).alloc (.cells #[.int .i64 25,.int .i64 ia,.int .i64 ib] 78)) (w.heap.size+1) #[.int .i64 25,.int .i64 ia,.int .i64 ib] 78:=Blk.new' (w:=w.alloc (.cells #[.pointer (some ⟨K,0,none⟩)] 211)) _ _ (by simp)
 have kl:=Blk.lt H.ck
 have H1:=H.old hb1
 obtain ⟨hik,-⟩:=hi.o25 rfl
 dsimp only at hik
 have hin:ia<m.me.length:=by omega
 obtain ⟨ea,heo,-⟩:=HM.mth hin
 have hk2:∀ w',(∃ L S O e,Ck w' K h m L S O e)→w'.cell? ⟨K,2,none⟩=some (.slice (some ea) m.me.length h.ec):=fun w' hc=>by
  obtain ⟨L,S,O,e,hc⟩:=hc
  have:=hc.cells.2.2.2.1
  rwa [heo] at this
 have HEo:=Zh heo
 clear heo
 have HB1:=Zh hb1
 have HH:=Zh H1
 have cc:=hbx.cell 0 (v:=.pointer (some ⟨K,0,none⟩)) rfl
 have i1:=hbi.cell 1 (v:=.int .i64 ia) rfl
 have hS:∀ w',Upd K K ((w.alloc (.cells #[.pointer (some ⟨K,0,none⟩)] 211)).alloc (.cells #[.int .i64 25,.int .i64 ia,.int .i64 ib] 78)) w'→(∃ L S O e,Ck w' K h m L S O e)→(fun w':World=>w'.cell? ⟨w.heap.size,0,none⟩=some (.pointer (some ⟨K,0,none⟩))∧w'.cell? ⟨w.heap.size+1,1,none⟩=some (.int .i64 ia)∧w'.cell? ⟨K,2,none⟩=some (.slice (some ea) m.me.length h.ec)) w':=fun w' hu hc=>⟨hu.cell cc (by show w.heap.size≠K;omega) (by show w.heap.size≠K;omega),hu.cell i1 (by show w.heap.size+1≠K;omega) (by show w.heap.size+1≠K;omega),hk2 w' hc⟩
 have HS:=Zh hS
 have HHM:=Zh HM
 obtain ⟨W1,hW1⟩:∃ W1,W1=((w.alloc (.cells #[.pointer (some ⟨K,0,none⟩)] 211)).alloc (.cells #[.int .i64 25,.int .i64 ia,.int .i64 ib] 78)):=⟨_,rfl⟩
 rw [←hW1] at HS HH HB1
 have HW1:=Zh hW1
 have HHW:=Zh HW
 have HI:=Zh hi
 have HHm:=Zh hm
 have HLo:=Zh hlo
 clear hb1 hbx hbi H1 H HM hlo HW hi hm cc i1 hS hW1 hk2
 go_enter Tryz.func262,Tryz.ntmps262
 go_wp2_with fail
 refine rO (fun w':World=>w'.cell? ⟨w.heap.size,0,none⟩=some (.pointer (some ⟨K,0,none⟩))∧w'.cell? ⟨w.heap.size+1,1,none⟩=some (.int .i64 ia)∧w'.cell? ⟨K,2,none⟩=some (.slice (some ea) m.me.length h.ec)) (oL [0,1,2,3,4,5,6,7,8,109]) (HW1.out▸HS.out _ (Upd.refl K K W1).drew ⟨_,_,_,_,Ck.drew HH.out.ck⟩) ?_
 rw [←HW1.out]
 have HB2:=Zh (show Below W1.heap.size W1 W1.drew by exact bE)
 repeat refine pO ?_
 refine oO fun Kv hK=>?_
 go_simp
 refine (ZjV (i:=⟨25,ia,ib⟩) HHm.out HHW.out (HH.out.old HB2.out) HHM.out hd hin HEo.out rfl (by simp)).mono ?_
 exact k95
theorem Zkz (hb:Zev s.opn≤s.stk.length) (hkm:k<m.me.length) (hop:i.op=26):
  Calls Tryz.prog 262 #[.pointer (some ⟨K,0,none⟩),.agg #[.int .i64 i.op,.int .i64 i.a,.int .i64 i.b]] w (ZhR w K h m lo lc ls oo oc bs (ZhO m ls i s)):=by
 obtain ⟨op,ia,ib⟩:=i
 dsimp only at hop
 subst hop
 have ha0:=hi.a0 (by simp)
 dsimp only at ha0
 obtain ⟨ia,rfl⟩:∃ d:Nat,ia=d:=⟨ia.toNat,by omega⟩
 have hb1:Below w.heap.size w ((w.alloc (.cells #[.pointer (some ⟨K,0,none⟩)] 211)).alloc (.cells #[.int .i64 26,.int .i64 ia,.int .i64 ib] 78)):=by exact bE
 have hbx:=(Blk.new w #[.pointer (some ⟨K,0,none⟩)] 211).alloc (.cells #[.int .i64 26,.int .i64 ia,.int .i64 ib] 78)
 have hbi:Blk ((w.alloc (.cells #[.pointer (some ⟨K,0,none⟩)] 211)).alloc (.cells #[.int .i64 26,.int .i64 ia,.int .i64 ib] 78)) (w.heap.size+1) #[.int .i64 26,.int .i64 ia,.int .i64 ib] 78:=Blk.new' (w:=w.alloc (.cells #[.pointer (some ⟨K,0,none⟩)] 211)) _ _ (by simp)
 have kl:=Blk.lt H.ck
 have H1:=H.old hb1
 obtain ⟨hsel,htk⟩:=hi.o26 rfl
 dsimp only at hsel htk
 have hst:=HW.1
 have cc:=hbx.cell 0 (v:=.pointer (some ⟨K,0,none⟩)) rfl
 have i1:=hbi.cell 1 (v:=.int .i64 ia) rfl
 obtain ⟨W1,hW1⟩:∃ W1,W1=((w.alloc (.cells #[.pointer (some ⟨K,0,none⟩)] 211)).alloc (.cells #[.int .i64 26,.int .i64 ia,.int .i64 ib] 78)):=⟨_,rfl⟩
 rw [←hW1] at H1 hb1 cc i1
 have hck:∀ w',Upd K K W1 w'→(∃ L S O e,Ck w' K h m L S O e)→(fun w':World=>w'.cell? ⟨w.heap.size,0,none⟩=some (.pointer (some ⟨K,0,none⟩))∧w'.cell? ⟨w.heap.size+1,1,none⟩=some (.int .i64 ia)∧w'.cell? ⟨K,0,none⟩=some (.slice h.co m.cl.length h.cc)∧w'.cell? ⟨K,1,none⟩=some (.slice h.so m.st.length h.sc)∧w'.cell? ⟨K,2,none⟩=some (.slice h.eo m.me.length h.ec)∧w'.cell? ⟨K,3,none⟩=some (.int .i64 m.sel)) w':=fun w' hu hc=>by
  obtain ⟨L,S,O,e,hc⟩:=hc
  obtain ⟨-,k0,k1,k2,k3,-⟩:=hc.cells
  exact ⟨hu.cell cc (by show w.heap.size≠K;omega) (by show w.heap.size≠K;omega),hu.cell i1 (by show w.heap.size+1≠K;omega) (by show w.heap.size+1≠K;omega),k0,k1,k2,k3⟩
 have HS:=Zh hck
 have HB1:=Zh hb1
 have HH:=Zh H1
 have HW1:=Zh hW1
 have HHM:=Zh HM
 have HHW:=Zh HW
 have HHm:=Zh hm
 have HT:=Zh (show ∀ w',Below W1.heap.size W1 w'→Calls Tryz.prog 293 #[.agg #[.slice h.co m.cl.length h.cc,.slice h.so m.st.length h.sc,.slice h.eo m.me.length h.ec,.int .i64 m.sel],.int .i64 ia] w' (Zik w' (ZaN m ia) 0) from fun w' hb'=>Ziq m h ia w' (HM.old (H1.hb.trans (hb'.mono H1.hb.size))) hm hsel)
 have hz1:w.heap.size+1<W1.heap.size:=Zac i1
 have HTk:=Zh htk
 have HX:=Zh (And.intro cc i1)
 clear hb1 hbx hbi H1 H HM hlo HW hi hm cc i1 hck hW1 htk
 go_enter Tryz.func262,Tryz.ntmps262
 go_wp2_with fail
 refine rO (fun w':World=>w'.cell? ⟨w.heap.size,0,none⟩=some (.pointer (some ⟨K,0,none⟩))∧w'.cell? ⟨w.heap.size+1,1,none⟩=some (.int .i64 ia)∧w'.cell? ⟨K,0,none⟩=some (.slice h.co m.cl.length h.cc)∧w'.cell? ⟨K,1,none⟩=some (.slice h.so m.st.length h.sc)∧w'.cell? ⟨K,2,none⟩=some (.slice h.eo m.me.length h.ec)∧w'.cell? ⟨K,3,none⟩=some (.int .i64 m.sel)) (oL [0,1,2,3,4,5,106,7,8,9,10,11]) (HW1.out▸HS.out _ (Upd.refl K K W1).drew ⟨_,_,_,_,Ck.drew HH.out.ck⟩) ?_
 rw [←HW1.out]
 have HB2:=Zh (show Below W1.heap.size W1 W1.drew by exact bE)
 repeat refine pO ?_
 refine oO fun Kv hK=>?_
 go_simp
 refine (HT.out _ HB2.out).mono ?_
 rintro r w2 ⟨⟨ao,cap,rfl,hr,hnew⟩,hb3⟩
 have HNew:=Zh hnew
 have HB3:=Zh (Zaf HB2.out hb3)
 have HR:=Zh hr
 refine hK _ _ ⟨HS.out _ (Upd.of HB3.out) ⟨_,_,_,_,HH.out.ck.old HB3.out⟩,?_⟩
 clear hK Kv hb3 hr hnew
 repeat refine pO ?_
 refine Zd5 ?_
 have hmod:∀ (o:Option Mth),Zew m ⟨26,ia,ib⟩=o→o=match ZaN m ia with|[]=>none|t :: _=>some (m.me.getD t.toNat default):=fun o ho=>by rw [←ho];rfl
 cases htg:ZaN m ia with
 | nil=>
  have hm2:ZhO m ls ⟨26,ia,ib⟩ s=(11,s.stk):=by
   have hc:Zew m ⟨26,ia,ib⟩=none:=by have:=hmod _ rfl;rw [htg] at this;exact this
   unfold ZhO
   rw [Zgl rfl,Zga rfl,hc,if_neg (by dsimp only;omega)]
  have HM2:=Zh hm2
  have HL:=Zh htg
  obtain ⟨nt,hnt⟩:∃ n,n=(ZaN m ia).length:=⟨_,rfl⟩
  rw [←htg,←hnt]
  have hn0:nt=0:=by rw [hnt,htg];rfl
  subst hn0
  have HC2:=Zh (HH.out.ck.old HB3.out)
  have cc:=(HB3.out.cell (p:=⟨w.heap.size,0,none⟩) (by show w.heap.size<W1.heap.size;omega)).trans HX.out.1
  have HF:=Zh (ZeS K h m _ _ _ 0 11 w2 HC2.out)
  clear htg hmod hm2 hnt
  go_wp2_with (go_at_call 318;refine HF.out.mono ?_;rintro r w4 ⟨⟨v4,rfl⟩,hc4,hu4⟩;have HC4:=Zh hc4;have HU4:=Zh hu4;clear hc4 hu4)
  go_end0
  refine ZhR.bel ⟨⟨_,rfl⟩,(Upd.of HB3.out).trans HU4.out,?_⟩ HB1.out
  rw [HM2.out]
  exact ⟨so,sc,s.stk,HC4.out,((HH.out.old HB3.out).ts.upd HU4.out HC2.out.noTy HC2.out.noTy),by omega,fun h0=>by cases h0⟩
 | cons t rest=>
  have hmem:t∈ZaN m ia:=by rw [htg];exact List.mem_cons_self
  have ht0:=ZfT hmem
  have htl:=HTk.out t hmem
  obtain ⟨tj,rfl⟩:∃ d:Nat,t=d:=⟨t.toNat,by omega⟩
  have htj:tj<m.me.length:=by omega
  have hcal:Zew m ⟨26,ia,ib⟩=some (m.me.getD tj default):=by have:=hmod _ rfl;rw [htg] at this;exact this
  have hr:=HR.out
  obtain ⟨nt,hnt⟩:∃ n,n=(ZaN m ia).length:=⟨_,rfl⟩
  have hnt2:0<nt:=by rw [hnt,htg];simp
  obtain ⟨ta,hao,t0⟩:=ZaB hr (i:=0) (by omega)
  rw [show ta.add 0=ta from by simp [Addr.add],htg] at t0
  have t0':w2.cell? ta=some (.int .i64 tj):=t0
  subst hao
  obtain ⟨ea,heo,-⟩:=HHM.out.mth htj
  have hnz:((nt:Int) == 0)=false:=by simp;omega
  have hS2:∀ w',Upd K K w2 w'→(∃ L S O e,Ck w' K h m L S O e)→(fun w':World=>w'.cell? ⟨w.heap.size,0,none⟩=some (.pointer (some ⟨K,0,none⟩))∧w'.cell? ⟨w.heap.size+1,1,none⟩=some (.int .i64 ia)∧w'.cell? ⟨K,2,none⟩=some (.slice (some ea) m.me.length h.ec)∧w'.cell? ta=some (.int .i64 tj)) w':=fun w' hu hc=>by
   obtain ⟨L,S,O,e,hc⟩:=hc
   have k2:=hc.cells.2.2.2.1
   rw [heo] at k2
   have hck2:=HH.out.ck.old HB3.out
   have hta:ta.block≠K:=by have h1:=HNew.out ta rfl;have h2:=HB1.out.size;have h3:W1.heap.size≤ta.block:=h1;omega
   exact ⟨hu.cell ((HB3.out.cell (p:=⟨w.heap.size,0,none⟩) (by show w.heap.size<W1.heap.size;omega)).trans HX.out.1) (by show w.heap.size≠K;omega) (by show w.heap.size≠K;omega),hu.cell ((HB3.out.cell (p:=⟨w.heap.size+1,1,none⟩) (by show w.heap.size+1<W1.heap.size;omega)).trans HX.out.2) (by show w.heap.size+1≠K;omega) (by show w.heap.size+1≠K;omega),k2,hu.cell t0' hta hta⟩
  have HS2:=Zh hS2
  have HCal:=Zh hcal
  have HEo:=Zh heo
  have hsl:ia≤1000:=by have:=(ZfJ HHm.out);simp only [ZaZ,Bool.and_eq_true,decide_eq_true_eq] at this;omega
  rw [←htg,←hnt]
  clear hS2 hcal heo hmem htg hr t0 t0' hnt hmod
  go_wp2_with fail
  refine rO (fun w':World=>w'.cell? ⟨w.heap.size,0,none⟩=some (.pointer (some ⟨K,0,none⟩))∧w'.cell? ⟨w.heap.size+1,1,none⟩=some (.int .i64 ia)∧w'.cell? ⟨K,2,none⟩=some (.slice (some ea) m.me.length h.ec)∧w'.cell? ta=some (.int .i64 tj)) (oL [0,1,2,3,4,5,6,7,8,9,10,11,112]) (HS2.out _ (Upd.refl K K w2).drew ⟨_,_,_,_,Ck.drew (HH.out.ck.old HB3.out)⟩) ?_
  repeat refine pO ?_
  refine oO fun Kv hK=>?_
  go_simp
  refine (ZjW (i:=⟨26,ia,ib⟩) HHm.out HHW.out (HH.out.old (Zaf HB3.out (show Below w2.heap.size w2 w2.drew by exact bE))) HHM.out hd htj HEo.out rfl rfl HCal.out (fun c h0 h1=>Zkx HHm.out hsel c h0 h1) hsl).mono ?_
  rintro r w4 ⟨⟨v4,rfl⟩,hu4,hd4⟩
  have HU4:=Zh ((Upd.refl K K w2).drew.trans hu4)
  have HD4:=Zh hd4
  have hck:∃ L S O e,Ck w4 K h m L S O e:=by obtain ⟨so2,sc2,st2,h1,-⟩:=HD4.out;exact ⟨_,_,_,_,h1⟩
  refine hK _ _ ⟨HS2.out _ HU4.out hck,?_⟩
  clear hK Kv hu4 hd4 hck
  refine Zd5 ?_
  go_wp2
  go_end0
  exact ZhR.bel ⟨⟨_,rfl⟩,(Upd.of HB3.out).trans HU4.out,HD4.out⟩ HB1.out
theorem ZkA (hb:Zev s.opn≤s.stk.length) (hkm:k<m.me.length) (hop:i.op=0∨(14≤i.op∧i.op≤26)∨i.op=28):
  Calls Tryz.prog 262 #[.pointer (some ⟨K,0,none⟩),.agg #[.int .i64 i.op,.int .i64 i.a,.int .i64 i.b]] w (ZhR w K h m lo lc ls oo oc bs (ZhO m ls i s)):=by
 have cls:(i.op=0∨i.op=28)∨i.op=14∨i.op=15∨i.op=16∨i.op=17∨i.op=18∨i.op=19∨i.op=20∨i.op=21∨i.op=22∨i.op=23∨i.op=24∨i.op=25∨i.op=26:=by omega
 rcases cls with q|q|q|q|q|q|q|q|q|q|q|q|q|q
 ·exact ZjI hm hlo HW H HM hd hi hb q
 ·exact ZjE hm hlo HW H HM hd hi q
 ·exact ZjF hm hlo HW H HM hd hi q
 ·exact ZjG hm hlo HW H HM hd hi q
 ·exact Zjx hm hlo HW H HM hd hi q
 ·exact Zjy hm hlo HW H HM hd hi q
 ·exact Zjz hm hlo HW H HM hd hi q
 ·exact ZjA hm hlo HW H HM hd hi q
 ·exact ZjB hm hlo HW H HM hd hi q
 ·exact ZjH hm hlo HW H HM hd hi q
 ·exact ZjC hm hlo HW H HM hd hi q
 ·exact ZjD hm hlo HW H HM hd hi q
 ·exact Zky hm hlo HW H HM hd hi hkm q
 ·exact Zkz hm hlo HW H HM hd hi hb hkm q
theorem ZkB (hb:Zev s.opn≤s.stk.length) (hkm:k<m.me.length) (hop:i.op=0∨(14≤i.op∧i.op≤26)∨i.op=28):
  Calls Tryz.prog 187 #[.pointer (some ⟨K,0,none⟩),.agg #[.int .i64 i.op,.int .i64 i.a,.int .i64 i.b]] w (ZhR w K h m lo lc ls oo oc bs (ZhO m ls i s)):=by
 have HD:=Zh (fun w' (hb':Below w.heap.size w w')=>ZkA hm hlo HW (H.old hb') HM hd hi hb hkm hop)
 obtain ⟨op,ia,ib⟩:=i
 dsimp only at hop HD
 have cls:op=0∨op=28∨op=14∨op=15∨op=16∨op=17∨op=18∨op=19∨op=20∨op=21∨op=22∨op=23∨op=24∨op=25∨op=26:=by omega
 clear hop hi H HM hlo HW hm hb
 rcases cls with rfl|rfl|rfl|rfl|rfl|rfl|rfl|rfl|rfl|rfl|rfl|rfl|rfl|rfl|rfl
 all_goals
  go_enter Tryz.func187,Tryz.ntmps187
  go_wp2_with (go_at_call 262;refine (HD.out _ bE).mono ?_;rintro r w2 ⟨⟨v,rfl⟩,hu2,hd2⟩;have HU2:=Zh hu2;have HD2:=Zh hd2;clear hu2 hd2)
  go_end0
  exact ZhR.bel ⟨⟨_,rfl⟩,HU2.out,HD2.out⟩ bE
theorem ZkC (hb:Zev s.opn≤s.stk.length) (hkm:k<m.me.length) (hop:0≤i.op∧i.op<29):
  Calls Tryz.prog 187 #[.pointer (some ⟨K,0,none⟩),.agg #[.int .i64 i.op,.int .i64 i.a,.int .i64 i.b]] w (ZhR w K h m lo lc ls oo oc bs (ZhO m ls i s)):=by
 have cls:i.op=1∨i.op=2∨i.op=3∨i.op=4∨i.op=5∨i.op=6∨i.op=7∨i.op=8∨i.op=9∨i.op=10∨i.op=11∨i.op=12∨i.op=13∨i.op=27∨(i.op=0∨(14≤i.op∧i.op≤26)∨i.op=28):=by omega
 rcases cls with q|q|q|q|q|q|q|q|q|q|q|q|q|q|q
 ·exact s_1 hm hlo HW H HM hd hi q
 ·exact s_2 hm hlo HW H HM hd hi q
 ·exact s_3 hm hlo HW H HM hd hi q
 ·exact s_4 hm hlo HW H HM hd hi q
 ·exact s_5 hm hlo HW H HM hd hi q
 ·exact s_6 hm hlo HW H HM hd hi q
 ·exact s_7 hm hlo HW H HM hd hi q
 ·exact s_8 hm hlo HW H HM hd hi q
 ·exact s_9 hm hlo HW H HM hd hi q
 ·exact Zjs hm hlo HW H HM hd hi q
 ·exact Zjt hm hlo HW H HM hd hi q
 ·exact Zjw hm hlo HW H HM hd hi q
 ·exact Zju hm hlo HW H HM hd hi q
 ·exact Zjv hm hlo HW H HM hd hi q
 ·exact ZkB hm hlo HW H HM hd hi hb hkm q
end
end
section
open Go.RowKit
section
variable {w:World}{K:Nat}{h:Hd}{m:Md}{L S O:Value}(H:Pk w K h m L S O)(HM:Zay w h m)(hm:Za1 m=true){k:Nat}(hk:k<m.me.length){i:In3}(hi:ZfR m k i)(hop:i.op=25∨i.op=26)
include w K h m L S O H HM hm k hk i hi hop
theorem ZkD:
  Calls Tryz.prog 336 #[.pointer (some ⟨K,0,none⟩),.agg #[.int .i64 i.op,.int .i64 i.a,.int .i64 i.b]] w (ZdE w (Zkp m i)):=by
 have ha:=hi.a0 (by omega)
 obtain ⟨op,ia,ib⟩:=i
 dsimp only at ha hop ⊢
 obtain ⟨ia,rfl⟩:∃ d:Nat,ia=d:=⟨ia.toNat,by omega⟩
 rcases hop with rfl|rfl
 ·have h1:=(hi.o25 rfl).1
  dsimp only at h1
  have:=Zkr H HM hm (ia:=ia) (ib:=ib) (by omega)
  unfold Zkp
  rw [if_pos rfl]
  dsimp only
  rwa [Int.toNat_natCast]
 ·obtain ⟨h1,h2⟩:=hi.o26 rfl
  dsimp only at h1 h2
  have hc:Zkp m ⟨26,ia,ib⟩=match ZaN m ia with|[]=>[]|t :: _=>⟨2,-1⟩ :: (m.me.getD t.toNat default).p:=by
   unfold Zkp Zew
   rw [if_neg (by simp),if_neg (by simp)]
   cases ZaN m ia<;>rfl
  rw [hc]
  cases htg:ZaN m ia with
  | nil=>exact Zks H HM hm h1 htg
  | cons t r=>
   have h0:0≤t:=ZfT (by rw [htg];exact List.mem_cons_self)
   have h3:=h2 t (by rw [htg];exact List.mem_cons_self)
   obtain ⟨tj,rfl⟩:∃ d:Nat,t=d:=⟨t.toNat,by omega⟩
   dsimp only
   rw [Int.toNat_natCast]
   exact Zkt H HM hm h1 htg (by omega)
theorem ZkE:
  Calls Tryz.prog 335 #[.pointer (some ⟨K,0,none⟩),.agg #[.int .i64 i.op,.int .i64 i.a,.int .i64 i.b]] w (Ret w (.agg #[.int .i64 (Zkq m i).k,.int .i64 (Zkq m i).c])):=by
 have ha:=hi.a0 (by omega)
 obtain ⟨op,ia,ib⟩:=i
 dsimp only at ha hop ⊢
 obtain ⟨ia,rfl⟩:∃ d:Nat,ia=d:=⟨ia.toNat,by omega⟩
 rcases hop with rfl|rfl
 ·have h1:=(hi.o25 rfl).1
  dsimp only at h1
  have:=Zku H HM hm (ia:=ia) (ib:=ib) (by omega)
  have hc:Zkq m ⟨25,ia,ib⟩=(m.me.getD ia default).r:=by unfold Zkq Zew;rw [if_pos rfl];dsimp only;rw [Int.toNat_natCast]
  rwa [hc]
 ·obtain ⟨h1,h2⟩:=hi.o26 rfl
  dsimp only at h1 h2
  have hc:Zkq m ⟨26,ia,ib⟩=match ZaN m ia with|[]=>ty0|t :: _=>(m.me.getD t.toNat default).r:=by
   unfold Zkq Zew
   rw [if_neg (by simp)]
   cases ZaN m ia<;>rfl
  rw [hc]
  cases htg:ZaN m ia with
  | nil=>exact Zkv H HM hm h1 htg
  | cons t r=>
   have h0:0≤t:=ZfT (by rw [htg];exact List.mem_cons_self)
   have h3:=h2 t (by rw [htg];exact List.mem_cons_self)
   obtain ⟨tj,rfl⟩:∃ d:Nat,t=d:=⟨t.toNat,by omega⟩
   dsimp only
   rw [Int.toNat_natCast]
   exact Zkw H HM hm h1 htg (by omega)
end
theorem Pk.old {w w':World}{K:Nat}{h:Hd}{m:Md}{L S O:Value} (H:Pk w K h m L S O) (hb:Below w.heap.size w w'):Pk w' K h m L S O:=Blk.old H hb
theorem ZkF (a b:Int) (w:World):Sem.run Tryz.prog (Instr.field 76 (.agg #[.int .i64 a,.int .i64 b]) 0) w=.ok (.int .i64 a) w:=by kernel_rfl
theorem ZkG {m:Md}{i:In3} (hop:i.op=25∨i.op=26):Zex m i=((Zkp m i).length,if (Zkq m i).k=0 then 0 else 1):=by
 rcases hop with hop|hop
 ·rw [Zgk hop]
  have hc:Zew m i=some (m.me.getD i.a.toNat default):=by unfold Zew;rw [if_pos hop]
  unfold Zkp Zkq
  rw [if_pos hop,hc]
 ·rw [Zgl hop]
  unfold Zkp Zkq
  rw [if_neg (by omega)]
  cases Zew m i<;>simp [ty0]
theorem ZkH {w:World}{K:Nat}{h:Hd}{m:Md}{L S O:Value} (H:Pk w K h m L S O) (HM:Zay w h m) (hm:Za1 m=true) {k:Nat} (hk:k<m.me.length) {i:In3} (hi:ZfR m k i) (hop:0≤i.op∧i.op<34) :
  Calls Tryz.prog 271 #[.pointer (some ⟨K,0,none⟩),.agg #[.int .i64 i.op,.int .i64 i.a,.int .i64 i.b]] w (Zhf w (.int .i64 (Zex m i).1) (.int .i64 (Zex m i).2)):=by
 by_cases hc:i.op=25∨i.op=26
 ·rw [ZkG hc]
  have HR:=Zh (fun w' (hb:Below w.heap.size w w')=>ZkE (H.old hb) (HM.old hb) hm hk hi hc)
  have HA:=Zh (fun w' (hb:Below w.heap.size w w')=>ZkD (H.old hb) (HM.old hb) hm hk hi hc)
  generalize hr:Zkq m i=r at HR ⊢
  generalize hl:Zkp m i=l at HA ⊢
  have hl5:l.length≤1000000:=by
   rw [←hl]
   exact k44
  clear hr hl H HM hi
  obtain ⟨op,ia,ib⟩:=i
  obtain ⟨rk,rq⟩:=r
  dsimp only at hc hop HR HA ⊢
  by_cases hk0:rk=0
  ·subst hk0
   rcases hc with rfl|rfl
   all_goals
    have hfd:=ZkF 0 rq
    go_enter Tryz.func271,Tryz.ntmps271
    go_wp2_with (first|(go_at_call 335;refine (HR.out _ bE).mono ?_;rintro r w1 ⟨rfl,hb1⟩;have HB1:=Zh (Zaf (show Below w.heap.size w _ by exact bE) hb1);have i0:=((Blk.new w _ _).old hb1).cell 0 (v:=.int .i64 _) rfl;have i1:=((Blk.new w _ _).old hb1).cell 1 (v:=.int .i64 ia) rfl;have i2:=((Blk.new w _ _).old hb1).cell 2 (v:=.int .i64 ib) rfl;clear hb1)|(go_at_call 336;refine (HA.out _ HB1.out).mono ?_;rintro r w2 ⟨⟨ao,cap,rfl,hr2⟩,hb2⟩))
    go_ret2
    exact Zhg rfl (by simp) (Zaf HB1.out hb2)
  ·have hk1:(rk != 0)=true:=by simpa using hk0
   have hn1:(if rk=0 then 0 else 1)=1:=if_neg hk0
   rw [hn1]
   clear hn1 hk0
   rcases hc with rfl|rfl
   all_goals
    have hfd:=ZkF rk rq
    go_enter Tryz.func271,Tryz.ntmps271
    go_wp2_with (first|(go_at_call 335;refine (HR.out _ bE).mono ?_;rintro r w1 ⟨rfl,hb1⟩;have HB1:=Zh (Zaf (show Below w.heap.size w _ by exact bE) hb1);have i0:=((Blk.new w _ _).old hb1).cell 0 (v:=.int .i64 _) rfl;have i1:=((Blk.new w _ _).old hb1).cell 1 (v:=.int .i64 ia) rfl;have i2:=((Blk.new w _ _).old hb1).cell 2 (v:=.int .i64 ib) rfl;clear hb1)|(go_at_call 336;refine (HA.out _ HB1.out).mono ?_;rintro r w2 ⟨⟨ao,cap,rfl,hr2⟩,hb2⟩))
    go_ret2
    exact Zhg rfl rfl (Zaf HB1.out hb2)
 ·obtain ⟨op,ia,ib⟩:=i
  clear hi H HM
  dsimp only at hc hop ⊢
  have cls:op=0∨op=1∨op=2∨op=3∨op=4∨op=5∨op=6∨op=7∨op=8∨op=9∨op=10∨op=11∨op=12∨op=13∨op=14∨op=15∨op=16∨op=17∨op=18∨op=19∨op=20∨op=21∨op=22∨op=23∨op=24∨op=27∨op=28∨op=29∨op=30∨op=31∨op=32∨op=33:=by omega
  clear hop hc
  rcases cls with rfl|rfl|rfl|rfl|rfl|rfl|rfl|rfl|rfl|rfl|rfl|rfl|rfl|rfl|rfl|rfl|rfl|rfl|rfl|rfl|rfl|rfl|rfl|rfl|rfl|rfl|rfl|rfl|rfl|rfl|rfl|rfl
  all_goals
   go_enter Tryz.func271,Tryz.ntmps271
   go_wp2
   go_ret2
   exact Zhg rfl rfl bE
end
section
open Go.RowKit
section
variable {w:World}{K:Nat}{h:Hd}{m:Md}{lo:Option Addr}{lc:Nat}{ls:List Ty}{S O:Value}(H:Pk w K h m (.slice lo ls.length lc) S O)(HM:Zay w h m)(hd:Zc3 m m.cl.length)(ht:Zar w lo lc ls)
include w K h m lo lc ls S O H HM hd ht
theorem ZkI {ia ib:Int} {la:Option Addr} {lcap:Nat} (hr:Zar w la lcap ([]:List Ty)):
  Calls Tryz.prog 273 #[.pointer (some ⟨K,0,none⟩),.agg #[.int .i64 15,.int .i64 ia,.int .i64 ib],.slice la 0 lcap] w (Zj6 w (ZeB m ls ⟨15,ia,ib⟩ [])):=by
 have HPv:=Zh (show ZeB m ls ⟨15,ia,ib⟩ []=some ⟨3,0⟩ from ZfZ rfl)
 exact k58
theorem ZkJ {op:Int} (hop:op=6∨op=7∨op=8∨op=9∨op=10∨op=11) {ia ib:Int} {la:Option Addr} {lcap:Nat} {a b:Ty} (hr:Zar w la lcap ([a,b]:List Ty)) (h1:a≠Zeu):
  Calls Tryz.prog 273 #[.pointer (some ⟨K,0,none⟩),.agg #[.int .i64 op,.int .i64 ia,.int .i64 ib],.slice la 2 lcap] w (Zj6 w (ZeB m ls ⟨op,ia,ib⟩ [a,b])):=by
 have HPv:=Zh (show ZeB m ls ⟨op,ia,ib⟩ [a,b]=none from by rw [pv6 hop];rw [show (decide ([a,b].getD 0 default=Zeu)&&decide ([a,b].getD 1 default=Zeu))=false from by rw [show [a,b].getD 0 default=a from rfl,decide_eq_false h1];rfl];rfl)
 obtain ⟨ad,rfl,a0,a1,b0,b1⟩:=Zkb hr
 obtain ⟨ak,ac⟩:=a
 obtain ⟨bk,bc⟩:=b
 dsimp only at a0 a1 b0 b1
 have hd0:(decide (ak=1)&&decide (ac=0))=false:=by
  exact k34
 clear h1
 obtain ⟨W1,HW1,HBw,HX,HS,hrl⟩:=Zkf w op ia ib (l:=[(ad,.int .i64 ak),(⟨ad.block,ad.off+1,none⟩,.int .i64 ac),(⟨ad.block,ad.off+2,none⟩,.int .i64 bk),(⟨ad.block,ad.off+3,none⟩,.int .i64 bc)]) ⟨a0,a1,b0,b1,trivial⟩
 have HB0:=Zh (Below.refl W1.heap.size W1)
 have hne:=ZdW
 have heq:=ZdV
 have hgu:=ZdX
 clear H HM ht hr a0 a1 b0 b1
 rcases hop with rfl|rfl|rfl|rfl|rfl|rfl
 all_goals
  go_enter Tryz.func273,Tryz.ntmps273
  go_upto_region 18 with fail
  rw [←HW1.out]
  refine kO HS.out (oL [1,2,3,100,104,5,6,7,8,9,110,11,12,113,14]) (Upd.of HB0.out).drew ?_
  have HB1:=Zh HB0.out.drew
  repeat refine pO ?_
  refine oO fun Kv hK=>?_
  go_simp
  refine (Zj9 _).mono ?_
  rintro r w5 ⟨rfl,hb5⟩
  have HB2:=Zh (Zaf HB1.out hb5)
  refine hK _ _ ⟨HS.out _ (Upd.of HB2.out),?_⟩
  clear hK Kv hb5
  repeat refine pO ?_
  refine oO fun Kv hK=>?_
  go_simp
  refine (Zj9 _).mono ?_
  rintro r w6 ⟨rfl,hb6⟩
  have HB3:=Zh (Zaf HB2.out hb6)
  refine hK _ _ ⟨HS.out _ (Upd.of HB3.out),?_⟩
  clear hK Kv hb6
  repeat refine pO ?_
  refine sO 83 (HS.out _ (Upd.of HB3.out)) ?_
  repeat refine pO ?_
  obtain ⟨y0,y1,g0,g1⟩:=Zki (HX.out.old HB3.out)
  refine oO fun Kv hK=>?_
  go_simp
  refine hK _ _ ⟨HS.out _ (((Upd.of HB3.out).set 0 _).set 1 _),?_⟩
  clear hK Kv
  repeat refine pO ?_
  refine Zd5 ?_
  go_wp2
  refine bodyPost_ret (v:=.tuple #[.agg #[.int .i64 1,.int .i64 0],.bool false]) (by simp [results,Tryz.results273,go_sem,y0,y1]) rfl ?_
  exact Zkl HPv.out (Zkj HBw.out HB3.out)
theorem ZkK {op:Int} (hop:op=27∨op=29) {ia ib:Int} {la:Option Addr} {lcap:Nat} {a:Ty} (hr:Zar w la lcap ([a]:List Ty)):
  Calls Tryz.prog 273 #[.pointer (some ⟨K,0,none⟩),.agg #[.int .i64 op,.int .i64 ia,.int .i64 ib],.slice la 1 lcap] w (Zj6 w (ZeB m ls ⟨op,ia,ib⟩ [a])):=by
 have HPv:=Zh (show ZeB m ls ⟨op,ia,ib⟩ [a]=if decide (a=Zeu)=true then some ty0 else none from Zgb hop)
 obtain ⟨ad,rfl,a0,a1⟩:=Zka hr
 obtain ⟨ak,ac⟩:=a
 dsimp only at a0 a1
 obtain ⟨W1,HW1,HBw,HX,HS,hrl⟩:=Zkf w op ia ib (l:=[(ad,.int .i64 ak),(⟨ad.block,ad.off+1,none⟩,.int .i64 ac)]) ⟨a0,a1,trivial⟩
 have HB0:=Zh (Below.refl W1.heap.size W1)
 have hne:=ZdW
 have heq:=ZdV
 have hgu:=ZdX
 clear H HM ht hr a0 a1
 rcases hop with rfl|rfl
 all_goals
  go_enter Tryz.func273,Tryz.ntmps273
  go_upto_region 37 with fail
  rw [←HW1.out]
  refine kO HS.out (oL [0,1,2,3,104,5,106,7]) (Upd.of HB0.out).drew ?_
  have HB1:=Zh HB0.out.drew
  repeat refine pO ?_
  refine oO fun Kv hK=>?_
  go_simp
  refine (Zj9 _).mono ?_
  rintro r w5 ⟨rfl,hb5⟩
  have HB2:=Zh (Zaf HB1.out hb5)
  refine hK _ _ ⟨HS.out _ (Upd.of HB2.out),?_⟩
  clear hK Kv hb5
  repeat refine pO ?_
  obtain ⟨y0,y1,g0,g1⟩:=Zki (HX.out.old HB2.out)
  refine oO fun Kv hK=>?_
  go_simp
  refine hK _ _ ⟨HS.out _ (((Upd.of HB2.out).set 0 _).set 1 _),?_⟩
  clear hK Kv
  repeat refine pO ?_
  refine Zd5 ?_
  go_wp2
  refine bodyPost_ret (v:=.tuple #[.agg #[.int .i64 0,.int .i64 0],.bool (decide (ak=1)&&decide (ac=0))]) (by simp [results,Tryz.results273,go_sem,y0,y1]) rfl ?_
  exact Zko HPv.out (by rw [Zhp];rfl) (Zkj HBw.out HB2.out)
theorem ZkL {ia ib:Int} {la:Option Addr} {lcap:Nat} {a:Ty} (hr:Zar w la lcap ([a]:List Ty)) (h1:a≠Zeu):
  Calls Tryz.prog 273 #[.pointer (some ⟨K,0,none⟩),.agg #[.int .i64 30,.int .i64 ia,.int .i64 ib],.slice la 1 lcap] w (Zj6 w (ZeB m ls ⟨30,ia,ib⟩ [a])):=by
 have HPv:=Zh (show ZeB m ls ⟨30,ia,ib⟩ [a]=none from by rw [Zgc rfl];rw [show (decide ([a].getD 0 default=Zeu)&&decide (ls[ib.toNat]?=some Zeu))=false from by rw [show [a].getD 0 default=a from rfl,decide_eq_false h1];rfl];rfl)
 obtain ⟨ad,rfl,a0,a1⟩:=Zka hr
 obtain ⟨ak,ac⟩:=a
 dsimp only at a0 a1
 have hd0:(decide (ak=1)&&decide (ac=0))=false:=by
  exact k34
 clear h1
 obtain ⟨W1,HW1,HBw,HX,HS,hrl⟩:=Zkf w 30 ia ib (l:=[(ad,.int .i64 ak),(⟨ad.block,ad.off+1,none⟩,.int .i64 ac)]) ⟨a0,a1,trivial⟩
 have HB0:=Zh (Below.refl W1.heap.size W1)
 have hne:=ZdW
 have heq:=ZdV
 have hgu:=ZdX
 clear H HM ht hr a0 a1
 exact k17
theorem ZkM {ia ib:Int} {la:Option Addr} {lcap:Nat} (hr:Zar w la lcap ([]:List Ty)):
  Calls Tryz.prog 273 #[.pointer (some ⟨K,0,none⟩),.agg #[.int .i64 28,.int .i64 ia,.int .i64 ib],.slice la 0 lcap] w (Zj6 w (ZeB m ls ⟨28,ia,ib⟩ [])):=by
 have HPv:=Zh (show ZeB m ls ⟨28,ia,ib⟩ []=some ty0 from pvx (by simp))
 exact k12
theorem ZkN {ia ib:Int} {la:Option Addr} {lcap:Nat} {a:Ty} (hr:Zar w la lcap ([a]:List Ty)) (hta:a.k=2→0≤a.c∧a.c<m.cl.length) (h1:a.k=2) (hi0:0≤ia) (hlt:¬ ia<(m.cl.getD a.c.toNat default).f.length):
  Calls Tryz.prog 338 #[.pointer (some ⟨K,0,none⟩),.agg #[.int .i64 17,.int .i64 ia,.int .i64 ib],.slice la 1 lcap] w (Zj6 w (ZeB m ls ⟨17,ia,ib⟩ [a])):=by
 obtain ⟨kl,k0,k1,k2,k3,k4⟩:=H.cells
 obtain ⟨ad,rfl,a0,a1⟩:=Zka hr
 obtain ⟨ak,ac⟩:=a
 dsimp only at a0 a1
 dsimp only at hlt
 obtain rfl:ak=2:=h1
 obtain ⟨hc0,hcl⟩:=hta rfl
 dsimp only at hc0 hcl
 obtain ⟨c,rfl⟩:∃ d:Nat,ac=d:=⟨ac.toNat,by omega⟩
 have hcl':c<m.cl.length:=by omega
 have hcl2:(c:Int) < m.cl.length:=by omega
 obtain ⟨ca,hco,-,-,e2,-⟩:=HM.cls hcl'
 have hfr:=HM.f c hcl'
 obtain ⟨fs,hfs⟩:∃ l,l=(m.cl.getD c default).f:=⟨_,rfl⟩
 have hfld:Zey m ⟨2,(c:Int)⟩ ia=fs[ia.toNat]?:=by rw [hfs];show (if (2:Int)=2 then (m.cl.getD ((c:Int)).toNat default).f[ia.toNat]? else none)=_;rw [if_pos rfl,Int.toNat_natCast]
 rw [←hfs] at e2 hfr
 have k0':=k0
 rw [hco] at k0'
 rw [Int.toNat_natCast,←hfs] at hlt
 have HPv:=Zh (show ZeB m ls ⟨17,ia,ib⟩ [⟨2,(c:Int)⟩]=none from by rw [Zf1 rfl];show Zey m ⟨2,(c:Int)⟩ ia=none;rw [hfld];exact List.getElem?_eq_none (by omega))
 have hge:decide ((fs.length:Int)≤ia)=true:=by simp;omega
 clear hfld hfs hfr hco
 obtain ⟨W1,HW1,HBw,HX,HBt,HBi,HS,hrl⟩:=Zkg w 17 ia ib 2 c (l:=[(ad,.int .i64 2),(⟨ad.block,ad.off+1,none⟩,.int .i64 c),(⟨K,0,none⟩,.slice (some ca) m.cl.length h.cc),(⟨(ca.add (c*4)).block,(ca.add (c*4)).off+2,none⟩,.slice (h.c c).fo fs.length (h.c c).fc)]) ⟨a0,a1,k0',e2,trivial⟩
 have HB0:=Zh (Below.refl W1.heap.size W1)
 have hne:=ZdW
 have heq:=ZdV
 have hgu:=ZdX
 have hal:=Zac a0
 clear H HM ht hr k0 k1 k2 k3 k4 k0' e2
 go_enter Tryz.func338,Tryz.ntmps338
 go_upto_region 4 with fail
 exact k8
theorem ZkO {ia ib:Int} {la:Option Addr} {lcap:Nat} {a:Ty} (hr:Zar w la lcap ([a]:List Ty)) (h1:a.k=3):
  Calls Tryz.prog 338 #[.pointer (some ⟨K,0,none⟩),.agg #[.int .i64 21,.int .i64 ia,.int .i64 ib],.slice la 1 lcap] w (Zj6 w (ZeB m ls ⟨21,ia,ib⟩ [a])):=by
 obtain ⟨ad,rfl,a0,a1⟩:=Zka hr
 obtain ⟨ak,ac⟩:=a
 dsimp only at a0 a1
 obtain rfl:ak=3:=h1
 have HPv:=Zh (show ZeB m ls ⟨21,ia,ib⟩ [⟨3,ac⟩]=some Zeu from by rw [Zf5 rfl];rfl)
 obtain ⟨W1,HW1,HBw,HX,HBt,HBi,HS,hrl⟩:=Zkg w 21 ia ib 3 ac (l:=[(ad,.int .i64 3),(⟨ad.block,ad.off+1,none⟩,.int .i64 ac)]) ⟨a0,a1,trivial⟩
 exact k15
theorem ZkP {ia ib:Int} {la:Option Addr} {lcap:Nat} {a:Ty} (hr:Zar w la lcap ([a]:List Ty)) (hta:a.k=2→0≤a.c∧a.c<m.cl.length) (h1:a.k=2) (hi0:0≤ia) (hlt:ia<m.cl.length) (h2:Zet m ⟨2,ia⟩ a=false):
  Calls Tryz.prog 338 #[.pointer (some ⟨K,0,none⟩),.agg #[.int .i64 24,.int .i64 ia,.int .i64 ib],.slice la 1 lcap] w (Zj6 w (ZeB m ls ⟨24,ia,ib⟩ [a])):=by
 obtain ⟨kl,k0,k1,k2,k3,k4⟩:=H.cells
 obtain ⟨ad,rfl,a0,a1⟩:=Zka hr
 obtain ⟨ak,ac⟩:=a
 dsimp only at a0 a1
 obtain rfl:ak=2:=h1
 obtain ⟨hc0,hcl⟩:=hta rfl
 dsimp only at hc0 hcl
 obtain ⟨q2,hq2⟩:∃ x,x=Zet m ⟨2,ac⟩ ⟨2,ia⟩:=⟨_,rfl⟩
 have hf1:Zet m ⟨2,ia⟩ ⟨2,ac⟩=ZaH m (ia.toNat+1) ia ac:=by simp [Zet]
 have hf2:Zet m ⟨2,ac⟩ ⟨2,ia⟩=ZaH m (ac.toNat+1) ac ia:=by simp [Zet]
 have HA1:=Zh (show ∀ w',Below w.heap.size w w'→Calls Tryz.prog 340 #[.agg #[.slice h.co m.cl.length h.cc,.slice h.so m.st.length h.sc,.slice h.eo m.me.length h.ec,.int .i64 m.sel],.int .i64 ia,.int .i64 ac] w' (Ret w' (.bool false)) from fun w' hb'=>by have:=ZjR m h ia ac w' (HM.old hb') hlt hc0 hd;rw [←hf1,h2] at this;exact this)
 have HA2:=Zh (show ∀ w',Below w.heap.size w w'→Calls Tryz.prog 340 #[.agg #[.slice h.co m.cl.length h.cc,.slice h.so m.st.length h.sc,.slice h.eo m.me.length h.ec,.int .i64 m.sel],.int .i64 ac,.int .i64 ia] w' (Ret w' (.bool q2)) from fun w' hb'=>by have:=ZjR m h ac ia w' (HM.old hb') hcl hi0 hd;rw [←hf2,←hq2] at this;exact this)
 have HPv:=Zh (show ZeB m ls ⟨24,ia,ib⟩ [⟨2,ac⟩]=if q2=true then some ⟨2,ia⟩ else none from by rw [Zf8 rfl];rw [show (decide (([(⟨2,ac⟩:Ty)].getD 0 default).k=2)&&(Zet m ([(⟨2,ac⟩:Ty)].getD 0 default) ⟨2,ia⟩||Zet m ⟨2,ia⟩ ([(⟨2,ac⟩:Ty)].getD 0 default)))=q2 from by show (true&&(Zet m ⟨2,ac⟩ ⟨2,ia⟩||Zet m ⟨2,ia⟩ ⟨2,ac⟩))=_;rw [h2];rw [←hq2];simp])
 clear hf1 hf2 h2 hq2
 obtain ⟨W1,HW1,HBw,HX,HBt,HBi,HS,hrl⟩:=Zkg w 24 ia ib 2 ac (l:=[(ad,.int .i64 2),(⟨ad.block,ad.off+1,none⟩,.int .i64 ac),(⟨K,0,none⟩,.slice h.co m.cl.length h.cc),(⟨K,1,none⟩,.slice h.so m.st.length h.sc),(⟨K,2,none⟩,.slice h.eo m.me.length h.ec),(⟨K,3,none⟩,.int .i64 m.sel)]) ⟨a0,a1,k0,k1,k2,k3,trivial⟩
 have HB0:=Zh (Below.refl W1.heap.size W1)
 have hne:=ZdW
 have heq:=ZdV
 have hgu:=ZdX
 have hal:=Zac a0
 clear H HM ht hr k0 k1 k2 k3 k4
 go_enter Tryz.func338,Tryz.ntmps338
 go_upto_region 16 with fail
 rw [←HW1.out]
 clear a0 a1 hal
 refine kO HS.out (oL [0,1,2,3,4,5,6,7,8,9,10,111,12,13,14,15,16,17,18,19,20,121,22,123,24]) (Upd.of HB0.out).drew ?_
 have HB1:=Zh HB0.out.drew
 repeat refine pO ?_
 refine oO fun Kv hK=>?_
 go_simp
 refine (HA1.out _ (Zaf HBw.out HB1.out)).mono ?_
 rintro r w5 ⟨rfl,hb5⟩
 have HB2:=Zh (Zaf HB1.out hb5)
 refine hK _ _ ⟨HS.out _ (Upd.of HB2.out),?_⟩
 clear hK Kv hb5
 repeat refine pO ?_
 refine oO fun Kv hK=>?_
 go_simp
 refine (HA2.out _ (Zaf HBw.out HB2.out)).mono ?_
 rintro r w6 ⟨rfl,hb6⟩
 have HB3:=Zh (Zaf HB2.out hb6)
 refine hK _ _ ⟨HS.out _ (Upd.of HB3.out),?_⟩
 clear hK Kv hb6
 repeat refine pO ?_
 obtain ⟨y0,y1,g0,g1⟩:=Zki (HX.out.old HB3.out)
 refine oO fun Kv hK=>?_
 go_simp
 refine hK _ _ ⟨HS.out _ (((Upd.of HB3.out).set 0 _).set 1 _),?_⟩
 clear hK Kv
 repeat refine pO ?_
 refine Zd5 ?_
 go_wp2
 refine bodyPost_ret (v:=.tuple #[.agg #[.int .i64 2,.int .i64 ia],.bool q2]) (by simp [results,Tryz.results338,go_sem,y0,y1]) rfl ?_
 exact Zko HPv.out rfl (Zkj HBw.out HB3.out)
theorem ZkQ {ia ib:Int} {la:Option Addr} {lcap:Nat} {a b:Ty} (hr:Zar w la lcap ([a,b]:List Ty)) (h0:a.k=4) (h1:b=Zeu):
  Calls Tryz.prog 338 #[.pointer (some ⟨K,0,none⟩),.agg #[.int .i64 19,.int .i64 ia,.int .i64 ib],.slice la 2 lcap] w (Zj6 w (ZeB m ls ⟨19,ia,ib⟩ [a,b])):=by
 obtain ⟨ad,rfl,a0,a1,b0,b1⟩:=Zkb hr
 obtain ⟨ak,ac⟩:=a
 obtain ⟨bk,bc⟩:=b
 obtain ⟨rfl,rfl⟩:bk=1∧bc=0:=by cases h1;exact ⟨rfl,rfl⟩
 dsimp only at a0 a1 b0 b1
 obtain rfl:ak=4:=h0
 have HPv:=Zh (show ZeB m ls ⟨19,ia,ib⟩ [⟨4,ac⟩,Zeu]=some ⟨2,ac⟩ from by rw [Zf3 rfl];rfl)
 obtain ⟨W1,HW1,HBw,HX,HBt,HBi,HS,hrl⟩:=Zkg w 19 ia ib 4 ac (l:=[(ad,.int .i64 4),(⟨ad.block,ad.off+1,none⟩,.int .i64 ac),(⟨ad.block,ad.off+2,none⟩,.int .i64 1),(⟨ad.block,ad.off+3,none⟩,.int .i64 0)]) ⟨a0,a1,b0,b1,trivial⟩
 have HB0:=Zh (Below.refl W1.heap.size W1)
 have hne:=ZdW
 have heq:=ZdV
 have hgu:=ZdX
 have hal:=Zac a0
 clear H HM ht hr b0 b1
 go_enter Tryz.func338,Tryz.ntmps338
 go_upto_region 20 with (go_at_call 337;rw [←HW1.out];refine (Zj9 _).mono ?_;rintro r w4 ⟨rfl,hb4⟩;have HB4:=Zh hb4;have z0:=(HBt.out.old hb4).cell 0 (v:=.int .i64 4) rfl;have z1:=(HBt.out.old hb4).cell 1 (v:=.int .i64 ac) rfl;have zl:=hb4.size;have zt:=HBt.out.lt;have zz:w.heap.size+2<w4.heap.size:=(by omega);clear hb4)
 clear a0 a1 hal
 clear z0 z1
 have hw5:Below W1.heap.size W1 (w4.alloc (.cells #[.int .i64 2,.int .i64 ac] 76)):=bal HB4.out _
 have hx5:=Blk.new w4 #[.int .i64 2,.int .i64 ac] 76
 obtain ⟨W5,hW5⟩:∃ W5,W5=w4.alloc (.cells #[.int .i64 2,.int .i64 ac] 76):=⟨_,rfl⟩
 rw [←hW5] at hw5 hx5 ⊢
 have HB1:=Zh hw5
 have HX5:=Zh (show Blk W5 w4.heap.size #[.int .i64 2,.int .i64 ac] 76 from hx5)
 clear hW5 hw5 hx5
 refine kO HS.out (oL [0,1,2,3,4,5,6,7,8,9,10,11,112,13,14]) (Upd.of HB1.out).drew ?_
 have HB2:=Zh HB1.out.drew
 repeat refine pO ?_
 refine oO fun Kv hK=>?_
 go_simp
 refine (Zj9 _).mono ?_
 rintro r w6 ⟨rfl,hb6⟩
 have HB56:=Zh (Zaf (show Below W5.heap.size W5 W5.drew by exact bE) hb6)
 have HB3:=Zh (Zaf HB2.out hb6)
 refine hK _ _ ⟨HS.out _ (Upd.of HB3.out),?_⟩
 clear hK Kv hb6
 repeat refine pO ?_
 refine Zd5 ?_
 have hx6:=HX5.out.old HB56.out
 have x0:=hx6.cell 0 (v:=.int .i64 2) rfl
 have x1:=hx6.cell 1 (v:=.int .i64 ac) rfl
 have i0:=(HBi.out.old HB3.out).cell 0 (v:=.int .i64 19) rfl
 clear hx6
 obtain ⟨y0,y1,g0,g1⟩:=Zki (HX.out.old HB3.out)
 go_wp2
 refine bodyPost_ret (v:=.tuple #[.agg #[.int .i64 2,.int .i64 ac],.bool true]) (by simp [results,Tryz.results338,go_sem,y0,y1]) rfl ?_
 exact Zkk HPv.out (Zkj HBw.out HB3.out)
theorem ZkR {ia ib:Int} {la:Option Addr} {lcap:Nat} {a b d:Ty} (hr:Zar w la lcap ([a,b,d]:List Ty)) (h0:a.k=4) (h1:b=Zeu) (htd:d.k=2→0≤d.c∧d.c<m.cl.length) (hta:0≤a.c):
  Calls Tryz.prog 338 #[.pointer (some ⟨K,0,none⟩),.agg #[.int .i64 20,.int .i64 ia,.int .i64 ib],.slice la 3 lcap] w (Zj6 w (ZeB m ls ⟨20,ia,ib⟩ [a,b,d])):=by
 obtain ⟨kl,k0,k1,k2,k3,k4⟩:=H.cells
 obtain ⟨ad,rfl,a0,a1,b0,b1,d0,d1⟩:=Zkc hr
 obtain ⟨ak,ac⟩:=a
 obtain ⟨bk,bc⟩:=b
 obtain ⟨rfl,rfl⟩:bk=1∧bc=0:=by cases h1;exact ⟨rfl,rfl⟩
 obtain ⟨dk,dc⟩:=d
 dsimp only at a0 a1 b0 b1 d0 d1
 obtain rfl:ak=4:=h0
 have HPv:=Zh (show ZeB m ls ⟨20,ia,ib⟩ [⟨4,ac⟩,Zeu,⟨dk,dc⟩]=if Zet m ⟨dk,dc⟩ ⟨2,ac⟩=true then some ty0 else none from by rw [Zf4 rfl];rfl)
 have hut:(⟨2,ac⟩:Ty).k=2→0≤(⟨2,ac⟩:Ty).c:=fun hk=>hta
 obtain ⟨ft,hft⟩:∃ x,x=Zet m ⟨dk,dc⟩ ⟨2,ac⟩:=⟨_,rfl⟩
 have HFi:=Zh (show ∀ w',Below w.heap.size w w'→Calls Tryz.prog 274 #[.agg #[.slice h.co m.cl.length h.cc,.slice h.so m.st.length h.sc,.slice h.eo m.me.length h.ec,.int .i64 m.sel],.agg #[.int .i64 dk,.int .i64 dc],.agg #[.int .i64 2,.int .i64 ac]] w' (Ret w' (.bool ft)) from fun w' hb'=>by have:=ZjS m h ⟨dk,dc⟩ ⟨2,ac⟩ w' (HM.old hb') htd hut hd;rw [←hft] at this;exact this)
 have Hft:=Zh hft
 clear hft
 obtain ⟨W1,HW1,HBw,HX,HBt,HBi,HS,hrl⟩:=Zkg w 20 ia ib 4 ac (l:=[(ad,.int .i64 4),(⟨ad.block,ad.off+1,none⟩,.int .i64 ac),(⟨ad.block,ad.off+2,none⟩,.int .i64 1),(⟨ad.block,ad.off+3,none⟩,.int .i64 0),(⟨ad.block,ad.off+4,none⟩,.int .i64 dk),(⟨ad.block,ad.off+5,none⟩,.int .i64 dc),(⟨K,0,none⟩,.slice h.co m.cl.length h.cc),(⟨K,1,none⟩,.slice h.so m.st.length h.sc),(⟨K,2,none⟩,.slice h.eo m.me.length h.ec),(⟨K,3,none⟩,.int .i64 m.sel)]) ⟨a0,a1,b0,b1,d0,d1,k0,k1,k2,k3,trivial⟩
 have HB0:=Zh (Below.refl W1.heap.size W1)
 have hne:=ZdW
 have heq:=ZdV
 have hgu:=ZdX
 have hal:=Zac a0
 clear H HM ht hr k0 k1 k2 k3 k4 b0 b1 d0 d1
 go_enter Tryz.func338,Tryz.ntmps338
 go_upto_region 20 with (go_at_call 337;rw [←HW1.out];refine (Zj9 _).mono ?_;rintro r w4 ⟨rfl,hb4⟩;have HB4:=Zh hb4;have z0:=(HBt.out.old hb4).cell 0 (v:=.int .i64 4) rfl;have z1:=(HBt.out.old hb4).cell 1 (v:=.int .i64 ac) rfl;have zl:=hb4.size;have zt:=HBt.out.lt;have zz:w.heap.size+2<w4.heap.size:=(by omega);clear hb4)
 clear a0 a1 hal
 clear z0 z1
 have hw5:Below W1.heap.size W1 (w4.alloc (.cells #[.int .i64 2,.int .i64 ac] 76)):=bal HB4.out _
 have hx5:=Blk.new w4 #[.int .i64 2,.int .i64 ac] 76
 obtain ⟨W5,hW5⟩:∃ W5,W5=w4.alloc (.cells #[.int .i64 2,.int .i64 ac] 76):=⟨_,rfl⟩
 rw [←hW5] at hw5 hx5 ⊢
 have HB1:=Zh hw5
 have HX5:=Zh (show Blk W5 w4.heap.size #[.int .i64 2,.int .i64 ac] 76 from hx5)
 clear hW5 hw5 hx5
 refine kO HS.out (oL [0,1,2,3,4,5,6,7,8,9,10,11,112,13,14]) (Upd.of HB1.out).drew ?_
 have HB2:=Zh HB1.out.drew
 repeat refine pO ?_
 refine oO fun Kv hK=>?_
 go_simp
 refine (Zj9 _).mono ?_
 rintro r w6 ⟨rfl,hb6⟩
 have HB56:=Zh (Zaf (show Below W5.heap.size W5 W5.drew by exact bE) hb6)
 have HB3:=Zh (Zaf HB2.out hb6)
 refine hK _ _ ⟨HS.out _ (Upd.of HB3.out),?_⟩
 clear hK Kv hb6
 repeat refine pO ?_
 refine Zd5 ?_
 have hx6:=HX5.out.old HB56.out
 have x0:=hx6.cell 0 (v:=.int .i64 2) rfl
 have x1:=hx6.cell 1 (v:=.int .i64 ac) rfl
 exact k13
end
end
end Go.Proofs.YtcfjblcgceednaaGreat
