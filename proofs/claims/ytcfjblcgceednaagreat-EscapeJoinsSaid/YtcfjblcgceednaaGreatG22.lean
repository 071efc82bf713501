/- Joined texts. The first: ref06: what an instruction pushes, all operations. -/
import Derived.Test.YtcfjblcgceednaaGreatG20
import Derived.Test.YtcfjblcgceednaaGreatG21
import Derived.Test.YtcfjblcgceednaaGreatG19
set_option linter.all false
set_option linter.unusedVariables false
set_option linter.unusedSimpArgs false
set_option maxRecDepth 100000
set_option maxHeartbeats 10000000
namespace Go.Proofs.YtcfjblcgceednaaGreat
theorem k31{p:Prop}(h:p:=by
 by_cases q:a=Zeu
 ·exact Zlx H HM hd ht (by decide) hr q
 ·exact ZkJ H HM hd ht (by decide) hr q):p:=h
theorem k63{p:Prop}(h:p:=by
 go_wp2_with (go_at_call 272;refine (HBs.out _ (Zaf HB1.out HB2.out)).mono ?_;rintro r w3 ⟨rfl,hb3⟩)
 go_ret
 exact Zl8 hn1 hn2 he (by decide) (Upd.of (Zaf HB1.out (Zaf HB2.out hb3)))):p:=h
section
open Go.RowKit
theorem p_1 {w:World}{K:Nat}{m:Md}{ls:List Ty}{ia ib:Int}{la:Option Addr}{lcap:Nat} :
  Calls Tryz.prog 273 #[.pointer (some ⟨K,0,none⟩),.agg #[.int .i64 1,.int .i64 ia,.int .i64 ib],.slice la 0 lcap] w (Zj6 w (ZeB m ls ⟨1,ia,ib⟩ [])):=by
 have hbr:Blk ((w.alloc (.cells #[.int .i64 1,.int .i64 ia,.int .i64 ib] 78)).alloc (.cells #[.int .i64 0,.int .i64 0] 76)) (w.heap.size+1) #[.int .i64 0,.int .i64 0] 76:=Blk.new' (w:=w.alloc (.cells #[.int .i64 1,.int .i64 ia,.int .i64 ib] 78)) _ _ (by simp)
 have HBr:=Zh hbr
 have HB0:=Zh (show Below w.heap.size w ((w.alloc (.cells #[.int .i64 1,.int .i64 ia,.int .i64 ib] 78)).alloc (.cells #[.int .i64 0,.int .i64 0] 76)) by exact bE)
 clear hbr
 have hp:ZeB m ls ⟨1,ia,ib⟩ []=some ⟨1,0⟩:=pv1 rfl
 go_enter Tryz.func273,Tryz.ntmps273
 go_wp2_with (go_at_call 337;refine (Zj9 _).mono ?_;rintro r w2 ⟨rfl,hb2⟩;have HB2:=Zh hb2;clear hb2;have y0:=(HBr.out.old HB2.out).cell 0 (v:=.int .i64 0) rfl;have y1:=(HBr.out.old HB2.out).cell 1 (v:=.int .i64 0) rfl;have g0:=(HBr.out.old HB2.out).frozen 0;have g1:=(HBr.out.old HB2.out).frozen 1;have hrl:=(HBr.out.old HB2.out).lt)
 refine bodyPost_ret (v:=.tuple #[.agg #[.int .i64 1,.int .i64 0],.bool true]) (by simp [results,Tryz.results273,go_sem,y0,y1]) rfl ?_
 exact Zj7 (by rw [hp];rfl) (fun u hu=>by rw [hp] at hu;exact Option.some.inj hu) (ZcW (ZcW (Zaf HB0.out HB2.out) (Nat.le_succ _) _) (Nat.le_succ _) _)
theorem ZlN {w:World}{K:Nat}{op ia ib:Int}{la:Option Addr}{n lcap:Nat}{q:Option Ty} (hop:op=17∨op=18∨op=19∨op=20∨op=21∨op=24∨op=25∨op=26)
  (hR:op≠25→op≠26→∀ w',Below w.heap.size w w'→Calls Tryz.prog 338 #[.pointer (some ⟨K,0,none⟩),.agg #[.int .i64 op,.int .i64 ia,.int .i64 ib],.slice la n lcap] w' (Zj6 w' q))
  (hC:op=25∨op=26→∀ w',Below w.heap.size w w'→Calls Tryz.prog 339 #[.pointer (some ⟨K,0,none⟩),.agg #[.int .i64 op,.int .i64 ia,.int .i64 ib],.slice la n lcap] w' (Zj6 w' q)) :
  Calls Tryz.prog 273 #[.pointer (some ⟨K,0,none⟩),.agg #[.int .i64 op,.int .i64 ia,.int .i64 ib],.slice la n lcap] w (Zj6 w q):=by
 have hbr:Blk ((w.alloc (.cells #[.int .i64 op,.int .i64 ia,.int .i64 ib] 78)).alloc (.cells #[.int .i64 0,.int .i64 0] 76)) (w.heap.size+1) #[.int .i64 0,.int .i64 0] 76:=Blk.new' (w:=w.alloc (.cells #[.int .i64 op,.int .i64 ia,.int .i64 ib] 78)) _ _ (by simp)
 have hb0:Below w.heap.size w ((w.alloc (.cells #[.int .i64 op,.int .i64 ia,.int .i64 ib] 78)).alloc (.cells #[.int .i64 0,.int .i64 0] 76)):=by exact bE
 have HR:=Zh hR
 have HC:=Zh hC
 clear hR hC
 rcases hop with rfl|rfl|rfl|rfl|rfl|rfl|rfl|rfl
 all_goals
  have HBr:=Zh hbr
  have HB0:=Zh hb0
  clear hbr hb0
  go_enter Tryz.func273,Tryz.ntmps273
  go_wp2_with (first
   | (go_at_call 338;refine (HR.out (by decide) (by decide) _ HB0.out).mono ?_;rintro r w2 ⟨t,rfl,ht,hb2⟩;obtain ⟨tk,tc⟩:=t;have HT:=Zh ht;have HB2:=Zh hb2;clear ht hb2;have y0:=(HBr.out.old HB2.out).cell 0 (v:=.int .i64 0) rfl;have y1:=(HBr.out.old HB2.out).cell 1 (v:=.int .i64 0) rfl;have g0:=(HBr.out.old HB2.out).frozen 0;have g1:=(HBr.out.old HB2.out).frozen 1;have hrl:=(HBr.out.old HB2.out).lt)
   | (go_at_call 339;refine (HC.out (by decide) _ HB0.out).mono ?_;rintro r w2 ⟨t,rfl,ht,hb2⟩;obtain ⟨tk,tc⟩:=t;have HT:=Zh ht;have HB2:=Zh hb2;clear ht hb2;have y0:=(HBr.out.old HB2.out).cell 0 (v:=.int .i64 0) rfl;have y1:=(HBr.out.old HB2.out).cell 1 (v:=.int .i64 0) rfl;have g0:=(HBr.out.old HB2.out).frozen 0;have g1:=(HBr.out.old HB2.out).frozen 1;have hrl:=(HBr.out.old HB2.out).lt))
  refine bodyPost_ret (v:=.tuple #[.agg #[.int .i64 tk,.int .i64 tc],.bool q.isSome]) (by simp [results,Tryz.results273,go_sem,y0,y1]) rfl ?_
  exact Zj7 rfl (fun u hu=>HT.out u hu) (ZcW (ZcW (Zaf HB0.out HB2.out) (Nat.le_succ _) _) (Nat.le_succ _) _)
theorem ZlO {l:List Ty} (h:l.length=0):l=[]:=List.eq_nil_of_length_eq_zero h
theorem ZlP {l:List Ty} (h:l.length=1):∃ a,l=[a]:=List.length_eq_one_iff.1 h
theorem ZlQ {l:List Ty} (h:l.length=2):∃ a b,l=[a,b]:=by
 match l,h with
 | [a,b],_=>exact ⟨a,b,rfl⟩
theorem ZlR {l:List Ty} (h:l.length=3):∃ a b c,l=[a,b,c]:=by
 match l,h with
 | [a,b,c],_=>exact ⟨a,b,c,rfl⟩
theorem ZlS {w:World}{K:Nat}{h:Hd}{m:Md}{lo:Option Addr}{lc:Nat}{ls:List Ty}{S O:Value} (H:Pk w K h m (.slice lo ls.length lc) S O) (HM:Zay w h m) (hm:Za1 m=true) (ht:Zar w lo lc ls) (hlo:∀ t∈ls,Zfi m t) {k:Nat} (hk:k<m.me.length) {i:In3} (hi:ZfR m k i) (hop:0≤i.op∧i.op<34) {l:List Ty}{la:Option Addr}{lcap:Nat} (hr:Zar w la lcap l) (hl:l.length=(Zex m i).1) (hty:∀ t∈l,Zfi m t) :
  Calls Tryz.prog 273 #[.pointer (some ⟨K,0,none⟩),.agg #[.int .i64 i.op,.int .i64 i.a,.int .i64 i.b],.slice la l.length lcap] w (Zj6 w (ZeB m ls i l)):=by
 have hd:Zc3 m m.cl.length:=Zc8 (ZfH hm)
 by_cases hc:i.op=25∨i.op=26
 ·exact ZlN (by omega) (fun q q2=>absurd hc (by omega)) (fun _ w' hb=>Zk2 (H.old hb) (HM.old hb) hm hk hi hc (hr.old hb) hl hty)
 ·have a0:=hi.a0
  have b0:=hi.b0
  have o22:=hi.o22
  have o12:=hi.o12
  have o14:=hi.o14
  have o16:=hi.o16
  clear hi
  obtain ⟨op,ia,ib⟩:=i
  dsimp only at hop hc a0 b0 o22 o12 o14 o16 ⊢
  have cls:op=0∨op=1∨op=2∨op=3∨op=4∨op=5∨op=6∨op=7∨op=8∨op=9∨op=10∨op=11∨op=12∨op=13∨op=14∨op=15∨op=16∨op=17∨op=18∨op=19∨op=20∨op=21∨op=22∨op=23∨op=24∨op=27∨op=28∨op=29∨op=30∨op=31∨op=32∨op=33:=by omega
  rcases cls with rfl|rfl|rfl|rfl|rfl|rfl|rfl|rfl|rfl|rfl|rfl|rfl|rfl|rfl|rfl|rfl|rfl|rfl|rfl|rfl|rfl|rfl|rfl|rfl|rfl|rfl|rfl|rfl|rfl|rfl|rfl|rfl
  all_goals first|(obtain rfl:=ZlO hl)|(obtain ⟨a,rfl⟩:=ZlP hl)|(obtain ⟨a,b,rfl⟩:=ZlQ hl)|(obtain ⟨a,b,d,rfl⟩:=ZlR hl)
  ·exact p_0 H HM hd ht hr
  ·exact p_1
  ·by_cases q:ia<ls.length
   ·exact Zll H HM hd ht hr (a0 (by decide)) q
   ·exact ZlF H HM hd ht hr (a0 (by decide)) q
  ·by_cases q:ia<ls.length
   ·exact ZlH H HM hd ht hr (fun q=>ZfF (hty a (by simp)) (.inl q)) hlo (a0 (by decide)) q
   ·exact Zk8 H HM hd ht hr (a0 (by decide)) q
  ·exact p_4 H HM hd ht hr
  ·exact p_5 H HM hd ht hr
  ·exact k31
  ·exact k31
  ·exact k31
  ·exact k31
  ·exact k31
  ·exact k31
  ·by_cases q:ia=3
   ·exact Zlm H HM hd ht hr q ((o12 rfl).2.1 q)
   ·exact ZlG H HM hd ht hr q
  ·exact Zk7 H HM hd ht hr
  ·exact Zk6 H HM hd ht hr
  ·exact ZkI H HM hd ht hr
  ·exact Zlw H HM hd ht hr
  ·refine ZlN (by decide) (fun _ _ w' hb=>?_) (fun q=>absurd q (by decide))
   have hca:=fun q=>ZfF (hty a (by simp)) (.inl q)
   by_cases q:a.k=2
   ·by_cases q2:ia<(m.cl.getD a.c.toNat default).f.length
    ·exact ZlB (H.old hb) (HM.old hb) hd (ht.old hb) (hr.old hb) hca q (a0 (by decide)) q2
    ·exact ZkN (H.old hb) (HM.old hb) hd (ht.old hb) (hr.old hb) hca q (a0 (by decide)) q2
   ·exact Zk9 (H.old hb) (HM.old hb) hd (ht.old hb) (hr.old hb) q
  ·refine ZlN (by decide) (fun _ _ w' hb=>?_) (fun q=>absurd q (by decide))
   have hca:=fun q=>ZfF (hty a (by simp)) (.inl q)
   by_cases q:a.k=2
   ·by_cases q2:ia<(m.cl.getD a.c.toNat default).f.length
    ·exact Zla (H.old hb) (HM.old hb) hd (ht.old hb) (hr.old hb) hca (fun q=>ZfF (hty b (by simp)) (.inl q)) (ZfK hm (hca q).1 (hca q).2) q (a0 (by decide)) q2
    ·exact ZlJ (H.old hb) (HM.old hb) hd (ht.old hb) (hr.old hb) hca q (a0 (by decide)) q2
   ·exact Zlq (H.old hb) (HM.old hb) hd (ht.old hb) (hr.old hb) q
  ·refine ZlN (by decide) (fun _ _ w' hb=>?_) (fun q=>absurd q (by decide))
   by_cases q3:a.k=3
   ·by_cases q:b=Zeu
    ·exact ZlL (H.old hb) (HM.old hb) hd (ht.old hb) (hr.old hb) q3 q
    ·exact Zls (H.old hb) (HM.old hb) hd (ht.old hb) (hr.old hb) q3 q
   ·by_cases q4:a.k=4
    ·by_cases q:b=Zeu
     ·exact ZkQ (H.old hb) (HM.old hb) hd (ht.old hb) (hr.old hb) q4 q
     ·exact Zlc (H.old hb) (HM.old hb) hd (ht.old hb) (hr.old hb) q4 q
    ·exact ZlD (H.old hb) (HM.old hb) hd (ht.old hb) (hr.old hb) q3 q4
  ·refine ZlN (by decide) (fun _ _ w' hb=>?_) (fun q=>absurd q (by decide))
   have hcd:=fun q=>ZfF (hty d (by simp)) (.inl q)
   by_cases q3:a.k=3
   ·by_cases q:b=Zeu
    ·exact ZlM (H.old hb) (HM.old hb) hd (ht.old hb) (hr.old hb) q3 q hcd
    ·exact Zlt (H.old hb) (HM.old hb) hd (ht.old hb) (hr.old hb) q3 q
   ·by_cases q4:a.k=4
    ·by_cases q:b=Zeu
     ·exact ZkR (H.old hb) (HM.old hb) hd (ht.old hb) (hr.old hb) q4 q hcd (ZfF (hty a (by simp)) (.inr q4)).1
     ·exact Zld (H.old hb) (HM.old hb) hd (ht.old hb) (hr.old hb) q4 q
    ·exact ZlE (H.old hb) (HM.old hb) hd (ht.old hb) (hr.old hb) q3 q4
  ·refine ZlN (by decide) (fun _ _ w' hb=>?_) (fun q=>absurd q (by decide))
   by_cases q3:a.k=3
   ·exact ZkO (H.old hb) (HM.old hb) hd (ht.old hb) (hr.old hb) q3
   ·by_cases q4:a.k=4
    ·exact ZlC (H.old hb) (HM.old hb) hd (ht.old hb) (hr.old hb) q4
    ·exact Zlr (H.old hb) (HM.old hb) hd (ht.old hb) (hr.old hb) q3 q4
  ·have:=o22 (.inl rfl)
   have:=a0 (by decide)
   exact Zly H HM hd ht hr (by omega) (by omega)
  ·have:=o22 (.inr rfl)
   have:=a0 (by decide)
   exact Zln H HM hd ht hr (fun q=>ZfF (hty a (by simp)) (.inl q)) (by omega) (by omega) (ZfL hm)
  ·refine ZlN (by decide) (fun _ _ w' hb=>?_) (fun q=>absurd q (by decide))
   have hca:=fun q=>ZfF (hty a (by simp)) (.inl q)
   have h14:=o14 (.inr rfl)
   by_cases q:a.k=2
   ·cases q2:Zet m ⟨2,ia⟩ a
    ·exact ZkP (H.old hb) (HM.old hb) hd (ht.old hb) (hr.old hb) hca q (a0 (by decide)) (by omega) q2
    ·exact Zlb (H.old hb) (HM.old hb) hd (ht.old hb) (hr.old hb) hca q (a0 (by decide)) (by omega) q2
   ·exact ZlK (H.old hb) (HM.old hb) hd (ht.old hb) (hr.old hb) q
  ·exact ZkK H HM hd ht (by decide) hr
  ·exact ZkM H HM hd ht hr
  ·exact ZkK H HM hd ht (by decide) hr
  ·by_cases q:a=Zeu
   ·by_cases q2:ib<ls.length
    ·exact Zlo H HM hd ht hr q b0 q2
    ·exact Zlz H HM hd ht hr q b0 q2
   ·exact ZkL H HM hd ht hr q
  ·exact ZlA H HM hd ht hr
  ·exact Zlp H HM hd ht hr
  ·exact ZlI H HM hd ht hr
end
section
open Go.RowKit
theorem ZlT (h:Hd) (m:Md) (at':Int) (w:World) (HM:Zay w h m):Calls Tryz.prog 65 #[.agg #[.slice h.co m.cl.length h.cc,.slice h.so m.st.length h.sc,.slice h.eo m.me.length h.ec,.int .i64 m.sel],.int .i64 at'] w (ZjL w (ZeH m at')):=by
 have hI:∀ w',Below w.heap.size w w'→_:=fun w' hb'=>Zhr m h at' w' (HM.old hb')
 have hP:(Za1 m&&inV m.me.length at')=true→∀ w',Below w.heap.size w w'→Calls Tryz.prog 125 #[.agg #[.slice h.co m.cl.length h.cc,.slice h.so m.st.length h.sc,.slice h.eo m.me.length h.ec,.int .i64 m.sel],.int .i64 at'] w' (ZjL w' (ZeH m at')):=fun q w' hb'=>by
  simp only [Bool.and_eq_true,inV,decide_eq_true_eq] at q
  obtain ⟨k,rfl⟩:∃ k:Nat,at'=k:=⟨at'.toNat,by omega⟩
  have hk:k<m.me.length:=by omega
  unfold ZeH
  rw [if_pos ⟨q.1,by omega,by omega⟩,Int.toNat_natCast]
  exact ZkW h m k w' (HM.old hb') q.1 hk
 have hN:(Za1 m&&inV m.me.length at')=false→ZeH m at'=([],0,1):=fun q=>by
  unfold ZeH
  rw [if_neg]
  rintro ⟨q1,q2,q3⟩
  simp [q1,inV,q2] at q
  omega
 generalize (Za1 m&&inV m.me.length at')=x at hI hP hN
 generalize ZeH m at'=r at hP hN ⊢
 have HI:=Zh hI
 have HP:=Zh hP
 have HN:=Zh hN
 have HX:=Zh (show ∀ w',Below (w.alloc (.cells #[.slice h.co m.cl.length h.cc,.slice h.so m.st.length h.sc,.slice h.eo m.me.length h.ec,.int .i64 m.sel] 26)).heap.size (w.alloc (.cells #[.slice h.co m.cl.length h.cc,.slice h.so m.st.length h.sc,.slice h.eo m.me.length h.ec,.int .i64 m.sel] 26)) w'→_ from fun w' hb=>Zj5 ((Blk.new w #[.slice h.co m.cl.length h.cc,.slice h.so m.st.length h.sc,.slice h.eo m.me.length h.ec,.int .i64 m.sel] 26).old hb))
 clear hI hP hN HM
 rcases x with _|_
 ·have h1:=HN.out rfl
  clear HP HN HX
  subst h1
  go_enter Tryz.func65,Tryz.ntmps65
  go_wp2_with (go_at_call 57;refine (HI.out _ bE).mono ?_;rintro e w1 ⟨rfl,hb1⟩)
  refine bodyPost_ret (v:=.tuple #[.slice none 0 0,.int .i64 0,.int .i64 1]) (by simp [results,Tryz.results65,go_sem]) rfl ?_
  exact ZjL.no w bE 0 1
 ·go_enter Tryz.func65,Tryz.ntmps65
  go_wp2_with (first
   | (go_at_call 57;refine (HI.out _ bE).mono ?_;rintro e w1 ⟨rfl,hb1⟩;obtain ⟨c0,c1,c2,c3⟩:=HX.out _ hb1)
   | (go_at_call 125;refine (HP.out trivial _ bE).mono ?_;rintro e w2 ⟨⟨so,sc,rows,rfl,hs⟩,hb2⟩))
  refine bodyPost_ret (v:=.tuple #[.slice so rows.length sc,.int .i64 r.2.1,.int .i64 r.2.2]) (by simp [results,Tryz.results65,go_sem]) rfl ?_
  have hb0:Below w.heap.size w w1:=Zaf bE hb1
  exact ⟨⟨so,sc,rows,rfl,⟨Zed hs.own hb0.size,hs.len,hs.at_⟩⟩,Zaf hb0 hb2⟩
theorem Zar.alloc {α:Type} [Cells α] {w:World}{ao:Option Addr}{cap:Nat}{l:List α} (h:Zar w ao cap l) (o:Obj):Zar (w.alloc o) ao cap l:=h.old ((Below.refl _ _).alloc (Nat.le_refl _) o)
theorem ZlU {α:Type} [Cells α] (W:World) (l:List α) (xs:Array Value) (e:TypeId) (hx:xs=(Zak l).toArray):Zar (W.alloc (.cells xs e)) (some ⟨W.heap.size,0,none⟩) l.length l:=by
 have h:=Zcr W xs e (n:=l.length) (size:=Cells.n α) (by rw [hx];simp [Zam])
 rw [hx] at h ⊢
 simpa [Zar] using h
def ZlV:Md:=⟨[],[],[⟨⟨#[]⟩,-1,[],[],⟨1,0⟩,[⟨1,1,0⟩,⟨1,2,0⟩,⟨6,0,0⟩]⟩,⟨⟨#[]⟩,-1,[],[⟨1,0⟩],⟨0,0⟩,[⟨2,0,0⟩,⟨6,0,0⟩]⟩],0⟩
def ZlW (b:Nat):Hd:=⟨none,0,none,0,some ⟨b+1+1+1+1,0,none⟩,2,fun _=>default,fun i=>if i=0 then ⟨none,0,none,0,some ⟨b+1,0,none⟩,3⟩ else ⟨none,0,some ⟨b+1+1,0,none⟩,1,some ⟨b+1+1+1,0,none⟩,2⟩⟩
theorem ZlX:ZeH ZlV 0=([[],[Zeu],[Zeu,Zeu],[Zeu]],0,0):=by kernel_rfl
theorem ZlY:ZeH ZlV 1=([],1,12):=by kernel_rfl
theorem bls (w:World) (o:Obj):(w.alloc o).heap.size=w.heap.size+1:=by simp
theorem ZlZ {w:World}{ao:Option Addr}{cap:Nat}{l:List SH} (h:Zar w ao cap l) {i:Nat} (hi:i<l.length):∃ ad,ao=some ad∧w.cell? (ad.add i)=some (.slice (l.getD i default).ao (l.getD i default).n (l.getD i default).c):=by
 obtain ⟨ad,rfl⟩:=h.some (by omega)
 have hx:l.getD i default=l[i]:=by simp [hi]
 rw [hx]
 have:=h.cell hi 0 (v:=.slice l[i].ao l[i].n l[i].c) rfl
 rw [show i*Cells.n SH=i from Nat.mul_one i] at this
 exact ⟨ad,rfl,this⟩
theorem Zl0 {i:Nat} (h:i<2):i=0∨i=1:=by omega
theorem Zl1 (W:World) (e0 e1 e2 e3 e4 e5:TypeId) (x5:Array Value):Zay ((((((W.alloc (.cells #[.int .i64 1,.int .i64 0] e0)).alloc (.cells #[.int .i64 1,.int .i64 1,.int .i64 0,.int .i64 1,.int .i64 2,.int .i64 0,.int .i64 6,.int .i64 0,.int .i64 0] e1)).alloc (.cells #[.int .i64 1,.int .i64 0] e2)).alloc
  (.cells #[.int .i64 2,.int .i64 0,.int .i64 0,.int .i64 6,.int .i64 0,.int .i64 0] e3)).alloc (.cells #[.string ⟨#[]⟩,.int .i64 (-1),.slice none 0 0,.slice none 0 0,.int .i64 1,.int .i64 0,.slice (some ⟨W.heap.size+1,0,none⟩) 3 3,.string ⟨#[]⟩,.int .i64 (-1),.slice none 0 0,.slice (some ⟨W.heap.size+1+1,0,none⟩) 1 1,.int .i64 0,.int .i64 0,.slice (some ⟨W.heap.size+1+1+1,0,none⟩) 2 2] e4)).alloc (.cells x5 e5)) (ZlW W.heap.size) ZlV:=by
 have r1:=ZlU (W.alloc (.cells #[.int .i64 1,.int .i64 0] e0)) ([⟨1,1,0⟩,⟨1,2,0⟩,⟨6,0,0⟩]:List In3) _ e1 rfl
 have r2:=ZlU ((W.alloc (.cells #[.int .i64 1,.int .i64 0] e0)).alloc (.cells #[.int .i64 1,.int .i64 1,.int .i64 0,.int .i64 1,.int .i64 2,.int .i64 0,.int .i64 6,.int .i64 0,.int .i64 0] e1)) ([⟨1,0⟩]:List Ty) _ e2 rfl
 have r3:=ZlU (((W.alloc (.cells #[.int .i64 1,.int .i64 0] e0)).alloc (.cells #[.int .i64 1,.int .i64 1,.int .i64 0,.int .i64 1,.int .i64 2,.int .i64 0,.int .i64 6,.int .i64 0,.int .i64 0] e1)).alloc (.cells #[.int .i64 1,.int .i64 0] e2)) ([⟨2,0,0⟩,⟨6,0,0⟩]:List In3) _ e3 rfl
 have r4:=ZlU ((((W.alloc (.cells #[.int .i64 1,.int .i64 0] e0)).alloc (.cells #[.int .i64 1,.int .i64 1,.int .i64 0,.int .i64 1,.int .i64 2,.int .i64 0,.int .i64 6,.int .i64 0,.int .i64 0] e1)).alloc (.cells #[.int .i64 1,.int .i64 0] e2)).alloc (.cells #[.int .i64 2,.int .i64 0,.int .i64 0,.int .i64 6,.int .i64 0,.int .i64 0] e3)) (Zav (ZlW W.heap.size) ZlV) _ e4 rfl
 rw [bls] at r1
 rw [bls,bls] at r2
 rw [bls,bls,bls] at r3
 rw [bls,bls,bls,bls] at r4
 refine ⟨Zar.nil _,Zar.nil _,r4.alloc _,fun i hi=>absurd hi (Nat.not_lt_zero i),fun i hi=>absurd hi (Nat.not_lt_zero i),fun i hi=>?_,fun i hi=>?_,fun i hi=>?_,fun i hi=>absurd hi (Nat.not_lt_zero i),fun i hi=>?_,⟨by decide,by decide,by decide⟩⟩
 ·rcases Zl0 hi with rfl|rfl<;>exact Zar.nil _
 ·rcases Zl0 hi with rfl|rfl
  ·exact Zar.nil _
  ·exact ((r2.alloc _).alloc _).alloc _
 ·rcases Zl0 hi with rfl|rfl
  ·exact (((r1.alloc _).alloc _).alloc _).alloc _
  ·exact (r3.alloc _).alloc _
 ·rcases Zl0 hi with rfl|rfl<;>exact ⟨by decide,by decide,by decide⟩
theorem Zl2 (W:World):Calls Tryz.prog 19 #[] W (Ret W (.bool true)):=by
 go_enter Tryz.func19,Tryz.ntmps19
 go_wp2_with fail
 have hM:=Zl1 W 76 78 76 78 81 26 #[.slice none 0 0,.slice none 0 0,.slice (some ⟨W.heap.size+1+1+1+1,0,none⟩) 2 2,.int .i64 0]
 obtain ⟨W5,hW5⟩:∃ W5,W5=((((((W.alloc (.cells #[.int .i64 1,.int .i64 0] 76)).alloc (.cells #[.int .i64 1,.int .i64 1,.int .i64 0,.int .i64 1,.int .i64 2,.int .i64 0,.int .i64 6,.int .i64 0,.int .i64 0] 78)).alloc (.cells #[.int .i64 1,.int .i64 0] 76)).alloc (.cells #[.int .i64 2,.int .i64 0,.int .i64 0,.int .i64 6,.int .i64 0,.int .i64 0] 78)).alloc (.cells #[.string ⟨#[]⟩,.int .i64 (-1),.slice none 0 0,.slice none 0 0,.int .i64 1,.int .i64 0,.slice (some ⟨W.heap.size+1,0,none⟩) 3 3,.string ⟨#[]⟩,.int .i64 (-1),.slice none 0 0,.slice (some ⟨W.heap.size+1+1,0,none⟩) 1 1,.int .i64 0,.int .i64 0,.slice (some ⟨W.heap.size+1+1+1,0,none⟩) 2 2] 81)).alloc (.cells #[.slice none 0 0,.slice none 0 0,.slice (some ⟨W.heap.size+1+1+1+1,0,none⟩) 2 2,.int .i64 0] 26)):=⟨_,rfl⟩
 have hb0:Below W.heap.size W W5:=by rw [hW5];exact bE
 have hbt:Blk W5 W.heap.size #[.int .i64 1,.int .i64 0] 76:=by rw [hW5];exact (((((Blk.new W _ _).alloc _).alloc _).alloc _).alloc _).alloc _
 have hbm:Blk W5 (W.heap.size+1+1+1+1+1) #[.slice none 0 0,.slice none 0 0,.slice (some ⟨W.heap.size+1+1+1+1,0,none⟩) 2 2,.int .i64 0] 26:=by rw [hW5];exact Blk.new' _ _ (by simp)
 rw [←hW5] at hM ⊢
 clear hW5
 have h1:=ZlT _ _ 0 _ hM
 rw [ZlX] at h1
 refine h1.mono ?_
 rintro r w1 ⟨⟨so,sc,rows,rfl,hs⟩,hb1⟩
 have hl:rows.length=4:=hs.len
 obtain ⟨ad,rfl,q2⟩:=ZlZ (Zar.of_own hs.own) (i:=2) (by omega)
 obtain ⟨_,e3,q3⟩:=ZlZ (Zar.of_own hs.own) (i:=3) (by omega)
 cases e3
 have t2:=(hs.at_ 2 (by omega)).1
 have t3:=hs.at_ 3 (by omega)
 rw [hl]
 generalize rows.getD 2 default=x2 at q2 t2
 generalize rows.getD 3 default=x3 at q3 t3
 obtain ⟨a2,n2,c2⟩:=x2
 obtain ⟨a3,n3,c3⟩:=x3
 have e2:n2=2:=t2
 have e3:n3=1:=t3.1
 have t3':ZeP w1 a3 c3 [Zeu]:=t3.2
 subst e2 e3
 obtain ⟨ad3,rfl,z0,z1⟩:=Zaz t3'.1 (i:=0) (by simp)
 have z0':w1.cell? ad3=some (.int .i64 1):=z0
 have z1':w1.cell? ⟨ad3.block,ad3.off+1,none⟩=some (.int .i64 0):=z1
 dsimp only at q2 q3
 have h2:=ZlT _ _ 1 _ (hM.old hb1)
 rw [ZlY] at h2
 have H2:=Zh h2
 obtain ⟨m0,m1,m2,m3⟩:=(show w1.cell? ⟨W.heap.size+1+1+1+1+1,0,none⟩=some (.slice none 0 0)∧w1.cell? ⟨W.heap.size+1+1+1+1+1,1,none⟩=some (.slice none 0 0)∧w1.cell? ⟨W.heap.size+1+1+1+1+1,2,none⟩=some (.slice (some ⟨W.heap.size+1+1+1+1,0,none⟩) 2 2)∧w1.cell? ⟨W.heap.size+1+1+1+1+1,3,none⟩=some (.int .i64 0) from ⟨(hbm.old hb1).cell 0 rfl,(hbm.old hb1).cell 1 rfl,(hbm.old hb1).cell 2 rfl,(hbm.old hb1).cell 3 rfl⟩)
 have HX:=Zh (show ∀ w',Below w1.heap.size w1 w'→w'.cell? ⟨ad.block,ad.off+2,none⟩=some (.slice a2 2 c2)∧w'.cell? ⟨ad.block,ad.off+3,none⟩=some (.slice (some ad3) 1 c3)∧w'.cell? ad3=some (.int .i64 1)∧w'.cell? ⟨ad3.block,ad3.off+1,none⟩=some (.int .i64 0)∧w'.cell? ⟨W.heap.size,0,none⟩=some (.int .i64 1)∧w'.cell? ⟨W.heap.size,1,none⟩=some (.int .i64 0) from
  fun w' hb=>⟨Zj4 hb q2,Zj4 hb q3,Zj4 hb z0',Zj4 hb z1',Zj4 hb ((hbt.old hb1).cell 0 rfl),Zj4 hb ((hbt.old hb1).cell 1 rfl)⟩)
 have HB1:=Zh (Zaf hb0 hb1)
 clear hb0 hb1 hbt hbm hM h1 h2 hs q2 q3 t2 t3 t3' z0 z1 z0' z1' hl
 go_wp2_with (go_at_call 65;refine H2.out.mono ?_;rintro r w3 ⟨⟨so,sc,rows,rfl,hs⟩,hb3⟩;have HB3:=Zh hb3;clear hs hb3)
 refine rO (fun w':World=>w'.cell? ⟨ad.block,ad.off+2,none⟩=some (.slice a2 2 c2)∧w'.cell? ⟨ad.block,ad.off+3,none⟩=some (.slice (some ad3) 1 c3)∧w'.cell? ad3=some (.int .i64 1)∧w'.cell? ⟨ad3.block,ad3.off+1,none⟩=some (.int .i64 0)∧w'.cell? ⟨W.heap.size,0,none⟩=some (.int .i64 1)∧w'.cell? ⟨W.heap.size,1,none⟩=some (.int .i64 0)) (oL [0,1,2,3,4,5,6,7,8,9,10,11,12,13,14,15,16,17,18,19,20,21,22,23,24,25,26,27,28,29,30,31,32,33,34,35,36,37,38]) (HX.out _ (Below.drew HB3.out)) ?_
 repeat refine pO ?_
 refine Zd5 ?_
 go_wp2
 go_ret
 exact ZcT rfl (Below.drew (Zaf HB1.out HB3.out))
end
section
open Go.RowKit
theorem Zl3:El Tryz.prog 227 285 4 64:=El.mk' (z:=.agg #[.int .i64 0,.slice none 0 0,.slice none 0 0,.bool false]) Tryz.underlying227 (by kernel_rfl) (by kernel_rfl) (by decide)
theorem Zl4 {w:World}{so:Option Addr}{sc:Nat}{st:List Ty} (H:ZeP w so sc st) {lf:Nat} (hlf:lf≤st.length):∃ co cc,(if sc=lf then so else so.map fun x=>x.add (lf*2))=co∧sc-lf=cc∧Zar w co cc (st.drop lf):=by
 refine ⟨_,_,rfl,rfl,?_⟩
 have hcap:=H.2.1
 cases so with
 | none=>
  have h1:=H.1.2.1 rfl
  have h2:st=[]:=by cases st with|nil=>rfl|cons x r=>simp at h1
  subst h2
  simp only [List.drop_nil,Option.map_none,h1.2,Nat.zero_sub,ite_self]
  exact Zar.nil _
 | some ad=>
  by_cases hsc:sc=lf
  ·have h0:st.drop lf=[]:=by rw [List.drop_eq_nil_iff];omega
   rw [h0,if_pos hsc]
   exact ⟨by simp [Zak],(fun h=>by simp at h),fun j u hu=>by simp [Zak] at hu⟩
  ·rw [if_neg hsc]
   exact H.dropA _ hlf
theorem Zl5 {w:World}{base:Nat}{e:TypeId}{size:Nat}{so:Option Addr}{n sc:Nat}{xs:List Value} (h:w.ownsRow base e size (.slice so n sc) n xs) {b:Nat} (hb:b<base):(Value.slice so n sc).ownBlock≠some b:=by
 intro q
 rcases h.2 with ⟨hv,_⟩|⟨g,c,cur,hv,hg,_⟩
 ·rw [hv] at q;cases q
 ·rw [hv] at q
  have:g=b:=Option.some.inj q
  omega
section
variable {w0 w:World}{K:Nat}{h:Hd}{m:Md}{lo:Option Addr}{lc:Nat}{ls:List Ty}
include w0 w K h m lo lc ls
theorem Zl6 {s:Ps} {so:Option Addr} {sc:Nat} {oo:Option Addr} {oc:Nat} {bs:List VB} {i:In3} (H:S6 w0 w K h m lo lc ls s so sc oo oc bs) (h1:i.op≠34) (h2:i.op≠35) (h3:ZaR i.op=true) (h0:(ZhO m ls i s).1=0) {w1 w2 w4:World} {so':Option Addr} {sc':Nat} (hu:Upd K K w w1) (hc:Pk w1 K h m (.slice lo ls.length lc) (.slice so' (ZhO m ls i s).2.length sc') (.slice oo bs.length oc)) (ht:ZeP w1 so' sc' (ZhO m ls i s).2) (hb2:Below w1.heap.size w1 w2) {bo:Option Addr} {bc:Nat} (hcl:ZeP w2 bo bc (ZhO m ls i s).2) {ao2:Option Addr} {cap2:Nat} (hown4:w4.ownsRow w0.heap.size 285 4 (.slice ao2 (bs.length+1) cap2) (bs.length+1) (Zak bs++vbL i.op bo (ZhO m ls i s).2.length bc)) (hg4:w2.grownBy w4 (Value.slice oo bs.length oc).ownBlock):
  P6 w0 w K h m lo lc ls oo (ZeC m ls i s) (.returned (.int .i64 0)) (w4.setCell ⟨K,6,none⟩ (.slice ao2 (bs.length+1) cap2)):=by
 have hu2:Upd K K w w2:=hu.bel hb2
 have hO2:=H.op.upd hu2 H.pk.noTy H.ne
 have hc2:=hc.old hb2
 have hno2:=hO2.noTy hc2.noTy
 have hneK:K≠ZhH K oo∨oo=none:=by
  cases oo with
  | none=>exact .inr rfl
  | some a=>exact .inl (fun q=>H.ne a rfl q.symm)
 have hu4:Upd K (ZhH K oo) w2 w4:=(Upd.refl K (ZhH K oo) w2).grown hg4 (fun k hk=>.inl (Zi1 K oo _ _ k hk))
 have hKw:K<w2.heap.size:=Blk.lt hc2
 have hc4:Pk w4 K h m (.slice lo ls.length lc) (.slice so' (ZhO m ls i s).2.length sc') (.slice oo bs.length oc):=by
  unfold Pk Blk
  exact k79
 have hu5:Upd K (ZhH K oo) w4 (w4.setCell ⟨K,6,none⟩ (.slice ao2 (bs.length+1) cap2)):=(Upd.refl K _ w4).set 6 _
 have hall:Upd K (ZhH K oo) w (w4.setCell ⟨K,6,none⟩ (.slice ao2 (bs.length+1) cap2)):=(hu2.more.trans hu4).trans hu5
 have hnoO:=H.op.noTy H.pk.noTy
 have hN:w0.heap.size≤ZhH K oo:=by
  exact k50
 have hst:ZeC m ls i s=(0,⟨(ZhO m ls i s).2,s.opn++[⟨i.op,(ZhO m ls i s).2,[],false⟩]⟩):=by
  rw [ZhP h1 h2,h3,if_pos h0,h0]
  rfl
 rw [hst]
 generalize (ZhO m ls i s).2=st at hc ht hcl hown4 hc2 hc4
 refine ⟨rfl,hall,fun _=>⟨so',sc',ao2,cap2,bs++[⟨i.op,bo,st.length,bc,none,0,0,false⟩],?_⟩⟩
 have hlen:(bs++[(⟨i.op,bo,st.length,bc,none,0,0,false⟩:VB)]).length=bs.length+1:=by simp
 refine ⟨?_,?_,⟨?_,by simp [H.op.len],fun j hj=>?_⟩,H.tl.upd hall H.pk.noTy hnoO,hall.below H.hb (Nat.le_refl _) H.hK hN,H.hK⟩
 ·rw [hlen]
  exact Blk.set hc4 6 _
 ·exact (ht.upd (Upd.of (K:=K) (B:=K) hb2) hc.noTy hc.noTy).upd (hu4.trans hu5) hc2.noTy hno2
 ·exact k54
 ·rw [hlen] at hj
  by_cases hjl:j<bs.length
  ·have hb:=H.op.at_ j hjl
   have hjo:j<s.opn.length:=by rw [←H.op.len];exact hjl
   rw [show (bs++[(⟨i.op,bo,st.length,bc,none,0,0,false⟩:VB)]).getD j default=bs.getD j default by simp [List.getElem?_append_left hjl],show (s.opn++[(⟨i.op,st,[],false⟩:Opn)]).getD j default=s.opn.getD j default by simp [List.getElem?_append_left hjo]]
   exact hb.upd hall H.pk.noTy hnoO
  ·exact k36
theorem Zl7 {s:Ps} {so:Option Addr} {sc:Nat} {oo:Option Addr} {oc:Nat} {bs:List VB} {i:In3} (H:S6 w0 w K h m lo lc ls s so sc oo oc bs) (h1:i.op≠34) (h2:i.op≠35) (h3:ZaR i.op=false) (h0:(ZhO m ls i s).1=0) {w1:World} {so':Option Addr} {sc':Nat} (hu:Upd K K w w1) (hc:Pk w1 K h m (.slice lo ls.length lc) (.slice so' (ZhO m ls i s).2.length sc') (.slice oo bs.length oc)) (ht:ZeP w1 so' sc' (ZhO m ls i s).2):
  P6 w0 w K h m lo lc ls oo (ZeC m ls i s) (.returned (.int .i64 0)) w1:=by
 have hst:ZeC m ls i s=(0,⟨(ZhO m ls i s).2,s.opn⟩):=by
  rw [ZhP h1 h2,h3,if_pos h0,h0]
  rfl
 rw [hst]
 exact ⟨rfl,hu.more,fun _=>⟨so',sc',oo,oc,bs,hc,ht,H.op.upd hu H.pk.noTy H.ne,H.tl.upd hu H.pk.noTy H.pk.noTy,hu.below H.hb (Nat.le_refl _) H.hK H.hK,H.hK⟩⟩
theorem Zl8 {s:Ps} {oo:Option Addr} {i:In3} (h1:i.op≠34) (h2:i.op≠35) {e:Int} (he:(ZhO m ls i s).1=e) (h0:e≠0) {w1:World} (hu:Upd K K w w1):
  P6 w0 w K h m lo lc ls oo (ZeC m ls i s) (.returned (.int .i64 e)) w1:=by
 have hst:(ZeC m ls i s).1=e:=by rw [ZhP h1 h2,he]
 exact ⟨by rw [hst],hu.more,fun q=>absurd (hst▸q) h0⟩
theorem Zl9 {s:Ps} {so:Option Addr} {sc:Nat} {oo:Option Addr} {oc:Nat} {bs:List VB} {i:In3} {k:Nat} (H:S6 w0 w K h m lo lc ls s so sc oo oc bs) (HM:Zay w h m) (hm:Za1 m=true) (hlo:∀ t∈ls,Zfi m t) (hk:k<m.me.length) (hi:ZfR m k i) (hop:0≤i.op∧i.op<34) (HW:Zfj m s.stk) (hd:s.opn.length≤6) (hba:Zev s.opn≤s.stk.length):
  Calls Tryz.prog 201 #[.pointer (some ⟨K,0,none⟩),.agg #[.int .i64 i.op,.int .i64 i.a,.int .i64 i.b]] w (P6 w0 w K h m lo lc ls oo (ZeC m ls i s)):=by
 have hn1:i.op≠34:=by omega
 have hn2:i.op≠35:=by omega
 obtain ⟨tk,htk⟩:∃ n,n=(Zex m i).1:=⟨_,rfl⟩
 obtain ⟨ps,hps⟩:∃ n,n=(Zex m i).2:=⟨_,rfl⟩
 have hps2:ps≤2:=by
  rw [hps];unfold Zex
  repeat' split
  all_goals first|decide|(dsimp only;omega)
 have htk2:tk≤1000:=by
  rw [htk]
  by_cases hc:i.op=25∨i.op=26
  ·rw [ZkG hc]
   have:=ZkX hm hk hi hc
   dsimp only;omega
  ·unfold Zex
   repeat' split
   all_goals first|decide|(exact absurd (by assumption) hc)
 have k5:w.cell? ⟨K,5,none⟩=some (.slice so s.stk.length sc):=Blk.cell H.pk 5 rfl
 have k6:w.cell? ⟨K,6,none⟩=some (.slice oo bs.length oc):=Blk.cell H.pk 6 rfl
 have HC:=Zh (show ∀ w',Below w.heap.size w w'→_ from fun w' hb=>ZkH (H.pk.old hb) (HM.old hb) hm hk hi hop)
 have HBs:=Zh (show ∀ w',Below w.heap.size w w'→_ from fun w' hb=>Zk4 K oo oc bs w' (Zj4 hb k6) ((Zar.of_own H.op.own).old hb) (by have:=H.op.len;omega))
 rw [←htk,←hps] at HC
 obtain ⟨bv,hbv⟩:∃ n,n=Ze4 bs:=⟨_,rfl⟩
 rw [←hbv] at HBs
 rw [Zle H.op] at hbv
 obtain ⟨sn,hsn⟩:∃ n,n=s.stk.length:=⟨_,rfl⟩
 have hsn12:sn≤12:=by rw [hsn];exact HW.1
 have hw1:IntKind.i64.wrap ((sn:Int)-(tk:Int))=(sn:Int)-tk:=IntWalk.i64_in _ (by omega)
 have hw2:IntKind.i64.wrap ((sn:Int)-(tk:Int)+(ps:Int))=(sn:Int)-tk+ps:=IntWalk.i64_in _ (by omega)
 have hmid:ZhO m ls i s=if sn<tk+bv∨12<sn-tk+ps then ((12:Int),s.stk) else match ZeB m ls i (s.stk.drop (sn-tk)) with
  | none=>((11:Int),s.stk)
  | some t=>(0,s.stk.take (sn-tk)++List.replicate ps t):=by
  unfold ZhO
  rw [←htk,←hps,←hbv,←hsn]
  rfl
 rw [←hsn] at k5
 have e34:(i.op == 34)=false:=by simp;omega
 have e35:(i.op == 35)=false:=by simp;omega
 obtain ⟨W1,hW1⟩:∃ W1,W1=w.alloc (.cells #[.int .i64 i.op,.int .i64 i.a,.int .i64 i.b] 78):=⟨_,rfl⟩
 have hb1:Below w.heap.size w W1:=by rw [hW1];exact bE
 have hbi:Blk W1 w.heap.size #[.int .i64 i.op,.int .i64 i.a,.int .i64 i.b] 78:=by rw [hW1];exact Blk.new w _ _
 have HB1:=Zh hb1
 have HBi:=Zh hbi
 have HW1:=Zh hW1
 have HH:=Zh H
 have HHM:=Zh HM
 have HMi:=Zh hmid
 have HSn:=Zh hsn
 have HTk:=Zh htk
 have kl:=Blk.lt H.pk
 have HX:=Zh (show ∀ w',Below W1.heap.size W1 w'→w'.cell? ⟨K,5,none⟩=some (.slice so sn sc)∧w'.cell? ⟨w.heap.size,0,none⟩=some (.int .i64 i.op)∧w'.cell? ⟨w.heap.size,1,none⟩=some (.int .i64 i.a)∧w'.cell? ⟨w.heap.size,2,none⟩=some (.int .i64 i.b) from fun w' hb=>⟨Zj4 hb (Zj4 hb1 k5),(hbi.old hb).cell 0 rfl,(hbi.old hb).cell 1 rfl,(hbi.old hb).cell 2 rfl⟩)
 have HPu:=Zh (show ∀ lf,lf=sn-tk→tk≤sn→∀ w',Below w.heap.size w w'→∀ co cc,Zar w' co cc (s.stk.drop lf)→Calls Tryz.prog 273 #[.pointer (some ⟨K,0,none⟩),.agg #[.int .i64 i.op,.int .i64 i.a,.int .i64 i.b],.slice co (s.stk.drop lf).length cc] w' (Zj6 w' (ZeB m ls i (s.stk.drop lf))) from
  fun lf hlf hle w' hb co cc hr=>ZlS (H.pk.old hb) (HM.old hb) hm (H.tl.1.old hb) hlo hk hi hop hr (by rw [List.length_drop,←hsn,←htk,hlf];omega) (fun t ht=>HW.2 t (List.mem_of_mem_drop ht)))
 have hss:=H.ts
 have HTs:=Zh hss
 have HOp:=Zh hop
 have HBl6:=Zh (show bs.length≤6 by rw [H.op.len];exact hd)
 clear hmid hW1 hb1 hbi HM hm hlo hk hi HW hd hsn htk hps k5 k6 H hss hop
 clear hbv hba
 go_enter Tryz.func201,Tryz.ntmps201
 go_upto_region 1 with fail
 rw [←HW1.out]
 obtain ⟨k5,i0,i1,i2⟩:=HX.out _ (Below.refl _ _)
 go_upto_region 5 with (go_at_call 271;refine (HC.out _ HB1.out).mono ?_;rintro r w2 ⟨rfl,hb2⟩;have HB2:=Zh hb2;clear hb2 k5 i0 i1 i2;obtain ⟨k5,i0,i1,i2⟩:=HX.out _ HB2.out)
 by_cases hc1:sn<tk+bv
 ·have he:(ZhO m ls i s).1=12:=by rw [HMi.out,if_pos (.inl hc1)]
  have hlt:(sn:Int)-tk<bv:=by omega
  exact k63
 ·have hlt:¬ (sn:Int)-tk<bv:=by omega
  by_cases hc2:12<sn-tk+ps
  ·have he:(ZhO m ls i s).1=12:=by rw [HMi.out,if_pos (.inr hc2)]
   have hgt:(sn:Int)-tk+ps > 12:=by omega
   exact k63
  ·have hgt:¬ (sn:Int)-tk+ps > 12:=by omega
   have hmid:ZhO m ls i s=match ZeB m ls i (s.stk.drop (sn-tk)) with
    | none=>((11:Int),s.stk)
    | some t=>(0,s.stk.take (sn-tk)++List.replicate ps t):=by rw [HMi.out,if_neg (by omega)]
   obtain ⟨lf,hlf⟩:∃ n,n=sn-tk:=⟨_,rfl⟩
   have hcl:(sn:Int)-tk=lf:=by omega
   rw [←hlf] at hmid
   have HLf:=Zh hlf
   have hlfs:lf≤sn:=by omega
   have hlfi:(lf:Int)≤sn:=by omega
   have HMid:=Zh hmid
   clear hmid HMi hc1 hc2 hlf
   have hfz:∀ w',Below w.heap.size w w'→w'.frozen? ⟨K,5,none⟩=false∧w'.frozen? ⟨K,6,none⟩=false:=fun w' hb'=>⟨(HH.out.pk.old hb').frozen 5,(HH.out.pk.old hb').frozen 6⟩
   have HFz:=Zh hfz
   have hscn:¬ (sc:Int) < sn:=by have:=HTs.out.2.1;have:=HSn.out;omega
   have hlf2:¬ (sn:Int) < lf:=by omega
   have hlf3:¬ (sc:Int) < lf:=by omega
   have hlfn:((sn-lf:Nat):Int)=sn-lf:=by omega
   clear hfz
   go_upto_region 7 with (go_at_call 272;refine (HBs.out _ (Zaf HB1.out HB2.out)).mono ?_;rintro r w3 ⟨rfl,hb3⟩;have HB3:=Zh (Zaf HB2.out hb3);clear hb3)
   try rw [hcl]
   obtain ⟨co,cc,hco,hcc,hrow⟩:=Zl4 HTs.out (lf:=lf) (by rw [←HSn.out];exact hlfs)
   refine rO (fun w':World=>w'.cell? ⟨K,5,none⟩=some (.slice so sn sc)∧w'.cell? ⟨w.heap.size,0,none⟩=some (.int .i64 i.op)∧w'.cell? ⟨w.heap.size,1,none⟩=some (.int .i64 i.a)∧w'.cell? ⟨w.heap.size,2,none⟩=some (.int .i64 i.b)) (.plain 0 (.plain 1 (.plain 2 (.plain 3 (.plain 4 (.plain 5 (.plain 6 (.plain 7 (.two 8 12 (oL [9,10,11,112,113,14]) (oL [108,9,10,11,113,14])))))))))) (HX.out _ (Below.drew HB3.out)) ?_
   repeat refine pO ?_
   have hdl:(s.stk.drop lf).length=sn-lf:=by rw [List.length_drop,←HSn.out]
   obtain ⟨q,hq⟩:∃ q,q=ZeB m ls i (s.stk.drop lf):=⟨_,rfl⟩
   have HP:=Zh (show ∀ w',Below w.heap.size w w'→Calls Tryz.prog 273 #[.pointer (some ⟨K,0,none⟩),.agg #[.int .i64 i.op,.int .i64 i.a,.int .i64 i.b],.slice co (sn-lf) cc] w' (Zj6 w' q) from fun w' hb'=>by
    have:=HPu.out lf HLf.out (by omega) w' hb' co cc (hrow.old hb')
    rw [hdl,←hq] at this
    exact this)
   have hmq:=HMid.out
   rw [←hq] at hmq
   have HMq:=Zh hmq
   clear hmq hq HMid HPu hrow hdl
   refine Zd4 ?_ ?_
   refine Zd2 _ (by rfl) (by rfl) fun Kv hK=>?_
   go_simp
   try rw [hco]
   refine (HP.out _ (Zaf HB1.out (Below.drew HB3.out))).mono ?_
   rintro r w5 ⟨⟨t0,t1⟩,rfl,ht,hb5⟩
   have HT:=Zh ht
   have HB5:=Zh (Zaf HB3.out (Zaf (Below.drew (Below.refl _ _)) hb5))
   refine hK _ _ ⟨HX.out _ HB5.out,?_⟩
   clear hK Kv ht hb5
   repeat refine pO ?_
   refine oO fun Kv hK=>?_
   go_simp
   refine hK _ _ ⟨HX.out _ (bal HB5.out _),?_⟩
   clear hK Kv
   obtain ⟨Nt,hNt⟩:∃ n,n=w5.heap.size:=⟨_,rfl⟩
   have hbt:Blk (w5.alloc (.cells #[.int .i64 0,.int .i64 0] 76)) Nt #[.int .i64 0,.int .i64 0] 76:=Blk.new' _ _ hNt
   have hNl:W1.heap.size≤Nt:=by rw [hNt];exact HB5.out.size
   have hb6:Below W1.heap.size W1 (w5.alloc (.cells #[.int .i64 0,.int .i64 0] 76)):=bal HB5.out _
   obtain ⟨w6,hw6⟩:∃ x,x=w5.alloc (.cells #[.int .i64 0,.int .i64 0] 76):=⟨_,rfl⟩
   rw [←hNt]
   rw [←hw6] at hbt hb6 ⊢
   clear hw6 hNt
   refine oO fun Kv hK=>?_
   have y0:=hbt.cell 0 (v:=.int .i64 0) rfl
   have y1:=hbt.cell 1 (v:=.int .i64 0) rfl
   have g0:=hbt.frozen 0
   have g1:=hbt.frozen 1
   go_simp
   have hNw:w.heap.size<Nt:=Nat.lt_of_lt_of_le HBi.out.lt hNl
   have hb7:Below W1.heap.size W1 ((w6.setCell ⟨Nt,0,none⟩ (.int .i64 t0)).setCell ⟨Nt,1,none⟩ (.int .i64 t1)):=ZcW (ZcW hb6 hNl _) hNl _
   have HT7:=Zh (show Blk ((w6.setCell ⟨Nt,0,none⟩ (.int .i64 t0)).setCell ⟨Nt,1,none⟩ (.int .i64 t1)) Nt #[.int .i64 t0,.int .i64 t1] 76 from Blk.set (Blk.set hbt 0 _) 1 _)
   have HB7:=Zh hb7
   refine hK _ _ ⟨HX.out _ hb7,?_⟩
   clear hK Kv y0 y1 g0 g1 hbt hb6 hb7
   repeat refine pO ?_
   refine Zd5 ?_
   rotate_left
   refine Zd2 _ (by rfl) (by rfl) fun Kv hK=>?_
   go_simp
   refine hK _ _ ⟨HX.out _ (bal (Below.drew HB3.out) _),?_⟩
   clear hK Kv
   obtain ⟨Nt,hNt⟩:∃ n,n=w3.heap.size:=⟨_,rfl⟩
   have hbt0:Blk (w3.alloc (.cells #[.int .i64 0,.int .i64 0] 76)).drew Nt #[.int .i64 0,.int .i64 0] 76:=Blk.drew (Blk.new' _ _ hNt)
   have hNl:W1.heap.size≤Nt:=by rw [hNt];exact HB3.out.size
   have hb50:Below W1.heap.size W1 (w3.alloc (.cells #[.int .i64 0,.int .i64 0] 76)).drew:=Below.drew (bal HB3.out _)
   obtain ⟨w5,hw5⟩:∃ x,x=(w3.alloc (.cells #[.int .i64 0,.int .i64 0] 76)).drew:=⟨_,rfl⟩
   rw [←hNt]
   rw [←hw5] at hbt0 hb50 ⊢
   clear hw5 hNt
   refine oO fun Kv hK=>?_
   go_simp
   try rw [hco]
   refine (HP.out _ (Zaf HB1.out hb50)).mono ?_
   rintro r w6 ⟨⟨t0,t1⟩,rfl,ht,hb60⟩
   have HT:=Zh ht
   have hb6:=Zaf hb50 hb60
   have hbt:=hbt0.old hb60
   refine hK _ _ ⟨HX.out _ hb6,?_⟩
   clear hK Kv ht hbt0 hb50 hb60
   repeat refine pO ?_
   refine oO fun Kv hK=>?_
   have y0:=hbt.cell 0 (v:=.int .i64 0) rfl
   have y1:=hbt.cell 1 (v:=.int .i64 0) rfl
   have g0:=hbt.frozen 0
   have g1:=hbt.frozen 1
   go_simp
   have hNw:w.heap.size<Nt:=Nat.lt_of_lt_of_le HBi.out.lt hNl
   have hb7:Below W1.heap.size W1 ((w6.setCell ⟨Nt,0,none⟩ (.int .i64 t0)).setCell ⟨Nt,1,none⟩ (.int .i64 t1)):=ZcW (ZcW hb6 hNl _) hNl _
   have HT7:=Zh (show Blk ((w6.setCell ⟨Nt,0,none⟩ (.int .i64 t0)).setCell ⟨Nt,1,none⟩ (.int .i64 t1)) Nt #[.int .i64 t0,.int .i64 t1] 76 from Blk.set (Blk.set hbt 0 _) 1 _)
   have HB7:=Zh hb7
   refine hK _ _ ⟨HX.out _ hb7,?_⟩
   clear hK Kv y0 y1 g0 g1 hbt hb6 hb7
   repeat refine pO ?_
   refine Zd5 ?_
   clear k5 i0 i1 i2
   rotate_left
   all_goals
    obtain ⟨w7,hw7⟩:∃ x,x=(w6.setCell ⟨Nt,0,none⟩ (.int .i64 t0)).setCell ⟨Nt,1,none⟩ (.int .i64 t1):=⟨_,rfl⟩
    rw [←hw7] at HT7 HB7 ⊢
    clear hw7
    obtain ⟨k5,i0,i1,i2⟩:=HX.out _ HB7.out
    rcases q with _|t
    ·have he:(ZhO m ls i s).1=11:=by rw [HMq.out]
     go_wp2
     go_ret
     exact Zl8 hn1 hn2 he (by decide) (Upd.of (Zaf HB1.out HB7.out))
    ·obtain rfl:=HT.out t rfl
     have HM0:=Zh (show (ZhO m ls i s).1=0 by rw [HMq.out])
     have HM1:=Zh (show (ZhO m ls i s).2=s.stk.take lf++List.replicate ps ⟨t0,t1⟩ by rw [HMq.out])
     have hsl:(s.stk.take lf).length=lf:=by rw [List.length_take,←HSn.out];omega
     have HCp:=Zh (show Calls Tryz.prog 200 #[.slice so lf sc] w7 (Zfg 76 w7 (s.stk.take lf)) by
      have h9:=ZjT w7 so sc (s.stk.take lf) ((HTs.out.1.old (Zaf HB1.out HB7.out)).take lf (by rw [←HSn.out];exact hlfs) sc (fun q9=>(HTs.out.1.2.1 q9).2)) (by omega)
      rwa [hsl] at h9)
     have HSl:=Zh hsl
     clear hsl HMq HT
     go_upto_region 11 with (go_at_call 200;refine HCp.out.mono ?_;rintro r w8 ⟨⟨to8,tc8,rfl,hown8⟩,hb8⟩;rw [HSl.out];have HO8:=Zh hown8;have HB8:=Zh (Zaf HB7.out hb8);have HB78:=Zh hb8;clear hown8 hb8;have f5:=(HFz.out w8 (Zaf HB1.out HB8.out)).1;have c5:=(HX.out _ HB8.out).1)
     have hO8:=HO8.out
     rw [HSl.out] at hO8
     have hKw7:K<w7.heap.size:=Nat.lt_of_lt_of_le kl (Zaf HB1.out HB7.out).size
     have hNw7:Nt<w7.heap.size:=HT7.out.lt
     have hIw7:w.heap.size<w7.heap.size:=Nat.lt_of_lt_of_le HBi.out.lt HB7.out.size
     have hU9:Upd K K w (w8.setCell ⟨K,5,none⟩ (.slice to8 lf tc8)):=(Upd.of (Zaf HB1.out HB8.out)).set 5 _
     have hP9:Pk (w8.setCell ⟨K,5,none⟩ (.slice to8 lf tc8)) K h m (.slice lo ls.length lc) (.slice to8 lf tc8) (.slice oo bs.length oc):=Blk.set (HH.out.pk.old (Zaf HB1.out HB8.out)) 5 _
     have hO9:(w8.setCell ⟨K,5,none⟩ (.slice to8 lf tc8)).ownsRow w7.heap.size 76 2 (.slice to8 lf tc8) lf (Zak (s.stk.take lf)):=ownsRow_setCell_other hO8 (Zl5 hO8 hKw7) _
     have hI9:Blk (w8.setCell ⟨K,5,none⟩ (.slice to8 lf tc8)) w.heap.size #[.int .i64 i.op,.int .i64 i.a,.int .i64 i.b] 78:=Blk.other (HBi.out.old HB8.out) (by show w.heap.size≠K;omega) _
     have hT9:Blk (w8.setCell ⟨K,5,none⟩ (.slice to8 lf tc8)) Nt #[.int .i64 t0,.int .i64 t1] 76:=Blk.other (HT7.out.old HB78.out) (by show Nt≠K;omega) _
     obtain ⟨W9,hW9⟩:∃ x,x=w8.setCell ⟨K,5,none⟩ (.slice to8 lf tc8):=⟨_,rfl⟩
     rw [←hW9] at hU9 hP9 hO9 hI9 hT9 ⊢
     have HSz9:=Zh (show w7.heap.size≤W9.heap.size by rw [hW9,Zcm];exact HB78.out.size)
     have HU9:=Zh hU9
     have HP9:=Zh hP9
     have HO9:=Zh hO9
     have HI9:=Zh hI9
     have HT9:=Zh hT9
     clear hW9 hU9 hP9 hO9 hI9 hT9 hO8 f5 c5 k5 i0 i1 i2
     go_wp2
     go_loopw [10] (fun x wr=>∃ j:Nat,j≤ps∧x=.int .i64 (j:Int)∧∃ so' sc',Hid (Upd K K w wr)∧Hid (Pk wr K h m (.slice lo ls.length lc) (.slice so' (lf+j) sc') (.slice oo bs.length oc))∧Hid (wr.ownsRow w7.heap.size 76 2 (.slice so' (lf+j) sc') (lf+j) (Zak (s.stk.take lf++List.replicate j ⟨t0,t1⟩)))∧Hid (Blk wr w.heap.size #[.int .i64 i.op,.int .i64 i.a,.int .i64 i.b] 78)∧Hid (Blk wr Nt #[.int .i64 t0,.int .i64 t1] 76)∧Hid (w7.heap.size≤wr.heap.size)) (fun x _=>ps-(intOf x).toNat)
     case atStart=>exact ⟨0,Nat.zero_le _,rfl,to8,tc8,HU9,HP9,Zh (by rw [List.replicate_zero,List.append_nil];exact HO9.out),HI9,HT9,HSz9⟩
     case round=>
      obtain ⟨j,hj,rfl,so',sc',HU,HPj,HOj,HI,HTt,HSz⟩:=hrel
      by_cases hjl:j<ps
      ·have hjl2:(j:Int) < ps:=by omega
       have hwr:IntKind.i64.wrap ((j:Int)+1)=j+1:=IntWalk.i64_in _ (by omega)
       have k5:wr.cell? ⟨K,5,none⟩=some (.slice so' (lf+j) sc'):=HPj.out.cell 5 rfl
       have z0:wr.cell? ⟨Nt,0,none⟩=some (.int .i64 t0):=HTt.out.cell 0 rfl
       have z1:wr.cell? ⟨Nt,1,none⟩=some (.int .i64 t1):=HTt.out.cell 1 rfl
       go_upto_region 14 with fail
       have k5a:(wr.alloc (.cells #[.int .i64 t0,.int .i64 t1] 76)).cell? ⟨K,5,none⟩=some (.slice so' (lf+j) sc'):=Zj4 (show Below wr.heap.size wr (wr.alloc (.cells #[.int .i64 t0,.int .i64 t1] 76)) by exact bE) k5
       refine rO (fun _:World=>True) (.plain 0 (.plain 1 (.plain 2 (.plain 3 (.two 4 5 (oL [105,106,107,8,9,110]) (.two 4 6 (oL [106,107,8,9,110]) (oL [104,107,8,9,110]))))))) trivial ?_
       repeat refine pO ?_
       refine Zd4 ?_ ?_
       refine Zd2 _ (by rfl) (by rfl) fun Kv hK=>?_
       go_simp
       refine hK _ _ ⟨trivial,?_⟩
       clear hK Kv
       refine oO fun Kv hK=>?_
       go_simp
       refine hK _ _ ⟨trivial,?_⟩
       clear hK Kv
       refine oO fun Kv hK=>?_
       go_simp
       refine hK _ _ ⟨trivial,?_⟩
       clear hK Kv
       rotate_left
       refine Zd2 _ (by rfl) (by rfl) fun Kv hK=>?_
       go_simp
       refine hK _ _ ⟨trivial,?_⟩
       clear hK Kv
       refine Zd4 ?_ ?_
       refine Zd2 _ (by rfl) (by rfl) fun Kv hK=>?_
       go_simp
       refine hK _ _ ⟨trivial,?_⟩
       clear hK Kv
       refine oO fun Kv hK=>?_
       go_simp
       refine hK _ _ ⟨trivial,?_⟩
       clear hK Kv
       rotate_left
       refine Zd2 _ (by rfl) (by rfl) fun Kv hK=>?_
       go_simp
       refine hK _ _ ⟨trivial,?_⟩
       clear hK Kv
       refine oO fun Kv hK=>?_
       go_simp
       refine hK _ _ ⟨trivial,?_⟩
       clear hK Kv
       all_goals
        clear k5 k5a z0 z1
        have hba:Below wr.heap.size wr (wr.alloc (.cells #[.int .i64 t0,.int .i64 t1] 76)).drew:=by exact bE
        have HOa:=Zh (show (wr.alloc (.cells #[.int .i64 t0,.int .i64 t1] 76)).drew.ownsRow w7.heap.size 76 2 (.slice so' (lf+j) sc') (lf+j) (Zak (s.stk.take lf++List.replicate j ⟨t0,t1⟩)) from ZhI HOj.out fun k hk=>hba.block k (HOj.out.lt k hk).2)
        have HRa:=Zh (ZlU wr ([⟨t0,t1⟩]:List Ty) _ 76 rfl)
        have HBa:=Zh hba
        clear hba
        refine oO fun Kv hK=>?_
        refine Zej (.tmp 78) (.tmp 80) 23 rfl w7.heap.size 76 2 16 Zff (.slice so' (lf+j) sc') (lf+j) _ rfl HOa.out (some ⟨wr.heap.size,0,none⟩) 1 1 (Zak ([⟨t0,t1⟩]:List Ty)) rfl HRa.out (Zaq _) (by omega) (by unfold maxLen;omega) (Nat.le_trans HSz.out HBa.out.size) ?_
        intro ao2 cap2 w10 hown10 hg10
        have hnK:=Zl5 HOa.out hKw7
        have hnT:=Zl5 HOa.out hNw7
        have hnI:=Zl5 HOa.out hIw7
        have hwl:wr.heap.size≤(wr.alloc (.cells #[.int .i64 t0,.int .i64 t1] 76)).drew.heap.size:=HBa.out.size
        have hP10:Pk w10 K h m (.slice lo ls.length lc) (.slice so' (lf+j) sc') (.slice oo bs.length oc):=by
         have h9:=HPj.out.old HBa.out
         unfold Pk Blk
         rw [hg10.block K (Blk.lt h9) (fun e=>hnK e.symm)]
         exact h9
        have hT10:Blk w10 Nt #[.int .i64 t0,.int .i64 t1] 76:=by
         have h9:=HTt.out.old HBa.out
         unfold Blk
         rw [hg10.block Nt (Blk.lt h9) (fun e=>hnT e.symm)]
         exact h9
        have hI10:Blk w10 w.heap.size #[.int .i64 i.op,.int .i64 i.a,.int .i64 i.b] 78:=by
         have h9:=HI.out.old HBa.out
         unfold Blk
         rw [hg10.block w.heap.size (Blk.lt h9) (fun e=>hnI e.symm)]
         exact h9
        have hU10:Upd K K w w10:=(HU.out.bel HBa.out).grown hg10 (fun k hk=>.inr (by
         rcases HOa.out.2 with ⟨hv,_⟩|⟨g,c,cur,hv,hbg,hgg,_⟩
         ·rw [hv] at hk;cases hk
         ·rw [hv] at hk
          have e9:g=k:=Option.some.inj hk
          have:=(Zaf HB1.out HB7.out).size
          omega))
        have HP10:=Zh hP10
        have HT10:=Zh hT10
        have HI10:=Zh hI10
        have HU10:=Zh hU10
        have HO10:=Zh hown10
        have HZ10:=Zh (show w7.heap.size≤w10.heap.size from Nat.le_trans HSz.out (Nat.le_trans hwl hg10.size))
        clear hP10 hT10 hI10 hU10 hown10 hg10 hnK hnT hnI hwl
        refine hK _ _ ⟨trivial,?_⟩
        clear hK Kv
        repeat refine pO ?_
        have c5:w10.cell? ⟨K,5,none⟩=some (.slice so' (lf+j) sc'):=HP10.out.cell 5 rfl
        have f5:w10.frozen? ⟨K,5,none⟩=false:=HP10.out.frozen 5
        refine oO fun Kv hK=>?_
        go_simp
        refine hK _ _ ⟨trivial,?_⟩
        clear hK Kv c5 f5
        refine Zd5 ?_
        go_wp2
        go_roundw
        case rel=>
         refine ⟨j+1,by omega,by go_num,ao2,cap2,Zh (HU10.out.set 5 _),Zh (Blk.set HP10.out 5 _),Zh ?_,Zh (Blk.other HI10.out (by show w.heap.size≠K;omega) _),Zh (Blk.other HT10.out (by show Nt≠K;omega) _),Zh (by rw [Zcm];exact HZ10.out)⟩
         rw [List.replicate_succ',←List.append_assoc,Zan]
         exact ownsRow_setCell_other HO10.out (Zl5 HO10.out hKw7) _
        case measure=>simp [intOf];omega
      ·obtain rfl:j=ps:=by omega
       have hnj:¬ (j:Int) < j:=by omega
       have i0:wr.cell? ⟨w.heap.size,0,none⟩=some (.int .i64 i.op):=HI.out.cell 0 rfl
       obtain ⟨n9,hn9⟩:∃ n,n=lf+j:=⟨_,rfl⟩
       have hm2l:(ZhO m ls i s).2.length=n9:=by rw [HM1.out,List.length_append,HSl.out,List.length_replicate,hn9]
       have hPm:Pk wr K h m (.slice lo ls.length lc) (.slice so' (ZhO m ls i s).2.length sc') (.slice oo bs.length oc):=by rw [hm2l,hn9];exact HPj.out
       have hTm:ZeP wr so' sc' (ZhO m ls i s).2:=by
        refine ZeP.own (base:=w7.heap.size) ?_
        rw [hm2l,HM1.out,hn9]
        exact HOj.out
       have k5:wr.cell? ⟨K,5,none⟩=some (.slice so' n9 sc'):=by rw [hn9];exact HPj.out.cell 5 rfl
       have k6:wr.cell? ⟨K,6,none⟩=some (.slice oo bs.length oc):=HPj.out.cell 6 rfl
       have hop9:=HOp.out
       by_cases h3:ZaR i.op=true
       ·have h39:=h3
        unfold ZaR inI at h39
        simp only [Bool.and_eq_true,decide_eq_true_eq] at h39
        have g29:i.op ≥ 29:=by omega
        have g33:i.op≤33:=h39.2
        have HPm:=Zh hPm
        have HTm:=Zh hTm
        have HNn:=Zh hm2l
        have H3:=Zh h3
        have HCq:=Zh (show ∀ w',Below wr.heap.size wr w'→Calls Tryz.prog 200 #[.slice so' n9 sc'] w' (Zfg 76 w' (ZhO m ls i s).2) from fun w' hb'=>by
         have h9:=ZjT w' so' sc' (ZhO m ls i s).2 (hTm.1.old hb') (by omega)
         rwa [hm2l] at h9)
        have hS:∀ w',Upd K K wr w'→w'.cell? ⟨K,5,none⟩=some (.slice so' n9 sc')→(fun w':World=>w'.cell? ⟨K,5,none⟩=some (.slice so' n9 sc')∧w'.cell? ⟨w.heap.size,0,none⟩=some (.int .i64 i.op)) w':=fun w' hu hk=>⟨hk,hu.cell (HI.out.cell 0 rfl) (by show w.heap.size≠K;omega) (by show w.heap.size≠K;omega)⟩
        have HS0:=Zh hS
        have HS:=Zh (show ∀ w',Below wr.heap.size wr w'→(fun w':World=>w'.cell? ⟨K,5,none⟩=some (.slice so' n9 sc')∧w'.cell? ⟨w.heap.size,0,none⟩=some (.int .i64 i.op)) w' from fun w' hb=>hS w' (Upd.of hb) (Zj4 hb k5))
        clear hS hn9 hm2l hPm hTm h3 h39 hop9
        go_upto_region 16 with fail
        refine rO (fun w':World=>w'.cell? ⟨K,5,none⟩=some (.slice so' n9 sc')∧w'.cell? ⟨w.heap.size,0,none⟩=some (.int .i64 i.op)) (.plain 0 (.plain 1 (.plain 2 (.plain 3 (.plain 5 (.plain 6 (.plain 7 (.plain 8 (.plain 9 (.plain 10 (.two 4 11 (oL [111,12,113,114,15,16,117]) (.plain 12 (.two 4 13 (oL [113,114,15,16,117]) (oL [104,114,15,16,117])))))))))))))) (HS.out _ (Below.drew (Below.refl _ _))) ?_
        repeat refine pO ?_
        refine Zd4 ?_ ?_
        refine Zd2 _ (by rfl) (by rfl) fun Kv hK=>?_
        go_simp
        refine hK _ _ ⟨HS.out _ (Below.drew (Below.refl _ _)),?_⟩
        clear hK Kv
        refine oO fun Kv hK=>?_
        go_simp
        refine (HCq.out _ (Below.drew (Below.refl _ _))).mono ?_
        rintro r w11 ⟨⟨bo,bc,rfl,hown11⟩,hb11⟩
        rw [HNn.out]
        have HB11:=Zh (show Below wr.heap.size wr w11 from Zaf (Below.drew (Below.refl _ _)) hb11)
        have HO11:=Zh hown11
        clear hown11 hb11
        have k6b:=Zj4 HB11.out k6
        refine hK _ _ ⟨HS.out _ HB11.out,?_⟩
        clear hK Kv
        repeat refine pO ?_
        refine oO fun Kv hK=>?_
        go_simp
        refine hK _ _ ⟨HS.out _ (bal HB11.out _),?_⟩
        clear hK Kv
        rotate_left
        refine Zd2 _ (by rfl) (by rfl) fun Kv hK=>?_
        go_simp
        refine (HCq.out _ (Below.drew (Below.refl _ _))).mono ?_
        rintro r w11 ⟨⟨bo,bc,rfl,hown11⟩,hb11⟩
        rw [HNn.out]
        have HB11:=Zh (show Below wr.heap.size wr w11 from Zaf (Below.drew (Below.refl _ _)) hb11)
        have HO11:=Zh hown11
        clear hown11 hb11
        have k6b:=Zj4 HB11.out k6
        refine hK _ _ ⟨HS.out _ HB11.out,?_⟩
        clear hK Kv
        repeat refine pO ?_
        refine Zd4 ?_ ?_
        refine Zd2 _ (by rfl) (by rfl) fun Kv hK=>?_
        go_simp
        refine hK _ _ ⟨HS.out _ HB11.out,?_⟩
        clear hK Kv
        refine oO fun Kv hK=>?_
        go_simp
        refine hK _ _ ⟨HS.out _ (bal HB11.out _),?_⟩
        clear hK Kv
        rotate_left
        refine Zd2 _ (by rfl) (by rfl) fun Kv hK=>?_
        go_simp
        refine hK _ _ ⟨HS.out _ (bal HB11.out _),?_⟩
        clear hK Kv
        have k6c:=Zj4 (show Below w11.heap.size w11 (w11.alloc (.cells #[.int .i64 i.op,.slice bo n9 bc,.slice none 0 0,.bool false] 285)) by exact bE) k6b
        refine oO fun Kv hK=>?_
        go_simp
        refine hK _ _ ⟨HS.out _ (bal HB11.out _),?_⟩
        clear hK Kv k6c
        all_goals
         have hb12:Below wr.heap.size wr (w11.alloc (.cells #[.int .i64 i.op,.slice bo n9 bc,.slice none 0 0,.bool false] 285)):=bal HB11.out _
         have hUo:Upd K K w (w11.alloc (.cells #[.int .i64 i.op,.slice bo n9 bc,.slice none 0 0,.bool false] 285)):=HU.out.bel hb12
         have HOo:=Zh ((HH.out.op.upd hUo HH.out.pk.noTy HH.out.ne).own)
         have HSo:=Zh (Zcr w11 #[.int .i64 i.op,.slice bo n9 bc,.slice none 0 0,.bool false] 285 (n:=1) (size:=4) rfl)
         have hw0:w0.heap.size≤(w11.alloc (.cells #[.int .i64 i.op,.slice bo n9 bc,.slice none 0 0,.bool false] 285)).heap.size:=Nat.le_trans HH.out.hb.size hUo.size
         have HBl:=HBl6.out
         refine oO fun Kv hK=>?_
         refine Zej (.tmp 96) (.tmp 105) 227 rfl w0.heap.size 285 4 64 Zl3 (.slice oo bs.length oc) bs.length _ rfl HOo.out (some ⟨w11.heap.size,0,none⟩) 1 1 (vbL i.op bo n9 bc) rfl HSo.out (by intro u hu;simp only [vbL,List.mem_cons,List.not_mem_nil,or_false] at hu;rcases hu with rfl|rfl|rfl|rfl<;>rfl) (by omega) (by unfold maxLen;omega) hw0 ?_
         intro ao2 cap2 w13 hown13 hg13
         have hP12:Pk (w11.alloc (.cells #[.int .i64 i.op,.slice bo n9 bc,.slice none 0 0,.bool false] 285)) K h m (.slice lo ls.length lc) (.slice so' (ZhO m ls i s).2.length sc') (.slice oo bs.length oc):=HPm.out.old hb12
         have hnK:(Value.slice oo bs.length oc).ownBlock≠some K:=by
          intro e9
          cases hoo:oo with
          | none=>rw [hoo] at e9;cases e9
          | some a=>rw [hoo] at e9;exact HH.out.ne a hoo (Option.some.inj e9)
         have hnI:(Value.slice oo bs.length oc).ownBlock≠some w.heap.size:=by
          intro e9
          have:=(HH.out.op.own.lt _ e9).2
          omega
         have hP13:Pk w13 K h m (.slice lo ls.length lc) (.slice so' (ZhO m ls i s).2.length sc') (.slice oo bs.length oc):=by
          unfold Pk Blk
          rw [hg13.block K (Blk.lt hP12) (fun e=>hnK e.symm)]
          exact hP12
         have hI13:Blk w13 w.heap.size #[.int .i64 i.op,.int .i64 i.a,.int .i64 i.b] 78:=by
          have h9:=HI.out.old hb12
          unfold Blk
          rw [hg13.block w.heap.size (Blk.lt h9) (fun e=>hnI e.symm)]
          exact h9
         have c5:w13.cell? ⟨K,5,none⟩=some (.slice so' n9 sc'):=by rw [←HNn.out];exact Blk.cell hP13 5 rfl
         have c6:w13.cell? ⟨K,6,none⟩=some (.slice oo bs.length oc):=Blk.cell hP13 6 rfl
         have f6:w13.frozen? ⟨K,6,none⟩=false:=Blk.frozen hP13 6
         have HPx:=Zh hP13
         have HIx:=Zh hI13
         have HOx:=Zh hown13
         have HGx:=Zh hg13
         have HBx:=Zh hb12
         clear hP12 hnK hnI hP13 hown13 hg13 hb12 hUo hw0 HBl
         refine hK _ _ ⟨⟨c5,hI13.cell 0 rfl⟩,?_⟩
         clear hK Kv hI13
         repeat refine pO ?_
         refine oO fun Kv hK=>?_
         go_simp
         refine hK _ _ ⟨⟨?_,?_⟩,?_⟩
         ·rw [←HNn.out];exact Blk.cell (Blk.set HPx.out 6 _) 5 rfl
         ·exact (Blk.other HIx.out (by show w.heap.size≠K;omega) _).cell 0 rfl
         clear hK Kv c5 c6 f6
         refine Zd5 ?_
         go_wp2
         go_ret
         refine Zl6 (bo:=bo) (bc:=bc) HH.out hn1 hn2 H3.out HM0.out HU.out HPm.out HTm.out HBx.out ?_ ?_ HGx.out
         ·exact (ZeP.own HO11.out).upd ((Upd.refl K K w11).alloc _) (Pk.noTy (HPm.out.old HB11.out)) (Pk.noTy (HPm.out.old HB11.out))
         ·rw [HNn.out];exact HOx.out
       ·have g29:¬ i.op ≥ 29:=by
         intro hh
         exact h3 (by unfold ZaR inI;simp;omega)
        have h3':ZaR i.op=false:=by simpa using h3
        have HPm:=Zh hPm
        have HTm:=Zh hTm
        clear hPm hTm hm2l hn9 h3
        go_wp2
        go_ret
        exact Zl7 HH.out hn1 hn2 h3' HM0.out HU.out HPm.out HTm.out
theorem S6.old {s:Ps} {so:Option Addr} {sc:Nat} {oo:Option Addr} {oc:Nat} {bs:List VB} (H:S6 w0 w K h m lo lc ls s so sc oo oc bs) {w1:World} (hb:Below w.heap.size w w1):S6 w0 w1 K h m lo lc ls s so sc oo oc bs:=
 ⟨H.pk.old hb,H.ts.upd (Upd.of (K:=K) (B:=K) hb) H.pk.noTy H.pk.noTy,H.op.upd (Upd.of hb) H.pk.noTy H.ne,H.tl.upd (Upd.of (K:=K) (B:=K) hb) H.pk.noTy H.pk.noTy,Zaf H.hb hb,H.hK⟩
theorem P6.pre {oo:Option Addr} {q:Int × Ps} {r:Ending} {w' w1:World} (hb:Below w.heap.size w w1) (H:P6 w0 w1 K h m lo lc ls oo q r w'):P6 w0 w K h m lo lc ls oo q r w':=⟨H.1,(Upd.of hb).trans H.2.1,H.2.2⟩
theorem Zma {s:Ps} {oo:Option Addr} {i:In3} (hop:i.op=34∨i.op=35) (HC:∀ w1,Below w.heap.size w w1→Calls Tryz.prog 270 #[.pointer (some ⟨K,0,none⟩),.agg #[.int .i64 i.op,.int .i64 i.a,.int .i64 i.b]] w1 (P6 w0 w1 K h m lo lc ls oo (ZeC m ls i s))):
  Calls Tryz.prog 201 #[.pointer (some ⟨K,0,none⟩),.agg #[.int .i64 i.op,.int .i64 i.a,.int .i64 i.b]] w (P6 w0 w K h m lo lc ls oo (ZeC m ls i s)):=by
 obtain ⟨q,hq⟩:∃ q,q=ZeC m ls i s:=⟨_,rfl⟩
 rw [←hq] at HC ⊢
 clear hq
 obtain ⟨op,ia,ib⟩:=i
 dsimp only at hop HC ⊢
 have hb0:Below w.heap.size w (w.alloc (.cells #[.int .i64 op,.int .i64 ia,.int .i64 ib] 78)):=by exact bE
 have HCl:=Zh (HC _ hb0)
 have HB:=Zh hb0
 clear HC hb0
 rcases hop with rfl|rfl
 all_goals
  go_enter Tryz.func201,Tryz.ntmps201
  go_wp2_with (go_at_call 270;refine HCl.out.mono ?_;rintro r w1 ⟨rfl,hu,hs⟩;have HU:=Zh hu;have HS:=Zh hs;clear hu hs)
  go_ret
  exact P6.pre HB.out ⟨rfl,HU.out,HS.out⟩
theorem Zmb {s:Ps} {so:Option Addr} {sc:Nat} {oo:Option Addr} {oc:Nat} {bs:List VB} {i:In3} {l:List In3} {k:Nat} (H:S6 w0 w K h m lo lc ls s so sc oo oc bs) (HM:Zay w h m) (hm:Za1 m=true) (hlo:∀ t∈ls,Zfi m t) (hk:k<m.me.length) (hi:ZfR m k i) (hop:0≤i.op∧i.op<36) (HW:Wf m s (i :: l)):
  Calls Tryz.prog 201 #[.pointer (some ⟨K,0,none⟩),.agg #[.int .i64 i.op,.int .i64 i.a,.int .i64 i.b]] w (P6 w0 w K h m lo lc ls oo (ZeC m ls i s)):=by
 have hd:=HW.depth
 have hst:=HW.stk
 by_cases h34:i.op=34
 ·obtain ⟨r,o,hs,-,-⟩:=HW.else_ h34
  have hbl:o.beg.length≤12:=by
   have h9:=HW.opn
   rw [hs,List.reverse_append,List.reverse_singleton,List.singleton_append] at h9
   exact h9.1.1
  refine Zma (.inl h34) fun w1 hb=>?_
  have:=Zlj (H.old hb) h34 hs hd hbl hst.1
  rwa [←h34] at this
 ·by_cases h35:i.op=35
  ·obtain ⟨r,o,hs,-⟩:=HW.end_ h35
   refine Zma (.inr h35) fun w1 hb=>?_
   have:=Zlk (H.old hb) h35 hs hd hst.1
   rwa [←h35] at this
  ·exact Zl9 H HM hm hlo hk hi (by omega) hst hd HW.base
end
end
section
open Go.RowKit
section
variable {w0 w:World}{K:Nat}{h:Hd}{m:Md}{lo:Option Addr}{lc:Nat}{ls:List Ty}{s:Ps}{sso:Option Addr}{ssc:Nat}{oo:Option Addr}{oc:Nat}{bs:List VB}
section
variable (H:S6 w0 w K h m lo lc ls s sso ssc oo oc bs)
include H
theorem S6.grow {w':World} {row:Option Nat} (hg:w.grownBy w' row) (hr:∀ b,row=some b→ZeQ w b∧b≠K∧(∀ a,oo=some a→a.block≠b)∧w0.heap.size≤b):S6 w0 w' K h m lo lc ls s sso ssc oo oc bs:=by
 cases row with
 | none=>exact H.old ((Below.refl _ _).grown hg (Nat.le_refl _) (fun j hj=>by cases hj))
 | some b=>
  obtain ⟨h1,h2,h3,h4⟩:=hr b rfl
  have hu:Upd b b w w':=(Upd.refl b b w).grown hg (fun k hk=>.inl (Option.some.inj hk).symm)
  refine ⟨?_,H.ts.upd hu h1 h1,⟨ZhI H.op.own fun k hk=>hu.block k (H.op.own.lt k hk).2 ?_ ?_,H.op.len,fun i hi=>(H.op.at_ i hi).upd hu h1 h1⟩,H.tl.upd hu h1 h1,hu.below H.hb (Nat.le_refl _) h4 h4,H.hK⟩
  ·exact Blk.upd H.pk hu h2.symm h2.symm
  all_goals
   intro e
   cases oo with
   | none=>cases hk
   | some a=>cases hk;exact h3 a rfl e
theorem S6.grow_st {so:Option Addr} {sc:Nat} {rows:List SH} {sts:List (List Ty)} (HS:ZjJ w w0.heap.size so sc rows sts) {w':World} (hg:w.grownBy w' (Value.slice so rows.length sc).ownBlock):S6 w0 w' K h m lo lc ls s sso ssc oo oc bs:=by
 refine H.grow hg fun b hb=>⟨HS.noTy hb,fun e=>?_,fun a ha e=>?_,(HS.own.lt b hb).1⟩
 ·exact HS.ne (b:=K) (show w.heap[K]?=some (.cells _ 229 (0,0)) from H.pk) (by decide) (e▸hb)
 ·exact k85
theorem ZjJ.step6 {w':World} {N:Nat} {so:Option Addr} {sc:Nat} {rows:List SH} {sts:List (List Ty)} (HS:ZjJ w N so sc rows sts) (hu:Upd K (ZhH K oo) w w'):ZjJ w' N so sc rows sts:=by
 have h1:=HS.ne (b:=K) (show w.heap[K]?=some (.cells _ 229 (0,0)) from H.pk) (by decide)
 refine HS.upd hu H.pk.noTy (H.op.noTy H.pk.noTy) h1 ?_
 exact k84
theorem Blk.step6 {w':World} {b:Nat} {xs:Array Value} {t:TypeId} (HB:Blk w b xs t) (ht:t≠229) (ht2:t≠285) (hu:Upd K (ZhH K oo) w w'):Blk w' b xs t:=by
 have h1:b≠K:=ZhZ HB H.pk ht
 exact k76
theorem S6.upper {w':World} (hu:Upd K (ZhH K oo) w w'):Below w0.heap.size w0 w':=by
 refine hu.below H.hb (Nat.le_refl _) H.hK ?_
 exact k50
end
end
structure Rd6 (w wr:World) (K:Nat) (h:Hd) (m:Md) (kk:Nat) (lo:Option Addr) (lc:Nat) (ls:List Ty) (k:Nat) (so:Option Addr) (sc nr:Nat):Prop where
 ex:∃ (s:Ps) (acc:List (List Ty)) (rows:List SH) (sso:Option Addr) (ssc:Nat) (oo:Option Addr) (oc:Nat) (bs:List VB),
  S6 w wr K h m lo lc ls s sso ssc oo oc bs∧Wf m s ((m.me.getD kk default).k.drop k)∧rows.length=nr∧ZjJ wr w.heap.size so sc rows acc ∧
  ZeG m kk=Zfv acc (ZeE m ls (m.me.getD kk default).r k ((m.me.getD kk default).k.drop k) s)
theorem S6.start {w w2:World}{h:Hd}{m:Md}{lo:Option Addr}{lc:Nat}{ls:List Ty}{K:Nat} (hb:Below w.heap.size w w2) (hK:w.heap.size≤K) (hl:ZeP w2 lo lc ls) (hp:Pk w2 K h m (.slice lo ls.length lc) (.slice none 0 0) (.slice none 0 0)) :
  S6 w w2 K h m lo lc ls ⟨[],[]⟩ none 0 none 0 []:=⟨hp,ZeP.nil _,⟨World.ownsRow_nil _ _ _ _,rfl,fun i hi=>by simp at hi⟩,hl,hb,hK⟩
theorem Zmc (h:Hd) (m:Md) (at':Int) (w:World) (HM:Zay w h m) (hno:Za1 m=false∨at' < 0∨(m.me.length:Int)≤at'):Calls Tryz.prog 136 #[.agg #[.slice h.co m.cl.length h.cc,.slice h.so m.st.length h.sc,.slice h.eo m.me.length h.ec,.int .i64 m.sel],.int .i64 at'] w (ZjL w ([],0,1)):=by
 have hb0:Below w.heap.size w (w.alloc (.cells #[.slice h.co m.cl.length h.cc,.slice h.so m.st.length h.sc,.slice h.eo m.me.length h.ec,.int .i64 m.sel] 26)):=by exact bE
 have hx:=Blk.new w #[.slice h.co m.cl.length h.cc,.slice h.so m.st.length h.sc,.slice h.eo m.me.length h.ec,.int .i64 m.sel] 26
 have HC:=Zh (Zjj m h _ (HM.old hb0))
 have HX:=Zh hx
 have HB0:=Zh hb0
 have hcs:(Za1 m=false)∨(Za1 m=true∧at' < 0)∨(Za1 m=true∧¬ at' < 0∧(m.me.length:Int)≤at'):=by
  cases hq:Za1 m
  ·exact .inl rfl
  ·rw [hq] at hno
   rcases hno with q|q|q
   ·cases q
   ·exact .inr (.inl ⟨rfl,q⟩)
   ·by_cases q2:at' < 0
    ·exact .inr (.inl ⟨rfl,q2⟩)
    ·exact .inr (.inr ⟨rfl,q2,q⟩)
 clear hx hb0 HM hno
 rcases hcs with q|⟨q,q2⟩|⟨q,q2,q3⟩
 all_goals
  rw [q] at HC
  have HQ:=Zh q
  clear q
  go_enter Tryz.func136,Tryz.ntmps136
  go_wp2_with (go_at_call 60;refine HC.out.mono ?_;rintro e w1 ⟨rfl,hb1⟩;have c2:=(HX.out.old hb1).cell 2 (v:=.slice h.eo m.me.length h.ec) rfl)
  go_ret3
  exact ZjL.no w (Zaf HB0.out hb1) 0 1
theorem Zmd (h:Hd) (m:Md) (kk:Nat) (w:World) (HM:Zay w h m) (hm:Za1 m=true) (hk:kk<m.me.length):Calls Tryz.prog 136 #[.agg #[.slice h.co m.cl.length h.cc,.slice h.so m.st.length h.sc,.slice h.eo m.me.length h.ec,.int .i64 m.sel],.int .i64 kk] w (ZjL w (ZeG m kk)):=by
 have hmt:=ZfN hm hk
 obtain ⟨ls,hls⟩:∃ l,l=ZeF (m.me.getD kk default):=⟨_,rfl⟩
 obtain ⟨nc,hnc⟩:∃ n,n=(m.me.getD kk default).k.length:=⟨_,rfl⟩
 have hnc2:nc≤120:=by rw [hnc];exact hmt.z.2.2
 have hlo:=ZfO hm hk
 rw [←hls] at hlo
 have hb1:Below w.heap.size w (w.alloc (.cells #[.slice h.co m.cl.length h.cc,.slice h.so m.st.length h.sc,.slice h.eo m.me.length h.ec,.int .i64 m.sel] 26)):=by exact bE
 have hx1:=Blk.new w #[.slice h.co m.cl.length h.cc,.slice h.so m.st.length h.sc,.slice h.eo m.me.length h.ec,.int .i64 m.sel] 26
 have HC:=Zh (show ∀ w',Below w.heap.size w w'→Calls Tryz.prog 60 #[.agg #[.slice h.co m.cl.length h.cc,.slice h.so m.st.length h.sc,.slice h.eo m.me.length h.ec,.int .i64 m.sel]] w' (Ret w' (.int .i64 0)) from fun w' hb'=>by have:=Zjj m h w' (HM.old hb');rwa [hm] at this)
 have HLo:=Zh (show ∀ w',Below w.heap.size w w'→Calls Tryz.prog 137 #[.agg #[.slice h.co m.cl.length h.cc,.slice h.so m.st.length h.sc,.slice h.eo m.me.length h.ec,.int .i64 m.sel],.int .i64 kk] w' (Zii 76 w' ls 0) from fun w' hb'=>by rw [hls];exact Zjl m h kk w' (HM.old hb') hm hk)
 obtain ⟨W1,hW1⟩:∃ W1,W1=w.alloc (.cells #[.slice h.co m.cl.length h.cc,.slice h.so m.st.length h.sc,.slice h.eo m.me.length h.ec,.int .i64 m.sel] 26):=⟨_,rfl⟩
 rw [←hW1] at hx1 hb1
 have HX:=Zh (show ∀ w',Below W1.heap.size W1 w'→_ from fun w' hb=>Zj5 (hx1.old hb))
 have HX1:=Zh hx1
 have HHM:=Zh HM
 have HHm:=Zh hm
 have HMt:=Zh hmt
 have HLs:=Zh hls
 have HLt:=Zh hlo
 have HNc:=Zh hnc
 have HW1:=Zh hW1
 have HB1:=Zh hb1
 have hkk2:(kk:Int) < m.me.length:=by omega
 have hkk3:¬ (kk:Int) < 0:=by omega
 have hkk4:¬ (m.me.length:Int)≤kk:=by omega
 clear hx1 HM hm hmt hls hlo hnc hW1 hb1
 go_enter Tryz.func136,Tryz.ntmps136
 go_upto_region 1 with fail
 rw [←HW1.out]
 obtain ⟨c0,c1,c2,c3⟩:=HX.out _ (Below.refl _ _)
 go_upto_region 4 with (first
  | (go_at_call 60;refine (HC.out _ HB1.out).mono ?_;rintro e w2 ⟨rfl,hb2⟩;have HB2:=Zh hb2;clear hb2 c0 c1 c2 c3;obtain ⟨c0,c1,c2,c3⟩:=HX.out _ HB2.out)
  | (go_at_call 137;refine (HLo.out _ (Zaf HB1.out HB2.out)).mono ?_;rintro r w3 ⟨⟨lo,lc,rfl,hown3⟩,hb3⟩;have HO3:=Zh hown3;have HB3:=Zh (Zaf HB2.out hb3);clear hown3 hb3 c0 c1 c2 c3;obtain ⟨c0,c1,c2,c3⟩:=HX.out _ HB3.out))
 obtain ⟨W4,hW4⟩:∃ W4,W4=w3.alloc (.cells #[.slice h.co m.cl.length h.cc,.slice h.so m.st.length h.sc,.slice h.eo m.me.length h.ec,.int .i64 m.sel,.slice lo ls.length lc,.slice none 0 0,.slice none 0 0] 229):=⟨_,rfl⟩
 have hp4:Pk W4 w3.heap.size h m (.slice lo ls.length lc) (.slice none 0 0) (.slice none 0 0):=by rw [hW4];exact Blk.new w3 _ _
 have hb34:Below w3.heap.size w3 W4:=by rw [hW4];exact bE
 have ht4:ZeP W4 lo lc ls:=by rw [hW4];exact ZeP.alloc' (ZeP.own HO3.out) _
 go_upto_region 5 with fail
 rw [←hW4]
 have HB4:=Zh (Zaf HB3.out hb34)
 clear c0 c1 c2 c3
 obtain ⟨ea,heo,m0,m1,m2,m3,m4,m5,m6⟩:=(HHM.out.old (Zaf HB1.out HB4.out)).mth hk
 obtain ⟨c0,c1,c2,c3⟩:=HX.out _ HB4.out
 rw [heo] at c2
 obtain ⟨ma,hma⟩:∃ a,a=ea.add (kk*7):=⟨_,rfl⟩
 rw [←HNc.out] at m6
 obtain ⟨nm,mc,pn,ln,rk,rq,hX7⟩:∃ (nm:ByteArray) (mc:Int) (pn ln:Nat) (rk rq:Int),nm=(m.me.getD kk default).n∧mc=(m.me.getD kk default).c∧pn=(m.me.getD kk default).p.length∧ln=(m.me.getD kk default).l.length∧(⟨rk,rq⟩:Ty)=(m.me.getD kk default).r:=⟨_,_,_,_,(m.me.getD kk default).r.k,(m.me.getD kk default).r.c,rfl,rfl,rfl,rfl,rfl⟩
 obtain ⟨e0,e1,e2,e3,e4⟩:=hX7
 rw [←e4] at m4 m5
 rw [←e0] at m0
 rw [←e1] at m1
 rw [←e2] at m2
 rw [←e3] at m3
 dsimp only at m4 m5
 have HR4:=Zh e4
 have HSt:=Zh (S6.start (Zaf HB1.out HB4.out) (Zaf HB1.out HB3.out).size ht4 hp4)
 have HW4:=Zh hW4
 clear hW4 hp4 hb34 ht4 e0 e1 e2 e3 e4
 have hx5:=Blk.new W4 #[.string nm,.int .i64 mc,.slice (h.e kk).po pn (h.e kk).pc,.slice (h.e kk).lo ln (h.e kk).lc,.int .i64 rk,.int .i64 rq,.slice (h.e kk).ko nc (h.e kk).kc] 81
 obtain ⟨W5,hW5⟩:∃ W5,W5=W4.alloc (.cells #[.string nm,.int .i64 mc,.slice (h.e kk).po pn (h.e kk).pc,.slice (h.e kk).lo ln (h.e kk).lc,.int .i64 rk,.int .i64 rq,.slice (h.e kk).ko nc (h.e kk).kc] 81):=⟨_,rfl⟩
 have hb45:Below W4.heap.size W4 W5:=by rw [hW5];exact bE
 go_upto_region 6 with fail
 rw [←hW5] at hx5 ⊢
 clear c0 c1 c2 c3 m0 m1 m2 m3 m4 m5 m6 hma heo hW5
 have HSt5:=Zh (HSt.out.old hb45)
 obtain ⟨K,hK⟩:∃ K,K=w3.heap.size:=⟨_,rfl⟩
 obtain ⟨X,hX⟩:∃ X,X=W4.heap.size:=⟨_,rfl⟩
 rw [←hK] at HSt5 ⊢
 rw [←hX] at hx5 ⊢
 have HX5:=Zh hx5
 have hwf:Wf m ⟨[],[]⟩ (m.me.getD kk default).k:=Zfo HMt.out.n
 have hpv:ZeG m kk=Zfv [] (ZeE m ls (m.me.getD kk default).r 0 (m.me.getD kk default).k ⟨[],[]⟩):=by
  rw [←ZfC,HLs.out];rfl
 have HRd:=Zh (show Rd6 w W5 K h m kk lo lc ls 0 none 0 0 from ⟨⟨_,[],[],_,_,_,_,_,HSt5.out,by rw [List.drop_zero];exact hwf,rfl,ZjJ.nil _ _,by rw [List.drop_zero];exact hpv⟩⟩)
 clear hx5 hb45 hK hX hwf hpv HSt HSt5 HW4 HB4 HB3 HO3 HB2
 go_wp2
 go_loopw [11,12] (fun a i wr=>∃ (k:Nat) (so:Option Addr) (sc nr:Nat),k≤nc∧i=.int .i64 k∧a=.slice so nr sc∧nr=k∧Hid (Rd6 w wr K h m kk lo lc ls k so sc nr)∧Hid (Blk wr X #[.string nm,.int .i64 mc,.slice (h.e kk).po pn (h.e kk).pc,.slice (h.e kk).lo ln (h.e kk).lc,.int .i64 rk,.int .i64 rq,.slice (h.e kk).ko nc (h.e kk).kc] 81)) (fun _ i _=>nc-(intOf i).toNat)
 case atStart=>exact ⟨0,none,0,0,by omega,rfl,rfl,rfl,HRd,HX5⟩
 case round=>
  obtain ⟨k,so,sc,nr,hkn,rfl,rfl,hnr,HR,HXr⟩:=hrel
  have HNr:=Zh hnr
  clear hnr
  obtain ⟨s,acc,rows,sso,ssc,oo,oc,bs,hst,hwf,hrl,hso,hpv⟩:=HR.out.ex
  subst hrl
  have HSt:=Zh hst
  have HWf:=Zh hwf
  have HSo:=Zh hso
  have HPv:=Zh hpv
  have k5:wr.cell? ⟨K,5,none⟩=some (.slice sso s.stk.length ssc):=Blk.cell hst.pk 5 rfl
  have x6:wr.cell? ⟨X,6,none⟩=some (.slice (h.e kk).ko nc (h.e kk).kc):=HXr.out.cell 6 rfl
  have HBr:=Zh hst.hb
  have hs12:=hwf.stk.1
  have HCo:=Zh (show ∀ w',Below wr.heap.size wr w'→Calls Tryz.prog 200 #[.slice sso s.stk.length ssc] w' (Zfg 76 w' s.stk) from fun w' hb'=>ZjT w' sso ssc s.stk (HSt.out.ts.1.old hb') (by omega))
  clear hst hwf hso hpv HRd HR
  by_cases hkl:k<nc
  ·have hkl2:(k:Int) < nc:=by omega
   have hkd:k<(m.me.getD kk default).k.length:=by have:=HNc.out;omega
   obtain ⟨hopd,hop0,hop36⟩:=ZkT HMt.out hkd
   have HIn:=Zh (show ∀ w',Below w.heap.size w w'→_ from fun w' hb'=>ZaA ((HHM.out.old hb').k kk hk) hkd)
   obtain ⟨i,hi⟩:∃ i,i=(m.me.getD kk default).k.getD k default:=⟨_,rfl⟩
   have hdr:(m.me.getD kk default).k.drop k=i :: (m.me.getD kk default).k.drop (k+1):=by rw [hi];exact ZkU hkd
   rw [←hi] at hopd hop0 hop36 HIn
   have hwr:IntKind.i64.wrap ((k:Int)+1)=k+1:=IntWalk.i64_in _ (by omega)
   have hwf2:=HWf.out
   rw [hdr] at hwf2
   have hpv2:=HPv.out
   rw [hdr] at hpv2
   have HWf2:=Zh hwf2
   have HPv2:=Zh hpv2
   have HOpd:=Zh hopd
   have HO0:=Zh (And.intro hop0 hop36)
   obtain ⟨er,her⟩:∃ e,e=(ZeC m ls i s).1:=⟨_,rfl⟩
   have HEr:=Zh her
   clear hopd hdr hi hwf2 hpv2 her hop0 hop36
   as_aux_lemma=>
   go_upto_region 11 with (first
    | (go_at_call 200;refine (HCo.out _ (Below.refl _ _)).mono ?_;rintro r w2 ⟨⟨to',tc,rfl,hown2⟩,hb2⟩;have HO2:=Zh hown2;have HB2:=Zh hb2;have HB3':=Zh (show Below wr.heap.size wr (w2.alloc (.cells #[.slice to' s.stk.length tc] 23)) from bal hb2 _);have HSo3:=Zh (HSo.out.old HB3'.out);have HT3:=Zh (ZeP.alloc' (ZeP.own HO2.out) (.cells #[.slice to' s.stk.length tc] 23));have HX3':=Zh (ZdL (n:=1) (size:=1) (Blk.new w2 #[.slice to' s.stk.length tc] 23) rfl);have hzz:=HB3'.out.size;have hzw:=HBr.out.size;clear hown2 hb2)
    | (at_builtin;refine ZhC rfl ?_;refine Zej (.tmp 51) (.tmp 57) 82 rfl w.heap.size 23 1 24 ZjK _ rows.length _ rfl HSo3.out.own _ 1 1 [.slice to' s.stk.length tc] rfl HX3'.out (by intro u hu;rw [List.mem_singleton.1 hu];rfl) (by have:=HNr.out;omega) (by have:=HNr.out;unfold maxLen;omega) (by omega) ?_;intro ao2 cap2 w4 hown4 hg4;have HS4:=Zh (HSo3.out.snoc HT3.out hown4 hg4);have HSt4:=Zh (S6.grow_st (HSt.out.old HB3'.out) HSo3.out hg4);have HXr4:=Zh (Blk.grown_st HSo3.out (HXr.out.old HB3'.out) (by decide) hg4);have x64:=HXr4.out.cell 6 (v:=.slice (h.e kk).ko nc (h.e kk).kc) rfl;clear hown4 hg4))
   obtain ⟨ka,hka,i0,i1,i2⟩:=HIn.out w4 HSt4.out.hb
   have hstep:=Zmb HSt4.out (HHM.out.old HSt4.out.hb) HHm.out HLt.out hk HOpd.out HO0.out HWf2.out
   rw [hka] at x64
   clear hka k5 x6
   obtain ⟨op,ia,ib⟩:=i
   dsimp only at i0 i1 i2 hstep
   have HStep:=Zh hstep
   clear hstep
   go_upto_region 12 with (go_at_call 201;refine HStep.out.mono ?_;rintro r w5 ⟨rfl,hu5,hse⟩;rw [←HEr.out];have HU5:=Zh hu5;have HSe:=Zh hse;clear hu5 hse)
   by_cases h0:er=0
   ·subst h0
    obtain ⟨sso2,ssc2,oo2,oc2,bs2,hst5⟩:=HSe.out HEr.out.symm
    have hrd:Rd6 w w5 K h m kk lo lc ls (k+1) ao2 cap2 (rows.length+1):=⟨⟨_,acc++[s.stk],_,sso2,ssc2,oo2,oc2,bs2,hst5,Zgo HHm.out HLt.out hk HO0.out HOpd.out HWf2.out HEr.out.symm,by simp,ZjJ.step6 HSt4.out HS4.out HU5.out,by rw [HPv2.out,Zfx HEr.out.symm,Zfz]⟩⟩
    have HRd5:=Zh hrd
    have HX5:=Zh (Blk.step6 HSt4.out HXr4.out (by decide) (by decide) HU5.out)
    clear hst5 hrd
    go_wp2
    go_roundw
    case rel=>exact ⟨k+1,ao2,cap2,rows.length+1,by omega,by go_num,rfl,by rw [HNr.out],HRd5,HX5⟩
    case measure=>simp [intOf];omega
   ·have hn0:(er != 0)=true:=by simpa using h0
    have HPe:=Zh (show ZeG m kk=([],k,er) by rw [HPv2.out,Zfy (by rw [←HEr.out];exact h0),←HEr.out];exact ZkV h0)
    have HBe:=Zh (S6.upper HSt4.out HU5.out)
    go_wp2
    go_ret3
    rw [HPe.out]
    exact ZjL.no w HBe.out k er
  ·have hke:nc=k:=by omega
   subst hke
   have hknn:¬ (nc:Int) < nc:=by omega
   have hdn:(m.me.getD kk default).k.drop nc=[]:=by rw [List.drop_eq_nil_iff];have:=HNc.out;omega
   have hpv2:=HPv.out
   rw [hdn,←HR4.out,ZkS] at hpv2
   have hrt:=HMt.out.r
   rw [←HR4.out] at hrt
   have HRt:=Zh hrt
   obtain ⟨ev,hev⟩:∃ e,e=ZeD m ⟨rk,rq⟩ s.stk:=⟨_,rfl⟩
   rw [←hev] at hpv2
   have HPv2:=Zh hpv2
   have HEv:=Zh hev
   clear hdn hpv2 hrt hev hkl
   as_aux_lemma=>
   go_upto_region 15 with (first
    | (go_at_call 200;refine (HCo.out _ (Below.refl _ _)).mono ?_;rintro r w2 ⟨⟨to',tc,rfl,hown2⟩,hb2⟩;have HO2:=Zh hown2;have HB2:=Zh hb2;have HB3':=Zh (show Below wr.heap.size wr (w2.alloc (.cells #[.slice to' s.stk.length tc] 23)) from bal hb2 _);have HSo3:=Zh (HSo.out.old HB3'.out);have HT3:=Zh (ZeP.alloc' (ZeP.own HO2.out) (.cells #[.slice to' s.stk.length tc] 23));have HX3':=Zh (ZdL (n:=1) (size:=1) (Blk.new w2 #[.slice to' s.stk.length tc] 23) rfl);have hzz:=HB3'.out.size;have hzw:=HBr.out.size;clear hown2 hb2)
    | (at_builtin;refine ZhC rfl ?_;refine Zej (.tmp 70) (.tmp 76) 82 rfl w.heap.size 23 1 24 ZjK _ rows.length _ rfl HSo3.out.own _ 1 1 [.slice to' s.stk.length tc] rfl HX3'.out (by intro u hu;rw [List.mem_singleton.1 hu];rfl) (by have:=HNr.out;omega) (by have:=HNr.out;unfold maxLen;omega) (by omega) ?_;intro ao2 cap2 w4 hown4 hg4;have HS4:=Zh (HSo3.out.snoc HT3.out hown4 hg4);have HSt4:=Zh (S6.grow_st (HSt.out.old HB3'.out) HSo3.out hg4);have HXr4:=Zh (Blk.grown_st HSo3.out (HXr.out.old HB3'.out) (by decide) hg4);have x44:=HXr4.out.cell 4 (v:=.int .i64 rk) rfl;have x45:=HXr4.out.cell 5 (v:=.int .i64 rq) rfl;clear hown4 hg4))
   have HEn:=Zh (Zk5 (r:=⟨rk,rq⟩) HSt4.out.pk (HHM.out.old HSt4.out.hb) HSt4.out.ts.1 HHm.out HWf.out.stk.2 (fun q=>ZfG HRt.out q))
   rw [←HEv.out] at HEn
   go_upto_region 16 with (go_at_call 202;refine HEn.out.mono ?_;rintro r w5 ⟨rfl,hb5⟩;have HB5:=Zh hb5;clear hb5;have x56:=(HXr4.out.old HB5.out).cell 6 (v:=.slice (h.e kk).ko nc (h.e kk).kc) rfl)
   by_cases h0:ev=0
   ·have HPe:=Zh (show ZeG m kk=(acc++[s.stk],0,0) by rw [HPv2.out,if_pos h0];rfl)
    subst h0
    go_wp2
    go_ret3
    rw [HPe.out]
    exact ⟨⟨ao2,cap2,rows++[⟨to',s.stk.length,tc⟩],by simp,HS4.out.old HB5.out⟩,Zaf HSt4.out.hb HB5.out⟩
   ·have hn0:(ev != 0)=true:=by simpa using h0
    have HPe:=Zh (show ZeG m kk=([],nc,ev) by rw [HPv2.out,if_neg h0];exact ZkV h0)
    go_wp2_with fail
    refine rO (fun w':World=>w'.cell? ⟨X,6,none⟩=some (.slice (h.e kk).ko nc (h.e kk).kc)) (oL [0,1,2,3,4,5,6]) x56 ?_
    repeat refine pO ?_
    refine Zd5 ?_
    go_wp2
    go_ret3
    rw [HPe.out]
    exact ZjL.no w (Below.drew (Zaf HSt4.out.hb HB5.out)) nc ev
theorem Zme (h:Hd) (m:Md) (at':Int) (w:World) (HM:Zay w h m):Calls Tryz.prog 136 #[.agg #[.slice h.co m.cl.length h.cc,.slice h.so m.st.length h.sc,.slice h.eo m.me.length h.ec,.int .i64 m.sel],.int .i64 at'] w (ZjL w (ZeH m at')):=by
 unfold ZeH
 by_cases hq:Za1 m=true∧0≤at'∧at' < m.me.length
 ·rw [if_pos hq]
  obtain ⟨q1,q2,q3⟩:=hq
  obtain ⟨k,rfl⟩:∃ k:Nat,at'=k:=⟨at'.toNat,by omega⟩
  rw [Int.toNat_natCast]
  exact Zmd h m k w HM q1 (by omega)
 ·rw [if_neg hq]
  refine Zmc h m at' w HM ?_
  cases hm:Za1 m
  ·exact .inl rfl
  ·by_cases h0:at' < 0
   ·exact .inr (.inl h0)
   ·exact .inr (.inr (by
     by_cases h1:(m.me.length:Int)≤at'
     ·exact h1
     ·exact absurd ⟨hm,by omega,by omega⟩ hq))
end
end Go.Proofs.YtcfjblcgceednaaGreat
