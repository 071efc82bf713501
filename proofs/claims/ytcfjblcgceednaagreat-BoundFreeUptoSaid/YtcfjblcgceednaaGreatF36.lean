/- A method that takes no block, neither itself nor in what it calls: bound.Alloc is zero. -/
import Derived.Test.YtcfjblcgceednaaGreatG30
import Derived.Test.YtcfjblcgceednaaGreatF31
import Derived.Test.YtcfjblcgceednaaGreatF34
set_option linter.all false
set_option linter.unusedVariables false
set_option linter.unusedSimpArgs false
set_option maxRecDepth 100000
set_option maxHeartbeats 8000000
namespace Go.Proofs.YtcfjblcgceednaaGreat
section
open Go.RowKit
theorem ZqU:ZmE 0 0=0:=by decide
theorem ZqV {T:Int→Int}{l:List Int} (h:∀ t∈l,T t=0):ZmI T l=0:=by
 unfold ZmI
 suffices ∀ l:List Int,(∀ t∈l,T t=0)→l.foldl (fun a t=>max a (T t)) 0=0 from this l h
 intro l
 induction l with
 | nil=>intro _;rfl
 |cons t r ih=>
  intro hl
  rw [List.foldl_cons,hl t (by simp)]
  exact ih fun t ht=>hl t (by simp [ht])
theorem ZqW {g:Wg}{l:List In3} (hp:g.plus=ZmE) (h1:∀ i∈l,g.pl i=0) (h2:∀ i∈l,g.brk i 0 0=0) {a b:Nat} (hs:Seg l a b):WA g l a b 0=0:=by
 induction hs with
 | nil a _=>rw [Zmv]
 | pl a b q1 q2 q3 q4 q5 ih=>rw [Zmw q2 q5,h1 _ (ZfU _ q1),hp,ZqU];exact ih
 | one a en b q1 q2 q3 i1 i2=>rw [Zmx q1 q2 q3,i1,h2 _ (ZfU _ q1.1),hp,ZqU];exact i2
 | two a n en b q1 q2 q3 q4 i1 i2 i3=>rw [Zmy q1 q2 q3 q4,i1,i2,h2 _ (ZfU _ q1.1),hp,ZqU];exact i3
theorem Rch.cons {m:Md}{k a j:Nat} (h0:(a:Int)∈ZpQ m k) (h:Rch m a j):Rch m k j:=by
 induction h with
 | refl=>exact .step k a .refl h0
 | step i j h1 h2 ih=>exact .step i j ih h2
theorem ZqX {m:Md}{k:Nat}{i:In3} (hi:i∈cdM m k) {t:Int} (h:t∈ZpO m i):t∈ZpQ m k:=by
 unfold ZpQ ZpP
 rw [Zdw,List.take_length]
 exact List.mem_flatMap.2 ⟨i,hi,h⟩
theorem ZqY {m:Md} (hv:Za1 m=true) (c:Nat):∀ n k,k<n→k<m.me.length→(∀ j,Rch m k j→∀ i∈cdM m j,¬ i.op=14∧¬ (i.op=15∨i.op=16))→AlV m k c=0
 | 0,k,hn,_,_=>by omega
 |n+1,k,hn,hk,h=>by
  have hw:∀ i∈cdM m k,ZqD (szV m i) c=0:=fun i hi=>ZqI (h k .refl i hi).1 (h k .refl i hi).2 c
  have hT:∀ i∈cdM m k,∀ t∈ZpO m i,ZmN (gW (ZqE m c) m) m t.toNat=0:=fun i hi t ht=>by
   have hm:=ZqX hi ht
   have hlt:=ZpX hv hk hm
   obtain ⟨d,rfl⟩:∃ d:Nat,t=d:=⟨t.toNat,by omega⟩
   rw [Int.toNat_natCast]
   exact ZqY hv c n d (by omega) (by omega) fun j hj i hi=>h j (hj.cons hm) i hi
  unfold AlV
  rw [ZoT hv (ZqE m c) hk]
  refine ZqW rfl (fun i hi=>?_) (fun i hi=>?_) (Zmq (ZfN hv hk).n)
  ·have h1:=hw i hi
   have h2:=hT i hi
   unfold ZpO at h2
   show (if i.op=25 then ZmE (ZqD (szV m i) c) _ else if i.op=26 then ZmE (ZqD (szV m i) c) _ else ZqD (szV m i) c)=0
   rw [h1]
   by_cases q25:i.op=25
   ·rw [if_pos q25]
    show ZmE 0 (ZmN (gW (ZqE m c) m) m i.a.toNat)=0
    rw [h2 i.a (by rw [if_pos q25];simp),ZqU]
   ·rw [if_neg q25]
    rw [if_neg q25] at h2
    by_cases q26:i.op=26
    ·rw [if_pos q26,ZqV (fun t ht=>h2 t (by rw [if_pos q26];exact ht)),ZqU]
    ·rw [if_neg q26]
  ·have h1:=hw i hi
   show (if i.op=29 then ZmE (ZqD (szV m i) c) (max (ZmE 0 0) (ZmE 0 0)) else if i.op=30 then ZmE (ZqD (szV m i) c) (ZmF i.a (ZmE 0 0)) else if i.op=32∧true=true then ZqD (szV m i) c else if i.op=33 then ZmE (ZqD (szV m i) c) (ZmE (ZmE 0 0) 0) else ZmE (ZqD (szV m i) c) (ZmE 0 0))=0
   rw [h1]
   have hm0:ZmF i.a 0=0:=by unfold ZmF ZmD;rw [Int.mul_zero];decide
   simp only [ZqU,hm0,Int.max_self,ite_self]
def AlP (w:World):Ending→World→Prop:=fun e w'=>e=.returned (.tuple #[ag3 (0,0,0),.int .i64 0])∧Below w.heap.size w w'
theorem ZqZ (m:Md) (h:Hd) (k:Nat) (w:World) (H:Zay w h m) (hr:ZoY m k=true) (hz:∀ c,AlV m k c=0):Calls Tryz.prog 56 #[.agg #[.slice h.co m.cl.length h.cc,.slice h.so m.st.length h.sc,.slice h.eo m.me.length h.ec,.int .i64 m.sel],.int .i64 k] w (AlP w):=by
 obtain ⟨hv,-,hk1⟩:=ZoZ hr
 have hk:k<m.me.length:=by omega
 obtain ⟨w0,hw0⟩:∃ w0,w0=(w.alloc (.cells #[.slice h.co m.cl.length h.cc,.slice h.so m.st.length h.sc,.slice h.eo m.me.length h.ec,.int .i64 m.sel] 26)).alloc (.cells #[.int .i64 0,.int .i64 0,.int .i64 0] 66):=⟨_,rfl⟩
 have HB:=Zh (show Below w.heap.size w w0 by rw [hw0];exact bE)
 have HX:=Zh (show Blk w0 w.heap.size #[.slice h.co m.cl.length h.cc,.slice h.so m.st.length h.sc,.slice h.eo m.me.length h.ec,.int .i64 m.sel] 26 by rw [hw0];exact (Blk.new _ _ _).alloc _)
 have HR:=Zh (show Blk w0 (w.heap.size+1) #[.int .i64 0,.int .i64 0,.int .i64 0] 66 by rw [hw0];exact Blk.new' (w:=w.alloc (.cells #[.slice h.co m.cl.length h.cc,.slice h.so m.st.length h.sc,.slice h.eo m.me.length h.ec,.int .i64 m.sel] 26)) _ _ (by simp))
 have HM:=Zh (H.old HB.out)
 have HW:=Zh hw0
 have HA:=Zh (Zo0 m h k w0 HM.out)
 rw [hr] at HA
 have HAl:=Zh (show ∀ w',Below w0.heap.size w0 w'→_ from fun w' hb=>ZqL m h k w' (HM.out.old hb) hv hk)
 rw [hz,hz,hz] at HAl
 clear hw0 H hv hr hz
 go_enter Tryz.func56,Tryz.ntmps56
 go_upto_region 1 with fail
 rw [←HW.out]
 have x0:=HX.out.cell 0 (v:=.slice h.co m.cl.length h.cc) rfl;have x1:=HX.out.cell 1 (v:=.slice h.so m.st.length h.sc) rfl;have x2:=HX.out.cell 2 (v:=.slice h.eo m.me.length h.ec) rfl;have x3:=HX.out.cell 3 (v:=.int .i64 m.sel) rfl
 go_upto_region 5 with (first
  | (go_at_call 100;refine HA.out.mono ?_;rintro e w1 ⟨rfl,hb1⟩;have HB1:=Zh hb1;have x0:=(hb1.cell (Zac x0)).trans x0;have x1:=(hb1.cell (Zac x1)).trans x1;have x2:=(hb1.cell (Zac x2)).trans x2;have x3:=(hb1.cell (Zac x3)).trans x3;clear hb1)
  | (go_at_call 112;refine (HAl.out _ HB1.out).mono ?_;rintro e w2 ⟨rfl,hb2⟩;have HB2:=Zh (Zaf HB1.out hb2);clear hb2 x0 x1 x2 x3;unfold ag3))
 obtain ⟨Z,hZ⟩:∃ Z,Z=w2.heap.size:=⟨_,rfl⟩
 obtain ⟨w3,hw3⟩:∃ w3,w3=w2.alloc (.cells #[.int .i64 0,.int .i64 0,.int .i64 0] 66):=⟨_,rfl⟩
 have hb3:Below w2.heap.size w2 w3:=by rw [hw3];exact bE
 have hz3:Blk w3 Z #[.int .i64 0,.int .i64 0,.int .i64 0] 66:=by rw [hw3,hZ];exact Blk.new _ _ _
 have hrow:Zar w3 (some ⟨Z,0,none⟩) 3 [(0:Int),0,0]:=by
  unfold Zar
  rw [Zat]
  have:=ZdL hz3 (n:=3) (size:=1) rfl
  exact this
 have HSc:=Zh (Zpz [(0:Int),0,0] (some ⟨Z,0,none⟩) 3 1000000001 w3 hrow (by decide))
 have HB3:=Zh (Zaf HB2.out hb3)
 have HZ3:=Zh hz3
 rw [←hZ,←hw3]
 clear hw3 hb3 hz3 hrow hZ
 have hR3:=HR.out.old HB3.out
 go_wp2_with (go_at_call 113;refine HSc.out.mono ?_;rintro e w4 ⟨rfl,hb4⟩;have HB4:=Zh (Zaf HB3.out hb4);have hR4:=HR.out.old HB4.out;have hZ4:=HZ3.out.old hb4;have r0:=hR4.cell 0 (v:=.int .i64 0) rfl;have r1:=hR4.cell 1 (v:=.int .i64 0) rfl;have r2:=hR4.cell 2 (v:=.int .i64 0) rfl;have f0:=hR4.frozen 0;have f1:=hR4.frozen 1;have f2:=hR4.frozen 2;have hl:=hR4.lt;have z0:=hZ4.cell 0 (v:=.int .i64 0) rfl;have z1:=hZ4.cell 1 (v:=.int .i64 0) rfl;have z2:=hZ4.cell 2 (v:=.int .i64 0) rfl;have HR4:=Zh hR4;clear hb4 hR4 hZ4)
 all_goals
  have hE:=Zqr (w:=w) (a:=0) (b:=0) (c:=0) HR4.out (Zaf HB.out HB4.out) (by omega)
  have y0:=hE.1.cell 0 (v:=.int .i64 0) rfl
  have y1:=hE.1.cell 1 (v:=.int .i64 0) rfl
  have y2:=hE.1.cell 2 (v:=.int .i64 0) rfl
  exact bodyPost_ret (v:=.tuple #[ag3 (0,0,0),.int .i64 0]) (by simp [results,Tryz.results56,go_sem,y0,y1,y2,ag3]) rfl ⟨rfl,hE.2⟩
end
end Go.Proofs.YtcfjblcgceednaaGreat
