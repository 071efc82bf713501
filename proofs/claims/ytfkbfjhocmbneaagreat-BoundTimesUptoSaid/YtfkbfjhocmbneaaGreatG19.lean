/- Joined texts. The first: isochronlaw07.heavy: whatever it says, it says it. -/
import Derived.Test.YtfkbfjhocmbneaaGreatG18
set_option linter.all false
set_option linter.unusedVariables false
set_option linter.unusedSimpArgs false
set_option maxRecDepth 100000
set_option maxHeartbeats 16000000
namespace Go.Proofs.YtfkbfjhocmbneaaGreat
theorem j5{p:Prop}(h:p:=by
 go_wp2_with (first
  | (go_at_call 17;refine HWo.out.mono ?_;rintro e w8 ⟨rfl,hb8⟩;have HB8:=Lib.hid (bthen HBq.out hb8);clear hb8)
  | (go_at_call 12;refine (sane7_any _).mono ?_;rintro e w7 ⟨rfl,hb7⟩))
 go_ret
 exact ret_ok rfl (bthen HB.out (bthen HB8.out hb7))):p:=h
section
open Go.RowKit
def SomeB (w:World):Ending→World→Prop:=fun e w'=>(∃ b,e=.returned (.bool b))∧Below w.heap.size w w'
theorem heavy_any (m:Md) (h:Hd) (w:World) (H:ModAt w h m):Calls Tryz.prog 11 #[.agg #[.slice h.co m.cl.length h.cc,.slice h.so m.st.length h.sc,.slice h.eo m.me.length h.ec,.int .i64 m.sel]] w (SomeB w):=by
  obtain ⟨w0,hw0⟩:∃ w0,w0=w.alloc (.cells #[.slice h.co m.cl.length h.cc,.slice h.so m.st.length h.sc,.slice h.eo m.me.length h.ec,.int .i64 m.sel] 26):=⟨_,rfl⟩
  have HB:=Lib.hid (show Below w.heap.size w w0 by rw [hw0];exact bE)
  have HX:=Lib.hid (show Blk w0 w.heap.size #[.slice h.co m.cl.length h.cc,.slice h.so m.st.length h.sc,.slice h.eo m.me.length h.ec,.int .i64 m.sel] 26 by rw [hw0];exact Blk.new _ _ _)
  have HM:=Lib.hid (H.old HB.out)
  have HW:=Lib.hid hw0
  have hbz:=H.bz
  obtain ⟨z1,z2,z3⟩:=hbz
  clear hw0 H
  go_enter Tryz.func11,Tryz.ntmps11
  go_upto_region 1 with fail
  rw [←HW.out]
  have x0:=HX.out.cell 0 (v:=.slice h.co m.cl.length h.cc) rfl
  have x1:=HX.out.cell 1 (v:=.slice h.so m.st.length h.sc) rfl
  have x2:=HX.out.cell 2 (v:=.slice h.eo m.me.length h.ec) rfl
  go_upto_region 2 with fail
  clear x0 x1 x2
  go_wp2
  go_loopw [3,4] (fun s i wr=>∃ (k:Nat) (n:Int),k≤m.cl.length∧i=.int .i64 k∧s=.int .i64 n∧Hid (Below w0.heap.size w0 wr)) (fun _ i _=>m.cl.length-(intOf i).toNat)
  case atStart=>exact ⟨0,_,Nat.zero_le _,rfl,rfl,by exact bE⟩
  case round=>
    obtain ⟨k,n,hk,rfl,rfl,HBr⟩:=hrel
    rename World=>wo
    have x0:=(HX.out.old HBr.out).cell 0 (v:=.slice h.co m.cl.length h.cc) rfl
    by_cases hc:k<m.cl.length∧n≤400
    · obtain ⟨hkl,hn⟩:=hc
      have hkl2:(k:Int) < m.cl.length:=by omega
      have hwk:IntKind.i64.wrap ((k:Int)+1)=((k+1:Nat):Int):=IntWalk.i64_in _ (by omega)
      obtain ⟨ad,had,-,-,e2,e3⟩:=(HM.out.old HBr.out).cls hkl
      rw [had] at x0
      clear had
      go_upto_region 5 with fail
      refine rO (Cs [(⟨w.heap.size,0,none⟩,.slice (some ad) m.cl.length h.cc),(⟨(ad.add (k*4)).block,(ad.add (k*4)).off+2,none⟩,.slice (h.c k).fo (m.cl.getD k default).f.length (h.c k).fc),(⟨(ad.add (k*4)).block,(ad.add (k*4)).off+3,none⟩,.slice (h.c k).mo (m.cl.getD k default).m.length (h.c k).mc)]) (oL [0,1,2,3,4,5,6,7,8,9,10,11,12,13,14,15,16,17]) ⟨x0,e2,e3,trivial⟩ ?_
      clear x0 e2 e3
      repeat refine pO ?_
      refine wpMixO_done ?_
      go_wp2
      exact ⟨⟨k+1,_,hkl,rfl,rfl,HBr.out.drew⟩,by simp [intOf];omega⟩
    · by_cases hkl:k<m.cl.length
      all_goals first
        | (have hkl2:(k:Int) < m.cl.length:=by omega
           have hn:¬ n≤400:=fun q=>hc ⟨hkl,q⟩
           have hn2:400<n:=by omega
           clear hc
           go_wp2)
        | (have hkl2:¬ (k:Int) < m.cl.length:=by omega
           clear hc
           go_wp2)
      all_goals
        clear x0
        go_loopw [3,5] (fun s i wr=>∃ (k:Nat) (n:Int),k≤m.me.length∧i=.int .i64 k∧s=.int .i64 n∧Hid (Below w0.heap.size w0 wr)) (fun _ i _=>m.me.length-(intOf i).toNat)
        case atStart=>exact ⟨0,_,Nat.zero_le _,rfl,rfl,HBr.out⟩
        case round=>
          obtain ⟨q,p,hq,rfl,rfl,HBs⟩:=hrel
          rename World=>wi
          have x2:=(HX.out.old HBs.out).cell 2 (v:=.slice h.eo m.me.length h.ec) rfl
          by_cases hc:q<m.me.length∧p≤3000
          · obtain ⟨hql,hp⟩:=hc
            have hql2:(q:Int) < m.me.length:=by omega
            have hwq:IntKind.i64.wrap ((q:Int)+1)=((q+1:Nat):Int):=IntWalk.i64_in _ (by omega)
            obtain ⟨ad,had,-,-,e2,e3,-,-,e6⟩:=(HM.out.old HBs.out).mth hql
            rw [had] at x2
            clear had
            go_upto_region 9 with fail
            refine rO (Cs [(⟨w.heap.size,2,none⟩,.slice (some ad) m.me.length h.ec),(⟨(ad.add (q*7)).block,(ad.add (q*7)).off+2,none⟩,.slice (h.e q).po (m.me.getD q default).p.length (h.e q).pc),(⟨(ad.add (q*7)).block,(ad.add (q*7)).off+3,none⟩,.slice (h.e q).lo (m.me.getD q default).l.length (h.e q).lc),(⟨(ad.add (q*7)).block,(ad.add (q*7)).off+6,none⟩,.slice (h.e q).ko (m.me.getD q default).k.length (h.e q).kc)]) (oL [0,1,2,3,4,5,6,7,8,9,10,11,12,13,14,15,16,17,18,19,20,21,22,23,24,25]) ⟨x2,e2,e3,e6,trivial⟩ ?_
            clear x2 e2 e3 e6
            repeat refine pO ?_
            refine wpMixO_done ?_
            go_wp2
            exact ⟨⟨q+1,_,hql,rfl,rfl,HBs.out.drew⟩,by simp [intOf];omega⟩
          · by_cases hql:q<m.me.length
            all_goals first
              | (have hql2:(q:Int) < m.me.length:=by omega
                 have hp:¬ p≤3000:=fun q=>hc ⟨hql,q⟩
                 clear hc
                 go_wp2)
              | (have hql2:¬ (q:Int) < m.me.length:=by omega
                 clear hc
                 go_wp2)
            all_goals
              go_ret
              exact ⟨⟨_,rfl⟩,bthen HB.out HBs.out⟩
end
section
open Go.RowKit
def oneM (c:List In3):Md:=⟨[],[],[⟨⟨#[97,46,102]⟩,-1,[],[⟨1,0⟩],⟨0,0⟩,c⟩],0⟩
def oneH (b:Nat) (ao:Option Addr) (cap:Nat):Hd:=⟨none,0,none,0,some ⟨b+1,0,none⟩,1,fun _=>default,fun _=>⟨none,0,some ⟨b,0,none⟩,1,ao,cap⟩⟩
def saneC:List In3:=[⟨1,3,0⟩,⟨30,5,0⟩,⟨0,0,0⟩,⟨35,0,0⟩]
theorem sane_w:worstE (oneM saneC) 0=(13,0):=by kernel_rfl
theorem sane_l:leastE (oneM saneC) 0=(3,0):=by kernel_rfl
theorem sane_t:timesE (oneM saneC) 0=([1,1,5,5],0):=by kernel_rfl
def OneR (W:World) (c:List In3):Ending→World→Prop:=fun e w'=>(∃ h:Hd,e=.returned (.agg #[.slice h.co 0 h.cc,.slice h.so 0 h.sc,.slice h.eo 1 h.ec,.int .i64 0])∧ModAt w' h (oneM c))∧Below W.heap.size W w'
theorem one_any (c:List In3) (ao:Option Addr) (cap:Nat) (w:World) (hc:RowAt w ao cap c) (hl:c.length≤1000):Calls Tryz.prog 41 #[.slice ao c.length cap] w (OneR w c):=by
 have HC:=Lib.hid hc
 clear hc
 go_enter Tryz.func41,Tryz.ntmps41
 go_wp2
 obtain ⟨W4,hW4⟩:∃ W4,W4=(((w.alloc (Obj.cells #[Value.slice none 0 0,Value.slice none 0 0,Value.slice (some { block:=w.heap.size+1+1,off:=0 }) 1 1,Value.int IntKind.i64 0] 26)).alloc (Obj.cells #[Value.int IntKind.i64 1,Value.int IntKind.i64 0] 35)).alloc (Obj.cells #[Value.string { data:=#[97,46,102] },Value.int IntKind.i64 (-1),Value.slice none 0 0,Value.slice (some { block:=w.heap.size+1,off:=0 }) 1 1,Value.int IntKind.i64 0,Value.int IntKind.i64 0,Value.slice ao c.length cap] 38)):=⟨_,rfl⟩
 rw [←hW4]
 have hb:Below w.heap.size w W4:=by rw [hW4];exact bE
 have hx:Blk W4 w.heap.size #[Value.slice none 0 0,Value.slice none 0 0,Value.slice (some { block:=w.heap.size+1+1,off:=0 }) 1 1,Value.int IntKind.i64 0] 26:=by rw [hW4];exact ((Blk.new w _ _).alloc _).alloc _
 have r1:=row_built (w.alloc (Obj.cells #[Value.slice none 0 0,Value.slice none 0 0,Value.slice (some { block:=w.heap.size+1+1,off:=0 }) 1 1,Value.int IntKind.i64 0] 26)) ([⟨1,0⟩]:List Ty) _ 35 rfl
 have r2:=row_built ((w.alloc (Obj.cells #[Value.slice none 0 0,Value.slice none 0 0,Value.slice (some { block:=w.heap.size+1+1,off:=0 }) 1 1,Value.int IntKind.i64 0] 26)).alloc (Obj.cells #[Value.int IntKind.i64 1,Value.int IntKind.i64 0] 35)) (rowsM (oneH (w.heap.size+1) ao cap) (oneM c)) _ 38 rfl
 rw [bls] at r1
 rw [bls,bls] at r2
 have hM:ModAt W4 (oneH (w.heap.size+1) ao cap) (oneM c):=by
  rw [hW4]
  have h1:∀ {i:Nat},i<1→i=0:=fun h=>by omega
  refine ⟨RowAt.nil _,RowAt.nil _,r2,fun i hi=>absurd hi (Nat.not_lt_zero i),fun i hi=>absurd hi (Nat.not_lt_zero i),fun i hi=>?_,fun i hi=>?_,fun i hi=>?_,fun i hi=>absurd hi (Nat.not_lt_zero i),fun i hi=>?_,⟨by show (0:Nat)≤_;omega,by show (0:Nat)≤_;omega,by show (1:Nat)≤_;omega⟩⟩
  ·obtain rfl:=h1 hi;exact RowAt.nil _
  ·obtain rfl:=h1 hi;exact r1.alloc _
  ·obtain rfl:=h1 hi;exact HC.out.old bE
  ·obtain rfl:=h1 hi;exact ⟨by show (0:Nat)≤_;omega,by show (1:Nat)≤_;omega,by show c.length≤_;omega⟩
 have x0:=hx.cell 0 (v:=.slice none 0 0) rfl
 have x1:=hx.cell 1 (v:=.slice none 0 0) rfl
 have x2:=hx.cell 2 (v:=.slice (some { block:=w.heap.size+1+1,off:=0 }) 1 1) rfl
 have x3:=hx.cell 3 (v:=.int .i64 0) rfl
 clear r1 r2 hW4
 refine bodyPost_ret (v:=.agg #[.slice none 0 0,.slice none 0 0,.slice (some { block:=w.heap.size+1+1,off:=0 }) 1 1,.int .i64 0]) (by simp [results,Tryz.results41,go_sem,x0,x1,x2,x3]) rfl ?_
 exact ⟨⟨_,rfl,hM⟩,hb⟩
end
section
open Go.RowKit
theorem rInts_any (w:World) (ao bo:Option Addr) (ac bc:Nat) (a b:List Int) (ha:RowAt w ao ac a) (hb:RowAt w bo bc b) (hl:a.length≤4096):Calls Tryz.prog 15 #[.slice ao a.length ac,.slice bo b.length bc] w (Ret w (.bool (decide (a=b)))):=by
 have HA:=Lib.hid ha
 have HB:=Lib.hid hb
 clear ha hb
 by_cases hn:a.length=b.length
 ·have hn2:(a.length:Int)=b.length:=by omega
  rw [←hn]
  have HN:=Lib.hid hn
  clear hn hn2
  go_enter Tryz.func15,Tryz.ntmps15
  go_wp2
  go_loopw [5] (fun i wr=>∃ k:Nat,k≤a.length∧i=.int .i64 k∧Hid (Below w.heap.size w wr)∧Hid (∀ j,j<k→a.getD j 0=b.getD j 0)) (fun i _=>a.length-(intOf i).toNat)
  case atStart=>exact ⟨0,Nat.zero_le _,rfl,by exact bE,fun j h=>by omega⟩
  case round=>
   obtain ⟨k,hk,rfl,HBr,HE⟩:=hrel
   rename World=>wo
   by_cases hkl:k<a.length
   ·obtain ⟨ad,rfl,c0⟩:=row_int (HA.out.old HBr.out) hkl
    obtain ⟨bd,rfl,c1⟩:=row_int (HB.out.old HBr.out) (show k<b.length by have:=HN.out;omega)
    have hkl2:(k:Int) < a.length:=by omega
    have hwk:IntKind.i64.wrap ((k:Int)+1)=((k+1:Nat):Int):=IntWalk.i64_in _ (by omega)
    obtain ⟨x,hx⟩:∃ x,x=a.getD k 0:=⟨_,rfl⟩
    obtain ⟨y,hy⟩:∃ x,x=b.getD k 0:=⟨_,rfl⟩
    rw [←hx] at c0
    rw [←hy] at c1
    have HX:=Lib.hid hx
    have HY:=Lib.hid hy
    clear hx hy
    go_upto_region 6 with fail
    refine rO (Cs [(ad.add k,.int .i64 x),(bd.add k,.int .i64 y)]) (oL [0,1,2,3,4,5,6,7,8]) ⟨c0,c1,trivial⟩ ?_
    clear c0 c1
    repeat refine pO ?_
    refine wpMixO_done ?_
    by_cases hxy:x=y
    ·subst hxy
     go_wp2
     exact ⟨⟨k+1,by omega,rfl,HBr.out.drew,fun j hj=>by
      by_cases h2:j=k
      ·subst h2;rw [←HX.out,←HY.out]
      ·exact HE.out j (by omega)⟩,by simp [intOf];omega⟩
    ·go_wp2
     go_ret
     rw [decide_eq_false (fun e:a=b=>hxy (by rw [HX.out,HY.out,e]))]
     exact ret_ok rfl HBr.out.drew
   ·obtain rfl:k=a.length:=by omega
    have hj5:¬ (a.length:Int) < a.length:=by omega
    go_wp2
    go_ret
    rw [decide_eq_true (show a=b from List.ext_getElem HN.out fun j h1 h2=>by have:=HE.out j h1;simpa [h1,h2] using this)]
    exact ret_ok rfl HBr.out
 ·have hn2:¬ (a.length:Int)=b.length:=by omega
  rw [decide_eq_false (fun e=>hn (by rw [e]))]
  go_enter Tryz.func15,Tryz.ntmps15
  go_wp2
  go_ret
  exact ret_ok rfl bE
theorem sane7_any (W:World):Calls Tryz.prog 12 #[] W (Ret W (.bool true)):=by
 obtain ⟨w0,hw0⟩:∃ w0,w0=W.alloc (Obj.cells #[.int .i64 1,.int .i64 3,.int .i64 0,.int .i64 30,.int .i64 5,.int .i64 0,.int .i64 0,.int .i64 0,.int .i64 0,.int .i64 35,.int .i64 0,.int .i64 0] 42):=⟨_,rfl⟩
 have hO:=one_any saneC (some ⟨W.heap.size,0,none⟩) 4 w0 (by rw [hw0];exact row_built W saneC _ _ rfl) (by decide)
 have HO:=Lib.hid hO
 have HB0:=Lib.hid (show Below W.heap.size W w0 by rw [hw0];exact bE)
 have HW:=Lib.hid hw0
 clear hO hw0
 go_enter Tryz.func12,Tryz.ntmps12
 go_upto_region 2 with (go_at_call 41;rw [←HW.out];refine HO.out.mono ?_;rintro e w1 ⟨⟨h,rfl,hM⟩,hb1⟩;have HM1:=Lib.hid hM;have HB1:=Lib.hid (bthen HB0.out hb1);clear hM hb1)
 obtain ⟨w2,hw2⟩:∃ w2,w2=w1.alloc (.cells #[.slice h.co 0 h.cc,.slice h.so 0 h.sc,.slice h.eo 1 h.ec,.int .i64 0] 26):=⟨_,rfl⟩
 have HB2:=Lib.hid (show Below w1.heap.size w1 w2 by rw [hw2];exact bE)
 have HX2:=Lib.hid (show Blk w2 w1.heap.size #[.slice h.co 0 h.cc,.slice h.so 0 h.sc,.slice h.eo 1 h.ec,.int .i64 0] 26 by rw [hw2];exact Blk.new _ _ _)
 have HM2:=Lib.hid (HM1.out.old HB2.out)
 rw [←hw2]
 clear hw2
 have HWo:=Lib.hid (show ∀ w',Below w2.heap.size w2 w'→Calls Tryz.prog 17 #[.agg #[.slice h.co 0 h.cc,.slice h.so 0 h.sc,.slice h.eo 1 h.ec,.int .i64 0],.int .i64 0] w' (Ret2 w' (.int .i64 13) (.int .i64 0)) from fun w' hb=>by
   have:=worst_any (oneM saneC) h 0 w' (HM2.out.old hb)
   rw [sane_w] at this
   exact this)
 have HLe:=Lib.hid (show ∀ w',Below w2.heap.size w2 w'→Calls Tryz.prog 24 #[.agg #[.slice h.co 0 h.cc,.slice h.so 0 h.sc,.slice h.eo 1 h.ec,.int .i64 0],.int .i64 0] w' (Ret2 w' (.int .i64 3) (.int .i64 0)) from fun w' hb=>by
   have:=least_any (oneM saneC) h 0 w' (HM2.out.old hb)
   rw [sane_l] at this
   exact this)
 have HTi:=Lib.hid (show ∀ w',Below w2.heap.size w2 w'→Calls Tryz.prog 13 #[.agg #[.slice h.co 0 h.cc,.slice h.so 0 h.sc,.slice h.eo 1 h.ec,.int .i64 0],.int .i64 0] w' (RetRow2N w' ([1,1,5,5]:List Int) 0) from fun w' hb=>by
   have:=btimes_any (oneM saneC) h 0 w' (HM2.out.old hb)
   rw [sane_t] at this
   exact this)
 have HBN:=Lib.hid (Below.refl w2.heap.size w2)
 have hx:=HX2.out.old HBN.out;have x0:=hx.cell 0 (v:=.slice h.co 0 h.cc) rfl;have x1:=hx.cell 1 (v:=.slice h.so 0 h.sc) rfl;have x2:=hx.cell 2 (v:=.slice h.eo 1 h.ec) rfl;have x3:=hx.cell 3 (v:=.int .i64 0) rfl;clear hx
 go_wp2_with (first
   | (go_at_call 17;refine (HWo.out _ HBN.out).mono ?_;rintro e w3 ⟨rfl,hb3⟩;have HBN:=Lib.hid (bthen HBN.out hb3);clear hb3 x0 x1 x2 x3;have hx:=HX2.out.old HBN.out;have x0:=hx.cell 0 (v:=.slice h.co 0 h.cc) rfl;have x1:=hx.cell 1 (v:=.slice h.so 0 h.sc) rfl;have x2:=hx.cell 2 (v:=.slice h.eo 1 h.ec) rfl;have x3:=hx.cell 3 (v:=.int .i64 0) rfl;clear hx)
   | (go_at_call 24;refine (HLe.out _ HBN.out).mono ?_;rintro e w4 ⟨rfl,hb4⟩;have HBN:=Lib.hid (bthen HBN.out hb4);clear hb4 x0 x1 x2 x3;have hx:=HX2.out.old HBN.out;have x0:=hx.cell 0 (v:=.slice h.co 0 h.cc) rfl;have x1:=hx.cell 1 (v:=.slice h.so 0 h.sc) rfl;have x2:=hx.cell 2 (v:=.slice h.eo 1 h.ec) rfl;have x3:=hx.cell 3 (v:=.int .i64 0) rfl;clear hx)
   | (go_at_call 13;refine (HTi.out _ HBN.out).mono ?_;rintro e w5 ⟨⟨ao,cap,rfl,hr,-⟩,hb5⟩;have HBN:=Lib.hid (bthen HBN.out hb5);have HR:=Lib.hid hr;clear hb5 hr x0 x1 x2 x3)
   | (go_at_call 15
      have hI:=rInts_any (w5.alloc (.cells #[.int .i64 1,.int .i64 1,.int .i64 5,.int .i64 5] 3)) ao (some ⟨w5.heap.size,0,none⟩) cap 4 ([1,1,5,5]:List Int) ([1,1,5,5]:List Int) (HR.out.old bE) (row_built w5 ([1,1,5,5]:List Int) _ _ rfl) (by decide)
      rw [decide_eq_true rfl] at hI
      refine hI.mono ?_
      rintro e w6 ⟨rfl,hb6⟩
      have HB6:=Lib.hid (bthen (show Below w2.heap.size w2 _ from bal HBN.out _) hb6)
      clear hb6 hI))
 go_ret
 exact ret_ok rfl (bthen HB1.out (bthen HB2.out HB6.out))
end
section
open Go.RowKit
def preV (c:List In3):Nat→Int
 | 0=>0
 | k+1=>preV c k+costV (c.getD k default)*tmV c k
theorem cost_35 {i:In3} (h:i.op=35):costV i=1:=by unfold costV;rw [h];rfl
theorem cost_34 {i:In3} (h:i.op=34):costV i=1:=by unfold costV;rw [h];rfl
theorem brk_le1 {m:Md}{T:Int→Int}{i:In3}{f o:Int} (hf:Bd f) (ho:0≤o) (ha:i.op=30→0≤i.a) (h33:i.op≠33) (hi:innV i o≤1000000000):o*(gW byCost m T).brk i f 0≤o*costV i+innV i o*f+innV i o:=by
 have hf0:=hf.1
 have hle:∀ x y,addV x y≤x+y:=fun x y=>by unfold addV;omega
 have hmle:∀ x y,mulV x y≤x*y:=fun x y=>by unfold mulV;omega
 by_cases h30:i.op=30
 ·have hb:(gW byCost m T).brk i f 0=addV (costV i) (mulV i.a (addV f 1)):=(if_neg (by omega)).trans (if_pos h30)
  have hin:innV i o=i.a*o:=by
   unfold innV at hi ⊢
   rw [if_pos h30] at hi ⊢
   unfold mulV hugeV at hi ⊢
   omega
  rw [hb,hin]
  have h1:=Int.le_trans (hle (costV i) (mulV i.a (addV f 1))) (Int.add_le_add_left (Int.le_trans (hmle i.a (addV f 1)) (Int.mul_le_mul_of_nonneg_left (hle f 1) (ha h30))) _)
  have h2:=Int.mul_le_mul_of_nonneg_left h1 ho
  have e:o*(costV i+i.a*(f+1))=o*costV i+i.a*o*f+i.a*o:=by
   rw [Int.mul_add,Int.mul_add,Int.mul_one,Int.mul_add,Int.mul_comm i.a o,Int.mul_assoc,Int.add_assoc]
  rw [e] at h2
  exact h2
 ·have hin:innV i o=o:=by unfold innV;rw [if_neg h30]
  rw [hin]
  have hb:(gW byCost m T).brk i f 0≤costV i+(f+1):=by
   show (if i.op=29 then addV (costV i) (max (addV f 1) (addV 0 1)) else if i.op=30 then _ else if i.op=32∧false=true then _ else if i.op=33 then _ else addV (costV i) (addV f 1))≤_
   rw [if_neg h30,if_neg (show ¬ (i.op=32∧false=true) by simp),if_neg h33]
   unfold addV hugeV
   split<;>omega
  have h2:=Int.mul_le_mul_of_nonneg_left hb ho
  rw [Int.mul_add,Int.mul_add,Int.mul_one] at h2
  omega
theorem brk_le2 {m:Md}{T:Int→Int}{i:In3}{f s o:Int} (hf:Bd f) (hs:Bd s) (ho:0≤o) (h:i.op=29∨i.op=33):o*(gW byCost m T).brk i f s≤o*costV i+o*f+o*s+o:=by
 have hf0:=hf.1
 have hs0:=hs.1
 have hb:(gW byCost m T).brk i f s≤costV i+(f+(s+1)):=by
  show (if i.op=29 then addV (costV i) (max (addV f 1) (addV s 1)) else if i.op=30 then _ else if i.op=32∧false=true then _ else if i.op=33 then addV (costV i) (addV (addV f 1) s) else _)≤_
  rw [if_neg (show ¬ i.op=30 by omega),if_neg (show ¬ (i.op=32∧false=true) by simp)]
  rcases h with h|h
  ·rw [if_pos h];unfold addV hugeV;omega
  ·rw [if_neg (by omega),if_pos h];unfold addV hugeV;omega
 have h2:=Int.mul_le_mul_of_nonneg_left hb ho
 rw [Int.mul_add,Int.mul_add,Int.mul_add,Int.mul_one] at h2
 omega
section
variable {m:Md}{T:Int→Int}{c:List In3} (hv:∀ i∈c,insnV false i=true) (hn:∀ i∈c,i.op≠25∧i.op≠26) (ha:∀ i∈c,i.op≠1→0≤i.a) (hT:∀ t,Bd (T t))
include hv hn ha hT
theorem WA_sum {a b:Nat} (hs:Seg c a b):∀ often,0≤often→Enc c a b often→(∀ i,a≤i→i<b→tmV c i≤1000000000)→∀ acc,Bd acc→often*WA (gW byCost m T) c a b acc≤often*acc+(preV c b-preV c a):=by
 have hm:∀ k,k<c.length→c.getD k default∈c:=fun k hk=>getD_mem _ hk
 have hw:∀ i∈c,0≤byCost.wt i∧byCost.wt i≤1000:=fun i hi=>costV_bd (hv i hi)
 have hb0:Bd 0:=by unfold Bd;omega
 have hplus:∀ x y,(gW byCost m T).plus x y=addV x y:=fun _ _=>rfl
 have hle:∀ x y,addV x y≤x+y:=fun x y=>by unfold addV;omega
 have hmle:∀ x y,mulV x y≤x*y:=fun x y=>by unfold mulV;omega
 induction hs with
 | nil a h=>intro o h0 _ _ acc _;rw [WA_nil];omega
 | pl a b q1 q2 q3 q4 q5 ih=>
  intro o h0 he ht acc hacc
  have hle5:=(seg_le q5).1
  have hta:tmV c a=o:=he.here (by omega)
  have hp:(gW byCost m T).pl (c.getD a default)=costV (c.getD a default):=by
   have:=hn _ (hm a q1)
   show (if _ then _ else if _ then _ else _)=_
   rw [if_neg this.1,if_neg this.2]
   rfl
  have hcb:Bd (costV (c.getD a default)):=by have:=costV_bd (hv _ (hm a q1));unfold Bd;omega
  rw [WA_pl q2 q5,hplus,hp]
  have h1:=ih o h0 (he.next (.pl _ _ q1 q2 q3 q4 (.nil _ (by omega)))) (fun i h1 h2=>ht i (by omega) h2) _ (addV_bd hacc hcb)
  have h2:=Int.mul_le_mul_of_nonneg_left (hle acc (costV (c.getD a default))) h0
  rw [Int.mul_add] at h2
  have h3:preV c (a+1)=preV c a+costV (c.getD a default)*o:=by show preV c a+costV _*tmV c a=_;rw [hta]
  rw [Int.mul_comm (costV _) o] at h3
  omega
 | one a en b q1 q2 q3 i1 i2=>
  intro o h0 he ht acc hacc
  have hle3:=(seg_le q3).1
  have hle2:=(seg_le q2).1
  have hal:=q1.1
  have hta:tmV c a=o:=he.here (by omega)
  have hte:tmV c en=innV (c.getD a default) o:=tm_end1 he (by omega) q1 q2
  have hti:=ht en (by omega) (by omega)
  rw [hte] at hti
  have h33:(c.getD a default).op≠33:=by
   rcases q1.2.2.2.2 with ⟨_,h,_⟩|⟨n,h,_⟩
   ·exact h
   ·omega
  have hin0:0≤innV (c.getD a default) o:=by
   unfold innV
   split
   ·rename_i h30
    have:=Int.mul_nonneg (ha _ (hm a hal) (by omega)) h0
    unfold mulV hugeV;omega
   ·exact h0
  have hfb:Bd (WA (gW byCost m T) c (a+1) en 0):=WA_bd hw (by decide) hT ha q2 0 hb0
  have hf:=i1 _ hin0 (enc_first he (by omega) q1 (Nat.le_refl _)) (fun i h1 h2=>ht i (by omega) (by omega)) 0 hb0
  have hbk:=brk_le1 (m:=m) (T:=T) hfb h0 (fun h=>ha _ (hm a hal) (by omega)) h33 hti
  have hbb:Bd ((gW byCost m T).brk (c.getD a default) (WA (gW byCost m T) c (a+1) en 0) 0):=brk_bd (m:=m) hw (by decide) hT ha _ (hm a hal) _ _ hfb hb0
  rw [WA_one q1 q2 q3,hplus]
  have hr:=i2 o h0 (he.next (.one _ _ _ q1 q2 (.nil _ (by have:=q1.2.2.1;omega)))) (fun i h1 h2=>ht i (by omega) h2) _ (addV_bd hacc hbb)
  have h2:=Int.mul_le_mul_of_nonneg_left (hle acc ((gW byCost m T).brk (c.getD a default) (WA (gW byCost m T) c (a+1) en 0) 0)) h0
  rw [Int.mul_add] at h2
  have h3:preV c (a+1)=preV c a+costV (c.getD a default)*o:=by show preV c a+costV _*tmV c a=_;rw [hta]
  have h4:preV c (en+1)=preV c en+innV (c.getD a default) o:=by show preV c en+costV _*tmV c en=_;rw [hte,cost_35 q1.2.2.2.1,Int.one_mul]
  rw [Int.mul_comm (costV _) o] at h3
  rw [Int.mul_zero] at hf
  omega
 | two a n en b q1 q2 q3 q4 i1 i2 i3=>
  intro o h0 he ht acc hacc
  have hle4:=(seg_le q4).1
  have hle3:=(seg_le q3).1
  have hle2:=(seg_le q2).1
  have hal:=q1.1
  have hta:tmV c a=o:=he.here (by omega)
  have hop:(c.getD n default).op=34∧((c.getD a default).op=29∨(c.getD a default).op=33):=by
   rcases q1.2.2.2.2 with ⟨h,_⟩|⟨n2,h,_,h34,h2,_⟩
   ·omega
   ·obtain rfl:n=n2:=by omega
    exact ⟨h34,h2⟩
  have hin:innV (c.getD a default) o=o:=by unfold innV;rw [if_neg (by omega)]
  have hte:tmV c en=o:=(tm_end2 he (by omega) q1 q2 q3).trans hin
  have htn:tmV c n=o:=tm_else he (by omega) q1 q2 (by omega)
  have hfb:Bd (WA (gW byCost m T) c (a+1) n 0):=WA_bd hw (by decide) hT ha q2 0 hb0
  have hsb:Bd (WA (gW byCost m T) c (n+1) en 0):=WA_bd hw (by decide) hT ha q3 0 hb0
  have hf:=i1 o h0 (hin▸enc_first he (by omega) q1 (by omega)) (fun i h1 h2=>ht i (by omega) (by omega)) 0 hb0
  have hsc:=i2 o h0 (hin▸enc_second he (by omega) q1 q2 (by omega)) (fun i h1 h2=>ht i (by omega) (by omega)) 0 hb0
  have hbk:=brk_le2 (m:=m) (T:=T) hfb hsb h0 hop.2
  have hbb:Bd ((gW byCost m T).brk (c.getD a default) (WA (gW byCost m T) c (a+1) n 0) (WA (gW byCost m T) c (n+1) en 0)):=brk_bd (m:=m) hw (by decide) hT ha _ (hm a hal) _ _ hfb hsb
  rw [WA_two q1 q2 q3 q4,hplus]
  have hr:=i3 o h0 (he.next (.two _ _ _ _ q1 q2 q3 (.nil _ (by have:=q1.2.2.1;omega)))) (fun i h1 h2=>ht i (by omega) h2) _ (addV_bd hacc hbb)
  have h2:=Int.mul_le_mul_of_nonneg_left (hle acc ((gW byCost m T).brk (c.getD a default) (WA (gW byCost m T) c (a+1) n 0) (WA (gW byCost m T) c (n+1) en 0))) h0
  rw [Int.mul_add] at h2
  have h3:preV c (a+1)=preV c a+costV (c.getD a default)*o:=by show preV c a+costV _*tmV c a=_;rw [hta]
  have h4:preV c (en+1)=preV c en+o:=by show preV c en+costV _*tmV c en=_;rw [hte,cost_35 q1.2.2.2.1,Int.one_mul]
  have h5:preV c (n+1)=preV c n+o:=by show preV c n+costV _*tmV c n=_;rw [htn,cost_34 hop.1,Int.one_mul]
  rw [Int.mul_comm (costV _) o] at h3
  rw [Int.mul_zero] at hf hsc
  omega
end
end
section
open Go.RowKit
theorem boundTimes_any (m:Md) (h:Hd) (k:Int) (w:World) (H:ModAt w h m):Calls Tryz.prog 3 #[.agg #[.slice h.co m.cl.length h.cc,.slice h.so m.st.length h.sc,.slice h.eo m.me.length h.ec,.int .i64 m.sel],.int .i64 k] w (Ret w (.bool true)):=by
 obtain ⟨w0,hw0⟩:∃ w0,w0=w.alloc (.cells #[.slice h.co m.cl.length h.cc,.slice h.so m.st.length h.sc,.slice h.eo m.me.length h.ec,.int .i64 m.sel] 26):=⟨_,rfl⟩
 have HB:=Lib.hid (show Below w.heap.size w w0 by rw [hw0];exact bE)
 have HX:=Lib.hid (show Blk w0 w.heap.size #[.slice h.co m.cl.length h.cc,.slice h.so m.st.length h.sc,.slice h.eo m.me.length h.ec,.int .i64 m.sel] 26 by rw [hw0];exact Blk.new _ _ _)
 have HM:=Lib.hid (H.old HB.out)
 have HW:=Lib.hid hw0
 clear hw0 H
 have HBN:=Lib.hid (Below.refl w0.heap.size w0)
 obtain ⟨⟨L,er⟩,hq⟩:∃ q,q=timesE m k:=⟨_,rfl⟩
 have HT:=Lib.hid (show ∀ w',Below w0.heap.size w0 w'→Calls Tryz.prog 13 #[.agg #[.slice h.co m.cl.length h.cc,.slice h.so m.st.length h.sc,.slice h.eo m.me.length h.ec,.int .i64 m.sel],.int .i64 k] w' (RetRow2N w' L er) from fun w' hb=>by have:=btimes_any m h k w' (HM.out.old hb);rwa [←hq] at this)
 have HR:=Lib.hid (show ∀ w',Below w0.heap.size w0 w'→Calls Tryz.prog 14 #[.agg #[.slice h.co m.cl.length h.cc,.slice h.so m.st.length h.sc,.slice h.eo m.me.length h.ec,.int .i64 m.sel],.int .i64 k] w' (RetRow2N w' L er) from fun w' hb=>by have:=rTimes_any m h k w' (HM.out.old hb);rwa [←hq] at this)
 have HQ:=Lib.hid hq
 have HLn:=Lib.hid (show L.length≤4096 by
  have e:L=(timesE m k).1:=by rw [←hq]
  rw [e]
  unfold timesE
  by_cases hr:readyV m k=true
  ·rw [if_pos hr]
   obtain ⟨hm,h0,h1⟩:=readyV_yes hr
   have:=(mth_ok hm (show k.toNat<m.me.length by omega)).z.2.2
   split
   ·simp
   ·show (timesL (cdM m k.toNat)).length≤4096
    unfold timesL cdM
    rw [List.length_map,List.length_range]
    omega
  ·rw [if_neg hr];simp)
 clear hq
 go_enter Tryz.func3,Tryz.ntmps3
 go_upto_region 1 with fail
 rw [←HW.out]
 have x0:=HX.out.cell 0 (v:=.slice h.co m.cl.length h.cc) rfl
 have x1:=HX.out.cell 1 (v:=.slice h.so m.st.length h.sc) rfl
 have x2:=HX.out.cell 2 (v:=.slice h.eo m.me.length h.ec) rfl
 have x3:=HX.out.cell 3 (v:=.int .i64 m.sel) rfl
 go_upto_region 3 with (first
  | (go_at_call 11;refine (heavy_any m h _ (HM.out.old HBN.out)).mono ?_;rintro e w1 ⟨⟨b,rfl⟩,hb1⟩;have HBN:=Lib.hid (bthen HBN.out hb1);clear hb1 x0 x1 x2 x3;have x0:=(HX.out.old HBN.out).cell 0 (v:=.slice h.co m.cl.length h.cc) rfl;have x1:=(HX.out.old HBN.out).cell 1 (v:=.slice h.so m.st.length h.sc) rfl;have x2:=(HX.out.old HBN.out).cell 2 (v:=.slice h.eo m.me.length h.ec) rfl;have x3:=(HX.out.old HBN.out).cell 3 (v:=.int .i64 m.sel) rfl)
  | (go_at_call 12;refine (sane7_any _).mono ?_;rintro e w2 ⟨rfl,hb2⟩;have HBN:=Lib.hid (bthen HBN.out hb2);clear hb2))
 ·go_ret
  exact ret_ok rfl (bthen HB.out HBN.out)
 by_cases her:er=0
 ·subst her
  go_upto_region 9 with (first
   | (go_at_call 13;refine (HT.out _ HBN.out).mono ?_;rintro e w3 ⟨⟨ao,ac,rfl,hr3,-⟩,hb3⟩;have HBN:=Lib.hid (bthen HBN.out hb3);have HR3:=Lib.hid hr3;have HB3:=HBN;clear hb3 hr3 x0 x1 x2 x3;have x0:=(HX.out.old HBN.out).cell 0 (v:=.slice h.co m.cl.length h.cc) rfl;have x1:=(HX.out.old HBN.out).cell 1 (v:=.slice h.so m.st.length h.sc) rfl;have x2:=(HX.out.old HBN.out).cell 2 (v:=.slice h.eo m.me.length h.ec) rfl;have x3:=(HX.out.old HBN.out).cell 3 (v:=.int .i64 m.sel) rfl)
   | (go_at_call 14;refine (HR.out _ HBN.out).mono ?_;rintro e w4 ⟨⟨bo,bc,rfl,hr4,-⟩,hb4⟩;have HR4:=Lib.hid (HR3.out.old hb4);have HBN:=Lib.hid (bthen HBN.out hb4);have HS4:=Lib.hid hr4;clear hb4 hr4 x0 x1 x2 x3;have x0:=(HX.out.old HBN.out).cell 0 (v:=.slice h.co m.cl.length h.cc) rfl;have x1:=(HX.out.old HBN.out).cell 1 (v:=.slice h.so m.st.length h.sc) rfl;have x2:=(HX.out.old HBN.out).cell 2 (v:=.slice h.eo m.me.length h.ec) rfl;have x3:=(HX.out.old HBN.out).cell 3 (v:=.int .i64 m.sel) rfl)
   | (go_at_call 15;have hI:=rInts_any w4 ao bo ac bc L L HR4.out HS4.out HLn.out;rw [decide_eq_true rfl] at hI;refine hI.mono ?_;rintro e w5 ⟨rfl,hb5⟩;have HR5:=Lib.hid (HR4.out.old hb5);have HBN:=Lib.hid (bthen HBN.out hb5);clear hI hb5 x0 x1 x2 x3;have x0:=(HX.out.old HBN.out).cell 0 (v:=.slice h.co m.cl.length h.cc) rfl;have x1:=(HX.out.old HBN.out).cell 1 (v:=.slice h.so m.st.length h.sc) rfl;have x2:=(HX.out.old HBN.out).cell 2 (v:=.slice h.eo m.me.length h.ec) rfl;have x3:=(HX.out.old HBN.out).cell 3 (v:=.int .i64 m.sel) rfl)
   | (go_at_call 12;refine (sane7_any _).mono ?_;rintro e w2 ⟨rfl,hb2⟩;have HBN:=Lib.hid (bthen HBN.out hb2);clear hb2))
  have hrd:readyV m k=true:=by
   by_cases hr:readyV m k=true
   ·exact hr
   ·exfalso
    have:=HQ.out
    unfold timesE at this
    rw [if_neg hr] at this
    cases this
  have hte:L=timesL (cdM m k.toNat)∧¬ hugeV∈L:=by
   have:=HQ.out
   unfold timesE at this
   rw [if_pos hrd] at this
   by_cases hin:hugeV∈timesL (cdM m k.toNat)
   ·rw [if_pos hin] at this;cases this
   ·rw [if_neg hin] at this;cases this;exact ⟨rfl,hin⟩
  obtain ⟨hm,hk0,hk1⟩:=readyV_yes hrd
  obtain ⟨k,rfl⟩:∃ d:Nat,k=d:=⟨k.toNat,by omega⟩
  rw [Int.toNat_natCast] at hte
  obtain ⟨hL,hnh⟩:=hte
  have hkl:k<m.me.length:=by omega
  have hkl2:(k:Int) < m.me.length:=by omega
  have hok:=mth_ok hm hkl
  have hcl:(cdM m k).length≤120:=hok.z.2.2
  have hLl:L.length=(cdM m k).length:=by rw [hL];simp [timesL]
  have htm:∀ i,i<(cdM m k).length→L.getD i 0=tmV (cdM m k) i:=fun i hi=>by rw [hL];simp [timesL,hi]
  have htb:∀ i,i<(cdM m k).length→Bd (tmV (cdM m k) i)∧tmV (cdM m k) i≤1000000000:=fun i hi=>by
   have hb:Bd (tmV (cdM m k) i):=tmB_bd (fun j hj e=>(opd_ok (hok.i _ (getD_mem _ hj)).1 (hok.i _ (getD_mem _ hj)).2).a0 (by omega)) i i (Nat.le_of_lt hi)
   refine ⟨hb,?_⟩
   have:tmV (cdM m k) i≠hugeV:=fun e=>hnh (by
    rw [←e,←htm i hi]
    exact getD_memI (by omega))
   unfold Bd at hb;unfold hugeV at this;omega
  have HTm:=Lib.hid htm
  have HTb:=Lib.hid htb
  have HLl:=Lib.hid hLl
  have HOk:=Lib.hid hok
  have HMm:=Lib.hid hm
  have HRd:=Lib.hid hrd
  clear hrd hm hL hnh hok hLl htm htb HQ HT HR
  obtain ⟨ea,he,-,-,-,-,-,-,e6⟩:=(HM.out.old HBN.out).mth hkl
  rw [show (m.me.getD k default).k.length=(cdM m k).length from rfl] at e6
  rw [he] at x2
  have HEa:=Lib.hid he
  have hko:=(HM.out.old HBN.out).k k hkl
  have HKo:=Lib.hid (show RowAt w5 (h.e k).ko (h.e k).kc (cdM m k) from hko)
  clear he hko
  go_upto_region 10 with fail
  clear x0 x1 x2 x3 e6
  have hpb:∀ n,n≤(cdM m k).length→0≤preV (cdM m k) n∧preV (cdM m k) n≤n*1000000000000:=by
   intro n
   induction n with
   | zero=>intro _;exact ⟨Int.le_refl _,by show (0:Int)≤_;omega⟩
   | succ n ih=>
    intro hn
    obtain ⟨i0,i1⟩:=ih (by omega)
    have hc:=costV_bd (HOk.out.i ((cdM m k).getD n default) (getD_mem (l:=cdM m k) default hn)).1
    have ht:=HTb.out n hn
    have h1:=Int.mul_nonneg hc.1 ht.1.1
    have h2:=Int.mul_le_mul hc.2 ht.2 ht.1.1 (by decide)
    show 0≤preV (cdM m k) n+costV ((cdM m k).getD n default)*tmV (cdM m k) n∧preV (cdM m k) n+costV ((cdM m k).getD n default)*tmV (cdM m k) n≤((n+1:Nat):Int)*1000000000000
    omega
  have HPb:=Lib.hid hpb
  clear hpb
  go_wp2
  go_loopw [10,11] (fun s i wr=>∃ n:Nat,n≤(cdM m k).length∧i=.int .i64 n∧s=.int .i64 (preV (cdM m k) n)∧Hid (∀ j,j<n→((cdM m k).getD j default).op≠25∧((cdM m k).getD j default).op≠26)∧Hid (Below w5.heap.size w5 wr)) (fun _ i _=>(cdM m k).length-(intOf i).toNat)
  case atStart=>exact ⟨0,Nat.zero_le _,rfl,rfl,fun j h=>by omega,by exact bE⟩
  case round=>
   obtain ⟨n,hn,rfl,rfl,HNo,HBr⟩:=hrel
   rename World=>wo
   by_cases hnl:n<(cdM m k).length
   ·have hnl2:(n:Int) < (cdM m k).length:=by omega
    have hnl3:(n:Int) < L.length:=by have:=HLl.out;omega
    have hwn:IntKind.i64.wrap ((n:Int)+1)=((n+1:Nat):Int):=IntWalk.i64_in _ (by omega)
    obtain ⟨ca,hca,o0,o1,o2⟩:=row_in (HKo.out.old HBr.out) hnl
    rw [hca] at HKo ⊢
    obtain ⟨la,hla,l0⟩:=row_int (HR5.out.old HBr.out) (show n<L.length by have:=HLl.out;omega)
    subst hla
    rw [HTm.out n hnl] at l0
    have hiv:=(HOk.out.i ((cdM m k).getD n default) (getD_mem (l:=cdM m k) default hnl)).1
    have hcb:=costV_bd hiv
    have htb:=HTb.out n hnl
    have hp0:=HPb.out n hn
    have hp1:=HPb.out (n+1) hnl
    have hpe:preV (cdM m k) (n+1)=preV (cdM m k) n+costV ((cdM m k).getD n default)*tmV (cdM m k) n:=rfl
    have HCo:=Lib.hid (fun w'=>rCost_any ((cdM m k).getD n default) w' hiv)
    have hr1:=Int.mul_nonneg hcb.1 htb.1.1
    have hr2:=Int.mul_le_mul hcb.2 htb.2 htb.1.1 (by decide)
    have hw1:IntKind.i64.wrap (costV ((cdM m k).getD n default)*tmV (cdM m k) n)=costV ((cdM m k).getD n default)*tmV (cdM m k) n:=IntWalk.i64_in _ (by omega)
    have hw2:IntKind.i64.wrap (preV (cdM m k) n+costV ((cdM m k).getD n default)*tmV (cdM m k) n)=preV (cdM m k) (n+1):=by rw [hpe];exact IntWalk.i64_in _ (by omega)
    have hno:(((cdM m k).getD n default).op≠25∧((cdM m k).getD n default).op≠26)→∀ j,j<n+1→((cdM m k).getD j default).op≠25∧((cdM m k).getD j default).op≠26:=fun q j hj=>by
     by_cases e:j=n
     ·subst e;exact q
     ·exact HNo.out j (by omega)
    have HNn:=Lib.hid hno
    clear hno hpe hp0 hp1 hcb htb hr1 hr2 hiv
    obtain ⟨pv2,hp2⟩:∃ p,p=preV (cdM m k) (n+1):=⟨_,rfl⟩
    have HP2:=Lib.hid hp2
    rw [←hp2] at hw2
    clear hp2
    generalize preV (cdM m k) n=pv at hw2 ⊢
    generalize tmV (cdM m k) n=tv at hw1 hw2 l0
    generalize costV ((cdM m k).getD n default)=cv at hw1 hw2 HCo
    obtain ⟨i,hi⟩:∃ i,i=(cdM m k).getD n default:=⟨_,rfl⟩
    rw [←hi] at o0 o1 o2 HCo HNn
    clear hi
    obtain ⟨op,ia,ib⟩:=i
    dsimp only at o0 o1 o2 HCo HNn
    by_cases h25:op=25∨op=26
    ·go_upto_region 15 with (go_at_call 16;refine (HCo.out _).mono ?_;rintro e w6 ⟨rfl,hb6⟩;have HB6:=Lib.hid hb6;have o0:=(hb6.cell (cell_lt o0)).trans o0;have l0:=(hb6.cell (cell_lt l0)).trans l0;clear hb6)
     rcases h25 with rfl|rfl
     all_goals
      go_wp2_with (go_at_call 12;refine (sane7_any _).mono ?_;rintro e w7 ⟨rfl,hb7⟩)
      go_ret
      exact ret_ok rfl (bthen HB.out (bthen HBN.out (bthen HBr.out (bthen HB6.out hb7))))
    ·have h25a:¬ op=25:=fun e=>h25 (.inl e)
     have h25b:¬ op=26:=fun e=>h25 (.inr e)
     clear h25
     go_wp2_with (go_at_call 16;refine (HCo.out _).mono ?_;rintro e w6 ⟨rfl,hb6⟩;have HB6:=Lib.hid hb6;have o0:=(hb6.cell (cell_lt o0)).trans o0;have l0:=(hb6.cell (cell_lt l0)).trans l0;clear hb6)
     all_goals first
      | (exfalso;simp_all;done)
      | skip
     exact ⟨⟨n+1,hnl,rfl,by rw [HP2.out],HNn.out ⟨h25a,h25b⟩,bthen HBr.out HB6.out⟩,by simp [intOf];omega⟩
   ·obtain rfl:n=(cdM m k).length:=by omega
    have hj5:¬ ((cdM m k).length:Int) < (cdM m k).length:=by omega
    have HBq:=Lib.hid (bthen HBN.out HBr.out)
    have x0:=(HX.out.old HBq.out).cell 0 (v:=.slice h.co m.cl.length h.cc) rfl;have x1:=(HX.out.old HBq.out).cell 1 (v:=.slice h.so m.st.length h.sc) rfl;have x2:=(HX.out.old HBq.out).cell 2 (v:=.slice h.eo m.me.length h.ec) rfl;have x3:=(HX.out.old HBq.out).cell 3 (v:=.int .i64 m.sel) rfl
    obtain ⟨v,hv⟩:∃ v,v=mthW (gW byCost m) m k:=⟨_,rfl⟩
    have hvb:Bd v:=hv▸mthW_bd HMm.out (x:=byCost) (fun k hk i hi=>costV_bd ((mth_ok HMm.out hk).i i hi).1) (by decide) (k+1) k (by omega)
    have hvs:v≤preV (cdM m k) (cdM m k).length:=by
     have hmem:∀ i∈cdM m k,∃ j,j<(cdM m k).length∧(cdM m k).getD j default=i:=fun i hi=>by
      obtain ⟨j,hj,e⟩:=List.getElem_of_mem hi
      exact ⟨j,hj,by simp [hj,e]⟩
     have h1:=WA_sum (m:=m) (T:=fun t=>mthW (gW byCost m) m t.toNat) (c:=cdM m k) (fun i hi=>(HOk.out.i i hi).1) (fun i hi=>by obtain ⟨j,hj,e⟩:=hmem i hi;rw [←e];exact HNo.out j hj)
      (fun i hi=>(opd_ok (HOk.out.i i hi).1 (HOk.out.i i hi).2).a0) (fun t=>mthW_bd HMm.out (x:=byCost) (fun k hk i hi=>costV_bd ((mth_ok HMm.out hk).i i hi).1) (by decide) (t.toNat+1) _ (by omega))
      (show Seg (cdM m k) 0 (cdM m k).length from seg_of HOk.out.n) 1 (by decide) (enc_all _ _) (fun i _ hi=>(HTb.out i hi).2) 0 (by unfold Bd;omega)
     have h2:=mthW_gW HMm.out byCost hkl
     rw [hv,h2]
     have h3:preV (cdM m k) 0=0:=rfl
     rw [h3] at h1
     have h4:WA (gT byCost m (mthW (gW byCost m) m)) (cdM m k) 0 (cdM m k).length 0=WA (gW byCost m fun t=>mthW (gW byCost m) m t.toNat) (cdM m k) 0 (cdM m k).length 0:=rfl
     rw [h4]
     omega
    have hwe:worstE m k=if 1000000000<v then (0,6) else (v,0):=by rw [hv];unfold worstE;rw [if_pos HRd.out,Int.toNat_natCast]
    generalize preV (cdM m k) (cdM m k).length=sum at hvs ⊢
    clear hv
    have HWo:=Lib.hid (worst_any m h k wo (HM.out.old HBq.out))
    by_cases hvl:1000000000<v
    ·rw [hwe,if_pos hvl] at HWo
     have hs1:sum > 1000000000:=by omega
     have hs2:1000000000<sum:=hs1
     exact j5
    ·rw [hwe,if_neg hvl] at HWo
     exact j5
 ·go_wp2_with (first
   | (go_at_call 13;refine (HT.out _ HBN.out).mono ?_;rintro e w3 ⟨⟨ao,ac,rfl,hr3,-⟩,hb3⟩;have HBN:=Lib.hid (bthen HBN.out hb3);have HR3:=Lib.hid hr3;have HB3:=HBN;clear hb3 hr3 x0 x1 x2 x3;have x0:=(HX.out.old HBN.out).cell 0 (v:=.slice h.co m.cl.length h.cc) rfl;have x1:=(HX.out.old HBN.out).cell 1 (v:=.slice h.so m.st.length h.sc) rfl;have x2:=(HX.out.old HBN.out).cell 2 (v:=.slice h.eo m.me.length h.ec) rfl;have x3:=(HX.out.old HBN.out).cell 3 (v:=.int .i64 m.sel) rfl)
   | (go_at_call 14;refine (HR.out _ HBN.out).mono ?_;rintro e w4 ⟨⟨bo,bc,rfl,hr4,-⟩,hb4⟩;have HR4:=Lib.hid (HR3.out.old hb4);have HBN:=Lib.hid (bthen HBN.out hb4);have HS4:=Lib.hid hr4;clear hb4 hr4 x0 x1 x2 x3;have x0:=(HX.out.old HBN.out).cell 0 (v:=.slice h.co m.cl.length h.cc) rfl;have x1:=(HX.out.old HBN.out).cell 1 (v:=.slice h.so m.st.length h.sc) rfl;have x2:=(HX.out.old HBN.out).cell 2 (v:=.slice h.eo m.me.length h.ec) rfl;have x3:=(HX.out.old HBN.out).cell 3 (v:=.int .i64 m.sel) rfl)
   | (go_at_call 15;have hI:=rInts_any w4 ao bo ac bc L L HR4.out HS4.out HLn.out;rw [decide_eq_true rfl] at hI;refine hI.mono ?_;rintro e w5 ⟨rfl,hb5⟩;have HR5:=Lib.hid (HR4.out.old hb5);have HBN:=Lib.hid (bthen HBN.out hb5);clear hI hb5 x0 x1 x2 x3;have x0:=(HX.out.old HBN.out).cell 0 (v:=.slice h.co m.cl.length h.cc) rfl;have x1:=(HX.out.old HBN.out).cell 1 (v:=.slice h.so m.st.length h.sc) rfl;have x2:=(HX.out.old HBN.out).cell 2 (v:=.slice h.eo m.me.length h.ec) rfl;have x3:=(HX.out.old HBN.out).cell 3 (v:=.int .i64 m.sel) rfl)
   | (go_at_call 12;refine (sane7_any _).mono ?_;rintro e w2 ⟨rfl,hb2⟩;have HBN:=Lib.hid (bthen HBN.out hb2);clear hb2))
  go_ret
  exact ret_ok rfl (bthen HB.out HBN.out)
end
end Go.Proofs.YtfkbfjhocmbneaaGreat
