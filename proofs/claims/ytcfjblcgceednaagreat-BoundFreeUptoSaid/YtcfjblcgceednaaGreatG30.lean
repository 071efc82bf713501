/- Joined texts. The first: bound.Times. -/
import Derived.Test.YtcfjblcgceednaaGreatG29
import Derived.Test.YtcfjblcgceednaaGreatG28
set_option linter.all false
set_option linter.unusedVariables false
set_option linter.unusedSimpArgs false
set_option maxRecDepth 100000
set_option maxHeartbeats 8000000
namespace Go.Proofs.YtcfjblcgceednaaGreat
section
open Go.RowKit
theorem Zpx {w:World}{g:Nat}{L:List Int}{t:TypeId} (h:Blk w g (Zov L) t):Zar w (some ⟨g,0,none⟩) L.length L:=by
 have hf:Zak L=L.map (Value.int .i64):=by
  clear h
  induction L with
  | nil=>rfl
  | cons x r ih=>show Value.int .i64 x :: Zak r=_;rw [ih];rfl
 refine ⟨Zam _,(fun e=>by cases e),fun j u hu=>⟨_,rfl,?_⟩⟩
 have hj:(0:Nat)+j=j:=Nat.zero_add j
 show w.cell? ((⟨g,0,none⟩:Addr).add j)=some u
 rw [hf] at hu
 have:((⟨g,0,none⟩:Addr).add j)=⟨g,j,none⟩:=by
  unfold Addr.add
  split
  ·rename_i h0;rw [h0]
  ·simp
 rw [this]
 exact h.cell j (by simpa [Zov] using hu)
def Fnd (L:List Int) (v:Int) (W:World):Ending→World→Prop:=fun e w'=>(∃ n:Int,e=.returned (.int .i64 n)∧(0≤n↔v∈L))∧Below W.heap.size W w'
section
variable (L:List Int)(ao:Option Addr)(cap:Nat)(v:Int)(w:World)(hr:Zar w ao cap L)(hl:L.length≤4096)
include L ao cap v w hr hl
theorem Zpy:Calls Tryz.prog 174 #[.slice ao L.length cap,.int .i64 v] w (Fnd L v w):=by
 have HR:=Zh hr
 clear hr
 go_enter Tryz.func174,Tryz.ntmps174
 go_wp2
 go_loopw [8] (fun i wr=>∃ k:Nat,k≤L.length∧i=.int .i64 k∧Hid (Below w.heap.size w wr)∧Hid (∀ j,j<k→L.getD j 0≠v)) (fun i _=>L.length-(intOf i).toNat)
 case atStart=>exact ⟨0,Nat.zero_le _,rfl,by exact bE,fun j h=>by omega⟩
 case round=>
  obtain ⟨k,hk,rfl,HB,HN⟩:=hrel
  by_cases hkl:k<L.length
  ·obtain ⟨ad,rfl,c0⟩:=ZaB (HR.out.old HB.out) hkl
   have hkl2:(k:Int) < L.length:=by omega
   have hwk:IntKind.i64.wrap ((k:Int)+1)=((k+1:Nat):Int):=IntWalk.i64_in _ (by omega)
   obtain ⟨x,hx⟩:∃ x,x=L.getD k 0:=⟨_,rfl⟩
   rw [←hx] at c0
   have HX:=Zh hx
   clear hx
   by_cases he:v=x
   ·subst he
    go_wp2
    go_ret
    refine ⟨⟨k,rfl,fun _=>?_,fun _=>by omega⟩,HB.out⟩
    rw [HX.out]
    have:L.getD k 0=L[k]:=by simp [hkl]
    rw [this]
    exact List.getElem_mem _
   ·go_wp2
    exact ⟨⟨k+1,by omega,rfl,HB.out,fun j hj e=>by
     by_cases h2:j=k
     ·subst h2;rw [←HX.out] at e;exact he e.symm
     ·exact HN.out j (by omega) e⟩,by simp [intOf];omega⟩
  ·obtain rfl:k=L.length:=by omega
   have hj5:¬ (L.length:Int) < L.length:=by omega
   go_wp2
   go_ret
   refine ⟨⟨-1,rfl,fun h=>by omega,fun hm=>?_⟩,HB.out⟩
   obtain ⟨j,hj,e⟩:=List.getElem_of_mem hm
   exact absurd (show L.getD j 0=v by simp [hj,e]) (HN.out j hj)
theorem Zpz:Calls Tryz.prog 113 #[.slice ao L.length cap,.int .i64 v] w (Ret w (.bool (decide (v∈L)))):=by
 have HR:=Zh hr
 clear hr
 go_enter Tryz.func113,Tryz.ntmps113
 go_wp2_with (go_at_call 174;refine (Zpy L ao cap v _ HR.out hl).mono ?_;rintro e w1 ⟨⟨n,rfl,hn⟩,hb⟩)
 go_ret
 exact ZcT rfl hb
end
def ZpA (l:List In3):List Int:=(List.range l.length).map (tmV l)
def ZpB (m:Md) (k:Int):List Int × Int:=if ZoY m k=true then (if ZmD∈ZpA (cdM m k.toNat) then ([],6) else (ZpA (cdM m k.toNat),0)) else ([],1)
theorem ZpC {l:List In3}{L:List Int} (hn:L.length=l.length) (h:∀ i,L.getD i 0=if 0≤i∧i<l.length then tmV l i else 0):L=ZpA l:=by
 refine List.ext_getElem (by simp [ZpA,hn]) fun i h1 h2=>?_
 have:=h i
 rw [if_pos (by omega)] at this
 simp [ZpA,←this,h1]
theorem ZpD (m:Md) (h:Hd) (k:Int) (w:World) (H:Zay w h m):Calls Tryz.prog 99 #[.agg #[.slice h.co m.cl.length h.cc,.slice h.so m.st.length h.sc,.slice h.eo m.me.length h.ec,.int .i64 m.sel],.int .i64 k] w (Zik w (ZpB m k).1 (ZpB m k).2):=by
 have hb0:Below w.heap.size w (w.alloc (.cells #[.slice h.co m.cl.length h.cc,.slice h.so m.st.length h.sc,.slice h.eo m.me.length h.ec,.int .i64 m.sel] 26)):=by exact bE
 have HA:=Zh (Zo0 m h k _ (H.old hb0))
 have HB0:=Zh hb0
 have HX0:=Zh (Blk.new w #[.slice h.co m.cl.length h.cc,.slice h.so m.st.length h.sc,.slice h.eo m.me.length h.ec,.int .i64 m.sel] 26)
 have HH:=Zh H
 rcases hq:ZoY m k with _|_
 · rw [hq] at HA
   have e1:ZpB m k=([],1):=by unfold ZpB;rw [hq];rfl
   rw [e1]
   clear hb0 H hq e1
   go_enter Tryz.func99,Tryz.ntmps99
   go_wp2_with (go_at_call 100;refine HA.out.mono ?_;rintro e w1 ⟨rfl,hb1⟩)
   go_ret2
   exact ⟨⟨none,0,rfl,Zar.nil _,fun _ e=>by cases e⟩,Zaf HB0.out hb1⟩
 · rw [hq] at HA
   obtain ⟨hm,hk0,hk1⟩:=ZoZ hq
   obtain ⟨k,rfl⟩:∃ d:Nat,k=d:=⟨k.toNat,by omega⟩
   have hkl:k<m.me.length:=by omega
   have e1:ZpB m k=if ZmD∈ZpA (cdM m k) then ([],6) else (ZpA (cdM m k),0):=by unfold ZpB;rw [hq,if_pos rfl,Int.toNat_natCast]
   obtain ⟨⟨r1,r2⟩,hz⟩:∃ z,z=ZpB m k:=⟨_,rfl⟩
   rw [←hz]
   have HZ:=Zh (hz.trans e1)
   clear e1 hz
   have hcv:ZaV false (cdM m k)=0:=(Zo2 hm w).code hkl
   have hcl:(cdM m k).length≤120:=(ZfN hm hkl).z.2.2
   have hsg:=Zmq (ZfN hm hkl).n
   have HP:=Zh (fun w' hb=>ZnE (cdM m k) (h.e k).ko (h.e k).kc hcv (cdM m k).length 0 (cdM m k).length w' (by omega) (Zar.old (H.k k hkl) (w':=w') hb) hsg)
   obtain ⟨ea,he,-,-,-,-,-,-,e6⟩:=H.mth hkl
   rw [show (m.me.getD k default).k.length=(cdM m k).length from rfl] at e6
   have HE6:=Zh e6
   have HEa:=Zh he
   have hkl2:(k:Int) < m.me.length:=by omega
   have hmk:=run_make_row' (P:=Tryz.prog) 34 3 (.int .i64 0) 8 Tryz.underlying34 (by kernel_rfl) rfl .i64 .i64 (cdM m k).length (by omega) (by omega)
   rw [Zcn] at hmk
   have hko:=H.k k hkl
   have HKo:=Zh hko
   have hkb:0<(cdM m k).length→Lie (· < w.heap.size) (h.e k).ko:=fun h0 ad e=>by
     obtain ⟨ad',e',c0,_⟩:=ZaA (l:=cdM m k) hko (i:=0) h0
     rw [e] at e'
     cases e'
     have:=Zac c0
     rwa [Zag] at this
   have HCv:=Zh hcv
   clear hb0 H hq hm hsg e6 he hko hcv
   go_enter Tryz.func99,Tryz.ntmps99
   go_upto_region 4 with (go_at_call 100;refine HA.out.mono ?_;rintro e w1 ⟨rfl,hb1⟩;have HB1:=Zh (Zaf HB0.out hb1);have HX1:=Zh (HX0.out.old hb1);clear hb1)
   have x2:=HX1.out.cell 2 (v:=.slice h.eo m.me.length h.ec) rfl
   rw [HEa.out] at x2
   have e6:=(HB1.out.cell (Zac HE6.out)).trans HE6.out
   go_upto_region 5 with fail
   clear x2 e6
   go_upto_region 6 with fail
   clear hmk
   obtain ⟨g,hg⟩:∃ g,g=w1.heap.size:=⟨_,rfl⟩
   obtain ⟨w2,hw2⟩:∃ w2,w2=w1.alloc (Obj.cells (Array.replicate (cdM m k).length (Value.int IntKind.i64 0)) 3):=⟨_,rfl⟩
   have HA2:=Zh (show Blk w2 g (Zov (List.replicate (cdM m k).length 0)) 3 by rw [hw2,hg];have:=Blk.new w1 (Array.replicate (cdM m k).length (Value.int IntKind.i64 0)) 3;unfold Zov;rw [List.map_replicate,List.toArray_replicate];exact this)
   have HB2:=Zh (show Below w.heap.size w w2 by rw [hw2];exact bal HB1.out _)
   have HG:=Zh (show w.heap.size≤g∧g<w2.heap.size by rw [hw2,hg];exact ⟨HB1.out.size,by simp⟩)
   rw [←hw2,←hg]
   clear hg hw2
   go_upto_region 7 with (first
     | (go_at_call 104;refine (HP.out _ HB2.out).mono ?_;rintro e w3 ⟨ro,rc,rows,rfl,hown,hnd,hb3⟩;have HB3:=Zh (Zaf HB2.out hb3);have HA3:=Zh (HA2.out.old hb3)
        have HR3:=Zh (And.intro (Zar.of_own hown) (And.intro (show Lie (·≠g) ro from fun ad e=>by have:=ZmA hown ad e;have:=HG.out;omega) (hnd.weak (Q:=(·≠g)) fun j hj=>by have:=HG.out;omega)));clear hown hnd hb3)
     | (go_at_call 157
        refine (ZoK (h.e k).ko (h.e k).kc g (fun h0 ad e=>by have:=hkb h0 ad e;have:=HG.out;omega) HCv.out _ 0 (cdM m k).length (Nat.le_refl _) w3 ro rc rows (List.replicate (cdM m k).length 0) 1 (HKo.out.old HB3.out) HR3.out.1 HR3.out.2.1 HR3.out.2.2 HA3.out (by simp) (by unfold Bd;omega) (Zou _ _)).mono ?_
        rintro e w4 ⟨v4,L,rfl,hu4,hb4,hl4,hq4⟩
        have HB4:=Zh (hu4.below HB3.out (Nat.le_refl _) HG.out.1 HG.out.1)
        have HL:=Zh (ZpC (l:=cdM m k) (L:=L) (by simpa using hl4) fun i=>by rw [hq4];split<;>first|rfl|(simp [List.getD_eq_getElem?_getD,List.getElem?_replicate];split<;>rfl))
        have HA4:=Zh hb4
        clear hu4 hb4 hl4 hq4))
   have hL:=HL.out
   have hLl:L.length=(cdM m k).length:=by rw [hL];simp [ZpA]
   have HR4:=Zh (Zpx HA4.out)
   rw [hLl] at HR4
   have hC:=fun w' (hb:Below w4.heap.size w4 w')=>Zpz L (some ⟨g,0,none⟩) L.length 1000000001 w' (Zar.old (Zpx HA4.out) hb) (by omega)
   rw [hLl] at hC
   have HC:=Zh hC
   have HLl:=Zh hLl
   clear hL hC hLl
   by_cases hin:ZmD∈L
   · obtain ⟨rfl,rfl⟩:=Prod.mk.inj (HZ.out.trans (by rw [←HL.out,if_pos hin]))
     have hin2:(1000000001:Int)∈L:=hin
     go_wp2_with (go_at_call 113;refine (HC.out _ (Below.refl _ _)).mono ?_;rintro e w5 ⟨rfl,hb5⟩;rw [decide_eq_true hin2])
     go_ret2
     exact ⟨⟨none,0,rfl,Zar.nil _,fun _ e=>by cases e⟩,Zaf HB4.out hb5⟩
   · obtain ⟨e1,e2⟩:=Prod.mk.inj (HZ.out.trans (by rw [←HL.out,if_neg hin]))
     subst e2
     have HE1:=Zh e1
     clear e1
     have hin2:¬ (1000000001:Int)∈L:=hin
     go_wp2_with (go_at_call 113;refine (HC.out _ (Below.refl _ _)).mono ?_;rintro e w5 ⟨rfl,hb5⟩;rw [decide_eq_false hin2])
     go_ret2
     rw [HE1.out]
     exact ⟨⟨some ⟨g,0,none⟩,L.length,by rw [HLl.out];rfl,Zar.old (Zpx HA4.out) hb5,fun a e=>by cases e;exact HG.out.1⟩,Zaf HB4.out hb5⟩
end
section
open Go.RowKit
def ZpE (c:List In3):Md:=⟨[],[],[⟨⟨#[97,46,102]⟩,-1,[],[⟨1,0⟩],⟨0,0⟩,c⟩],0⟩
def ZpF (b:Nat) (ao:Option Addr) (cap:Nat):Hd:=⟨none,0,none,0,some ⟨b+1,0,none⟩,1,fun _=>default,fun _=>⟨none,0,some ⟨b,0,none⟩,1,ao,cap⟩⟩
def ZpG:List In3:=[⟨1,3,0⟩,⟨30,5,0⟩,⟨0,0,0⟩,⟨35,0,0⟩]
theorem ZpH:Zo1 (ZpE ZpG) 0=(13,0):=by kernel_rfl
theorem ZpI:Zpv (ZpE ZpG) 0=(3,0):=by kernel_rfl
theorem ZpJ:ZpB (ZpE ZpG) 0=([1,1,5,5],0):=by kernel_rfl
def ZpK (W:World) (c:List In3):Ending→World→Prop:=fun e w'=>(∃ h:Hd,e=.returned (.agg #[.slice h.co 0 h.cc,.slice h.so 0 h.sc,.slice h.eo 1 h.ec,.int .i64 0])∧Zay w' h (ZpE c))∧Below W.heap.size W w'
theorem ZpL (c:List In3) (ao:Option Addr) (cap:Nat) (w:World) (hc:Zar w ao cap c) (hl:c.length≤1000):Calls Tryz.prog 97 #[.slice ao c.length cap] w (ZpK w c):=by
 have HC:=Zh hc
 clear hc
 go_enter Tryz.func97,Tryz.ntmps97
 go_wp2
 obtain ⟨W4,hW4⟩:∃ W4,W4=(((w.alloc (Obj.cells #[Value.slice none 0 0,Value.slice none 0 0,Value.slice (some { block:=w.heap.size+1+1,off:=0 }) 1 1,Value.int IntKind.i64 0] 26)).alloc (Obj.cells #[Value.int IntKind.i64 1,Value.int IntKind.i64 0] 76)).alloc (Obj.cells #[Value.string { data:=#[97,46,102] },Value.int IntKind.i64 (-1),Value.slice none 0 0,Value.slice (some { block:=w.heap.size+1,off:=0 }) 1 1,Value.int IntKind.i64 0,Value.int IntKind.i64 0,Value.slice ao c.length cap] 81)):=⟨_,rfl⟩
 rw [←hW4]
 have hb:Below w.heap.size w W4:=by rw [hW4];exact bE
 have hx:Blk W4 w.heap.size #[Value.slice none 0 0,Value.slice none 0 0,Value.slice (some { block:=w.heap.size+1+1,off:=0 }) 1 1,Value.int IntKind.i64 0] 26:=by rw [hW4];exact ((Blk.new w _ _).alloc _).alloc _
 have r1:=ZlU (w.alloc (Obj.cells #[Value.slice none 0 0,Value.slice none 0 0,Value.slice (some { block:=w.heap.size+1+1,off:=0 }) 1 1,Value.int IntKind.i64 0] 26)) ([⟨1,0⟩]:List Ty) _ 76 rfl
 have r2:=ZlU ((w.alloc (Obj.cells #[Value.slice none 0 0,Value.slice none 0 0,Value.slice (some { block:=w.heap.size+1+1,off:=0 }) 1 1,Value.int IntKind.i64 0] 26)).alloc (Obj.cells #[Value.int IntKind.i64 1,Value.int IntKind.i64 0] 76)) (Zav (ZpF (w.heap.size+1) ao cap) (ZpE c)) _ 81 rfl
 rw [bls] at r1
 rw [bls,bls] at r2
 have hM:Zay W4 (ZpF (w.heap.size+1) ao cap) (ZpE c):=by
  rw [hW4]
  have h1:∀ {i:Nat},i<1→i=0:=fun h=>by omega
  refine ⟨Zar.nil _,Zar.nil _,r2,fun i hi=>absurd hi (Nat.not_lt_zero i),fun i hi=>absurd hi (Nat.not_lt_zero i),fun i hi=>?_,fun i hi=>?_,fun i hi=>?_,fun i hi=>absurd hi (Nat.not_lt_zero i),fun i hi=>?_,⟨by show (0:Nat)≤_;omega,by show (0:Nat)≤_;omega,by show (1:Nat)≤_;omega⟩⟩
  ·obtain rfl:=h1 hi;exact Zar.nil _
  ·obtain rfl:=h1 hi;exact r1.alloc _
  ·obtain rfl:=h1 hi;exact HC.out.old bE
  ·obtain rfl:=h1 hi;exact ⟨by show (0:Nat)≤_;omega,by show (1:Nat)≤_;omega,by show c.length≤_;omega⟩
 have x0:=hx.cell 0 (v:=.slice none 0 0) rfl
 have x1:=hx.cell 1 (v:=.slice none 0 0) rfl
 have x2:=hx.cell 2 (v:=.slice (some { block:=w.heap.size+1+1,off:=0 }) 1 1) rfl
 have x3:=hx.cell 3 (v:=.int .i64 0) rfl
 clear r1 r2 hW4
 refine bodyPost_ret (v:=.agg #[.slice none 0 0,.slice none 0 0,.slice (some { block:=w.heap.size+1+1,off:=0 }) 1 1,.int .i64 0]) (by simp [results,Tryz.results97,go_sem,x0,x1,x2,x3]) rfl ?_
 exact ⟨⟨_,rfl,hM⟩,hb⟩
end
section
open Go.RowKit
theorem ZpM (w:World) (ao bo:Option Addr) (ac bc:Nat) (a b:List Int) (ha:Zar w ao ac a) (hb:Zar w bo bc b) (hl:a.length≤2000000):Calls Tryz.prog 52 #[.slice ao a.length ac,.slice bo b.length bc] w (Ret w (.bool (decide (a=b)))):=by
 have HA:=Zh ha
 have HB:=Zh hb
 clear ha hb
 by_cases hn:a.length=b.length
 ·have hn2:(a.length:Int)=b.length:=by omega
  rw [←hn]
  have HN:=Zh hn
  clear hn hn2
  go_enter Tryz.func52,Tryz.ntmps52
  go_wp2
  go_loopw [5] (fun i wr=>∃ k:Nat,k≤a.length∧i=.int .i64 k∧Hid (Below w.heap.size w wr)∧Hid (∀ j,j<k→a.getD j 0=b.getD j 0)) (fun i _=>a.length-(intOf i).toNat)
  case atStart=>exact ⟨0,Nat.zero_le _,rfl,by exact bE,fun j h=>by omega⟩
  case round=>
   obtain ⟨k,hk,rfl,HBr,HE⟩:=hrel
   rename World=>wo
   by_cases hkl:k<a.length
   ·obtain ⟨ad,rfl,c0⟩:=ZaB (HA.out.old HBr.out) hkl
    obtain ⟨bd,rfl,c1⟩:=ZaB (HB.out.old HBr.out) (show k<b.length by have:=HN.out;omega)
    have hkl2:(k:Int) < a.length:=by omega
    have hwk:IntKind.i64.wrap ((k:Int)+1)=((k+1:Nat):Int):=IntWalk.i64_in _ (by omega)
    obtain ⟨x,hx⟩:∃ x,x=a.getD k 0:=⟨_,rfl⟩
    obtain ⟨y,hy⟩:∃ x,x=b.getD k 0:=⟨_,rfl⟩
    rw [←hx] at c0
    rw [←hy] at c1
    have HX:=Zh hx
    have HY:=Zh hy
    clear hx hy
    go_upto_region 6 with fail
    refine rO (Cs [(ad.add k,.int .i64 x),(bd.add k,.int .i64 y)]) (oL [0,1,2,3,4,5,6,7,8]) ⟨c0,c1,trivial⟩ ?_
    clear c0 c1
    repeat refine pO ?_
    refine Zd5 ?_
    by_cases hxy:x=y
    ·subst hxy
     go_wp2
     exact ⟨⟨k+1,by omega,rfl,HBr.out.drew,fun j hj=>by
      by_cases h2:j=k
      ·subst h2;rw [←HX.out,←HY.out]
      ·exact HE.out j (by omega)⟩,by simp [intOf];omega⟩
    ·go_wp2
     go_ret
     rw [decide_eq_false (fun e:a=b=>hxy (by rw [HX.out,HY.out,e]))]
     exact ZcT rfl HBr.out.drew
   ·obtain rfl:k=a.length:=by omega
    have hj5:¬ (a.length:Int) < a.length:=by omega
    go_wp2
    go_ret
    rw [decide_eq_true (show a=b from List.ext_getElem HN.out fun j h1 h2=>by have:=HE.out j h1;simpa [h1,h2] using this)]
    exact ZcT rfl HBr.out
 ·have hn2:¬ (a.length:Int)=b.length:=by omega
  rw [decide_eq_false (fun e=>hn (by rw [e]))]
  go_enter Tryz.func52,Tryz.ntmps52
  go_wp2
  go_ret
  exact ZcT rfl bE
theorem ZpN (W:World):Calls Tryz.prog 45 #[] W (Ret W (.bool true)):=by
 obtain ⟨w0,hw0⟩:∃ w0,w0=W.alloc (Obj.cells #[.int .i64 1,.int .i64 3,.int .i64 0,.int .i64 30,.int .i64 5,.int .i64 0,.int .i64 0,.int .i64 0,.int .i64 0,.int .i64 35,.int .i64 0,.int .i64 0] 78):=⟨_,rfl⟩
 have hO:=ZpL ZpG (some ⟨W.heap.size,0,none⟩) 4 w0 (by rw [hw0];exact ZlU W ZpG _ _ rfl) (by decide)
 have HO:=Zh hO
 have HB0:=Zh (show Below W.heap.size W w0 by rw [hw0];exact bE)
 have HW:=Zh hw0
 clear hO hw0
 go_enter Tryz.func45,Tryz.ntmps45
 go_upto_region 2 with (go_at_call 97;rw [←HW.out];refine HO.out.mono ?_;rintro e w1 ⟨⟨h,rfl,hM⟩,hb1⟩;have HM1:=Zh hM;have HB1:=Zh (Zaf HB0.out hb1);clear hM hb1)
 obtain ⟨w2,hw2⟩:∃ w2,w2=w1.alloc (.cells #[.slice h.co 0 h.cc,.slice h.so 0 h.sc,.slice h.eo 1 h.ec,.int .i64 0] 26):=⟨_,rfl⟩
 have HB2:=Zh (show Below w1.heap.size w1 w2 by rw [hw2];exact bE)
 have HX2:=Zh (show Blk w2 w1.heap.size #[.slice h.co 0 h.cc,.slice h.so 0 h.sc,.slice h.eo 1 h.ec,.int .i64 0] 26 by rw [hw2];exact Blk.new _ _ _)
 have HM2:=Zh (HM1.out.old HB2.out)
 rw [←hw2]
 clear hw2
 have HWo:=Zh (show ∀ w',Below w2.heap.size w2 w'→Calls Tryz.prog 54 #[.agg #[.slice h.co 0 h.cc,.slice h.so 0 h.sc,.slice h.eo 1 h.ec,.int .i64 0],.int .i64 0] w' (Zhf w' (.int .i64 13) (.int .i64 0)) from fun w' hb=>by
   have:=Zo3 (ZpE ZpG) h 0 w' (HM2.out.old hb)
   rw [ZpH] at this
   exact this)
 have HLe:=Zh (show ∀ w',Below w2.heap.size w2 w'→Calls Tryz.prog 98 #[.agg #[.slice h.co 0 h.cc,.slice h.so 0 h.sc,.slice h.eo 1 h.ec,.int .i64 0],.int .i64 0] w' (Zhf w' (.int .i64 3) (.int .i64 0)) from fun w' hb=>by
   have:=Zpw (ZpE ZpG) h 0 w' (HM2.out.old hb)
   rw [ZpI] at this
   exact this)
 have HTi:=Zh (show ∀ w',Below w2.heap.size w2 w'→Calls Tryz.prog 99 #[.agg #[.slice h.co 0 h.cc,.slice h.so 0 h.sc,.slice h.eo 1 h.ec,.int .i64 0],.int .i64 0] w' (Zik w' ([1,1,5,5]:List Int) 0) from fun w' hb=>by
   have:=ZpD (ZpE ZpG) h 0 w' (HM2.out.old hb)
   rw [ZpJ] at this
   exact this)
 have HBN:=Zh (Below.refl w2.heap.size w2)
 have hx:=HX2.out.old HBN.out;have x0:=hx.cell 0 (v:=.slice h.co 0 h.cc) rfl;have x1:=hx.cell 1 (v:=.slice h.so 0 h.sc) rfl;have x2:=hx.cell 2 (v:=.slice h.eo 1 h.ec) rfl;have x3:=hx.cell 3 (v:=.int .i64 0) rfl;clear hx
 go_wp2_with (first
   | (go_at_call 54;refine (HWo.out _ HBN.out).mono ?_;rintro e w3 ⟨rfl,hb3⟩;have HBN:=Zh (Zaf HBN.out hb3);clear hb3 x0 x1 x2 x3;have hx:=HX2.out.old HBN.out;have x0:=hx.cell 0 (v:=.slice h.co 0 h.cc) rfl;have x1:=hx.cell 1 (v:=.slice h.so 0 h.sc) rfl;have x2:=hx.cell 2 (v:=.slice h.eo 1 h.ec) rfl;have x3:=hx.cell 3 (v:=.int .i64 0) rfl;clear hx)
   | (go_at_call 98;refine (HLe.out _ HBN.out).mono ?_;rintro e w4 ⟨rfl,hb4⟩;have HBN:=Zh (Zaf HBN.out hb4);clear hb4 x0 x1 x2 x3;have hx:=HX2.out.old HBN.out;have x0:=hx.cell 0 (v:=.slice h.co 0 h.cc) rfl;have x1:=hx.cell 1 (v:=.slice h.so 0 h.sc) rfl;have x2:=hx.cell 2 (v:=.slice h.eo 1 h.ec) rfl;have x3:=hx.cell 3 (v:=.int .i64 0) rfl;clear hx)
   | (go_at_call 99;refine (HTi.out _ HBN.out).mono ?_;rintro e w5 ⟨⟨ao,cap,rfl,hr,-⟩,hb5⟩;have HBN:=Zh (Zaf HBN.out hb5);have HR:=Zh hr;clear hb5 hr x0 x1 x2 x3)
   | (go_at_call 52
      have hI:=ZpM (w5.alloc (.cells #[.int .i64 1,.int .i64 1,.int .i64 5,.int .i64 5] 3)) ao (some ⟨w5.heap.size,0,none⟩) cap 4 ([1,1,5,5]:List Int) ([1,1,5,5]:List Int) (HR.out.old bE) (ZlU w5 ([1,1,5,5]:List Int) _ _ rfl) (by decide)
      rw [decide_eq_true rfl] at hI
      refine hI.mono ?_
      rintro e w6 ⟨rfl,hb6⟩
      have HB6:=Zh (Zaf (show Below w2.heap.size w2 _ from bal HBN.out _) hb6)
      clear hb6 hI))
 go_ret
 exact ZcT rfl (Zaf HB1.out (Zaf HB2.out HB6.out))
end
end Go.Proofs.YtcfjblcgceednaaGreat
