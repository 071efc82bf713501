/- Joined texts. The first: Which methods a method may call: link.calls. -/
import Derived.Test.YtcfjblcgceednaaGreatG28
import Derived.Test.YtcfjblcgceednaaGreatG29
set_option linter.all false
set_option linter.unusedVariables false
set_option linter.unusedSimpArgs false
set_option maxRecDepth 100000
set_option maxHeartbeats 8000000
namespace Go.Proofs.YtcfjblcgceednaaGreat
theorem kC4{p:Prop}(h:p:=by
 clear hown
 go_roundw
 case rel=>
  have h9:=HO9.out
  refine ⟨j+1,ao1,cap1,by omega,by go_num,by rw [HY.out,List.length_append];rfl,(show World.ownsRow _ _ _ _ _ _ _ from ?_),HB9.out⟩
  rw [HY.out,List.length_append,List.map_append]
  exact h9
 case measure=>simp [intOf];omega):p:=h
theorem kC5{p:Prop}(h:p:=by
 go_roundw
 case rel=>
  have h9:=HO9.out
  refine ⟨j+1,ao1,cap1,by omega,by go_num,by rw [HY.out,List.length_append],(show World.ownsRow _ _ _ _ _ _ _ from ?_),HB9.out⟩
  rw [HY.out,List.length_append,List.map_append]
  exact h9
 case measure=>simp [intOf];omega):p:=h
section
open Go.RowKit
attribute [local go_sem] World.cell?_alloc_some
def ZpO (m:Md) (i:In3):List Int:=if i.op=25 then [i.a] else if i.op=26 then ZaN m i.a else []
def ZpP (m:Md) (c:List In3) (j:Nat):List Int:=(c.take j).flatMap (ZpO m)
def ZpQ (m:Md) (k:Nat):List Int:=ZaM (ZpP m (cdM m k) (cdM m k).length)
theorem ZpR {m:Md}{c:List In3}{j:Nat} (hj:j<c.length):ZpP m c (j+1)=ZpP m c j++ZpO m (c.getD j default):=by
 unfold ZpP
 rw [Zal c j hj,List.flatMap_append]
 simp
theorem ZpS {m:Md} (h:m.cl.length≤10) (i:In3):(ZpO m i).length≤10:=by
 unfold ZpO
 have:=ZdG m i.a
 split
 ·simp
 ·split
  ·omega
  ·simp
theorem ZpT {m:Md} (h:m.cl.length≤10) (c:List In3):∀ j,j≤c.length→(ZpP m c j).length≤10*j
 | 0,_=>by simp [ZpP]
 |j+1,hj=>by
  rw [ZpR (by omega),List.length_append]
  have:=ZpS h (c.getD j default)
  have:=ZpT h c j (by omega)
  omega
theorem ZpU (m:Md) (h:Hd) (k:Nat) (w:World) (H:Zay w h m) (hv:Za1 m=true) (hk:k<m.me.length):Calls Tryz.prog 177 #[.agg #[.slice h.co m.cl.length h.cc,.slice h.so m.st.length h.sc,.slice h.eo m.me.length h.ec,.int .i64 m.sel],.int .i64 k] w (ZdF w (ZpQ m k)):=by
 obtain ⟨w0,hw0⟩:∃ w0,w0=w.alloc (.cells #[.slice h.co m.cl.length h.cc,.slice h.so m.st.length h.sc,.slice h.eo m.me.length h.ec,.int .i64 m.sel] 26):=⟨_,rfl⟩
 have HB:=Zh (show Below w.heap.size w w0 by rw [hw0];exact bE)
 have HX:=Zh (show Blk w0 w.heap.size #[.slice h.co m.cl.length h.cc,.slice h.so m.st.length h.sc,.slice h.eo m.me.length h.ec,.int .i64 m.sel] 26 by rw [hw0];exact Blk.new _ _ _)
 have HM:=Zh (H.old HB.out)
 have HW:=Zh hw0
 have hok:=ZfN hv hk
 have hc:(cdM m k).length≤120:=hok.z.2.2
 have hsz:=Zin hv
 have HTg:=Zh (show ∀ (w':World) (s:Int),Below w0.heap.size w0 w'→0≤s→s<m.sel→_ from fun w' s hb h0 h1=>ZdR m h s w' (HM.out.old hb) ⟨h0,h1⟩ hsz.1 (fun j hj=>Zg9 (Zil hv j hj)))
 have HLn:=Zh (fun j hj=>ZpT (m:=m) hsz.1 (cdM m k) j hj)
 have HI:=Zh (show ∀ i∈cdM m k,i.op=26→0≤i.a∧i.a<m.sel from fun i hi h26=>⟨(ZfS (hok.i i hi).1 (hok.i i hi).2).a0 (by omega),((ZfS (hok.i i hi).1 (hok.i i hi).2).o26 h26).1⟩)
 have hk2:(k:Int) < m.me.length:=by omega
 obtain ⟨ea,he,-,-,-,-,-,-,e6⟩:=HM.out.mth hk
 rw [show (m.me.getD k default).k.length=(cdM m k).length from rfl] at e6
 have HTl:=Zh (fun s=>ZdG m s)
 have HC10:=Zh hsz.1
 have HK:=Zh (show ∀ w',Below w0.heap.size w0 w'→Zar w' (h.e k).ko (h.e k).kc (cdM m k) from fun w' hb=>(HM.out.old hb).k k hk)
 generalize (h.e k).ko=ko at e6 HK
 generalize (h.e k).kc=kc at e6 HK
 rw [he] at HW HX HTg ⊢
 clear hw0 H hok hsz he hv
 go_enter Tryz.func177,Tryz.ntmps177
 go_upto_region 1 with fail
 rw [←HW.out]
 have x2:=HX.out.cell 2 (v:=.slice (some ea) m.me.length h.ec) rfl
 go_wp2_with fail
 clear x2 e6
 go_loopw [5,15] (fun o i wr=>∃ (j:Nat) (ao:Option Addr) (cap:Nat),j≤(cdM m k).length∧i=.int .i64 j∧o=.slice ao (ZpP m (cdM m k) j).length cap∧Hid (wr.ownsRow w0.heap.size 3 1 (.slice ao (ZpP m (cdM m k) j).length cap) (ZpP m (cdM m k) j).length ((ZpP m (cdM m k) j).map (Value.int .i64)))∧Hid (Below w0.heap.size w0 wr)) (fun _ i _=>(cdM m k).length-(intOf i).toNat)
 case atStart=>exact ⟨0,none,0,Nat.zero_le _,rfl,rfl,World.ownsRow_nil _ _ _ _,Below.refl _ _⟩
 case round=>
  obtain ⟨j,ao,cap,hj,rfl,rfl,HO,HBr⟩:=hrel
  have hlen:=HLn.out j hj
  by_cases hjl:j<(cdM m k).length
  ·obtain ⟨ad,rfl,o0,o1,o2⟩:=ZaA (HK.out _ HBr.out) hjl
   have hsu:=ZpR (m:=m) hjl
   have hIa:=HI.out ((cdM m k).getD j default) (ZfU _ hjl)
   obtain ⟨i,hi⟩:∃ i,i=(cdM m k).getD j default:=⟨_,rfl⟩
   rw [←hi] at o0 o1 o2 hsu hIa
   obtain ⟨op,ia,ib⟩:=i
   dsimp only at o0 o1 o2 hIa
   have hjl2:(j:Int) < (cdM m k).length:=by omega
   have hwj:IntKind.i64.wrap ((j:Int)+1)=j+1:=IntWalk.i64_in _ (by omega)
   generalize hzs:ZpP m (cdM m k) j=zs at HO hlen hsu ⊢
   clear hzs hi
   have hsz0:=HBr.out.size
   by_cases h25:op=25
   ·subst h25
    have HY:=Zh (show ZpP m (cdM m k) (j+1)=zs++[ia] from hsu)
    have hown:=HO.out
    clear hsu hIa
    go_wp2_with (at_builtin;refine Zaj rfl (.tmp 23) (.tmp 26) 34 rfl w0.heap.size 3 1 8 Zcq (.slice ao zs.length cap) zs.length (zs.map (Value.int .i64)) rfl ((hown.alloc _).alloc _) _ 1 1 [.int .i64 ia] rfl (ZdL (Blk.new' #[.int .i64 ia] 3 (by simp)) rfl) (by intro u hu;rw [List.mem_singleton.1 hu];rfl) (by omega) (by unfold maxLen;omega) (by have:=HBr.out.size;simp;omega) ?_;intro ao1 cap1 w10 hown9 hg9;have HO9:=Zh hown9;have HB9:=Zh (ZcV (bal (bal HBr.out _) _) hg9 (fun j hj=>(hown.lt j hj).1));clear hown9 hg9)
    exact kC4
   ·by_cases h26:op=26
    ·subst h26
     have HY:=Zh (show ZpP m (cdM m k) (j+1)=zs++ZaN m ia from hsu)
     obtain ⟨h0,h1⟩:=hIa rfl
     have HT1:=Zh (fun w' hb=>HTg.out w' ia hb h0 h1)
     have htl:=HTl.out ia
     have h10:=HC10.out
     generalize ZaN m ia=ts at HT1 HY htl
     have htl10:ts.length≤10:=by omega
     have hX:=HX
     have x0:=(HX.out.old HBr.out).cell 0 (v:=.slice h.co m.cl.length h.cc) rfl
     have x1:=(HX.out.old HBr.out).cell 1 (v:=.slice h.so m.st.length h.sc) rfl
     have x2:=(HX.out.old HBr.out).cell 2 (v:=.slice (some ea) m.me.length h.ec) rfl
     have x3:=(HX.out.old HBr.out).cell 3 (v:=.int .i64 m.sel) rfl
     clear hsu hIa htl h10 h0 h1 hX
     go_wp2_with (first
      | (go_at_call 243;refine (HT1.out _ (bal HBr.out _)).mono ?_;rintro e w2 ⟨⟨bo,bc,rfl,hr2,-⟩,hb2⟩;have hown:=ZhI (HO.out.alloc _) fun q hq=>hb2.block q ((HO.out.alloc _).lt q hq).2;have HB2:=Zh (Zaf (bal HBr.out _) hb2);have HR2:=Zh (show SlA w2 1 bo ts.length bc (ts.map (Value.int .i64)) by rw [←Zat];exact hr2);clear hb2 hr2 x0 x1 x2 x3)
      | (at_builtin;refine Zaj rfl (.tmp 30) (.tmp 34) 34 rfl w0.heap.size 3 1 8 Zcq (.slice ao zs.length cap) zs.length (zs.map (Value.int .i64)) rfl hown _ ts.length _ (ts.map (Value.int .i64)) rfl HR2.out (by intro u hu;obtain ⟨z,-,rfl⟩:=List.mem_map.1 hu;rfl) (by omega) (by unfold maxLen;omega) HB2.out.size ?_;intro ao1 cap1 w10 hown9 hg9;have HO9:=Zh hown9;have HB9:=Zh (ZcV HB2.out hg9 (fun j hj=>(hown.lt j hj).1));clear hown9 hg9 hown))
     exact kC5
    ·have HY:=Zh (show ZpP m (cdM m k) (j+1)=zs by rw [hsu];unfold ZpO;rw [if_neg h25,if_neg h26,List.append_nil])
     clear hsu hIa
     go_wp2
     all_goals
      go_roundw
      case rel=>exact ⟨j+1,ao,cap,by omega,by go_num,by rw [HY.out],(by rw [HY.out];exact HO.out.alloc _),bal HBr.out _⟩
      case measure=>simp [intOf];omega
  ·obtain rfl:j=(cdM m k).length:=by omega
   have hall:ZpQ m k=ZaM (ZpP m (cdM m k) (cdM m k).length):=rfl
   generalize ZpP m (cdM m k) (cdM m k).length=zs at HO hlen hall ⊢
   have HAll:=Zh hall
   have hcm:=ZdD zs
   have HC:=Zh hcm
   have hsl:=ZdA zs
   clear hall hcm
   go_wp2_with fail
   refine (ZdJ ao zs.length cap zs _ HO.out (by omega) HBr.out.size).mono ?_
   rintro e1 w1 ⟨rfl,hown1,hb1⟩
   have HO1:=Zh hown1
   have HB1:=Zh hb1
   clear hown1 hb1
   go_wp2_with fail
   refine (ZdK ao zs.length cap (zs.mergeSort fun x y=>decide (x≤y)) _ HO1.out (by omega) (by have:=HBr.out.size;have:=HB1.out.size;omega) (by rw [HC.out];exact hsl)).mono ?_
   rintro e2 w2 ⟨rfl,hown2,hb2⟩
   have HO2:=Zh hown2
   have HB2:=Zh hb2
   clear hown2 hb2
   go_wp2
   go_ret
   refine ⟨⟨ao,cap,by rw [HC.out,HAll.out];rfl,?_⟩,?_⟩
   ·have h2:=HO2.out
    rw [HC.out] at h2
    rw [HAll.out]
    refine ⟨Zar.of_own (by rw [Zat];exact h2),fun a ha=>?_⟩
    subst ha
    have:=(h2.lt a.block rfl).1
    have:=HB.out.size
    omega
   ·exact Zaf HB.out ((HBr.out.trans HB1.out).trans HB2.out)
end
section
open Go.RowKit
attribute [local go_sem] World.cell?_alloc_some
theorem ZpV (m:Md) (h:Hd) (k:Nat) (w:World) (H:Zay w h m) (hv:Za1 m=true) (hk:k<m.me.length):Calls Tryz.prog 64 #[.agg #[.slice h.co m.cl.length h.cc,.slice h.so m.st.length h.sc,.slice h.eo m.me.length h.ec,.int .i64 m.sel],.int .i64 k] w (ZdF w (ZpQ m k)):=by
 obtain ⟨w0,hw0⟩:∃ w0,w0=w.alloc (.cells #[.slice h.co m.cl.length h.cc,.slice h.so m.st.length h.sc,.slice h.eo m.me.length h.ec,.int .i64 m.sel] 26):=⟨_,rfl⟩
 have HB:=Zh (show Below w.heap.size w w0 by rw [hw0];exact bE)
 have HX:=Zh (show Blk w0 w.heap.size #[.slice h.co m.cl.length h.cc,.slice h.so m.st.length h.sc,.slice h.eo m.me.length h.ec,.int .i64 m.sel] 26 by rw [hw0];exact Blk.new _ _ _)
 have HM:=Zh (H.old HB.out)
 have HW:=Zh hw0
 have hok:=ZfN hv hk
 have hc:(cdM m k).length≤120:=hok.z.2.2
 have hsz:=Zin hv
 have HTg:=Zh (show ∀ (w':World) (s:Int),Below w0.heap.size w0 w'→0≤s→s<m.sel→_ from fun w' s hb h0 h1=>Zgz m h s w' (HM.out.old hb) ⟨h0,h1⟩ hsz.1 (fun j hj=>Zg9 (Zil hv j hj)))
 have HLn:=Zh (fun j hj=>ZpT (m:=m) hsz.1 (cdM m k) j hj)
 have HI:=Zh (show ∀ i∈cdM m k,i.op=26→0≤i.a∧i.a<m.sel from fun i hi h26=>⟨(ZfS (hok.i i hi).1 (hok.i i hi).2).a0 (by omega),((ZfS (hok.i i hi).1 (hok.i i hi).2).o26 h26).1⟩)
 have hk2:(k:Int) < m.me.length:=by omega
 obtain ⟨ea,he,-,-,-,-,-,-,e6⟩:=HM.out.mth hk
 rw [show (m.me.getD k default).k.length=(cdM m k).length from rfl] at e6
 have HTl:=Zh (fun s=>ZdG m s)
 have HC10:=Zh hsz.1
 have HK:=Zh (show ∀ w',Below w0.heap.size w0 w'→Zar w' (h.e k).ko (h.e k).kc (cdM m k) from fun w' hb=>(HM.out.old hb).k k hk)
 generalize (h.e k).ko=ko at e6 HK
 generalize (h.e k).kc=kc at e6 HK
 rw [he] at HW HX HTg ⊢
 clear hw0 H hok hsz he hv
 go_enter Tryz.func64,Tryz.ntmps64
 go_upto_region 1 with fail
 rw [←HW.out]
 have x2:=HX.out.cell 2 (v:=.slice (some ea) m.me.length h.ec) rfl
 go_wp2_with fail
 clear x2 e6
 go_loopw [5,7] (fun o i wr=>∃ (j:Nat) (ao:Option Addr) (cap:Nat),j≤(cdM m k).length∧i=.int .i64 j∧o=.slice ao (ZpP m (cdM m k) j).length cap∧Hid (wr.ownsRow w0.heap.size 3 1 (.slice ao (ZpP m (cdM m k) j).length cap) (ZpP m (cdM m k) j).length ((ZpP m (cdM m k) j).map (Value.int .i64)))∧Hid (Below w0.heap.size w0 wr)) (fun _ i _=>(cdM m k).length-(intOf i).toNat)
 case atStart=>exact ⟨0,none,0,Nat.zero_le _,rfl,rfl,World.ownsRow_nil _ _ _ _,Below.refl _ _⟩
 case round=>
  obtain ⟨j,ao,cap,hj,rfl,rfl,HO,HBr⟩:=hrel
  have hlen:=HLn.out j hj
  by_cases hjl:j<(cdM m k).length
  ·obtain ⟨ad,rfl,o0,o1,o2⟩:=ZaA (HK.out _ HBr.out) hjl
   have hsu:=ZpR (m:=m) hjl
   have hIa:=HI.out ((cdM m k).getD j default) (ZfU _ hjl)
   obtain ⟨i,hi⟩:∃ i,i=(cdM m k).getD j default:=⟨_,rfl⟩
   rw [←hi] at o0 o1 o2 hsu hIa
   obtain ⟨op,ia,ib⟩:=i
   dsimp only at o0 o1 o2 hIa
   have hjl2:(j:Int) < (cdM m k).length:=by omega
   have hwj:IntKind.i64.wrap ((j:Int)+1)=j+1:=IntWalk.i64_in _ (by omega)
   generalize hzs:ZpP m (cdM m k) j=zs at HO hlen hsu ⊢
   have HIi:=Zh hi
   clear hzs hi
   have hsz0:=HBr.out.size
   by_cases h25:op=25
   ·subst h25
    have HY:=Zh (show ZpP m (cdM m k) (j+1)=zs++[ia] from hsu)
    have hown:=HO.out
    have HR0:=Zh (HK.out _ HBr.out)
    clear hsu hIa
    go_wp2_with (at_builtin;refine Zaj rfl (.tmp 26) (.tmp 32) 34 rfl w0.heap.size 3 1 8 Zcq (.slice ao zs.length cap) zs.length (zs.map (Value.int .i64)) rfl (hown.alloc _) _ 1 1 [.int .i64 ia] rfl (ZdL (Blk.new' #[.int .i64 ia] 3 (by simp)) rfl) (by intro u hu;rw [List.mem_singleton.1 hu];rfl) (by omega) (by unfold maxLen;omega) (by have:=HBr.out.size;simp;omega) ?_;intro ao1 cap1 w10 hown9 hg9;have HO9:=Zh hown9;have HB9:=Zh (ZcV (bal HBr.out _) hg9 (fun j hj=>(hown.lt j hj).1));have q:=ZaA (HK.out _ HB9.out) hjl;rw [←HIi.out] at q;obtain ⟨ad2,had,o3,-,-⟩:=q;cases had;dsimp only at o3;clear hown9 hg9 o0 o1 o2)
    exact kC4
   ·by_cases h26:op=26
    ·subst h26
     have HY:=Zh (show ZpP m (cdM m k) (j+1)=zs++ZaN m ia from hsu)
     obtain ⟨h0,h1⟩:=hIa rfl
     have HT1:=Zh (fun w' hb=>HTg.out w' ia hb h0 h1)
     have htl:=HTl.out ia
     have h10:=HC10.out
     generalize ZaN m ia=ts at HT1 HY htl
     have htl10:ts.length≤10:=by omega
     have x0:=(HX.out.old HBr.out).cell 0 (v:=.slice h.co m.cl.length h.cc) rfl
     have x1:=(HX.out.old HBr.out).cell 1 (v:=.slice h.so m.st.length h.sc) rfl
     have x2:=(HX.out.old HBr.out).cell 2 (v:=.slice (some ea) m.me.length h.ec) rfl
     have x3:=(HX.out.old HBr.out).cell 3 (v:=.int .i64 m.sel) rfl
     clear hsu hIa htl h10 h0 h1
     go_upto_region 9 with fail
     refine rO (Cs [(⟨w.heap.size,0,none⟩,.slice h.co m.cl.length h.cc),(⟨w.heap.size,1,none⟩,.slice h.so m.st.length h.sc),(⟨w.heap.size,2,none⟩,.slice (some ea) m.me.length h.ec),(⟨w.heap.size,3,none⟩,.int .i64 m.sel),(_,.int .i64 ia)]) (oL [0,1,2,3,4,5,6,107,108,9]) ⟨x0,x1,x2,x3,o1,trivial⟩ ?_
     repeat refine pO ?_
     refine oO fun Kv hK=>?_
     go_simp
     have HBd:=Zh HBr.out.drew
     refine (HT1.out _ HBd.out).mono ?_
     rintro e w2 ⟨⟨bo,bc,rfl,hr2,-⟩,hb2⟩
     have hown:=ZhI (Zco HO.out) fun q hq=>hb2.block q ((Zco HO.out).lt q hq).2
     have HB2:=Zh (Zaf HBd.out hb2)
     have HR2:=Zh (show SlA w2 1 bo ts.length bc (ts.map (Value.int .i64)) by rw [←Zat];exact hr2)
     have HC2:=Zh (Cs.keeps (ZnF.of hb2) (show Cs [(⟨w.heap.size,0,none⟩,.slice h.co m.cl.length h.cc),(⟨w.heap.size,1,none⟩,.slice h.so m.st.length h.sc),(⟨w.heap.size,2,none⟩,.slice (some ea) m.me.length h.ec),(⟨w.heap.size,3,none⟩,.int .i64 m.sel),(_,.int .i64 ia)] wr.drew from ⟨x0,x1,x2,x3,o1,trivial⟩))
     refine hK _ _ ⟨HC2.out,?_⟩
     clear hK Kv hb2 hr2 x0 x1 x2 x3
     repeat refine pO ?_
     refine oO fun Kv hK=>?_
     refine Zej (.tmp 40) (.tmp 47) 34 rfl w0.heap.size 3 1 8 Zcq _ zs.length _ rfl hown _ _ _ _ rfl HR2.out (by intro u hu;obtain ⟨z,-,rfl⟩:=List.mem_map.1 hu;rfl) (by omega) (by unfold maxLen;omega) HB2.out.size ?_
     intro ao1 cap1 w10 hown9 hg9
     have HO9:=Zh hown9
     have HB9:=Zh (ZcV HB2.out hg9 (fun j hj=>(hown.lt j hj).1))
     refine hK _ _ ⟨?_,?_⟩
     ·have q:=ZaA (HK.out _ HB9.out) hjl
      rw [←HIi.out] at q
      obtain ⟨ad2,had,-,o4,-⟩:=q
      cases had
      exact ⟨(HX.out.old HB9.out).cell 0 rfl,(HX.out.old HB9.out).cell 1 rfl,(HX.out.old HB9.out).cell 2 rfl,(HX.out.old HB9.out).cell 3 rfl,o4,trivial⟩
     clear hK Kv hown9 hg9 hown
     repeat refine pO ?_
     refine Zd5 ?_
     go_wp2
     exact kC5
    ·have HY:=Zh (show ZpP m (cdM m k) (j+1)=zs by rw [hsu];unfold ZpO;rw [if_neg h25,if_neg h26,List.append_nil])
     clear hsu hIa
     go_wp2
     all_goals
      go_roundw
      case rel=>exact ⟨j+1,ao,cap,by omega,by go_num,by rw [HY.out],(by rw [HY.out];exact HO.out),HBr.out⟩
      case measure=>simp [intOf];omega
  ·obtain rfl:j=(cdM m k).length:=by omega
   have hall:ZpQ m k=ZaM (ZpP m (cdM m k) (cdM m k).length):=rfl
   generalize ZpP m (cdM m k) (cdM m k).length=zs at HO hlen hall ⊢
   have HAll:=Zh hall
   have hr:Zar wr ao cap zs:=Zar.of_own (by rw [Zat];exact HO.out)
   have HR:=Zh hr
   clear hall hr
   go_wp2_with fail
   refine (Zek zs ao cap _ HR.out (by omega)).mono ?_
   rintro e1 w1 ⟨⟨ao1,cap1,rfl,hown1⟩,hb1⟩
   have HO1:=Zh hown1
   have HB1:=Zh hb1
   clear hown1 hb1
   go_wp2
   go_ret
   refine ⟨⟨ao1,cap1,by rw [HAll.out];rfl,?_,fun a ha=>?_⟩,?_⟩
   ·rw [HAll.out]
    exact Zar.of_own (by rw [Zat];exact HO1.out)
   ·subst ha
    have h1:=(HO1.out.lt a.block rfl).1
    have h2:=HB.out.size
    have h3:=HBr.out.size
    omega
   ·exact Zaf HB.out (Zaf HBr.out HB1.out)
theorem ZpW (m:Md) (h:Hd) (k:Nat) (w:World) (H:Zay w h m) (hv:Za1 m=true) (hk:k<m.me.length):Calls Tryz.prog 18 #[.agg #[.slice h.co m.cl.length h.cc,.slice h.so m.st.length h.sc,.slice h.eo m.me.length h.ec,.int .i64 m.sel],.int .i64 k] w (Zik w (ZpQ m k) 0):=by
 obtain ⟨w0,hw0⟩:∃ w0,w0=w.alloc (.cells #[.slice h.co m.cl.length h.cc,.slice h.so m.st.length h.sc,.slice h.eo m.me.length h.ec,.int .i64 m.sel] 26):=⟨_,rfl⟩
 have HB:=Zh (show Below w.heap.size w w0 by rw [hw0];exact bE)
 have HX:=Zh (show Blk w0 w.heap.size #[.slice h.co m.cl.length h.cc,.slice h.so m.st.length h.sc,.slice h.eo m.me.length h.ec,.int .i64 m.sel] 26 by rw [hw0];exact Blk.new _ _ _)
 have HM:=Zh (H.old HB.out)
 have HW:=Zh hw0
 have HWi:=Zh (Zjk m h k m.me.length w0 HM.out hv (by omega))
 have HC:=Zh (show ∀ w',Below w0.heap.size w0 w'→_ from fun w' hb=>ZpV m h k w' (HM.out.old hb) hv hk)
 clear hw0 H hv
 go_enter Tryz.func18,Tryz.ntmps18
 go_upto_region 1 with fail
 rw [←HW.out]
 have x0:=HX.out.cell 0 (v:=.slice h.co m.cl.length h.cc) rfl;have x1:=HX.out.cell 1 (v:=.slice h.so m.st.length h.sc) rfl;have x2:=HX.out.cell 2 (v:=.slice h.eo m.me.length h.ec) rfl;have x3:=HX.out.cell 3 (v:=.int .i64 m.sel) rfl
 go_wp2_with (first
  | (go_at_call 63;refine HWi.out.mono ?_;rintro e w1 ⟨rfl,hb1⟩;have HB1:=Zh hb1;have x0:=(hb1.cell (Zac x0)).trans x0;have x1:=(hb1.cell (Zac x1)).trans x1;have x2:=(hb1.cell (Zac x2)).trans x2;have x3:=(hb1.cell (Zac x3)).trans x3;clear hb1)
  | (go_at_call 64;refine (HC.out _ HB1.out).mono ?_;rintro e w2 ⟨⟨ao,cap,rfl,hr,hn⟩,hb2⟩;have HR:=Zh (And.intro hr hn);have HB2:=Zh (Zaf HB1.out hb2);clear hr hn hb2))
 go_ret2
 exact ⟨⟨ao,cap,rfl,HR.out.1,fun a ha=>Nat.le_trans (Zaf HB.out HB1.out).size (HR.out.2 a ha)⟩,Zaf HB.out HB2.out⟩
end
section
open Go.RowKit
theorem ZpX {m:Md} (hv:Za1 m=true) {k:Nat} (hk:k<m.me.length) {t:Int} (h:t∈ZpQ m k):0≤t∧t<k:=by
 unfold ZpQ ZpP at h
 rw [Zdw,List.take_length] at h
 obtain ⟨i,hi,ht⟩:=List.mem_flatMap.1 h
 have ho:=ZfS ((ZfN hv hk).i i hi).1 ((ZfN hv hk).i i hi).2
 unfold ZpO at ht
 by_cases h25:i.op=25
 ·rw [if_pos h25,List.mem_singleton] at ht
  subst ht
  exact ⟨ho.a0 (by omega),(ho.o25 h25).1⟩
 ·rw [if_neg h25] at ht
  by_cases h26:i.op=26
  ·rw [if_pos h26] at ht
   exact ⟨ZfT ht,(ho.o26 h26).2 t ht⟩
  ·rw [if_neg h26] at ht;cases ht
theorem ZpY {m:Md} (hv:Za1 m=true) {k:Nat} (hk:k<m.me.length):(ZpQ m k).length≤1200:=by
 have h1:=ZdA (ZpP m (cdM m k) (cdM m k).length)
 have h2:=ZpT (Zin hv).1 (cdM m k) _ (Nat.le_refl _)
 have h3:=(ZfN hv hk).z.2.2
 have h4:(cdM m k).length≤120:=h3
 unfold ZpQ;omega
inductive Rch (m:Md) (k:Nat):Nat→Prop
 | refl:Rch m k k
 | step (i j:Nat):Rch m k i→(j:Int)∈ZpQ m i→Rch m k j
theorem Rch.le {m:Md} (hv:Za1 m=true) {k:Nat} (hk:k<m.me.length) {j:Nat} (h:Rch m k j):j≤k:=by
 induction h with
 | refl=>exact Nat.le_refl _
 | step i j h1 h2 ih=>have:=ZpX hv (by omega) h2;omega
theorem Rch.inv {m:Md}{k j:Nat} (h:Rch m k j):j=k∨∃ i,Rch m k i∧(j:Int)∈ZpQ m i:=by
 cases h with
 | refl=>exact .inl rfl
 | step i _ h1 h2=>exact .inr ⟨i,h1,h2⟩
def ZpZ (L:List Bool):Array Value:=(L.map Value.bool).toArray
def MkP (m:Md) (k:Nat) (L:List Bool) (q:Nat):Prop:=L.length=m.me.length∧∀ j,j<m.me.length→(L.getD j false=true↔j=k∨∃ i,q≤i∧Rch m k i∧(j:Int)∈ZpQ m i)
section
variable {m:Md}(hv:Za1 m=true){k:Nat}(hk:k<m.me.length)
include m hv k hk
theorem MkP.start:MkP m k ((List.replicate m.me.length false).set k true) (k+1):=by
 refine ⟨by simp,fun j hj=>?_⟩
 constructor
 ·intro h
  left
  by_cases e:j=k
  ·exact e
  ·rw [List.getD_eq_getElem?_getD,List.getElem?_set_ne (fun q=>e q.symm)] at h
   simp [hj] at h
 ·rintro (h|⟨i,h1,h2,-⟩)
  ·subst h;simp [List.getD_eq_getElem?_getD,hj]
  ·have:=h2.le hv hk;omega
theorem MkP.here {L:List Bool} {q:Nat} (hq:q<m.me.length) (H:MkP m k L (q+1)):L.getD q false=true↔Rch m k q:=by
 rw [H.2 q hq]
 constructor
 ·rintro (h|⟨i,-,h2,h3⟩)
  ·subst h;exact .refl
  ·exact .step i q h2 h3
 ·intro h
  rcases h.inv with h|⟨i,h1,h2⟩
  ·exact .inl h
  ·have:=h1.le hv hk
   have:=ZpX hv (show i<m.me.length by omega) h2
   exact .inr ⟨i,by omega,h1,h2⟩
theorem MkP.skip {L:List Bool} {q:Nat} (hq:q<m.me.length) (H:MkP m k L (q+1)) (h:¬ L.getD q false=true):MkP m k L q:=by
 refine ⟨H.1,fun j hj=>?_⟩
 rw [H.2 j hj]
 constructor
 ·rintro (h|⟨i,h1,h2⟩)
  ·exact .inl h
  ·exact .inr ⟨i,by omega,h2⟩
 ·rintro (h2|⟨i,h1,h2,h3⟩)
  ·exact .inl h2
  ·refine .inr ⟨i,?_,h2,h3⟩
   by_cases e:i=q
   ·subst e;exact absurd ((H.here hv hk hq).2 h2) h
   ·omega
theorem MkP.add {L L':List Bool} {q:Nat} (hq:q<m.me.length) (H:MkP m k L (q+1)) (h:L.getD q false=true) (hl:L'.length=m.me.length) (hL:∀ j,j<m.me.length→(L'.getD j false=true↔L.getD j false=true∨(j:Int)∈ZpQ m q)):MkP m k L' q:=by
 have hr:=(H.here hv hk hq).1 h
 refine ⟨hl,fun j hj=>?_⟩
 rw [hL j hj,H.2 j hj]
 constructor
 ·rintro ((h|⟨i,h1,h2⟩)|h)
  ·exact .inl h
  ·exact .inr ⟨i,by omega,h2⟩
  ·exact .inr ⟨q,Nat.le_refl _,hr,h⟩
 ·rintro (h2|⟨i,h1,h2,h3⟩)
  ·exact .inl (.inl h2)
  ·by_cases e:i=q
   ·subst e;exact .inr h3
   ·exact .inl (.inr ⟨i,by omega,h2,h3⟩)
end
theorem MkP.done {m:Md}{k:Nat}{L:List Bool} (H:MkP m k L 0) {j:Nat} (hj:j<m.me.length):L.getD j false=true↔Rch m k j:=by
 rw [H.2 j hj]
 constructor
 ·rintro (h|⟨i,-,h2,h3⟩)
  ·subst h;exact .refl
  ·exact .step i j h2 h3
 ·intro h
  rcases h.inv with h|⟨i,h1,h2⟩
  ·exact .inl h
  ·exact .inr ⟨i,Nat.zero_le _,h1,h2⟩
def Zp0 (w:World) (m:Md) (k:Nat):Ending→World→Prop:=fun e w'=>∃ g L,e=.returned (.slice (some ⟨g,0,none⟩) m.me.length m.me.length)∧Blk w' g (ZpZ L) 4∧L.length=m.me.length∧(∀ j,j<m.me.length→(L.getD j false=true↔Rch m k j))∧w.heap.size≤g∧Below w.heap.size w w'
theorem Zp1 (m:Md) (h:Hd) (k:Nat) (w:World) (H:Zay w h m) (hv:Za1 m=true) (hk:k<m.me.length):Calls Tryz.prog 123 #[.agg #[.slice h.co m.cl.length h.cc,.slice h.so m.st.length h.sc,.slice h.eo m.me.length h.ec,.int .i64 m.sel],.int .i64 k] w (Zp0 w m k):=by
 have hsz:=Zin hv
 have hmk:=run_make_row' (P:=Tryz.prog) 100 4 (.bool false) 1 Tryz.underlying100 (by kernel_rfl) rfl .i64 .i64 m.me.length (by omega) (by omega)
 rw [Zcn] at hmk
 obtain ⟨w0,hw0⟩:∃ w0,w0=w.alloc (.cells #[.slice h.co m.cl.length h.cc,.slice h.so m.st.length h.sc,.slice h.eo m.me.length h.ec,.int .i64 m.sel] 26):=⟨_,rfl⟩
 have HB:=Zh (show Below w.heap.size w w0 by rw [hw0];exact bE)
 have HX:=Zh (show Blk w0 w.heap.size #[.slice h.co m.cl.length h.cc,.slice h.so m.st.length h.sc,.slice h.eo m.me.length h.ec,.int .i64 m.sel] 26 by rw [hw0];exact Blk.new _ _ _)
 have HM:=Zh (H.old HB.out)
 have HW:=Zh hw0
 have hm16:=hsz.2.1
 have HV:=Zh hv
 have hk2:(k:Int) < m.me.length:=by omega
 clear hw0 H hv hsz
 go_enter Tryz.func123,Tryz.ntmps123
 go_upto_region 1 with fail
 rw [←HW.out]
 have x2:=HX.out.cell 2 (v:=.slice h.eo m.me.length h.ec) rfl
 go_upto_region 2 with fail
 clear hmk x2
 obtain ⟨g,hg⟩:∃ g,g=w0.heap.size:=⟨_,rfl⟩
 obtain ⟨w1,hw1⟩:∃ w1,w1=w0.alloc (.cells (Array.replicate m.me.length (.bool false)) 4):=⟨_,rfl⟩
 have hX1:Blk w1 g (ZpZ (List.replicate m.me.length false)) 4:=by
  have e:ZpZ (List.replicate m.me.length false)=Array.replicate m.me.length (Value.bool false):=by unfold ZpZ;rw [List.map_replicate,List.toArray_replicate]
  rw [hw1,hg,e];exact Blk.new w0 _ _
 have HB1:=Zh (show Below w0.heap.size w0 w1 by rw [hw1];exact bE)
 have HG:=Zh (show w0.heap.size≤g∧w.heap.size<g by rw [hg];have:=HX.out.lt;omega)
 rw [←hg,←hw1]
 clear hg hw1
 have hfz:=hX1.frozen k
 have hc1:=hX1.cell k (v:=.bool false) (by simp [ZpZ,hk])
 have hlt:=hX1.lt
 have HX1:=Zh hX1
 clear hX1
 go_wp2
 have HX2:=Zh (show Blk (w1.setCell ⟨g,k,none⟩ (.bool true)) g (ZpZ ((List.replicate m.me.length false).set k true)) 4 by
  have:=HX1.out.set k (.bool true)
  unfold ZpZ at this ⊢
  rwa [List.setIfInBounds_toArray,←List.map_set] at this)
 have HB2:=Zh (ZcW (j:=k) HB1.out HG.out.1 (.bool true))
 generalize w1.setCell ⟨g,k,none⟩ (.bool true)=w2 at HX2 HB2 ⊢
 clear hfz hlt hc1 HX1 HB1
 go_loopw [6] (fun i wr=>∃ (q:Nat) (L:List Bool),q≤k+1∧i=.int .i64 ((q:Int)-1)∧Hid (MkP m k L q)∧Hid (Blk wr g (ZpZ L) 4)∧Hid (Below w0.heap.size w0 wr)) (fun i _=>(intOf i+1).toNat)
 case atStart=>exact ⟨k+1,_,Nat.le_refl _,by congr 1;omega,MkP.start HV.out hk,HX2.out,HB2.out⟩
 case round=>
  obtain ⟨q,L,hq,rfl,HL,HXr,HBr⟩:=hrel
  rename World=>wo
  rcases q with _|q
  ·have e1:((0:Nat):Int)-1=-1:=rfl
   rw [e1]
   go_wp2
   go_ret
   exact ⟨g,L,rfl,HXr.out,HL.out.1,fun j hj=>HL.out.done hj,by have:=HG.out;have:=HB.out.size;omega,Zaf HB.out HBr.out⟩
  ·have e1:((q+1:Nat):Int)-1=q:=by omega
   rw [e1]
   have hq0:(q:Int) ≥ 0:=by omega
   have hqm:q<m.me.length:=by omega
   have hqm2:(q:Int) < m.me.length:=by omega
   have hwq:IntKind.i64.wrap ((q:Int)-1)=(q:Int)-1:=IntWalk.i64_in _ (by omega)
   have c0:wo.cell? ⟨g,q,none⟩=some (.bool (L.getD q false)):=HXr.out.cell q (by unfold ZpZ;have:=HL.out.1;simp [List.getD_eq_getElem?_getD,show q<L.length by omega])
   have hsk:=HL.out.skip HV.out hk hqm
   have had:=fun L'=>HL.out.add (L':=L') HV.out hk hqm
   obtain ⟨b,hb⟩:∃ b,b=L.getD q false:=⟨_,rfl⟩
   rw [←hb] at c0 hsk had
   have HSk:=Zh hsk
   have HAd:=Zh had
   clear hsk had hb
   rcases b with _|_
   ·go_wp2
    exact ⟨⟨q,L,by omega,rfl,HSk.out (by decide),HXr.out,HBr.out⟩,by simp [intOf]⟩
   ·have HC:=Zh (ZpW m h q wo (HM.out.old HBr.out) HV.out hqm)
    have hcl:=ZpY HV.out hqm
    have hclt:=fun t=>ZpX (t:=t) HV.out hqm
    generalize ZpQ m q=cs at HC hcl hclt HAd
    have HLt:=Zh hclt
    clear hclt
    have x0:=(HX.out.old HBr.out).cell 0 (v:=.slice h.co m.cl.length h.cc) rfl;have x1:=(HX.out.old HBr.out).cell 1 (v:=.slice h.so m.st.length h.sc) rfl;have x2:=(HX.out.old HBr.out).cell 2 (v:=.slice h.eo m.me.length h.ec) rfl;have x3:=(HX.out.old HBr.out).cell 3 (v:=.int .i64 m.sel) rfl
    go_wp2_with (go_at_call 18;refine HC.out.mono ?_;rintro e w3 ⟨⟨ao,cap,rfl,hr,hn⟩,hb3⟩;have HR:=Zh (And.intro hr (show Lie (·≠g) ao from fun a ha=>by have h1:=hn a ha;have h2:=HXr.out.lt;show a.block≠g;omega));have HB3:=Zh (Zaf HBr.out hb3);have HX3:=Zh (HXr.out.old hb3);clear hr hn hb3 x0 x1 x2 x3 c0)
    go_loopw [9] (fun i wr=>∃ (t:Nat) (L':List Bool),t≤cs.length∧i=.int .i64 t∧Hid (L'.length=m.me.length∧∀ j,j<m.me.length→(L'.getD j false=true↔L.getD j false=true∨(j:Int)∈cs.take t))∧Hid (Blk wr g (ZpZ L') 4)∧Hid (Upd g g w3 wr)) (fun i _=>cs.length-(intOf i).toNat)
    case atStart=>exact ⟨0,L,Nat.zero_le _,rfl,⟨HL.out.1,fun j hj=>by simp⟩,HX3.out,Upd.refl _ _ _⟩
    case round=>
     obtain ⟨t,L',ht,rfl,HL',HXs,HU⟩:=hrel
     rename World=>wi
     by_cases htl:t<cs.length
     ·have htl2:(t:Int) < cs.length:=by omega
      have hwt:IntKind.i64.wrap ((t:Int)+1)=((t+1:Nat):Int):=IntWalk.i64_in _ (by omega)
      obtain ⟨ad,rfl,t0⟩:=ZaB (Zoy HR.out.1 HU.out HR.out.2) htl
      have hlt:=HLt.out (cs.getD t 0) (by rw [List.getD_eq_getElem?_getD,List.getElem?_eq_getElem htl];exact List.getElem_mem htl)
      obtain ⟨c,hc⟩:∃ c,c=cs.getD t 0:=⟨_,rfl⟩
      rw [←hc] at t0 hlt
      obtain ⟨c,rfl⟩:∃ d:Nat,c=d:=⟨c.toNat,by omega⟩
      have hcm:c<m.me.length:=by omega
      have hcm2:(c:Int) < m.me.length:=by omega
      have hfz:=HXs.out.frozen c
      have hc1:=HXs.out.cell c (v:=.bool (L'.getD c false)) (by unfold ZpZ;have:=HL'.out.1;simp [List.getD_eq_getElem?_getD,show c<L'.length by omega])
      have hgl:=HXs.out.lt
      have HCc:=Zh hc
      clear hc hlt
      go_wp2
      refine ⟨⟨t+1,L'.set c true,htl,rfl,⟨by rw [List.length_set];exact HL'.out.1,fun j hj=>?_⟩,(show Blk _ _ _ _ from ?_),HU.out.set c _⟩,by simp [intOf];omega⟩
      ·have h1:=HL'.out.2 j hj
       have h2:cs.take (t+1)=cs.take t++[(c:Int)]:=by rw [HCc.out];exact Zal cs t htl
       rw [h2,List.mem_append,List.mem_singleton]
       by_cases e:j=c
       ·subst e;simp [List.getD_eq_getElem?_getD,HL'.out.1,hj]
       ·rw [List.getD_eq_getElem?_getD,List.getElem?_set_ne (fun q=>e q.symm),←List.getD_eq_getElem?_getD,h1]
        constructor
        ·rintro (h|h)
         ·exact .inl h
         ·exact .inr (.inl h)
        ·rintro (h|h|h)
         ·exact .inl h
         ·exact .inr h
         ·omega
      ·have:=HXs.out.set c (.bool true)
       unfold ZpZ at this ⊢
       rwa [List.setIfInBounds_toArray,←List.map_set] at this
     ·have htl2:¬ (t:Int) < cs.length:=by omega
      have HF:=Zh (HAd.out L' trivial HL'.out.1 (by have:=HL'.out.2;rwa [List.take_of_length_le (by omega)] at this))
      go_wp2
      exact ⟨⟨q,L',by omega,rfl,HF.out,HXs.out,HU.out.below HB3.out (Nat.le_refl _) HG.out.1 HG.out.1⟩,by simp [intOf]⟩
end
end Go.Proofs.YtcfjblcgceednaaGreat
