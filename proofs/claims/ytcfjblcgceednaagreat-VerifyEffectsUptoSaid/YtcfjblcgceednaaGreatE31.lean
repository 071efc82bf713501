/- Joined texts. The first: Which methods a method may call: link.calls. -/
import Derived.Test.YtcfjblcgceednaaGreatG28
import Derived.Test.YtcfjblcgceednaaGreatG29
set_option linter.all false
set_option linter.unusedVariables false
set_option linter.unusedSimpArgs false
set_option maxRecDepth 100000
set_option maxHeartbeats 8000000
namespace Go.Proofs.YtcfjblcgceednaaGreat
theorem kC6{p:Prop}(h:p:=by
 clear hown
 go_roundw
 case rel=>
  have h9:=HO9.out
  refine ⟨j+1,ao1,cap1,by omega,by go_num,by rw [HY.out,List.length_append];rfl,(show World.ownsRow _ _ _ _ _ _ _ from ?_),HB9.out⟩
  rw [HY.out,List.length_append,List.map_append]
  exact h9
 case measure=>simp [intOf];omega):p:=h
theorem kC7{p:Prop}(h:p:=by
 go_roundw
 case rel=>
  have h9:=HO9.out
  refine ⟨j+1,ao1,cap1,by omega,by go_num,by rw [HY.out,List.length_append],(show World.ownsRow _ _ _ _ _ _ _ from ?_),HB9.out⟩
  rw [HY.out,List.length_append,List.map_append]
  exact h9
 case measure=>simp [intOf];omega):p:=h
theorem kC8{p:Prop}(h:p:=by
 by_cases e:j=k
 ·subst e;rw [Maps.has_put_same (k:=.int .i64 j) ht.isMap trivial];simp [Zqb]
 ·rw [Maps.has_put_other (by intro q;cases q;omega),h5];simp [Zqb,e]):p:=h
theorem kC9{p:Prop}(h:p:=by
 obtain ⟨es,c,h1,h2,h3,rfl⟩:=h
 refine ⟨es,c,h1,h2,?_,rfl⟩
 show es.size≤List.length _
 rw [length_sorted]
 simp):p:=h
theorem ZpO{p:Prop}(h:p:=by
 rw [hs,h4]
 unfold Zqa
 by_cases e:k∈K
 ·rw [if_pos e];simp [e]
 ·rw [if_neg e];simp [e]):p:=h
theorem ZpP{p:Prop}(h:p:=by
 unfold Oper.wp
 simp [execOp,hop,hm,hx,hv,hrun,Result.andThen]
 exact hK' _ _ (hK w' r1 r2)):p:=h
section
open Go.RowKit
attribute [local go_sem] World.cell?_alloc_some
def ZpQ (m:Md) (i:In3):List Int:=if i.op=25 then [i.a] else if i.op=26 then ZaN m i.a else []
def ZpR (m:Md) (c:List In3) (j:Nat):List Int:=(c.take j).flatMap (ZpQ m)
def ZpS (m:Md) (k:Nat):List Int:=ZaM (ZpR m (cdM m k) (cdM m k).length)
theorem ZpT {m:Md}{c:List In3}{j:Nat} (hj:j<c.length):ZpR m c (j+1)=ZpR m c j++ZpQ m (c.getD j default):=by
 unfold ZpR
 rw [Zal c j hj,List.flatMap_append]
 simp
theorem ZpU {m:Md} (h:m.cl.length≤10) (i:In3):(ZpQ m i).length≤10:=by
 unfold ZpQ
 have:=ZdG m i.a
 split
 ·simp
 ·split
  ·omega
  ·simp
theorem ZpV {m:Md} (h:m.cl.length≤10) (c:List In3):∀ j,j≤c.length→(ZpR m c j).length≤10*j
 | 0,_=>by simp [ZpR]
 |j+1,hj=>by
  rw [ZpT (by omega),List.length_append]
  have:=ZpU h (c.getD j default)
  have:=ZpV h c j (by omega)
  omega
theorem ZpW (m:Md) (h:Hd) (k:Nat) (w:World) (H:Zay w h m) (hv:Za1 m=true) (hk:k<m.me.length):Calls Tryz.prog 177 #[.agg #[.slice h.co m.cl.length h.cc,.slice h.so m.st.length h.sc,.slice h.eo m.me.length h.ec,.int .i64 m.sel],.int .i64 k] w (ZdF w (ZpS m k)):=by
 obtain ⟨w0,hw0⟩:∃ w0,w0=w.alloc (.cells #[.slice h.co m.cl.length h.cc,.slice h.so m.st.length h.sc,.slice h.eo m.me.length h.ec,.int .i64 m.sel] 26):=⟨_,rfl⟩
 have HB:=Zh (show Below w.heap.size w w0 by rw [hw0];exact bE)
 have HX:=Zh (show Blk w0 w.heap.size #[.slice h.co m.cl.length h.cc,.slice h.so m.st.length h.sc,.slice h.eo m.me.length h.ec,.int .i64 m.sel] 26 by rw [hw0];exact Blk.new _ _ _)
 have HM:=Zh (H.old HB.out)
 have HW:=Zh hw0
 have hok:=ZfN hv hk
 have hc:(cdM m k).length≤120:=hok.z.2.2
 have hsz:=Zin hv
 have HTg:=Zh (show ∀ (w':World) (s:Int),Below w0.heap.size w0 w'→0≤s→s<m.sel→_ from fun w' s hb h0 h1=>ZdR m h s w' (HM.out.old hb) ⟨h0,h1⟩ hsz.1 (fun j hj=>Zg9 (Zil hv j hj)))
 have HLn:=Zh (fun j hj=>ZpV (m:=m) hsz.1 (cdM m k) j hj)
 have HI:=Zh (show ∀ i∈cdM m k,i.op=26→0≤i.a∧i.a<m.sel from fun i hi h26=>⟨(ZfS (hok.i i hi).1 (hok.i i hi).2).a0 (by omega),((ZfS (hok.i i hi).1 (hok.i i hi).2).o26 h26).1⟩)
 have hk2:(k:Int) < m.me.length:=by omega
 obtain ⟨ea,he,-,-,-,-,-,-,e6⟩:=HM.out.mth hk
 rw [show (m.me.getD k default).k.length=(cdM m k).length from rfl] at e6
 have HTl:=Zh (fun s=>ZdG m s)
 have HC10:=Zh hsz.1
 have HK:=Zh (show ∀ w',Below w0.heap.size w0 w'→Zar w' (h.e k).ko (h.e k).kc (cdM m k) from fun w' hb=>(HM.out.old hb).k k hk)
 generalize (h.e k).ko=ko at e6 HK
 generalize (h.e k).kc=kc at e6 HK
 rw [he] at HW HX HTg ⊢
 clear hw0 H hok hsz he hv
 go_enter Tryz.func177,Tryz.ntmps177
 go_upto_region 1 with fail
 rw [←HW.out]
 have x2:=HX.out.cell 2 (v:=.slice (some ea) m.me.length h.ec) rfl
 go_wp2_with fail
 clear x2 e6
 go_loopw [5,15] (fun o i wr=>∃ (j:Nat) (ao:Option Addr) (cap:Nat),j≤(cdM m k).length∧i=.int .i64 j∧o=.slice ao (ZpR m (cdM m k) j).length cap∧Hid (wr.ownsRow w0.heap.size 3 1 (.slice ao (ZpR m (cdM m k) j).length cap) (ZpR m (cdM m k) j).length ((ZpR m (cdM m k) j).map (Value.int .i64)))∧Hid (Below w0.heap.size w0 wr)) (fun _ i _=>(cdM m k).length-(intOf i).toNat)
 case atStart=>exact ⟨0,none,0,Nat.zero_le _,rfl,rfl,World.ownsRow_nil _ _ _ _,Below.refl _ _⟩
 case round=>
  obtain ⟨j,ao,cap,hj,rfl,rfl,HO,HBr⟩:=hrel
  have hlen:=HLn.out j hj
  by_cases hjl:j<(cdM m k).length
  ·obtain ⟨ad,rfl,o0,o1,o2⟩:=ZaA (HK.out _ HBr.out) hjl
   have hsu:=ZpT (m:=m) hjl
   have hIa:=HI.out ((cdM m k).getD j default) (ZfU _ hjl)
   obtain ⟨i,hi⟩:∃ i,i=(cdM m k).getD j default:=⟨_,rfl⟩
   rw [←hi] at o0 o1 o2 hsu hIa
   obtain ⟨op,ia,ib⟩:=i
   dsimp only at o0 o1 o2 hIa
   have hjl2:(j:Int) < (cdM m k).length:=by omega
   have hwj:IntKind.i64.wrap ((j:Int)+1)=j+1:=IntWalk.i64_in _ (by omega)
   generalize hzs:ZpR m (cdM m k) j=zs at HO hlen hsu ⊢
   clear hzs hi
   have hsz0:=HBr.out.size
   by_cases h25:op=25
   ·subst h25
    have HY:=Zh (show ZpR m (cdM m k) (j+1)=zs++[ia] from hsu)
    have hown:=HO.out
    clear hsu hIa
    go_wp2_with (at_builtin;refine Zaj rfl (.tmp 23) (.tmp 26) 34 rfl w0.heap.size 3 1 8 Zcq (.slice ao zs.length cap) zs.length (zs.map (Value.int .i64)) rfl ((hown.alloc _).alloc _) _ 1 1 [.int .i64 ia] rfl (ZdL (Blk.new' #[.int .i64 ia] 3 (by simp)) rfl) (by intro u hu;rw [List.mem_singleton.1 hu];rfl) (by omega) (by unfold maxLen;omega) (by have:=HBr.out.size;simp;omega) ?_;intro ao1 cap1 w10 hown9 hg9;have HO9:=Zh hown9;have HB9:=Zh (ZcV (bal (bal HBr.out _) _) hg9 (fun j hj=>(hown.lt j hj).1));clear hown9 hg9)
    exact kC6
   ·by_cases h26:op=26
    ·subst h26
     have HY:=Zh (show ZpR m (cdM m k) (j+1)=zs++ZaN m ia from hsu)
     obtain ⟨h0,h1⟩:=hIa rfl
     have HT1:=Zh (fun w' hb=>HTg.out w' ia hb h0 h1)
     have htl:=HTl.out ia
     have h10:=HC10.out
     generalize ZaN m ia=ts at HT1 HY htl
     have htl10:ts.length≤10:=by omega
     have hX:=HX
     have x0:=(HX.out.old HBr.out).cell 0 (v:=.slice h.co m.cl.length h.cc) rfl
     have x1:=(HX.out.old HBr.out).cell 1 (v:=.slice h.so m.st.length h.sc) rfl
     have x2:=(HX.out.old HBr.out).cell 2 (v:=.slice (some ea) m.me.length h.ec) rfl
     have x3:=(HX.out.old HBr.out).cell 3 (v:=.int .i64 m.sel) rfl
     clear hsu hIa htl h10 h0 h1 hX
     go_wp2_with (first
      | (go_at_call 243;refine (HT1.out _ (bal HBr.out _)).mono ?_;rintro e w2 ⟨⟨bo,bc,rfl,hr2,-⟩,hb2⟩;have hown:=ZhI (HO.out.alloc _) fun q hq=>hb2.block q ((HO.out.alloc _).lt q hq).2;have HB2:=Zh (Zaf (bal HBr.out _) hb2);have HR2:=Zh (show SlA w2 1 bo ts.length bc (ts.map (Value.int .i64)) by rw [←Zat];exact hr2);clear hb2 hr2 x0 x1 x2 x3)
      | (at_builtin;refine Zaj rfl (.tmp 30) (.tmp 34) 34 rfl w0.heap.size 3 1 8 Zcq (.slice ao zs.length cap) zs.length (zs.map (Value.int .i64)) rfl hown _ ts.length _ (ts.map (Value.int .i64)) rfl HR2.out (by intro u hu;obtain ⟨z,-,rfl⟩:=List.mem_map.1 hu;rfl) (by omega) (by unfold maxLen;omega) HB2.out.size ?_;intro ao1 cap1 w10 hown9 hg9;have HO9:=Zh hown9;have HB9:=Zh (ZcV HB2.out hg9 (fun j hj=>(hown.lt j hj).1));clear hown9 hg9 hown))
     exact kC7
    ·have HY:=Zh (show ZpR m (cdM m k) (j+1)=zs by rw [hsu];unfold ZpQ;rw [if_neg h25,if_neg h26,List.append_nil])
     clear hsu hIa
     go_wp2
     all_goals
      go_roundw
      case rel=>exact ⟨j+1,ao,cap,by omega,by go_num,by rw [HY.out],(by rw [HY.out];exact HO.out.alloc _),bal HBr.out _⟩
      case measure=>simp [intOf];omega
  ·obtain rfl:j=(cdM m k).length:=by omega
   have hall:ZpS m k=ZaM (ZpR m (cdM m k) (cdM m k).length):=rfl
   generalize ZpR m (cdM m k) (cdM m k).length=zs at HO hlen hall ⊢
   have HAll:=Zh hall
   have hcm:=ZdD zs
   have HC:=Zh hcm
   have hsl:=ZdA zs
   clear hall hcm
   go_wp2_with fail
   refine (ZdJ ao zs.length cap zs _ HO.out (by omega) HBr.out.size).mono ?_
   rintro e1 w1 ⟨rfl,hown1,hb1⟩
   have HO1:=Zh hown1
   have HB1:=Zh hb1
   clear hown1 hb1
   go_wp2_with fail
   refine (ZdK ao zs.length cap (zs.mergeSort fun x y=>decide (x≤y)) _ HO1.out (by omega) (by have:=HBr.out.size;have:=HB1.out.size;omega) (by rw [HC.out];exact hsl)).mono ?_
   rintro e2 w2 ⟨rfl,hown2,hb2⟩
   have HO2:=Zh hown2
   have HB2:=Zh hb2
   clear hown2 hb2
   go_wp2
   go_ret
   refine ⟨⟨ao,cap,by rw [HC.out,HAll.out];rfl,?_⟩,?_⟩
   ·have h2:=HO2.out
    rw [HC.out] at h2
    rw [HAll.out]
    refine ⟨Zar.of_own (by rw [Zat];exact h2),fun a ha=>?_⟩
    subst ha
    have:=(h2.lt a.block rfl).1
    have:=HB.out.size
    omega
   ·exact Zaf HB.out ((HBr.out.trans HB1.out).trans HB2.out)
end
section
open Go.RowKit
attribute [local go_sem] World.cell?_alloc_some
theorem ZpX (m:Md) (h:Hd) (k:Nat) (w:World) (H:Zay w h m) (hv:Za1 m=true) (hk:k<m.me.length):Calls Tryz.prog 64 #[.agg #[.slice h.co m.cl.length h.cc,.slice h.so m.st.length h.sc,.slice h.eo m.me.length h.ec,.int .i64 m.sel],.int .i64 k] w (ZdF w (ZpS m k)):=by
 obtain ⟨w0,hw0⟩:∃ w0,w0=w.alloc (.cells #[.slice h.co m.cl.length h.cc,.slice h.so m.st.length h.sc,.slice h.eo m.me.length h.ec,.int .i64 m.sel] 26):=⟨_,rfl⟩
 have HB:=Zh (show Below w.heap.size w w0 by rw [hw0];exact bE)
 have HX:=Zh (show Blk w0 w.heap.size #[.slice h.co m.cl.length h.cc,.slice h.so m.st.length h.sc,.slice h.eo m.me.length h.ec,.int .i64 m.sel] 26 by rw [hw0];exact Blk.new _ _ _)
 have HM:=Zh (H.old HB.out)
 have HW:=Zh hw0
 have hok:=ZfN hv hk
 have hc:(cdM m k).length≤120:=hok.z.2.2
 have hsz:=Zin hv
 have HTg:=Zh (show ∀ (w':World) (s:Int),Below w0.heap.size w0 w'→0≤s→s<m.sel→_ from fun w' s hb h0 h1=>Zgz m h s w' (HM.out.old hb) ⟨h0,h1⟩ hsz.1 (fun j hj=>Zg9 (Zil hv j hj)))
 have HLn:=Zh (fun j hj=>ZpV (m:=m) hsz.1 (cdM m k) j hj)
 have HI:=Zh (show ∀ i∈cdM m k,i.op=26→0≤i.a∧i.a<m.sel from fun i hi h26=>⟨(ZfS (hok.i i hi).1 (hok.i i hi).2).a0 (by omega),((ZfS (hok.i i hi).1 (hok.i i hi).2).o26 h26).1⟩)
 have hk2:(k:Int) < m.me.length:=by omega
 obtain ⟨ea,he,-,-,-,-,-,-,e6⟩:=HM.out.mth hk
 rw [show (m.me.getD k default).k.length=(cdM m k).length from rfl] at e6
 have HTl:=Zh (fun s=>ZdG m s)
 have HC10:=Zh hsz.1
 have HK:=Zh (show ∀ w',Below w0.heap.size w0 w'→Zar w' (h.e k).ko (h.e k).kc (cdM m k) from fun w' hb=>(HM.out.old hb).k k hk)
 generalize (h.e k).ko=ko at e6 HK
 generalize (h.e k).kc=kc at e6 HK
 rw [he] at HW HX HTg ⊢
 clear hw0 H hok hsz he hv
 go_enter Tryz.func64,Tryz.ntmps64
 go_upto_region 1 with fail
 rw [←HW.out]
 have x2:=HX.out.cell 2 (v:=.slice (some ea) m.me.length h.ec) rfl
 go_wp2_with fail
 clear x2 e6
 go_loopw [5,7] (fun o i wr=>∃ (j:Nat) (ao:Option Addr) (cap:Nat),j≤(cdM m k).length∧i=.int .i64 j∧o=.slice ao (ZpR m (cdM m k) j).length cap∧Hid (wr.ownsRow w0.heap.size 3 1 (.slice ao (ZpR m (cdM m k) j).length cap) (ZpR m (cdM m k) j).length ((ZpR m (cdM m k) j).map (Value.int .i64)))∧Hid (Below w0.heap.size w0 wr)) (fun _ i _=>(cdM m k).length-(intOf i).toNat)
 case atStart=>exact ⟨0,none,0,Nat.zero_le _,rfl,rfl,World.ownsRow_nil _ _ _ _,Below.refl _ _⟩
 case round=>
  obtain ⟨j,ao,cap,hj,rfl,rfl,HO,HBr⟩:=hrel
  have hlen:=HLn.out j hj
  by_cases hjl:j<(cdM m k).length
  ·obtain ⟨ad,rfl,o0,o1,o2⟩:=ZaA (HK.out _ HBr.out) hjl
   have hsu:=ZpT (m:=m) hjl
   have hIa:=HI.out ((cdM m k).getD j default) (ZfU _ hjl)
   obtain ⟨i,hi⟩:∃ i,i=(cdM m k).getD j default:=⟨_,rfl⟩
   rw [←hi] at o0 o1 o2 hsu hIa
   obtain ⟨op,ia,ib⟩:=i
   dsimp only at o0 o1 o2 hIa
   have hjl2:(j:Int) < (cdM m k).length:=by omega
   have hwj:IntKind.i64.wrap ((j:Int)+1)=j+1:=IntWalk.i64_in _ (by omega)
   generalize hzs:ZpR m (cdM m k) j=zs at HO hlen hsu ⊢
   have HIi:=Zh hi
   clear hzs hi
   have hsz0:=HBr.out.size
   by_cases h25:op=25
   ·subst h25
    have HY:=Zh (show ZpR m (cdM m k) (j+1)=zs++[ia] from hsu)
    have hown:=HO.out
    have HR0:=Zh (HK.out _ HBr.out)
    clear hsu hIa
    go_wp2_with (at_builtin;refine Zaj rfl (.tmp 26) (.tmp 32) 34 rfl w0.heap.size 3 1 8 Zcq (.slice ao zs.length cap) zs.length (zs.map (Value.int .i64)) rfl (hown.alloc _) _ 1 1 [.int .i64 ia] rfl (ZdL (Blk.new' #[.int .i64 ia] 3 (by simp)) rfl) (by intro u hu;rw [List.mem_singleton.1 hu];rfl) (by omega) (by unfold maxLen;omega) (by have:=HBr.out.size;simp;omega) ?_;intro ao1 cap1 w10 hown9 hg9;have HO9:=Zh hown9;have HB9:=Zh (ZcV (bal HBr.out _) hg9 (fun j hj=>(hown.lt j hj).1));have q:=ZaA (HK.out _ HB9.out) hjl;rw [←HIi.out] at q;obtain ⟨ad2,had,o3,-,-⟩:=q;cases had;dsimp only at o3;clear hown9 hg9 o0 o1 o2)
    exact kC6
   ·by_cases h26:op=26
    ·subst h26
     have HY:=Zh (show ZpR m (cdM m k) (j+1)=zs++ZaN m ia from hsu)
     obtain ⟨h0,h1⟩:=hIa rfl
     have HT1:=Zh (fun w' hb=>HTg.out w' ia hb h0 h1)
     have htl:=HTl.out ia
     have h10:=HC10.out
     generalize ZaN m ia=ts at HT1 HY htl
     have htl10:ts.length≤10:=by omega
     have x0:=(HX.out.old HBr.out).cell 0 (v:=.slice h.co m.cl.length h.cc) rfl
     have x1:=(HX.out.old HBr.out).cell 1 (v:=.slice h.so m.st.length h.sc) rfl
     have x2:=(HX.out.old HBr.out).cell 2 (v:=.slice (some ea) m.me.length h.ec) rfl
     have x3:=(HX.out.old HBr.out).cell 3 (v:=.int .i64 m.sel) rfl
     clear hsu hIa htl h10 h0 h1
     go_upto_region 9 with fail
     refine rO (Cs [(⟨w.heap.size,0,none⟩,.slice h.co m.cl.length h.cc),(⟨w.heap.size,1,none⟩,.slice h.so m.st.length h.sc),(⟨w.heap.size,2,none⟩,.slice (some ea) m.me.length h.ec),(⟨w.heap.size,3,none⟩,.int .i64 m.sel),(_,.int .i64 ia)]) (oL [0,1,2,3,4,5,6,107,108,9]) ⟨x0,x1,x2,x3,o1,trivial⟩ ?_
     repeat refine pO ?_
     refine oO fun Kv hK=>?_
     go_simp
     have HBd:=Zh HBr.out.drew
     refine (HT1.out _ HBd.out).mono ?_
     rintro e w2 ⟨⟨bo,bc,rfl,hr2,-⟩,hb2⟩
     have hown:=ZhI (Zco HO.out) fun q hq=>hb2.block q ((Zco HO.out).lt q hq).2
     have HB2:=Zh (Zaf HBd.out hb2)
     have HR2:=Zh (show SlA w2 1 bo ts.length bc (ts.map (Value.int .i64)) by rw [←Zat];exact hr2)
     have HC2:=Zh (Cs.keeps (ZnF.of hb2) (show Cs [(⟨w.heap.size,0,none⟩,.slice h.co m.cl.length h.cc),(⟨w.heap.size,1,none⟩,.slice h.so m.st.length h.sc),(⟨w.heap.size,2,none⟩,.slice (some ea) m.me.length h.ec),(⟨w.heap.size,3,none⟩,.int .i64 m.sel),(_,.int .i64 ia)] wr.drew from ⟨x0,x1,x2,x3,o1,trivial⟩))
     refine hK _ _ ⟨HC2.out,?_⟩
     clear hK Kv hb2 hr2 x0 x1 x2 x3
     repeat refine pO ?_
     refine oO fun Kv hK=>?_
     refine Zej (.tmp 40) (.tmp 47) 34 rfl w0.heap.size 3 1 8 Zcq _ zs.length _ rfl hown _ _ _ _ rfl HR2.out (by intro u hu;obtain ⟨z,-,rfl⟩:=List.mem_map.1 hu;rfl) (by omega) (by unfold maxLen;omega) HB2.out.size ?_
     intro ao1 cap1 w10 hown9 hg9
     have HO9:=Zh hown9
     have HB9:=Zh (ZcV HB2.out hg9 (fun j hj=>(hown.lt j hj).1))
     refine hK _ _ ⟨?_,?_⟩
     ·have q:=ZaA (HK.out _ HB9.out) hjl
      rw [←HIi.out] at q
      obtain ⟨ad2,had,-,o4,-⟩:=q
      cases had
      exact ⟨(HX.out.old HB9.out).cell 0 rfl,(HX.out.old HB9.out).cell 1 rfl,(HX.out.old HB9.out).cell 2 rfl,(HX.out.old HB9.out).cell 3 rfl,o4,trivial⟩
     clear hK Kv hown9 hg9 hown
     repeat refine pO ?_
     refine Zd5 ?_
     go_wp2
     exact kC7
    ·have HY:=Zh (show ZpR m (cdM m k) (j+1)=zs by rw [hsu];unfold ZpQ;rw [if_neg h25,if_neg h26,List.append_nil])
     clear hsu hIa
     go_wp2
     all_goals
      go_roundw
      case rel=>exact ⟨j+1,ao,cap,by omega,by go_num,by rw [HY.out],(by rw [HY.out];exact HO.out),HBr.out⟩
      case measure=>simp [intOf];omega
  ·obtain rfl:j=(cdM m k).length:=by omega
   have hall:ZpS m k=ZaM (ZpR m (cdM m k) (cdM m k).length):=rfl
   generalize ZpR m (cdM m k) (cdM m k).length=zs at HO hlen hall ⊢
   have HAll:=Zh hall
   have hr:Zar wr ao cap zs:=Zar.of_own (by rw [Zat];exact HO.out)
   have HR:=Zh hr
   clear hall hr
   go_wp2_with fail
   refine (Zek zs ao cap _ HR.out (by omega)).mono ?_
   rintro e1 w1 ⟨⟨ao1,cap1,rfl,hown1⟩,hb1⟩
   have HO1:=Zh hown1
   have HB1:=Zh hb1
   clear hown1 hb1
   go_wp2
   go_ret
   refine ⟨⟨ao1,cap1,by rw [HAll.out];rfl,?_,fun a ha=>?_⟩,?_⟩
   ·rw [HAll.out]
    exact Zar.of_own (by rw [Zat];exact HO1.out)
   ·subst ha
    have h1:=(HO1.out.lt a.block rfl).1
    have h2:=HB.out.size
    have h3:=HBr.out.size
    omega
   ·exact Zaf HB.out (Zaf HBr.out HB1.out)
theorem ZpY (m:Md) (h:Hd) (k:Nat) (w:World) (H:Zay w h m) (hv:Za1 m=true) (hk:k<m.me.length):Calls Tryz.prog 18 #[.agg #[.slice h.co m.cl.length h.cc,.slice h.so m.st.length h.sc,.slice h.eo m.me.length h.ec,.int .i64 m.sel],.int .i64 k] w (Zik w (ZpS m k) 0):=by
 obtain ⟨w0,hw0⟩:∃ w0,w0=w.alloc (.cells #[.slice h.co m.cl.length h.cc,.slice h.so m.st.length h.sc,.slice h.eo m.me.length h.ec,.int .i64 m.sel] 26):=⟨_,rfl⟩
 have HB:=Zh (show Below w.heap.size w w0 by rw [hw0];exact bE)
 have HX:=Zh (show Blk w0 w.heap.size #[.slice h.co m.cl.length h.cc,.slice h.so m.st.length h.sc,.slice h.eo m.me.length h.ec,.int .i64 m.sel] 26 by rw [hw0];exact Blk.new _ _ _)
 have HM:=Zh (H.old HB.out)
 have HW:=Zh hw0
 have HWi:=Zh (Zjk m h k m.me.length w0 HM.out hv (by omega))
 have HC:=Zh (show ∀ w',Below w0.heap.size w0 w'→_ from fun w' hb=>ZpX m h k w' (HM.out.old hb) hv hk)
 clear hw0 H hv
 go_enter Tryz.func18,Tryz.ntmps18
 go_upto_region 1 with fail
 rw [←HW.out]
 have x0:=HX.out.cell 0 (v:=.slice h.co m.cl.length h.cc) rfl;have x1:=HX.out.cell 1 (v:=.slice h.so m.st.length h.sc) rfl;have x2:=HX.out.cell 2 (v:=.slice h.eo m.me.length h.ec) rfl;have x3:=HX.out.cell 3 (v:=.int .i64 m.sel) rfl
 go_wp2_with (first
  | (go_at_call 63;refine HWi.out.mono ?_;rintro e w1 ⟨rfl,hb1⟩;have HB1:=Zh hb1;have x0:=(hb1.cell (Zac x0)).trans x0;have x1:=(hb1.cell (Zac x1)).trans x1;have x2:=(hb1.cell (Zac x2)).trans x2;have x3:=(hb1.cell (Zac x3)).trans x3;clear hb1)
  | (go_at_call 64;refine (HC.out _ HB1.out).mono ?_;rintro e w2 ⟨⟨ao,cap,rfl,hr,hn⟩,hb2⟩;have HR:=Zh (And.intro hr hn);have HB2:=Zh (Zaf HB1.out hb2);clear hr hn hb2))
 go_ret2
 exact ⟨⟨ao,cap,rfl,HR.out.1,fun a ha=>Nat.le_trans (Zaf HB.out HB1.out).size (HR.out.2 a ha)⟩,Zaf HB.out HB2.out⟩
end
section
open Go.RowKit
theorem ZpZ {m:Md} (hv:Za1 m=true) {k:Nat} (hk:k<m.me.length) {t:Int} (h:t∈ZpS m k):0≤t∧t<k:=by
 unfold ZpS ZpR at h
 rw [Zdw,List.take_length] at h
 obtain ⟨i,hi,ht⟩:=List.mem_flatMap.1 h
 have ho:=ZfS ((ZfN hv hk).i i hi).1 ((ZfN hv hk).i i hi).2
 unfold ZpQ at ht
 by_cases h25:i.op=25
 ·rw [if_pos h25,List.mem_singleton] at ht
  subst ht
  exact ⟨ho.a0 (by omega),(ho.o25 h25).1⟩
 ·rw [if_neg h25] at ht
  by_cases h26:i.op=26
  ·rw [if_pos h26] at ht
   exact ⟨ZfT ht,(ho.o26 h26).2 t ht⟩
  ·rw [if_neg h26] at ht;cases ht
theorem Zp0 {m:Md} (hv:Za1 m=true) {k:Nat} (hk:k<m.me.length):(ZpS m k).length≤1200:=by
 have h1:=ZdA (ZpR m (cdM m k) (cdM m k).length)
 have h2:=ZpV (Zin hv).1 (cdM m k) _ (Nat.le_refl _)
 have h3:=(ZfN hv hk).z.2.2
 have h4:(cdM m k).length≤120:=h3
 unfold ZpS;omega
inductive Rch (m:Md) (k:Nat):Nat→Prop
 | refl:Rch m k k
 | step (i j:Nat):Rch m k i→(j:Int)∈ZpS m i→Rch m k j
theorem Rch.le {m:Md} (hv:Za1 m=true) {k:Nat} (hk:k<m.me.length) {j:Nat} (h:Rch m k j):j≤k:=by
 induction h with
 | refl=>exact Nat.le_refl _
 | step i j h1 h2 ih=>have:=ZpZ hv (by omega) h2;omega
theorem Rch.inv {m:Md}{k j:Nat} (h:Rch m k j):j=k∨∃ i,Rch m k i∧(j:Int)∈ZpS m i:=by
 cases h with
 | refl=>exact .inl rfl
 | step i _ h1 h2=>exact .inr ⟨i,h1,h2⟩
def Zp1 (L:List Bool):Array Value:=(L.map Value.bool).toArray
def MkP (m:Md) (k:Nat) (L:List Bool) (q:Nat):Prop:=L.length=m.me.length∧∀ j,j<m.me.length→(L.getD j false=true↔j=k∨∃ i,q≤i∧Rch m k i∧(j:Int)∈ZpS m i)
section
variable {m:Md}(hv:Za1 m=true){k:Nat}(hk:k<m.me.length)
include m hv k hk
theorem MkP.start:MkP m k ((List.replicate m.me.length false).set k true) (k+1):=by
 refine ⟨by simp,fun j hj=>?_⟩
 constructor
 ·intro h
  left
  by_cases e:j=k
  ·exact e
  ·rw [List.getD_eq_getElem?_getD,List.getElem?_set_ne (fun q=>e q.symm)] at h
   simp [hj] at h
 ·rintro (h|⟨i,h1,h2,-⟩)
  ·subst h;simp [List.getD_eq_getElem?_getD,hj]
  ·have:=h2.le hv hk;omega
theorem MkP.here {L:List Bool} {q:Nat} (hq:q<m.me.length) (H:MkP m k L (q+1)):L.getD q false=true↔Rch m k q:=by
 rw [H.2 q hq]
 constructor
 ·rintro (h|⟨i,-,h2,h3⟩)
  ·subst h;exact .refl
  ·exact .step i q h2 h3
 ·intro h
  rcases h.inv with h|⟨i,h1,h2⟩
  ·exact .inl h
  ·have:=h1.le hv hk
   have:=ZpZ hv (show i<m.me.length by omega) h2
   exact .inr ⟨i,by omega,h1,h2⟩
theorem MkP.skip {L:List Bool} {q:Nat} (hq:q<m.me.length) (H:MkP m k L (q+1)) (h:¬ L.getD q false=true):MkP m k L q:=by
 refine ⟨H.1,fun j hj=>?_⟩
 rw [H.2 j hj]
 constructor
 ·rintro (h|⟨i,h1,h2⟩)
  ·exact .inl h
  ·exact .inr ⟨i,by omega,h2⟩
 ·rintro (h2|⟨i,h1,h2,h3⟩)
  ·exact .inl h2
  ·refine .inr ⟨i,?_,h2,h3⟩
   by_cases e:i=q
   ·subst e;exact absurd ((H.here hv hk hq).2 h2) h
   ·omega
theorem MkP.add {L L':List Bool} {q:Nat} (hq:q<m.me.length) (H:MkP m k L (q+1)) (h:L.getD q false=true) (hl:L'.length=m.me.length) (hL:∀ j,j<m.me.length→(L'.getD j false=true↔L.getD j false=true∨(j:Int)∈ZpS m q)):MkP m k L' q:=by
 have hr:=(H.here hv hk hq).1 h
 refine ⟨hl,fun j hj=>?_⟩
 rw [hL j hj,H.2 j hj]
 constructor
 ·rintro ((h|⟨i,h1,h2⟩)|h)
  ·exact .inl h
  ·exact .inr ⟨i,by omega,h2⟩
  ·exact .inr ⟨q,Nat.le_refl _,hr,h⟩
 ·rintro (h2|⟨i,h1,h2,h3⟩)
  ·exact .inl (.inl h2)
  ·by_cases e:i=q
   ·subst e;exact .inr h3
   ·exact .inl (.inr ⟨i,by omega,h2,h3⟩)
end
theorem MkP.done {m:Md}{k:Nat}{L:List Bool} (H:MkP m k L 0) {j:Nat} (hj:j<m.me.length):L.getD j false=true↔Rch m k j:=by
 rw [H.2 j hj]
 constructor
 ·rintro (h|⟨i,-,h2,h3⟩)
  ·subst h;exact .refl
  ·exact .step i j h2 h3
 ·intro h
  rcases h.inv with h|⟨i,h1,h2⟩
  ·exact .inl h
  ·exact .inr ⟨i,Nat.zero_le _,h1,h2⟩
def Zp2 (w:World) (m:Md) (k:Nat):Ending→World→Prop:=fun e w'=>∃ g L,e=.returned (.slice (some ⟨g,0,none⟩) m.me.length m.me.length)∧Blk w' g (Zp1 L) 4∧L.length=m.me.length∧(∀ j,j<m.me.length→(L.getD j false=true↔Rch m k j))∧w.heap.size≤g∧Below w.heap.size w w'
theorem Zp3 (m:Md) (h:Hd) (k:Nat) (w:World) (H:Zay w h m) (hv:Za1 m=true) (hk:k<m.me.length):Calls Tryz.prog 123 #[.agg #[.slice h.co m.cl.length h.cc,.slice h.so m.st.length h.sc,.slice h.eo m.me.length h.ec,.int .i64 m.sel],.int .i64 k] w (Zp2 w m k):=by
 have hsz:=Zin hv
 have hmk:=run_make_row' (P:=Tryz.prog) 100 4 (.bool false) 1 Tryz.underlying100 (by kernel_rfl) rfl .i64 .i64 m.me.length (by omega) (by omega)
 rw [Zcn] at hmk
 obtain ⟨w0,hw0⟩:∃ w0,w0=w.alloc (.cells #[.slice h.co m.cl.length h.cc,.slice h.so m.st.length h.sc,.slice h.eo m.me.length h.ec,.int .i64 m.sel] 26):=⟨_,rfl⟩
 have HB:=Zh (show Below w.heap.size w w0 by rw [hw0];exact bE)
 have HX:=Zh (show Blk w0 w.heap.size #[.slice h.co m.cl.length h.cc,.slice h.so m.st.length h.sc,.slice h.eo m.me.length h.ec,.int .i64 m.sel] 26 by rw [hw0];exact Blk.new _ _ _)
 have HM:=Zh (H.old HB.out)
 have HW:=Zh hw0
 have hm16:=hsz.2.1
 have HV:=Zh hv
 have hk2:(k:Int) < m.me.length:=by omega
 clear hw0 H hv hsz
 go_enter Tryz.func123,Tryz.ntmps123
 go_upto_region 1 with fail
 rw [←HW.out]
 have x2:=HX.out.cell 2 (v:=.slice h.eo m.me.length h.ec) rfl
 go_upto_region 2 with fail
 clear hmk x2
 obtain ⟨g,hg⟩:∃ g,g=w0.heap.size:=⟨_,rfl⟩
 obtain ⟨w1,hw1⟩:∃ w1,w1=w0.alloc (.cells (Array.replicate m.me.length (.bool false)) 4):=⟨_,rfl⟩
 have hX1:Blk w1 g (Zp1 (List.replicate m.me.length false)) 4:=by
  have e:Zp1 (List.replicate m.me.length false)=Array.replicate m.me.length (Value.bool false):=by unfold Zp1;rw [List.map_replicate,List.toArray_replicate]
  rw [hw1,hg,e];exact Blk.new w0 _ _
 have HB1:=Zh (show Below w0.heap.size w0 w1 by rw [hw1];exact bE)
 have HG:=Zh (show w0.heap.size≤g∧w.heap.size<g by rw [hg];have:=HX.out.lt;omega)
 rw [←hg,←hw1]
 clear hg hw1
 have hfz:=hX1.frozen k
 have hc1:=hX1.cell k (v:=.bool false) (by simp [Zp1,hk])
 have hlt:=hX1.lt
 have HX1:=Zh hX1
 clear hX1
 go_wp2
 have HX2:=Zh (show Blk (w1.setCell ⟨g,k,none⟩ (.bool true)) g (Zp1 ((List.replicate m.me.length false).set k true)) 4 by
  have:=HX1.out.set k (.bool true)
  unfold Zp1 at this ⊢
  rwa [List.setIfInBounds_toArray,←List.map_set] at this)
 have HB2:=Zh (ZcW (j:=k) HB1.out HG.out.1 (.bool true))
 generalize w1.setCell ⟨g,k,none⟩ (.bool true)=w2 at HX2 HB2 ⊢
 clear hfz hlt hc1 HX1 HB1
 go_loopw [6] (fun i wr=>∃ (q:Nat) (L:List Bool),q≤k+1∧i=.int .i64 ((q:Int)-1)∧Hid (MkP m k L q)∧Hid (Blk wr g (Zp1 L) 4)∧Hid (Below w0.heap.size w0 wr)) (fun i _=>(intOf i+1).toNat)
 case atStart=>exact ⟨k+1,_,Nat.le_refl _,by congr 1;omega,MkP.start HV.out hk,HX2.out,HB2.out⟩
 case round=>
  obtain ⟨q,L,hq,rfl,HL,HXr,HBr⟩:=hrel
  rename World=>wo
  rcases q with _|q
  ·have e1:((0:Nat):Int)-1=-1:=rfl
   rw [e1]
   go_wp2
   go_ret
   exact ⟨g,L,rfl,HXr.out,HL.out.1,fun j hj=>HL.out.done hj,by have:=HG.out;have:=HB.out.size;omega,Zaf HB.out HBr.out⟩
  ·have e1:((q+1:Nat):Int)-1=q:=by omega
   rw [e1]
   have hq0:(q:Int) ≥ 0:=by omega
   have hqm:q<m.me.length:=by omega
   have hqm2:(q:Int) < m.me.length:=by omega
   have hwq:IntKind.i64.wrap ((q:Int)-1)=(q:Int)-1:=IntWalk.i64_in _ (by omega)
   have c0:wo.cell? ⟨g,q,none⟩=some (.bool (L.getD q false)):=HXr.out.cell q (by unfold Zp1;have:=HL.out.1;simp [List.getD_eq_getElem?_getD,show q<L.length by omega])
   have hsk:=HL.out.skip HV.out hk hqm
   have had:=fun L'=>HL.out.add (L':=L') HV.out hk hqm
   obtain ⟨b,hb⟩:∃ b,b=L.getD q false:=⟨_,rfl⟩
   rw [←hb] at c0 hsk had
   have HSk:=Zh hsk
   have HAd:=Zh had
   clear hsk had hb
   rcases b with _|_
   ·go_wp2
    exact ⟨⟨q,L,by omega,rfl,HSk.out (by decide),HXr.out,HBr.out⟩,by simp [intOf]⟩
   ·have HC:=Zh (ZpY m h q wo (HM.out.old HBr.out) HV.out hqm)
    have hcl:=Zp0 HV.out hqm
    have hclt:=fun t=>ZpZ (t:=t) HV.out hqm
    generalize ZpS m q=cs at HC hcl hclt HAd
    have HLt:=Zh hclt
    clear hclt
    have x0:=(HX.out.old HBr.out).cell 0 (v:=.slice h.co m.cl.length h.cc) rfl;have x1:=(HX.out.old HBr.out).cell 1 (v:=.slice h.so m.st.length h.sc) rfl;have x2:=(HX.out.old HBr.out).cell 2 (v:=.slice h.eo m.me.length h.ec) rfl;have x3:=(HX.out.old HBr.out).cell 3 (v:=.int .i64 m.sel) rfl
    go_wp2_with (go_at_call 18;refine HC.out.mono ?_;rintro e w3 ⟨⟨ao,cap,rfl,hr,hn⟩,hb3⟩;have HR:=Zh (And.intro hr (show Lie (·≠g) ao from fun a ha=>by have h1:=hn a ha;have h2:=HXr.out.lt;show a.block≠g;omega));have HB3:=Zh (Zaf HBr.out hb3);have HX3:=Zh (HXr.out.old hb3);clear hr hn hb3 x0 x1 x2 x3 c0)
    go_loopw [9] (fun i wr=>∃ (t:Nat) (L':List Bool),t≤cs.length∧i=.int .i64 t∧Hid (L'.length=m.me.length∧∀ j,j<m.me.length→(L'.getD j false=true↔L.getD j false=true∨(j:Int)∈cs.take t))∧Hid (Blk wr g (Zp1 L') 4)∧Hid (Upd g g w3 wr)) (fun i _=>cs.length-(intOf i).toNat)
    case atStart=>exact ⟨0,L,Nat.zero_le _,rfl,⟨HL.out.1,fun j hj=>by simp⟩,HX3.out,Upd.refl _ _ _⟩
    case round=>
     obtain ⟨t,L',ht,rfl,HL',HXs,HU⟩:=hrel
     rename World=>wi
     by_cases htl:t<cs.length
     ·have htl2:(t:Int) < cs.length:=by omega
      have hwt:IntKind.i64.wrap ((t:Int)+1)=((t+1:Nat):Int):=IntWalk.i64_in _ (by omega)
      obtain ⟨ad,rfl,t0⟩:=ZaB (Zoy HR.out.1 HU.out HR.out.2) htl
      have hlt:=HLt.out (cs.getD t 0) (by rw [List.getD_eq_getElem?_getD,List.getElem?_eq_getElem htl];exact List.getElem_mem htl)
      obtain ⟨c,hc⟩:∃ c,c=cs.getD t 0:=⟨_,rfl⟩
      rw [←hc] at t0 hlt
      obtain ⟨c,rfl⟩:∃ d:Nat,c=d:=⟨c.toNat,by omega⟩
      have hcm:c<m.me.length:=by omega
      have hcm2:(c:Int) < m.me.length:=by omega
      have hfz:=HXs.out.frozen c
      have hc1:=HXs.out.cell c (v:=.bool (L'.getD c false)) (by unfold Zp1;have:=HL'.out.1;simp [List.getD_eq_getElem?_getD,show c<L'.length by omega])
      have hgl:=HXs.out.lt
      have HCc:=Zh hc
      clear hc hlt
      go_wp2
      refine ⟨⟨t+1,L'.set c true,htl,rfl,⟨by rw [List.length_set];exact HL'.out.1,fun j hj=>?_⟩,(show Blk _ _ _ _ from ?_),HU.out.set c _⟩,by simp [intOf];omega⟩
      ·have h1:=HL'.out.2 j hj
       have h2:cs.take (t+1)=cs.take t++[(c:Int)]:=by rw [HCc.out];exact Zal cs t htl
       rw [h2,List.mem_append,List.mem_singleton]
       by_cases e:j=c
       ·subst e;simp [List.getD_eq_getElem?_getD,HL'.out.1,hj]
       ·rw [List.getD_eq_getElem?_getD,List.getElem?_set_ne (fun q=>e q.symm),←List.getD_eq_getElem?_getD,h1]
        constructor
        ·rintro (h|h)
         ·exact .inl h
         ·exact .inr (.inl h)
        ·rintro (h|h|h)
         ·exact .inl h
         ·exact .inr h
         ·omega
      ·have:=HXs.out.set c (.bool true)
       unfold Zp1 at this ⊢
       rwa [List.setIfInBounds_toArray,←List.map_set] at this
     ·have htl2:¬ (t:Int) < cs.length:=by omega
      have HF:=Zh (HAd.out L' trivial HL'.out.1 (by have:=HL'.out.2;rwa [List.take_of_length_le (by omega)] at this))
      go_wp2
      exact ⟨⟨q,L',by omega,rfl,HF.out,HXs.out,HU.out.below HB3.out (Nat.le_refl _) HG.out.1 HG.out.1⟩,by simp [intOf]⟩
end
section
open Go.RowKit
def Zp4 (W:World) (P:Prop):Ending→World→Prop:=fun e w'=>(∃ b,e=.returned (.bool b)∧(b=true↔P))∧Below W.heap.size W w'
def Zp5 (m:Md) (k:Nat) (op:Int):Prop:=∃ j,Rch m k j∧∃ i∈cdM m j,i.op=op
theorem Zp6 (m:Md) (h:Hd) (k:Nat) (op:Int) (w:World) (H:Zay w h m) (hv:Za1 m=true) (hk:k<m.me.length):Calls Tryz.prog 62 #[.agg #[.slice h.co m.cl.length h.cc,.slice h.so m.st.length h.sc,.slice h.eo m.me.length h.ec,.int .i64 m.sel],.int .i64 k,.int .i64 op] w (Zp4 w (Zp5 m k op)):=by
 have hm16:=(Zin hv).2.1
 obtain ⟨w0,hw0⟩:∃ w0,w0=w.alloc (.cells #[.slice h.co m.cl.length h.cc,.slice h.so m.st.length h.sc,.slice h.eo m.me.length h.ec,.int .i64 m.sel] 26):=⟨_,rfl⟩
 have HB:=Zh (show Below w.heap.size w w0 by rw [hw0];exact bE)
 have HX:=Zh (show Blk w0 w.heap.size #[.slice h.co m.cl.length h.cc,.slice h.so m.st.length h.sc,.slice h.eo m.me.length h.ec,.int .i64 m.sel] 26 by rw [hw0];exact Blk.new _ _ _)
 have HM:=Zh (H.old HB.out)
 have HW:=Zh hw0
 have HV:=Zh hv
 have HRe:=Zh (Zp3 m h k w0 HM.out hv hk)
 clear hw0 H hv
 go_enter Tryz.func62,Tryz.ntmps62
 go_upto_region 1 with fail
 rw [←HW.out]
 have x0:=HX.out.cell 0 (v:=.slice h.co m.cl.length h.cc) rfl;have x1:=HX.out.cell 1 (v:=.slice h.so m.st.length h.sc) rfl;have x2:=HX.out.cell 2 (v:=.slice h.eo m.me.length h.ec) rfl;have x3:=HX.out.cell 3 (v:=.int .i64 m.sel) rfl
 go_wp2_with (go_at_call 123;refine HRe.out.mono ?_;rintro e w1 ⟨g,L,rfl,hX1,hL,hLr,hg,hb1⟩;have HX1:=Zh hX1;have HL:=Zh (And.intro hL hLr);have HB1:=Zh hb1;clear hX1 hL hLr hg hb1 x0 x1 x2 x3)
 go_loopw [8] (fun i wr=>∃ q:Nat,q≤k+1∧i=.int .i64 q∧Hid (∀ j,j<q→Rch m k j→∀ i∈cdM m j,i.op≠op)∧Hid (Below w1.heap.size w1 wr)) (fun i _=>k+1-(intOf i).toNat)
 case atStart=>exact ⟨0,Nat.zero_le _,rfl,fun j hj=>by omega,Below.refl _ _⟩
 case round=>
  obtain ⟨q,hq,rfl,HN,HBr⟩:=hrel
  rename World=>wo
  by_cases hqk:q≤k
  ·have hqk2:(q:Int)≤k:=by omega
   have hqm:q<m.me.length:=by omega
   have hqm2:(q:Int) < m.me.length:=by omega
   have hwq:IntKind.i64.wrap ((q:Int)+1)=((q+1:Nat):Int):=IntWalk.i64_in _ (by omega)
   have c0:wo.cell? ⟨g,q,none⟩=some (.bool (L.getD q false)):=(HX1.out.old HBr.out).cell q (by unfold Zp1;have:=HL.out.1;simp [List.getD_eq_getElem?_getD,show q<L.length by omega])
   have hr:=HL.out.2 q hqm
   obtain ⟨b,hb⟩:∃ b,b=L.getD q false:=⟨_,rfl⟩
   rw [←hb] at c0 hr
   have HR:=Zh hr
   clear hr hb
   rcases b with _|_
   ·go_wp2
    exact ⟨⟨q+1,by omega,rfl,fun j hj hrj=>by
     by_cases e:j=q
     ·subst e;exact absurd (HR.out.2 hrj) (by decide)
     ·exact HN.out j (by omega) hrj,HBr.out⟩,by simp [intOf];omega⟩
   ·go_upto_region 7 with fail
    clear c0
    have hc120:(cdM m q).length≤120:=(ZfN HV.out hqm).z.2.2
    go_loopw [9] (fun i wr=>∃ t:Nat,t≤(cdM m q).length∧i=.int .i64 t∧Hid (∀ x,x<t→((cdM m q).getD x default).op≠op)∧Hid (Below w1.heap.size w1 wr)) (fun i _=>(cdM m q).length-(intOf i).toNat)
    case atStart=>exact ⟨0,Nat.zero_le _,rfl,fun x hx=>by omega,HBr.out⟩
    case round=>
     obtain ⟨t,ht,rfl,HT,HBs⟩:=hrel
     rename World=>wi
     have HBt:=Zh (Zaf HB1.out HBs.out)
     obtain ⟨ea,he,-,-,-,-,-,-,e6⟩:=(HM.out.old HBt.out).mth hqm
     rw [show (m.me.getD q default).k.length=(cdM m q).length from rfl] at e6
     have x2:=(HX.out.old HBt.out).cell 2 (v:=.slice h.eo m.me.length h.ec) rfl
     have hrow:=(HM.out.old HBt.out).k q hqm
     rw [show (m.me.getD q default).k=cdM m q from rfl] at hrow
     by_cases htl:t<(cdM m q).length
     ·have htl2:(t:Int) < (cdM m q).length:=by omega
      have hwt:IntKind.i64.wrap ((t:Int)+1)=((t+1:Nat):Int):=IntWalk.i64_in _ (by omega)
      obtain ⟨ca,hca,o0,-,-⟩:=ZaA hrow htl
      rw [he] at x2
      rw [hca] at e6
      obtain ⟨o,ho⟩:∃ o,o=((cdM m q).getD t default).op:=⟨_,rfl⟩
      rw [←ho] at o0
      have HO:=Zh ho
      clear ho he hca hrow
      by_cases hop:o=op
      ·subst hop
       go_wp2
       go_ret
       exact ⟨⟨true,rfl,fun _=>⟨q,HR.out.1 trivial,_,ZfU default htl,HO.out.symm⟩,fun _=>rfl⟩,Zaf HB.out HBt.out⟩
      ·go_wp2
       exact ⟨⟨t+1,htl,rfl,fun x hx=>by
        by_cases e:x=t
        ·subst e;rw [←HO.out];exact hop
        ·exact HT.out x (by omega),HBs.out⟩,by simp [intOf];omega⟩
     ·have htl2:¬ (t:Int) < (cdM m q).length:=by omega
      rw [he] at x2
      clear he hrow
      go_wp2
      exact ⟨⟨q+1,by omega,rfl,fun j hj hrj i hi=>by
       by_cases e:j=q
       ·subst e
        obtain ⟨x,hx,rfl⟩:=List.mem_iff_getElem.1 hi
        have:=HT.out x (by omega)
        rwa [List.getD_eq_getElem?_getD,List.getElem?_eq_getElem hx] at this
       ·exact HN.out j (by omega) hrj i hi,HBs.out⟩,by simp [intOf];omega⟩
  ·have hqk2:¬ (q:Int)≤k:=by omega
   go_wp2
   go_ret
   exact ⟨⟨false,rfl,(fun h=>by cases h),fun ⟨j,hj,i,hi,ho⟩=>absurd ho (HN.out j (by have:=hj.le HV.out hk;omega) hj i hi)⟩,Zaf HB.out (Zaf HB1.out HBr.out)⟩
end
section
open Go.RowKit
theorem Zp7 {w:World}{b n:Nat}{D:DataW Unit} (h:w.ownsMap Tryz.prog 3 (plainElem Tryz.prog 4) b n D):w.ownsMap Tryz.prog 3 (plainElem Tryz.prog 4) b (Maps.size D) D:=by
 exact kC9
theorem Zp8 {v:Value}{z:DataW Unit × List MemPlace} (h:plainElem (H:=Unit) Tryz.prog 4 v=some z):∃ b,v=.bool b∧z=(.lit (.bool b),[]):=by
 unfold plainElem at h
 rw [show (Tryz.prog).underlying 4=some .bool from Tryz.underlying4] at h
 cases v<;>simp at h
 exact ⟨_,rfl,h.symm⟩
def Zp9 (w:World) (M:Nat) (K:List Nat):Prop:=K.Nodup∧(∀ k∈K,k<1000)∧∃ D:DataW Unit,w.ownsMap Tryz.prog 3 (plainElem Tryz.prog 4) M K.length D∧Maps.size D=K.length∧(∀ k:Nat,Maps.has D (.int .i64 k)=decide (k∈K))∧(∀ k:Nat,D.atKey (.int .i64 k) (.lit (.bool false))=.lit (.bool (decide (k∈K))))∧∀ kl,Maps.has D kl=true→∃ k:Nat,k∈K∧kl=.int .i64 k
def Zqa (k:Nat) (K:List Nat):List Nat:=if k∈K then K else k :: K
theorem Zqb {k j:Nat}{K:List Nat}:j∈Zqa k K↔j=k∨j∈K:=by
 unfold Zqa
 split
 ·constructor
  ·exact .inr
  ·rintro (rfl|h)<;>assumption
 ·simp
theorem Zp9.made (w:World):Zp9 (w.alloc (.map #[] 0)) w.heap.size []:=
 ⟨List.nodup_nil,fun _ h=>by simp at h,_,World.ownsMap_made _ _ _ _,rfl,fun k=>by simp [Maps.has],fun k=>rfl,fun kl h=>by simp [Maps.has] at h⟩
theorem Zp9.map {w:World}{M:Nat}{K:List Nat} (H:Zp9 w M K):IsMap w M:=by
 obtain ⟨_,_,D,⟨es,c,h,_⟩,_⟩:=H
 exact ⟨es,c,h⟩
theorem Zp9.eq {w w':World}{M:Nat}{K:List Nat} (H:Zp9 w M K) (h:w'.heap[M]?=w.heap[M]?):Zp9 w' M K:=by
 obtain ⟨h1,h2,D,⟨es,c,h3,h4⟩,h5⟩:=H
 exact ⟨h1,h2,D,⟨es,c,h.trans h3,h4⟩,h5⟩
theorem Zp9.old {w w':World}{M:Nat}{K:List Nat} (H:Zp9 w M K) (hb:Below w.heap.size w w'):Zp9 w' M K:=H.eq (hb.block M H.map.lt)
theorem Zp9.len {w:World}{M:Nat}{K:List Nat} (H:Zp9 w M K):K.length≤1000:=ZnH 1000 K H.1 H.2.1
theorem Zqc (w:World):(zeroValue 4).run Tryz.prog w=.ok (.bool false) w:=by kernel_rfl
theorem Zqd {w:World}{ops:Array Oper}{rest:List Oper}{o:Oper}{a:Act}{Q:Exit→Act→World→Prop} (hg:o.guard=none) (m x:Operand) (hop:o.op=Op.lookup 152 m x false) {M:Nat}{K:List Nat} (hm:a.eval m=.map (some M)) (H:Zp9 w M K) (k:Nat) (hx:a.eval x=.int .i64 k) (hk:k<1000)
  (hK:wpList Tryz.prog ops Q rest (a.put o.dst (.bool (decide (k∈K)))) w):wpList Tryz.prog ops Q (o :: rest) a w:=by
 obtain ⟨h1,h2,D,h3,h4,h5,h6,h7⟩:=H
 refine wpList_plain hg fun K' hK'=>?_
 obtain ⟨v,ps,hrun,hv⟩:=h3.lookup Zn1 Tryz.underlying152 (Zqc w) (zd:=.lit (.bool false)) (zp:=[]) (plainElem_bool Tryz.underlying4 false) (Zn4 (k:=k) (by omega))
 rw [h6 k] at hv
 obtain ⟨b,rfl,hz⟩:=Zp8 hv
 have hb:decide (k∈K)=b:=by
  have h:=congrArg Prod.fst hz
  simpa using h
 subst hb
 unfold Oper.wp
 simp [execOp,hop,hm,hx,hrun,Result.andThen]
 exact hK' _ _ hK
theorem Zp9.put {w:World}{M:Nat}{K:List Nat} (H:Zp9 w M K) (k:Nat) (hk:k<1000):∃ w',(Instr.mapUpdate 152 (.map (some M)) (.int .i64 k) (.bool true)).run Tryz.prog w=.ok () w'∧Zp9 w' M (Zqa k K)∧w.grownBy w' (some M):=by
 have hl:=H.len
 obtain ⟨h1,h2,D,h3,h4,h5,h6,h7⟩:=H
 obtain ⟨w',hr,hw,hg⟩:=h3.update Zn1 Tryz.underlying152 (by unfold maxLen;omega) (Zn4 (k:=k) (by omega)) (plainElem_bool Tryz.underlying4 true)
 refine ⟨w',hr,?_,hg⟩
 have ht:=h3.tidy Zn1
 have hs:=Maps.size_put (k:=.int .i64 k) ht (.lit (.bool true))
 rw [h5 k] at hs
 have hsz:Maps.size (D.put (.int .i64 k) (.lit (.bool true)))=(Zqa k K).length:=by
  exact ZpO
 refine ⟨?_,fun j hj=>?_,_,by have:=Zp7 hw;rwa [hsz] at this,hsz,fun j=>?_,fun j=>?_,fun kl hkl=>?_⟩
 ·unfold Zqa
  split
  ·exact h1
  ·rename_i e;exact List.nodup_cons.2 ⟨e,h1⟩
 ·rcases Zqb.1 hj with rfl|e
  ·exact hk
  ·exact h2 j e
 ·exact kC8
 ·by_cases e:j=k
  ·subst e;rw [Maps.atKey_put_same (k:=.int .i64 j) ht.isMap trivial];simp [Zqb]
  ·rw [Maps.atKey_put_other (by intro q;cases q;omega),h6];simp [Zqb,e]
 ·by_cases e:kl=.int .i64 k
  ·exact ⟨k,Zqb.2 (.inl rfl),e⟩
  ·rw [Maps.has_put_other e] at hkl
   obtain ⟨j,hj,e2⟩:=h7 kl hkl
   exact ⟨j,Zqb.2 (.inr hj),e2⟩
theorem Zqe {w:World}{ops:Array Oper}{rest:List Oper}{o:Oper}{a:Act}{Q:Exit→Act→World→Prop} (hg:o.guard=none) (m x v:Operand) (hop:o.op=Op.mapUpdate 152 m x v) {M:Nat}{K:List Nat} (hm:a.eval m=.map (some M)) (H:Zp9 w M K) (k:Nat) (hx:a.eval x=.int .i64 k) (hv:a.eval v=.bool true) (hk:k<1000)
  (hK:∀ w',Zp9 w' M (Zqa k K)→w.grownBy w' (some M)→wpList Tryz.prog ops Q rest (a.put o.dst undef) w'):wpList Tryz.prog ops Q (o :: rest) a w:=by
 refine wpList_plain hg fun K' hK'=>?_
 obtain ⟨w',hrun,r1,r2⟩:=H.put k hk
 exact ZpP
end
section
open Go.RowKit
theorem Zqf {w:World}{b n:Nat}{D:DataW Unit} (h:w.ownsMap Tryz.prog 3 (plainElem Tryz.prog 3) b n D):w.ownsMap Tryz.prog 3 (plainElem Tryz.prog 3) b (Maps.size D) D:=by
 exact kC9
theorem Zqg {v:Value}{z:DataW Unit × List MemPlace} (h:plainElem (H:=Unit) Tryz.prog 3 v=some z):∃ b,v=.int .i64 b∧z=(.lit (.int .i64 b),[]):=by
 unfold plainElem at h
 rw [show (Tryz.prog).underlying 3=some (.int .i64) from Tryz.underlying3] at h
 cases v<;>simp at h
 obtain ⟨⟨rfl,h1⟩,rfl⟩:=h
 exact ⟨_,rfl,rfl⟩
def Zqh (w:World) (M:Nat) (C:Nat→Nat):Prop:=∃ (K:List Nat) (D:DataW Unit),K.Nodup∧(∀ k∈K,k<1000)∧w.ownsMap Tryz.prog 3 (plainElem Tryz.prog 3) M K.length D∧Maps.size D=K.length∧(∀ k:Nat,Maps.has D (.int .i64 k)=decide (k∈K))∧∀ k:Nat,D.atKey (.int .i64 k) (.lit (.int .i64 0))=.lit (.int .i64 (C k))
theorem Zqh.made (w:World):Zqh (w.alloc (.map #[] 0)) w.heap.size (fun _=>0):=
 ⟨[],_,List.nodup_nil,fun _ h=>by simp at h,World.ownsMap_made _ _ _ _,rfl,fun k=>by simp [Maps.has],fun k=>rfl⟩
theorem Zqh.map {w:World}{M:Nat}{C:Nat→Nat} (H:Zqh w M C):IsMap w M:=by
 obtain ⟨_,D,_,_,⟨es,c,h,_⟩,_⟩:=H
 exact ⟨es,c,h⟩
theorem Zqh.eq {w w':World}{M:Nat}{C:Nat→Nat} (H:Zqh w M C) (h:w'.heap[M]?=w.heap[M]?):Zqh w' M C:=by
 obtain ⟨K,D,h1,h2,⟨es,c,h3,h4⟩,h5⟩:=H
 exact ⟨K,D,h1,h2,⟨es,c,h.trans h3,h4⟩,h5⟩
theorem Zqh.old {w w':World}{M:Nat}{C:Nat→Nat} (H:Zqh w M C) (hb:Below w.heap.size w w'):Zqh w' M C:=H.eq (hb.block M H.map.lt)
theorem Zqh.run {w:World}{M:Nat}{C:Nat→Nat} (H:Zqh w M C) (k:Nat) (hk:k<1000):(Instr.lookup 69 (.map (some M)) (.int .i64 k) false).run Tryz.prog w=.ok (.int .i64 (C k)) w:=by
 obtain ⟨K,D,h1,h2,h3,h4,h5,h6⟩:=H
 obtain ⟨v,ps,hrun,hv⟩:=h3.lookup Zn1 Tryz.underlying69 (Zn2 w) (zd:=.lit (.int .i64 0)) (zp:=[]) (plainElem_int Tryz.underlying3 (WalkArith.wf_i64 (by omega))) (Zn4 (k:=k) (by omega))
 rw [h6 k] at hv
 obtain ⟨b,rfl,hz⟩:=Zqg hv
 have hb:(C k:Int)=b:=by
  have h:=congrArg Prod.fst hz
  simpa using h
 rw [hrun,hb]
theorem Zqi {w:World}{ops:Array Oper}{rest:List Oper}{o:Oper}{a:Act}{Q:Exit→Act→World→Prop} (hg:o.guard=none) (m x:Operand) (hop:o.op=Op.lookup 69 m x false) {M:Nat}{C:Nat→Nat} (hm:a.eval m=.map (some M)) (H:Zqh w M C) (k:Nat) (hx:a.eval x=.int .i64 k) (hk:k<1000)
  (hK:wpList Tryz.prog ops Q rest (a.put o.dst (.int .i64 (C k))) w):wpList Tryz.prog ops Q (o :: rest) a w:=by
 refine wpList_plain hg fun K' hK'=>?_
 have hrun:=H.run k hk
 unfold Oper.wp
 simp [execOp,hop,hm,hx,hrun,Result.andThen]
 exact hK' _ _ hK
theorem Zqh.put {w:World}{M:Nat}{C:Nat→Nat} (H:Zqh w M C) (k:Nat) (hk:k<1000) (hC:C k<1000000):∃ w',(Instr.mapUpdate 69 (.map (some M)) (.int .i64 k) (.int .i64 (C k+1))).run Tryz.prog w=.ok () w'∧Zqh w' M (fun j=>if j=k then C k+1 else C j)∧w.grownBy w' (some M):=by
 obtain ⟨K,D,h1,h2,h3,h4,h5,h6⟩:=H
 have hl:=ZnH 1000 K h1 h2
 obtain ⟨w',hr,hw,hg⟩:=h3.update Zn1 Tryz.underlying69 (by unfold maxLen;omega) (Zn4 (k:=k) (by omega)) (plainElem_int Tryz.underlying3 (a:=(C k:Int)+1) (WalkArith.wf_i64 (by omega)))
 refine ⟨w',hr,?_,hg⟩
 have ht:=h3.tidy Zn1
 have hs:=Maps.size_put (k:=.int .i64 k) ht (.lit (.int .i64 (C k+1)))
 rw [h5 k] at hs
 have hsz:Maps.size (D.put (.int .i64 k) (.lit (.int .i64 (C k+1))))=(Zqa k K).length:=by
  exact ZpO
 refine ⟨Zqa k K,_,?_,fun j hj=>?_,by have:=Zqf hw;rwa [hsz] at this,hsz,fun j=>?_,fun j=>?_⟩
 ·unfold Zqa
  split
  ·exact h1
  ·rename_i e;exact List.nodup_cons.2 ⟨e,h1⟩
 ·rcases Zqb.1 hj with rfl|e
  ·exact hk
  ·exact h2 j e
 ·exact kC8
 ·by_cases e:j=k
  ·subst e;rw [Maps.atKey_put_same (k:=.int .i64 j) ht.isMap trivial];simp
  ·rw [Maps.atKey_put_other (by intro q;cases q;omega),h6];simp [e]
theorem Zqj {w:World}{ops:Array Oper}{rest:List Oper}{o:Oper}{a:Act}{Q:Exit→Act→World→Prop} (hg:o.guard=none) (m x v:Operand) (hop:o.op=Op.mapUpdate 69 m x v) {M:Nat}{C:Nat→Nat} (hm:a.eval m=.map (some M)) (H:Zqh w M C) (k:Nat) (hx:a.eval x=.int .i64 k) (hv:a.eval v=.int .i64 (C k+1)) (hk:k<1000) (hC:C k<1000000)
  (hK:∀ w',Zqh w' M (fun j=>if j=k then C k+1 else C j)→w.grownBy w' (some M)→wpList Tryz.prog ops Q rest (a.put o.dst undef) w'):wpList Tryz.prog ops Q (o :: rest) a w:=by
 refine wpList_plain hg fun K' hK'=>?_
 obtain ⟨w',hrun,r1,r2⟩:=H.put k hk hC
 exact ZpP
end
end Go.Proofs.YtcfjblcgceednaaGreat
