/- Joined texts. The first: bound.Times. -/
import Derived.Test.YtcfjblcgceednaaGreatR33
import Derived.Test.YtcfjblcgceednaaGreatR34
import Derived.Test.YtcfjblcgceednaaGreatR25
set_option linter.all false
set_option linter.unusedVariables false
set_option linter.unusedSimpArgs false
set_option maxRecDepth 100000
set_option maxHeartbeats 8000000
namespace Go.Proofs.YtcfjblcgceednaaGreat
theorem j2{p:Prop}(h:p:=by
 repeat refine pO ?_
 refine oO fun Kv hK=>?_
 go_simp
 refine (HCl.out _ HBr.out.drew).mono ?_
 rintro e w2 ⟨rfl,hb2⟩
 have HB2:=Zh (Zaf (Below.refl wo.heap.size wo).drew hb2)
 refine hK _ _ ⟨Cs.keeps (Zn8.of HB2.out) HCs.out,?_⟩
 clear hK Kv hb2
 repeat refine pO ?_
 refine Zd5 ?_
 go_wp2
 exact ⟨⟨k+1,by omega,rfl,Zaf HBr.out HB2.out⟩,by simp [intOf];omega⟩):p:=h
section
open Go.RowKit
theorem ZqV (w:World) (ao bo:Option Addr) (ac bc:Nat) (a b:List Int) (ha:Zar w ao ac a) (hb:Zar w bo bc b) (hl:a.length≤2000000):Calls Tryz.prog 52 #[.slice ao a.length ac,.slice bo b.length bc] w (Ret w (.bool (decide (a=b)))):=by
 have HA:=Zh ha
 have HB:=Zh hb
 clear ha hb
 by_cases hn:a.length=b.length
 ·have hn2:(a.length:Int)=b.length:=by omega
  rw [←hn]
  have HN:=Zh hn
  clear hn hn2
  go_enter Tryz.func52,Tryz.ntmps52
  go_wp2
  go_loopw [5] (fun i wr=>∃ k:Nat,k≤a.length∧i=.int .i64 k∧Hid (Below w.heap.size w wr)∧Hid (∀ j,j<k→a.getD j 0=b.getD j 0)) (fun i _=>a.length-(intOf i).toNat)
  case atStart=>exact ⟨0,Nat.zero_le _,rfl,by exact bE,fun j h=>by omega⟩
  case round=>
   obtain ⟨k,hk,rfl,HBr,HE⟩:=hrel
   rename World=>wo
   by_cases hkl:k<a.length
   ·obtain ⟨ad,rfl,c0⟩:=ZaB (HA.out.old HBr.out) hkl
    obtain ⟨bd,rfl,c1⟩:=ZaB (HB.out.old HBr.out) (show k<b.length by have:=HN.out;omega)
    have hkl2:(k:Int) < a.length:=by omega
    have hwk:IntKind.i64.wrap ((k:Int)+1)=((k+1:Nat):Int):=IntWalk.i64_in _ (by omega)
    obtain ⟨x,hx⟩:∃ x,x=a.getD k 0:=⟨_,rfl⟩
    obtain ⟨y,hy⟩:∃ x,x=b.getD k 0:=⟨_,rfl⟩
    rw [←hx] at c0
    rw [←hy] at c1
    have HX:=Zh hx
    have HY:=Zh hy
    clear hx hy
    go_upto_region 6 with fail
    refine rO (Cs [(ad.add k,.int .i64 x),(bd.add k,.int .i64 y)]) (oL [0,1,2,3,4,5,6,7,8]) ⟨c0,c1,trivial⟩ ?_
    clear c0 c1
    repeat refine pO ?_
    refine Zd5 ?_
    by_cases hxy:x=y
    ·subst hxy
     go_wp2
     exact ⟨⟨k+1,by omega,rfl,HBr.out.drew,fun j hj=>by
      by_cases h2:j=k
      ·subst h2;rw [←HX.out,←HY.out]
      ·exact HE.out j (by omega)⟩,by simp [intOf];omega⟩
    ·go_wp2
     go_ret
     rw [decide_eq_false (fun e:a=b=>hxy (by rw [HX.out,HY.out,e]))]
     exact ZcT rfl HBr.out.drew
   ·obtain rfl:k=a.length:=by omega
    have hj5:¬ (a.length:Int) < a.length:=by omega
    go_wp2
    go_ret
    rw [decide_eq_true (show a=b from List.ext_getElem HN.out fun j h1 h2=>by have:=HE.out j h1;simpa [h1,h2] using this)]
    exact ZcT rfl HBr.out
 ·have hn2:¬ (a.length:Int)=b.length:=by omega
  rw [decide_eq_false (fun e=>hn (by rw [e]))]
  go_enter Tryz.func52,Tryz.ntmps52
  go_wp2
  go_ret
  exact ZcT rfl bE
end
section
open Go.RowKit
theorem ZqW : Tryz.prog.fieldsOf 78 = #[⟨"Op", 3, 0, false, "", "", 0⟩, ⟨"A", 3, 1, false, "", "", 8⟩, ⟨"B", 3, 2, false, "", "", 16⟩] := by kernel_rfl
theorem ZqX (w:World) (a b c:Int):Sem.run Tryz.prog (binOp .neq 78 (.agg #[.int .i64 a,.int .i64 b,.int .i64 c]) (.agg #[.int .i64 a,.int .i64 b,.int .i64 c])) w=.ok (.bool false) w:=by
 have he:Sem.run Tryz.prog (Op.equalIn 10000 78 (.agg #[.int .i64 a,.int .i64 b,.int .i64 c]) (.agg #[.int .i64 a,.int .i64 b,.int .i64 c])) w=.ok true w:=by
  have hu:Tryz.prog.underlying 78=some (.struct (Tryz.prog.fieldsOf 78)):=by kernel_rfl
  rw [run_equalIn_agg _ _ _ _ _ hu (by kernel_rfl),ZqW]
  have p0:∀ (x y z:Int) w,Sem.run Tryz.prog (part 3 #[.int .i64 x,.int .i64 y,.int .i64 z] 0) w=.ok (.int .i64 x) w:=fun x y z w=>by kernel_rfl
  have p1:∀ (x y z:Int) w,Sem.run Tryz.prog (part 3 #[.int .i64 x,.int .i64 y,.int .i64 z] 1) w=.ok (.int .i64 y) w:=fun x y z w=>by kernel_rfl
  have p2:∀ (x y z:Int) w,Sem.run Tryz.prog (part 3 #[.int .i64 x,.int .i64 y,.int .i64 z] 2) w=.ok (.int .i64 z) w:=fun x y z w=>by kernel_rfl
  have hi:∀ (x y:Int) w,Sem.run Tryz.prog (Op.equalIn 9999 3 (.int .i64 x) (.int .i64 y)) w=.ok (x == y) w:=fun x y w=>run_equalIn_int w 9998 3 .i64 .i64 x y Tryz.underlying3
  simp [Op.eqFields,Sem.run_bind,p0,p1,p2,hi,Result.andThen_ok]
 rw [run_neq_struct,he];rfl
theorem ZqY (w:World) (op:BinOp) (x y:Operand) (xs ys:Array Value):Sem.run Tryz.prog (eqGuard op 78 x y (.agg xs) (.agg ys)) w=.ok () w:=run_eqGuard_agg w op 78 x y xs ys (by kernel_rfl)
theorem ZqZ (l:List In3) (ao bo:Option Addr) (ac bc:Nat) (w:World) (ha:Zar w ao ac l) (hb:Zar w bo bc l) (hm:l.length≤2000000):Calls Tryz.prog 149 #[.slice ao l.length ac,.slice bo l.length bc] w (Ret w (.bool true)):=by
 have HA:=Zh ha
 have HB:=Zh hb
 clear ha hb
 go_enter Tryz.func149,Tryz.ntmps149
 go_wp2
 go_loopw [5] (fun i wr=>∃ k:Nat,k≤l.length∧i=.int .i64 k∧Hid (Below w.heap.size w wr)) (fun i _=>l.length-(intOf i).toNat)
 case atStart=>exact ⟨0,Nat.zero_le _,rfl,Below.refl _ _⟩
 case round=>
  obtain ⟨k,hk,rfl,HL⟩:=hrel
  by_cases hkl:k<l.length
  ·obtain ⟨ad,rfl,x0,x1,x2⟩:=ZaA (HA.out.old HL.out) hkl
   obtain ⟨bd,rfl,y0,y1,y2⟩:=ZaA (HB.out.old HL.out) hkl
   have hkl2:(k:Int) < l.length:=by omega
   have hwr:IntKind.i64.wrap ((k:Int)+1)=((k+1:Nat):Int):=IntWalk.i64_in _ (by omega)
   generalize l.getD k default=x at x0 x1 x2 y0 y1 y2
   obtain ⟨op,a,b⟩:=x
   dsimp only at x0 x1 x2 y0 y1 y2
   have hne:=ZqX
   have hgu:=ZqY
   go_wp2
   go_quiet (fail)
   go_wp2
   exact ⟨⟨k+1,by omega,rfl,ZcU HL.out _⟩,by simp [intOf];omega⟩
  ·have hj5:¬ (k:Int) < l.length:=by omega
   go_wp2
   go_ret
   exact ZcT rfl HL.out
theorem Zq0 (x:Cls) (c d:CHd) (w:World) (hf:Zar w c.fo c.fc x.f) (hf':Zar w d.fo d.fc x.f) (ht:Zar w c.mo c.mc x.m) (ht':Zar w d.mo d.mc x.m) (hz:x.f.length≤2000000∧x.m.length≤2000000) :
  Calls Tryz.prog 90 #[.agg #[.string x.n,.int .i64 x.sup,.slice c.fo x.f.length c.fc,.slice c.mo x.m.length c.mc],.agg #[.string x.n,.int .i64 x.sup,.slice d.fo x.f.length d.fc,.slice d.mo x.m.length d.mc]] w (Ret w (.bool true)):=by
 have HS:=Zh (show ∀ w',Below w.heap.size w w'→_ from fun w' hb=>by have:=Ze2 x.f x.f c.fo d.fo c.fc d.fc w' (hf.old hb) (hf'.old hb) hz.1;rwa [decide_eq_true rfl] at this)
 have HI:=Zh (show ∀ w',Below w.heap.size w w'→_ from fun w' hb=>by have:=ZqV w' c.mo d.mo c.mc d.mc x.m x.m (ht.old hb) (ht'.old hb) hz.2;rwa [decide_eq_true rfl] at this)
 clear hf hf' ht ht'
 obtain ⟨n,sup,f,l⟩:=x
 dsimp only at HS HI ⊢
 obtain ⟨W1,hW1⟩:∃ W1,W1=(w.alloc (.cells #[.string n,.int .i64 sup,.slice c.fo f.length c.fc,.slice c.mo l.length c.mc] 99)).alloc (.cells #[.string n,.int .i64 sup,.slice d.fo f.length d.fc,.slice d.mo l.length d.mc] 99):=⟨_,rfl⟩
 have HB0:=Zh (show Below w.heap.size w W1 by rw [hW1];exact bE)
 have HX:=Zh (show Blk W1 w.heap.size #[.string n,.int .i64 sup,.slice c.fo f.length c.fc,.slice c.mo l.length c.mc] 99 by rw [hW1];exact (Blk.new _ _ _).alloc _)
 have HY:=Zh (show Blk W1 (w.heap.size+1) #[.string n,.int .i64 sup,.slice d.fo f.length d.fc,.slice d.mo l.length d.mc] 99 by rw [hW1];exact Blk.new' _ _ (by simp))
 have HW:=Zh hW1
 clear hW1
 go_enter Tryz.func90,Tryz.ntmps90
 go_upto_region 1 with fail
 rw [←HW.out]
 have x0:=HX.out.cell 0 rfl;have x1:=HX.out.cell 1 rfl;have x2:=HX.out.cell 2 rfl;have x3:=HX.out.cell 3 rfl
 have y0:=HY.out.cell 0 rfl;have y1:=HY.out.cell 1 rfl;have y2:=HY.out.cell 2 rfl;have y3:=HY.out.cell 3 rfl
 go_wp2_with (first
  | (go_at_call 89;refine (HS.out _ HB0.out).mono ?_;rintro e w1 ⟨rfl,hb1⟩;have HB1:=Zh (Zaf HB0.out hb1);have x3:=(hb1.cell (Zac x3)).trans x3;have y3:=(hb1.cell (Zac y3)).trans y3;clear hb1 x0 x1 x2 y0 y1 y2)
  | (go_at_call 52;refine (HI.out _ HB1.out).mono ?_;rintro e w2 ⟨rfl,hb2⟩;have HB2:=Zh (Zaf HB1.out hb2);clear hb2))
 go_ret
 exact ZcT rfl HB2.out
theorem Zq1 (x:Mth) (c d:MHd) (w:World) (hp:Zar w c.po c.pc x.p) (hp':Zar w d.po d.pc x.p) (hl:Zar w c.lo c.lc x.l) (hl':Zar w d.lo d.lc x.l) (hk:Zar w c.ko c.kc x.k) (hk':Zar w d.ko d.kc x.k) (hz:x.p.length≤2000000∧x.l.length≤2000000∧x.k.length≤2000000) :
  Calls Tryz.prog 91 #[.agg #[.string x.n,.int .i64 x.c,.slice c.po x.p.length c.pc,.slice c.lo x.l.length c.lc,.int .i64 x.r.k,.int .i64 x.r.c,.slice c.ko x.k.length c.kc],.agg #[.string x.n,.int .i64 x.c,.slice d.po x.p.length d.pc,.slice d.lo x.l.length d.lc,.int .i64 x.r.k,.int .i64 x.r.c,.slice d.ko x.k.length d.kc]] w (Ret w (.bool true)):=by
 have HS:=Zh (show ∀ w',Below w.heap.size w w'→_ from fun w' hb=>by have:=Ze2 x.p x.p c.po d.po c.pc d.pc w' (hp.old hb) (hp'.old hb) hz.1;rwa [decide_eq_true rfl] at this)
 have HI:=Zh (show ∀ w',Below w.heap.size w w'→_ from fun w' hb=>by have:=Ze2 x.l x.l c.lo d.lo c.lc d.lc w' (hl.old hb) (hl'.old hb) hz.2.1;rwa [decide_eq_true rfl] at this)
 have HK:=Zh (fun w' hb=>ZqZ x.k c.ko d.ko c.kc d.kc w' (hk.old (w':=w') hb) (hk'.old hb) hz.2.2)
 clear hp hp' hl hl' hk hk'
 obtain ⟨n,mc,p,l,⟨rk,rc⟩,k⟩:=x
 dsimp only at HS HI HK ⊢
 have heq:=ZdV
 have hgu:=ZdX
 obtain ⟨W1,hW1⟩:∃ W1,W1=(w.alloc (.cells #[.string n,.int .i64 mc,.slice c.po p.length c.pc,.slice c.lo l.length c.lc,.int .i64 rk,.int .i64 rc,.slice c.ko k.length c.kc] 81)).alloc (.cells #[.string n,.int .i64 mc,.slice d.po p.length d.pc,.slice d.lo l.length d.lc,.int .i64 rk,.int .i64 rc,.slice d.ko k.length d.kc] 81):=⟨_,rfl⟩
 have HB0:=Zh (show Below w.heap.size w W1 by rw [hW1];exact bE)
 have HX:=Zh (show Blk W1 w.heap.size #[.string n,.int .i64 mc,.slice c.po p.length c.pc,.slice c.lo l.length c.lc,.int .i64 rk,.int .i64 rc,.slice c.ko k.length c.kc] 81 by rw [hW1];exact (Blk.new _ _ _).alloc _)
 have HY:=Zh (show Blk W1 (w.heap.size+1) #[.string n,.int .i64 mc,.slice d.po p.length d.pc,.slice d.lo l.length d.lc,.int .i64 rk,.int .i64 rc,.slice d.ko k.length d.kc] 81 by rw [hW1];exact Blk.new' _ _ (by simp))
 have HW:=Zh hW1
 clear hW1
 go_enter Tryz.func91,Tryz.ntmps91
 go_upto_region 1 with fail
 rw [←HW.out]
 have x0:=HX.out.cell 0 rfl;have x1:=HX.out.cell 1 rfl;have x2:=HX.out.cell 2 rfl;have x3:=HX.out.cell 3 rfl;have x4:=HX.out.cell 4 rfl;have x5:=HX.out.cell 5 rfl;have x6:=HX.out.cell 6 rfl
 have y0:=HY.out.cell 0 rfl;have y1:=HY.out.cell 1 rfl;have y2:=HY.out.cell 2 rfl;have y3:=HY.out.cell 3 rfl;have y4:=HY.out.cell 4 rfl;have y5:=HY.out.cell 5 rfl;have y6:=HY.out.cell 6 rfl
 go_wp2_with (first
  | (have h0:=HS;clear HS;go_at_call 89;refine (h0.out _ HB0.out).mono ?_;rintro e w1 ⟨rfl,hb1⟩;have HB1:=Zh (Zaf HB0.out hb1);have x3:=(hb1.cell (Zac x3)).trans x3;have y3:=(hb1.cell (Zac y3)).trans y3;have x4:=(hb1.cell (Zac x4)).trans x4;have y4:=(hb1.cell (Zac y4)).trans y4;have x5:=(hb1.cell (Zac x5)).trans x5;have y5:=(hb1.cell (Zac y5)).trans y5;have x6:=(hb1.cell (Zac x6)).trans x6;have y6:=(hb1.cell (Zac y6)).trans y6;clear hb1 x0 x1 x2 y0 y1 y2)
  | (go_at_call 89;refine (HI.out _ HB1.out).mono ?_;rintro e w2 ⟨rfl,hb2⟩;have HB2:=Zh (Zaf HB1.out hb2);have x4:=(hb2.cell (Zac x4)).trans x4;have y4:=(hb2.cell (Zac y4)).trans y4;have x5:=(hb2.cell (Zac x5)).trans x5;have y5:=(hb2.cell (Zac y5)).trans y5;have x6:=(hb2.cell (Zac x6)).trans x6;have y6:=(hb2.cell (Zac y6)).trans y6;clear hb2 x3 y3)
  | (go_at_call 149;refine (HK.out _ HB2.out).mono ?_;rintro e w3 ⟨rfl,hb3⟩;have HB3:=Zh (Zaf HB2.out hb3);clear hb3))
 go_ret
 exact ZcT rfl HB3.out
theorem Zq2 (m:Md) (h d:Hd) (w:World) (H:Zay w h m) (D:Zay w d m) (hs:ZnQ m):Calls Tryz.prog 39 #[.agg #[.slice h.co m.cl.length h.cc,.slice h.so m.st.length h.sc,.slice h.eo m.me.length h.ec,.int .i64 m.sel],.agg #[.slice d.co m.cl.length d.cc,.slice d.so m.st.length d.sc,.slice d.eo m.me.length d.ec,.int .i64 m.sel]] w (Ret w (.bool true)):=by
 obtain ⟨W1,hW1⟩:∃ W1,W1=(w.alloc (.cells #[.slice h.co m.cl.length h.cc,.slice h.so m.st.length h.sc,.slice h.eo m.me.length h.ec,.int .i64 m.sel] 26)).alloc (.cells #[.slice d.co m.cl.length d.cc,.slice d.so m.st.length d.sc,.slice d.eo m.me.length d.ec,.int .i64 m.sel] 26):=⟨_,rfl⟩
 have HB0:=Zh (show Below w.heap.size w W1 by rw [hW1];exact bE)
 have HX:=Zh (show Blk W1 w.heap.size #[.slice h.co m.cl.length h.cc,.slice h.so m.st.length h.sc,.slice h.eo m.me.length h.ec,.int .i64 m.sel] 26 by rw [hW1];exact (Blk.new _ _ _).alloc _)
 have HY:=Zh (show Blk W1 (w.heap.size+1) #[.slice d.co m.cl.length d.cc,.slice d.so m.st.length d.sc,.slice d.eo m.me.length d.ec,.int .i64 m.sel] 26 by rw [hW1];exact Blk.new' _ _ (by simp))
 have HM:=Zh (H.old HB0.out)
 have HD:=Zh (D.old HB0.out)
 have HS:=Zh (show ∀ w',Below W1.heap.size W1 w'→_ from fun w' hb=>by have:=Ze2 m.st m.st h.so d.so h.sc d.sc w' (HM.out.st.old hb) (HD.out.st.old hb) hs.st;rwa [decide_eq_true rfl] at this)
 have HSm:=Zh hs
 have HW:=Zh hW1
 have hc1:=hs.cl
 have hc2:=hs.me
 clear hW1 H D hs
 go_enter Tryz.func39,Tryz.ntmps39
 go_upto_region 1 with fail
 rw [←HW.out]
 obtain ⟨x0,x1,x2,x3⟩:=Zj5 HX.out
 obtain ⟨y0,y1,y2,y3⟩:=Zj5 (h:=d) HY.out
 go_upto_region 3 with (go_at_call 89;refine (HS.out _ (Below.refl _ _)).mono ?_;rintro e w1 ⟨rfl,hb1⟩;have HB1:=Zh hb1;clear hb1)
 clear x0 x1 x2 x3 y0 y1 y2 y3
 go_wp2
 go_loopw [5] (fun i wr=>∃ k:Nat,k≤m.cl.length∧i=.int .i64 k∧Hid (Below W1.heap.size W1 wr)) (fun i _=>m.cl.length-(intOf i).toNat)
 case atStart=>exact ⟨0,Nat.zero_le _,rfl,HB1.out⟩
 case round=>
  obtain ⟨k,hk,rfl,HBr⟩:=hrel
  rename World=>wo
  have x0:=(HX.out.old HBr.out).cell 0 (v:=.slice h.co m.cl.length h.cc) rfl
  have y0:=(HY.out.old HBr.out).cell 0 (v:=.slice d.co m.cl.length d.cc) rfl
  by_cases hkl:k<m.cl.length
  ·have hkl2:(k:Int) < m.cl.length:=by omega
   have hwk:IntKind.i64.wrap ((k:Int)+1)=((k+1:Nat):Int):=IntWalk.i64_in _ (by omega)
   obtain ⟨ad,had,a0,a1,a2,a3⟩:=(HM.out.old HBr.out).cls hkl
   obtain ⟨bd,hbd,b0,b1,b2,b3⟩:=(HD.out.old HBr.out).cls hkl
   rw [had] at x0
   rw [hbd] at y0
   have HCl:=Zh (fun w' hb=>Zq0 (m.cl.getD k default) (h.c k) (d.c k) w' ((HM.out.old (w':=w') hb).f k hkl) ((HD.out.old hb).f k hkl) ((HM.out.old hb).t k hkl) ((HD.out.old hb).t k hkl) (HSm.out.c k hkl))
   generalize m.cl.getD k default=x at a0 a1 a2 a3 b0 b1 b2 b3 HCl
   obtain ⟨n,sup,f,l⟩:=x
   dsimp only at a0 a1 a2 a3 b0 b1 b2 b3 HCl
   clear had hbd
   go_upto_region 6 with fail
   have HCs:=Zh (show Cs [(⟨w.heap.size,0,none⟩,.slice (some ad) m.cl.length h.cc),(⟨w.heap.size+1,0,none⟩,.slice (some bd) m.cl.length d.cc),(ad.add (k*4),.string n),(⟨(ad.add (k*4)).block,(ad.add (k*4)).off+1,none⟩,.int .i64 sup),(⟨(ad.add (k*4)).block,(ad.add (k*4)).off+2,none⟩,.slice (h.c k).fo f.length (h.c k).fc),(⟨(ad.add (k*4)).block,(ad.add (k*4)).off+3,none⟩,.slice (h.c k).mo l.length (h.c k).mc),(bd.add (k*4),.string n),(⟨(bd.add (k*4)).block,(bd.add (k*4)).off+1,none⟩,.int .i64 sup),(⟨(bd.add (k*4)).block,(bd.add (k*4)).off+2,none⟩,.slice (d.c k).fo f.length (d.c k).fc),(⟨(bd.add (k*4)).block,(bd.add (k*4)).off+3,none⟩,.slice (d.c k).mo l.length (d.c k).mc)] wo from ⟨x0,y0,a0,a1,a2,a3,b0,b1,b2,b3,trivial⟩)
   refine rO (Cs [(⟨w.heap.size,0,none⟩,.slice (some ad) m.cl.length h.cc),(⟨w.heap.size+1,0,none⟩,.slice (some bd) m.cl.length d.cc),(ad.add (k*4),.string n),(⟨(ad.add (k*4)).block,(ad.add (k*4)).off+1,none⟩,.int .i64 sup),(⟨(ad.add (k*4)).block,(ad.add (k*4)).off+2,none⟩,.slice (h.c k).fo f.length (h.c k).fc),(⟨(ad.add (k*4)).block,(ad.add (k*4)).off+3,none⟩,.slice (h.c k).mo l.length (h.c k).mc),(bd.add (k*4),.string n),(⟨(bd.add (k*4)).block,(bd.add (k*4)).off+1,none⟩,.int .i64 sup),(⟨(bd.add (k*4)).block,(bd.add (k*4)).off+2,none⟩,.slice (d.c k).fo f.length (d.c k).fc),(⟨(bd.add (k*4)).block,(bd.add (k*4)).off+3,none⟩,.slice (d.c k).mo l.length (d.c k).mc)]) (oL [0,1,2,3,4,5,6,7,8,9,110,11]) ⟨x0,y0,a0,a1,a2,a3,b0,b1,b2,b3,trivial⟩ ?_
   clear x0 y0 a0 a1 a2 a3 b0 b1 b2 b3
   exact j2
  ·obtain rfl:k=m.cl.length:=by omega
   have hj5:¬ (m.cl.length:Int) < m.cl.length:=by omega
   go_wp2
   clear x0 y0
   go_loopw [6] (fun i wr=>∃ k:Nat,k≤m.me.length∧i=.int .i64 k∧Hid (Below W1.heap.size W1 wr)) (fun i _=>m.me.length-(intOf i).toNat)
   case atStart=>exact ⟨0,Nat.zero_le _,rfl,HBr.out⟩
   case round=>
    obtain ⟨k,hk,rfl,HBr⟩:=hrel
    rename World=>wo
    have x0:=(HX.out.old HBr.out).cell 2 (v:=.slice h.eo m.me.length h.ec) rfl
    have y0:=(HY.out.old HBr.out).cell 2 (v:=.slice d.eo m.me.length d.ec) rfl
    by_cases hkl:k<m.me.length
    ·have hkl2:(k:Int) < m.me.length:=by omega
     have hwk:IntKind.i64.wrap ((k:Int)+1)=((k+1:Nat):Int):=IntWalk.i64_in _ (by omega)
     obtain ⟨ad,had,a0,a1,a2,a3,a4,a5,a6⟩:=(HM.out.old HBr.out).mth hkl
     obtain ⟨bd,hbd,b0,b1,b2,b3,b4,b5,b6⟩:=(HD.out.old HBr.out).mth hkl
     rw [had] at x0
     rw [hbd] at y0
     have HCl:=Zh (fun w' hb=>Zq1 (m.me.getD k default) (h.e k) (d.e k) w' ((HM.out.old (w':=w') hb).p k hkl) ((HD.out.old hb).p k hkl) ((HM.out.old hb).l k hkl) ((HD.out.old hb).l k hkl) ((HM.out.old hb).k k hkl) ((HD.out.old hb).k k hkl) (HSm.out.m k hkl))
     generalize m.me.getD k default=x at a0 a1 a2 a3 a4 a5 a6 b0 b1 b2 b3 b4 b5 b6 HCl
     obtain ⟨n,mc,p,l,⟨rk,rc⟩,c⟩:=x
     dsimp only at a0 a1 a2 a3 a4 a5 a6 b0 b1 b2 b3 b4 b5 b6 HCl
     clear had hbd
     go_upto_region 11 with fail
     have HCs:=Zh (show (Cs [(⟨w.heap.size,2,none⟩,.slice (some ad) m.me.length h.ec),(⟨w.heap.size+1,2,none⟩,.slice (some bd) m.me.length d.ec),(ad.add (k*7),.string n),(⟨(ad.add (k*7)).block,(ad.add (k*7)).off+1,none⟩,.int .i64 mc),(⟨(ad.add (k*7)).block,(ad.add (k*7)).off+2,none⟩,.slice (h.e k).po p.length (h.e k).pc),(⟨(ad.add (k*7)).block,(ad.add (k*7)).off+3,none⟩,.slice (h.e k).lo l.length (h.e k).lc),(⟨(ad.add (k*7)).block,(ad.add (k*7)).off+4,none⟩,.int .i64 rk),(⟨(ad.add (k*7)).block,(ad.add (k*7)).off+5,none⟩,.int .i64 rc),(⟨(ad.add (k*7)).block,(ad.add (k*7)).off+6,none⟩,.slice (h.e k).ko c.length (h.e k).kc),(bd.add (k*7),.string n),(⟨(bd.add (k*7)).block,(bd.add (k*7)).off+1,none⟩,.int .i64 mc),(⟨(bd.add (k*7)).block,(bd.add (k*7)).off+2,none⟩,.slice (d.e k).po p.length (d.e k).pc),(⟨(bd.add (k*7)).block,(bd.add (k*7)).off+3,none⟩,.slice (d.e k).lo l.length (d.e k).lc),(⟨(bd.add (k*7)).block,(bd.add (k*7)).off+4,none⟩,.int .i64 rk),(⟨(bd.add (k*7)).block,(bd.add (k*7)).off+5,none⟩,.int .i64 rc),(⟨(bd.add (k*7)).block,(bd.add (k*7)).off+6,none⟩,.slice (d.e k).ko c.length (d.e k).kc)]) wo from ⟨x0,y0,a0,a1,a2,a3,a4,a5,a6,b0,b1,b2,b3,b4,b5,b6,trivial⟩)
     refine rO (Cs [(⟨w.heap.size,2,none⟩,.slice (some ad) m.me.length h.ec),(⟨w.heap.size+1,2,none⟩,.slice (some bd) m.me.length d.ec),(ad.add (k*7),.string n),(⟨(ad.add (k*7)).block,(ad.add (k*7)).off+1,none⟩,.int .i64 mc),(⟨(ad.add (k*7)).block,(ad.add (k*7)).off+2,none⟩,.slice (h.e k).po p.length (h.e k).pc),(⟨(ad.add (k*7)).block,(ad.add (k*7)).off+3,none⟩,.slice (h.e k).lo l.length (h.e k).lc),(⟨(ad.add (k*7)).block,(ad.add (k*7)).off+4,none⟩,.int .i64 rk),(⟨(ad.add (k*7)).block,(ad.add (k*7)).off+5,none⟩,.int .i64 rc),(⟨(ad.add (k*7)).block,(ad.add (k*7)).off+6,none⟩,.slice (h.e k).ko c.length (h.e k).kc),(bd.add (k*7),.string n),(⟨(bd.add (k*7)).block,(bd.add (k*7)).off+1,none⟩,.int .i64 mc),(⟨(bd.add (k*7)).block,(bd.add (k*7)).off+2,none⟩,.slice (d.e k).po p.length (d.e k).pc),(⟨(bd.add (k*7)).block,(bd.add (k*7)).off+3,none⟩,.slice (d.e k).lo l.length (d.e k).lc),(⟨(bd.add (k*7)).block,(bd.add (k*7)).off+4,none⟩,.int .i64 rk),(⟨(bd.add (k*7)).block,(bd.add (k*7)).off+5,none⟩,.int .i64 rc),(⟨(bd.add (k*7)).block,(bd.add (k*7)).off+6,none⟩,.slice (d.e k).ko c.length (d.e k).kc)]) (oL [0,1,2,3,4,5,6,7,8,9,110,11]) ⟨x0,y0,a0,a1,a2,a3,a4,a5,a6,b0,b1,b2,b3,b4,b5,b6,trivial⟩ ?_
     clear x0 y0 a0 a1 a2 a3 a4 a5 a6 b0 b1 b2 b3 b4 b5 b6
     exact j2
    ·obtain rfl:k=m.me.length:=by omega
     have hj5:¬ (m.me.length:Int) < m.me.length:=by omega
     go_wp2
     go_ret
     exact ZcT rfl (Zaf HB0.out HBr.out)
end
end Go.Proofs.YtcfjblcgceednaaGreat
