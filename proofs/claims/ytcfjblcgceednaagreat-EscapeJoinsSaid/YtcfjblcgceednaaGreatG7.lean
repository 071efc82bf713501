/- Joined texts. The first: The reference's targets of a selector. -/
import Derived.Test.YtcfjblcgceednaaGreatG4
set_option linter.all false
set_option linter.unusedVariables false
set_option linter.unusedSimpArgs false
set_option maxRecDepth 100000
set_option maxHeartbeats 4000000
namespace Go.Proofs.YtcfjblcgceednaaGreat
theorem k87{p:Prop}(h:p:=by
 go_wp2_with fail
 go_ret
 exact ZcT (ZcX (by rw [decide_eq_false (show ¬ a<m.sel by omega)];rfl)) bE):p:=h
theorem k94{p:Prop}(h:p:=by
 go_wp2
 go_ret
 exact ZcT (ZcX (by rw [decide_eq_false (show ¬ a<(k:Int) by omega)];rfl)) bE):p:=h
section
open Go.RowKit
attribute [local go_sem] World.cell?_alloc_some
section
variable (m:Md)(h:Hd)(s:Int)(w:World)(H:Zay w h m)(hs:0≤s∧s<m.sel)(hn:m.cl.length≤10)(hl:∀ j,j<m.cl.length→((m.cl.getD j default).m.length:Int)=m.sel)
include m h s w H hs hn hl
theorem Zgz:
  Calls Tryz.prog 122 #[.agg #[.slice h.co m.cl.length h.cc,.slice h.so m.st.length h.sc,.slice h.eo m.me.length h.ec,.int .i64 m.sel],.int .i64 s] w (ZdF w (ZaN m s)):=by
 obtain ⟨hs0,hs1⟩:=hs
 obtain ⟨s,rfl⟩:∃ t:Nat,s=t:=⟨s.toNat,by omega⟩
 have hX:=Blk.new w #[.slice h.co m.cl.length h.cc,.slice h.so m.st.length h.sc,.slice h.eo m.me.length h.ec,.int .i64 m.sel] 26
 have hb0:Below w.heap.size w (w.alloc (.cells #[.slice h.co m.cl.length h.cc,.slice h.so m.st.length h.sc,.slice h.eo m.me.length h.ec,.int .i64 m.sel] 26)):=by exact bE
 have HX:=Zh hX
 have HM:=Zh (H.old hb0)
 have HL:=Zh hl
 have HB0:=Zh hb0
 clear hX H hl hb0
 obtain ⟨co,cc,so,sc,eo,ec,hc,he⟩:=h
 dsimp only at HX HM HB0 ⊢
 go_enter Tryz.func122,Tryz.ntmps122
 go_upto_region 1 with fail
 generalize w.alloc _=w0 at HX HM HB0 ⊢
 go_wp2_with fail
 go_loopw [5,6] (fun o i wr=>∃ (k:Nat) (ao:Option Addr) (cap:Nat),k≤m.cl.length∧i=.int .i64 k∧o=.slice ao (ZdM m s k).length cap∧wr.ownsRow w0.heap.size 3 1 (.slice ao (ZdM m s k).length cap) (ZdM m s k).length ((ZdM m s k).map (Value.int .i64))∧Below w0.heap.size w0 wr) (fun _ i _=>m.cl.length-(intOf i).toNat)
 case atStart=>exact ⟨0,none,0,by omega,rfl,rfl,World.ownsRow_nil _ _ _ _,Below.refl _ _⟩
 case round=>
  obtain ⟨k,ao,cap,hk,rfl,rfl,hown,hbl⟩:=hrel
  have r0:wr.cell? ⟨w.heap.size,0,none⟩=some (.slice co m.cl.length cc):=(HX.out.old hbl).cell 0 rfl
  have rl:=(HX.out.old hbl).lt
  have hlen:=ZdO m s k
  by_cases hkl:k<m.cl.length
  ·obtain ⟨ad,hco,c0,c1,c2,c3⟩:=(HM.out.old hbl).cls hkl
   obtain ⟨ad3,hmo,t0⟩:=ZaB ((HM.out.old hbl).t k hkl) (i:=s) (by have:=HL.out k hkl;omega)
   have hst:s<(m.cl.getD k default).m.length:=by have:=HL.out k hkl;omega
   have hyes:=ZdP (m:=m) (s:=s) hkl
   have hno:=ZdQ (m:=m) (s:=s) hkl
   dsimp only at hco c2 c3 hmo
   subst hco
   rw [hmo] at c3
   have HMo:=Zh hmo
   clear hmo c0 c1 c2
   generalize (m.cl.getD k default).m.getD s 0=n at t0 hyes hno
   generalize (m.cl.getD k default).m.length=tn at c3 hst
   generalize hzs:ZdM m s k=zs at hown hlen hyes hno ⊢
   have HZs:=Zh hzs
   clear hzs
   have hkl2:(k:Int) < m.cl.length:=by omega
   have hst2:(s:Int) < tn:=by omega
   have hwr:IntKind.i64.wrap ((k:Int)+1)=k+1:=IntWalk.i64_in _ (by omega)
   by_cases hn0:0≤n
   ·have hy:=hyes hn0
    have hn1:n ≥ 0:=hn0
    have HY:=Zh hy
    clear hyes hno hy
    go_wp2_with (at_builtin;refine Zaj rfl (.tmp 24) (.tmp 34) 34 rfl w0.heap.size 3 1 8 Zcq (.slice ao zs.length cap) zs.length (zs.map (Value.int .i64)) rfl (hown.alloc _) _ 1 1 [.int .i64 n] rfl (ZdL (Blk.new' #[.int .i64 n] 3 (by simp)) rfl) (by intro u hu;rw [List.mem_singleton.1 hu];rfl) (by omega) (by unfold maxLen;omega) (by have:=hbl.size;simp;omega) ?_;intro ao1 cap1 w10 hown9 hg9;have HO9:=Zh hown9;have HB9:=Zh (ZcV (bal hbl _) hg9 (fun j hj=>(hown.lt j hj).1));clear hown9 hg9)
    exact k56
   ·have hy:=hno hn0
    have hn1:¬ n ≥ 0:=hn0
    have HY:=Zh hy
    have HO:=Zh hown
    have HB:=Zh hbl
    clear hyes hno hy hown hbl
    go_wp2
    go_roundw
    case rel=>exact ⟨k+1,ao,cap,by omega,by go_num,by rw [HY.out],by rw [HY.out];exact HO.out,HB.out⟩
    case measure=>simp [intOf];omega
  ·obtain rfl:k=m.cl.length:=by omega
   have hall:=ZdN m s
   generalize ZdM m s m.cl.length=zs at hown hlen hall ⊢
   have HAll:=Zh hall
   have hr:Zar wr ao cap zs:=Zar.of_own (by rw [Zat];exact hown)
   have HR:=Zh hr
   have HB:=Zh hbl
   clear hall hown hbl hr
   go_wp2_with fail
   refine (Zek zs ao cap _ HR.out (by omega)).mono ?_
   rintro e1 w1 ⟨⟨ao1,cap1,rfl,hown1⟩,hb1⟩
   have HO1:=Zh hown1
   have HB1:=Zh hb1
   clear hown1 hb1
   go_wp2
   go_ret
   refine ⟨⟨ao1,cap1,by rw [HAll.out];rfl,?_,fun a ha=>?_⟩,?_⟩
   ·rw [HAll.out]
    exact Zar.of_own (by rw [Zat];exact HO1.out)
   ·subst ha
    have h1:=(HO1.out.lt a.block rfl).1
    have h2:=HB0.out.size
    have h3:=HB.out.size
    omega
   ·exact Zaf HB0.out (Zaf HB.out HB1.out)
theorem ZgA:
  Calls Tryz.prog 122 #[.agg #[.slice h.co m.cl.length h.cc,.slice h.so m.st.length h.sc,.slice h.eo m.me.length h.ec,.int .i64 m.sel],.int .i64 s] w (ZdE w (ZaN m s)):=
 (Zgz m h s w H hs hn hl).mono fun e w' ⟨⟨ao,cap,h1,h2,_⟩,h3⟩=>⟨⟨ao,cap,h1,h2⟩,h3⟩
end
end
section
open Go.RowKit
attribute [local go_sem] World.cell?_alloc_some
theorem ZgB {i:In3} (h:ZaQ false i=true):(i.op=14∨i.op=24∨i.op=25∨i.op=26→0≤i.a)∧(i.op=16∨i.op=12→0≤i.b):=by
 obtain ⟨op,a,b⟩:=i
 simp only [ZaQ,Bool.and_eq_true] at h
 have h1:=h.1.1.2
 have h2:=h.1.2
 dsimp only at h1 h2 ⊢
 constructor
 ·intro ho
  rcases ho with rfl|rfl|rfl|rfl
  all_goals (simp [opA,inR,inI] at h1;exact h1.1)
 ·intro ho
  rcases ho with rfl|rfl
  all_goals (simp [opB,inR,inI] at h2;exact h2.1)
theorem ZgC {l:List Int} (h:Asc l) (k:Int):(l.all fun t=>decide (t<k))=(decide (l.length=0)||decide (l.getD (l.length-1) 0<k)):=by
 rcases List.eq_nil_or_concat l with rfl|⟨r,x,rfl⟩
 ·rfl
 ·rw [List.concat_eq_append] at h ⊢
  have h1:=(List.pairwise_append.1 h).2.2
  have e:(r++[x]).getD ((r++[x]).length-1) 0=x:=by simp
  rw [e,List.all_append]
  simp only [List.all_cons,List.all_nil,Bool.and_true,List.length_append,List.length_cons,List.length_nil]
  by_cases hx:x<k
  ·have:(r.all fun t=>decide (t<k))=true:=by
    rw [List.all_eq_true]
    intro t ht
    have:=h1 t ht x (by simp)
    simp;omega
   rw [this];simp [hx]
  ·simp [hx]
theorem ZgD (m:Md) (h:Hd) (k:Nat) (i:In3) (w:World) (H:Zay w h m) (hk:k<m.me.length) (hn:m.cl.length≤10) (hl:∀ j,j<m.cl.length→((m.cl.getD j default).m.length:Int)=m.sel) (hv:ZaQ false i=true) (ho:∀ j:Nat,j<k→-1≤m.own j) :
  Calls Tryz.prog 182 #[.agg #[.slice h.co m.cl.length h.cc,.slice h.so m.st.length h.sc,.slice h.eo m.me.length h.ec,.int .i64 m.sel],.int .i64 k,.agg #[.int .i64 i.op,.int .i64 i.a,.int .i64 i.b]] w (Ret w (.bool (ZaW m k i))):=by
 obtain ⟨ha,hb⟩:=ZgB hv
 obtain ⟨op,a,b⟩:=i
 dsimp only at ha hb ⊢
 have HM:=Zh H
 have HL:=Zh hl
 have HO:=Zh ho
 have hbz:=H.bz
 clear H hl hv ho
 by_cases h26:op=26
 ·subst h26
  have ha:=ha (.inr (.inr (.inr rfl)))
  have hq:ZaW m k ⟨26,a,b⟩=(decide (a<m.sel)&&(ZaN m a).all fun t=>decide (t<k)):=rfl
  rw [hq,ZgC (show Asc (ZaN m a) from Zdv _)]
  by_cases hs:a<m.sel
  ·have hs2:¬ a ≥ m.sel:=by omega
   have htg:=fun w1 (hb:Below w.heap.size w w1)=>ZgA m h a w1 (HM.out.old hb) ⟨ha,hs⟩ hn HL.out
   have hlen:=ZdG m a
   generalize ZaN m a=l at htg hlen ⊢
   have HT:=Zh htg
   clear htg hq hb
   go_enter Tryz.func182,Tryz.ntmps182
   go_wp2_with fail
   refine (HT.out _ bE).mono ?_
   rintro e1 w1 ⟨⟨ao,cap,rfl,hr⟩,hb1⟩
   have hbw:=Zaf (show Below w.heap.size w _ by exact bE) hb1
   by_cases hl0:l.length=0
   ·have hl1:((l.length:Int) == 0)=true:=by simp [hl0]
    go_wp2
    go_ret
    exact ZcT (ZcX (by simp [hl0,hs])) hbw
   ·obtain ⟨ad,rfl,t0⟩:=ZaB hr (i:=l.length-1) (by omega)
    have hl1:((l.length:Int) == 0)=false:=by simp [hl0]
    have hw1:IntKind.i64.wrap ((l.length:Int)-1)=((l.length-1:Nat):Int):=by rw [show ((l.length:Int)-1)=((l.length-1:Nat):Int) by omega];exact IntWalk.i64_in _ (by omega)
    have hlt:((l.length-1:Nat):Int) < l.length:=by omega
    generalize htq:l.getD (l.length-1) 0=t at t0
    have HTq:=Zh htq
    clear htq
    generalize hnn:l.length-1=n1 at t0 hw1 hlt
    have HN:=Zh hnn
    have HL0:=Zh hl0
    clear hnn hl0 hr
    go_wp2
    go_ret
    exact ZcT (ZcX (by rw [HTq.out,decide_eq_true hs,decide_eq_false HL0.out];rfl)) hbw
  ·have hs2:a ≥ m.sel:=by omega
   go_enter Tryz.func182,Tryz.ntmps182
   exact k87
 ·by_cases h25:op=25
  ·subst h25
   have ha:=ha (.inr (.inr (.inl rfl)))
   have hq:ZaW m k ⟨25,a,b⟩=(decide (a<k)&&decide (m.own a<0)):=rfl
   rw [hq]
   clear hq hb
   by_cases hs:a<k
   ·obtain ⟨c,rfl⟩:∃ c:Nat,a=c:=⟨a.toNat,by omega⟩
    obtain ⟨ad,heo,-,m1,-,-,-,-,-⟩:=HM.out.mth (i:=c) (by omega)
    have hown:m.own c=(m.me.getD c default).c:=rfl
    have how:=HO.out c (by omega)
    generalize (m.me.getD c default).c=own at m1 hown
    rw [hown] at how
    have HOw:=Zh hown
    clear hown
    obtain ⟨co,cc,so,sc,eo,ec,hc,he⟩:=h
    dsimp only at *
    subst heo
    have hcm:(c:Int) < m.me.length:=by omega
    by_cases hm1:own=-1
    ·have hm2:(own == -1)=true:=by simp [hm1]
     have hm3:decide (m.own c<0)=true:=by rw [HOw.out];simp;omega
     have HM3:=Zh hm3
     clear hm1 hm3
     go_enter Tryz.func182,Tryz.ntmps182
     go_wp2
     go_ret
     exact ZcT (ZcX (by rw [HM3.out];try simp [hs])) bE
    ·have hm2:(own == -1)=false:=by simp [hm1]
     have hm3:decide (m.own c<0)=false:=by rw [HOw.out];simp;omega
     have HM3:=Zh hm3
     clear hm1 hm3
     go_enter Tryz.func182,Tryz.ntmps182
     go_wp2
     go_ret
     exact ZcT (ZcX (by rw [HM3.out];try simp)) bE
   ·go_enter Tryz.func182,Tryz.ntmps182
    exact k94
  ·have n26:(op == 26)=false:=by simp [h26]
   have n25:(op == 25)=false:=by simp [h25]
   have HA:=Zh ha
   have HB:=Zh hb
   clear ha hb
   go_enter Tryz.func182,Tryz.ntmps182
   go_wp2
   all_goals
    go_ret
    exact ZcT (ZcX (by have:=HA.out;have:=HB.out;grind [ZaW])) bE
end
end Go.Proofs.YtcfjblcgceednaaGreat
