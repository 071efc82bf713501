/- Joined texts. The first: The reference: is a method as it must be? -/
import Derived.Test.YtcfjblcgceednaaGreatG8
import Derived.Test.YtcfjblcgceednaaGreatG9
import Derived.Test.YtcfjblcgceednaaGreatG7
set_option linter.all false
set_option linter.unusedVariables false
set_option linter.unusedSimpArgs false
set_option maxRecDepth 100000
set_option maxHeartbeats 8000000
namespace Go.Proofs.YtcfjblcgceednaaGreat
theorem k49{p:Prop}(h:p:=by
 go_enter Tryz.func121,Tryz.ntmps121
 go_wp2
 go_ret
 exact ZcT (ZcX HNo.out.symm) HB3.out):p:=h
section
open Go.RowKit
attribute [local go_sem] World.cell?_alloc_some
theorem Zih (m:Md) (h:Hd) (k:Nat) (w:World) (H:Zay w h m) (hk:k<m.me.length) (hn:m.cl.length≤10) (hl:∀ j,j<m.cl.length→((m.cl.getD j default).m.length:Int)=m.sel) (ho:∀ j:Nat,j<k→-1≤m.own j) :
  Calls Tryz.prog 121 #[.agg #[.slice h.co m.cl.length h.cc,.slice h.so m.st.length h.sc,.slice h.eo m.me.length h.ec,.int .i64 m.sel],.int .i64 k] w (Ret w (.bool (ZaX m k))):=by
 have hX0:Blk _ w.heap.size #[.slice h.co m.cl.length h.cc,.slice h.so m.st.length h.sc,.slice h.eo m.me.length h.ec,.int .i64 m.sel] 26:=Blk.new w #[.slice h.co m.cl.length h.cc,.slice h.so m.st.length h.sc,.slice h.eo m.me.length h.ec,.int .i64 m.sel] 26
 have hb0:Below w.heap.size w (w.alloc (.cells #[.slice h.co m.cl.length h.cc,.slice h.so m.st.length h.sc,.slice h.eo m.me.length h.ec,.int .i64 m.sel] 26)):=by exact bE
 obtain ⟨ad,heo,c0,c1,c2,c3,c4,c5,c6⟩:=(H.old hb0).mth hk
 have hmb:=H.bm k hk
 have hpp:=H.p k hk
 have hpl:=H.l k hk
 have hpk:=H.k k hk
 generalize hx:m.me.getD k default=x at c0 c1 c2 c3 c4 c5 c6 hmb hpp hpl hpk
 obtain ⟨nm,c,pl,ll,⟨rk,rc⟩,kl⟩:=x
 generalize hey:h.e k=y at c0 c1 c2 c3 c4 c5 c6 hmb hpp hpl hpk
 obtain ⟨po,pc,lo,lc,ko,kc⟩:=y
 dsimp only at c0 c1 c2 c3 c4 c5 c6 hmb hpp hpl hpk
 have hq:ZaX m k=(decide (-1≤c)&&decide (c<m.cl.length)&&decide (pl.length≤4)&&ZaG m.cl.length pl&&decide ((ll.length:Int)≤10-pl.length-(if 0≤c then 1 else 0))&&ZaG m.cl.length ll&&ZaF m.cl.length ⟨rk,rc⟩ 0&&decide (ZaV false kl=0)&&kl.all (ZaW m k)):=by simp only [ZaX,hx]
 have hY0:Blk ((w.alloc (.cells #[.slice h.co m.cl.length h.cc,.slice h.so m.st.length h.sc,.slice h.eo m.me.length h.ec,.int .i64 m.sel] 26)).alloc (.cells #[.string nm,.int .i64 c,.slice po pl.length pc,.slice lo ll.length lc,.int .i64 rk,.int .i64 rc,.slice ko kl.length kc] 81)) (w.heap.size+1) #[.string nm,.int .i64 c,.slice po pl.length pc,.slice lo ll.length lc,.int .i64 rk,.int .i64 rc,.slice ko kl.length kc] 81:=Blk.new' (w:=w.alloc (.cells #[.slice h.co m.cl.length h.cc,.slice h.so m.st.length h.sc,.slice h.eo m.me.length h.ec,.int .i64 m.sel] 26)) _ _ (by simp)
 have hX:=hX0.alloc (.cells #[.string nm,.int .i64 c,.slice po pl.length pc,.slice lo ll.length lc,.int .i64 rk,.int .i64 rc,.slice ko kl.length kc] 81)
 have hb3:Below w.heap.size w ((w.alloc (.cells #[.slice h.co m.cl.length h.cc,.slice h.so m.st.length h.sc,.slice h.eo m.me.length h.ec,.int .i64 m.sel] 26)).alloc (.cells #[.string nm,.int .i64 c,.slice po pl.length pc,.slice lo ll.length lc,.int .i64 rk,.int .i64 rc,.slice ko kl.length kc] 81)):=by exact bE
 have HQ:=Zh hq
 have HX:=Zh hX
 have HY:=Zh hY0
 have HM:=Zh H
 have HL:=Zh hl
 have HO:=Zh ho
 have HPP:=Zh hpp
 have HPL:=Zh hpl
 have HPK:=Zh hpk
 have HB3:=Zh hb3
 clear hX hY0 H hl ho hpl hpk hpp hb3 hq hx hey hX0 hb0
 obtain ⟨co,cc,so,sc,eo,ec,hc,he⟩:=h
 dsimp only at *
 subst heo
 have hk2:(k:Int) < m.me.length:=by omega
 by_cases h1:-1≤c∧c<m.cl.length∧pl.length≤4∧((ll.length:Int)≤10-pl.length-(if 0≤c then 1 else 0))
 ·obtain ⟨h1,h2,h3,h4⟩:=h1
  have g1:¬ c < -1:=by omega
  have g2:¬ c ≥ m.cl.length:=by omega
  have g3:¬ (pl.length:Int) > 4:=by omega
  have hpt:=fun w' (hb:Below w.heap.size w w')=>ZeZ m ⟨co,cc,so,sc,some ad,ec,hc,he⟩ pl po pc w' (HPP.out.old hb) (by omega)
  have hlt:=fun w' (hb:Below w.heap.size w w')=>ZeZ m ⟨co,cc,so,sc,some ad,ec,hc,he⟩ ll lo lc w' (HPL.out.old hb) (by split at h4<;>omega)
  have hrt:=fun w'=>ZeW m ⟨co,cc,so,sc,some ad,ec,hc,he⟩ ⟨rk,rc⟩ 0 w' (by omega)
  generalize hq1:ZaG m.cl.length pl=q1 at hpt
  generalize hq2:ZaG m.cl.length ll=q2 at hlt
  generalize hq3:ZaF m.cl.length ⟨rk,rc⟩ 0=q3 at hrt
  have HQ1:=Zh hq1
  have HQ2:=Zh hq2
  have HQ3:=Zh hq3
  have HPT:=Zh hpt
  have HLT:=Zh hlt
  have HRT:=Zh hrt
  have H4:=Zh h4
  have HR:∀ w':World,q1=false∨q2=false∨q3=false→Below w.heap.size w w'→Ret w (.bool (ZaX m k)) (.returned (.bool false)) w':=fun w' hf hb=>ZcT (ZcX (by rw [HQ.out,HQ1.out,HQ2.out,HQ3.out];rcases hf with rfl|rfl|rfl<;>simp)) hb
  have HRf:=Zh HR
  clear hq1 hq2 hq3 hpt hlt hrt HR
  by_cases hc0:0≤c
  all_goals
   have hc1:(pl.length:Int)+ll.length+1≤11:=by have:=H4.out;split at this<;>omega
   have hc2:¬ (pl.length:Int)+ll.length > 10:=by have:=H4.out;split at this<;>omega
   first
    | have hc3:¬ (pl.length:Int)+ll.length+1 > 10:=by (have:=H4.out;rw [if_pos hc0] at this;omega)
    | have hc3:¬ c ≥ 0:=by omega
   clear h4
   go_enter Tryz.func121,Tryz.ntmps121
   go_wp2_with fail
   refine (HPT.out _ HB3.out).mono ?_
   rintro e1 w1 ⟨rfl,hb1⟩
   clear c0 c1 c2 c3 c4 c5 c6
   have HB1:=Zh (Zaf HB3.out hb1)
   have Hb1:=Zh hb1
   have r0:w1.cell? ⟨w.heap.size,0,none⟩=some (.slice co m.cl.length cc):=(HX.out.old hb1).cell 0 rfl
   have r1:w1.cell? ⟨w.heap.size,1,none⟩=some (.slice so m.st.length sc):=(HX.out.old hb1).cell 1 rfl
   have r2:w1.cell? ⟨w.heap.size,2,none⟩=some (.slice (some ad) m.me.length ec):=(HX.out.old hb1).cell 2 rfl
   have r3:w1.cell? ⟨w.heap.size,3,none⟩=some (.int .i64 m.sel):=(HX.out.old hb1).cell 3 rfl
   have rl:=(HX.out.old hb1).lt
   have x3:w1.cell? ⟨w.heap.size+1,3,none⟩=some (.slice lo ll.length lc):=(HY.out.old hb1).cell 3 rfl
   clear hb1
   rcases q1 with _|_
   ·go_wp2
    go_ret
    exact HRf.out _ (by simp) HB1.out
   go_wp2_with fail
   refine (HLT.out _ HB1.out).mono ?_
   rintro e2 w2 ⟨rfl,hb2⟩
   have HB2:=Zh (Zaf HB1.out hb2)
   have Hb2:=Zh (Zaf Hb1.out hb2)
   have r0:=ZeV hb2 r0
   have r1:=ZeV hb2 r1
   have r2:=ZeV hb2 r2
   have r3:=ZeV hb2 r3
   have x4:w2.cell? ⟨w.heap.size+1,4,none⟩=some (.int .i64 rk):=(HY.out.old Hb2.out).cell 4 rfl
   have x5:w2.cell? ⟨w.heap.size+1,5,none⟩=some (.int .i64 rc):=(HY.out.old Hb2.out).cell 5 rfl
   clear hb2 x3
   rcases q2 with _|_
   ·go_wp2
    go_ret
    exact HRf.out _ (by simp) HB2.out
   go_wp2_with fail
   refine (HRT.out _).mono ?_
   rintro e3 w3 ⟨rfl,hb3⟩
   have HB3':=Zh (Zaf HB2.out hb3)
   have Hb3:=Zh (Zaf Hb2.out hb3)
   have x6:w3.cell? ⟨w.heap.size+1,6,none⟩=some (.slice ko kl.length kc):=(HY.out.old Hb3.out).cell 6 rfl
   clear hb3 x4 x5 r0 r1 r2 r3 rl
   rcases q3 with _|_
   ·go_wp2
    go_ret
    exact HRf.out _ (by simp) HB3'.out
   go_wp2_with fail
   refine (ZgK kl ko kc false _ (HPK.out.old HB3'.out)).mono ?_
   rintro e4 w4 ⟨rfl,hb4⟩
   have HB4:=Zh (Zaf HB3'.out hb4)
   have Hb4:=Zh (Zaf Hb3.out hb4)
   clear hb4 x6
   by_cases hc4:ZaV false kl=0
   ·obtain ⟨hk120,hins,-⟩:=Zg4 hc4
    have hc40:(ZaV false kl != 0)=false:=by simp [hc4]
    have HE4:=Zh hc4
    have HI:=Zh hins
    clear hins hc4
    have hmq:ZaX m k=kl.all (ZaW m k):=by
     rw [HQ.out,HQ1.out,HQ2.out,HQ3.out,HE4.out,decide_eq_true H4.out,decide_eq_true h1,decide_eq_true h2,decide_eq_true h3]
     simp
    have HMq:=Zh hmq
    clear hmq
    go_wp2_with fail
    go_loopw [7] (fun i wr=>∃ j:Nat,j≤kl.length∧i=.int .i64 j∧Below w4.heap.size w4 wr∧Hid (∀ i,i<j→ZaW m k (kl.getD i default)=true)) (fun i _=>kl.length-(intOf i).toNat)
    case atStart=>exact ⟨0,by omega,rfl,Below.refl _ _,Zh (by omega)⟩
    case round=>
     obtain ⟨j,hj,rfl,hbl,q1⟩:=hrel
     have HBl:=Zh hbl
     have HBr:=Zh (Zaf HB4.out hbl)
     have Hbr:=Zh (Zaf Hb4.out hbl)
     clear hbl
     have x6:wr.cell? ⟨w.heap.size+1,6,none⟩=some (.slice ko kl.length kc):=(HY.out.old Hbr.out).cell 6 rfl
     by_cases hjl:j<kl.length
     ·obtain ⟨ak,rfl,e0,e1,e2⟩:=ZaA (HPK.out.old HBr.out) hjl
      have r0:wr.cell? ⟨w.heap.size,0,none⟩=some (.slice co m.cl.length cc):=(HX.out.old Hbr.out).cell 0 rfl
      have r1:wr.cell? ⟨w.heap.size,1,none⟩=some (.slice so m.st.length sc):=(HX.out.old Hbr.out).cell 1 rfl
      have r2:wr.cell? ⟨w.heap.size,2,none⟩=some (.slice (some ad) m.me.length ec):=(HX.out.old Hbr.out).cell 2 rfl
      have r3:wr.cell? ⟨w.heap.size,3,none⟩=some (.int .i64 m.sel):=(HX.out.old Hbr.out).cell 3 rfl
      have hjl2:(j:Int) < kl.length:=by omega
      have hwr:IntKind.i64.wrap ((j:Int)+1)=j+1:=IntWalk.i64_in _ (by omega)
      have hop:=fun w' hb=>ZgD m ⟨co,cc,so,sc,some ad,ec,hc,he⟩ k (kl.getD j default) w' (HM.out.old hb) hk hn HL.out (HI.out j hjl) HO.out
      generalize hins:kl.getD j default=ins at e0 e1 e2 hop
      generalize hqo:ZaW m k ins=qo at hop
      have HIns:=Zh hins
      have HQo:=Zh hqo
      have HOp:=Zh hop
      clear hins hqo hop
      go_upto_region 12 with fail
      refine rO (fun w'=>w'.cell? ⟨w.heap.size,0,none⟩=some (.slice co m.cl.length cc)∧w'.cell? ⟨w.heap.size,1,none⟩=some (.slice so m.st.length sc)∧w'.cell? ⟨w.heap.size,2,none⟩=some (.slice (some ad) m.me.length ec)∧w'.cell? ⟨w.heap.size,3,none⟩=some (.int .i64 m.sel)∧w'.cell? ⟨w.heap.size+1,6,none⟩=some (.slice (some ak) kl.length kc)∧w'.cell? (ak.add (j*3))=some (.int .i64 ins.op)∧w'.cell? ⟨(ak.add (j*3)).block,(ak.add (j*3)).off+1,none⟩=some (.int .i64 ins.a)∧w'.cell? ⟨(ak.add (j*3)).block,(ak.add (j*3)).off+2,none⟩=some (.int .i64 ins.b)) (oL [0,1,2,3,4,5,6,107,8]) ⟨r0,r1,r2,r3,x6,e0,e1,e2⟩ ?_
      repeat refine pO ?_
      refine oO fun K hK=>?_
      go_simp
      refine (HOp.out _ HBr.out.drew).mono ?_
      rintro e5 w5 ⟨rfl,hb5'⟩
      have hb5:Below wr.heap.size wr w5:=Zaf (Below.refl _ _).drew hb5'
      go_simp
      refine hK _ _ ⟨⟨ZeV hb5 r0,ZeV hb5 r1,ZeV hb5 r2,ZeV hb5 r3,ZeV hb5 x6,ZeV hb5 e0,ZeV hb5 e1,ZeV hb5 e2⟩,?_⟩
      clear hK K
      repeat refine pO ?_
      refine Zd5 ?_
      have HB5:=Zh (Zaf HBr.out hb5)
      have HB5l:=Zh (Zaf HBl.out hb5)
      clear hb5 hb5' r0 r1 r2 r3 x6 e0 e1 e2
      rcases qo with _|_
      ·go_wp2
       go_ret
       refine ZcT (ZcX ?_) HB5.out
       rw [HMq.out]
       exact (List.all_eq_false.2 ⟨ins,by rw [←HIns.out,List.getD_eq_getElem?_getD,List.getElem?_eq_getElem hjl];exact List.getElem_mem hjl,by rw [HQo.out];decide⟩).symm
      ·go_wp2
       go_roundw
       case rel=>
        refine ⟨j+1,by omega,by go_num,HB5l.out,Zh fun i hi=>?_⟩
        by_cases hij:i<j
        ·exact q1.out i hij
        ·obtain rfl:i=j:=by omega
         rw [HIns.out];exact HQo.out
       case measure=>simp [intOf];omega
     ·go_wp2
      go_ret
      refine ZcT (ZcX ?_) HBr.out
      rw [HMq.out]
      refine (List.all_eq_true.2 fun x hx=>?_).symm
      obtain ⟨i,hi,rfl⟩:=List.getElem_of_mem hx
      have:=q1.out i (by omega)
      rwa [List.getD_eq_getElem?_getD,List.getElem?_eq_getElem hi] at this
   ·have hc40:(ZaV false kl != 0)=true:=by simp [hc4]
    have HE4:=Zh hc4
    clear hc4
    go_wp2
    go_ret
    exact ZcT (ZcX (by rw [HQ.out,decide_eq_false HE4.out];simp)) HB4.out
 ·have hno:ZaX m k=false:=by rw [HQ.out];grind
  have HNo:=Zh hno
  clear hno
  by_cases g1:c < -1
  ·by_cases hc0:0≤c
   ·omega
   ·have hc3:¬ c ≥ 0:=by omega
    exact k49
  by_cases g2:c ≥ m.cl.length
  ·have hc3:c ≥ 0:=by omega
   exact k49
  by_cases g3:(pl.length:Int) > 4
  ·by_cases hc3:c ≥ 0
   all_goals
    go_enter Tryz.func121,Tryz.ntmps121
    go_wp2
    go_ret
    exact ZcT (ZcX HNo.out.symm) HB3.out
  by_cases hc3:c ≥ 0
  ·rw [if_pos hc3] at h1
   have g4:(pl.length:Int)+ll.length+1 > 10:=by omega
   exact k49
  ·rw [if_neg hc3] at h1
   have g4:(pl.length:Int)+ll.length > 10:=by omega
   exact k49
end
section
open Go.RowKit
attribute [local go_sem] World.cell?_alloc_some
def Zii {α:Type} [Cells α] (e:TypeId) (W:World) (l:List α) (er:Int):Ending→World→Prop:=fun en w'=>(∃ ao cap,en=.returned (.tuple #[.slice ao l.length cap,.int .i64 er])∧w'.ownsRow W.heap.size e (Cells.n α) (.slice ao l.length cap) l.length (Zak l))∧Below W.heap.size W w'
def Zij {α:Type} [Cells α] (W:World) (l:List α) (er:Int):Ending→World→Prop:=fun en w'=>(∃ ao cap,en=.returned (.tuple #[.slice ao l.length cap,.int .i64 er])∧Zar w' ao cap l)∧Below W.heap.size W w'
def Zik {α:Type} [Cells α] (W:World) (l:List α) (er:Int):Ending→World→Prop:=fun en w'=>(∃ ao cap,en=.returned (.tuple #[.slice ao l.length cap,.int .i64 er])∧Zar w' ao cap l∧∀ a,ao=some a→W.heap.size≤a.block)∧Below W.heap.size W w'
theorem Zil {m:Md} (h:Za1 m=true):∀ k,k<m.cl.length→ZaK m k=true:=by
 simp only [Za1,Bool.and_eq_true] at h
 exact ZaE.1 h.1.1.2
theorem Zim {m:Md} (h:Za1 m=true):∀ k,k<m.me.length→ZaX m k=true:=by
 simp only [Za1,Bool.and_eq_true] at h
 exact ZaE.1 h.1.2
theorem Zin {m:Md} (h:Za1 m=true):m.cl.length≤10∧m.me.length≤16∧0≤m.sel∧m.sel≤16∧m.st.length≤10:=by
 simp only [Za1,ZaZ,Bool.and_eq_true,decide_eq_true_eq] at h
 exact ⟨h.1.1.1.1.1.1.1.1.1,h.1.1.1.1.1.1.1.1.2,h.1.1.1.1.1.1.1.2,h.1.1.1.1.1.1.2,h.1.1.1.1.1.2⟩
theorem Zio {m:Md}{k:Nat} (h:ZaX m k=true):(m.me.getD k default).p.length≤4∧(m.me.getD k default).l.length≤10∧(m.me.getD k default).k.length≤120:=by
 simp only [ZaX,Bool.and_eq_true,decide_eq_true_eq] at h
 have h1:=h.1.1.1.1.1.1.2
 have h2:=h.1.1.1.1.2
 have h3:=(Zg4 h.1.2).1
 refine ⟨h1,?_,h3⟩
 split at h2<;>omega
theorem Zip (m:Md) (h:Hd) (k:Nat) (w:World) (H:Zay w h m) (hv:Za1 m=true) (hk:k<m.me.length):Calls Tryz.prog 126 #[.agg #[.slice h.co m.cl.length h.cc,.slice h.so m.st.length h.sc,.slice h.eo m.me.length h.ec,.int .i64 m.sel],.int .i64 k] w (Zii 76 w (ZeF (m.me.getD k default)) 0):=by
 have hX:Blk (w.alloc (.cells #[.slice h.co m.cl.length h.cc,.slice h.so m.st.length h.sc,.slice h.eo m.me.length h.ec,.int .i64 m.sel] 26)) w.heap.size #[.slice h.co m.cl.length h.cc,.slice h.so m.st.length h.sc,.slice h.eo m.me.length h.ec,.int .i64 m.sel] 26:=Blk.new w _ _
 have hR:Blk ((w.alloc (.cells #[.slice h.co m.cl.length h.cc,.slice h.so m.st.length h.sc,.slice h.eo m.me.length h.ec,.int .i64 m.sel] 26)).alloc (.cells #[.int .i64 k] 3)) (w.heap.size+1) #[.int .i64 k] 3:=Blk.new' (w:=w.alloc (.cells #[.slice h.co m.cl.length h.cc,.slice h.so m.st.length h.sc,.slice h.eo m.me.length h.ec,.int .i64 m.sel] 26)) #[.int .i64 k] 3 (by simp)
 have hb0:Below w.heap.size w ((w.alloc (.cells #[.slice h.co m.cl.length h.cc,.slice h.so m.st.length h.sc,.slice h.eo m.me.length h.ec,.int .i64 m.sel] 26)).alloc (.cells #[.int .i64 k] 3)):=by exact bE
 have hrow:Zar ((w.alloc (.cells #[.slice h.co m.cl.length h.cc,.slice h.so m.st.length h.sc,.slice h.eo m.me.length h.ec,.int .i64 m.sel] 26)).alloc (.cells #[.int .i64 k] 3)) (some ⟨w.heap.size+1,0,none⟩) 1 [(k:Int)]:=by
  exact k98
 have hask:=Zhj m h m.me.length [(k:Int)] _ 1 _ (H.old hb0) hrow (by simp)
 have e:(Za1 m&&[(k:Int)].all (inV m.me.length))=true:=by rw [hv];simp [inV];omega
 rw [e] at hask
 have hlen:=Zio (Zim hv k hk)
 generalize hxk:m.me.getD k default=x at hlen ⊢
 generalize hlq:ZeF x=q
 have HA:=Zh hask
 have HX:=Zh (hX.alloc (.cells #[.int .i64 k] 3))
 have HM:=Zh H
 have HB0:=Zh hb0
 have HXk:=Zh hxk
 have HLq:=Zh hlq
 clear hask hX hR hb0 hrow e H hxk hlq hv
 have hk2:(k:Int) < m.me.length:=by omega
 go_enter Tryz.func126,Tryz.ntmps126
 go_wp2_with fail
 refine HA.out.mono ?_
 rintro e1 w1 ⟨rfl,hb1⟩
 have HB1:=Zh (Zaf HB0.out hb1)
 have hX1:=HX.out.old hb1
 have r2:w1.cell? ⟨w.heap.size,2,none⟩=some (.slice h.eo m.me.length h.ec):=hX1.cell 2 rfl
 have rl:=hX1.lt
 have hm1:=HM.out.old HB1.out
 obtain ⟨am,heo,c0,c1,c2,c3,c4,c5,c6⟩:=hm1.mth hk
 have hp:=hm1.p k hk
 have hl:=hm1.l k hk
 rw [HXk.out] at c0 c1 c2 c3 c4 c5 c6 hp hl
 rw [heo] at r2
 have hloc:=Zfh x (h.e k) w1 hp hl (by omega)
 rw [HLq.out] at hloc
 have HLo:=Zh hloc
 have HEo:=Zh heo
 have he0:¬ Zhh true=1:=by decide
 have he1:Zhh true=0:=rfl
 clear hX1 hm1 hp hl hloc heo hb1
 go_wp2_with fail
 refine HLo.out.mono ?_
 rintro e2 w2 ⟨⟨ao,cap,rfl,hown⟩,hb2⟩
 have HO:=Zh hown
 clear hown
 go_wp2
 go_ret2
 exact ⟨⟨ao,cap,rfl,Zed HO.out HB1.out.size⟩,Zaf HB1.out hb2⟩
theorem Ziq (m:Md) (h:Hd) (s:Nat) (w:World) (H:Zay w h m) (hv:Za1 m=true) (hs:(s:Int) < m.sel):Calls Tryz.prog 293 #[.agg #[.slice h.co m.cl.length h.cc,.slice h.so m.st.length h.sc,.slice h.eo m.me.length h.ec,.int .i64 m.sel],.int .i64 s] w (Zik w (ZaN m s) 0):=by
 have hX:Blk (w.alloc (.cells #[.slice h.co m.cl.length h.cc,.slice h.so m.st.length h.sc,.slice h.eo m.me.length h.ec,.int .i64 m.sel] 26)) w.heap.size #[.slice h.co m.cl.length h.cc,.slice h.so m.st.length h.sc,.slice h.eo m.me.length h.ec,.int .i64 m.sel] 26:=Blk.new w _ _
 have hR:Blk ((w.alloc (.cells #[.slice h.co m.cl.length h.cc,.slice h.so m.st.length h.sc,.slice h.eo m.me.length h.ec,.int .i64 m.sel] 26)).alloc (.cells #[.int .i64 s] 3)) (w.heap.size+1) #[.int .i64 s] 3:=Blk.new' (w:=w.alloc (.cells #[.slice h.co m.cl.length h.cc,.slice h.so m.st.length h.sc,.slice h.eo m.me.length h.ec,.int .i64 m.sel] 26)) #[.int .i64 s] 3 (by simp)
 have hb0:Below w.heap.size w ((w.alloc (.cells #[.slice h.co m.cl.length h.cc,.slice h.so m.st.length h.sc,.slice h.eo m.me.length h.ec,.int .i64 m.sel] 26)).alloc (.cells #[.int .i64 s] 3)):=by exact bE
 have hrow:Zar ((w.alloc (.cells #[.slice h.co m.cl.length h.cc,.slice h.so m.st.length h.sc,.slice h.eo m.me.length h.ec,.int .i64 m.sel] 26)).alloc (.cells #[.int .i64 s] 3)) (some ⟨w.heap.size+1,0,none⟩) 1 [(s:Int)]:=by
  exact k98
 have hask:=Zhj m h m.sel [(s:Int)] _ 1 _ (H.old hb0) hrow (by simp)
 have e:(Za1 m&&[(s:Int)].all (inV m.sel))=true:=by rw [hv];simp [inV];omega
 rw [e] at hask
 have hsz:=Zin hv
 have hcv:=Zil hv
 generalize hlq:ZaN m s=q
 have HA:=Zh hask
 have HX:=Zh (hX.alloc (.cells #[.int .i64 s] 3))
 have HM:=Zh H
 have HB0:=Zh hb0
 have HLq:=Zh hlq
 have HCv:=Zh hcv
 clear hask hX hR hb0 hrow e H hlq hv hcv
 go_enter Tryz.func293,Tryz.ntmps293
 go_wp2_with fail
 refine HA.out.mono ?_
 rintro e1 w1 ⟨rfl,hb1⟩
 have HB1:=Zh (Zaf HB0.out hb1)
 have hX1:=HX.out.old hb1
 have r0:w1.cell? ⟨w.heap.size,0,none⟩=some (.slice h.co m.cl.length h.cc):=hX1.cell 0 rfl
 have r1:w1.cell? ⟨w.heap.size,1,none⟩=some (.slice h.so m.st.length h.sc):=hX1.cell 1 rfl
 have r2:w1.cell? ⟨w.heap.size,2,none⟩=some (.slice h.eo m.me.length h.ec):=hX1.cell 2 rfl
 have r3:w1.cell? ⟨w.heap.size,3,none⟩=some (.int .i64 m.sel):=hX1.cell 3 rfl
 have rl:=hX1.lt
 have htg:=ZdR m h s w1 (HM.out.old HB1.out) ⟨by omega,hs⟩ hsz.1 (fun j hj=>Zg9 (HCv.out j hj))
 rw [HLq.out] at htg
 have HTg:=Zh htg
 have he0:¬ Zhh true=1:=by decide
 have he1:Zhh true=0:=rfl
 clear hX1 htg hb1
 go_wp2_with fail
 refine HTg.out.mono ?_
 rintro e2 w2 ⟨⟨ao,cap,rfl,hr,hn⟩,hb2⟩
 have HO:=Zh hr
 have HN:=Zh hn
 clear hr hn
 go_wp2
 go_ret2
 exact ⟨⟨ao,cap,rfl,HO.out,fun a ha=>Nat.le_trans HB1.out.size (HN.out a ha)⟩,Zaf HB1.out hb2⟩
theorem Zir (m:Md) (h:Hd) (s:Nat) (w:World) (H:Zay w h m) (hv:Za1 m=true) (hs:(s:Int) < m.sel):Calls Tryz.prog 293 #[.agg #[.slice h.co m.cl.length h.cc,.slice h.so m.st.length h.sc,.slice h.eo m.me.length h.ec,.int .i64 m.sel],.int .i64 s] w (Zij w (ZaN m s) 0):=
 (Ziq m h s w H hv hs).mono fun e w' ⟨⟨ao,cap,h1,h2,_⟩,h3⟩=>⟨⟨ao,cap,h1,h2⟩,h3⟩
end
end Go.Proofs.YtcfjblcgceednaaGreat
