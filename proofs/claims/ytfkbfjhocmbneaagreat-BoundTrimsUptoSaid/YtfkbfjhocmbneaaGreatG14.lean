/- Joined texts. The first: The reference's Check of a module. -/
import Derived.Test.YtfkbfjhocmbneaaGreatG4
import Derived.Test.YtfkbfjhocmbneaaGreatG13
import Derived.BigRegion
import Derived.Test.YtfkbfjhocmbneaaGreatG5
import Derived.Test.YtfkbfjhocmbneaaGreatG10
set_option linter.all false
set_option linter.unusedVariables false
set_option linter.unusedSimpArgs false
set_option maxRecDepth 100000
set_option maxHeartbeats 20000000
namespace Go.Proofs.YtfkbfjhocmbneaaGreat
theorem k44{p:Prop}(h:p:=by
 unfold argsV
 have hz:=fun j (hj:j<m.me.length)=>(mth_ok hm hj).z.1
 split
 ·rename_i q
  have:=hz i.a.toNat (by have:=(hi.o25 q).1;have:=hi.a0 (by omega);omega)
  omega
 ·split
  ·simp
  ·rename_i x hx
   obtain ⟨j,h1,h2,-⟩:=callee_ok hi hc hx
   have:=hz j (by omega)
   rw [←h2] at this
   simp;omega):p:=h
theorem k45{p:Prop}(h:p:=by
 have HFf:=Lib.hid hfk
 clear hfk
 go_wp2
 go_roundw
 case rel=>
  refine ⟨k+1,by omega,by omega,by go_num,HB4.out,?_,Lib.hid fun j h1 h2=>?_⟩
  ·exact bthen HLw.out HB6.out
  ·by_cases hjk:j<k
   ·exact hall.out j h1 hjk
   ·obtain rfl:j=k:=by omega
    exact HFf.out
 case measure=>simp [intOf];omega):p:=h
section
open Go.RowKit
attribute [local go_sem] World.cell?_alloc_some
theorem mthV_own {m:Md}{k:Nat} (h:mthV m k=true):-1≤m.own k∧m.own k<m.cl.length:=by
 simp only [mthV,Bool.and_eq_true,decide_eq_true_eq] at h
 unfold Md.own
 rw [Int.toNat_natCast]
 exact ⟨h.1.1.1.1.1.1.1.1,h.1.1.1.1.1.1.1.2⟩
def alikeP (m:Md) (l:List Int) (t:Int):Bool:=decide ((m.me.getD t.toNat default).r=(m.me.getD (l.getD 0 0).toNat default).r)&&decide ((m.me.getD t.toNat default).p=(m.me.getD (l.getD 0 0).toNat default).p)
theorem alikeV_eq (m:Md) (s:Nat):alikeV m s=(tgtV m s).all (alikeP m (tgtV m s)):=rfl
theorem alike_no {m:Md}{l:List Int}{j:Nat} (hj:j<l.length) (h:alikeP m l (l.getD j 0)=false):l.all (alikeP m l)=false:=
 List.all_eq_false.2 ⟨l.getD j 0,by rw [List.getD_eq_getElem?_getD,List.getElem?_eq_getElem hj];exact List.getElem_mem hj,by rw [h];decide⟩
theorem alike_ok {m:Md}{l:List Int} (h:∀ j,0<j→j<l.length→alikeP m l (l.getD j 0)=true):l.all (alikeP m l)=true:=by
 rw [List.all_eq_true]
 intro t ht
 obtain ⟨j,hj,rfl⟩:=List.getElem_of_mem ht
 have e:l.getD j 0=l[j]:=by rw [List.getD_eq_getElem?_getD,List.getElem?_eq_getElem hj];rfl
 by_cases h0:0<j
 ·rw [←e];exact h j h0 hj
 ·obtain rfl:j=0:=by omega
  rw [←e];simp [alikeP]
theorem rCheck_any (m:Md) (h:Hd) (w:World) (H:ModAt w h m):Calls Tryz.prog 94 #[.agg #[.slice h.co m.cl.length h.cc,.slice h.so m.st.length h.sc,.slice h.eo m.me.length h.ec,.int .i64 m.sel]] w (Ret w (.int .i64 (if modV m then 0 else 1))):=by
 have hX:=Blk.new w #[.slice h.co m.cl.length h.cc,.slice h.so m.st.length h.sc,.slice h.eo m.me.length h.ec,.int .i64 m.sel] 26
 have hb0:Below w.heap.size w (w.alloc (.cells #[.slice h.co m.cl.length h.cc,.slice h.so m.st.length h.sc,.slice h.eo m.me.length h.ec,.int .i64 m.sel] 26)):=by exact bE
 have HX:=Lib.hid hX
 have HM:=Lib.hid (H.old hb0)
 have HB0:=Lib.hid hb0
 have hbz:=H.bz
 have hq:modV m=(sizesV m&&ownsV m&&(List.range m.cl.length).all (clsV m)&&(List.range m.me.length).all (mthV m)&&(List.range m.sel.toNat).all (alikeV m)):=rfl
 have hsz:sizesV m=(decide (m.cl.length≤10)&&decide (m.me.length≤16)&&decide (0≤m.sel)&&decide (m.sel≤16)&&decide (m.st.length≤10)&&tysV m.cl.length m.st):=rfl
 obtain ⟨qa,hqa⟩:∃ q,q=(if modV m then (0:Int) else 1):=⟨_,rfl⟩
 rw [←hqa]
 have HF:∀ w':World,modV m=false→Below w.heap.size w w'→Ret w (.int .i64 qa) (.returned (.int .i64 1)) w':=fun w' hf hb=>ret_ok (int_eq (by rw [hqa,hf];rfl)) hb
 have HT:∀ w':World,modV m=true→Below w.heap.size w w'→Ret w (.int .i64 qa) (.returned (.int .i64 0)) w':=fun w' hf hb=>ret_ok (int_eq (by rw [hqa,hf];rfl)) hb
 have HFa:=Lib.hid HF
 have HTr:=Lib.hid HT
 have HQ:=Lib.hid hq
 have HSz:=Lib.hid hsz
 clear hX H hb0 hqa hq hsz HF HT
 by_cases hsm:m.cl.length≤10∧m.st.length≤10∧m.me.length≤16∧0≤m.sel∧m.sel≤16
 · obtain ⟨h1,h5,h2,h3,h4⟩:=hsm
   have i1:¬ (m.cl.length:Int) > 10:=by omega
   have i5:¬ (m.st.length:Int) > 10:=by omega
   have i2:¬ (m.me.length:Int) > 16:=by omega
   have i3:¬ m.sel<0:=by omega
   have i4:¬ m.sel > 16:=by omega
   have hcl:=fun w' hb=>rClasses_any m h w' (ModAt.old HM.out hb) ⟨h1,h2,h3,h4⟩
   have hst:=fun w' hb=>rTypes_any m h m.st h.so h.sc w' ((HM.out.st).old hb) (by omega)
   generalize hqc:(List.range m.cl.length).all (clsV m)=qc at hcl
   generalize hqs:tysV m.cl.length m.st=qs at hst
   have HCl:=Lib.hid hcl
   have HSt:=Lib.hid hst
   have HQc:=Lib.hid hqc
   have HQs:=Lib.hid hqs
   clear hcl hst hqc hqs
   have hzz:(w.alloc (.cells #[.slice h.co m.cl.length h.cc,.slice h.so m.st.length h.sc,.slice h.eo m.me.length h.ec,.int .i64 m.sel] 26)).heap.size=w.heap.size+1:=by simp
   go_enter Tryz.func94,Tryz.ntmps94
   go_upto_region 1 with fail
   generalize w.alloc _=w0 at HX HM HB0 HCl HSt hzz ⊢
   have rc:∀ w',Below w0.heap.size w0 w'→(w'.cell? ⟨w.heap.size,0,none⟩=some (.slice h.co m.cl.length h.cc)∧w'.cell? ⟨w.heap.size,1,none⟩=some (.slice h.so m.st.length h.sc)∧w'.cell? ⟨w.heap.size,2,none⟩=some (.slice h.eo m.me.length h.ec)∧w'.cell? ⟨w.heap.size,3,none⟩=some (.int .i64 m.sel))∧w.heap.size<w'.heap.size:=fun w' hb=>
     ⟨⟨(HX.out.old hb).cell 0 rfl,(HX.out.old hb).cell 1 rfl,(HX.out.old hb).cell 2 rfl,(HX.out.old hb).cell 3 rfl⟩,(HX.out.old hb).lt⟩
   have RC:=Lib.hid rc
   obtain ⟨⟨r0,r1,r2,r3⟩,rl⟩:=rc w0 (Below.refl _ _)
   clear rc
   go_wp2_with fail
   refine (HCl.out _ (Below.refl _ _)).mono ?_
   rintro e1 w1 ⟨rfl,hb1⟩
   have HB1:=Lib.hid hb1
   clear r0 r1 r2 r3 rl hb1
   obtain ⟨⟨r0,r1,r2,r3⟩,rl⟩:=RC.out w1 HB1.out
   rcases qc with _|_
   · go_wp2
     go_ret
     exact HFa.out _ (by rw [HQ.out,HQc.out];simp) (bthen HB0.out HB1.out)
   have hclv:∀ j,j<m.cl.length→clsV m j=true:=all_range_iff.1 HQc.out
   have HCv:=Lib.hid hclv
   clear hclv
   go_wp2_with fail
   refine (HSt.out _ HB1.out).mono ?_
   rintro e2 w2 ⟨rfl,hb2⟩
   have HB2:=Lib.hid (bthen HB1.out hb2)
   clear r0 r1 r2 r3 rl hb2
   rcases qs with _|_
   · go_wp2
     go_ret
     exact HFa.out _ (by rw [HQ.out,HSz.out,HQs.out];simp) (bthen HB0.out HB2.out)
   have hsok:sizesV m=true:=by rw [HSz.out,HQs.out];simp [h1,h2,h3,h4,h5]
   have HSok:=Lib.hid hsok
   clear hsok
   go_wp2_with fail
   go_loopw [3] (fun i wr=>∃ k:Nat,k≤m.me.length∧i=.int .i64 k∧Below w0.heap.size w0 wr∧Hid (∀ i,i<k→mthV m i=true)) (fun i _=>m.me.length-(intOf i).toNat)
   case atStart=>exact ⟨0,by omega,rfl,HB2.out,Lib.hid (by omega)⟩
   case round=>
     obtain ⟨k,hk,rfl,hbl,q1⟩:=hrel
     have HBl:=Lib.hid hbl
     clear hbl
     obtain ⟨⟨r0,r1,r2,r3⟩,rl⟩:=RC.out wr HBl.out
     by_cases hkl:k<m.me.length
     · have hkl2:(k:Int) < m.me.length:=by omega
       have hwr:IntKind.i64.wrap ((k:Int)+1)=k+1:=IntWalk.i64_in _ (by omega)
       have hcall:=rMethod_any m h k wr (HM.out.old HBl.out) hkl h1 (fun j hj=>clsV_len (HCv.out j hj)) (fun j hj=>(mthV_own (q1.out j hj)).1)
       generalize hqm:mthV m k=q at hcall
       have HC:=Lib.hid hcall
       have HQm:=Lib.hid hqm
       clear hcall hqm
       go_wp2_with fail
       refine HC.out.mono ?_
       rintro e3 w3 ⟨rfl,hb3⟩
       have HB3:=Lib.hid (bthen HBl.out hb3)
       clear hb3
       rcases q with _|_
       · go_wp2
         go_ret
         exact HFa.out _ (by rw [HQ.out,all_range_no hkl HQm.out];simp) (bthen HB0.out HB3.out)
       · go_wp2
         go_roundw
         case rel=>
           refine ⟨k+1,by omega,by go_num,HB3.out,Lib.hid fun i hi=>?_⟩
           by_cases hik:i<k
           · exact q1.out i hik
           · obtain rfl:i=k:=by omega
             exact HQm.out
         case measure=>simp [intOf];omega
     · obtain rfl:k=m.me.length:=by omega
       have HMv:=Lib.hid q1.out
       clear q1
       obtain ⟨wo,rfl⟩:∃ wo:World,wo=wr:=⟨_,rfl⟩
       go_wp2_with fail
       go_loopw [4] (fun i wr=>∃ s:Nat,(s:Int)≤m.sel∧i=.int .i64 s∧Below w0.heap.size w0 wr∧Hid (∀ i,i<s→alikeV m i=true)) (fun i _=>m.sel.toNat-(intOf i).toNat)
       case atStart=>exact ⟨0,by omega,rfl,HBl.out,Lib.hid (by omega)⟩
       case round=>
         obtain ⟨s,hs,rfl,hbl,q2⟩:=hrel
         have HBs:=Lib.hid hbl
         clear hbl r0 r1 r2 r3 rl HBl
         obtain ⟨⟨r0,r1,r2,r3⟩,rl⟩:=RC.out wr HBs.out
         by_cases hss:(s:Int) < m.sel
         · have hwr:IntKind.i64.wrap ((s:Int)+1)=s+1:=IntWalk.i64_in _ (by omega)
           have hcall:=rTargets_any m h s wr (HM.out.old HBs.out) ⟨by omega,hss⟩ h1 (fun j hj=>clsV_len (HCv.out j hj))
           have htin:=tgt_in HCv.out hss
           have hal:=alikeV_eq m s
           have htl:=tgtV_len m s
           generalize tgtV m s=l at hcall htin hal htl
           have HC:=Lib.hid hcall
           have HTi:=Lib.hid htin
           have HAl:=Lib.hid hal
           clear hcall htin hal
           have hno:∀ w',l.all (alikeP m l)=false→Below w0.heap.size w0 w'→Ret w (.int .i64 qa) (.returned (.int .i64 1)) w':=fun w' hf hb=>HFa.out _ (by rw [HQ.out,all_range_no (show s<m.sel.toNat by omega) (by rw [HAl.out];exact hf)];simp) (bthen HB0.out hb)
           have HNo:=Lib.hid hno
           clear hno
           go_wp2_with fail
           refine HC.out.mono ?_
           rintro e3 w3 ⟨⟨ao,cap,rfl,hr⟩,hb3⟩
           have HR:=Lib.hid hr
           have HB3:=Lib.hid (bthen HBs.out hb3)
           clear hr hb3 r0 r1 r2 r3 rl
           obtain ⟨wo,rfl⟩:∃ wo:World,wo=wr:=⟨_,rfl⟩
           go_wp2_with fail
           go_loopw [6] (fun i wr=>∃ j:Nat,1≤j∧j≤l.length+1∧i=.int .i64 j∧Hid (Below w3.heap.size w3 wr)∧Hid (∀ i,0<i→i<j→i<l.length→alikeP m l (l.getD i 0)=true)) (fun i _=>l.length+1-(intOf i).toNat)
           case atStart=>exact ⟨1,by omega,by omega,rfl,Lib.hid (Below.refl _ _),Lib.hid (by omega)⟩
           case round=>
             obtain ⟨j,hj1,hj2,rfl,HBj,q3⟩:=hrel
             have HBi:=Lib.hid (bthen HB3.out HBj.out)
             by_cases hjl:j<l.length
             · as_aux_lemma=>
               have hwj:IntKind.i64.wrap ((j:Int)+1)=j+1:=IntWalk.i64_in _ (by omega)
               have hjl2:(j:Int) < l.length:=by omega
               have hl0:(0:Int) < l.length:=by omega
               have hl1:0<l.length:=by omega
               obtain ⟨⟨r0,r1,r2,r3⟩,rl⟩:=RC.out wr HBi.out
               obtain ⟨al,rfl,t0⟩:=row_int (HR.out.old HBj.out) (i:=0) hl1
               obtain ⟨al',hal',t1⟩:=row_int (HR.out.old HBj.out) hjl
               obtain rfl:=Option.some.inj hal'
               rw [show al.add 0=al from by unfold Addr.add;simp] at t0
               have hu:=HTi.out (l.getD 0 0) (by rw [List.getD_eq_getElem?_getD,List.getElem?_eq_getElem hl1];exact List.getElem_mem hl1)
               have ht:=HTi.out (l.getD j 0) (by rw [List.getD_eq_getElem?_getD,List.getElem?_eq_getElem hjl];exact List.getElem_mem hjl)
               have hap:alikeP m l (l.getD j 0)=(decide ((m.me.getD (l.getD j 0).toNat default).r=(m.me.getD (l.getD 0 0).toNat default).r)&&decide ((m.me.getD (l.getD j 0).toNat default).p=(m.me.getD (l.getD 0 0).toNat default).p)):=rfl
               have hno:alikeP m l (l.getD j 0)=false→∀ w',Below w0.heap.size w0 w'→Ret w (.int .i64 qa) (.returned (.int .i64 1)) w':=fun hf w' hb=>HNo.out w' (alike_no hjl hf) hb
               have hrl:alikeP m l (l.getD j 0)=true→∀ i,0<i→i<j+1→i<l.length→alikeP m l (l.getD i 0)=true:=fun hp i h0 hi hil=>by
                 by_cases hij:i<j
                 · exact q3.out i h0 hij hil
                 · obtain rfl:i=j:=by omega
                   exact hp
               generalize hua:l.getD 0 0=u at t0 hu hap
               generalize hta:l.getD j 0=t at t1 ht hap hno hrl
               obtain ⟨u,rfl⟩:∃ x:Nat,u=x:=⟨u.toNat,by omega⟩
               obtain ⟨t,rfl⟩:∃ x:Nat,t=x:=⟨t.toNat,by omega⟩
               have hu1:u<m.me.length:=by omega
               have ht1:t<m.me.length:=by omega
               have hu2:(u:Int) < m.me.length:=by omega
               have ht2:(t:Int) < m.me.length:=by omega
               have hplu:=mthV_p (HMv.out u hu1)
               have hmm:=HM.out.old HBi.out
               obtain ⟨am,heo,c0,c1,c2,c3,c4,c5,c6⟩:=hmm.mth ht1
               obtain ⟨am',heo',d0,d1,d2,d3,d4,d5,d6⟩:=hmm.mth hu1
               have hpt:=hmm.p t ht1
               have hpu:=hmm.p u hu1
               rw [Int.toNat_natCast,Int.toNat_natCast] at hap
               generalize hxt:m.me.getD t default=x at *
               generalize hxu:m.me.getD u default=y at *
               obtain ⟨nx,cx,px,lx,⟨kx,rx⟩,kx'⟩:=x
               obtain ⟨ny,cy,py,ly,⟨ky,ry⟩,ky'⟩:=y
               generalize h.e t=et at *
               generalize h.e u=eu at *
               obtain ⟨po,pc,lo,lc,ko,kc⟩:=et
               obtain ⟨po',pc',lo',lc',ko',kc'⟩:=eu
               rw [heo'] at heo
               obtain rfl:=Option.some.inj heo
               rw [heo'] at r2
               dsimp only at *
               have HEo:=Lib.hid heo'
               have HPT:=Lib.hid hpt
               have HPU:=Lib.hid hpu
               have HAp:=Lib.hid hap
               have HNj:=Lib.hid hno
               have HRl:=Lib.hid hrl
               clear hpt hpu hxt hxu heo heo' hap hno hrl hua hta hmm hal' hu ht
               go_upto_region 17 with fail
               go_cut [7,8] from 71 to 85 (fun x y wc=>∃ (X Y:Nat),x=.pointer (some ⟨X,0,none⟩)∧y=.pointer (some ⟨Y,0,none⟩)∧Blk wc X #[.string ny,.int .i64 cy,.slice po' py.length pc',.slice lo' ly.length lc',.int .i64 ky,.int .i64 ry,.slice ko' ky'.length kc'] 38∧Blk wc Y #[.string nx,.int .i64 cx,.slice po px.length pc,.slice lo lx.length lc,.int .i64 kx,.int .i64 rx,.slice ko kx'.length kc] 38∧Below wr.heap.size wr wc)
               case first=>
                 have hS:∀ w',Below wr.heap.size wr w'→(fun w':World=>w'.cell? ⟨w.heap.size,2,none⟩=some (.slice (some am') m.me.length h.ec)∧w'.cell? al=some (.int .i64 u)∧w'.cell? (al.add j)=some (.int .i64 t)∧w'.cell? (am'.add (t*7))=some (.string nx)∧w'.cell? ⟨(am'.add (t*7)).block,(am'.add (t*7)).off+1,none⟩=some (.int .i64 cx)∧w'.cell? ⟨(am'.add (t*7)).block,(am'.add (t*7)).off+2,none⟩=some (.slice po px.length pc)∧w'.cell? ⟨(am'.add (t*7)).block,(am'.add (t*7)).off+3,none⟩=some (.slice lo lx.length lc)∧w'.cell? ⟨(am'.add (t*7)).block,(am'.add (t*7)).off+4,none⟩=some (.int .i64 kx)∧w'.cell? ⟨(am'.add (t*7)).block,(am'.add (t*7)).off+5,none⟩=some (.int .i64 rx)∧w'.cell? ⟨(am'.add (t*7)).block,(am'.add (t*7)).off+6,none⟩=some (.slice ko kx'.length kc)∧w'.cell? (am'.add (u*7))=some (.string ny)∧w'.cell? ⟨(am'.add (u*7)).block,(am'.add (u*7)).off+1,none⟩=some (.int .i64 cy)∧w'.cell? ⟨(am'.add (u*7)).block,(am'.add (u*7)).off+2,none⟩=some (.slice po' py.length pc')∧w'.cell? ⟨(am'.add (u*7)).block,(am'.add (u*7)).off+3,none⟩=some (.slice lo' ly.length lc')∧w'.cell? ⟨(am'.add (u*7)).block,(am'.add (u*7)).off+4,none⟩=some (.int .i64 ky)∧w'.cell? ⟨(am'.add (u*7)).block,(am'.add (u*7)).off+5,none⟩=some (.int .i64 ry)∧w'.cell? ⟨(am'.add (u*7)).block,(am'.add (u*7)).off+6,none⟩=some (.slice ko' ky'.length kc')) w':=fun w' hb=>⟨bcellV hb r2,bcellV hb t0,bcellV hb t1,bcellV hb c0,bcellV hb c1,bcellV hb c2,bcellV hb c3,bcellV hb c4,bcellV hb c5,bcellV hb c6,bcellV hb d0,bcellV hb d1,bcellV hb d2,bcellV hb d3,bcellV hb d4,bcellV hb d5,bcellV hb d6⟩
                 have HS:=Lib.hid hS
                 clear hS
                 refine rO (fun w':World=>w'.cell? ⟨w.heap.size,2,none⟩=some (.slice (some am') m.me.length h.ec)∧w'.cell? al=some (.int .i64 u)∧w'.cell? (al.add j)=some (.int .i64 t)∧w'.cell? (am'.add (t*7))=some (.string nx)∧w'.cell? ⟨(am'.add (t*7)).block,(am'.add (t*7)).off+1,none⟩=some (.int .i64 cx)∧w'.cell? ⟨(am'.add (t*7)).block,(am'.add (t*7)).off+2,none⟩=some (.slice po px.length pc)∧w'.cell? ⟨(am'.add (t*7)).block,(am'.add (t*7)).off+3,none⟩=some (.slice lo lx.length lc)∧w'.cell? ⟨(am'.add (t*7)).block,(am'.add (t*7)).off+4,none⟩=some (.int .i64 kx)∧w'.cell? ⟨(am'.add (t*7)).block,(am'.add (t*7)).off+5,none⟩=some (.int .i64 rx)∧w'.cell? ⟨(am'.add (t*7)).block,(am'.add (t*7)).off+6,none⟩=some (.slice ko kx'.length kc)∧w'.cell? (am'.add (u*7))=some (.string ny)∧w'.cell? ⟨(am'.add (u*7)).block,(am'.add (u*7)).off+1,none⟩=some (.int .i64 cy)∧w'.cell? ⟨(am'.add (u*7)).block,(am'.add (u*7)).off+2,none⟩=some (.slice po' py.length pc')∧w'.cell? ⟨(am'.add (u*7)).block,(am'.add (u*7)).off+3,none⟩=some (.slice lo' ly.length lc')∧w'.cell? ⟨(am'.add (u*7)).block,(am'.add (u*7)).off+4,none⟩=some (.int .i64 ky)∧w'.cell? ⟨(am'.add (u*7)).block,(am'.add (u*7)).off+5,none⟩=some (.int .i64 ry)∧w'.cell? ⟨(am'.add (u*7)).block,(am'.add (u*7)).off+6,none⟩=some (.slice ko' ky'.length kc')) (.plain 0 (.plain 1 (.plain 2 (.plain 3 (.plain 4 (.plain 5 (.plain 6 (.plain 7 (.plain 8 (.plain 9 (.plain 10 (.plain 11 (.plain 12 (.plain 13 (.plain 14 (.two 15 16 (oL [116,117,118]) (oL [115,117,118]))))))))))))))))) (HS.out wr.drew (Below.refl _ _).drew) ?_
                 clear r2 t0 t1 c0 c1 c2 c3 c4 c5 c6 d0 d1 d2 d3 d4 d5 d6
                 repeat refine pO ?_
                 refine wpMixO_two ?_ ?_
                 all_goals
                   refine wpOp_one _ (by rfl) (by rfl) fun K hK=>?_
                   go_simp
                   refine hK _ _ ⟨HS.out _ bE,?_⟩
                   clear hK K
                   refine oO fun K hK=>?_
                   go_simp
                   refine hK _ _ ⟨HS.out _ bE,?_⟩
                   clear hK K
                   refine oO fun K hK=>?_
                   go_simp
                   refine hK _ _ ⟨HS.out _ bE,?_⟩
                   clear hK K
                   refine oO fun K hK=>?_
                   go_simp
                   refine hK _ _ ⟨HS.out _ bE,?_⟩
                   clear hK K
                   refine wpMixO_done ?_
                   go_wp2_with fail
                   go_meet
                   refine ⟨_,_,rfl,rfl,?_,?_,?_⟩
                   · repeat (first|(refine Blk.new' _ _ ?_;simp;done)|refine Blk.drew ?_|refine Blk.alloc ?_ _)
                   · repeat (first|(refine Blk.new' _ _ ?_;simp;done)|refine Blk.drew ?_|refine Blk.alloc ?_ _)
                   · exact bE
               case rest=>
                 obtain ⟨X,Y,rfl,rfl,hX,hY,hb⟩:=hcut
                 have hXc:=hX
                 have HE:=Lib.hid (rSameTypes_any py px po' po pc' pc wc (HPU.out.old hb) (HPT.out.old hb) (by omega))
                 have x2:wc.cell? ⟨X,2,none⟩=some (.slice po' py.length pc'):=hX.cell 2 rfl
                 have y2:wc.cell? ⟨Y,2,none⟩=some (.slice po px.length pc):=hY.cell 2 rfl
                 have xl:=hX.lt
                 have yl:=hY.lt
                 have HX5:=Lib.hid hX
                 have HY5:=Lib.hid hY
                 have HBc:=Lib.hid (bthen HBi.out hb)
                 have HBcj:=Lib.hid (bthen HBj.out hb)
                 clear hX hY hb c0 c1 c2 c3 c4 c5 c6 d0 d1 d2 d3 d4 d5 d6 t0 t1 r0 r1 r2 r3 rl hXc
                 go_wp2_with fail
                 refine HE.out.mono ?_
                 rintro e5 w5 ⟨rfl,hb5⟩
                 have x4:w5.cell? ⟨X,4,none⟩=some (.int .i64 ky):=(HX5.out.old hb5).cell 4 rfl
                 have x5:w5.cell? ⟨X,5,none⟩=some (.int .i64 ry):=(HX5.out.old hb5).cell 5 rfl
                 have y4:w5.cell? ⟨Y,4,none⟩=some (.int .i64 kx):=(HY5.out.old hb5).cell 4 rfl
                 have y5:w5.cell? ⟨Y,5,none⟩=some (.int .i64 rx):=(HY5.out.old hb5).cell 5 rfl
                 have xl:=(HX5.out.old hb5).lt
                 have yl:=(HY5.out.old hb5).lt
                 have HB5:=Lib.hid (bthen HBc.out hb5)
                 have HB5j:=Lib.hid (bthen HBcj.out hb5)
                 clear hb5 x2 y2
                 have hne:=neqTy
                 have hgu:=guardTy
                 by_cases hpp:py=px
                 · have hpd:decide (py=px)=true:=decide_eq_true hpp
                   have HPp:=Lib.hid hpp
                   clear hpp
                   go_wp2
                   all_goals first
                     | (go_ret
                        refine HNj.out ?_ _ HB5.out
                        rw [HAp.out]
                        simp only [Ty.mk.injEq]
                        grind)
                     | (go_roundw
                        case rel=>
                          refine ⟨j+1,by omega,by omega,by go_num,Lib.hid HB5j.out,Lib.hid (HRl.out ?_)⟩
                          rw [HAp.out,HPp.out]
                          simp only [Ty.mk.injEq]
                          grind
                        case measure=>simp [intOf];omega)
                 · have hpd:decide (py=px)=false:=decide_eq_false hpp
                   have HPp:=Lib.hid hpp
                   clear hpp
                   go_wp2
                   go_ret
                   refine HNj.out ?_ _ HB5.out
                   have h9:¬ px=py:=fun h=>HPp.out h.symm
                   rw [HAp.out]
                   simp [h9]
             · have hjl2:¬ (j:Int) < l.length:=by omega
               have hok:alikeV m s=true:=by rw [HAl.out];exact alike_ok fun i h0 hi=>q3.out i h0 (by omega) hi
               have hrel2:∀ i,i<s+1→alikeV m i=true:=fun i hi=>by
                 by_cases his:i<s
                 · exact q2.out i his
                 · obtain rfl:i=s:=by omega
                   exact hok
               have HRl:=Lib.hid hrel2
               clear hok hrel2
               go_wp2
               go_roundw
               case rel=>exact ⟨s+1,by omega,by go_num,HBi.out,Lib.hid HRl.out⟩
               case measure=>simp [intOf];omega
         · have hsel:m.sel.toNat=s:=by omega
           have hown:ownsV m=true:=all_range_ok fun i hi=>by
             have:=mthV_own (HMv.out i hi)
             simp only [Bool.and_eq_true,decide_eq_true_eq]
             exact this
           have hall:modV m=true:=by rw [HQ.out,HSok.out,hown,HQc.out,all_range_ok HMv.out,hsel,all_range_ok q2.out];rfl
           have HAll:=Lib.hid hall
           clear hall hown hsel
           go_wp2
           go_ret
           exact HTr.out _ HAll.out (bthen HB0.out HBs.out)
 · have hno:modV m=false:=by rw [HQ.out,HSz.out];grind
   have HNo:=Lib.hid hno
   clear hno
   by_cases i1:(m.cl.length:Int) > 10
   · go_enter Tryz.func94,Tryz.ntmps94
     go_wp2
     go_ret
     exact HFa.out _ HNo.out HB0.out
   by_cases i5:(m.st.length:Int) > 10
   · go_enter Tryz.func94,Tryz.ntmps94
     go_wp2
     go_ret
     exact HFa.out _ HNo.out HB0.out
   by_cases i2:(m.me.length:Int) > 16
   · go_enter Tryz.func94,Tryz.ntmps94
     go_wp2
     go_ret
     exact HFa.out _ HNo.out HB0.out
   by_cases i3:m.sel<0
   · go_enter Tryz.func94,Tryz.ntmps94
     go_wp2
     go_ret
     exact HFa.out _ HNo.out HB0.out
   have i4:m.sel > 16:=by omega
   go_enter Tryz.func94,Tryz.ntmps94
   go_wp2
   go_ret
   exact HFa.out _ HNo.out HB0.out
end
section
open Go.RowKit
attribute [local go_sem] World.cell?_alloc_some
theorem rWithin_yes (m:Md) (h:Hd) (i n:Int) (w:World) (H:ModAt w h m) (hv:modV m=true) (hi:0≤i∧i<n):Calls Tryz.prog 102 #[.agg #[.slice h.co m.cl.length h.cc,.slice h.so m.st.length h.sc,.slice h.eo m.me.length h.ec,.int .i64 m.sel],.int .i64 i,.int .i64 n] w (Ret w (.int .i64 0)):=by
 have hb0:Below w.heap.size w (w.alloc (.cells #[.slice h.co m.cl.length h.cc,.slice h.so m.st.length h.sc,.slice h.eo m.me.length h.ec,.int .i64 m.sel] 26)):=by exact bE
 have hc:=rCheck_any m h _ (H.old hb0)
 rw [hv] at hc
 have HC:=Lib.hid hc
 have HB0:=Lib.hid hb0
 have h1:¬ i<0:=by omega
 have h2:¬ i ≥ n:=by omega
 clear hc hb0 H hv hi
 go_enter Tryz.func102,Tryz.ntmps102
 exact k82
theorem rLocals_yes (m:Md) (h:Hd) (k:Nat) (w:World) (H:ModAt w h m) (hv:modV m=true) (hk:k<m.me.length):Calls Tryz.prog 153 #[.agg #[.slice h.co m.cl.length h.cc,.slice h.so m.st.length h.sc,.slice h.eo m.me.length h.ec,.int .i64 m.sel],.int .i64 k] w (RetOwn2 35 w (localsV (m.me.getD k default)) 0):=by
 have hX:Blk (w.alloc (.cells #[.slice h.co m.cl.length h.cc,.slice h.so m.st.length h.sc,.slice h.eo m.me.length h.ec,.int .i64 m.sel] 26)) w.heap.size #[.slice h.co m.cl.length h.cc,.slice h.so m.st.length h.sc,.slice h.eo m.me.length h.ec,.int .i64 m.sel] 26:=Blk.new w _ _
 have hb0:Below w.heap.size w (w.alloc (.cells #[.slice h.co m.cl.length h.cc,.slice h.so m.st.length h.sc,.slice h.eo m.me.length h.ec,.int .i64 m.sel] 26)):=by exact bE
 have hwi:=rWithin_yes m h k m.me.length _ (H.old hb0) hv (by omega)
 have hlen:=mthV_lens (modV_mth hv k hk)
 have HW:=Lib.hid hwi
 have HX:=Lib.hid hX
 have HM:=Lib.hid H
 have HB0:=Lib.hid hb0
 generalize hxk:m.me.getD k default=x at hlen ⊢
 obtain ⟨nm,c,pl,ll,⟨rk,rc⟩,kl⟩:=x
 have hq:localsV ⟨nm,c,pl,ll,⟨rk,rc⟩,kl⟩=(if 0≤c then [⟨2,c⟩] else [])++pl++ll:=rfl
 generalize localsV ⟨nm,c,pl,ll,⟨rk,rc⟩,kl⟩=q at hq ⊢
 dsimp only at hlen
 have HQ:=Lib.hid hq
 have HXk:=Lib.hid hxk
 clear hwi hX hb0 H hxk hv hq
 have hk2:(k:Int) < m.me.length:=by omega
 go_enter Tryz.func153,Tryz.ntmps153
 go_wp2_with fail
 refine HW.out.mono ?_
 rintro e1 w1 ⟨rfl,hb1⟩
 have HB1:=Lib.hid (bthen HB0.out hb1)
 have hX1:=HX.out.old hb1
 have r2:w1.cell? ⟨w.heap.size,2,none⟩=some (.slice h.eo m.me.length h.ec):=hX1.cell 2 rfl
 have rl:=hX1.lt
 have hm1:=HM.out.old HB1.out
 obtain ⟨am,heo,c0,c1,c2,c3,c4,c5,c6⟩:=hm1.mth hk
 have hp:=HM.out.p k hk
 have hl:=HM.out.l k hk
 rw [HXk.out] at c0 c1 c2 c3 c4 c5 c6 hp hl
 rw [heo] at r2
 generalize h.e k=y at c0 c1 c2 c3 c4 c5 c6 hp hl
 obtain ⟨po,pc,lo,lc,ko,kc⟩:=y
 dsimp only at c0 c1 c2 c3 c4 c5 c6 hp hl
 have HEo:=Lib.hid heo
 clear hX1 hm1 heo hb1
 obtain ⟨W,hW⟩:∃ W,W=w1.heap.size:=⟨_,rfl⟩
 have hXb:=Blk.new' #[.string nm,.int .i64 c,.slice po pl.length pc,.slice lo ll.length lc,.int .i64 rk,.int .i64 rc,.slice ko kl.length kc] 38 hW
 have hb2:Below w1.heap.size w1 (w1.alloc (.cells #[.string nm,.int .i64 c,.slice po pl.length pc,.slice lo ll.length lc,.int .i64 rk,.int .i64 rc,.slice ko kl.length kc] 38)):=by exact bE
 have HP:=Lib.hid hp
 have HL:=Lib.hid hl
 have HBx0:=Lib.hid hXb
 have HBz0:=Lib.hid (bthen HB1.out hb2)
 have HBxl:=Lib.hid (show w.heap.size≤W by rw [hW];exact HB1.out.size)
 have HB2:=Lib.hid hb2
 have HWw:=Lib.hid hW
 clear hp hl hXb hb2
 go_upto_region 5 with fail
 rw [←hW]
 clear hW
 generalize w1.alloc (.cells #[.string nm,.int .i64 c,.slice po pl.length pc,.slice lo ll.length lc,.int .i64 rk,.int .i64 rc,.slice ko kl.length kc] 38)=w2 at HBx0 HBz0 HB2 ⊢
 have HQ2:=HQ
 have xc:w2.cell? ⟨W,1,none⟩=some (.int .i64 c):=HBx0.out.cell 1 rfl
 have xl:=HBx0.out.lt
 clear c0 c1 c2 c3 c4 c5 c6 r2 rl
 by_cases hc:0≤c
 ·have hc2:c ≥ 0:=hc
  have HC:=Lib.hid hc
  clear hc
  go_wp2_with (at_builtin;refine wpList_append_sl rfl (.tmp 26) (.tmp 30) 23 rfl (W+1) 35 2 16 elTyV _ 0 [] rfl (World.ownsRow_nil _ _ _ _) _ 1 1 [.int .i64 2,.int .i64 c] rfl (sla_blkV (Blk.new' #[.int .i64 2,.int .i64 c] 35 (by simp)) rfl) (by intro u hu;simp only [List.mem_cons,List.not_mem_nil,or_false] at hu;rcases hu with rfl|rfl<;>rfl) (by omega) (by unfold maxLen;omega) (by have:=HBx0.out.lt;simp;omega) ?_;intro oo oc wz hown hg)
  have HOw:=Lib.hid hown
  have HBz:=Lib.hid (bgrown (bal HBz0.out _) hg (fun j hj=>by cases hj))
  have HBx:=Lib.hid (Blk.grownV (HBx0.out.alloc _) hg (fun h=>by cases h))
  clear hown hg
  have x2:wz.cell? ⟨W,2,none⟩=some (.slice po pl.length pc):=HBx.out.cell 2 rfl
  have x3:wz.cell? ⟨W,3,none⟩=some (.slice lo ll.length lc):=HBx.out.cell 3 rfl
  refine rO (fun w':World=>w'.cell? ⟨W,2,none⟩=some (.slice po pl.length pc)∧w'.cell? ⟨W,3,none⟩=some (.slice lo ll.length lc)) (oL [0,1,2,4,5,103,106,7,8]) ⟨x2,x3⟩ ?_
  clear x2 x3
  repeat refine pO ?_
  refine oO fun K hK=>?_
  refine wp_append_slx (.tmp 32) (.tmp 34) 23 rfl (W+1) 35 2 16 elTyV _ 1 _ rfl (own_drewV HOw.out) _ _ _ _ rfl (SlA.old (w:=wz) (RowAt.old HP.out HBz.out) (Below.refl _ _).drew) (flatR_oneC pl) (by omega) (by unfold maxLen;omega) (show W+1≤wz.heap.size from HBx.out.lt) ?_
  intro ao2 cap2 w3 hown3 hg3
  have hb3:=bgrown HBz.out.drew hg3 (fun j hj=>by have:=(HOw.out.lt j hj).1;have:=HBxl.out;omega)
  have hx3:=Blk.grownV HBx.out.drew hg3 (own_neV HOw.out (Nat.lt_succ_self _))
  have HO3:=Lib.hid hown3
  have HB3:=Lib.hid hb3
  have HX3:=Lib.hid hx3
  clear hown3 hg3 hb3 hx3
  refine hK _ _ ⟨⟨HX3.out.cell 2 rfl,HX3.out.cell 3 rfl⟩,?_⟩
  clear hK K
  refine oO fun K hK=>?_
  refine wp_append_slx (.tmp 35) (.tmp 37) 23 rfl (W+1) 35 2 16 elTyV _ (1+pl.length) _ rfl HO3.out _ _ _ _ rfl (SlA.old (w:=w) HL.out HB3.out) (flatR_oneC ll) (by omega) (by unfold maxLen;omega) (show W+1≤w3.heap.size from HX3.out.lt) ?_
  intro ao4 cap4 w4 hown4 hg4
  have hb4:=bgrown HB3.out hg4 (fun j hj=>by have:=(HO3.out.lt j hj).1;have:=HBxl.out;omega)
  have hx4:=Blk.grownV HX3.out hg4 (own_neV HO3.out (Nat.lt_succ_self _))
  have HO4:=Lib.hid hown4
  have HB4:=Lib.hid hb4
  have HX4:=Lib.hid hx4
  clear hown4 hg4 hb4 hx4
  refine hK _ _ ⟨⟨HX4.out.cell 2 rfl,HX4.out.cell 3 rfl⟩,?_⟩
  clear hK K
  repeat refine pO ?_
  refine wpMixO_done ?_
  go_wp2
  go_ret2
  exact k42
 ·have hc2:¬ c ≥ 0:=hc
  have HC:=Lib.hid hc
  clear hc
  go_wp2_with fail
  generalize w2=wz at HBx0 HBz0 ⊢
  have HOw:=Lib.hid (World.ownsRow_nil wz (W+1) 35 2)
  have HBz:=HBz0
  have HBx:=HBx0
  have x2:wz.cell? ⟨W,2,none⟩=some (.slice po pl.length pc):=HBx.out.cell 2 rfl
  have x3:wz.cell? ⟨W,3,none⟩=some (.slice lo ll.length lc):=HBx.out.cell 3 rfl
  refine rO (fun w':World=>w'.cell? ⟨W,2,none⟩=some (.slice po pl.length pc)∧w'.cell? ⟨W,3,none⟩=some (.slice lo ll.length lc)) (oL [0,1,2,4,5,103,106,7,8]) ⟨x2,x3⟩ ?_
  clear x2 x3
  repeat refine pO ?_
  refine oO fun K hK=>?_
  refine wp_append_slx (.tmp 32) (.tmp 34) 23 rfl (W+1) 35 2 16 elTyV _ 0 _ rfl (own_drewV HOw.out) _ _ _ _ rfl (SlA.old (w:=wz) (RowAt.old HP.out HBz.out) (Below.refl _ _).drew) (flatR_oneC pl) (by omega) (by unfold maxLen;omega) (show W+1≤wz.heap.size from HBx.out.lt) ?_
  intro ao2 cap2 w3 hown3 hg3
  have hb3:=bgrown HBz.out.drew hg3 (fun j hj=>by have:=(HOw.out.lt j hj).1;have:=HBxl.out;omega)
  have hx3:=Blk.grownV HBx.out.drew hg3 (own_neV HOw.out (Nat.lt_succ_self _))
  have HO3:=Lib.hid hown3
  have HB3:=Lib.hid hb3
  have HX3:=Lib.hid hx3
  clear hown3 hg3 hb3 hx3
  refine hK _ _ ⟨⟨HX3.out.cell 2 rfl,HX3.out.cell 3 rfl⟩,?_⟩
  clear hK K
  refine oO fun K hK=>?_
  refine wp_append_slx (.tmp 35) (.tmp 37) 23 rfl (W+1) 35 2 16 elTyV _ (0+pl.length) _ rfl HO3.out _ _ _ _ rfl (SlA.old (w:=w) HL.out HB3.out) (flatR_oneC ll) (by omega) (by unfold maxLen;omega) (show W+1≤w3.heap.size from HX3.out.lt) ?_
  intro ao4 cap4 w4 hown4 hg4
  have hb4:=bgrown HB3.out hg4 (fun j hj=>by have:=(HO3.out.lt j hj).1;have:=HBxl.out;omega)
  have hx4:=Blk.grownV HX3.out hg4 (own_neV HO3.out (Nat.lt_succ_self _))
  have HO4:=Lib.hid hown4
  have HB4:=Lib.hid hb4
  have HX4:=Lib.hid hx4
  clear hown4 hg4 hb4 hx4
  refine hK _ _ ⟨⟨HX4.out.cell 2 rfl,HX4.out.cell 3 rfl⟩,?_⟩
  clear hK K
  repeat refine pO ?_
  refine wpMixO_done ?_
  go_wp2
  go_ret2
  exact k38
theorem rTargets_yes (m:Md) (h:Hd) (s:Nat) (w:World) (H:ModAt w h m) (hv:modV m=true) (hs:(s:Int) < m.sel):Calls Tryz.prog 160 #[.agg #[.slice h.co m.cl.length h.cc,.slice h.so m.st.length h.sc,.slice h.eo m.me.length h.ec,.int .i64 m.sel],.int .i64 s] w (RetRow2 w (tgtV m s) 0):=by
 have hX:Blk (w.alloc (.cells #[.slice h.co m.cl.length h.cc,.slice h.so m.st.length h.sc,.slice h.eo m.me.length h.ec,.int .i64 m.sel] 26)) w.heap.size #[.slice h.co m.cl.length h.cc,.slice h.so m.st.length h.sc,.slice h.eo m.me.length h.ec,.int .i64 m.sel] 26:=Blk.new w _ _
 have hb0:Below w.heap.size w (w.alloc (.cells #[.slice h.co m.cl.length h.cc,.slice h.so m.st.length h.sc,.slice h.eo m.me.length h.ec,.int .i64 m.sel] 26)):=by exact bE
 have hwi:=rWithin_yes m h s m.sel _ (H.old hb0) hv (by omega)
 have hsz:=modV_size hv
 have hcv:=modV_cls hv
 generalize hlq:tgtV m s=q
 have HW:=Lib.hid hwi
 have HX:=Lib.hid hX
 have HM:=Lib.hid H
 have HB0:=Lib.hid hb0
 have HLq:=Lib.hid hlq
 have HCv:=Lib.hid hcv
 clear hwi hX hb0 H hlq hv hcv
 go_enter Tryz.func160,Tryz.ntmps160
 go_wp2_with fail
 refine HW.out.mono ?_
 rintro e1 w1 ⟨rfl,hb1⟩
 have HB1:=Lib.hid (bthen HB0.out hb1)
 have hX1:=HX.out.old hb1
 have r0:w1.cell? ⟨w.heap.size,0,none⟩=some (.slice h.co m.cl.length h.cc):=hX1.cell 0 rfl
 have r1:w1.cell? ⟨w.heap.size,1,none⟩=some (.slice h.so m.st.length h.sc):=hX1.cell 1 rfl
 have r2:w1.cell? ⟨w.heap.size,2,none⟩=some (.slice h.eo m.me.length h.ec):=hX1.cell 2 rfl
 have r3:w1.cell? ⟨w.heap.size,3,none⟩=some (.int .i64 m.sel):=hX1.cell 3 rfl
 have rl:=hX1.lt
 have htg:=rTargets_any m h s w1 (HM.out.old HB1.out) ⟨by omega,hs⟩ hsz.1 (fun j hj=>clsV_len (HCv.out j hj))
 rw [HLq.out] at htg
 have HTg:=Lib.hid htg
 clear hX1 htg hb1
 go_wp2_with fail
 refine HTg.out.mono ?_
 rintro e2 w2 ⟨⟨ao,cap,rfl,hr⟩,hb2⟩
 have HO:=Lib.hid hr
 clear hr
 go_wp2
 go_ret2
 exact ⟨⟨ao,cap,rfl,HO.out⟩,bthen HB1.out hb2⟩
theorem rDispatch_yes (m:Md) (h:Hd) (c s:Nat) (w:World) (H:ModAt w h m) (hv:modV m=true) (hc:c<m.cl.length) (hs:(s:Int) < m.sel):Calls Tryz.prog 258 #[.agg #[.slice h.co m.cl.length h.cc,.slice h.so m.st.length h.sc,.slice h.eo m.me.length h.ec,.int .i64 m.sel],.int .i64 c,.int .i64 s] w (Ret2 w (.int .i64 (if m.ent c s<0 then 0 else m.ent c s)) (.int .i64 (if m.ent c s<0 then 3 else 0))):=by
 have hX:Blk (w.alloc (.cells #[.slice h.co m.cl.length h.cc,.slice h.so m.st.length h.sc,.slice h.eo m.me.length h.ec,.int .i64 m.sel] 26)) w.heap.size #[.slice h.co m.cl.length h.cc,.slice h.so m.st.length h.sc,.slice h.eo m.me.length h.ec,.int .i64 m.sel] 26:=Blk.new w _ _
 have hb0:Below w.heap.size w (w.alloc (.cells #[.slice h.co m.cl.length h.cc,.slice h.so m.st.length h.sc,.slice h.eo m.me.length h.ec,.int .i64 m.sel] 26)):=by exact bE
 have hwi:=rWithin_yes m h c m.cl.length _ (H.old hb0) hv (by omega)
 have hw2:=fun w' (hb:Below w.heap.size w w')=>rWithin_yes m h s m.sel w' (H.old hb) hv (by omega)
 have hcv:=modV_cls hv
 have htl:=clsV_len (hcv c hc)
 have hent:m.ent c s=(m.cl.getD c default).m.getD s 0:=rfl
 generalize hee:m.ent c s=e at hent ⊢
 generalize hv1:(if e<0 then (0:Int) else e)=v1
 generalize hv2:(if e<0 then (3:Int) else 0)=v2
 have HV1:=Lib.hid hv1
 have HV2:=Lib.hid hv2
 clear hv1 hv2
 have HEe:=Lib.hid hent
 have HW:=Lib.hid hwi
 have HW2:=Lib.hid hw2
 have HX:=Lib.hid hX
 have HM:=Lib.hid H
 have HB0:=Lib.hid hb0
 clear hwi hw2 hX hb0 H hv hcv hent hee
 obtain ⟨co,cc,so,sc,eo,ec,hcx,he⟩:=h
 dsimp only at *
 have hc2:(c:Int) < m.cl.length:=by omega
 go_enter Tryz.func258,Tryz.ntmps258
 go_wp2_with fail
 refine HW.out.mono ?_
 rintro e1 w1 ⟨rfl,hb1⟩
 have HB1:=Lib.hid (bthen HB0.out hb1)
 have hX1:=HX.out.old hb1
 have r0:w1.cell? ⟨w.heap.size,0,none⟩=some (.slice co m.cl.length cc):=hX1.cell 0 rfl
 have r1:w1.cell? ⟨w.heap.size,1,none⟩=some (.slice so m.st.length sc):=hX1.cell 1 rfl
 have r2:w1.cell? ⟨w.heap.size,2,none⟩=some (.slice eo m.me.length ec):=hX1.cell 2 rfl
 have r3:w1.cell? ⟨w.heap.size,3,none⟩=some (.int .i64 m.sel):=hX1.cell 3 rfl
 have rl:=hX1.lt
 have HX1:=Lib.hid hX1
 clear hX1 hb1
 go_wp2_with fail
 refine (HW2.out _ HB1.out).mono ?_
 rintro e2 w2 ⟨rfl,hb2⟩
 have HB2:=Lib.hid (bthen HB1.out hb2)
 have hX2:=HX1.out.old hb2
 have r0:w2.cell? ⟨w.heap.size,0,none⟩=some (.slice co m.cl.length cc):=hX2.cell 0 rfl
 have rl:=hX2.lt
 clear r1 r2 r3 hX2 hb2
 have hm2:=HM.out.old HB2.out
 obtain ⟨ad,hco,-,-,-,c3⟩:=hm2.cls hc
 obtain ⟨ad3,hmo,t0⟩:=row_int (hm2.t c hc) (i:=s) (by omega)
 have hst:(s:Int) < (m.cl.getD c default).m.length:=by omega
 dsimp only at hco c3 hmo
 rw [hmo] at c3
 rw [hco] at r0
 rw [←HEe.out] at t0
 generalize (m.cl.getD c default).m.length=tn at c3 hst htl
 have HMo:=Lib.hid hmo
 have HCo:=Lib.hid hco
 clear hmo hco hm2
 by_cases he0:e<0
 ·go_wp2
  go_ret2
  refine ret2_ok ?_ ?_ HB2.out
  ·rw [←HV1.out,if_pos he0];rfl
  ·rw [←HV2.out,if_pos he0];rfl
 ·go_wp2
  go_ret2
  refine ret2_ok ?_ ?_ HB2.out
  ·rw [←HV1.out,if_neg (by omega)];rfl
  ·rw [←HV2.out,if_neg (by omega)];rfl
end
section
open Go.RowKit
def argsV (m:Md) (i:In3):List Ty:=if i.op=25 then (m.me.getD i.a.toNat default).p else match calleeV m i with
 | none=>[]
 | some x=>⟨2,-1⟩ :: x.p
def resV (m:Md) (i:In3):Ty:=match calleeV m i with
 | none=>ty0
 | some x=>x.r
section
variable {w:World}{K:Nat}{h:Hd}{m:Md}{L S O:Value}(H:Pk w K h m L S O)(HM:ModAt w h m)(hm:modV m=true){ia:Nat}{ib:Int}
include w K h m L S O H HM hm ia ib
theorem ra_25 (hj:ia<m.me.length):
  Calls Tryz.prog 252 #[.pointer (some ⟨K,0,none⟩),.agg #[.int .i64 25,.int .i64 ia,.int .i64 ib]] w (RetRow w (m.me.getD ia default).p):=by
 obtain ⟨kl,k0,k1,k2,k3,-⟩:=H.cells
 obtain ⟨ea,heo,-,-,f2,-,f4,f5,-⟩:=HM.mth hj
 obtain ⟨ma,hma⟩:∃ a,a=ea.add (ia*7):=⟨_,rfl⟩
 rw [←hma] at f2 f4 f5
 rw [heo] at k2
 obtain ⟨ps,hps⟩:∃ l,l=(m.me.getD ia default).p:=⟨_,rfl⟩
 rw [←hps] at f2 ⊢
 have HPs:=Lib.hid hps
 clear hps
 obtain ⟨np,hnp⟩:∃ n,n=ps.length:=⟨_,rfl⟩
 rw [←hnp] at f2
 obtain ⟨W1,hW1⟩:∃ W1,W1=(w.alloc (.cells #[.int .i64 25,.int .i64 ia,.int .i64 ib] 42)):=⟨_,rfl⟩
 have hb1:Below w.heap.size w W1:=by rw [hW1];exact bE
 have hbi:Blk W1 w.heap.size #[.int .i64 25,.int .i64 ia,.int .i64 ib] 42:=by rw [hW1];exact (Blk.new w _ _)
 have hS:∀ w',Below W1.heap.size W1 w'→(fun w':World=>w'.cell? ⟨K,2,none⟩=some (.slice (some ea) m.me.length h.ec)∧w'.cell? ⟨ma.block,ma.off+2,none⟩=some (.slice (h.e ia).po np (h.e ia).pc)∧w'.cell? ⟨w.heap.size,0,none⟩=some (.int .i64 25)∧w'.cell? ⟨w.heap.size,1,none⟩=some (.int .i64 ia)∧w'.cell? ⟨w.heap.size,2,none⟩=some (.int .i64 ib)) w':=fun w' hu=>⟨cell_bel (bthen hb1 hu) k2,cell_bel (bthen hb1 hu) f2,(hbi.old hu).cell 0 rfl,(hbi.old hu).cell 1 rfl,(hbi.old hu).cell 2 rfl⟩
 have HS:=Lib.hid hS
 have HBw:=Lib.hid hb1
 have HW1:=Lib.hid hW1
 have HHM:=Lib.hid HM
 have HMa:=Lib.hid hma
 have hj2:(ia:Int) < m.me.length:=by omega
 have HB0:=Lib.hid (Below.refl W1.heap.size W1)
 have HNp:=Lib.hid hnp
 clear hS hW1 hb1 hbi H HM hm k0 k1 k2 k3 hma heo f2 f4 f5 hnp
 go_enter Tryz.func252,Tryz.ntmps252
 go_upto_region 2 with fail
 rw [←HW1.out]
 refine rO (fun w':World=>w'.cell? ⟨K,2,none⟩=some (.slice (some ea) m.me.length h.ec)∧w'.cell? ⟨ma.block,ma.off+2,none⟩=some (.slice (h.e ia).po np (h.e ia).pc)∧w'.cell? ⟨w.heap.size,0,none⟩=some (.int .i64 25)∧w'.cell? ⟨w.heap.size,1,none⟩=some (.int .i64 ia)∧w'.cell? ⟨w.heap.size,2,none⟩=some (.int .i64 ib)) (oL [0,1,2,3,4,5,6,7,8,9,10]) (HS.out _ HB0.out.drew) ?_
 have HB1:=Lib.hid HB0.out.drew
 iterate 8 (refine pO ?_)
 rw [←HMa.out]
 repeat refine pO ?_
 refine wpMixO_done ?_
 go_wp2
 go_ret
 rw [HNp.out]
 exact ⟨⟨_,_,rfl,by rw [HPs.out];exact (HHM.out.old (bthen HBw.out HB1.out)).p ia hj⟩,bthen HBw.out HB1.out⟩
theorem ra_26none (hs:(ia:Int) < m.sel) (htg:tgtV m ia=[]):
  Calls Tryz.prog 252 #[.pointer (some ⟨K,0,none⟩),.agg #[.int .i64 26,.int .i64 ia,.int .i64 ib]] w (RetRow w ([]:List Ty)):=by
 obtain ⟨kl,k0,k1,k2,k3,-⟩:=H.cells
 obtain ⟨W1,hW1⟩:∃ W1,W1=(w.alloc (.cells #[.int .i64 26,.int .i64 ia,.int .i64 ib] 42)):=⟨_,rfl⟩
 have hb1:Below w.heap.size w W1:=by rw [hW1];exact bE
 have hbi:Blk W1 w.heap.size #[.int .i64 26,.int .i64 ia,.int .i64 ib] 42:=by rw [hW1];exact (Blk.new w _ _)
 have hS:∀ w',Below W1.heap.size W1 w'→(fun w':World=>w'.cell? ⟨K,0,none⟩=some (.slice h.co m.cl.length h.cc)∧w'.cell? ⟨K,1,none⟩=some (.slice h.so m.st.length h.sc)∧w'.cell? ⟨K,2,none⟩=some (.slice h.eo m.me.length h.ec)∧w'.cell? ⟨K,3,none⟩=some (.int .i64 m.sel)∧w'.cell? ⟨w.heap.size,0,none⟩=some (.int .i64 26)∧w'.cell? ⟨w.heap.size,1,none⟩=some (.int .i64 ia)∧w'.cell? ⟨w.heap.size,2,none⟩=some (.int .i64 ib)) w':=fun w' hu=>⟨cell_bel (bthen hb1 hu) k0,cell_bel (bthen hb1 hu) k1,cell_bel (bthen hb1 hu) k2,cell_bel (bthen hb1 hu) k3,(hbi.old hu).cell 0 rfl,(hbi.old hu).cell 1 rfl,(hbi.old hu).cell 2 rfl⟩
 have HS:=Lib.hid hS
 have HBw:=Lib.hid hb1
 have HW1:=Lib.hid hW1
 have HHM:=Lib.hid HM
 have HB0:=Lib.hid (Below.refl W1.heap.size W1)
 have HT:=Lib.hid (show ∀ w',Below W1.heap.size W1 w'→Calls Tryz.prog 160 #[.agg #[.slice h.co m.cl.length h.cc,.slice h.so m.st.length h.sc,.slice h.eo m.me.length h.ec,.int .i64 m.sel],.int .i64 ia] w' (RetRow2 w' (tgtV m ia) 0) from fun w' hb'=>rTargets_yes m h ia w' (HM.old (bthen hb1 hb')) hm hs)
 obtain ⟨nt,hnt⟩:∃ n,n=(tgtV m ia).length:=⟨_,rfl⟩
 have HNt:=Lib.hid hnt
 have HTg:=Lib.hid htg
 clear hS hW1 hb1 hbi H HM hm k0 k1 k2 k3 htg hnt
 go_enter Tryz.func252,Tryz.ntmps252
 go_upto_region 3 with fail
 rw [←HW1.out]
 refine rO (fun w':World=>w'.cell? ⟨K,0,none⟩=some (.slice h.co m.cl.length h.cc)∧w'.cell? ⟨K,1,none⟩=some (.slice h.so m.st.length h.sc)∧w'.cell? ⟨K,2,none⟩=some (.slice h.eo m.me.length h.ec)∧w'.cell? ⟨K,3,none⟩=some (.int .i64 m.sel)∧w'.cell? ⟨w.heap.size,0,none⟩=some (.int .i64 26)∧w'.cell? ⟨w.heap.size,1,none⟩=some (.int .i64 ia)∧w'.cell? ⟨w.heap.size,2,none⟩=some (.int .i64 ib)) (oL [0,1,2,3,4,5,106,7,8,9,10,11]) (HS.out _ HB0.out.drew) ?_
 have HB1:=Lib.hid HB0.out.drew
 repeat refine pO ?_
 refine oO fun Kv hK=>?_
 go_simp
 refine (HT.out _ HB1.out).mono ?_
 rintro r w2 ⟨⟨ao,cap,rfl,hrow⟩,hb2⟩
 have HB2:=Lib.hid (bthen HB1.out hb2)
 rw [←HNt.out]
 refine hK _ _ ⟨HS.out _ HB2.out,?_⟩
 clear hK Kv hb2
 repeat refine pO ?_
 refine wpMixO_done ?_
 have hn0:nt=0:=by rw [HNt.out,HTg.out];rfl
 subst hn0
 clear hrow
 go_wp2
 go_ret
 exact ⟨⟨none,0,rfl,RowAt.nil _⟩,bthen HBw.out HB2.out⟩
theorem ra_26some (hs:(ia:Int) < m.sel) {tj:Nat} {rest:List Int} (htg:tgtV m ia=(tj:Int) :: rest) (htj:tj<m.me.length):
  Calls Tryz.prog 252 #[.pointer (some ⟨K,0,none⟩),.agg #[.int .i64 26,.int .i64 ia,.int .i64 ib]] w (RetRow w ((⟨2,-1⟩:Ty) :: (m.me.getD tj default).p)):=by
 obtain ⟨kl,k0,k1,k2,k3,-⟩:=H.cells
 have k2':=k2
 obtain ⟨ea,heo,-,-,f2,-,f4,f5,-⟩:=HM.mth htj
 obtain ⟨ma,hma⟩:∃ a,a=ea.add (tj*7):=⟨_,rfl⟩
 rw [←hma] at f2 f4 f5
 rw [heo] at k2'
 have hpl:(m.me.getD tj default).p.length≤4:=(mth_ok hm htj).z.1
 obtain ⟨ps,hps⟩:∃ l,l=(m.me.getD tj default).p:=⟨_,rfl⟩
 rw [←hps] at f2 hpl ⊢
 have HPs:=Lib.hid hps
 clear hps
 obtain ⟨np,hnp⟩:∃ n,n=ps.length:=⟨_,rfl⟩
 rw [←hnp] at f2 hpl
 obtain ⟨W1,hW1⟩:∃ W1,W1=(w.alloc (.cells #[.int .i64 26,.int .i64 ia,.int .i64 ib] 42)):=⟨_,rfl⟩
 have hb1:Below w.heap.size w W1:=by rw [hW1];exact bE
 have hbi:Blk W1 w.heap.size #[.int .i64 26,.int .i64 ia,.int .i64 ib] 42:=by rw [hW1];exact (Blk.new w _ _)
 have hS:∀ w',Below W1.heap.size W1 w'→(fun w':World=>w'.cell? ⟨K,0,none⟩=some (.slice h.co m.cl.length h.cc)∧w'.cell? ⟨K,1,none⟩=some (.slice h.so m.st.length h.sc)∧w'.cell? ⟨K,2,none⟩=some (.slice h.eo m.me.length h.ec)∧w'.cell? ⟨K,3,none⟩=some (.int .i64 m.sel)∧w'.cell? ⟨w.heap.size,0,none⟩=some (.int .i64 26)∧w'.cell? ⟨w.heap.size,1,none⟩=some (.int .i64 ia)∧w'.cell? ⟨w.heap.size,2,none⟩=some (.int .i64 ib)) w':=fun w' hu=>⟨cell_bel (bthen hb1 hu) k0,cell_bel (bthen hb1 hu) k1,cell_bel (bthen hb1 hu) k2,cell_bel (bthen hb1 hu) k3,(hbi.old hu).cell 0 rfl,(hbi.old hu).cell 1 rfl,(hbi.old hu).cell 2 rfl⟩
 have HS:=Lib.hid hS
 have hS2:∀ w',Below W1.heap.size W1 w'→(fun w':World=>w'.cell? ⟨K,2,none⟩=some (.slice (some ea) m.me.length h.ec)∧w'.cell? ⟨ma.block,ma.off+2,none⟩=some (.slice (h.e tj).po np (h.e tj).pc)∧w'.cell? ⟨w.heap.size,0,none⟩=some (.int .i64 26)∧w'.cell? ⟨w.heap.size,1,none⟩=some (.int .i64 ia)∧w'.cell? ⟨w.heap.size,2,none⟩=some (.int .i64 ib)) w':=fun w' hu=>⟨cell_bel (bthen hb1 hu) k2',cell_bel (bthen hb1 hu) f2,(hbi.old hu).cell 0 rfl,(hbi.old hu).cell 1 rfl,(hbi.old hu).cell 2 rfl⟩
 have HS2:=Lib.hid hS2
 have HMa:=Lib.hid hma
 have HNp:=Lib.hid hnp
 have HBw:=Lib.hid hb1
 have HW1:=Lib.hid hW1
 have HHM:=Lib.hid HM
 have HB0:=Lib.hid (Below.refl W1.heap.size W1)
 have HT:=Lib.hid (show ∀ w',Below W1.heap.size W1 w'→Calls Tryz.prog 160 #[.agg #[.slice h.co m.cl.length h.cc,.slice h.so m.st.length h.sc,.slice h.eo m.me.length h.ec,.int .i64 m.sel],.int .i64 ia] w' (RetRow2 w' (tgtV m ia) 0) from fun w' hb'=>rTargets_yes m h ia w' (HM.old (bthen hb1 hb')) hm hs)
 obtain ⟨nt,hnt⟩:∃ n,n=(tgtV m ia).length:=⟨_,rfl⟩
 have HNt:=Lib.hid hnt
 have HTg:=Lib.hid htg
 clear hS hW1 hb1 hbi H HM hm k0 k1 k2 k3 htg hnt hma heo f2 f4 f5 hS2 k2' hnp
 go_enter Tryz.func252,Tryz.ntmps252
 go_upto_region 3 with fail
 rw [←HW1.out]
 refine rO (fun w':World=>w'.cell? ⟨K,0,none⟩=some (.slice h.co m.cl.length h.cc)∧w'.cell? ⟨K,1,none⟩=some (.slice h.so m.st.length h.sc)∧w'.cell? ⟨K,2,none⟩=some (.slice h.eo m.me.length h.ec)∧w'.cell? ⟨K,3,none⟩=some (.int .i64 m.sel)∧w'.cell? ⟨w.heap.size,0,none⟩=some (.int .i64 26)∧w'.cell? ⟨w.heap.size,1,none⟩=some (.int .i64 ia)∧w'.cell? ⟨w.heap.size,2,none⟩=some (.int .i64 ib)) (oL [0,1,2,3,4,5,106,7,8,9,10,11]) (HS.out _ HB0.out.drew) ?_
 have HB1:=Lib.hid HB0.out.drew
 repeat refine pO ?_
 refine oO fun Kv hK=>?_
 go_simp
 refine (HT.out _ HB1.out).mono ?_
 rintro r w2 ⟨⟨ao,cap,rfl,hrow⟩,hb2⟩
 have HB2:=Lib.hid (bthen HB1.out hb2)
 rw [←HNt.out]
 refine hK _ _ ⟨HS.out _ HB2.out,?_⟩
 clear hK Kv hb2
 repeat refine pO ?_
 refine wpMixO_done ?_
 have hn0:0<nt:=by rw [HNt.out,HTg.out];simp
 have hnz:((nt:Int) == 0)=false:=by simp;omega
 obtain ⟨ta,hao,t0⟩:=row_int hrow (i:=0) (by have:=HNt.out;omega)
 rw [show ta.add 0=ta from by simp [Addr.add],HTg.out] at t0
 have t0':w2.cell? ta=some (.int .i64 tj):=t0
 subst hao
 have htj2:(tj:Int) < m.me.length:=by omega
 have hS3:∀ w',Below w2.heap.size w2 w'→(fun w':World=>w'.cell? ⟨K,2,none⟩=some (.slice (some ea) m.me.length h.ec)∧w'.cell? ⟨ma.block,ma.off+2,none⟩=some (.slice (h.e tj).po np (h.e tj).pc)∧w'.cell? ta=some (.int .i64 tj)∧w'.cell? ⟨w.heap.size,0,none⟩=some (.int .i64 26)∧w'.cell? ⟨w.heap.size,1,none⟩=some (.int .i64 ia)∧w'.cell? ⟨w.heap.size,2,none⟩=some (.int .i64 ib)) w':=fun w' hu=>by
  obtain ⟨z0,z1,z2,z3,z4⟩:=HS2.out w' (bthen HB2.out hu)
  exact ⟨z0,z1,cell_bel hu t0',z2,z3,z4⟩
 have HS3:=Lib.hid hS3
 clear hS3 hrow t0 t0'
 go_wp2_with fail
 refine rO (fun w':World=>w'.cell? ⟨K,2,none⟩=some (.slice (some ea) m.me.length h.ec)∧w'.cell? ⟨ma.block,ma.off+2,none⟩=some (.slice (h.e tj).po np (h.e tj).pc)∧w'.cell? ta=some (.int .i64 tj)∧w'.cell? ⟨w.heap.size,0,none⟩=some (.int .i64 26)∧w'.cell? ⟨w.heap.size,1,none⟩=some (.int .i64 ia)∧w'.cell? ⟨w.heap.size,2,none⟩=some (.int .i64 ib)) (oL [0,2,3,4,5,6,7,8,9,10,11,12,101,113,14]) (HS3.out _ (show Below w2.heap.size w2 w2.drew by exact bE)) ?_
 iterate 10 (refine pO ?_)
 rw [←HMa.out]
 repeat refine pO ?_
 refine oO fun Kv hK=>?_
 go_simp
 have HB3:=Lib.hid (show Below w2.heap.size w2 (w2.alloc (.cells #[.int .i64 2,.int .i64 (-1)] 35)).drew by exact bE)
 refine hK _ _ ⟨HS3.out _ HB3.out,?_⟩
 clear hK Kv
 repeat refine pO ?_
 have HO:=Lib.hid (World.ownsRow.drew (World.ownsRow_lit (base:=w2.heap.size) (e:=35) (size:=2) w2 #[.int .i64 2,.int .i64 (-1)] 1 (Nat.le_refl _) (by decide) rfl))
 have HR:=Lib.hid ((HHM.out.old (bthen (bthen HBw.out HB2.out) HB3.out)).p tj htj)
 refine oO fun Kv hK=>?_
 refine wp_append_slx (.tmp 34) (.tmp 45) 23 rfl w2.heap.size 35 2 16 elTyV _ 1 _ rfl HO.out (h.e tj).po np (h.e tj).pc (flatR ps) rfl (by rw [HNp.out,HPs.out];exact HR.out) (flatR_oneC _) (by omega) (by unfold maxLen;omega) (by simp) ?_
 intro ao2 cap2 w4 hown4 hg4
 have HO4:=Lib.hid hown4
 have HB4:=Lib.hid ((show Below w2.heap.size w2 (w2.alloc (.cells #[.int .i64 2,.int .i64 (-1)] 35)).drew from HB3.out).grown hg4 (by simp) (fun k hk=>by cases hk;exact Nat.le_refl _))
 refine hK _ _ ⟨HS3.out _ HB4.out,?_⟩
 clear hK Kv hown4 hg4
 repeat refine pO ?_
 refine wpMixO_done ?_
 go_wp2
 go_ret
 have hl9:((⟨2,-1⟩:Ty) :: ps).length=1+np:=by rw [List.length_cons,←HNp.out,Nat.add_comm]
 refine ⟨⟨ao2,cap2,?_,?_⟩,bthen (bthen HBw.out HB2.out) HB4.out⟩
 ·rw [hl9];rfl
 ·have h9:=(ownsRow_slA HO4.out).2
  unfold RowAt
  rw [hl9]
  exact h9
theorem rr_25 (hj:ia<m.me.length):
  Calls Tryz.prog 251 #[.pointer (some ⟨K,0,none⟩),.agg #[.int .i64 25,.int .i64 ia,.int .i64 ib]] w (Ret w (.agg #[.int .i64 (m.me.getD ia default).r.k,.int .i64 (m.me.getD ia default).r.c])):=by
 obtain ⟨kl,k0,k1,k2,k3,-⟩:=H.cells
 obtain ⟨ea,heo,-,-,f2,-,f4,f5,-⟩:=HM.mth hj
 obtain ⟨ma,hma⟩:∃ a,a=ea.add (ia*7):=⟨_,rfl⟩
 rw [←hma] at f2 f4 f5
 rw [heo] at k2
 obtain ⟨⟨rk,rq⟩,hr⟩:∃ r:Ty,r=(m.me.getD ia default).r:=⟨_,rfl⟩
 rw [←hr] at f4 f5 ⊢
 dsimp only at f4 f5 ⊢
 obtain ⟨W1,hW1⟩:∃ W1,W1=(w.alloc (.cells #[.int .i64 25,.int .i64 ia,.int .i64 ib] 42)).alloc (.cells #[.int .i64 0,.int .i64 0] 35):=⟨_,rfl⟩
 have hb1:Below w.heap.size w W1:=by rw [hW1];exact bE
 have hbi:Blk W1 w.heap.size #[.int .i64 25,.int .i64 ia,.int .i64 ib] 42:=by rw [hW1];exact (Blk.new w _ _).alloc _
 have hbr:Blk W1 (w.heap.size+1) #[.int .i64 0,.int .i64 0] 35:=by rw [hW1];exact Blk.new' (w:=w.alloc (.cells #[.int .i64 25,.int .i64 ia,.int .i64 ib] 42)) _ _ (by simp)
 have HX:=Lib.hid hbr
 have hrl:=hbr.lt
 have hS:∀ w',Upd (w.heap.size+1) (w.heap.size+1) W1 w'→(fun w':World=>w'.cell? ⟨K,2,none⟩=some (.slice (some ea) m.me.length h.ec)∧w'.cell? ⟨ma.block,ma.off+4,none⟩=some (.int .i64 rk)∧w'.cell? ⟨ma.block,ma.off+5,none⟩=some (.int .i64 rq)∧w'.cell? ⟨w.heap.size,0,none⟩=some (.int .i64 25)∧w'.cell? ⟨w.heap.size,1,none⟩=some (.int .i64 ia)∧w'.cell? ⟨w.heap.size,2,none⟩=some (.int .i64 ib)) w':=fun w' hu=>⟨cell_keep hb1 (Nat.le_succ _) hu k2,cell_keep hb1 (Nat.le_succ _) hu f4,cell_keep hb1 (Nat.le_succ _) hu f5,hu.cell (hbi.cell 0 rfl) (by show w.heap.size≠_;omega) (by show w.heap.size≠_;omega),hu.cell (hbi.cell 1 rfl) (by show w.heap.size≠_;omega) (by show w.heap.size≠_;omega),hu.cell (hbi.cell 2 rfl) (by show w.heap.size≠_;omega) (by show w.heap.size≠_;omega)⟩
 have HS:=Lib.hid hS
 have HBw:=Lib.hid hb1
 have HW1:=Lib.hid hW1
 have HHM:=Lib.hid HM
 have HMa:=Lib.hid hma
 have hj2:(ia:Int) < m.me.length:=by omega
 have HB0:=Lib.hid (Below.refl W1.heap.size W1)
 clear hS hW1 hb1 hbi hbr H HM hm k0 k1 k2 k3 hma heo f2 f4 f5 hr
 go_enter Tryz.func251,Tryz.ntmps251
 go_upto_region 2 with fail
 rw [←HW1.out]
 refine rO (fun w':World=>w'.cell? ⟨K,2,none⟩=some (.slice (some ea) m.me.length h.ec)∧w'.cell? ⟨ma.block,ma.off+4,none⟩=some (.int .i64 rk)∧w'.cell? ⟨ma.block,ma.off+5,none⟩=some (.int .i64 rq)∧w'.cell? ⟨w.heap.size,0,none⟩=some (.int .i64 25)∧w'.cell? ⟨w.heap.size,1,none⟩=some (.int .i64 ia)∧w'.cell? ⟨w.heap.size,2,none⟩=some (.int .i64 ib)) (oL [0,1,2,3,4,5,6,7,8,9,110]) (HS.out _ (Upd.of HB0.out).drew) ?_
 have HB1:=Lib.hid HB0.out.drew
 iterate 8 (refine pO ?_)
 rw [←HMa.out]
 repeat refine pO ?_
 have hxn:=HX.out.old HB0.out
 have y0:=hxn.cell 0 (v:=.int .i64 0) rfl
 have y1:=hxn.cell 1 (v:=.int .i64 0) rfl
 have g0:=hxn.frozen 0
 have g1:=hxn.frozen 1
 refine oO fun Kv hK=>?_
 go_simp
 refine hK _ _ ⟨HS.out _ (((Upd.of HB1.out).set 0 _).set 1 _),?_⟩
 clear hK Kv
 refine wpMixO_done ?_
 go_wp2
 refine bodyPost_ret (v:=.agg #[.int .i64 rk,.int .i64 rq]) (by simp [results,Tryz.results251,go_sem,y0,y1]) rfl ⟨rfl,?_⟩
 exact bsetV (bsetV (bthen HBw.out HB1.out) (Nat.le_succ _) _) (Nat.le_succ _) _
theorem rr_26none (hs:(ia:Int) < m.sel) (htg:tgtV m ia=[]):
  Calls Tryz.prog 251 #[.pointer (some ⟨K,0,none⟩),.agg #[.int .i64 26,.int .i64 ia,.int .i64 ib]] w (Ret w (.agg #[.int .i64 0,.int .i64 0])):=by
 obtain ⟨kl,k0,k1,k2,k3,-⟩:=H.cells
 obtain ⟨W1,hW1⟩:∃ W1,W1=(w.alloc (.cells #[.int .i64 26,.int .i64 ia,.int .i64 ib] 42)).alloc (.cells #[.int .i64 0,.int .i64 0] 35):=⟨_,rfl⟩
 have hb1:Below w.heap.size w W1:=by rw [hW1];exact bE
 have hbi:Blk W1 w.heap.size #[.int .i64 26,.int .i64 ia,.int .i64 ib] 42:=by rw [hW1];exact (Blk.new w _ _).alloc _
 have hbr:Blk W1 (w.heap.size+1) #[.int .i64 0,.int .i64 0] 35:=by rw [hW1];exact Blk.new' (w:=w.alloc (.cells #[.int .i64 26,.int .i64 ia,.int .i64 ib] 42)) _ _ (by simp)
 have HX:=Lib.hid hbr
 have hrl:=hbr.lt
 have hS:∀ w',Upd (w.heap.size+1) (w.heap.size+1) W1 w'→(fun w':World=>w'.cell? ⟨K,0,none⟩=some (.slice h.co m.cl.length h.cc)∧w'.cell? ⟨K,1,none⟩=some (.slice h.so m.st.length h.sc)∧w'.cell? ⟨K,2,none⟩=some (.slice h.eo m.me.length h.ec)∧w'.cell? ⟨K,3,none⟩=some (.int .i64 m.sel)∧w'.cell? ⟨w.heap.size,0,none⟩=some (.int .i64 26)∧w'.cell? ⟨w.heap.size,1,none⟩=some (.int .i64 ia)∧w'.cell? ⟨w.heap.size,2,none⟩=some (.int .i64 ib)) w':=fun w' hu=>⟨cell_keep hb1 (Nat.le_succ _) hu k0,cell_keep hb1 (Nat.le_succ _) hu k1,cell_keep hb1 (Nat.le_succ _) hu k2,cell_keep hb1 (Nat.le_succ _) hu k3,hu.cell (hbi.cell 0 rfl) (by show w.heap.size≠_;omega) (by show w.heap.size≠_;omega),hu.cell (hbi.cell 1 rfl) (by show w.heap.size≠_;omega) (by show w.heap.size≠_;omega),hu.cell (hbi.cell 2 rfl) (by show w.heap.size≠_;omega) (by show w.heap.size≠_;omega)⟩
 have HS:=Lib.hid hS
 have HBw:=Lib.hid hb1
 have HW1:=Lib.hid hW1
 have HHM:=Lib.hid HM
 have HB0:=Lib.hid (Below.refl W1.heap.size W1)
 have HT:=Lib.hid (show ∀ w',Below W1.heap.size W1 w'→Calls Tryz.prog 160 #[.agg #[.slice h.co m.cl.length h.cc,.slice h.so m.st.length h.sc,.slice h.eo m.me.length h.ec,.int .i64 m.sel],.int .i64 ia] w' (RetRow2 w' (tgtV m ia) 0) from fun w' hb'=>rTargets_yes m h ia w' (HM.old (bthen hb1 hb')) hm hs)
 obtain ⟨nt,hnt⟩:∃ n,n=(tgtV m ia).length:=⟨_,rfl⟩
 have HNt:=Lib.hid hnt
 have HTg:=Lib.hid htg
 clear hS hW1 hb1 hbi hbr H HM hm k0 k1 k2 k3 htg hnt
 go_enter Tryz.func251,Tryz.ntmps251
 go_upto_region 3 with fail
 rw [←HW1.out]
 refine rO (fun w':World=>w'.cell? ⟨K,0,none⟩=some (.slice h.co m.cl.length h.cc)∧w'.cell? ⟨K,1,none⟩=some (.slice h.so m.st.length h.sc)∧w'.cell? ⟨K,2,none⟩=some (.slice h.eo m.me.length h.ec)∧w'.cell? ⟨K,3,none⟩=some (.int .i64 m.sel)∧w'.cell? ⟨w.heap.size,0,none⟩=some (.int .i64 26)∧w'.cell? ⟨w.heap.size,1,none⟩=some (.int .i64 ia)∧w'.cell? ⟨w.heap.size,2,none⟩=some (.int .i64 ib)) (oL [0,1,2,3,4,5,106,7,8,9,10,11]) (HS.out _ (Upd.of HB0.out).drew) ?_
 have HB1:=Lib.hid HB0.out.drew
 repeat refine pO ?_
 refine oO fun Kv hK=>?_
 go_simp
 refine (HT.out _ HB1.out).mono ?_
 rintro r w2 ⟨⟨ao,cap,rfl,hrow⟩,hb2⟩
 have HB2:=Lib.hid (bthen HB1.out hb2)
 rw [←HNt.out]
 refine hK _ _ ⟨HS.out _ (Upd.of HB2.out),?_⟩
 clear hK Kv hb2
 repeat refine pO ?_
 refine wpMixO_done ?_
 have hn0:nt=0:=by rw [HNt.out,HTg.out];rfl
 subst hn0
 have hxn:=HX.out.old HB2.out
 have y0:=hxn.cell 0 (v:=.int .i64 0) rfl
 have y1:=hxn.cell 1 (v:=.int .i64 0) rfl
 have g0:=hxn.frozen 0
 have g1:=hxn.frozen 1
 clear hrow
 go_wp2
 refine bodyPost_ret (v:=.agg #[.int .i64 0,.int .i64 0]) (by simp [results,Tryz.results251,go_sem,y0,y1]) rfl ⟨rfl,?_⟩
 exact bsetV (bsetV (bthen HBw.out HB2.out) (Nat.le_succ _) _) (Nat.le_succ _) _
theorem rr_26some (hs:(ia:Int) < m.sel) {tj:Nat} {rest:List Int} (htg:tgtV m ia=(tj:Int) :: rest) (htj:tj<m.me.length):
  Calls Tryz.prog 251 #[.pointer (some ⟨K,0,none⟩),.agg #[.int .i64 26,.int .i64 ia,.int .i64 ib]] w (Ret w (.agg #[.int .i64 (m.me.getD tj default).r.k,.int .i64 (m.me.getD tj default).r.c])):=by
 obtain ⟨kl,k0,k1,k2,k3,-⟩:=H.cells
 have k2':=k2
 obtain ⟨ea,heo,-,-,f2,-,f4,f5,-⟩:=HM.mth htj
 obtain ⟨ma,hma⟩:∃ a,a=ea.add (tj*7):=⟨_,rfl⟩
 rw [←hma] at f2 f4 f5
 rw [heo] at k2'
 obtain ⟨⟨rk,rq⟩,hr⟩:∃ r:Ty,r=(m.me.getD tj default).r:=⟨_,rfl⟩
 rw [←hr] at f4 f5 ⊢
 dsimp only at f4 f5 ⊢
 obtain ⟨W1,hW1⟩:∃ W1,W1=(w.alloc (.cells #[.int .i64 26,.int .i64 ia,.int .i64 ib] 42)).alloc (.cells #[.int .i64 0,.int .i64 0] 35):=⟨_,rfl⟩
 have hb1:Below w.heap.size w W1:=by rw [hW1];exact bE
 have hbi:Blk W1 w.heap.size #[.int .i64 26,.int .i64 ia,.int .i64 ib] 42:=by rw [hW1];exact (Blk.new w _ _).alloc _
 have hbr:Blk W1 (w.heap.size+1) #[.int .i64 0,.int .i64 0] 35:=by rw [hW1];exact Blk.new' (w:=w.alloc (.cells #[.int .i64 26,.int .i64 ia,.int .i64 ib] 42)) _ _ (by simp)
 have HX:=Lib.hid hbr
 have hrl:=hbr.lt
 have hS:∀ w',Upd (w.heap.size+1) (w.heap.size+1) W1 w'→(fun w':World=>w'.cell? ⟨K,0,none⟩=some (.slice h.co m.cl.length h.cc)∧w'.cell? ⟨K,1,none⟩=some (.slice h.so m.st.length h.sc)∧w'.cell? ⟨K,2,none⟩=some (.slice h.eo m.me.length h.ec)∧w'.cell? ⟨K,3,none⟩=some (.int .i64 m.sel)∧w'.cell? ⟨w.heap.size,0,none⟩=some (.int .i64 26)∧w'.cell? ⟨w.heap.size,1,none⟩=some (.int .i64 ia)∧w'.cell? ⟨w.heap.size,2,none⟩=some (.int .i64 ib)) w':=fun w' hu=>⟨cell_keep hb1 (Nat.le_succ _) hu k0,cell_keep hb1 (Nat.le_succ _) hu k1,cell_keep hb1 (Nat.le_succ _) hu k2,cell_keep hb1 (Nat.le_succ _) hu k3,hu.cell (hbi.cell 0 rfl) (by show w.heap.size≠_;omega) (by show w.heap.size≠_;omega),hu.cell (hbi.cell 1 rfl) (by show w.heap.size≠_;omega) (by show w.heap.size≠_;omega),hu.cell (hbi.cell 2 rfl) (by show w.heap.size≠_;omega) (by show w.heap.size≠_;omega)⟩
 have HS:=Lib.hid hS
 have hS2:∀ w',Upd (w.heap.size+1) (w.heap.size+1) W1 w'→(fun w':World=>w'.cell? ⟨K,2,none⟩=some (.slice (some ea) m.me.length h.ec)∧w'.cell? ⟨ma.block,ma.off+4,none⟩=some (.int .i64 rk)∧w'.cell? ⟨ma.block,ma.off+5,none⟩=some (.int .i64 rq)∧w'.cell? ⟨w.heap.size,0,none⟩=some (.int .i64 26)∧w'.cell? ⟨w.heap.size,1,none⟩=some (.int .i64 ia)∧w'.cell? ⟨w.heap.size,2,none⟩=some (.int .i64 ib)) w':=fun w' hu=>⟨cell_keep hb1 (Nat.le_succ _) hu k2',cell_keep hb1 (Nat.le_succ _) hu f4,cell_keep hb1 (Nat.le_succ _) hu f5,hu.cell (hbi.cell 0 rfl) (by show w.heap.size≠_;omega) (by show w.heap.size≠_;omega),hu.cell (hbi.cell 1 rfl) (by show w.heap.size≠_;omega) (by show w.heap.size≠_;omega),hu.cell (hbi.cell 2 rfl) (by show w.heap.size≠_;omega) (by show w.heap.size≠_;omega)⟩
 have HS2:=Lib.hid hS2
 have HMa:=Lib.hid hma
 have HBw:=Lib.hid hb1
 have HW1:=Lib.hid hW1
 have HHM:=Lib.hid HM
 have HB0:=Lib.hid (Below.refl W1.heap.size W1)
 have HT:=Lib.hid (show ∀ w',Below W1.heap.size W1 w'→Calls Tryz.prog 160 #[.agg #[.slice h.co m.cl.length h.cc,.slice h.so m.st.length h.sc,.slice h.eo m.me.length h.ec,.int .i64 m.sel],.int .i64 ia] w' (RetRow2 w' (tgtV m ia) 0) from fun w' hb'=>rTargets_yes m h ia w' (HM.old (bthen hb1 hb')) hm hs)
 obtain ⟨nt,hnt⟩:∃ n,n=(tgtV m ia).length:=⟨_,rfl⟩
 have HNt:=Lib.hid hnt
 have HTg:=Lib.hid htg
 clear hS hW1 hb1 hbi hbr H HM hm k0 k1 k2 k3 htg hnt hma heo f2 f4 f5 hS2 k2' hr
 go_enter Tryz.func251,Tryz.ntmps251
 go_upto_region 3 with fail
 rw [←HW1.out]
 refine rO (fun w':World=>w'.cell? ⟨K,0,none⟩=some (.slice h.co m.cl.length h.cc)∧w'.cell? ⟨K,1,none⟩=some (.slice h.so m.st.length h.sc)∧w'.cell? ⟨K,2,none⟩=some (.slice h.eo m.me.length h.ec)∧w'.cell? ⟨K,3,none⟩=some (.int .i64 m.sel)∧w'.cell? ⟨w.heap.size,0,none⟩=some (.int .i64 26)∧w'.cell? ⟨w.heap.size,1,none⟩=some (.int .i64 ia)∧w'.cell? ⟨w.heap.size,2,none⟩=some (.int .i64 ib)) (oL [0,1,2,3,4,5,106,7,8,9,10,11]) (HS.out _ (Upd.of HB0.out).drew) ?_
 have HB1:=Lib.hid HB0.out.drew
 repeat refine pO ?_
 refine oO fun Kv hK=>?_
 go_simp
 refine (HT.out _ HB1.out).mono ?_
 rintro r w2 ⟨⟨ao,cap,rfl,hrow⟩,hb2⟩
 have HB2:=Lib.hid (bthen HB1.out hb2)
 rw [←HNt.out]
 refine hK _ _ ⟨HS.out _ (Upd.of HB2.out),?_⟩
 clear hK Kv hb2
 repeat refine pO ?_
 refine wpMixO_done ?_
 have hn0:0<nt:=by rw [HNt.out,HTg.out];simp
 have hnz:((nt:Int) == 0)=false:=by simp;omega
 obtain ⟨ta,hao,t0⟩:=row_int hrow (i:=0) (by have:=HNt.out;omega)
 rw [show ta.add 0=ta from by simp [Addr.add],HTg.out] at t0
 have t0':w2.cell? ta=some (.int .i64 tj):=t0
 subst hao
 have htj2:(tj:Int) < m.me.length:=by omega
 have hS3:∀ w',Below w2.heap.size w2 w'→(fun w':World=>w'.cell? ⟨K,2,none⟩=some (.slice (some ea) m.me.length h.ec)∧w'.cell? ⟨ma.block,ma.off+4,none⟩=some (.int .i64 rk)∧w'.cell? ⟨ma.block,ma.off+5,none⟩=some (.int .i64 rq)∧w'.cell? ta=some (.int .i64 tj)∧w'.cell? ⟨w.heap.size,0,none⟩=some (.int .i64 26)∧w'.cell? ⟨w.heap.size,1,none⟩=some (.int .i64 ia)∧w'.cell? ⟨w.heap.size,2,none⟩=some (.int .i64 ib)) w':=fun w' hu=>by
  obtain ⟨z0,z1,z2,z3,z4,z5⟩:=HS2.out w' ((Upd.of HB2.out).trans (Upd.of hu))
  exact ⟨z0,z1,z2,cell_bel hu t0',z3,z4,z5⟩
 have HS3:=Lib.hid hS3
 clear hS3 hrow t0 t0'
 go_wp2_with fail
 refine rE (fun w':World=>w'.cell? ⟨K,2,none⟩=some (.slice (some ea) m.me.length h.ec)∧w'.cell? ⟨ma.block,ma.off+4,none⟩=some (.int .i64 rk)∧w'.cell? ⟨ma.block,ma.off+5,none⟩=some (.int .i64 rq)∧w'.cell? ta=some (.int .i64 tj)∧w'.cell? ⟨w.heap.size,0,none⟩=some (.int .i64 26)∧w'.cell? ⟨w.heap.size,1,none⟩=some (.int .i64 ia)∧w'.cell? ⟨w.heap.size,2,none⟩=some (.int .i64 ib)) 11 (oL [0,1,2,3,4,5,6,7,8,9,10]) (HS3.out _ (show Below w2.heap.size w2 w2.drew by exact bE)) ?_
 iterate 9 (refine pE ?_)
 rw [←HMa.out]
 repeat refine pE ?_
 have hxn:=HX.out.old HB2.out
 have y0:=hxn.cell 0 (v:=.int .i64 0) rfl
 have y1:=hxn.cell 1 (v:=.int .i64 0) rfl
 have g0:=hxn.frozen 0
 have g1:=hxn.frozen 1
 refine sE fun Kv hK=>?_
 go_simp
 refine hK _ _ ?_
 clear hK Kv
 go_wp2
 refine bodyPost_ret (v:=.agg #[.int .i64 rk,.int .i64 rq]) (by simp [results,Tryz.results251,go_sem,y0,y1]) rfl ⟨rfl,?_⟩
 exact bsetV (bsetV (bthen HBw.out (HB2.out.trans ((show Below w2.heap.size w2 w2.drew by exact bE).mono HB2.out.size))) (Nat.le_succ _) _) (Nat.le_succ _) _
end
end
section
open Go.RowKit
section
variable {w:World}{K:Nat}{h:Hd}{m:Md}{L S O:Value}(H:Pk w K h m L S O)(HM:ModAt w h m)(hm:modV m=true){k:Nat}(hk:k<m.me.length){i:In3}(hi:OpdOk m k i)(hop:i.op=25∨i.op=26)
include w K h m L S O H HM hm k hk i hi hop
theorem ra_any:
  Calls Tryz.prog 252 #[.pointer (some ⟨K,0,none⟩),.agg #[.int .i64 i.op,.int .i64 i.a,.int .i64 i.b]] w (RetRow w (argsV m i)):=by
 have ha:=hi.a0 (by omega)
 obtain ⟨op,ia,ib⟩:=i
 dsimp only at ha hop ⊢
 obtain ⟨ia,rfl⟩:∃ d:Nat,ia=d:=⟨ia.toNat,by omega⟩
 rcases hop with rfl|rfl
 ·have h1:=(hi.o25 rfl).1
  dsimp only at h1
  have:=ra_25 H HM hm (ia:=ia) (ib:=ib) (by omega)
  unfold argsV
  rw [if_pos rfl]
  dsimp only
  rwa [Int.toNat_natCast]
 ·obtain ⟨h1,h2⟩:=hi.o26 rfl
  dsimp only at h1 h2
  have hc:argsV m ⟨26,ia,ib⟩=match tgtV m ia with|[]=>[]|t :: _=>⟨2,-1⟩ :: (m.me.getD t.toNat default).p:=by
   unfold argsV calleeV
   rw [if_neg (by simp),if_neg (by simp)]
   cases tgtV m ia<;>rfl
  rw [hc]
  cases htg:tgtV m ia with
  | nil=>exact ra_26none H HM hm h1 htg
  | cons t r=>
   have h0:0≤t:=tgt_nn (by rw [htg];exact List.mem_cons_self)
   have h3:=h2 t (by rw [htg];exact List.mem_cons_self)
   obtain ⟨tj,rfl⟩:∃ d:Nat,t=d:=⟨t.toNat,by omega⟩
   dsimp only
   rw [Int.toNat_natCast]
   exact ra_26some H HM hm h1 htg (by omega)
theorem rr_any:
  Calls Tryz.prog 251 #[.pointer (some ⟨K,0,none⟩),.agg #[.int .i64 i.op,.int .i64 i.a,.int .i64 i.b]] w (Ret w (.agg #[.int .i64 (resV m i).k,.int .i64 (resV m i).c])):=by
 have ha:=hi.a0 (by omega)
 obtain ⟨op,ia,ib⟩:=i
 dsimp only at ha hop ⊢
 obtain ⟨ia,rfl⟩:∃ d:Nat,ia=d:=⟨ia.toNat,by omega⟩
 rcases hop with rfl|rfl
 ·have h1:=(hi.o25 rfl).1
  dsimp only at h1
  have:=rr_25 H HM hm (ia:=ia) (ib:=ib) (by omega)
  have hc:resV m ⟨25,ia,ib⟩=(m.me.getD ia default).r:=by unfold resV calleeV;rw [if_pos rfl];dsimp only;rw [Int.toNat_natCast]
  rwa [hc]
 ·obtain ⟨h1,h2⟩:=hi.o26 rfl
  dsimp only at h1 h2
  have hc:resV m ⟨26,ia,ib⟩=match tgtV m ia with|[]=>ty0|t :: _=>(m.me.getD t.toNat default).r:=by
   unfold resV calleeV
   rw [if_neg (by simp)]
   cases tgtV m ia<;>rfl
  rw [hc]
  cases htg:tgtV m ia with
  | nil=>exact rr_26none H HM hm h1 htg
  | cons t r=>
   have h0:0≤t:=tgt_nn (by rw [htg];exact List.mem_cons_self)
   have h3:=h2 t (by rw [htg];exact List.mem_cons_self)
   obtain ⟨tj,rfl⟩:∃ d:Nat,t=d:=⟨t.toNat,by omega⟩
   dsimp only
   rw [Int.toNat_natCast]
   exact rr_26some H HM hm h1 htg (by omega)
end
theorem Pk.old {w w':World}{K:Nat}{h:Hd}{m:Md}{L S O:Value} (H:Pk w K h m L S O) (hb:Below w.heap.size w w'):Pk w' K h m L S O:=Blk.old H hb
theorem fld0 (a b:Int) (w:World):Sem.run Tryz.prog (Instr.field 35 (.agg #[.int .i64 a,.int .i64 b]) 0) w=.ok (.int .i64 a) w:=by kernel_rfl
theorem cnt_args {m:Md}{i:In3} (hop:i.op=25∨i.op=26):cntV m i=((argsV m i).length,if (resV m i).k=0 then 0 else 1):=by
 rcases hop with hop|hop
 ·rw [cv25 hop]
  have hc:calleeV m i=some (m.me.getD i.a.toNat default):=by unfold calleeV;rw [if_pos hop]
  unfold argsV resV
  rw [if_pos hop,hc]
 ·rw [cv26 hop]
  unfold argsV resV
  rw [if_neg (by omega)]
  cases calleeV m i<;>simp [ty0]
theorem counts6_any {w:World}{K:Nat}{h:Hd}{m:Md}{L S O:Value} (H:Pk w K h m L S O) (HM:ModAt w h m) (hm:modV m=true) {k:Nat} (hk:k<m.me.length) {i:In3} (hi:OpdOk m k i) (hop:0≤i.op∧i.op<34) :
  Calls Tryz.prog 236 #[.pointer (some ⟨K,0,none⟩),.agg #[.int .i64 i.op,.int .i64 i.a,.int .i64 i.b]] w (Ret2 w (.int .i64 (cntV m i).1) (.int .i64 (cntV m i).2)):=by
 by_cases hc:i.op=25∨i.op=26
 ·rw [cnt_args hc]
  have HR:=Lib.hid (fun w' (hb:Below w.heap.size w w')=>rr_any (H.old hb) (HM.old hb) hm hk hi hc)
  have HA:=Lib.hid (fun w' (hb:Below w.heap.size w w')=>ra_any (H.old hb) (HM.old hb) hm hk hi hc)
  generalize hr:resV m i=r at HR ⊢
  generalize hl:argsV m i=l at HA ⊢
  have hl5:l.length≤1000000:=by
   rw [←hl]
   exact k44
  clear hr hl H HM hi
  obtain ⟨op,ia,ib⟩:=i
  obtain ⟨rk,rq⟩:=r
  dsimp only at hc hop HR HA ⊢
  by_cases hk0:rk=0
  ·subst hk0
   rcases hc with rfl|rfl
   all_goals
    have hfd:=fld0 0 rq
    go_enter Tryz.func236,Tryz.ntmps236
    go_wp2_with (first|(go_at_call 251;refine (HR.out _ bE).mono ?_;rintro r w1 ⟨rfl,hb1⟩;have HB1:=Lib.hid (bthen (show Below w.heap.size w _ by exact bE) hb1);have i0:=((Blk.new w _ _).old hb1).cell 0 (v:=.int .i64 _) rfl;have i1:=((Blk.new w _ _).old hb1).cell 1 (v:=.int .i64 ia) rfl;have i2:=((Blk.new w _ _).old hb1).cell 2 (v:=.int .i64 ib) rfl;clear hb1)|(go_at_call 252;refine (HA.out _ HB1.out).mono ?_;rintro r w2 ⟨⟨ao,cap,rfl,hr2⟩,hb2⟩))
    go_ret2
    exact ret2_ok rfl (by simp) (bthen HB1.out hb2)
  ·have hk1:(rk != 0)=true:=by simpa using hk0
   have hn1:(if rk=0 then 0 else 1)=1:=if_neg hk0
   rw [hn1]
   clear hn1 hk0
   rcases hc with rfl|rfl
   all_goals
    have hfd:=fld0 rk rq
    go_enter Tryz.func236,Tryz.ntmps236
    go_wp2_with (first|(go_at_call 251;refine (HR.out _ bE).mono ?_;rintro r w1 ⟨rfl,hb1⟩;have HB1:=Lib.hid (bthen (show Below w.heap.size w _ by exact bE) hb1);have i0:=((Blk.new w _ _).old hb1).cell 0 (v:=.int .i64 _) rfl;have i1:=((Blk.new w _ _).old hb1).cell 1 (v:=.int .i64 ia) rfl;have i2:=((Blk.new w _ _).old hb1).cell 2 (v:=.int .i64 ib) rfl;clear hb1)|(go_at_call 252;refine (HA.out _ HB1.out).mono ?_;rintro r w2 ⟨⟨ao,cap,rfl,hr2⟩,hb2⟩))
    go_ret2
    exact ret2_ok rfl rfl (bthen HB1.out hb2)
 ·obtain ⟨op,ia,ib⟩:=i
  clear hi H HM
  dsimp only at hc hop ⊢
  have cls:op=0∨op=1∨op=2∨op=3∨op=4∨op=5∨op=6∨op=7∨op=8∨op=9∨op=10∨op=11∨op=12∨op=13∨op=14∨op=15∨op=16∨op=17∨op=18∨op=19∨op=20∨op=21∨op=22∨op=23∨op=24∨op=27∨op=28∨op=29∨op=30∨op=31∨op=32∨op=33:=by omega
  clear hop hc
  rcases cls with rfl|rfl|rfl|rfl|rfl|rfl|rfl|rfl|rfl|rfl|rfl|rfl|rfl|rfl|rfl|rfl|rfl|rfl|rfl|rfl|rfl|rfl|rfl|rfl|rfl|rfl|rfl|rfl|rfl|rfl|rfl|rfl
  all_goals
   go_enter Tryz.func236,Tryz.ntmps236
   go_wp2
   go_ret2
   exact ret2_ok rfl rfl bE
end
section
open Go.RowKit
theorem all_from {n:Nat}{F:Nat→Bool} (h:∀ j,j<n→F j=true):(List.range n).all F=true:=all_range_ok h
section
variable {m:Md}(hm:modV m=true){k:Nat}(hk:k<m.me.length){i:In3}(hi:OpdOk m k i)(hc:i.op=25∨i.op=26)
include m hm k hk i hi hc
theorem argsV_len:(argsV m i).length≤5:=by
 exact k44
theorem argsV_ty {j:Nat} (hj:j<(argsV m i).length) (h26:i.op=26→0<j):tyOk m ((argsV m i).getD j default):=by
 unfold argsV at hj ⊢
 rcases hc with q|q
 ·rw [if_pos q] at hj ⊢
  exact (mth_ok hm (k:=i.a.toNat) (by have:=(hi.o25 q).1;have:=hi.a0 (by omega);omega)).p _ (getD_mem _ hj)
 ·rw [if_neg (by omega)] at hj ⊢
  cases hx:calleeV m i with
  | none=>rw [hx] at hj;simp at hj
  | some x=>
   rw [hx] at hj
   obtain ⟨j2,h1,h2,-⟩:=callee_ok hi (.inr q) hx
   have h0:=h26 q
   obtain ⟨j,rfl⟩:∃ n,j=n+1:=⟨j-1,by omega⟩
   simp only [List.length_cons] at hj
   simp only [List.getD_cons_succ]
   rw [h2] at hj ⊢
   exact (mth_ok hm (k:=j2) (by omega)).p _ (getD_mem _ (by omega))
end
section
variable {w:World}{K:Nat}{h:Hd}{m:Md}{L S O:Value}(H:Pk w K h m L S O)(HM:ModAt w h m)(hm:modV m=true){k:Nat}(hk:k<m.me.length)
include w K h m L S O H HM hm k hk
theorem c6_25 {ia:Nat} {ib:Int} (hi:OpdOk m k ⟨25,(ia:Int),ib⟩) {ls l:List Ty} {la:Option Addr} {lcap:Nat} (hr:RowAt w la lcap l) (hl:l.length=(argsV m ⟨25,(ia:Int),ib⟩).length) (hty:∀ t∈l,tyOk m t):
  Calls Tryz.prog 255 #[.pointer (some ⟨K,0,none⟩),.agg #[.int .i64 25,.int .i64 ia,.int .i64 ib],.slice la l.length lcap] w (RetP w (pushV m ls ⟨25,(ia:Int),ib⟩ l)):=by
 have hop:(⟨25,(ia:Int),ib⟩:In3).op=25∨(⟨25,(ia:Int),ib⟩:In3).op=26:=by simp
 obtain ⟨W1,hW1⟩:∃ W1,W1=(w.alloc (.cells #[.int .i64 25,.int .i64 ia,.int .i64 ib] 42)).alloc (.cells #[.int .i64 0,.int .i64 0] 35):=⟨_,rfl⟩
 have hb1:Below w.heap.size w W1:=by rw [hW1];exact bE
 have hbi:Blk W1 w.heap.size #[.int .i64 25,.int .i64 ia,.int .i64 ib] 42:=by rw [hW1];exact (Blk.new w _ _).alloc _
 have hbr:Blk W1 (w.heap.size+1) #[.int .i64 0,.int .i64 0] 35:=by rw [hW1];exact Blk.new' (w:=w.alloc (.cells #[.int .i64 25,.int .i64 ia,.int .i64 ib] 42)) _ _ (by simp)
 have HBw:=Lib.hid hb1
 have HBi:=Lib.hid hbi
 have HBr:=Lib.hid hbr
 have HW1:=Lib.hid hW1
 have HA:=Lib.hid (show ∀ w',Below w.heap.size w w'→_ from fun w' hb=>ra_any (H.old hb) (HM.old hb) hm hk hi hop)
 have HR:=Lib.hid (show ∀ w',Below w.heap.size w w'→_ from fun w' hb=>rr_any (H.old hb) (HM.old hb) hm hk hi hop)
 have HF:=Lib.hid (show ∀ j,0≤j→j<(argsV m ⟨25,(ia:Int),ib⟩).length→∀ w',Below w.heap.size w w'→Calls Tryz.prog 239 #[.agg #[.slice h.co m.cl.length h.cc,.slice h.so m.st.length h.sc,.slice h.eo m.me.length h.ec,.int .i64 m.sel],.agg #[.int .i64 (l.getD j default).k,.int .i64 (l.getD j default).c],.agg #[.int .i64 ((argsV m ⟨25,(ia:Int),ib⟩).getD j default).k,.int .i64 ((argsV m ⟨25,(ia:Int),ib⟩).getD j default).c]] w' (Ret w' (.bool (fitsV m (l.getD j default) ((argsV m ⟨25,(ia:Int),ib⟩).getD j default)))) from fun j h1 h2 w' hb=>r6Fits_any m h _ _ w' (HM.old hb) (fun q=>ty_cls (hty _ (getD_mem _ (by omega))) (.inl q)) (fun q=>(ty_cls (argsV_ty hm hk hi hop h2 (fun q5=>by first|omega|exact absurd q5 (by simp))) (.inl q)).1) (desc_of (modV_clsN hm)))
 obtain ⟨F,hF⟩:∃ F:Nat→Bool,F=fun j=>fitsV m (l.getD j default) ((argsV m ⟨25,(ia:Int),ib⟩).getD j default):=⟨_,rfl⟩
 have hFj:∀ j,fitsV m (l.getD j default) ((argsV m ⟨25,(ia:Int),ib⟩).getD j default)=F j:=fun j=>by rw [hF]
 simp only [hFj] at HF
 obtain ⟨n,hn⟩:∃ n,n=(argsV m ⟨25,(ia:Int),ib⟩).length:=⟨_,rfl⟩
 have hn9:=argsV_len hm hk hi hop
 have hpv:pushV m ls ⟨25,(ia:Int),ib⟩ l=if (List.range n).all F=true then some (resV m ⟨25,(ia:Int),ib⟩) else none:=by
  have e1:argsV m ⟨25,(ia:Int),ib⟩=(m.me.getD ia default).p:=by unfold argsV;rw [if_pos rfl,Int.toNat_natCast]
  have e2:resV m ⟨25,(ia:Int),ib⟩=(m.me.getD ia default).r:=by unfold resV calleeV;rw [if_pos rfl];dsimp only;rw [Int.toNat_natCast]
  rw [pv25 rfl,e2,hF,hn,e1,Int.toNat_natCast]
 obtain ⟨pq,hpq⟩:∃ q,q=pushV m ls ⟨25,(ia:Int),ib⟩ l:=⟨_,rfl⟩
 rw [←hpq]
 rw [←hpq] at hpv
 have HPv:=Lib.hid hpv
 have HHM:=Lib.hid HM
 have HPk:=Lib.hid H
 generalize resV m ⟨25,(ia:Int),ib⟩=rs at HR HPv
 have HLl:=Lib.hid hl
 have HRl:=Lib.hid hr
 obtain ⟨n2,hn2⟩:∃ n,n=l.length:=⟨_,rfl⟩
 rw [←hn2]
 have HN:=Lib.hid hn
 have HN2:=Lib.hid hn2
 generalize argsV m ⟨25,(ia:Int),ib⟩=ags at HA HF HN HLl hn9 hn hn2
 have hn5:n≤1000000:=by omega
 obtain ⟨rk,rc⟩:=rs
 have HCl:=Lib.hid (show ∀ w',Below W1.heap.size W1 w'→_ from fun w' hb=>And.intro (hbi.old hb) (And.intro (hbr.old hb) (H.old (bthen hb1 hb))))
 clear hpv hpq hF hFj hi hm hty hl hr hW1 H HM hn9 hop hbi hbr hn hn2 hb1 hk
 go_enter Tryz.func255,Tryz.ntmps255
 go_upto_region 1 with fail
 rw [←HW1.out]
 have i0:=HBi.out.cell 0 (v:=.int .i64 25) rfl
 have i1:=HBi.out.cell 1 (v:=.int .i64 ia) rfl
 have i2:=HBi.out.cell 2 (v:=.int .i64 ib) rfl
 go_upto_region 2 with (go_at_call 252;refine (HA.out _ HBw.out).mono ?_;rintro r w2 ⟨⟨ao,cap,rfl,hrow⟩,hb2⟩;rw [←HN.out];have HRo:=Lib.hid hrow;have HB2:=Lib.hid hb2;clear hrow hb2 i0 i1 i2;have i0:=(HBi.out.old HB2.out).cell 0 (v:=.int .i64 25) rfl)
 go_wp2
 go_loopw [12] (fun i wr=>∃ k:Nat,0≤k∧k≤n∧i=.int .i64 k∧Below W1.heap.size W1 wr∧Below w2.heap.size w2 wr∧Hid (∀ j,0≤j→j<k→F j=true)) (fun i _=>n-(intOf i).toNat)
 case atStart=>exact ⟨0,by omega,by omega,rfl,HB2.out,Below.refl _ _,Lib.hid (fun j h1 h2=>absurd h1 (by omega))⟩
 case round=>
  obtain ⟨k,hk0,hkn,rfl,hbel,hbel2,hall⟩:=hrel
  have HL:=Lib.hid hbel
  have HL2:=Lib.hid (show Below w2.heap.size w2 wr from bthen (Below.refl w2.heap.size w2) hbel2)
  have HLw:=Lib.hid hbel2
  clear hbel hbel2
  have i0:=(HBi.out.old HL.out).cell 0 (v:=.int .i64 25) rfl
  have i1:=(HBi.out.old HL.out).cell 1 (v:=.int .i64 ia) rfl
  have i2:=(HBi.out.old HL.out).cell 2 (v:=.int .i64 ib) rfl
  by_cases hkl:k<n
  ·obtain ⟨xd,hxd,x0,x1⟩:=row_ty (HRl.out.old (bthen HBw.out HL.out)) (i:=k) (by rw [HLl.out,←HN.out];exact hkl)
   obtain ⟨yd,hyd,y0,y1⟩:=row_ty (HRo.out.old HL2.out) (i:=k) (by rw [←HN.out];exact hkl)
   have HFk:=Lib.hid (HF.out k hk0 (by rw [←HN.out];exact hkl))
   generalize l.getD k default=x at x0 x1 HFk
   generalize ags.getD k default=y at y0 y1 HFk
   obtain ⟨xk,xc⟩:=x
   obtain ⟨yk,yc⟩:=y
   dsimp only at x0 x1 y0 y1 HFk
   subst hxd
   subst hyd
   have hkn2:(k:Int) < n:=by omega
   have hkn3:(k:Int) < n2:=by have:=HN.out;have:=HN2.out;have:=HLl.out;omega
   have hwr:IntKind.i64.wrap ((k:Int)+1)=k+1:=IntWalk.i64_in _ (by omega)
   obtain ⟨xa,hxa⟩:∃ a,a=xd.add (k*2):=⟨_,rfl⟩
   obtain ⟨ya,hya⟩:∃ a,a=yd.add (k*2):=⟨_,rfl⟩
   rw [←hxa] at x0 x1
   rw [←hya] at y0 y1
   have hS2:∀ w',Below wr.heap.size wr w'→(fun w':World=>w'.cell? ⟨K,0,none⟩=some (.slice h.co m.cl.length h.cc)∧w'.cell? ⟨K,1,none⟩=some (.slice h.so m.st.length h.sc)∧w'.cell? ⟨K,2,none⟩=some (.slice h.eo m.me.length h.ec)∧w'.cell? ⟨K,3,none⟩=some (.int .i64 m.sel)∧w'.cell? xa=some (.int .i64 xk)∧w'.cell? ⟨xa.block,xa.off+1,none⟩=some (.int .i64 xc)∧w'.cell? ya=some (.int .i64 yk)∧w'.cell? ⟨ya.block,ya.off+1,none⟩=some (.int .i64 yc)) w':=fun w' hb=>⟨(HCl.out w' (bthen HL.out hb)).2.2.cells.2.1,(HCl.out w' (bthen HL.out hb)).2.2.cells.2.2.1,(HCl.out w' (bthen HL.out hb)).2.2.cells.2.2.2.1,(HCl.out w' (bthen HL.out hb)).2.2.cells.2.2.2.2.1,cell_bel hb x0,cell_bel hb x1,cell_bel hb y0,cell_bel hb y1⟩
   have HS2:=Lib.hid hS2
   have HXa:=Lib.hid hxa
   have HYa:=Lib.hid hya
   clear hS2 x0 x1 y0 y1 hxa hya i0 i1 i2
   go_upto_region 13 with fail
   refine rO (fun w':World=>w'.cell? ⟨K,0,none⟩=some (.slice h.co m.cl.length h.cc)∧w'.cell? ⟨K,1,none⟩=some (.slice h.so m.st.length h.sc)∧w'.cell? ⟨K,2,none⟩=some (.slice h.eo m.me.length h.ec)∧w'.cell? ⟨K,3,none⟩=some (.int .i64 m.sel)∧w'.cell? xa=some (.int .i64 xk)∧w'.cell? ⟨xa.block,xa.off+1,none⟩=some (.int .i64 xc)∧w'.cell? ya=some (.int .i64 yk)∧w'.cell? ⟨ya.block,ya.off+1,none⟩=some (.int .i64 yc)) (oL [0,1,2,3,4,5,6,7,8,9,10,11,112,13]) (HS2.out _ (Below.drew (Below.refl _ _))) ?_
   iterate 7 (refine pO ?_)
   rw [←HXa.out]
   iterate 4 (refine pO ?_)
   rw [←HYa.out]
   repeat refine pO ?_
   refine oO fun Kv hK=>?_
   go_simp
   refine (HFk.out _ (bthen HBw.out (Below.drew HL.out))).mono ?_
   rintro r w4 ⟨rfl,hb4⟩
   have HB4:=Lib.hid (show Below W1.heap.size W1 w4 from bthen HL.out (bthen (Below.drew (Below.refl _ _)) hb4))
   have HB5:=Lib.hid (show Below w2.heap.size w2 w4 from bthen HL2.out (bthen (Below.drew (Below.refl _ _)) hb4))
   have HB6:=Lib.hid (show Below wr.heap.size wr w4 from bthen (Below.drew (Below.refl _ _)) hb4)
   refine hK _ _ ⟨HS2.out _ HB6.out,?_⟩
   clear hK Kv hb4
   repeat refine pO ?_
   refine wpMixO_done ?_
   cases hfk:F k
   ·have HFf:=Lib.hid hfk
    clear hfk
    have y0:=(HBr.out.old HB4.out).cell 0 (v:=.int .i64 0) rfl
    have y1:=(HBr.out.old HB4.out).cell 1 (v:=.int .i64 0) rfl
    have g0:=(HBr.out.old HB4.out).frozen 0
    have g1:=(HBr.out.old HB4.out).frozen 1
    have hrl:=(HBr.out.old HB4.out).lt
    go_wp2
    refine bodyPost_ret (v:=.tuple #[.agg #[.int .i64 0,.int .i64 0],.bool false]) (by simp [results,Tryz.results255,go_sem,y0,y1]) rfl ?_
    have hpn:pq=none:=by rw [HPv.out,all_range_no (k:=k) hkl HFf.out];rfl
    exact retP (by rw [hpn];rfl) (fun u hu=>by rw [hpn] at hu;cases hu) (bsetV (bsetV (bthen HBw.out HB4.out) (Nat.le_succ _) _) (Nat.le_succ _) _)
   ·exact k45
  ·have hkn2:¬ (k:Int) < n:=by omega
   go_wp2_with (go_at_call 251;refine (HR.out _ (bthen HBw.out HL.out)).mono ?_;rintro r w5 ⟨rfl,hb5⟩;have HB5:=Lib.hid (bthen HL.out hb5);have y0:=(HBr.out.old HB5.out).cell 0 (v:=.int .i64 0) rfl;have y1:=(HBr.out.old HB5.out).cell 1 (v:=.int .i64 0) rfl;have g0:=(HBr.out.old HB5.out).frozen 0;have g1:=(HBr.out.old HB5.out).frozen 1;have hrl:=(HBr.out.old HB5.out).lt)
   refine bodyPost_ret (v:=.tuple #[.agg #[.int .i64 rk,.int .i64 rc],.bool true]) (by simp [results,Tryz.results255,go_sem,y0,y1]) rfl ?_
   have hps:pq=some ⟨rk,rc⟩:=by rw [HPv.out,all_range_ok (fun j hj=>hall.out j (by omega) (by omega))];rfl
   exact retP (by rw [hps];rfl) (fun u hu=>by rw [hps] at hu;exact Option.some.inj hu) (bsetV (bsetV (bthen HBw.out HB5.out) (Nat.le_succ _) _) (Nat.le_succ _) _)
theorem c6_26 {ia:Nat} {ib:Int} (hi:OpdOk m k ⟨26,(ia:Int),ib⟩) {ls l:List Ty} {la:Option Addr} {lcap:Nat} (hr:RowAt w la lcap l) (hl:l.length=(argsV m ⟨26,(ia:Int),ib⟩).length) (hty:∀ t∈l,tyOk m t) {a:Ty} {l':List Ty} (hl':l=a :: l') (has:argsV m ⟨26,(ia:Int),ib⟩≠[]):
  Calls Tryz.prog 255 #[.pointer (some ⟨K,0,none⟩),.agg #[.int .i64 26,.int .i64 ia,.int .i64 ib],.slice la l.length lcap] w (RetP w (pushV m ls ⟨26,(ia:Int),ib⟩ l)):=by
 have hop:(⟨26,(ia:Int),ib⟩:In3).op=25∨(⟨26,(ia:Int),ib⟩:In3).op=26:=by simp
 obtain ⟨W1,hW1⟩:∃ W1,W1=(w.alloc (.cells #[.int .i64 26,.int .i64 ia,.int .i64 ib] 42)).alloc (.cells #[.int .i64 0,.int .i64 0] 35):=⟨_,rfl⟩
 have hb1:Below w.heap.size w W1:=by rw [hW1];exact bE
 have hbi:Blk W1 w.heap.size #[.int .i64 26,.int .i64 ia,.int .i64 ib] 42:=by rw [hW1];exact (Blk.new w _ _).alloc _
 have hbr:Blk W1 (w.heap.size+1) #[.int .i64 0,.int .i64 0] 35:=by rw [hW1];exact Blk.new' (w:=w.alloc (.cells #[.int .i64 26,.int .i64 ia,.int .i64 ib] 42)) _ _ (by simp)
 have HBw:=Lib.hid hb1
 have HBi:=Lib.hid hbi
 have HBr:=Lib.hid hbr
 have HW1:=Lib.hid hW1
 have HA:=Lib.hid (show ∀ w',Below w.heap.size w w'→_ from fun w' hb=>ra_any (H.old hb) (HM.old hb) hm hk hi hop)
 have HR:=Lib.hid (show ∀ w',Below w.heap.size w w'→_ from fun w' hb=>rr_any (H.old hb) (HM.old hb) hm hk hi hop)
 have hac:=ty_cls (hty a (by rw [hl'];simp))
 have h26:=hi.o26 rfl
 have HD:=Lib.hid (show a.k=2→∀ w',Below w.heap.size w w'→Calls Tryz.prog 258 #[.agg #[.slice h.co m.cl.length h.cc,.slice h.so m.st.length h.sc,.slice h.eo m.me.length h.ec,.int .i64 m.sel],.int .i64 a.c,.int .i64 ia] w' (Ret2 w' (.int .i64 (if m.ent a.c ia<0 then 0 else m.ent a.c ia)) (.int .i64 (if m.ent a.c ia<0 then 3 else 0))) from fun q w' hb=>by
  obtain ⟨c0,c1⟩:=hac (.inl q)
  have:=rDispatch_yes m h a.c.toNat ia w' (HM.old hb) hm (by omega) h26.1
  rwa [show ((a.c.toNat:Nat):Int)=a.c by omega] at this)
 have HF:=Lib.hid (show ∀ j,1≤j→j<(argsV m ⟨26,(ia:Int),ib⟩).length→∀ w',Below w.heap.size w w'→Calls Tryz.prog 239 #[.agg #[.slice h.co m.cl.length h.cc,.slice h.so m.st.length h.sc,.slice h.eo m.me.length h.ec,.int .i64 m.sel],.agg #[.int .i64 (l.getD j default).k,.int .i64 (l.getD j default).c],.agg #[.int .i64 ((argsV m ⟨26,(ia:Int),ib⟩).getD j default).k,.int .i64 ((argsV m ⟨26,(ia:Int),ib⟩).getD j default).c]] w' (Ret w' (.bool (fitsV m (l.getD j default) ((argsV m ⟨26,(ia:Int),ib⟩).getD j default)))) from fun j h1 h2 w' hb=>r6Fits_any m h _ _ w' (HM.old hb) (fun q=>ty_cls (hty _ (getD_mem _ (by omega))) (.inl q)) (fun q=>(ty_cls (argsV_ty hm hk hi hop h2 (fun q5=>by first|omega|exact absurd q5 (by simp))) (.inl q)).1) (desc_of (modV_clsN hm)))
 obtain ⟨F,hF⟩:∃ F:Nat→Bool,F=fun j=>fitsV m (l.getD j default) ((argsV m ⟨26,(ia:Int),ib⟩).getD j default):=⟨_,rfl⟩
 have hFj:∀ j,fitsV m (l.getD j default) ((argsV m ⟨26,(ia:Int),ib⟩).getD j default)=F j:=fun j=>by rw [hF]
 simp only [hFj] at HF
 obtain ⟨n,hn⟩:∃ n,n=(argsV m ⟨26,(ia:Int),ib⟩).length:=⟨_,rfl⟩
 have hn9:=argsV_len hm hk hi hop
 have hpv:pushV m ls ⟨26,(ia:Int),ib⟩ l=if (decide (a.k=2)&&decide (0≤m.ent a.c ia)&&(List.range (n-1)).all fun j=>F (j+1))=true then some (resV m ⟨26,(ia:Int),ib⟩) else none:=by
  have hx:∃ x,calleeV m ⟨26,(ia:Int),ib⟩=some x∧argsV m ⟨26,(ia:Int),ib⟩=⟨2,-1⟩ :: x.p∧resV m ⟨26,(ia:Int),ib⟩=x.r:=by
   cases hx:calleeV m ⟨26,(ia:Int),ib⟩ with
   | none=>exact absurd (by unfold argsV;rw [if_neg (by simp),hx]) has
   | some x=>exact ⟨x,rfl,by unfold argsV;rw [if_neg (by simp),hx],by unfold resV;rw [hx]⟩
  obtain ⟨x,hx,hax,hrx⟩:=hx
  rw [pv26 rfl,hx]
  dsimp only
  rw [hrx,show n-1=x.p.length by rw [hn,hax];simp,Int.toNat_natCast]
  have e1:l.getD 0 default=a:=by rw [hl'];rfl
  have e2:(fun j=>F (j+1))=fun j=>fitsV m (l.getD (j+1) default) (x.p.getD j default):=by
   funext j
   rw [hF,hax]
   rfl
  rw [e1,e2]
 obtain ⟨pq,hpq⟩:∃ q,q=pushV m ls ⟨26,(ia:Int),ib⟩ l:=⟨_,rfl⟩
 rw [←hpq]
 rw [←hpq] at hpv
 have HPv:=Lib.hid hpv
 have HHM:=Lib.hid HM
 have HPk:=Lib.hid H
 generalize resV m ⟨26,(ia:Int),ib⟩=rs at HR HPv
 have HLl:=Lib.hid hl
 have HRl:=Lib.hid hr
 obtain ⟨n2,hn2⟩:∃ n,n=l.length:=⟨_,rfl⟩
 rw [←hn2]
 have HN:=Lib.hid hn
 have HN2:=Lib.hid hn2
 generalize argsV m ⟨26,(ia:Int),ib⟩=ags at HA HF HN HLl hn9 hn hn2
 have hn5:n≤1000000:=by omega
 obtain ⟨rk,rc⟩:=rs
 obtain ⟨ad,hla,a0,a1⟩:=row_ty hr (i:=0) (by rw [hl'];simp)
 rw [show l.getD 0 default=a by rw [hl'];rfl,show ad.add (0*2)=ad by simp [Addr.add]] at a0 a1
 subst hla
 have hn1:1≤n:=by rw [hn,←HLl.out,hl'];simp
 have hn20:(n2:Int) > 0:=by have:=HLl.out;omega
 have hn21:0<n2:=by omega
 have hn22:(0:Int) < n2:=by omega
 have hz:((n:Int) == 0)=false:=by simp;omega
 obtain ⟨ak,ac⟩:=a
 dsimp only at a0 a1 HD HPv
 generalize m.ent ac ia=en at HD HPv
 have HCl:=Lib.hid (show ∀ w',Below W1.heap.size W1 w'→_ from fun w' hb=>And.intro (hbi.old hb) (And.intro (hbr.old hb) (H.old (bthen hb1 hb))))
 clear hpv hpq hF hFj hi hm hty hl hr hW1 H HM hn9 hop hbi hbr hn hn2 hb1 hk hac h26 has hl'
 go_enter Tryz.func255,Tryz.ntmps255
 go_upto_region 1 with fail
 rw [←HW1.out]
 have i0:=HBi.out.cell 0 (v:=.int .i64 26) rfl
 have i1:=HBi.out.cell 1 (v:=.int .i64 ia) rfl
 have i2:=HBi.out.cell 2 (v:=.int .i64 ib) rfl
 go_upto_region 2 with (go_at_call 252;refine (HA.out _ HBw.out).mono ?_;rintro r w2 ⟨⟨ao,cap,rfl,hrow⟩,hb2⟩;rw [←HN.out];have HRo:=Lib.hid hrow;have HB2:=Lib.hid hb2;clear hrow hb2 i0 i1 i2;have i0:=(HBi.out.old HB2.out).cell 0 (v:=.int .i64 26) rfl)
 by_cases h2:ak=2
 rotate_left
 ·have h3:(ak != 2)=true:=by simpa using h2
  have a0':=cell_bel (bthen HBw.out HB2.out) a0
  have y0:=(HBr.out.old HB2.out).cell 0 (v:=.int .i64 0) rfl
  have y1:=(HBr.out.old HB2.out).cell 1 (v:=.int .i64 0) rfl
  have g0:=(HBr.out.old HB2.out).frozen 0
  have g1:=(HBr.out.old HB2.out).frozen 1
  have hrl:=(HBr.out.old HB2.out).lt
  go_wp2
  refine bodyPost_ret (v:=.tuple #[.agg #[.int .i64 0,.int .i64 0],.bool false]) (by simp [results,Tryz.results255,go_sem,y0,y1]) rfl ?_
  have hpn:pq=none:=by rw [HPv.out,decide_eq_false h2];rfl
  exact retP (by rw [hpn];rfl) (fun u hu=>by rw [hpn] at hu;cases hu) (bsetV (bsetV (bthen HBw.out HB2.out) (Nat.le_succ _) _) (Nat.le_succ _) _)
 ·subst h2
  have a0':=cell_bel (bthen HBw.out HB2.out) a0
  go_upto_region 6 with fail
  clear a0'
  have hS:∀ w',Below W1.heap.size W1 w'→(fun w':World=>w'.cell? ⟨K,0,none⟩=some (.slice h.co m.cl.length h.cc)∧w'.cell? ⟨K,1,none⟩=some (.slice h.so m.st.length h.sc)∧w'.cell? ⟨K,2,none⟩=some (.slice h.eo m.me.length h.ec)∧w'.cell? ⟨K,3,none⟩=some (.int .i64 m.sel)∧w'.cell? ad=some (.int .i64 2)∧w'.cell? ⟨ad.block,ad.off+1,none⟩=some (.int .i64 ac)∧w'.cell? ⟨w.heap.size,0,none⟩=some (.int .i64 26)∧w'.cell? ⟨w.heap.size,1,none⟩=some (.int .i64 ia)) w':=fun w' hb=>⟨(HCl.out w' hb).2.2.cells.2.1,(HCl.out w' hb).2.2.cells.2.2.1,(HCl.out w' hb).2.2.cells.2.2.2.1,(HCl.out w' hb).2.2.cells.2.2.2.2.1,cell_bel (bthen HBw.out hb) a0,cell_bel (bthen HBw.out hb) a1,(HCl.out w' hb).1.cell 0 rfl,(HCl.out w' hb).1.cell 1 rfl⟩
  have HS:=Lib.hid hS
  clear hS i0 a0 a1
  refine rO (fun w':World=>w'.cell? ⟨K,0,none⟩=some (.slice h.co m.cl.length h.cc)∧w'.cell? ⟨K,1,none⟩=some (.slice h.so m.st.length h.sc)∧w'.cell? ⟨K,2,none⟩=some (.slice h.eo m.me.length h.ec)∧w'.cell? ⟨K,3,none⟩=some (.int .i64 m.sel)∧w'.cell? ad=some (.int .i64 2)∧w'.cell? ⟨ad.block,ad.off+1,none⟩=some (.int .i64 ac)∧w'.cell? ⟨w.heap.size,0,none⟩=some (.int .i64 26)∧w'.cell? ⟨w.heap.size,1,none⟩=some (.int .i64 ia)) (oL [0,1,2,3,4,5,6,7,8,9,110,11,12,13,14,15]) (HS.out _ (Below.drew HB2.out)) ?_
  repeat refine pO ?_
  refine oO fun Kv hK=>?_
  go_simp
  refine (HD.out rfl _ (bthen HBw.out (Below.drew HB2.out))).mono ?_
  rintro r w3 ⟨rfl,hb3⟩
  have HB3:=Lib.hid (show Below W1.heap.size W1 w3 from bthen HB2.out (bthen (Below.drew (Below.refl _ _)) hb3))
  have HB23:=Lib.hid (show Below w2.heap.size w2 w3 from bthen (Below.drew (Below.refl _ _)) hb3)
  refine hK _ _ ⟨HS.out _ HB3.out,?_⟩
  clear hK Kv hb3
  repeat refine pO ?_
  refine wpMixO_done ?_
  by_cases h5:en<0
  ·have e3:(if en<0 then (3:Int) else 0)=3:=if_pos h5
   have e4:(if en<0 then (0:Int) else en)=0:=if_pos h5
   rw [e3,e4]
   clear e3 e4
   have y0:=(HBr.out.old HB3.out).cell 0 (v:=.int .i64 0) rfl
   have y1:=(HBr.out.old HB3.out).cell 1 (v:=.int .i64 0) rfl
   have g0:=(HBr.out.old HB3.out).frozen 0
   have g1:=(HBr.out.old HB3.out).frozen 1
   have hrl:=(HBr.out.old HB3.out).lt
   go_wp2
   refine bodyPost_ret (v:=.tuple #[.agg #[.int .i64 0,.int .i64 0],.bool false]) (by simp [results,Tryz.results255,go_sem,y0,y1]) rfl ?_
   have hpn:pq=none:=by rw [HPv.out,decide_eq_false (show ¬ 0≤en by omega)];rfl
   exact retP (by rw [hpn];rfl) (fun u hu=>by rw [hpn] at hu;cases hu) (bsetV (bsetV (bthen HBw.out HB3.out) (Nat.le_succ _) _) (Nat.le_succ _) _)
  have e3:(if en<0 then (3:Int) else 0)=0:=if_neg h5
  have e4:(if en<0 then (0:Int) else en)=en:=if_neg h5
  rw [e3,e4]
  clear e3 e4
  have H6:=Lib.hid (show decide (0≤en)=true by simp;omega)
  clear h5
  go_wp2
  go_loopw [12] (fun i wr=>∃ k:Nat,1≤k∧k≤n∧i=.int .i64 k∧Below W1.heap.size W1 wr∧Below w3.heap.size w3 wr∧Hid (∀ j,1≤j→j<k→F j=true)) (fun i _=>n-(intOf i).toNat)
  case atStart=>exact ⟨1,by omega,by omega,rfl,HB3.out,Below.refl _ _,Lib.hid (fun j h1 h2=>absurd h1 (by omega))⟩
  case round=>
   obtain ⟨k,hk0,hkn,rfl,hbel,hbel2,hall⟩:=hrel
   have HL:=Lib.hid hbel
   have HL2:=Lib.hid (show Below w2.heap.size w2 wr from bthen HB23.out hbel2)
   have HLw:=Lib.hid hbel2
   clear hbel hbel2
   have i0:=(HBi.out.old HL.out).cell 0 (v:=.int .i64 26) rfl
   have i1:=(HBi.out.old HL.out).cell 1 (v:=.int .i64 ia) rfl
   have i2:=(HBi.out.old HL.out).cell 2 (v:=.int .i64 ib) rfl
   by_cases hkl:k<n
   ·obtain ⟨xd,hxd,x0,x1⟩:=row_ty (HRl.out.old (bthen HBw.out HL.out)) (i:=k) (by rw [HLl.out,←HN.out];exact hkl)
    obtain ⟨yd,hyd,y0,y1⟩:=row_ty (HRo.out.old HL2.out) (i:=k) (by rw [←HN.out];exact hkl)
    have HFk:=Lib.hid (HF.out k hk0 (by rw [←HN.out];exact hkl))
    generalize l.getD k default=x at x0 x1 HFk
    generalize ags.getD k default=y at y0 y1 HFk
    obtain ⟨xk,xc⟩:=x
    obtain ⟨yk,yc⟩:=y
    dsimp only at x0 x1 y0 y1 HFk
    cases hxd
    subst hyd
    have hkn2:(k:Int) < n:=by omega
    have hkn3:(k:Int) < n2:=by have:=HN.out;have:=HN2.out;have:=HLl.out;omega
    have hwr:IntKind.i64.wrap ((k:Int)+1)=k+1:=IntWalk.i64_in _ (by omega)
    obtain ⟨xa,hxa⟩:∃ a,a=ad.add (k*2):=⟨_,rfl⟩
    obtain ⟨ya,hya⟩:∃ a,a=yd.add (k*2):=⟨_,rfl⟩
    rw [←hxa] at x0 x1
    rw [←hya] at y0 y1
    have hS2:∀ w',Below wr.heap.size wr w'→(fun w':World=>w'.cell? ⟨K,0,none⟩=some (.slice h.co m.cl.length h.cc)∧w'.cell? ⟨K,1,none⟩=some (.slice h.so m.st.length h.sc)∧w'.cell? ⟨K,2,none⟩=some (.slice h.eo m.me.length h.ec)∧w'.cell? ⟨K,3,none⟩=some (.int .i64 m.sel)∧w'.cell? xa=some (.int .i64 xk)∧w'.cell? ⟨xa.block,xa.off+1,none⟩=some (.int .i64 xc)∧w'.cell? ya=some (.int .i64 yk)∧w'.cell? ⟨ya.block,ya.off+1,none⟩=some (.int .i64 yc)) w':=fun w' hb=>⟨(HCl.out w' (bthen HL.out hb)).2.2.cells.2.1,(HCl.out w' (bthen HL.out hb)).2.2.cells.2.2.1,(HCl.out w' (bthen HL.out hb)).2.2.cells.2.2.2.1,(HCl.out w' (bthen HL.out hb)).2.2.cells.2.2.2.2.1,cell_bel hb x0,cell_bel hb x1,cell_bel hb y0,cell_bel hb y1⟩
    have HS2:=Lib.hid hS2
    have HXa:=Lib.hid hxa
    have HYa:=Lib.hid hya
    clear hS2 x0 x1 y0 y1 hxa hya i0 i1 i2
    go_upto_region 13 with fail
    refine rO (fun w':World=>w'.cell? ⟨K,0,none⟩=some (.slice h.co m.cl.length h.cc)∧w'.cell? ⟨K,1,none⟩=some (.slice h.so m.st.length h.sc)∧w'.cell? ⟨K,2,none⟩=some (.slice h.eo m.me.length h.ec)∧w'.cell? ⟨K,3,none⟩=some (.int .i64 m.sel)∧w'.cell? xa=some (.int .i64 xk)∧w'.cell? ⟨xa.block,xa.off+1,none⟩=some (.int .i64 xc)∧w'.cell? ya=some (.int .i64 yk)∧w'.cell? ⟨ya.block,ya.off+1,none⟩=some (.int .i64 yc)) (oL [0,1,2,3,4,5,6,7,8,9,10,11,112,13]) (HS2.out _ (Below.drew (Below.refl _ _))) ?_
    iterate 7 (refine pO ?_)
    rw [←HXa.out]
    iterate 4 (refine pO ?_)
    rw [←HYa.out]
    repeat refine pO ?_
    refine oO fun Kv hK=>?_
    go_simp
    refine (HFk.out _ (bthen HBw.out (Below.drew HL.out))).mono ?_
    rintro r w4 ⟨rfl,hb4⟩
    have HB4:=Lib.hid (show Below W1.heap.size W1 w4 from bthen HL.out (bthen (Below.drew (Below.refl _ _)) hb4))
    have HB5:=Lib.hid (show Below w2.heap.size w2 w4 from bthen HL2.out (bthen (Below.drew (Below.refl _ _)) hb4))
    have HB6:=Lib.hid (show Below wr.heap.size wr w4 from bthen (Below.drew (Below.refl _ _)) hb4)
    refine hK _ _ ⟨HS2.out _ HB6.out,?_⟩
    clear hK Kv hb4
    repeat refine pO ?_
    refine wpMixO_done ?_
    cases hfk:F k
    ·have HFf:=Lib.hid hfk
     clear hfk
     have y0:=(HBr.out.old HB4.out).cell 0 (v:=.int .i64 0) rfl
     have y1:=(HBr.out.old HB4.out).cell 1 (v:=.int .i64 0) rfl
     have g0:=(HBr.out.old HB4.out).frozen 0
     have g1:=(HBr.out.old HB4.out).frozen 1
     have hrl:=(HBr.out.old HB4.out).lt
     go_wp2
     refine bodyPost_ret (v:=.tuple #[.agg #[.int .i64 0,.int .i64 0],.bool false]) (by simp [results,Tryz.results255,go_sem,y0,y1]) rfl ?_
     have hpn:pq=none:=by rw [HPv.out,H6.out,all_range_no (k:=k-1) (by omega) (by rw [show k-1+1=k by omega];exact HFf.out)];rfl
     exact retP (by rw [hpn];rfl) (fun u hu=>by rw [hpn] at hu;cases hu) (bsetV (bsetV (bthen HBw.out HB4.out) (Nat.le_succ _) _) (Nat.le_succ _) _)
    ·exact k45
   ·have hkn2:¬ (k:Int) < n:=by omega
    go_wp2_with (go_at_call 251;refine (HR.out _ (bthen HBw.out HL.out)).mono ?_;rintro r w5 ⟨rfl,hb5⟩;have HB5:=Lib.hid (bthen HL.out hb5);have y0:=(HBr.out.old HB5.out).cell 0 (v:=.int .i64 0) rfl;have y1:=(HBr.out.old HB5.out).cell 1 (v:=.int .i64 0) rfl;have g0:=(HBr.out.old HB5.out).frozen 0;have g1:=(HBr.out.old HB5.out).frozen 1;have hrl:=(HBr.out.old HB5.out).lt)
    refine bodyPost_ret (v:=.tuple #[.agg #[.int .i64 rk,.int .i64 rc],.bool true]) (by simp [results,Tryz.results255,go_sem,y0,y1]) rfl ?_
    have hps:pq=some ⟨rk,rc⟩:=by rw [HPv.out,H6.out,all_range_ok (fun j hj=>hall.out (j+1) (by omega) (by omega))];rfl
    exact retP (by rw [hps];rfl) (fun u hu=>by rw [hps] at hu;exact Option.some.inj hu) (bsetV (bsetV (bthen HBw.out HB5.out) (Nat.le_succ _) _) (Nat.le_succ _) _)
theorem c6_26n {ia:Nat} {ib:Int} (hi:OpdOk m k ⟨26,(ia:Int),ib⟩) {ls l:List Ty} {la:Option Addr} {lcap:Nat} (hr:RowAt w la lcap l) (hl:l.length=(argsV m ⟨26,(ia:Int),ib⟩).length) (has:argsV m ⟨26,(ia:Int),ib⟩=[]):
  Calls Tryz.prog 255 #[.pointer (some ⟨K,0,none⟩),.agg #[.int .i64 26,.int .i64 ia,.int .i64 ib],.slice la l.length lcap] w (RetP w (pushV m ls ⟨26,(ia:Int),ib⟩ l)):=by
 have HA:=Lib.hid (show ∀ w',Below w.heap.size w w'→_ from fun w' hb=>ra_any (H.old hb) (HM.old hb) hm hk hi (by simp))
 rw [has] at HA hl
 have hpn:pushV m ls ⟨26,(ia:Int),ib⟩ l=none:=by
  rw [pv26 rfl]
  cases hx:calleeV m ⟨26,(ia:Int),ib⟩ with
  | none=>rfl
  | some x=>unfold argsV at has;rw [if_neg (by simp),hx] at has;cases has
 obtain ⟨pq,hpq⟩:∃ q,q=pushV m ls ⟨26,(ia:Int),ib⟩ l:=⟨_,rfl⟩
 rw [←hpq] at hpn ⊢
 have HP:=Lib.hid hpn
 have hbr:Blk ((w.alloc (.cells #[.int .i64 26,.int .i64 ia,.int .i64 ib] 42)).alloc (.cells #[.int .i64 0,.int .i64 0] 35)) (w.heap.size+1) #[.int .i64 0,.int .i64 0] 35:=Blk.new' (w:=w.alloc (.cells #[.int .i64 26,.int .i64 ia,.int .i64 ib] 42)) _ _ (by simp)
 have hbi:Blk ((w.alloc (.cells #[.int .i64 26,.int .i64 ia,.int .i64 ib] 42)).alloc (.cells #[.int .i64 0,.int .i64 0] 35)) w.heap.size #[.int .i64 26,.int .i64 ia,.int .i64 ib] 42:=(Blk.new w _ _).alloc _
 have HBr:=Lib.hid hbr
 have HBi:=Lib.hid hbi
 have HB0:=Lib.hid (show Below w.heap.size w ((w.alloc (.cells #[.int .i64 26,.int .i64 ia,.int .i64 ib] 42)).alloc (.cells #[.int .i64 0,.int .i64 0] 35)) by exact bE)
 clear hpn hpq H HM hm hk hi hr has hbr hbi
 go_enter Tryz.func255,Tryz.ntmps255
 go_wp2_with (go_at_call 252;refine (HA.out _ HB0.out).mono ?_;rintro r w2 ⟨⟨ao,cap,rfl,hrow⟩,hb2⟩;have HB2:=Lib.hid hb2;clear hrow hb2;have i0:=(HBi.out.old HB2.out).cell 0 (v:=.int .i64 26) rfl;have y0:=(HBr.out.old HB2.out).cell 0 (v:=.int .i64 0) rfl;have y1:=(HBr.out.old HB2.out).cell 1 (v:=.int .i64 0) rfl;have g0:=(HBr.out.old HB2.out).frozen 0;have g1:=(HBr.out.old HB2.out).frozen 1;have hrl:=(HBr.out.old HB2.out).lt)
 refine bodyPost_ret (v:=.tuple #[.agg #[.int .i64 0,.int .i64 0],.bool false]) (by simp [results,Tryz.results255,go_sem,y0,y1]) rfl ?_
 exact retP (by rw [HP.out];rfl) (fun u hu=>by rw [HP.out] at hu;cases hu) (bsetV (bsetV (bthen HB0.out HB2.out) (Nat.le_succ _) _) (Nat.le_succ _) _)
theorem called6_any {i:In3} (hi:OpdOk m k i) (hop:i.op=25∨i.op=26) {ls l:List Ty} {la:Option Addr} {lcap:Nat} (hr:RowAt w la lcap l) (hl:l.length=(cntV m i).1) (hty:∀ t∈l,tyOk m t):
  Calls Tryz.prog 255 #[.pointer (some ⟨K,0,none⟩),.agg #[.int .i64 i.op,.int .i64 i.a,.int .i64 i.b],.slice la l.length lcap] w (RetP w (pushV m ls i l)):=by
 rw [cnt_args hop] at hl
 dsimp only at hl
 have h0:=hi.a0 (by omega)
 obtain ⟨op,ia,ib⟩:=i
 dsimp only at h0 hop ⊢
 obtain ⟨ia,rfl⟩:∃ d:Nat,ia=d:=⟨ia.toNat,by omega⟩
 rcases hop with rfl|rfl
 ·exact c6_25 H HM hm hk hi hr hl hty
 ·by_cases has:argsV m ⟨26,ia,ib⟩=[]
  ·exact c6_26n H HM hm hk hi hr hl has
  ·cases l with
   | nil=>exact absurd (List.eq_nil_of_length_eq_zero hl.symm) has
   | cons a l'=>exact c6_26 H HM hm hk hi hr hl hty rfl has
end
end
end Go.Proofs.YtfkbfjhocmbneaaGreat
