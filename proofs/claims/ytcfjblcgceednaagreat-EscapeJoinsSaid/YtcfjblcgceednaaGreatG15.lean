/- Joined texts. The first: The reference's Check of a module. -/
import Derived.Test.YtcfjblcgceednaaGreatG12
import Derived.Test.YtcfjblcgceednaaGreatG11
set_option linter.all false
set_option linter.unusedVariables false
set_option linter.unusedSimpArgs false
set_option maxRecDepth 100000
set_option maxHeartbeats 20000000
namespace Go.Proofs.YtcfjblcgceednaaGreat
section
open Go.RowKit
attribute [local go_sem] World.cell?_alloc_some
theorem Zje {m:Md}{k:Nat} (h:ZaX m k=true):-1≤m.own k∧m.own k<m.cl.length:=by
 simp only [ZaX,Bool.and_eq_true,decide_eq_true_eq] at h
 unfold Md.own
 rw [Int.toNat_natCast]
 exact ⟨h.1.1.1.1.1.1.1.1,h.1.1.1.1.1.1.1.2⟩
def Zjf (m:Md) (l:List Int) (t:Int):Bool:=decide ((m.me.getD t.toNat default).r=(m.me.getD (l.getD 0 0).toNat default).r)&&decide ((m.me.getD t.toNat default).p=(m.me.getD (l.getD 0 0).toNat default).p)
theorem Zjg (m:Md) (s:Nat):ZaY m s=(ZaN m s).all (Zjf m (ZaN m s)):=rfl
theorem Zjh {m:Md}{l:List Int}{j:Nat} (hj:j<l.length) (h:Zjf m l (l.getD j 0)=false):l.all (Zjf m l)=false:=
 List.all_eq_false.2 ⟨l.getD j 0,by rw [List.getD_eq_getElem?_getD,List.getElem?_eq_getElem hj];exact List.getElem_mem hj,by rw [h];decide⟩
theorem Zji {m:Md}{l:List Int} (h:∀ j,0<j→j<l.length→Zjf m l (l.getD j 0)=true):l.all (Zjf m l)=true:=by
 rw [List.all_eq_true]
 intro t ht
 obtain ⟨j,hj,rfl⟩:=List.getElem_of_mem ht
 have e:l.getD j 0=l[j]:=by rw [List.getD_eq_getElem?_getD,List.getElem?_eq_getElem hj];rfl
 by_cases h0:0<j
 ·rw [←e];exact h j h0 hj
 ·obtain rfl:j=0:=by omega
  rw [←e];simp [Zjf]
theorem Zjj (m:Md) (h:Hd) (w:World) (H:Zay w h m):Calls Tryz.prog 60 #[.agg #[.slice h.co m.cl.length h.cc,.slice h.so m.st.length h.sc,.slice h.eo m.me.length h.ec,.int .i64 m.sel]] w (Ret w (.int .i64 (if Za1 m then 0 else 1))):=by
 have hX:=Blk.new w #[.slice h.co m.cl.length h.cc,.slice h.so m.st.length h.sc,.slice h.eo m.me.length h.ec,.int .i64 m.sel] 26
 have hb0:Below w.heap.size w (w.alloc (.cells #[.slice h.co m.cl.length h.cc,.slice h.so m.st.length h.sc,.slice h.eo m.me.length h.ec,.int .i64 m.sel] 26)):=by exact bE
 have HX:=Zh hX
 have HM:=Zh (H.old hb0)
 have HB0:=Zh hb0
 have hbz:=H.bz
 have hq:Za1 m=(ZaZ m&&Za0 m&&(List.range m.cl.length).all (ZaK m)&&(List.range m.me.length).all (ZaX m)&&(List.range m.sel.toNat).all (ZaY m)):=rfl
 have hsz:ZaZ m=(decide (m.cl.length≤10)&&decide (m.me.length≤16)&&decide (0≤m.sel)&&decide (m.sel≤16)&&decide (m.st.length≤10)&&ZaG m.cl.length m.st):=rfl
 obtain ⟨qa,hqa⟩:∃ q,q=(if Za1 m then (0:Int) else 1):=⟨_,rfl⟩
 rw [←hqa]
 have HF:∀ w':World,Za1 m=false→Below w.heap.size w w'→Ret w (.int .i64 qa) (.returned (.int .i64 1)) w':=fun w' hf hb=>ZcT (ZcY (by rw [hqa,hf];rfl)) hb
 have HT:∀ w':World,Za1 m=true→Below w.heap.size w w'→Ret w (.int .i64 qa) (.returned (.int .i64 0)) w':=fun w' hf hb=>ZcT (ZcY (by rw [hqa,hf];rfl)) hb
 have HFa:=Zh HF
 have HTr:=Zh HT
 have HQ:=Zh hq
 have HSz:=Zh hsz
 clear hX H hb0 hqa hq hsz HF HT
 by_cases hsm:m.cl.length≤10∧m.st.length≤10∧m.me.length≤16∧0≤m.sel∧m.sel≤16
 · obtain ⟨h1,h5,h2,h3,h4⟩:=hsm
   have i1:¬ (m.cl.length:Int) > 10:=by omega
   have i5:¬ (m.st.length:Int) > 10:=by omega
   have i2:¬ (m.me.length:Int) > 16:=by omega
   have i3:¬ m.sel<0:=by omega
   have i4:¬ m.sel > 16:=by omega
   have hcl:=fun w' hb=>Zig m h w' (Zay.old HM.out hb) ⟨h1,h2,h3,h4⟩
   have hst:=fun w' hb=>ZeZ m h m.st h.so h.sc w' ((HM.out.st).old hb) (by omega)
   generalize hqc:(List.range m.cl.length).all (ZaK m)=qc at hcl
   generalize hqs:ZaG m.cl.length m.st=qs at hst
   have HCl:=Zh hcl
   have HSt:=Zh hst
   have HQc:=Zh hqc
   have HQs:=Zh hqs
   clear hcl hst hqc hqs
   have hzz:(w.alloc (.cells #[.slice h.co m.cl.length h.cc,.slice h.so m.st.length h.sc,.slice h.eo m.me.length h.ec,.int .i64 m.sel] 26)).heap.size=w.heap.size+1:=by simp
   go_enter Tryz.func60,Tryz.ntmps60
   go_upto_region 1 with fail
   generalize w.alloc _=w0 at HX HM HB0 HCl HSt hzz ⊢
   have rc:∀ w',Below w0.heap.size w0 w'→(w'.cell? ⟨w.heap.size,0,none⟩=some (.slice h.co m.cl.length h.cc)∧w'.cell? ⟨w.heap.size,1,none⟩=some (.slice h.so m.st.length h.sc)∧w'.cell? ⟨w.heap.size,2,none⟩=some (.slice h.eo m.me.length h.ec)∧w'.cell? ⟨w.heap.size,3,none⟩=some (.int .i64 m.sel))∧w.heap.size<w'.heap.size:=fun w' hb=>
     ⟨⟨(HX.out.old hb).cell 0 rfl,(HX.out.old hb).cell 1 rfl,(HX.out.old hb).cell 2 rfl,(HX.out.old hb).cell 3 rfl⟩,(HX.out.old hb).lt⟩
   have RC:=Zh rc
   obtain ⟨⟨r0,r1,r2,r3⟩,rl⟩:=rc w0 (Below.refl _ _)
   clear rc
   go_wp2_with fail
   refine (HCl.out _ (Below.refl _ _)).mono ?_
   rintro e1 w1 ⟨rfl,hb1⟩
   have HB1:=Zh hb1
   clear r0 r1 r2 r3 rl hb1
   obtain ⟨⟨r0,r1,r2,r3⟩,rl⟩:=RC.out w1 HB1.out
   rcases qc with _|_
   · go_wp2
     go_ret
     exact HFa.out _ (by rw [HQ.out,HQc.out];simp) (Zaf HB0.out HB1.out)
   have hclv:∀ j,j<m.cl.length→ZaK m j=true:=ZaE.1 HQc.out
   have HCv:=Zh hclv
   clear hclv
   go_wp2_with fail
   refine (HSt.out _ HB1.out).mono ?_
   rintro e2 w2 ⟨rfl,hb2⟩
   have HB2:=Zh (Zaf HB1.out hb2)
   clear r0 r1 r2 r3 rl hb2
   rcases qs with _|_
   · go_wp2
     go_ret
     exact HFa.out _ (by rw [HQ.out,HSz.out,HQs.out];simp) (Zaf HB0.out HB2.out)
   have hsok:ZaZ m=true:=by rw [HSz.out,HQs.out];simp [h1,h2,h3,h4,h5]
   have HSok:=Zh hsok
   clear hsok
   go_wp2_with fail
   go_loopw [3] (fun i wr=>∃ k:Nat,k≤m.me.length∧i=.int .i64 k∧Below w0.heap.size w0 wr∧Hid (∀ i,i<k→ZaX m i=true)) (fun i _=>m.me.length-(intOf i).toNat)
   case atStart=>exact ⟨0,by omega,rfl,HB2.out,Zh (by omega)⟩
   case round=>
     obtain ⟨k,hk,rfl,hbl,q1⟩:=hrel
     have HBl:=Zh hbl
     clear hbl
     obtain ⟨⟨r0,r1,r2,r3⟩,rl⟩:=RC.out wr HBl.out
     by_cases hkl:k<m.me.length
     · have hkl2:(k:Int) < m.me.length:=by omega
       have hwr:IntKind.i64.wrap ((k:Int)+1)=k+1:=IntWalk.i64_in _ (by omega)
       have hcall:=Zih m h k wr (HM.out.old HBl.out) hkl h1 (fun j hj=>Zg9 (HCv.out j hj)) (fun j hj=>(Zje (q1.out j hj)).1)
       generalize hqm:ZaX m k=q at hcall
       have HC:=Zh hcall
       have HQm:=Zh hqm
       clear hcall hqm
       go_wp2_with fail
       refine HC.out.mono ?_
       rintro e3 w3 ⟨rfl,hb3⟩
       have HB3:=Zh (Zaf HBl.out hb3)
       clear hb3
       rcases q with _|_
       · go_wp2
         go_ret
         exact HFa.out _ (by rw [HQ.out,ZaC hkl HQm.out];simp) (Zaf HB0.out HB3.out)
       · go_wp2
         go_roundw
         case rel=>
           refine ⟨k+1,by omega,by go_num,HB3.out,Zh fun i hi=>?_⟩
           by_cases hik:i<k
           · exact q1.out i hik
           · obtain rfl:i=k:=by omega
             exact HQm.out
         case measure=>simp [intOf];omega
     · obtain rfl:k=m.me.length:=by omega
       have HMv:=Zh q1.out
       clear q1
       obtain ⟨wo,rfl⟩:∃ wo:World,wo=wr:=⟨_,rfl⟩
       go_wp2_with fail
       go_loopw [4] (fun i wr=>∃ s:Nat,(s:Int)≤m.sel∧i=.int .i64 s∧Below w0.heap.size w0 wr∧Hid (∀ i,i<s→ZaY m i=true)) (fun i _=>m.sel.toNat-(intOf i).toNat)
       case atStart=>exact ⟨0,by omega,rfl,HBl.out,Zh (by omega)⟩
       case round=>
         obtain ⟨s,hs,rfl,hbl,q2⟩:=hrel
         have HBs:=Zh hbl
         clear hbl r0 r1 r2 r3 rl HBl
         obtain ⟨⟨r0,r1,r2,r3⟩,rl⟩:=RC.out wr HBs.out
         by_cases hss:(s:Int) < m.sel
         · have hwr:IntKind.i64.wrap ((s:Int)+1)=s+1:=IntWalk.i64_in _ (by omega)
           have hcall:=ZgA m h s wr (HM.out.old HBs.out) ⟨by omega,hss⟩ h1 (fun j hj=>Zg9 (HCv.out j hj))
           have htin:=Zhc HCv.out hss
           have hal:=Zjg m s
           have htl:=ZdG m s
           generalize ZaN m s=l at hcall htin hal htl
           have HC:=Zh hcall
           have HTi:=Zh htin
           have HAl:=Zh hal
           clear hcall htin hal
           have hno:∀ w',l.all (Zjf m l)=false→Below w0.heap.size w0 w'→Ret w (.int .i64 qa) (.returned (.int .i64 1)) w':=fun w' hf hb=>HFa.out _ (by rw [HQ.out,ZaC (show s<m.sel.toNat by omega) (by rw [HAl.out];exact hf)];simp) (Zaf HB0.out hb)
           have HNo:=Zh hno
           clear hno
           go_wp2_with fail
           refine HC.out.mono ?_
           rintro e3 w3 ⟨⟨ao,cap,rfl,hr⟩,hb3⟩
           have HR:=Zh hr
           have HB3:=Zh (Zaf HBs.out hb3)
           clear hr hb3 r0 r1 r2 r3 rl
           obtain ⟨wo,rfl⟩:∃ wo:World,wo=wr:=⟨_,rfl⟩
           go_wp2_with fail
           go_loopw [6] (fun i wr=>∃ j:Nat,1≤j∧j≤l.length+1∧i=.int .i64 j∧Hid (Below w3.heap.size w3 wr)∧Hid (∀ i,0<i→i<j→i<l.length→Zjf m l (l.getD i 0)=true)) (fun i _=>l.length+1-(intOf i).toNat)
           case atStart=>exact ⟨1,by omega,by omega,rfl,Zh (Below.refl _ _),Zh (by omega)⟩
           case round=>
             obtain ⟨j,hj1,hj2,rfl,HBj,q3⟩:=hrel
             have HBi:=Zh (Zaf HB3.out HBj.out)
             by_cases hjl:j<l.length
             · as_aux_lemma=>
               have hwj:IntKind.i64.wrap ((j:Int)+1)=j+1:=IntWalk.i64_in _ (by omega)
               have hjl2:(j:Int) < l.length:=by omega
               have hl0:(0:Int) < l.length:=by omega
               have hl1:0<l.length:=by omega
               obtain ⟨⟨r0,r1,r2,r3⟩,rl⟩:=RC.out wr HBi.out
               obtain ⟨al,rfl,t0⟩:=ZaB (HR.out.old HBj.out) (i:=0) hl1
               obtain ⟨al',hal',t1⟩:=ZaB (HR.out.old HBj.out) hjl
               obtain rfl:=Option.some.inj hal'
               rw [show al.add 0=al from by unfold Addr.add;simp] at t0
               have hu:=HTi.out (l.getD 0 0) (by rw [List.getD_eq_getElem?_getD,List.getElem?_eq_getElem hl1];exact List.getElem_mem hl1)
               have ht:=HTi.out (l.getD j 0) (by rw [List.getD_eq_getElem?_getD,List.getElem?_eq_getElem hjl];exact List.getElem_mem hjl)
               have hap:Zjf m l (l.getD j 0)=(decide ((m.me.getD (l.getD j 0).toNat default).r=(m.me.getD (l.getD 0 0).toNat default).r)&&decide ((m.me.getD (l.getD j 0).toNat default).p=(m.me.getD (l.getD 0 0).toNat default).p)):=rfl
               have hno:Zjf m l (l.getD j 0)=false→∀ w',Below w0.heap.size w0 w'→Ret w (.int .i64 qa) (.returned (.int .i64 1)) w':=fun hf w' hb=>HNo.out w' (Zjh hjl hf) hb
               have hrl:Zjf m l (l.getD j 0)=true→∀ i,0<i→i<j+1→i<l.length→Zjf m l (l.getD i 0)=true:=fun hp i h0 hi hil=>by
                 by_cases hij:i<j
                 · exact q3.out i h0 hij hil
                 · obtain rfl:i=j:=by omega
                   exact hp
               generalize hua:l.getD 0 0=u at t0 hu hap
               generalize hta:l.getD j 0=t at t1 ht hap hno hrl
               obtain ⟨u,rfl⟩:∃ x:Nat,u=x:=⟨u.toNat,by omega⟩
               obtain ⟨t,rfl⟩:∃ x:Nat,t=x:=⟨t.toNat,by omega⟩
               have hu1:u<m.me.length:=by omega
               have ht1:t<m.me.length:=by omega
               have hu2:(u:Int) < m.me.length:=by omega
               have ht2:(t:Int) < m.me.length:=by omega
               have hplu:=Zhb (HMv.out u hu1)
               have hmm:=HM.out.old HBi.out
               obtain ⟨am,heo,c0,c1,c2,c3,c4,c5,c6⟩:=hmm.mth ht1
               obtain ⟨am',heo',d0,d1,d2,d3,d4,d5,d6⟩:=hmm.mth hu1
               have hpt:=hmm.p t ht1
               have hpu:=hmm.p u hu1
               rw [Int.toNat_natCast,Int.toNat_natCast] at hap
               generalize hxt:m.me.getD t default=x at *
               generalize hxu:m.me.getD u default=y at *
               obtain ⟨nx,cx,px,lx,⟨kx,rx⟩,kx'⟩:=x
               obtain ⟨ny,cy,py,ly,⟨ky,ry⟩,ky'⟩:=y
               generalize h.e t=et at *
               generalize h.e u=eu at *
               obtain ⟨po,pc,lo,lc,ko,kc⟩:=et
               obtain ⟨po',pc',lo',lc',ko',kc'⟩:=eu
               rw [heo'] at heo
               obtain rfl:=Option.some.inj heo
               rw [heo'] at r2
               dsimp only at *
               have HEo:=Zh heo'
               have HPT:=Zh hpt
               have HPU:=Zh hpu
               have HAp:=Zh hap
               have HNj:=Zh hno
               have HRl:=Zh hrl
               clear hpt hpu hxt hxu heo heo' hap hno hrl hua hta hmm hal' hu ht
               go_upto_region 17 with fail
               go_cut [7,8] from 71 to 85 (fun x y wc=>∃ (X Y:Nat),x=.pointer (some ⟨X,0,none⟩)∧y=.pointer (some ⟨Y,0,none⟩)∧Blk wc X #[.string ny,.int .i64 cy,.slice po' py.length pc',.slice lo' ly.length lc',.int .i64 ky,.int .i64 ry,.slice ko' ky'.length kc'] 81∧Blk wc Y #[.string nx,.int .i64 cx,.slice po px.length pc,.slice lo lx.length lc,.int .i64 kx,.int .i64 rx,.slice ko kx'.length kc] 81∧Below wr.heap.size wr wc)
               case first=>
                 have hS:∀ w',Below wr.heap.size wr w'→(fun w':World=>w'.cell? ⟨w.heap.size,2,none⟩=some (.slice (some am') m.me.length h.ec)∧w'.cell? al=some (.int .i64 u)∧w'.cell? (al.add j)=some (.int .i64 t)∧w'.cell? (am'.add (t*7))=some (.string nx)∧w'.cell? ⟨(am'.add (t*7)).block,(am'.add (t*7)).off+1,none⟩=some (.int .i64 cx)∧w'.cell? ⟨(am'.add (t*7)).block,(am'.add (t*7)).off+2,none⟩=some (.slice po px.length pc)∧w'.cell? ⟨(am'.add (t*7)).block,(am'.add (t*7)).off+3,none⟩=some (.slice lo lx.length lc)∧w'.cell? ⟨(am'.add (t*7)).block,(am'.add (t*7)).off+4,none⟩=some (.int .i64 kx)∧w'.cell? ⟨(am'.add (t*7)).block,(am'.add (t*7)).off+5,none⟩=some (.int .i64 rx)∧w'.cell? ⟨(am'.add (t*7)).block,(am'.add (t*7)).off+6,none⟩=some (.slice ko kx'.length kc)∧w'.cell? (am'.add (u*7))=some (.string ny)∧w'.cell? ⟨(am'.add (u*7)).block,(am'.add (u*7)).off+1,none⟩=some (.int .i64 cy)∧w'.cell? ⟨(am'.add (u*7)).block,(am'.add (u*7)).off+2,none⟩=some (.slice po' py.length pc')∧w'.cell? ⟨(am'.add (u*7)).block,(am'.add (u*7)).off+3,none⟩=some (.slice lo' ly.length lc')∧w'.cell? ⟨(am'.add (u*7)).block,(am'.add (u*7)).off+4,none⟩=some (.int .i64 ky)∧w'.cell? ⟨(am'.add (u*7)).block,(am'.add (u*7)).off+5,none⟩=some (.int .i64 ry)∧w'.cell? ⟨(am'.add (u*7)).block,(am'.add (u*7)).off+6,none⟩=some (.slice ko' ky'.length kc')) w':=fun w' hb=>⟨ZeV hb r2,ZeV hb t0,ZeV hb t1,ZeV hb c0,ZeV hb c1,ZeV hb c2,ZeV hb c3,ZeV hb c4,ZeV hb c5,ZeV hb c6,ZeV hb d0,ZeV hb d1,ZeV hb d2,ZeV hb d3,ZeV hb d4,ZeV hb d5,ZeV hb d6⟩
                 have HS:=Zh hS
                 clear hS
                 refine rO (fun w':World=>w'.cell? ⟨w.heap.size,2,none⟩=some (.slice (some am') m.me.length h.ec)∧w'.cell? al=some (.int .i64 u)∧w'.cell? (al.add j)=some (.int .i64 t)∧w'.cell? (am'.add (t*7))=some (.string nx)∧w'.cell? ⟨(am'.add (t*7)).block,(am'.add (t*7)).off+1,none⟩=some (.int .i64 cx)∧w'.cell? ⟨(am'.add (t*7)).block,(am'.add (t*7)).off+2,none⟩=some (.slice po px.length pc)∧w'.cell? ⟨(am'.add (t*7)).block,(am'.add (t*7)).off+3,none⟩=some (.slice lo lx.length lc)∧w'.cell? ⟨(am'.add (t*7)).block,(am'.add (t*7)).off+4,none⟩=some (.int .i64 kx)∧w'.cell? ⟨(am'.add (t*7)).block,(am'.add (t*7)).off+5,none⟩=some (.int .i64 rx)∧w'.cell? ⟨(am'.add (t*7)).block,(am'.add (t*7)).off+6,none⟩=some (.slice ko kx'.length kc)∧w'.cell? (am'.add (u*7))=some (.string ny)∧w'.cell? ⟨(am'.add (u*7)).block,(am'.add (u*7)).off+1,none⟩=some (.int .i64 cy)∧w'.cell? ⟨(am'.add (u*7)).block,(am'.add (u*7)).off+2,none⟩=some (.slice po' py.length pc')∧w'.cell? ⟨(am'.add (u*7)).block,(am'.add (u*7)).off+3,none⟩=some (.slice lo' ly.length lc')∧w'.cell? ⟨(am'.add (u*7)).block,(am'.add (u*7)).off+4,none⟩=some (.int .i64 ky)∧w'.cell? ⟨(am'.add (u*7)).block,(am'.add (u*7)).off+5,none⟩=some (.int .i64 ry)∧w'.cell? ⟨(am'.add (u*7)).block,(am'.add (u*7)).off+6,none⟩=some (.slice ko' ky'.length kc')) (.plain 0 (.plain 1 (.plain 2 (.plain 3 (.plain 4 (.plain 5 (.plain 6 (.plain 7 (.plain 8 (.plain 9 (.plain 10 (.plain 11 (.plain 12 (.plain 13 (.plain 14 (.two 15 16 (oL [116,117,118]) (oL [115,117,118]))))))))))))))))) (HS.out wr.drew (Below.refl _ _).drew) ?_
                 clear r2 t0 t1 c0 c1 c2 c3 c4 c5 c6 d0 d1 d2 d3 d4 d5 d6
                 repeat refine pO ?_
                 refine Zd4 ?_ ?_
                 all_goals
                   refine Zd2 _ (by rfl) (by rfl) fun K hK=>?_
                   go_simp
                   refine hK _ _ ⟨HS.out _ bE,?_⟩
                   clear hK K
                   refine oO fun K hK=>?_
                   go_simp
                   refine hK _ _ ⟨HS.out _ bE,?_⟩
                   clear hK K
                   refine oO fun K hK=>?_
                   go_simp
                   refine hK _ _ ⟨HS.out _ bE,?_⟩
                   clear hK K
                   refine oO fun K hK=>?_
                   go_simp
                   refine hK _ _ ⟨HS.out _ bE,?_⟩
                   clear hK K
                   refine Zd5 ?_
                   go_wp2_with fail
                   go_meet
                   refine ⟨_,_,rfl,rfl,?_,?_,?_⟩
                   · repeat (first|(refine Blk.new' _ _ ?_;simp;done)|refine Blk.drew ?_|refine Blk.alloc ?_ _)
                   · repeat (first|(refine Blk.new' _ _ ?_;simp;done)|refine Blk.drew ?_|refine Blk.alloc ?_ _)
                   · exact bE
               case rest=>
                 obtain ⟨X,Y,rfl,rfl,hX,hY,hb⟩:=hcut
                 have hXc:=hX
                 have HE:=Zh (Ze2 py px po' po pc' pc wc (HPU.out.old hb) (HPT.out.old hb) (by omega))
                 have x2:wc.cell? ⟨X,2,none⟩=some (.slice po' py.length pc'):=hX.cell 2 rfl
                 have y2:wc.cell? ⟨Y,2,none⟩=some (.slice po px.length pc):=hY.cell 2 rfl
                 have xl:=hX.lt
                 have yl:=hY.lt
                 have HX5:=Zh hX
                 have HY5:=Zh hY
                 have HBc:=Zh (Zaf HBi.out hb)
                 have HBcj:=Zh (Zaf HBj.out hb)
                 clear hX hY hb c0 c1 c2 c3 c4 c5 c6 d0 d1 d2 d3 d4 d5 d6 t0 t1 r0 r1 r2 r3 rl hXc
                 go_wp2_with fail
                 refine HE.out.mono ?_
                 rintro e5 w5 ⟨rfl,hb5⟩
                 have x4:w5.cell? ⟨X,4,none⟩=some (.int .i64 ky):=(HX5.out.old hb5).cell 4 rfl
                 have x5:w5.cell? ⟨X,5,none⟩=some (.int .i64 ry):=(HX5.out.old hb5).cell 5 rfl
                 have y4:w5.cell? ⟨Y,4,none⟩=some (.int .i64 kx):=(HY5.out.old hb5).cell 4 rfl
                 have y5:w5.cell? ⟨Y,5,none⟩=some (.int .i64 rx):=(HY5.out.old hb5).cell 5 rfl
                 have xl:=(HX5.out.old hb5).lt
                 have yl:=(HY5.out.old hb5).lt
                 have HB5:=Zh (Zaf HBc.out hb5)
                 have HB5j:=Zh (Zaf HBcj.out hb5)
                 clear hb5 x2 y2
                 have hne:=ZdW
                 have hgu:=ZdX
                 by_cases hpp:py=px
                 · have hpd:decide (py=px)=true:=decide_eq_true hpp
                   have HPp:=Zh hpp
                   clear hpp
                   go_wp2
                   all_goals first
                     | (go_ret
                        refine HNj.out ?_ _ HB5.out
                        rw [HAp.out]
                        simp only [Ty.mk.injEq]
                        grind)
                     | (go_roundw
                        case rel=>
                          refine ⟨j+1,by omega,by omega,by go_num,Zh HB5j.out,Zh (HRl.out ?_)⟩
                          rw [HAp.out,HPp.out]
                          simp only [Ty.mk.injEq]
                          grind
                        case measure=>simp [intOf];omega)
                 · have hpd:decide (py=px)=false:=decide_eq_false hpp
                   have HPp:=Zh hpp
                   clear hpp
                   go_wp2
                   go_ret
                   refine HNj.out ?_ _ HB5.out
                   have h9:¬ px=py:=fun h=>HPp.out h.symm
                   rw [HAp.out]
                   simp [h9]
             · have hjl2:¬ (j:Int) < l.length:=by omega
               have hok:ZaY m s=true:=by rw [HAl.out];exact Zji fun i h0 hi=>q3.out i h0 (by omega) hi
               have hrel2:∀ i,i<s+1→ZaY m i=true:=fun i hi=>by
                 by_cases his:i<s
                 · exact q2.out i his
                 · obtain rfl:i=s:=by omega
                   exact hok
               have HRl:=Zh hrel2
               clear hok hrel2
               go_wp2
               go_roundw
               case rel=>exact ⟨s+1,by omega,by go_num,HBi.out,Zh HRl.out⟩
               case measure=>simp [intOf];omega
         · have hsel:m.sel.toNat=s:=by omega
           have hown:Za0 m=true:=ZaD fun i hi=>by
             have:=Zje (HMv.out i hi)
             simp only [Bool.and_eq_true,decide_eq_true_eq]
             exact this
           have hall:Za1 m=true:=by rw [HQ.out,HSok.out,hown,HQc.out,ZaD HMv.out,hsel,ZaD q2.out];rfl
           have HAll:=Zh hall
           clear hall hown hsel
           go_wp2
           go_ret
           exact HTr.out _ HAll.out (Zaf HB0.out HBs.out)
 · have hno:Za1 m=false:=by rw [HQ.out,HSz.out];grind
   have HNo:=Zh hno
   clear hno
   by_cases i1:(m.cl.length:Int) > 10
   · go_enter Tryz.func60,Tryz.ntmps60
     go_wp2
     go_ret
     exact HFa.out _ HNo.out HB0.out
   by_cases i5:(m.st.length:Int) > 10
   · go_enter Tryz.func60,Tryz.ntmps60
     go_wp2
     go_ret
     exact HFa.out _ HNo.out HB0.out
   by_cases i2:(m.me.length:Int) > 16
   · go_enter Tryz.func60,Tryz.ntmps60
     go_wp2
     go_ret
     exact HFa.out _ HNo.out HB0.out
   by_cases i3:m.sel<0
   · go_enter Tryz.func60,Tryz.ntmps60
     go_wp2
     go_ret
     exact HFa.out _ HNo.out HB0.out
   have i4:m.sel > 16:=by omega
   go_enter Tryz.func60,Tryz.ntmps60
   go_wp2
   go_ret
   exact HFa.out _ HNo.out HB0.out
end
section
open Go.RowKit
attribute [local go_sem] World.cell?_alloc_some
theorem Zjk (m:Md) (h:Hd) (i n:Int) (w:World) (H:Zay w h m) (hv:Za1 m=true) (hi:0≤i∧i<n):Calls Tryz.prog 63 #[.agg #[.slice h.co m.cl.length h.cc,.slice h.so m.st.length h.sc,.slice h.eo m.me.length h.ec,.int .i64 m.sel],.int .i64 i,.int .i64 n] w (Ret w (.int .i64 0)):=by
 have hb0:Below w.heap.size w (w.alloc (.cells #[.slice h.co m.cl.length h.cc,.slice h.so m.st.length h.sc,.slice h.eo m.me.length h.ec,.int .i64 m.sel] 26)):=by exact bE
 have hc:=Zjj m h _ (H.old hb0)
 rw [hv] at hc
 have HC:=Zh hc
 have HB0:=Zh hb0
 have h1:¬ i<0:=by omega
 have h2:¬ i ≥ n:=by omega
 clear hc hb0 H hv hi
 go_enter Tryz.func63,Tryz.ntmps63
 exact k81
theorem Zjl (m:Md) (h:Hd) (k:Nat) (w:World) (H:Zay w h m) (hv:Za1 m=true) (hk:k<m.me.length):Calls Tryz.prog 137 #[.agg #[.slice h.co m.cl.length h.cc,.slice h.so m.st.length h.sc,.slice h.eo m.me.length h.ec,.int .i64 m.sel],.int .i64 k] w (Zii 76 w (ZeF (m.me.getD k default)) 0):=by
 have hX:Blk (w.alloc (.cells #[.slice h.co m.cl.length h.cc,.slice h.so m.st.length h.sc,.slice h.eo m.me.length h.ec,.int .i64 m.sel] 26)) w.heap.size #[.slice h.co m.cl.length h.cc,.slice h.so m.st.length h.sc,.slice h.eo m.me.length h.ec,.int .i64 m.sel] 26:=Blk.new w _ _
 have hb0:Below w.heap.size w (w.alloc (.cells #[.slice h.co m.cl.length h.cc,.slice h.so m.st.length h.sc,.slice h.eo m.me.length h.ec,.int .i64 m.sel] 26)):=by exact bE
 have hwi:=Zjk m h k m.me.length _ (H.old hb0) hv (by omega)
 have hlen:=Zio (Zim hv k hk)
 have HW:=Zh hwi
 have HX:=Zh hX
 have HM:=Zh H
 have HB0:=Zh hb0
 generalize hxk:m.me.getD k default=x at hlen ⊢
 obtain ⟨nm,c,pl,ll,⟨rk,rc⟩,kl⟩:=x
 have hq:ZeF ⟨nm,c,pl,ll,⟨rk,rc⟩,kl⟩=(if 0≤c then [⟨2,c⟩] else [])++pl++ll:=rfl
 generalize ZeF ⟨nm,c,pl,ll,⟨rk,rc⟩,kl⟩=q at hq ⊢
 dsimp only at hlen
 have HQ:=Zh hq
 have HXk:=Zh hxk
 clear hwi hX hb0 H hxk hv hq
 have hk2:(k:Int) < m.me.length:=by omega
 go_enter Tryz.func137,Tryz.ntmps137
 go_wp2_with fail
 refine HW.out.mono ?_
 rintro e1 w1 ⟨rfl,hb1⟩
 have HB1:=Zh (Zaf HB0.out hb1)
 have hX1:=HX.out.old hb1
 have r2:w1.cell? ⟨w.heap.size,2,none⟩=some (.slice h.eo m.me.length h.ec):=hX1.cell 2 rfl
 have rl:=hX1.lt
 have hm1:=HM.out.old HB1.out
 obtain ⟨am,heo,c0,c1,c2,c3,c4,c5,c6⟩:=hm1.mth hk
 have hp:=HM.out.p k hk
 have hl:=HM.out.l k hk
 rw [HXk.out] at c0 c1 c2 c3 c4 c5 c6 hp hl
 rw [heo] at r2
 generalize h.e k=y at c0 c1 c2 c3 c4 c5 c6 hp hl
 obtain ⟨po,pc,lo,lc,ko,kc⟩:=y
 dsimp only at c0 c1 c2 c3 c4 c5 c6 hp hl
 have HEo:=Zh heo
 clear hX1 hm1 heo hb1
 obtain ⟨W,hW⟩:∃ W,W=w1.heap.size:=⟨_,rfl⟩
 have hXb:=Blk.new' #[.string nm,.int .i64 c,.slice po pl.length pc,.slice lo ll.length lc,.int .i64 rk,.int .i64 rc,.slice ko kl.length kc] 81 hW
 have hb2:Below w1.heap.size w1 (w1.alloc (.cells #[.string nm,.int .i64 c,.slice po pl.length pc,.slice lo ll.length lc,.int .i64 rk,.int .i64 rc,.slice ko kl.length kc] 81)):=by exact bE
 have HP:=Zh hp
 have HL:=Zh hl
 have HBx0:=Zh hXb
 have HBz0:=Zh (Zaf HB1.out hb2)
 have HBxl:=Zh (show w.heap.size≤W by rw [hW];exact HB1.out.size)
 have HB2:=Zh hb2
 have HWw:=Zh hW
 clear hp hl hXb hb2
 go_upto_region 5 with fail
 rw [←hW]
 clear hW
 generalize w1.alloc (.cells #[.string nm,.int .i64 c,.slice po pl.length pc,.slice lo ll.length lc,.int .i64 rk,.int .i64 rc,.slice ko kl.length kc] 81)=w2 at HBx0 HBz0 HB2 ⊢
 have HQ2:=HQ
 have xc:w2.cell? ⟨W,1,none⟩=some (.int .i64 c):=HBx0.out.cell 1 rfl
 have xl:=HBx0.out.lt
 clear c0 c1 c2 c3 c4 c5 c6 r2 rl
 by_cases hc:0≤c
 ·have hc2:c ≥ 0:=hc
  have HC:=Zh hc
  clear hc
  go_wp2_with (at_builtin;refine Zaj rfl (.tmp 26) (.tmp 30) 23 rfl (W+1) 76 2 16 Zff _ 0 [] rfl (World.ownsRow_nil _ _ _ _) _ 1 1 [.int .i64 2,.int .i64 c] rfl (ZdL (Blk.new' #[.int .i64 2,.int .i64 c] 76 (by simp)) rfl) (by intro u hu;simp only [List.mem_cons,List.not_mem_nil,or_false] at hu;rcases hu with rfl|rfl<;>rfl) (by omega) (by unfold maxLen;omega) (by have:=HBx0.out.lt;simp;omega) ?_;intro oo oc wz hown hg)
  have HOw:=Zh hown
  have HBz:=Zh (ZcV (bal HBz0.out _) hg (fun j hj=>by cases hj))
  have HBx:=Zh (Blk.grownV (HBx0.out.alloc _) hg (fun h=>by cases h))
  clear hown hg
  have x2:wz.cell? ⟨W,2,none⟩=some (.slice po pl.length pc):=HBx.out.cell 2 rfl
  have x3:wz.cell? ⟨W,3,none⟩=some (.slice lo ll.length lc):=HBx.out.cell 3 rfl
  refine rO (fun w':World=>w'.cell? ⟨W,2,none⟩=some (.slice po pl.length pc)∧w'.cell? ⟨W,3,none⟩=some (.slice lo ll.length lc)) (oL [0,1,2,4,5,103,106,7,8]) ⟨x2,x3⟩ ?_
  clear x2 x3
  repeat refine pO ?_
  refine oO fun K hK=>?_
  refine Zej (.tmp 32) (.tmp 34) 23 rfl (W+1) 76 2 16 Zff _ 1 _ rfl (Zco HOw.out) _ _ _ _ rfl (SlA.old (w:=wz) (Zar.old HP.out HBz.out) (Below.refl _ _).drew) (Zaq pl) (by omega) (by unfold maxLen;omega) (show W+1≤wz.heap.size from HBx.out.lt) ?_
  intro ao2 cap2 w3 hown3 hg3
  have hb3:=ZcV HBz.out.drew hg3 (fun j hj=>by have:=(HOw.out.lt j hj).1;have:=HBxl.out;omega)
  have hx3:=Blk.grownV HBx.out.drew hg3 (Zcs HOw.out (Nat.lt_succ_self _))
  have HO3:=Zh hown3
  have HB3:=Zh hb3
  have HX3:=Zh hx3
  clear hown3 hg3 hb3 hx3
  refine hK _ _ ⟨⟨HX3.out.cell 2 rfl,HX3.out.cell 3 rfl⟩,?_⟩
  clear hK K
  refine oO fun K hK=>?_
  refine Zej (.tmp 35) (.tmp 37) 23 rfl (W+1) 76 2 16 Zff _ (1+pl.length) _ rfl HO3.out _ _ _ _ rfl (SlA.old (w:=w) HL.out HB3.out) (Zaq ll) (by omega) (by unfold maxLen;omega) (show W+1≤w3.heap.size from HX3.out.lt) ?_
  intro ao4 cap4 w4 hown4 hg4
  have hb4:=ZcV HB3.out hg4 (fun j hj=>by have:=(HO3.out.lt j hj).1;have:=HBxl.out;omega)
  have hx4:=Blk.grownV HX3.out hg4 (Zcs HO3.out (Nat.lt_succ_self _))
  have HO4:=Zh hown4
  have HB4:=Zh hb4
  have HX4:=Zh hx4
  clear hown4 hg4 hb4 hx4
  refine hK _ _ ⟨⟨HX4.out.cell 2 rfl,HX4.out.cell 3 rfl⟩,?_⟩
  clear hK K
  repeat refine pO ?_
  refine Zd5 ?_
  go_wp2
  go_ret2
  exact k42
 ·have hc2:¬ c ≥ 0:=hc
  have HC:=Zh hc
  clear hc
  go_wp2_with fail
  generalize w2=wz at HBx0 HBz0 ⊢
  have HOw:=Zh (World.ownsRow_nil wz (W+1) 76 2)
  have HBz:=HBz0
  have HBx:=HBx0
  have x2:wz.cell? ⟨W,2,none⟩=some (.slice po pl.length pc):=HBx.out.cell 2 rfl
  have x3:wz.cell? ⟨W,3,none⟩=some (.slice lo ll.length lc):=HBx.out.cell 3 rfl
  refine rO (fun w':World=>w'.cell? ⟨W,2,none⟩=some (.slice po pl.length pc)∧w'.cell? ⟨W,3,none⟩=some (.slice lo ll.length lc)) (oL [0,1,2,4,5,103,106,7,8]) ⟨x2,x3⟩ ?_
  clear x2 x3
  repeat refine pO ?_
  refine oO fun K hK=>?_
  refine Zej (.tmp 32) (.tmp 34) 23 rfl (W+1) 76 2 16 Zff _ 0 _ rfl (Zco HOw.out) _ _ _ _ rfl (SlA.old (w:=wz) (Zar.old HP.out HBz.out) (Below.refl _ _).drew) (Zaq pl) (by omega) (by unfold maxLen;omega) (show W+1≤wz.heap.size from HBx.out.lt) ?_
  intro ao2 cap2 w3 hown3 hg3
  have hb3:=ZcV HBz.out.drew hg3 (fun j hj=>by have:=(HOw.out.lt j hj).1;have:=HBxl.out;omega)
  have hx3:=Blk.grownV HBx.out.drew hg3 (Zcs HOw.out (Nat.lt_succ_self _))
  have HO3:=Zh hown3
  have HB3:=Zh hb3
  have HX3:=Zh hx3
  clear hown3 hg3 hb3 hx3
  refine hK _ _ ⟨⟨HX3.out.cell 2 rfl,HX3.out.cell 3 rfl⟩,?_⟩
  clear hK K
  refine oO fun K hK=>?_
  refine Zej (.tmp 35) (.tmp 37) 23 rfl (W+1) 76 2 16 Zff _ (0+pl.length) _ rfl HO3.out _ _ _ _ rfl (SlA.old (w:=w) HL.out HB3.out) (Zaq ll) (by omega) (by unfold maxLen;omega) (show W+1≤w3.heap.size from HX3.out.lt) ?_
  intro ao4 cap4 w4 hown4 hg4
  have hb4:=ZcV HB3.out hg4 (fun j hj=>by have:=(HO3.out.lt j hj).1;have:=HBxl.out;omega)
  have hx4:=Blk.grownV HX3.out hg4 (Zcs HO3.out (Nat.lt_succ_self _))
  have HO4:=Zh hown4
  have HB4:=Zh hb4
  have HX4:=Zh hx4
  clear hown4 hg4 hb4 hx4
  refine hK _ _ ⟨⟨HX4.out.cell 2 rfl,HX4.out.cell 3 rfl⟩,?_⟩
  clear hK K
  repeat refine pO ?_
  refine Zd5 ?_
  go_wp2
  go_ret2
  exact k38
theorem Zjm (m:Md) (h:Hd) (s:Nat) (w:World) (H:Zay w h m) (hv:Za1 m=true) (hs:(s:Int) < m.sel):Calls Tryz.prog 348 #[.agg #[.slice h.co m.cl.length h.cc,.slice h.so m.st.length h.sc,.slice h.eo m.me.length h.ec,.int .i64 m.sel],.int .i64 s] w (Zik w (ZaN m s) 0):=by
 have hX:Blk (w.alloc (.cells #[.slice h.co m.cl.length h.cc,.slice h.so m.st.length h.sc,.slice h.eo m.me.length h.ec,.int .i64 m.sel] 26)) w.heap.size #[.slice h.co m.cl.length h.cc,.slice h.so m.st.length h.sc,.slice h.eo m.me.length h.ec,.int .i64 m.sel] 26:=Blk.new w _ _
 have hb0:Below w.heap.size w (w.alloc (.cells #[.slice h.co m.cl.length h.cc,.slice h.so m.st.length h.sc,.slice h.eo m.me.length h.ec,.int .i64 m.sel] 26)):=by exact bE
 have hwi:=Zjk m h s m.sel _ (H.old hb0) hv (by omega)
 have hsz:=Zin hv
 have hcv:=Zil hv
 generalize hlq:ZaN m s=q
 have HW:=Zh hwi
 have HX:=Zh hX
 have HM:=Zh H
 have HB0:=Zh hb0
 have HLq:=Zh hlq
 have HCv:=Zh hcv
 clear hwi hX hb0 H hlq hv hcv
 go_enter Tryz.func348,Tryz.ntmps348
 go_wp2_with fail
 refine HW.out.mono ?_
 rintro e1 w1 ⟨rfl,hb1⟩
 have HB1:=Zh (Zaf HB0.out hb1)
 have hX1:=HX.out.old hb1
 have r0:w1.cell? ⟨w.heap.size,0,none⟩=some (.slice h.co m.cl.length h.cc):=hX1.cell 0 rfl
 have r1:w1.cell? ⟨w.heap.size,1,none⟩=some (.slice h.so m.st.length h.sc):=hX1.cell 1 rfl
 have r2:w1.cell? ⟨w.heap.size,2,none⟩=some (.slice h.eo m.me.length h.ec):=hX1.cell 2 rfl
 have r3:w1.cell? ⟨w.heap.size,3,none⟩=some (.int .i64 m.sel):=hX1.cell 3 rfl
 have rl:=hX1.lt
 have htg:=Zgz m h s w1 (HM.out.old HB1.out) ⟨by omega,hs⟩ hsz.1 (fun j hj=>Zg9 (HCv.out j hj))
 rw [HLq.out] at htg
 have HTg:=Zh htg
 clear hX1 htg hb1
 go_wp2_with fail
 refine HTg.out.mono ?_
 rintro e2 w2 ⟨⟨ao,cap,rfl,hr,hfr⟩,hb2⟩
 have HO:=Zh hr
 have HFr:=Zh hfr
 clear hr hfr
 go_wp2
 go_ret2
 exact ⟨⟨ao,cap,rfl,HO.out,fun a ha=>by have:=HFr.out a ha;have:=HB1.out.size;omega⟩,Zaf HB1.out hb2⟩
theorem Zjn (m:Md) (h:Hd) (s:Nat) (w:World) (H:Zay w h m) (hv:Za1 m=true) (hs:(s:Int) < m.sel):Calls Tryz.prog 348 #[.agg #[.slice h.co m.cl.length h.cc,.slice h.so m.st.length h.sc,.slice h.eo m.me.length h.ec,.int .i64 m.sel],.int .i64 s] w (Zij w (ZaN m s) 0):=
 (Zjm m h s w H hv hs).mono fun e w' ⟨⟨ao,cap,h1,h2,_⟩,h3⟩=>⟨⟨ao,cap,h1,h2⟩,h3⟩
theorem Zjo (m:Md) (h:Hd) (c s:Nat) (w:World) (H:Zay w h m) (hv:Za1 m=true) (hc:c<m.cl.length) (hs:(s:Int) < m.sel):Calls Tryz.prog 362 #[.agg #[.slice h.co m.cl.length h.cc,.slice h.so m.st.length h.sc,.slice h.eo m.me.length h.ec,.int .i64 m.sel],.int .i64 c,.int .i64 s] w (Zhf w (.int .i64 (if m.ent c s<0 then 0 else m.ent c s)) (.int .i64 (if m.ent c s<0 then 3 else 0))):=by
 have hX:Blk (w.alloc (.cells #[.slice h.co m.cl.length h.cc,.slice h.so m.st.length h.sc,.slice h.eo m.me.length h.ec,.int .i64 m.sel] 26)) w.heap.size #[.slice h.co m.cl.length h.cc,.slice h.so m.st.length h.sc,.slice h.eo m.me.length h.ec,.int .i64 m.sel] 26:=Blk.new w _ _
 have hb0:Below w.heap.size w (w.alloc (.cells #[.slice h.co m.cl.length h.cc,.slice h.so m.st.length h.sc,.slice h.eo m.me.length h.ec,.int .i64 m.sel] 26)):=by exact bE
 have hwi:=Zjk m h c m.cl.length _ (H.old hb0) hv (by omega)
 have hw2:=fun w' (hb:Below w.heap.size w w')=>Zjk m h s m.sel w' (H.old hb) hv (by omega)
 have hcv:=Zil hv
 have htl:=Zg9 (hcv c hc)
 have hent:m.ent c s=(m.cl.getD c default).m.getD s 0:=rfl
 generalize hee:m.ent c s=e at hent ⊢
 generalize hv1:(if e<0 then (0:Int) else e)=v1
 generalize hv2:(if e<0 then (3:Int) else 0)=v2
 have HV1:=Zh hv1
 have HV2:=Zh hv2
 clear hv1 hv2
 have HEe:=Zh hent
 have HW:=Zh hwi
 have HW2:=Zh hw2
 have HX:=Zh hX
 have HM:=Zh H
 have HB0:=Zh hb0
 clear hwi hw2 hX hb0 H hv hcv hent hee
 obtain ⟨co,cc,so,sc,eo,ec,hcx,he⟩:=h
 dsimp only at *
 have hc2:(c:Int) < m.cl.length:=by omega
 go_enter Tryz.func362,Tryz.ntmps362
 go_wp2_with fail
 refine HW.out.mono ?_
 rintro e1 w1 ⟨rfl,hb1⟩
 have HB1:=Zh (Zaf HB0.out hb1)
 have hX1:=HX.out.old hb1
 have r0:w1.cell? ⟨w.heap.size,0,none⟩=some (.slice co m.cl.length cc):=hX1.cell 0 rfl
 have r1:w1.cell? ⟨w.heap.size,1,none⟩=some (.slice so m.st.length sc):=hX1.cell 1 rfl
 have r2:w1.cell? ⟨w.heap.size,2,none⟩=some (.slice eo m.me.length ec):=hX1.cell 2 rfl
 have r3:w1.cell? ⟨w.heap.size,3,none⟩=some (.int .i64 m.sel):=hX1.cell 3 rfl
 have rl:=hX1.lt
 have HX1:=Zh hX1
 clear hX1 hb1
 go_wp2_with fail
 refine (HW2.out _ HB1.out).mono ?_
 rintro e2 w2 ⟨rfl,hb2⟩
 have HB2:=Zh (Zaf HB1.out hb2)
 have hX2:=HX1.out.old hb2
 have r0:w2.cell? ⟨w.heap.size,0,none⟩=some (.slice co m.cl.length cc):=hX2.cell 0 rfl
 have rl:=hX2.lt
 clear r1 r2 r3 hX2 hb2
 have hm2:=HM.out.old HB2.out
 obtain ⟨ad,hco,-,-,-,c3⟩:=hm2.cls hc
 obtain ⟨ad3,hmo,t0⟩:=ZaB (hm2.t c hc) (i:=s) (by omega)
 have hst:(s:Int) < (m.cl.getD c default).m.length:=by omega
 dsimp only at hco c3 hmo
 rw [hmo] at c3
 rw [hco] at r0
 rw [←HEe.out] at t0
 generalize (m.cl.getD c default).m.length=tn at c3 hst htl
 have HMo:=Zh hmo
 have HCo:=Zh hco
 clear hmo hco hm2
 by_cases he0:e<0
 ·go_wp2
  go_ret2
  refine Zhg ?_ ?_ HB2.out
  ·rw [←HV1.out,if_pos he0];rfl
  ·rw [←HV2.out,if_pos he0];rfl
 ·go_wp2
  go_ret2
  refine Zhg ?_ ?_ HB2.out
  ·rw [←HV1.out,if_neg (by omega)];rfl
  ·rw [←HV2.out,if_neg (by omega)];rfl
end
end Go.Proofs.YtcfjblcgceednaaGreat
