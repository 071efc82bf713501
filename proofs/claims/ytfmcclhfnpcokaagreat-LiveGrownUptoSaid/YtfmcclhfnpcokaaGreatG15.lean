import Derived.Test.YtfmcclhfnpcokaaGreatG12
import Derived.Test.YtfmcclhfnpcokaaGreatG11
set_option linter.all false
set_option maxRecDepth 100000
set_option maxHeartbeats 20000000
namespace Go.Proofs.YtfmcclhfnpcokaaGreat
section
open Go.RowKit
attribute [local go_sem] World.cell?_alloc_some
theorem Zjh {m:Md}{k:Nat} (h:ZaY m k=true):-1≤m.own k∧m.own k<m.cl.length:=by simp only [ZaY,Bool.and_eq_true,decide_eq_true_eq] at h;unfold Md.own;rw [Int.toNat_natCast];exact ⟨h.1.1.1.1.1.1.1.1,h.1.1.1.1.1.1.1.2⟩
def Zji (m:Md) (l:List Int) (t:Int):Bool:=decide ((m.me.getD t.toNat default).r=(m.me.getD (l.getD 0 0).toNat default).r)&&decide ((m.me.getD t.toNat default).p=(m.me.getD (l.getD 0 0).toNat default).p)
theorem Zjj (m:Md) (s:Nat):ZaZ m s=(ZaO m s).all (Zji m (ZaO m s)):=rfl
theorem Zjk {m:Md}{l:List Int}{j:Nat} (a:j<l.length) (h:Zji m l (l.getD j 0)=false):l.all (Zji m l)=false:=
 List.all_eq_false.2 ⟨l.getD j 0,by rw [List.getD_eq_getElem?_getD,List.getElem?_eq_getElem a];exact List.getElem_mem a,by rw [h];decide⟩
theorem Zjl {m:Md}{l:List Int} (h:∀ j,0<j→j<l.length→Zji m l (l.getD j 0)=true):l.all (Zji m l)=true:=by
 rw [List.all_eq_true];intro t b;obtain ⟨j,a,rfl⟩:=List.getElem_of_mem b;have e:l.getD j 0=l[j]:=by rw [List.getD_eq_getElem?_getD,List.getElem?_eq_getElem a];rfl
 by_cases h0:0<j
 ·rw [←e];exact h j h0 a
 ·obtain rfl:j=0:=by omega
  rw [←e];simp [Zji]
theorem Zjm (m:Md) (h:Hd) (w:World) (H:Zaz w h m):Calls Tryz.prog 60 #[.agg (HM.mk h m)] w (Ret w (.int .i64 (if Za2 m then 0 else 1))):=by
 have hX:=Blk.new w (HM.mk h m) 26;have aD:Below w.heap.size w (w.alloc (.cells (HM.mk h m) 26)):=by exact bE
 have HX:=Zh hX;have Hj:=Zh (H.old aD);have n:=Zh aD;have cz:=H.bz;have hq:Za2 m=(Za0 m&&Za1 m&&(List.range m.cl.length).all (ZaL m)&&(List.range m.me.length).all (ZaY m)&&(List.range m.sel.toNat).all (ZaZ m)):=rfl;have bh:Za0 m=(decide (m.cl.length≤10)&&decide (m.me.length≤16)&&decide (0≤m.sel)&&decide (m.sel≤16)&&decide (m.st.length≤10)&&ZaH m.cl.length m.st):=rfl;obtain ⟨qa,aa⟩:∃ q,q=(if Za2 m then (0:Int) else 1):=⟨_,rfl⟩;rw [←aa];have HF:∀ e:World,Za2 m=false→Below w.heap.size w e→Ret w (.int .i64 qa) (.returned (.int .i64 1)) e:=fun e hf f=>ZcP (ZcU (by rw [aa,hf];rfl)) f;have HT:∀ e:World,Za2 m=true→Below w.heap.size w e→Ret w (.int .i64 qa) (.returned (.int .i64 0)) e:=fun e hf f=>ZcP (ZcU (by rw [aa,hf];rfl)) f;have r:=Zh HF;have bC:=Zh HT;have HQ:=Zh hq;have az:=Zh bh;clear hX H aD aa hq bh HF HT;by_cases hsm:m.cl.length≤10∧m.st.length≤10∧m.me.length≤16∧0≤m.sel∧m.sel≤16
 · obtain ⟨h1,h5,h2,h3,h4⟩:=hsm;have i1:¬ (m.cl.length:Int) > 10:=by omega
   have i5:¬ (m.st.length:Int) > 10:=by omega
   have i2:¬ (m.me.length:Int) > 16:=by omega
   have i3:¬ m.sel<0:=by omega
   have i4:¬ m.sel > 16:=by omega
   have aE:=fun e f=>Zik m h e (Zaz.old Hj.out f) ⟨h1,h2,h3,h4⟩;have aJ:=fun e f=>Ze1 m h m.st h.so h.sc e ((Hj.out.st).old f) (by omega);generalize hqc:(List.range m.cl.length).all (ZaL m)=qc at aE;generalize hqs:ZaH m.cl.length m.st=qs at aJ;have a2:=Zh aE;have a8:=Zh aJ;have ax:=Zh hqc;have a5:=Zh hqs;clear aE aJ hqc hqs;have b0:(w.alloc (.cells (HM.mk h m) 26)).heap.size=w.heap.size+1:=by simp
   go_enter Tryz.func60,Tryz.ntmps60
   go_upto_region 1 with fail
   generalize w.alloc _=w0 at HX Hj n a2 a8 b0 ⊢;have rc:∀ e,Below w0.heap.size w0 e→(e.cell? ⟨w.heap.size,0,none⟩=some (.slice h.co m.cl.length h.cc)∧e.cell? ⟨w.heap.size,1,none⟩=some (.slice h.so m.st.length h.sc)∧e.cell? ⟨w.heap.size,2,none⟩=some (.slice h.eo m.me.length h.ec)∧e.cell? ⟨w.heap.size,3,none⟩=some (.int .i64 m.sel))∧w.heap.size<e.heap.size:=fun e f=>
     ⟨⟨(HX.out.old f).cell 0 rfl,(HX.out.old f).cell 1 rfl,(HX.out.old f).cell 2 rfl,(HX.out.old f).cell 3 rfl⟩,(HX.out.old f).lt⟩
   have RC:=Zh rc;obtain ⟨⟨r0,r1,D,r3⟩,rl⟩:=rc w0 (Below.refl _ _);clear rc
   go_wp2_with fail
   refine (a2.out _ (Below.refl _ _)).mono ?_;rintro e1 w1 ⟨rfl,ba⟩;have T:=Zh ba;clear r0 r1 D r3 rl ba;obtain ⟨⟨r0,r1,D,r3⟩,rl⟩:=RC.out w1 T.out;rcases qc with _|_
   · go_wp2;go_ret;exact r.out _ (by rw [HQ.out,ax.out];simp) (Zag n.out T.out)
   have ak:∀ j,j<m.cl.length→ZaL m j=true:=ZaF.1 ax.out;have au:=Zh ak;clear ak
   go_wp2_with fail
   refine (a8.out _ T.out).mono ?_;rintro e2 w2 ⟨rfl,bb⟩;have aY:=Zh (Zag T.out bb);clear r0 r1 D r3 rl bb;rcases qs with _|_
   · go_wp2;go_ret;exact r.out _ (by rw [HQ.out,az.out,a5.out];simp) (Zag n.out aY.out)
   have aq:Za0 m=true:=by rw [az.out,a5.out];simp [h1,h2,h3,h4,h5]
   have a7:=Zh aq;clear aq
   go_wp2_with fail
   go_loopw [3] (fun i wr=>∃ k:Nat,k≤m.me.length∧i=.int .i64 k∧Below w0.heap.size w0 wr∧Hid (∀ i,i<k→ZaY m i=true)) (fun i _=>m.me.length-(intOf i).toNat)
   case atStart=>exact ⟨0,by omega,rfl,aY.out,Zh (by omega)⟩
   case round=>
     obtain ⟨k,hk,rfl,J,q1⟩:=hrel;have E:=Zh J;clear J;obtain ⟨⟨r0,r1,D,r3⟩,rl⟩:=RC.out wr E.out;by_cases hkl:k<m.me.length
     · have ci:(k:Int) < m.me.length:=by omega
       have bZ:IntKind.i64.wrap ((k:Int)+1)=k+1:=IntWalk.i64_in _ (by omega);have g:=Zil m h k wr (Hj.out.old E.out) hkl h1 (fun j hj=>Zhc (au.out j hj)) (fun j hj=>(Zjh (q1.out j hj)).1);generalize hqm:ZaY m k=q at g;have HC:=Zh g;have a4:=Zh hqm;clear g hqm
       go_wp2_with fail
       refine HC.out.mono ?_;rintro e3 w3 ⟨rfl,I⟩;have U:=Zh (Zag E.out I);clear I;rcases q with _|_
       · go_wp2;go_ret;exact r.out _ (by rw [HQ.out,ZaD hkl a4.out];simp) (Zag n.out U.out)
       · go_wp2;go_roundw
         case rel=>
           refine ⟨k+1,by omega,by go_num,U.out,Zh fun i hi=>?_⟩;by_cases hik:i<k
           · exact q1.out i hik
           · obtain rfl:i=k:=by omega
             exact a4.out
         case measure=>simp [intOf];omega
     · obtain rfl:k=m.me.length:=by omega
       have av:=Zh q1.out;clear q1;obtain ⟨wo,rfl⟩:∃ wo:World,wo=wr:=⟨_,rfl⟩
       go_wp2_with fail
       go_loopw [4] (fun i wr=>∃ s:Nat,(s:Int)≤m.sel∧i=.int .i64 s∧Below w0.heap.size w0 wr∧Hid (∀ i,i<s→ZaZ m i=true)) (fun i _=>m.sel.toNat-(intOf i).toNat)
       case atStart=>exact ⟨0,by omega,rfl,E.out,Zh (by omega)⟩
       case round=>
         obtain ⟨s,hs,rfl,J,q2⟩:=hrel;have Z:=Zh J;clear J r0 r1 D r3 rl E;obtain ⟨⟨r0,r1,D,r3⟩,rl⟩:=RC.out wr Z.out;by_cases hss:(s:Int) < m.sel
         · have bZ:IntKind.i64.wrap ((s:Int)+1)=s+1:=IntWalk.i64_in _ (by omega);have g:=ZgD m h s wr (Hj.out.old Z.out) ⟨by omega,hss⟩ h1 (fun j hj=>Zhc (au.out j hj));have N:=Zhf au.out hss;have aC:=Zjj m s;have bY:=ZdI m s;generalize ZaO m s=l at g N aC bY;have HC:=Zh g;have a9:=Zh N;have aW:=Zh aC;clear g N aC;have A:∀ e,l.all (Zji m l)=false→Below w0.heap.size w0 e→Ret w (.int .i64 qa) (.returned (.int .i64 1)) e:=fun e hf f=>r.out _ (by rw [HQ.out,ZaD (show s<m.sel.toNat by omega) (by rw [aW.out];exact hf)];simp) (Zag n.out f);have B:=Zh A;clear A
           go_wp2_with fail
           refine HC.out.mono ?_;rintro e3 w3 ⟨⟨ao,ct,rfl,hr⟩,I⟩;have HR:=Zh hr;have U:=Zh (Zag Z.out I);clear hr I r0 r1 D r3 rl;obtain ⟨wo,rfl⟩:∃ wo:World,wo=wr:=⟨_,rfl⟩
           go_wp2_with fail
           go_loopw [6] (fun i wr=>∃ j:Nat,1≤j∧j≤l.length+1∧i=.int .i64 j∧Hid (Below w3.heap.size w3 wr)∧Hid (∀ i,0<i→i<j→i<l.length→Zji m l (l.getD i 0)=true)) (fun i _=>l.length+1-(intOf i).toNat)
           case atStart=>exact ⟨1,by omega,by omega,rfl,Zh (Below.refl _ _),Zh (by omega)⟩
           case round=>
             obtain ⟨j,cB,cC,rfl,W,q3⟩:=hrel;have V:=Zh (Zag U.out W.out);by_cases hjl:j<l.length
             · as_aux_lemma=>
               have cI:IntKind.i64.wrap ((j:Int)+1)=j+1:=IntWalk.i64_in _ (by omega);have bd:(j:Int) < l.length:=by omega
               have cD:(0:Int) < l.length:=by omega
               have aH:0<l.length:=by omega
               obtain ⟨⟨r0,r1,D,r3⟩,rl⟩:=RC.out wr V.out;obtain ⟨al,rfl,t0⟩:=ZaC (HR.out.old W.out) (i:=0) aH;obtain ⟨cs,ai,t1⟩:=ZaC (HR.out.old W.out) hjl;obtain rfl:=Option.some.inj ai;rw [show al.add 0=al from by unfold Addr.add;simp] at t0;have hu:=a9.out (l.getD 0 0) (by rw [List.getD_eq_getElem?_getD,List.getElem?_eq_getElem aH];exact List.getElem_mem aH);have ht:=a9.out (l.getD j 0) (by rw [List.getD_eq_getElem?_getD,List.getElem?_eq_getElem hjl];exact List.getElem_mem hjl);have G:Zji m l (l.getD j 0)=(decide ((m.me.getD (l.getD j 0).toNat default).r=(m.me.getD (l.getD 0 0).toNat default).r)&&decide ((m.me.getD (l.getD j 0).toNat default).p=(m.me.getD (l.getD 0 0).toNat default).p)):=rfl;have A:Zji m l (l.getD j 0)=false→∀ e,Below w0.heap.size w0 e→Ret w (.int .i64 qa) (.returned (.int .i64 1)) e:=fun hf e f=>B.out e (Zjk hjl hf) f;have aI:Zji m l (l.getD j 0)=true→∀ i,0<i→i<j+1→i<l.length→Zji m l (l.getD i 0)=true:=fun hp i h0 hi bW=>by
                 by_cases hij:i<j
                 · exact q3.out i h0 hij bW
                 · obtain rfl:i=j:=by omega
                   exact hp
               generalize hua:l.getD 0 0=u at t0 hu G;generalize hta:l.getD j 0=t at t1 ht G A aI;obtain ⟨u,rfl⟩:∃ x:Nat,u=x:=⟨u.toNat,by omega⟩;obtain ⟨t,rfl⟩:∃ x:Nat,t=x:=⟨t.toNat,by omega⟩;have aK:u<m.me.length:=by omega
               have bi:t<m.me.length:=by omega
               have cH:(u:Int) < m.me.length:=by omega
               have cG:(t:Int) < m.me.length:=by omega
               have cj:=Zhe (av.out u aK);have L:=Hj.out.old V.out;obtain ⟨am,aF,c0,c1,c2,c3,c4,c5,c6⟩:=L.mth bi;obtain ⟨b,C,d0,d1,d2,d3,d4,d5,d6⟩:=L.mth aK;have bf:=L.p t bi;have bg:=L.p u aK;rw [Int.toNat_natCast,Int.toNat_natCast] at G;generalize hxt:m.me.getD t default=x at *;generalize hxu:m.me.getD u default=y at *;obtain ⟨nx,cx,px,lx,⟨kx,rx⟩,aN⟩:=x;obtain ⟨ny,cy,py,ly,⟨ky,ry⟩,aO⟩:=y;generalize h.e t=et at *;generalize h.e u=eu at *;obtain ⟨po,pc,lo,lc,ko,kc⟩:=et;obtain ⟨R,O,aQ,aP,aM,aL⟩:=eu;rw [C] at aF;obtain rfl:=Option.some.inj aF;rw [C] at D;dsimp only at *;have cr:=Zh C;have bA:=Zh bf;have bB:=Zh bg;have ar:=Zh G;have a3:=Zh A;have ay:=Zh aI;clear bf bg hxt hxu aF C G A aI hua hta L ai hu ht
               go_upto_region 17 with fail
               go_cut [7,8] from 71 to 85 (fun x y wc=>∃ (X Y:Nat),x=.pointer (some ⟨X,0,none⟩)∧y=.pointer (some ⟨Y,0,none⟩)∧Blk wc X #[.string ny,.int .i64 cy,.slice R py.length O,.slice aQ ly.length aP,.int .i64 ky,.int .i64 ry,.slice aM aO.length aL] 70∧Blk wc Y #[.string nx,.int .i64 cx,.slice po px.length pc,.slice lo lx.length lc,.int .i64 kx,.int .i64 rx,.slice ko aN.length kc] 70∧Below wr.heap.size wr wc)
               case first=>
                 have hS:∀ e,Below wr.heap.size wr e→(fun e:World=>e.cell? ⟨w.heap.size,2,none⟩=some (.slice (some b) m.me.length h.ec)∧e.cell? al=some (.int .i64 u)∧e.cell? (al.add j)=some (.int .i64 t)∧e.cell? (b.add (t*7))=some (.string nx)∧e.cell? ⟨(b.add (t*7)).block,(b.add (t*7)).off+1,none⟩=some (.int .i64 cx)∧e.cell? ⟨(b.add (t*7)).block,(b.add (t*7)).off+2,none⟩=some (.slice po px.length pc)∧e.cell? ⟨(b.add (t*7)).block,(b.add (t*7)).off+3,none⟩=some (.slice lo lx.length lc)∧e.cell? ⟨(b.add (t*7)).block,(b.add (t*7)).off+4,none⟩=some (.int .i64 kx)∧e.cell? ⟨(b.add (t*7)).block,(b.add (t*7)).off+5,none⟩=some (.int .i64 rx)∧e.cell? ⟨(b.add (t*7)).block,(b.add (t*7)).off+6,none⟩=some (.slice ko aN.length kc)∧e.cell? (b.add (u*7))=some (.string ny)∧e.cell? ⟨(b.add (u*7)).block,(b.add (u*7)).off+1,none⟩=some (.int .i64 cy)∧e.cell? ⟨(b.add (u*7)).block,(b.add (u*7)).off+2,none⟩=some (.slice R py.length O)∧e.cell? ⟨(b.add (u*7)).block,(b.add (u*7)).off+3,none⟩=some (.slice aQ ly.length aP)∧e.cell? ⟨(b.add (u*7)).block,(b.add (u*7)).off+4,none⟩=some (.int .i64 ky)∧e.cell? ⟨(b.add (u*7)).block,(b.add (u*7)).off+5,none⟩=some (.int .i64 ry)∧e.cell? ⟨(b.add (u*7)).block,(b.add (u*7)).off+6,none⟩=some (.slice aM aO.length aL)) e:=fun e f=>⟨ZeX f D,ZeX f t0,ZeX f t1,ZeX f c0,ZeX f c1,ZeX f c2,ZeX f c3,ZeX f c4,ZeX f c5,ZeX f c6,ZeX f d0,ZeX f d1,ZeX f d2,ZeX f d3,ZeX f d4,ZeX f d5,ZeX f d6⟩;have HS:=Zh hS;clear hS
                 refine rO (fun e:World=>e.cell? ⟨w.heap.size,2,none⟩=some (.slice (some b) m.me.length h.ec)∧e.cell? al=some (.int .i64 u)∧e.cell? (al.add j)=some (.int .i64 t)∧e.cell? (b.add (t*7))=some (.string nx)∧e.cell? ⟨(b.add (t*7)).block,(b.add (t*7)).off+1,none⟩=some (.int .i64 cx)∧e.cell? ⟨(b.add (t*7)).block,(b.add (t*7)).off+2,none⟩=some (.slice po px.length pc)∧e.cell? ⟨(b.add (t*7)).block,(b.add (t*7)).off+3,none⟩=some (.slice lo lx.length lc)∧e.cell? ⟨(b.add (t*7)).block,(b.add (t*7)).off+4,none⟩=some (.int .i64 kx)∧e.cell? ⟨(b.add (t*7)).block,(b.add (t*7)).off+5,none⟩=some (.int .i64 rx)∧e.cell? ⟨(b.add (t*7)).block,(b.add (t*7)).off+6,none⟩=some (.slice ko aN.length kc)∧e.cell? (b.add (u*7))=some (.string ny)∧e.cell? ⟨(b.add (u*7)).block,(b.add (u*7)).off+1,none⟩=some (.int .i64 cy)∧e.cell? ⟨(b.add (u*7)).block,(b.add (u*7)).off+2,none⟩=some (.slice R py.length O)∧e.cell? ⟨(b.add (u*7)).block,(b.add (u*7)).off+3,none⟩=some (.slice aQ ly.length aP)∧e.cell? ⟨(b.add (u*7)).block,(b.add (u*7)).off+4,none⟩=some (.int .i64 ky)∧e.cell? ⟨(b.add (u*7)).block,(b.add (u*7)).off+5,none⟩=some (.int .i64 ry)∧e.cell? ⟨(b.add (u*7)).block,(b.add (u*7)).off+6,none⟩=some (.slice aM aO.length aL)) (.plain 0 (.plain 1 (.plain 2 (.plain 3 (.plain 4 (.plain 5 (.plain 6 (.plain 7 (.plain 8 (.plain 9 (.plain 10 (.plain 11 (.plain 12 (.plain 13 (.plain 14 (.two 15 16 (oL [116,117,118]) (oL [115,117,118]))))))))))))))))) (HS.out wr.drew (Below.refl _ _).drew) ?_
                 clear D t0 t1 c0 c1 c2 c3 c4 c5 c6 d0 d1 d2 d3 d4 d5 d6
                 repeat refine pO ?_
                 refine Zd6 ?_ ?_
                 all_goals
                   refine Zd4 _ (by rfl) (by rfl) fun K F=>?_;go_simp;refine F _ _ ⟨HS.out _ bE,?_⟩;clear F K;refine oO fun K F=>?_;go_simp;refine F _ _ ⟨HS.out _ bE,?_⟩;clear F K;refine oO fun K F=>?_;go_simp;refine F _ _ ⟨HS.out _ bE,?_⟩;clear F K;refine oO fun K F=>?_;go_simp;refine F _ _ ⟨HS.out _ bE,?_⟩;clear F K;refine Zd7 ?_
                   go_wp2_with fail
                   go_meet
                   refine ⟨_,_,rfl,rfl,?_,?_,?_⟩
                   · repeat (first|(refine Blk.new' _ _ ?_;simp;done)|refine Blk.drew ?_|refine Blk.alloc ?_ _)
                   · repeat (first|(refine Blk.new' _ _ ?_;simp;done)|refine Blk.drew ?_|refine Blk.alloc ?_ _)
                   · exact bE
               case rest=>
                 obtain ⟨X,Y,rfl,rfl,hX,hY,f⟩:=hcut;have bV:=hX;have HE:=Zh (Ze4 py px R po O pc wc (bB.out.old f) (bA.out.old f) (by omega));have x2:wc.cell? ⟨X,2,none⟩=some (.slice R py.length O):=hX.cell 2 rfl;have y2:wc.cell? ⟨Y,2,none⟩=some (.slice po px.length pc):=hY.cell 2 rfl;have xl:=hX.lt;have yl:=hY.lt;have aA:=Zh hX;have aB:=Zh hY;have bx:=Zh (Zag V.out f);have a1:=Zh (Zag W.out f);clear hX hY f c0 c1 c2 c3 c4 c5 c6 d0 d1 d2 d3 d4 d5 d6 t0 t1 r0 r1 D r3 rl bV
                 go_wp2_with fail
                 refine HE.out.mono ?_;rintro e5 w5 ⟨rfl,z⟩;have x4:w5.cell? ⟨X,4,none⟩=some (.int .i64 ky):=(aA.out.old z).cell 4 rfl;have x5:w5.cell? ⟨X,5,none⟩=some (.int .i64 ry):=(aA.out.old z).cell 5 rfl;have y4:w5.cell? ⟨Y,4,none⟩=some (.int .i64 kx):=(aB.out.old z).cell 4 rfl;have y5:w5.cell? ⟨Y,5,none⟩=some (.int .i64 rx):=(aB.out.old z).cell 5 rfl;have xl:=(aA.out.old z).lt;have yl:=(aB.out.old z).lt;have aZ:=Zh (Zag bx.out z);have a0:=Zh (Zag a1.out z);clear z x2 y2;have cE:=ZdY;have cA:=ZdZ;by_cases hpp:py=px
                 · have bX:decide (py=px)=true:=decide_eq_true hpp;have aw:=Zh hpp;clear hpp;go_wp2
                   all_goals first
                     | (go_ret
                        refine a3.out ?_ _ aZ.out;rw [ar.out];simp only [Ty.mk.injEq];grind)
                     | (go_roundw
                        case rel=>
                          refine ⟨j+1,by omega,by omega,by go_num,Zh a0.out,Zh (ay.out ?_)⟩;rw [ar.out,aw.out];simp only [Ty.mk.injEq];grind
                        case measure=>simp [intOf];omega)
                 · have bX:decide (py=px)=false:=decide_eq_false hpp;have aw:=Zh hpp;clear hpp;go_wp2;go_ret;refine a3.out ?_ _ aZ.out;have h9:¬ px=py:=fun h=>aw.out h.symm;rw [ar.out];simp [h9]
             · have bd:¬ (j:Int) < l.length:=by omega
               have be:ZaZ m s=true:=by rw [aW.out];exact Zjl fun i h0 hi=>q3.out i h0 (by omega) hi
               have M:∀ i,i<s+1→ZaZ m i=true:=fun i hi=>by
                 by_cases his:i<s
                 · exact q2.out i his
                 · obtain rfl:i=s:=by omega
                   exact be
               have ay:=Zh M;clear be M;go_wp2;go_roundw
               case rel=>exact ⟨s+1,by omega,by go_num,V.out,Zh ay.out⟩
               case measure=>simp [intOf];omega
         · have ap:m.sel.toNat=s:=by omega
           have an:Za1 m=true:=ZaE fun i hi=>by have:=Zjh (av.out i hi);simp only [Bool.and_eq_true,decide_eq_true_eq];exact this
           have aj:Za2 m=true:=by rw [HQ.out,a7.out,an,ax.out,ZaE av.out,ap,ZaE q2.out];rfl
           have aX:=Zh aj;clear aj an ap;go_wp2;go_ret;exact bC.out _ aX.out (Zag n.out Z.out)
 · have A:Za2 m=false:=by rw [HQ.out,az.out];grind
   have B:=Zh A;clear A;by_cases i1:(m.cl.length:Int) > 10
   · go_enter Tryz.func60,Tryz.ntmps60;go_wp2;go_ret;exact r.out _ B.out n.out
   by_cases i5:(m.st.length:Int) > 10
   · go_enter Tryz.func60,Tryz.ntmps60;go_wp2;go_ret;exact r.out _ B.out n.out
   by_cases i2:(m.me.length:Int) > 16
   · go_enter Tryz.func60,Tryz.ntmps60;go_wp2;go_ret;exact r.out _ B.out n.out
   by_cases i3:m.sel<0
   · go_enter Tryz.func60,Tryz.ntmps60;go_wp2;go_ret;exact r.out _ B.out n.out
   have i4:m.sel > 16:=by omega
   go_enter Tryz.func60,Tryz.ntmps60;go_wp2;go_ret;exact r.out _ B.out n.out
end
section
open Go.RowKit
attribute [local go_sem] World.cell?_alloc_some
theorem Zjn (m:Md) (h:Hd) (i n:Int) (w:World) (H:Zaz w h m) (c:Za2 m=true) (d:0≤i∧i<n):Calls Tryz.prog 61 #[.agg (HM.mk h m),.int .i64 i,.int .i64 n] w (Ret w (.int .i64 0)):=by
 have a:Below w.heap.size w (w.alloc (.cells (HM.mk h m) 26)):=by exact bE
 have b:=Zjm m h _ (H.old a);rw [c] at b;have HC:=Zh b;have HB0:=Zh a;have e:¬ i<0:=by omega
 have f:¬ i ≥ n:=by omega
 clear b a H c d;go_enter Tryz.func61,Tryz.ntmps61;exact k81
theorem Zjo (m:Md) (h:Hd) (k:Nat) (w:World) (H:Zaz w h m) (hv:Za2 m=true) (hk:k<m.me.length):Calls Tryz.prog 44 #[.agg (HM.mk h m),.int .i64 k] w (Zim 38 w (ZeH (m.me.getD k default)) 0):=by
 have hX:Blk (w.alloc (.cells (HM.mk h m) 26)) w.heap.size (HM.mk h m) 26:=Blk.new w _ _;have V:Below w.heap.size w (w.alloc (.cells (HM.mk h m) 26)):=by exact bE
 have al:=Zjn m h k m.me.length _ (H.old V) hv (by omega);have O:=Zis (Ziq hv k hk);have HW:=Zh al;have HX:=Zh hX;have Hj:=Zh H;have aD:=Zh V;generalize hxk:m.me.getD k default=x at O ⊢;obtain ⟨nm,c,pl,ll,⟨rk,rc⟩,kl⟩:=x;have hq:ZeH ⟨nm,c,pl,ll,⟨rk,rc⟩,kl⟩=(if 0≤c then [⟨2,c⟩] else [])++pl++ll:=rfl;generalize ZeH ⟨nm,c,pl,ll,⟨rk,rc⟩,kl⟩=q at hq ⊢;dsimp only at O;have HQ:=Zh hq;have aG:=Zh hxk;clear al hX V H hxk hv hq;have aZ:(k:Int) < m.me.length:=by omega
 go_enter Tryz.func44,Tryz.ntmps44
 go_wp2_with fail
 refine HW.out.mono ?_;rintro e1 w1 ⟨rfl,X⟩;have T:=Zh (Zag aD.out X);have U:=HX.out.old X;have r2:w1.cell? ⟨w.heap.size,2,none⟩=some (.slice h.eo m.me.length h.ec):=U.cell 2 rfl;have rl:=U.lt;have aj:=Hj.out.old T.out;obtain ⟨am,Z,c0,c1,c2,c3,c4,c5,c6⟩:=aj.mth hk;have hp:=Hj.out.p k hk;have hl:=Hj.out.l k hk;rw [aG.out] at c0 c1 c2 c3 c4 c5 c6 hp hl;rw [Z] at r2;generalize h.e k=y at c0 c1 c2 c3 c4 c5 c6 hp hl;obtain ⟨po,pc,lo,lc,ko,kc⟩:=y;dsimp only at c0 c1 c2 c3 c4 c5 c6 hp hl;have aU:=Zh Z;clear U aj Z X;obtain ⟨W,hW⟩:∃ W,W=w1.heap.size:=⟨_,rfl⟩;have ah:=Blk.new' #[.string nm,.int .i64 c,.slice po pl.length pc,.slice lo ll.length lc,.int .i64 rk,.int .i64 rc,.slice ko kl.length kc] 70 hW;have Y:Below w1.heap.size w1 (w1.alloc (.cells #[.string nm,.int .i64 c,.slice po pl.length pc,.slice lo ll.length lc,.int .i64 rk,.int .i64 rc,.slice ko kl.length kc] 70)):=by exact bE
 have HP:=Zh hp;have HL:=Zh hl;have b:=Zh ah;have B:=Zh (Zag T.out Y);have HBxl:=Zh (show w.heap.size≤W by rw [hW];exact T.out.size);have aE:=Zh Y;have aX:=Zh hW;clear hp hl ah Y
 go_upto_region 5 with fail
 rw [←hW];clear hW;generalize w1.alloc (.cells #[.string nm,.int .i64 c,.slice po pl.length pc,.slice lo ll.length lc,.int .i64 rk,.int .i64 rc,.slice ko kl.length kc] 70)=w2 at b B aE ⊢;have aV:=HQ;have xc:w2.cell? ⟨W,1,none⟩=some (.int .i64 c):=b.out.cell 1 rfl;have xl:=b.out.lt;clear c0 c1 c2 c3 c4 c5 c6 r2 rl;by_cases hc:0≤c
 ·have aI:c ≥ 0:=hc;have HC:=Zh hc;clear hc
  go_wp2_with (at_builtin;refine Zak rfl (.tmp 26) (.tmp 30) 23 rfl (W+1) 38 2 16 Zfh _ 0 [] rfl (World.ownsRow_nil _ _ _ _) _ 1 1 [.int .i64 2,.int .i64 c] rfl (ZdN (Blk.new' #[.int .i64 2,.int .i64 c] 38 (by simp)) rfl) (by intro u hu;simp only [List.mem_cons,List.not_mem_nil,or_false] at hu;rcases hu with rfl|rfl<;>rfl) (by omega) (by unfold maxLen;omega) (by have:=b.out.lt;simp;omega) ?_;intro oo oc M R hg)
  have s:=Zh R;have D:=Zh (ZcR (bal B.out _) hg (fun j N=>by cases N));have i:=Zh (Blk.grownV (b.out.alloc _) hg (fun h=>by cases h));clear R hg;have x2:M.cell? ⟨W,2,none⟩=some (.slice po pl.length pc):=i.out.cell 2 rfl;have x3:M.cell? ⟨W,3,none⟩=some (.slice lo ll.length lc):=i.out.cell 3 rfl;refine rO (fun w':World=>w'.cell? ⟨W,2,none⟩=some (.slice po pl.length pc)∧w'.cell? ⟨W,3,none⟩=some (.slice lo ll.length lc)) (oL [0,1,2,4,5,103,106,7,8]) ⟨x2,x3⟩ ?_;clear x2 x3
  repeat refine pO ?_
  refine oO fun K F=>?_;refine Zel (.tmp 32) (.tmp 34) 23 rfl (W+1) 38 2 16 Zfh _ 1 _ rfl (Zck s.out) _ _ _ _ rfl (SlA.old (w:=M) (Zas.old HP.out D.out) (Below.refl _ _).drew) (Zar pl) (by omega) (by unfold maxLen;omega) (show W+1≤M.heap.size from i.out.lt) ?_;intro aH af w3 f z;have G:=ZcR D.out.drew z (fun j N=>by have:=(s.out.lt j N).1;have:=HBxl.out;omega);have J:=Blk.grownV i.out.drew z (Zco s.out (Nat.lt_succ_self _));have r:=Zh f;have C:=Zh G;have n:=Zh J;clear f z G J;refine F _ _ ⟨⟨n.out.cell 2 rfl,n.out.cell 3 rfl⟩,?_⟩;clear F K;refine oO fun K F=>?_;refine Zel (.tmp 35) (.tmp 37) 23 rfl (W+1) 38 2 16 Zfh _ (1+pl.length) _ rfl r.out _ _ _ _ rfl (SlA.old (w:=w) HL.out C.out) (Zar ll) (by omega) (by unfold maxLen;omega) (show W+1≤w3.heap.size from n.out.lt) ?_;intro ao4 cap4 w4 g A;have I:=ZcR C.out A (fun j N=>by have:=(r.out.lt j N).1;have:=HBxl.out;omega);have L:=Blk.grownV n.out A (Zco r.out (Nat.lt_succ_self _));have HO4:=Zh g;have HB4:=Zh I;have E:=Zh L;clear g A I L;refine F _ _ ⟨⟨E.out.cell 2 rfl,E.out.cell 3 rfl⟩,?_⟩;clear F K
  repeat refine pO ?_
  refine Zd7 ?_;go_wp2;go_ret2;exact k42
 ·have aI:¬ c ≥ 0:=hc;have HC:=Zh hc;clear hc
  go_wp2_with fail
  generalize w2=M at b B ⊢;have s:=Zh (World.ownsRow_nil M (W+1) 38 2);have D:=B;have i:=b;have x2:M.cell? ⟨W,2,none⟩=some (.slice po pl.length pc):=i.out.cell 2 rfl;have x3:M.cell? ⟨W,3,none⟩=some (.slice lo ll.length lc):=i.out.cell 3 rfl;refine rO (fun w':World=>w'.cell? ⟨W,2,none⟩=some (.slice po pl.length pc)∧w'.cell? ⟨W,3,none⟩=some (.slice lo ll.length lc)) (oL [0,1,2,4,5,103,106,7,8]) ⟨x2,x3⟩ ?_;clear x2 x3
  repeat refine pO ?_
  refine oO fun K F=>?_;refine Zel (.tmp 32) (.tmp 34) 23 rfl (W+1) 38 2 16 Zfh _ 0 _ rfl (Zck s.out) _ _ _ _ rfl (SlA.old (w:=M) (Zas.old HP.out D.out) (Below.refl _ _).drew) (Zar pl) (by omega) (by unfold maxLen;omega) (show W+1≤M.heap.size from i.out.lt) ?_;intro aH af w3 f z;have G:=ZcR D.out.drew z (fun j N=>by have:=(s.out.lt j N).1;have:=HBxl.out;omega);have J:=Blk.grownV i.out.drew z (Zco s.out (Nat.lt_succ_self _));have r:=Zh f;have C:=Zh G;have n:=Zh J;clear f z G J;refine F _ _ ⟨⟨n.out.cell 2 rfl,n.out.cell 3 rfl⟩,?_⟩;clear F K;refine oO fun K F=>?_;refine Zel (.tmp 35) (.tmp 37) 23 rfl (W+1) 38 2 16 Zfh _ (0+pl.length) _ rfl r.out _ _ _ _ rfl (SlA.old (w:=w) HL.out C.out) (Zar ll) (by omega) (by unfold maxLen;omega) (show W+1≤w3.heap.size from n.out.lt) ?_;intro ao4 cap4 w4 g A;have I:=ZcR C.out A (fun j N=>by have:=(r.out.lt j N).1;have:=HBxl.out;omega);have L:=Blk.grownV n.out A (Zco r.out (Nat.lt_succ_self _));have HO4:=Zh g;have HB4:=Zh I;have E:=Zh L;clear g A I L;refine F _ _ ⟨⟨E.out.cell 2 rfl,E.out.cell 3 rfl⟩,?_⟩;clear F K
  repeat refine pO ?_
  refine Zd7 ?_;go_wp2;go_ret2;exact k38
theorem Zjp (m:Md) (h:Hd) (s:Nat) (w:World) (H:Zaz w h m) (n:Za2 m=true) (K:(s:Int) < m.sel):Calls Tryz.prog 212 #[.agg (HM.mk h m),.int .i64 s] w (Zio w (ZaO m s) 0):=by
 have A:Blk (w.alloc (.cells (HM.mk h m) 26)) w.heap.size (HM.mk h m) 26:=Blk.new w _ _;have d:Below w.heap.size w (w.alloc (.cells (HM.mk h m) 26)):=by exact bE
 have k:=Zjn m h s m.sel _ (H.old d) n (by omega);have z:=Zir n;have g:=Zip n;generalize hlq:ZaO m s=q;have E:=Zh k;have F:=Zh A;have C:=Zh H;have o:=Zh d;have u:=Zh hlq;have r:=Zh g;clear k A d H hlq n g;go_enter Tryz.func212,Tryz.ntmps212
 go_wp2_with fail
 refine E.out.mono ?_;rintro L l ⟨rfl,e⟩;have c:=Zh (Zag o.out e);have b:=F.out.old e;have N:l.cell? ⟨w.heap.size,0,none⟩=some (.slice h.co m.cl.length h.cc):=b.cell 0 rfl;have O:l.cell? ⟨w.heap.size,1,none⟩=some (.slice h.so m.st.length h.sc):=b.cell 1 rfl;have P:l.cell? ⟨w.heap.size,2,none⟩=some (.slice h.eo m.me.length h.ec):=b.cell 2 rfl;have Q:l.cell? ⟨w.heap.size,3,none⟩=some (.int .i64 m.sel):=b.cell 3 rfl;have R:=b.lt;have f:=ZgC m h s l (C.out.old c.out) ⟨by omega,K⟩ z.1 (fun j J=>Zhc (r.out j J));rw [u.out] at f;have v:=Zh f;clear b f e
 go_wp2_with fail
 refine v.out.mono ?_;rintro M S ⟨⟨G,x,rfl,B,i⟩,y⟩;have D:=Zh B;have t:=Zh i;clear B i;go_wp2;go_ret2;exact ⟨⟨G,x,rfl,D.out,fun a I=>by have:=t.out a I;have:=c.out.size;omega⟩,Zag c.out y⟩
theorem Zjq (m:Md) (h:Hd) (s:Nat) (w:World) (H:Zaz w h m) (b:Za2 m=true) (a:(s:Int) < m.sel):Calls Tryz.prog 212 #[.agg (HM.mk h m),.int .i64 s] w (Zin w (ZaO m s) 0):=
 (Zjp m h s w H b a).mono fun e w' ⟨⟨ao,cap,h1,h2,_⟩,h3⟩=>⟨⟨ao,cap,h1,h2⟩,h3⟩
theorem Zjr (m:Md) (h:Hd) (c s:Nat) (w:World) (H:Zaz w h m) (y:Za2 m=true) (F:c<m.cl.length) (hs:(s:Int) < m.sel):Calls Tryz.prog 286 #[.agg (HM.mk h m),.int .i64 c,.int .i64 s] w (Zhi w (.int .i64 (if m.ent c s<0 then 0 else m.ent c s)) (.int .i64 (if m.ent c s<0 then 3 else 0))):=by
 have L:Blk (w.alloc (.cells (HM.mk h m) 26)) w.heap.size (HM.mk h m) 26:=Blk.new w _ _;have k:Below w.heap.size w (w.alloc (.cells (HM.mk h m) 26)):=by exact bE
 have x:=Zjn m h c m.cl.length _ (H.old k) y (by omega);have v:=fun w' (hb:Below w.heap.size w w')=>Zjn m h s m.sel w' (H.old hb) y (by omega);have u:=Zip y;have I:=Zhc (u c F);have b:m.ent c s=(m.cl.getD c default).m.getD s 0:=rfl;generalize hee:m.ent c s=e at b ⊢;generalize hv1:(if e<0 then (0:Int) else e)=v1;generalize hv2:(if e<0 then (3:Int) else 0)=v2;have r:=Zh hv1;have t:=Zh hv2;clear hv1 hv2;have B:=Zh b;have Q:=Zh x;have C:=Zh v;have R:=Zh L;have O:=Zh H;have A:=Zh k;clear x v L k H y u b hee;obtain ⟨K,J,so,sc,U,T,W,he⟩:=h;dsimp only at *;have V:(c:Int) < m.cl.length:=by omega
 go_enter Tryz.func286,Tryz.ntmps286
 go_wp2_with fail
 refine Q.out.mono ?_;rintro e1 z ⟨rfl,l⟩;have q:=Zh (Zag A.out l);have a:=R.out.old l;have M:z.cell? ⟨w.heap.size,0,none⟩=some (.slice K m.cl.length J):=a.cell 0 rfl;have X:z.cell? ⟨w.heap.size,1,none⟩=some (.slice so m.st.length sc):=a.cell 1 rfl;have Y:z.cell? ⟨w.heap.size,2,none⟩=some (.slice U m.me.length T):=a.cell 2 rfl;have Z:z.cell? ⟨w.heap.size,3,none⟩=some (.int .i64 m.sel):=a.cell 3 rfl;have rl:=a.lt;have D:=Zh a;clear a l
 go_wp2_with fail
 refine (C.out _ q.out).mono ?_;rintro e2 w2 ⟨rfl,n⟩;have g:=Zh (Zag q.out n);have j:=D.out.old n;have M:w2.cell? ⟨w.heap.size,0,none⟩=some (.slice K m.cl.length J):=j.cell 0 rfl;have rl:=j.lt;clear X Y Z j n;have o:=O.out.old g.out;obtain ⟨ad,d,-,-,-,E⟩:=o.cls F;obtain ⟨S,f,t0⟩:=ZaC (o.t c F) (i:=s) (by omega);have G:(s:Int) < (m.cl.getD c default).m.length:=by omega
 dsimp only at d E f;rw [f] at E;rw [d] at M;rw [←B.out] at t0;generalize (m.cl.getD c default).m.length=tn at E G I;have P:=Zh f;have N:=Zh d;clear f d o;by_cases he0:e<0
 ·go_wp2;go_ret2;refine Zhj ?_ ?_ g.out
  ·rw [←r.out,if_pos he0];rfl
  ·rw [←t.out,if_pos he0];rfl
 ·go_wp2;go_ret2;refine Zhj ?_ ?_ g.out
  ·rw [←r.out,if_neg (by omega)];rfl
  ·rw [←t.out,if_neg (by omega)];rfl
end
