/- VerifyBreaks returns true: the walk. -/
import Derived.Test.YtkdamjpbnmbeoaaGreatG15
set_option linter.all false
set_option linter.unusedVariables false
set_option linter.unusedSimpArgs false
set_option maxRecDepth 100000
set_option maxHeartbeats 8000000
namespace Go.Proofs.YtkdamjpbnmbeoaaGreat
section
open Go.RowKit
theorem brkV_in {m:Md}{kk j:Nat} (h:(modV m&&inV m.me.length kk)=true) (hj:j≤(m.me.getD kk default).k.length):brkV m kk j=(decide ((passV m kk).2.2≠0)&&decide ((passV m kk).2.1=j),0):=by
 unfold brkV
 rw [if_pos]
 ·rw [Int.toNat_natCast]
  have e:decide (((passV m kk).2.1:Int)=(j:Int))=decide ((passV m kk).2.1=j):=by
   rw [decide_eq_decide];omega
  rw [e]
 ·unfold pointV
  rw [h,Int.toNat_natCast,decide_eq_true (show (0:Int)≤(j:Int) by omega),decide_eq_true (show (j:Int)≤((m.me.getD kk default).k.length:Nat) by omega)]
  rfl
theorem lawBreaks_any (W:World) (h:Hd) (m:Md) (H:ModAt W h m) (k p:Int):Calls Tryz.prog 5 #[.agg #[.slice h.co m.cl.length h.cc,.slice h.so m.st.length h.sc,.slice h.eo m.me.length h.ec,.int .i64 m.sel],.int .i64 k,.int .i64 p] W (Ret W (.bool true)):=by
 obtain ⟨W0,hW0⟩:∃ W0,W0=W.alloc (.cells #[.slice h.co m.cl.length h.cc,.slice h.so m.st.length h.sc,.slice h.eo m.me.length h.ec,.int .i64 m.sel] 26):=⟨_,rfl⟩
 have hb0:Below W.heap.size W W0:=by rw [hW0];exact bE
 have x0:Blk W0 W.heap.size #[.slice h.co m.cl.length h.cc,.slice h.so m.st.length h.sc,.slice h.eo m.me.length h.ec,.int .i64 m.sel] 26:=by rw [hW0];exact Blk.new W _ _
 have HX:=Lib.hid (show ∀ w',Below W0.heap.size W0 w'→_ from fun w' hb=>blk4 (x0.old hb))
 have h1:∀ w',Below W0.heap.size W0 w'→_:=fun w' hb'=>vBreaks_any w' h m (H.old (bthen hb0 hb')) k p
 have h2:∀ w',Below W0.heap.size W0 w'→_:=fun w' hb'=>rBreaks_any w' h m (H.old (bthen hb0 hb')) k p
 have h3:∀ w',Below W0.heap.size W0 w'→_:=fun w' hb'=>rMeth6_any h m k w' (H.old (bthen hb0 hb'))
 obtain ⟨⟨bq,eq⟩,hbq⟩:∃ q,q=brkV m k p:=⟨_,rfl⟩
 rw [←hbq] at h1 h2
 have H1:=Lib.hid h1
 have H2:=Lib.hid h2
 have HW:=Lib.hid hW0
 have HB0:=Lib.hid hb0
 have HM:=Lib.hid H
 clear h1 h2 x0 hW0 hb0 hbq H
 cases hin:modV m&&inV m.me.length k
 ·rw [methodV_no hin] at h3
  have H3:=Lib.hid h3
  clear h3 hin
  go_enter Tryz.func5,Tryz.ntmps5
  go_upto_region 1 with fail
  rw [←HW.out]
  obtain ⟨c0,c1,c2,c3⟩:=HX.out _ (Below.refl _ _)
  go_wp2_with (first
   | (go_at_call 14;refine (sane6_any _).mono ?_;rintro r w4 ⟨rfl,hb4⟩)
   | (go_at_call 12;refine (H3.out _ HB2.out).mono ?_;rintro r w3 ⟨⟨so,sc,rows,rfl,hs⟩,hb3⟩;have HB3:=Lib.hid (bthen HB2.out hb3);clear hs hb3)
   | (go_at_call 18;refine (H2.out _ HB1.out).mono ?_;rintro r w2 ⟨rfl,hb2⟩;have HB2:=Lib.hid (bthen HB1.out hb2);clear hb2 c0 c1 c2 c3;obtain ⟨c0,c1,c2,c3⟩:=HX.out _ HB2.out)
   | (go_at_call 17;refine (H1.out _ (Below.refl _ _)).mono ?_;rintro r w1 ⟨rfl,hb1⟩;have HB1:=Lib.hid hb1;clear hb1 c0 c1 c2 c3;obtain ⟨c0,c1,c2,c3⟩:=HX.out _ HB1.out))
  go_ret
  exact ret_ok rfl (bthen HB0.out (bthen HB3.out hb4))
 ·have hi2:=hin
  simp only [Bool.and_eq_true,inV,decide_eq_true_eq] at hi2
  obtain ⟨hmv,hk0,hk1⟩:=hi2
  obtain ⟨kk,rfl⟩:∃ d:Nat,k=d:=⟨k.toNat,by omega⟩
  have hkk:kk<m.me.length:=by omega
  have hkk2:(kk:Int) < m.me.length:=hk1
  rw [methodV_in hmv hkk] at h3
  obtain ⟨hper,hple⟩:=passV_err m kk
  have hnc9:=(mth_ok hmv hkk).z.2.2
  obtain ⟨nc,hnc⟩:∃ n,n=(m.me.getD kk default).k.length:=⟨_,rfl⟩
  have h4:∀ j:Nat,j≤nc→∀ w',Below W0.heap.size W0 w'→_:=fun j hj w' hb'=>vBreaks_any w' h m (HM.out.old (bthen HB0.out hb')) kk j
  have h5:∀ j:Nat,j≤nc→brkV m kk j=_:=fun j hj=>brkV_in hin (by rw [←hnc];exact hj)
  generalize passV m kk=pv at h3 hper hple h5
  obtain ⟨sts,pl,er⟩:=pv
  dsimp only at hper hple h5
  rw [←hnc] at hple hnc9
  have HMt:=Lib.hid (show ∀ w',Below W.heap.size W w'→_ from fun w' hb'=>(HM.out.old hb').mth hkk)
  have her1:(er == 1)=false:=by simpa using hper
  have H3:=Lib.hid h3
  have HNc:=Lib.hid hnc
  have H4:=Lib.hid (show ∀ j:Nat,j≤nc→∀ w',Below W0.heap.size W0 w'→Calls Tryz.prog 17 #[.agg #[.slice h.co m.cl.length h.cc,.slice h.so m.st.length h.sc,.slice h.eo m.me.length h.ec,.int .i64 m.sel],.int .i64 kk,.int .i64 j] w' (Ret2 w' (.bool (decide (er≠0)&&decide (pl=j))) (.int .i64 0)) from fun j hj w' hb'=>by
   have h9:=h4 j hj w' hb'
   rwa [h5 j hj] at h9)
  obtain ⟨ea,heo,-⟩:=(HM.out).mth hkk
  have HEo:=Lib.hid heo
  clear h3 h4 h5 hin hmv hk0 hk1 hper hnc heo
  go_enter Tryz.func5,Tryz.ntmps5
  go_upto_region 1 with fail
  rw [←HW.out]
  obtain ⟨c0,c1,c2,c3⟩:=HX.out _ (Below.refl _ _)
  go_upto_region 8 with (first
   | (go_at_call 12;refine (H3.out _ HB2.out).mono ?_;rintro r w3 ⟨⟨so,sc,rows,rfl,hs⟩,hb3⟩;have HB3:=Lib.hid (bthen HB2.out hb3);clear hs hb3)
   | (go_at_call 18;refine (H2.out _ HB1.out).mono ?_;rintro r w2 ⟨rfl,hb2⟩;have HB2:=Lib.hid (bthen HB1.out hb2);clear hb2 c0 c1 c2 c3;obtain ⟨c0,c1,c2,c3⟩:=HX.out _ HB2.out)
   | (go_at_call 17;refine (H1.out _ (Below.refl _ _)).mono ?_;rintro r w1 ⟨rfl,hb1⟩;have HB1:=Lib.hid hb1;clear hb1 c0 c1 c2 c3;obtain ⟨c0,c1,c2,c3⟩:=HX.out _ HB1.out))
  clear c0 c1 c2 c3
  go_wp2
  go_loopw [14,15] (fun a i wr=>∃ (j n:Nat),j≤nc+1∧a=.int .i64 n∧i=.int .i64 j∧Below W0.heap.size W0 wr∧n=(if er≠0∧pl<j then 1 else 0)) (fun _ i _=>nc+1-(intOf i).toNat)
  case atStart=>exact ⟨0,0,by omega,rfl,rfl,HB3.out,by simp⟩
  case round=>
   obtain ⟨j,n,hj,rfl,rfl,hbel,hn⟩:=hrel
   have HL:=Lib.hid hbel
   have HNn:=Lib.hid hn
   have hn1:n≤1:=by rw [hn];split<;>omega
   clear hbel hn
   obtain ⟨c0,c1,c2,c3⟩:=HX.out _ HL.out
   obtain ⟨ea',heo,-,-,-,-,-,-,m6⟩:=HMt.out wr (bthen HB0.out HL.out)
   rw [HEo.out] at heo
   cases heo
   rw [←HNc.out] at m6
   rw [HEo.out] at c2
   by_cases hjl:j≤nc
   ·have hjl2:(j:Int)≤nc:=by omega
    have hwr:IntKind.i64.wrap ((j:Int)+1)=j+1:=IntWalk.i64_in _ (by omega)
    have hwn:IntKind.i64.wrap ((n:Int)+1)=n+1:=IntWalk.i64_in _ (by omega)
    have h9:=H4.out j hjl wr HL.out
    rw [HEo.out] at h9
    have hcs:∃ b:Bool,(decide (er≠0)&&decide (pl=j))=b:=⟨_,rfl⟩
    obtain ⟨b,hb⟩:=hcs
    rw [hb] at h9
    have H9:=Lib.hid h9
    have HBb:=Lib.hid hb
    clear h9 hb
    cases b
    all_goals
     go_wp2_with (go_at_call 17;refine H9.out.mono ?_;rintro r w5 ⟨rfl,hb5⟩;have HB5:=Lib.hid (bthen HL.out hb5);clear hb5)
     go_roundw
     case rel=>
      first
       | exact ⟨j+1,n,by omega,rfl,by go_num,HB5.out,by
         have e1:=HBb.out
         have e2:=HNn.out
         rw [e2]
         by_cases h0:er=0
         ·simp [h0]
         ·have hne:pl≠j:=by intro e;simp [h0,e] at e1
          by_cases h7:pl<j
          ·rw [if_pos ⟨h0,h7⟩,if_pos ⟨h0,by omega⟩]
          ·rw [if_neg (by omega),if_neg (by omega)]⟩
       | exact ⟨j+1,n+1,by omega,by go_num,by go_num,HB5.out,by
         have e1:=HBb.out
         have e2:=HNn.out
         simp only [Bool.and_eq_true,decide_eq_true_eq] at e1
         rw [if_pos ⟨e1.1,by omega⟩,e2,if_neg (by omega)]⟩
     case measure=>simp [intOf];omega
   ·have hjl2:¬ (j:Int)≤nc:=by omega
    have hjn:j=nc+1:=by omega
    have hfin:(((n:Int) == 0) == (er == 0))=true∧(n:Int)≤1:=by
     refine ⟨?_,by omega⟩
     have e2:=HNn.out
     by_cases h0:er=0
     ·rw [if_neg (by simp [h0])] at e2
      simp [e2,h0]
     ·have:=hple h0
      rw [if_pos ⟨h0,by omega⟩] at e2
      simp [e2,h0]
    obtain ⟨hf1,hf2⟩:=hfin
    have hcs:(n=0∧er=0)∨(n=1∧(er == 0)=false):=by
     by_cases h0:er=0
     ·left
      rw [h0] at hf1
      simp at hf1
      exact ⟨hf1,h0⟩
     ·right
      have he:(er == 0)=false:=by simpa using h0
      rw [he] at hf1
      simp at hf1
      exact ⟨by omega,he⟩
    clear hf1 hf2 hjn
    rcases hcs with ⟨rfl,rfl⟩|⟨rfl,he⟩
    all_goals
     go_wp2_with (go_at_call 14;refine (sane6_any _).mono ?_;rintro r w6 ⟨rfl,hb6⟩)
     go_ret
     exact ret_ok rfl (bthen HB0.out (bthen HL.out hb6))
end
end Go.Proofs.YtkdamjpbnmbeoaaGreat
