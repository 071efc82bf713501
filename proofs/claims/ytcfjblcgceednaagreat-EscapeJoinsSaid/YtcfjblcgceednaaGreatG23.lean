/- VerifyModules: both Module, the law. -/
import Derived.Test.YtcfjblcgceednaaGreatG22
set_option linter.all false
set_option linter.unusedVariables false
set_option linter.unusedSimpArgs false
set_option maxRecDepth 100000
set_option maxHeartbeats 4000000
namespace Go.Proofs.YtcfjblcgceednaaGreat
theorem k33{p:Prop}(h:p:=by
 by_cases h0:er=0
 ·have HG:=Zh (show Zmf m (n-(k+1)) (k+1)=q by have:=HFk.out;rwa [if_pos h0] at this)
  subst h0
  go_wp2
  go_roundw
  case rel=>exact ⟨k+1,by omega,by go_num,HB2.out,HG⟩
  case measure=>simp [intOf];omega
 ·have HG:=Zh (show q=(k,pl,er) by have:=HFk.out;rw [if_neg h0] at this;exact this.symm)
  have hn0:(er != 0)=true:=by simpa using h0
  go_wp2
  go_ret3
  rw [HG.out]
  exact ⟨rfl,Zaf HB0.out HB2.out⟩):p:=h
theorem k62{p:Prop}(h:p:=by
 have hkn:¬ (k:Int) < n:=by omega
 have HG:=Zh (show q=(0,0,0) by have:=HF.out;rw [show n-k=0 by omega] at this;exact this.symm)
 go_wp2
 go_ret3
 rw [HG.out]
 exact ⟨rfl,Zaf HB0.out HL.out⟩):p:=h
section
open Go.RowKit
def Zmf (m:Md):Nat→Nat→Nat × Nat × Int
 | 0,_=>(0,0,0)
 | n+1,k=>if (ZeG m k).2.2=0 then Zmf m n (k+1) else (k,(ZeG m k).2.1,(ZeG m k).2.2)
def Zmg (m:Md):Nat × Nat × Int:=if Za1 m=true then Zmf m m.me.length 0 else (0,0,1)
def Zmh (W:World) (q:Nat × Nat × Int):Ending→World→Prop:=fun e w'=>e=.returned (.tuple #[.int .i64 (q.1:Int),.int .i64 (q.2.1:Int),.int .i64 q.2.2])∧Below W.heap.size W w'
theorem Zmi {m:Md} (hm:Za1 m=true) {k:Nat} (hk:k<m.me.length):ZeH m k=ZeG m k:=by
 unfold ZeH
 rw [if_pos ⟨hm,by omega,by omega⟩,Int.toNat_natCast]
theorem Zmj (w:World) (h:Hd) (m:Md) (H:Zay w h m):Calls Tryz.prog 82 #[.agg #[.slice h.co m.cl.length h.cc,.slice h.so m.st.length h.sc,.slice h.eo m.me.length h.ec,.int .i64 m.sel]] w (Zmh w (Zmg m)):=by
 obtain ⟨W0,hW0⟩:∃ W0,W0=w.alloc (.cells #[.slice h.co m.cl.length h.cc,.slice h.so m.st.length h.sc,.slice h.eo m.me.length h.ec,.int .i64 m.sel] 26):=⟨_,rfl⟩
 have hb0:Below w.heap.size w W0:=by rw [hW0];exact bE
 have x0:Blk W0 w.heap.size #[.slice h.co m.cl.length h.cc,.slice h.so m.st.length h.sc,.slice h.eo m.me.length h.ec,.int .i64 m.sel] 26:=by rw [hW0];exact Blk.new w _ _
 have HX:=Zh (show ∀ w',Below W0.heap.size W0 w'→_ from fun w' hb=>Zj5 (x0.old hb))
 have HC:=Zh (Zhe m h W0 (H.old hb0))
 have HW:=Zh hW0
 have HB0:=Zh hb0
 obtain ⟨n,hn⟩:∃ n,n=m.me.length:=⟨_,rfl⟩
 have hn5:n≤140737488355328:=by rw [hn];exact H.bz.2.2
 have HN:=Zh hn
 have HM:=Zh H
 clear x0 hW0 hb0 hn H
 cases hq:Za1 m
 ·have HQ:=Zh hq
  rw [hq] at HC
  clear hq
  rw [show Zmg m=(0,0,1) by unfold Zmg;rw [HQ.out];rfl]
  go_enter Tryz.func82,Tryz.ntmps82
  go_upto_region 1 with fail
  rw [←HW.out]
  obtain ⟨c0,c1,c2,c3⟩:=HX.out _ (Below.refl _ _)
  go_wp2_with (go_at_call 114;refine HC.out.mono ?_;rintro r w1 ⟨rfl,hb1⟩;have HB1:=Zh hb1;clear hb1)
  go_ret3
  exact ⟨rfl,Zaf HB0.out HB1.out⟩
 ·have HQ:=Zh hq
  rw [hq] at HC
  clear hq
  obtain ⟨q,hmq⟩:∃ q,q=Zmg m:=⟨_,rfl⟩
  have hmf:Zmf m n 0=q:=by rw [hmq,HN.out];unfold Zmg;rw [HQ.out];rfl
  rw [←hmq]
  have HMf:=Zh hmf
  have HP:=Zh (show ∀ (k:Nat),k<n→∀ w',Below w.heap.size w w'→Calls Tryz.prog 125 #[.agg #[.slice h.co m.cl.length h.cc,.slice h.so m.st.length h.sc,.slice h.eo m.me.length h.ec,.int .i64 m.sel],.int .i64 k] w' (ZjL w' (ZeG m k)) from fun k hk w' hb'=>ZkW h m k w' (HM.out.old hb') HQ.out (by rw [←HN.out];exact hk))
  clear hmq hmf
  go_enter Tryz.func82,Tryz.ntmps82
  go_upto_region 1 with fail
  rw [←HW.out]
  obtain ⟨c0,c1,c2,c3⟩:=HX.out _ (Below.refl _ _)
  go_wp2_with (go_at_call 114;refine HC.out.mono ?_;rintro r w1 ⟨rfl,hb1⟩;have HB1:=Zh hb1;clear hb1 c0 c1 c2 c3;obtain ⟨c0,c1,c2,c3⟩:=HX.out _ HB1.out;rw [←HN.out] at c2)
  clear c0 c1 c2 c3
  go_loopw [15] (fun i wr=>∃ k:Nat,k≤n∧i=.int .i64 k∧Below W0.heap.size W0 wr∧Hid (Zmf m (n-k) k=q)) (fun i _=>n-(intOf i).toNat)
  case atStart=>exact ⟨0,by omega,rfl,HB1.out,HMf⟩
  case round=>
   obtain ⟨k,hk,rfl,hbel,HF⟩:=hrel
   have HL:=Zh hbel
   clear hbel
   obtain ⟨c0,c1,c2,c3⟩:=HX.out _ HL.out
   rw [←HN.out] at c2
   by_cases hkl:k<n
   ·have hkn:(k:Int) < n:=by omega
    have hwr:IntKind.i64.wrap ((k:Int)+1)=k+1:=IntWalk.i64_in _ (by omega)
    have hfk:=HF.out
    rw [show n-k=(n-(k+1))+1 by omega,Zmf] at hfk
    have hPk:=HP.out k hkl
    generalize ZeG m k=p at hPk hfk
    obtain ⟨sts,pl,er⟩:=p
    have HPk:=Zh hPk
    dsimp only at hfk
    have HFk:=Zh hfk
    clear hPk hfk
    go_upto_region 7 with (go_at_call 125;have h9:=HPk.out _ (Zaf HB0.out HL.out);rw [←HN.out] at h9;refine h9.mono ?_;rintro r w2 ⟨⟨so,sc,rows,rfl,hs⟩,hb2⟩;have HB2:=Zh (Zaf HL.out hb2);clear hs hb2 h9)
    exact k33
   ·exact k62
theorem Zmk (w:World) (h:Hd) (m:Md) (H:Zay w h m):Calls Tryz.prog 135 #[.agg #[.slice h.co m.cl.length h.cc,.slice h.so m.st.length h.sc,.slice h.eo m.me.length h.ec,.int .i64 m.sel]] w (Zmh w (Zmg m)):=by
 obtain ⟨W0,hW0⟩:∃ W0,W0=w.alloc (.cells #[.slice h.co m.cl.length h.cc,.slice h.so m.st.length h.sc,.slice h.eo m.me.length h.ec,.int .i64 m.sel] 26):=⟨_,rfl⟩
 have hb0:Below w.heap.size w W0:=by rw [hW0];exact bE
 have x0:Blk W0 w.heap.size #[.slice h.co m.cl.length h.cc,.slice h.so m.st.length h.sc,.slice h.eo m.me.length h.ec,.int .i64 m.sel] 26:=by rw [hW0];exact Blk.new w _ _
 have HX:=Zh (show ∀ w',Below W0.heap.size W0 w'→_ from fun w' hb=>Zj5 (x0.old hb))
 have HC:=Zh (Zjj m h W0 (H.old hb0))
 have HW:=Zh hW0
 have HB0:=Zh hb0
 obtain ⟨n,hn⟩:∃ n,n=m.me.length:=⟨_,rfl⟩
 have hn5:n≤140737488355328:=by rw [hn];exact H.bz.2.2
 have HN:=Zh hn
 have HM:=Zh H
 clear x0 hW0 hb0 hn H
 cases hq:Za1 m
 ·have HQ:=Zh hq
  rw [hq] at HC
  clear hq
  rw [show Zmg m=(0,0,1) by unfold Zmg;rw [HQ.out];rfl]
  go_enter Tryz.func135,Tryz.ntmps135
  go_upto_region 1 with fail
  rw [←HW.out]
  obtain ⟨c0,c1,c2,c3⟩:=HX.out _ (Below.refl _ _)
  go_wp2_with (go_at_call 60;refine HC.out.mono ?_;rintro r w1 ⟨rfl,hb1⟩;have HB1:=Zh hb1;clear hb1)
  go_ret3
  exact ⟨rfl,Zaf HB0.out HB1.out⟩
 ·have HQ:=Zh hq
  rw [hq] at HC
  clear hq
  obtain ⟨q,hmq⟩:∃ q,q=Zmg m:=⟨_,rfl⟩
  have hmf:Zmf m n 0=q:=by rw [hmq,HN.out];unfold Zmg;rw [HQ.out];rfl
  rw [←hmq]
  have HMf:=Zh hmf
  have HP:=Zh (show ∀ (k:Nat),k<n→∀ w',Below w.heap.size w w'→Calls Tryz.prog 136 #[.agg #[.slice h.co m.cl.length h.cc,.slice h.so m.st.length h.sc,.slice h.eo m.me.length h.ec,.int .i64 m.sel],.int .i64 k] w' (ZjL w' (ZeG m k)) from fun k hk w' hb'=>by have:=Zme h m k w' (HM.out.old hb');rwa [Zmi HQ.out (by rw [←HN.out];exact hk)] at this)
  clear hmq hmf
  go_enter Tryz.func135,Tryz.ntmps135
  go_upto_region 1 with fail
  rw [←HW.out]
  obtain ⟨c0,c1,c2,c3⟩:=HX.out _ (Below.refl _ _)
  go_wp2_with (go_at_call 60;refine HC.out.mono ?_;rintro r w1 ⟨rfl,hb1⟩;have HB1:=Zh hb1;clear hb1 c0 c1 c2 c3;obtain ⟨c0,c1,c2,c3⟩:=HX.out _ HB1.out;rw [←HN.out] at c2)
  clear c0 c1 c2 c3
  go_loopw [5] (fun i wr=>∃ k:Nat,k≤n∧i=.int .i64 k∧Below W0.heap.size W0 wr∧Hid (Zmf m (n-k) k=q)) (fun i _=>n-(intOf i).toNat)
  case atStart=>exact ⟨0,by omega,rfl,HB1.out,HMf⟩
  case round=>
   obtain ⟨k,hk,rfl,hbel,HF⟩:=hrel
   have HL:=Zh hbel
   clear hbel
   obtain ⟨c0,c1,c2,c3⟩:=HX.out _ HL.out
   rw [←HN.out] at c2
   by_cases hkl:k<n
   ·have hkn:(k:Int) < n:=by omega
    have hwr:IntKind.i64.wrap ((k:Int)+1)=k+1:=IntWalk.i64_in _ (by omega)
    have hfk:=HF.out
    rw [show n-k=(n-(k+1))+1 by omega,Zmf] at hfk
    have hPk:=HP.out k hkl
    generalize ZeG m k=p at hPk hfk
    obtain ⟨sts,pl,er⟩:=p
    have HPk:=Zh hPk
    dsimp only at hfk
    have HFk:=Zh hfk
    clear hPk hfk
    go_upto_region 7 with (go_at_call 136;have h9:=HPk.out _ (Zaf HB0.out HL.out);rw [←HN.out] at h9;refine h9.mono ?_;rintro r w2 ⟨⟨so,sc,rows,rfl,hs⟩,hb2⟩;have HB2:=Zh (Zaf HL.out hb2);clear hs hb2 h9)
    exact k33
   ·exact k62
end
end Go.Proofs.YtcfjblcgceednaaGreat
