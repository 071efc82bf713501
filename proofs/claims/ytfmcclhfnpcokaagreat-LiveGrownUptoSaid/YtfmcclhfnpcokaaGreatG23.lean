import Derived.Test.YtfmcclhfnpcokaaGreatG22
set_option linter.all false
set_option maxRecDepth 100000
set_option maxHeartbeats 4000000
namespace Go.Proofs.YtfmcclhfnpcokaaGreat
theorem k33{p:Prop}(h:p:=by
 by_cases h0:er=0
 ·have HG:=Zh (show Zmj m (n-(k+1)) (k+1)=q by have:=HFk.out;rwa [if_pos h0] at this);subst h0;go_wp2;go_roundw
  case rel=>exact ⟨k+1,by omega,by go_num,HB2.out,HG⟩
  case measure=>simp [intOf];omega
 ·have HG:=Zh (show q=(k,pl,er) by have:=HFk.out;rw [if_neg h0] at this;exact this.symm);have hn0:(er != 0)=true:=by simpa using h0
  go_wp2;go_ret3;rw [HG.out];exact ⟨rfl,Zag HB0.out HB2.out⟩):p:=h
theorem k62{p:Prop}(h:p:=by
 have hkn:¬ (k:Int) < n:=by omega
 have HG:=Zh (show q=(0,0,0) by have:=HF.out;rw [show n-k=0 by omega] at this;exact this.symm);go_wp2;go_ret3;rw [HG.out];exact ⟨rfl,Zag HB0.out HL.out⟩):p:=h
section
open Go.RowKit
def Zmj (m:Md):Nat→Nat→Nat × Nat × Int
 | 0,_=>(0,0,0)
 | n+1,k=>if (ZeI m k).2.2=0 then Zmj m n (k+1) else (k,(ZeI m k).2.1,(ZeI m k).2.2)
def Zmk (m:Md):Nat × Nat × Int:=if Za2 m=true then Zmj m m.me.length 0 else (0,0,1)
def Zml (W:World) (q:Nat × Nat × Int):Ending→World→Prop:=fun e w'=>e=.returned (.tuple #[.int .i64 (q.1:Int),.int .i64 (q.2.1:Int),.int .i64 q.2.2])∧Below W.heap.size W w'
theorem Zmm {m:Md} (a:Za2 m=true) {k:Nat} (b:k<m.me.length):ZeJ m k=ZeI m k:=by unfold ZeJ;rw [if_pos ⟨a,by omega,by omega⟩,Int.toNat_natCast]
theorem Zmn (w:World) (h:Hd) (m:Md) (H:Zaz w h m):Calls Tryz.prog 110 #[.agg (HM.mk h m)] w (Zml w (Zmk m)):=by
 obtain ⟨d,e⟩:∃ d,d=w.alloc (.cells (HM.mk h m) 26):=⟨_,rfl⟩;have o:Below w.heap.size w d:=by rw [e];exact bE
 have M:Blk d w.heap.size (HM.mk h m) 26:=by rw [e];exact Blk.new w _ _
 have C:=Zh (show ∀ g,Below d.heap.size d g→_ from fun g P=>Zj8 (M.old P));have A:=Zh (Zhh m h d (H.old o));have J:=Zh e;have HB0:=Zh o;obtain ⟨n,I⟩:∃ n,n=m.me.length:=⟨_,rfl⟩;have Q:n≤140737488355328:=by rw [I];exact H.bz.2.2
 have t:=Zh I;have N:=Zh H;clear M e o I H;cases hq:Za2 m
 ·have B:=Zh hq;rw [hq] at A;clear hq;rw [show Zmk m=(0,0,1) by unfold Zmk;rw [B.out];rfl];go_enter Tryz.func110,Tryz.ntmps110
  go_upto_region 1 with fail
  rw [←J.out];obtain ⟨u,v,j,x⟩:=C.out _ (Below.refl _ _)
  go_wp2_with (go_at_call 124;refine A.out.mono ?_;rintro r U ⟨rfl,a⟩;have c:=Zh a;clear a)
  go_ret3;exact ⟨rfl,Zag HB0.out c.out⟩
 ·have B:=Zh hq;rw [hq] at A;clear hq;obtain ⟨q,s⟩:∃ q,q=Zmk m:=⟨_,rfl⟩;have z:Zmj m n 0=q:=by rw [s,t.out];unfold Zmk;rw [B.out];rfl
  rw [←s];have D:=Zh z;have O:=Zh (show ∀ (k:Nat),k<n→∀ g,Below w.heap.size w g→Calls Tryz.prog 71 #[.agg (HM.mk h m),.int .i64 k] g (ZjO g (ZeI m k)) from fun k K g G=>Zk0 h m k g (N.out.old G) B.out (by rw [←t.out];exact K));clear s z;go_enter Tryz.func110,Tryz.ntmps110
  go_upto_region 1 with fail
  rw [←J.out];obtain ⟨u,v,j,x⟩:=C.out _ (Below.refl _ _)
  go_wp2_with (go_at_call 124;refine A.out.mono ?_;rintro r U ⟨rfl,a⟩;have c:=Zh a;clear a u v j x;obtain ⟨u,v,j,x⟩:=C.out _ c.out;rw [←t.out] at j)
  clear u v j x
  go_loopw [15] (fun i wr=>∃ k:Nat,k≤n∧i=.int .i64 k∧Below d.heap.size d wr∧Hid (Zmj m (n-k) k=q)) (fun i _=>n-(intOf i).toNat)
  case atStart=>exact ⟨0,by omega,rfl,c.out,D⟩
  case round=>
   obtain ⟨k,K,rfl,f,HF⟩:=hrel;have HL:=Zh f;clear f;obtain ⟨u,v,j,x⟩:=C.out _ HL.out;rw [←t.out] at j;by_cases hkl:k<n
   ·have hkn:(k:Int) < n:=by omega
    have S:IntKind.i64.wrap ((k:Int)+1)=k+1:=IntWalk.i64_in _ (by omega);have b:=HF.out;rw [show n-k=(n-(k+1))+1 by omega,Zmj] at b;have l:=O.out k hkl;generalize ZeI m k=p at l b;obtain ⟨T,pl,er⟩:=p;have E:=Zh l;dsimp only at b;have HFk:=Zh b;clear l b
    go_upto_region 7 with (go_at_call 71;have F:=E.out _ (Zag HB0.out HL.out);rw [←t.out] at F;refine F.mono ?_;rintro r X ⟨⟨W,V,L,rfl,R⟩,y⟩;have HB2:=Zh (Zag HL.out y);clear R y F)
    exact k33
   ·exact k62
theorem Zmo (w:World) (h:Hd) (m:Md) (H:Zaz w h m):Calls Tryz.prog 49 #[.agg (HM.mk h m)] w (Zml w (Zmk m)):=by
 obtain ⟨d,e⟩:∃ d,d=w.alloc (.cells (HM.mk h m) 26):=⟨_,rfl⟩;have o:Below w.heap.size w d:=by rw [e];exact bE
 have M:Blk d w.heap.size (HM.mk h m) 26:=by rw [e];exact Blk.new w _ _
 have C:=Zh (show ∀ g,Below d.heap.size d g→_ from fun g P=>Zj8 (M.old P));have A:=Zh (Zjm m h d (H.old o));have J:=Zh e;have HB0:=Zh o;obtain ⟨n,I⟩:∃ n,n=m.me.length:=⟨_,rfl⟩;have Q:n≤140737488355328:=by rw [I];exact H.bz.2.2
 have t:=Zh I;have N:=Zh H;clear M e o I H;cases hq:Za2 m
 ·have B:=Zh hq;rw [hq] at A;clear hq;rw [show Zmk m=(0,0,1) by unfold Zmk;rw [B.out];rfl];go_enter Tryz.func49,Tryz.ntmps49
  go_upto_region 1 with fail
  rw [←J.out];obtain ⟨u,v,j,x⟩:=C.out _ (Below.refl _ _)
  go_wp2_with (go_at_call 60;refine A.out.mono ?_;rintro r U ⟨rfl,a⟩;have c:=Zh a;clear a)
  go_ret3;exact ⟨rfl,Zag HB0.out c.out⟩
 ·have B:=Zh hq;rw [hq] at A;clear hq;obtain ⟨q,s⟩:∃ q,q=Zmk m:=⟨_,rfl⟩;have z:Zmj m n 0=q:=by rw [s,t.out];unfold Zmk;rw [B.out];rfl
  rw [←s];have D:=Zh z;have O:=Zh (show ∀ (k:Nat),k<n→∀ g,Below w.heap.size w g→Calls Tryz.prog 50 #[.agg (HM.mk h m),.int .i64 k] g (ZjO g (ZeI m k)) from fun k K g G=>by have:=Zmi h m k g (N.out.old G);rwa [Zmm B.out (by rw [←t.out];exact K)] at this);clear s z;go_enter Tryz.func49,Tryz.ntmps49
  go_upto_region 1 with fail
  rw [←J.out];obtain ⟨u,v,j,x⟩:=C.out _ (Below.refl _ _)
  go_wp2_with (go_at_call 60;refine A.out.mono ?_;rintro r U ⟨rfl,a⟩;have c:=Zh a;clear a u v j x;obtain ⟨u,v,j,x⟩:=C.out _ c.out;rw [←t.out] at j)
  clear u v j x
  go_loopw [5] (fun i wr=>∃ k:Nat,k≤n∧i=.int .i64 k∧Below d.heap.size d wr∧Hid (Zmj m (n-k) k=q)) (fun i _=>n-(intOf i).toNat)
  case atStart=>exact ⟨0,by omega,rfl,c.out,D⟩
  case round=>
   obtain ⟨k,K,rfl,f,HF⟩:=hrel;have HL:=Zh f;clear f;obtain ⟨u,v,j,x⟩:=C.out _ HL.out;rw [←t.out] at j;by_cases hkl:k<n
   ·have hkn:(k:Int) < n:=by omega
    have S:IntKind.i64.wrap ((k:Int)+1)=k+1:=IntWalk.i64_in _ (by omega);have b:=HF.out;rw [show n-k=(n-(k+1))+1 by omega,Zmj] at b;have l:=O.out k hkl;generalize ZeI m k=p at l b;obtain ⟨T,pl,er⟩:=p;have E:=Zh l;dsimp only at b;have HFk:=Zh b;clear l b
    go_upto_region 7 with (go_at_call 50;have F:=E.out _ (Zag HB0.out HL.out);rw [←t.out] at F;refine F.mono ?_;rintro r X ⟨⟨W,V,L,rfl,R⟩,y⟩;have HB2:=Zh (Zag HL.out y);clear R y F)
    exact k33
   ·exact k62
end
