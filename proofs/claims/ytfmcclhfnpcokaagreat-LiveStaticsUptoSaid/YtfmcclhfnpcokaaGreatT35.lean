import Derived.Test.YtfmcclhfnpcokaaGreatT31
set_option linter.all false
set_option maxHeartbeats 8000000
namespace Go.Proofs.YtfmcclhfnpcokaaGreat
section
open Go.RowKit
attribute [local go_sem] World.cell?_alloc_some
def ZsP (w:World):Ending→World→Prop:=fun e w'=>(∃ b,e=.returned (.bool b))∧Below w.heap.size w w'
theorem ZsQ (m:Md) (h:Hd) (w:World) (H:Zaz w h m):Calls Tryz.prog 20 #[.agg (HM.mk h m)] w (ZsP w):=by
  obtain ⟨z,u⟩:∃ z,z=w.alloc (.cells (HM.mk h m) 26):=⟨_,rfl⟩;have G:=Zh (show Below w.heap.size w z by rw [u];exact bE);have B:=Zh (show Blk z w.heap.size (HM.mk h m) 26 by rw [u];exact Blk.new _ _ _);have I:=Zh (H.old G.out);have K:=Zh u;have F:=H.bz;obtain ⟨X,Y,z3⟩:=F;clear u H;go_enter Tryz.func20,Tryz.ntmps20
  go_upto_region 1 with fail
  rw [←K.out];have A:=B.out.cell 0 (v:=.slice h.co m.cl.length h.cc) rfl;have T:=B.out.cell 1 (v:=.slice h.so m.st.length h.sc) rfl;have E:=B.out.cell 2 (v:=.slice h.eo m.me.length h.ec) rfl
  go_upto_region 2 with fail
  clear A T E;go_wp2
  go_loopw [3,4] (fun s i wr=>∃ (k:Nat) (n:Int),k≤m.cl.length∧i=.int .i64 k∧s=.int .i64 n∧Hid (Below z.heap.size z wr)) (fun _ i _=>m.cl.length-(intOf i).toNat)
  case atStart=>exact ⟨0,_,Nat.zero_le _,rfl,rfl,by exact bE⟩
  case round=>
    obtain ⟨k,n,U,rfl,rfl,f⟩:=hrel;rename World=>wo;have A:=(B.out.old f.out).cell 0 (v:=.slice h.co m.cl.length h.cc) rfl;by_cases hc:k<m.cl.length∧n≤400
    · obtain ⟨j,L⟩:=hc;have x:(k:Int) < m.cl.length:=by omega
      have O:IntKind.i64.wrap ((k:Int)+1)=((k+1:Nat):Int):=IntWalk.i64_in _ (by omega);obtain ⟨b,e,-,-,C,D⟩:=(I.out.old f.out).cls j;rw [e] at A;clear e
      go_upto_region 5 with fail
      refine rO (Cs [(⟨w.heap.size,0,none⟩,.slice (some b) m.cl.length h.cc),(⟨(b.add (k*4)).block,(b.add (k*4)).off+2,none⟩,.slice (h.c k).fo (m.cl.getD k default).f.length (h.c k).fc),(⟨(b.add (k*4)).block,(b.add (k*4)).off+3,none⟩,.slice (h.c k).mo (m.cl.getD k default).m.length (h.c k).mc)]) (oL [0,1,2,3,4,5,6,7,8,9,10,11,12,13,14,15,16,17]) ⟨A,C,D,trivial⟩ ?_;clear A C D
      repeat refine pO ?_
      refine Zd7 ?_;go_wp2;exact ⟨⟨k+1,_,j,rfl,rfl,f.out.drew⟩,by simp [intOf];omega⟩
    · by_cases j:k<m.cl.length
      all_goals first
        | (have x:(k:Int) < m.cl.length:=by omega
           have L:¬ n≤400:=fun q=>hc ⟨j,q⟩;have M:400<n:=by omega
           clear hc;go_wp2)
        | (have x:¬ (k:Int) < m.cl.length:=by omega
           clear hc;go_wp2)
      all_goals
        clear A
        go_loopw [3,5] (fun s i wr=>∃ (k:Nat) (n:Int),k≤m.me.length∧i=.int .i64 k∧s=.int .i64 n∧Hid (Below z.heap.size z wr)) (fun _ i _=>m.me.length-(intOf i).toNat)
        case atStart=>exact ⟨0,_,Nat.zero_le _,rfl,rfl,f.out⟩
        case round=>
          obtain ⟨q,p,V,rfl,rfl,g⟩:=hrel;rename World=>W;have E:=(B.out.old g.out).cell 2 (v:=.slice h.eo m.me.length h.ec) rfl;by_cases hc:q<m.me.length∧p≤3000
          · obtain ⟨r,N⟩:=hc;have y:(q:Int) < m.me.length:=by omega
            have R:IntKind.i64.wrap ((q:Int)+1)=((q+1:Nat):Int):=IntWalk.i64_in _ (by omega);obtain ⟨b,e,-,-,C,D,-,-,J⟩:=(I.out.old g.out).mth r;rw [e] at E;clear e
            go_upto_region 9 with fail
            refine rO (Cs [(⟨w.heap.size,2,none⟩,.slice (some b) m.me.length h.ec),(⟨(b.add (q*7)).block,(b.add (q*7)).off+2,none⟩,.slice (h.e q).po (m.me.getD q default).p.length (h.e q).pc),(⟨(b.add (q*7)).block,(b.add (q*7)).off+3,none⟩,.slice (h.e q).lo (m.me.getD q default).l.length (h.e q).lc),(⟨(b.add (q*7)).block,(b.add (q*7)).off+6,none⟩,.slice (h.e q).ko (m.me.getD q default).k.length (h.e q).kc)]) (oL [0,1,2,3,4,5,6,7,8,9,10,11,12,13,14,15,16,17,18,19,20,21,22,23,24,25]) ⟨E,C,D,J,trivial⟩ ?_;clear E C D J
            repeat refine pO ?_
            refine Zd7 ?_;go_wp2;exact ⟨⟨q+1,_,r,rfl,rfl,g.out.drew⟩,by simp [intOf];omega⟩
          · by_cases r:q<m.me.length
            all_goals first
              | (have y:(q:Int) < m.me.length:=by omega
                 have N:¬ p≤3000:=fun q=>hc ⟨r,q⟩;clear hc;go_wp2)
              | (have y:¬ (q:Int) < m.me.length:=by omega
                 clear hc;go_wp2)
            all_goals
              go_ret;exact ⟨⟨_,rfl⟩,Zag G.out g.out⟩
end
