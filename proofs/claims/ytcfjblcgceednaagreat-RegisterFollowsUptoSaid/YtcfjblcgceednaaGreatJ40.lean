import Derived.Test.YtcfjblcgceednaaGreatJ38
import Derived.Test.YtcfjblcgceednaaGreatJ39
import Derived.Test.YtcfjblcgceednaaGreatJ30
set_option linter.all false
set_option maxRecDepth 100000
set_option maxHeartbeats 16000000
namespace Go.Proofs.YtcfjblcgceednaaGreat
section
open Go.RowKit
theorem Zsg (m:Md) (h:Hd) (w:World) (H:Zay w h m):Calls Tryz.prog 32 #[.agg (HM.mk h m)] w (Zph w):=by
  obtain ⟨z,u⟩:∃ z,z=w.alloc (.cells (HM.mk h m) 26):=⟨_,rfl⟩;have G:=Zh (show Below w.heap.size w z by rw [u];exact bE);have B:=Zh (show Blk z w.heap.size (HM.mk h m) 26 by rw [u];exact Blk.new _ _ _);have I:=Zh (H.old G.out);have K:=Zh u;have F:=H.bz;obtain ⟨X,Y,Z⟩:=F;clear u H;go_enter Tryz.func32,Tryz.ntmps32
  go_upto_region 1 with fail
  rw [←K.out];have A:=B.out.cell 0 (v:=.slice h.co m.cl.length h.cc) rfl;have T:=B.out.cell 1 (v:=.slice h.so m.st.length h.sc) rfl;have E:=B.out.cell 2 (v:=.slice h.eo m.me.length h.ec) rfl
  go_upto_region 2 with fail
  clear A T E;go_wp2
  go_loopw [3,4] (fun s i wr=>∃ (k:Nat) (n:Int),k≤m.cl.length∧i=.int .i64 k∧s=.int .i64 n∧Hid (Below z.heap.size z wr)) (fun _ i _=>m.cl.length-(intOf i).toNat)
  case atStart=>exact ⟨0,_,Nat.zero_le _,rfl,rfl,by exact bE⟩
  case round=>
    obtain ⟨k,n,U,rfl,rfl,f⟩:=hrel;rename World=>wo;have A:=(B.out.old f.out).cell 0 (v:=.slice h.co m.cl.length h.cc) rfl;by_cases hc:k<m.cl.length∧n≤400
    · obtain ⟨j,L⟩:=hc;have x:(k:Int) < m.cl.length:=by omega
      have O:IntKind.i64.wrap ((k:Int)+1)=((k+1:Nat):Int):=IntWalk.i64_in _ (by omega);obtain ⟨b,e,-,-,C,D⟩:=(I.out.old f.out).cls j;rw [e] at A;clear e
      go_upto_region 5 with fail
      refine rO (Cs [(⟨w.heap.size,0,none⟩,.slice (some b) m.cl.length h.cc),(⟨(b.add (k*4)).block,(b.add (k*4)).off+2,none⟩,.slice (h.c k).fo (m.cl.getD k default).f.length (h.c k).fc),(⟨(b.add (k*4)).block,(b.add (k*4)).off+3,none⟩,.slice (h.c k).mo (m.cl.getD k default).m.length (h.c k).mc)]) (oL [0,1,2,3,4,5,6,7,8,9,10,11,12,13,14,15,16,17]) ⟨A,C,D,trivial⟩ ?_;clear A C D
      repeat refine pO ?_
      refine Zd5 ?_;go_wp2;exact ⟨⟨k+1,_,j,rfl,rfl,f.out.drew⟩,by simp [intOf];omega⟩
    · by_cases j:k<m.cl.length
      all_goals first
        | (have x:(k:Int) < m.cl.length:=by omega
           have L:¬ n≤400:=fun q=>hc ⟨j,q⟩;have M:400<n:=by omega
           clear hc;go_wp2)
        | (have x:¬ (k:Int) < m.cl.length:=by omega
           clear hc;go_wp2)
      all_goals
        clear A
        go_loopw [3,5] (fun s i wr=>∃ (k:Nat) (n:Int),k≤m.me.length∧i=.int .i64 k∧s=.int .i64 n∧Hid (Below z.heap.size z wr)) (fun _ i _=>m.me.length-(intOf i).toNat)
        case atStart=>exact ⟨0,_,Nat.zero_le _,rfl,rfl,f.out⟩
        case round=>
          obtain ⟨q,p,V,rfl,rfl,g⟩:=hrel;rename World=>W;have E:=(B.out.old g.out).cell 2 (v:=.slice h.eo m.me.length h.ec) rfl;by_cases hc:q<m.me.length∧p≤3000
          · obtain ⟨r,N⟩:=hc;have y:(q:Int) < m.me.length:=by omega
            have R:IntKind.i64.wrap ((q:Int)+1)=((q+1:Nat):Int):=IntWalk.i64_in _ (by omega);obtain ⟨b,e,-,-,C,D,-,-,J⟩:=(I.out.old g.out).mth r;rw [e] at E;clear e
            go_upto_region 9 with fail
            refine rO (Cs [(⟨w.heap.size,2,none⟩,.slice (some b) m.me.length h.ec),(⟨(b.add (q*7)).block,(b.add (q*7)).off+2,none⟩,.slice (h.e q).po (m.me.getD q default).p.length (h.e q).pc),(⟨(b.add (q*7)).block,(b.add (q*7)).off+3,none⟩,.slice (h.e q).lo (m.me.getD q default).l.length (h.e q).lc),(⟨(b.add (q*7)).block,(b.add (q*7)).off+6,none⟩,.slice (h.e q).ko (m.me.getD q default).k.length (h.e q).kc)]) (oL [0,1,2,3,4,5,6,7,8,9,10,11,12,13,14,15,16,17,18,19,20,21,22,23,24,25]) ⟨E,C,D,J,trivial⟩ ?_;clear E C D J
            repeat refine pO ?_
            refine Zd5 ?_;go_wp2;exact ⟨⟨q+1,_,r,rfl,rfl,g.out.drew⟩,by simp [intOf];omega⟩
          · by_cases r:q<m.me.length
            all_goals first
              | (have y:(q:Int) < m.me.length:=by omega
                 have N:¬ p≤3000:=fun q=>hc ⟨r,q⟩;clear hc;go_wp2)
              | (have y:¬ (q:Int) < m.me.length:=by omega
                 clear hc;go_wp2)
            all_goals
              go_ret;exact ⟨⟨_,rfl⟩,Zaf G.out g.out⟩
end
section
open Go.RowKit
attribute [local go_sem] World.cell?_alloc_some
def Zsh (W:World) (n:Nat):Ending→World→Prop:=fun e w'=>∃ (zs:List Int) (ao:Option Addr) (cap:Nat),e=.returned (.slice ao zs.length cap)∧zs.length=n∧Zar w' ao cap zs∧Below W.heap.size W w'
theorem Zsi {m:Md}{h:Hd}{k:Nat} (Y:k<m.me.length) (hp:(m.me.getD k default).p.length≤4) (w:World) (H:Zay w h m) (Q:Option Addr) (P:Nat) (B:List Int) (S:Zar w Q P B):Calls Tryz.prog 42 #[.agg (HM.mk h m),.int .i64 k,.slice Q B.length P] w (Zsh w (m.me.getD k default).p.length):=by
 have Z:(k:Int) < m.me.length:=by omega
 obtain ⟨ea,M,-,-,L,-⟩:=H.mth Y;obtain ⟨g,q⟩:∃ g,g=w.alloc (.cells (HM.mk h m) 26):=⟨_,rfl⟩;have E:Below w.heap.size w g:=by rw [q];exact bE
 have X:=Zh (show Blk g w.heap.size (HM.mk h m) 26 by rw [q];exact Blk.new _ _ _);have d:=Zh E;have t:=Zh L;have J:=Zh M;have W:=Zh S;rw [M] at q ⊢;have K:=Zh q;generalize (m.me.getD k default).p.length=pl at t hp ⊢;clear q E L M S H;go_enter Tryz.func42,Tryz.ntmps42
 go_upto_region 3 with fail
 rw [←K.out]
 go_loopw [7,8] (fun l i wr=>∃ (j:Nat) (c:List Int) (A:Option Addr) (f:Nat),i=.int .i64 j∧l=.slice A c.length f∧j≤pl∧c.length=j∧Hid (wr.ownsRow g.heap.size 3 1 (.slice A c.length f) c.length (c.map (Value.int .i64)))∧Hid (Below g.heap.size g wr)) (fun _ i _=>pl-(intOf i).toNat)
 case atStart=>exact ⟨0,[],none,0,rfl,rfl,Nat.zero_le _,rfl,World.ownsRow_nil _ _ _ _,Below.refl _ _⟩
 case round=>
  obtain ⟨j,c,A,f,rfl,rfl,I,G,C,r⟩:=hrel;rename World=>wo;have b:=Zh G;have R:=X.out.old r.out;have x2:=R.cell 2 (v:=.slice h.eo m.me.length h.ec) rfl;rw [J.out] at x2;have L:=((d.out.trans (r.out.mono d.out.size)).cell (Zac t.out)).trans t.out;clear G R;by_cases hjp:j<pl
  ·have T:(j:Int) < pl:=by omega
   have ad:IntKind.i64.wrap ((j:Int)+1)=((j+1:Nat):Int):=IntWalk.i64_in _ (by omega);by_cases hja:j<B.length
   ·have F:(j:Int) < B.length:=by omega
    obtain ⟨za,O,z0⟩:=ZaB (W.out.old (d.out.trans (r.out.mono d.out.size))) hja;generalize B.getD j 0=zv at z0;obtain ⟨v,U⟩:∃ v,v=wrap32 zv:=⟨_,rfl⟩;have D:=Zh (fun V=>Znk zv V);rw [←U] at D;clear U;subst O
    go_wp2_with (first|(go_at_call 94;refine (D.out _).mono ?_;rintro e V ⟨rfl,rfl⟩)|(at_builtin;refine Zaj rfl (.tmp 30) (.tmp 32) 34 rfl g.heap.size 3 1 8 Zcq (.slice A c.length f) c.length (c.map (Value.int .i64)) rfl (C.out.alloc _) _ 1 1 [.int .i64 v] rfl (ZdL (Blk.new' #[.int .i64 v] 3 (by simp)) rfl) (by intro u N;rw [List.mem_singleton.1 N];rfl) (by have:=b.out;omega) (by have:=b.out;unfold maxLen;omega) (by have:=r.out.size;simp;omega) ?_;intro y n z a o;have x:=Zh a;have s:=Zh (show Below g.heap.size g z from ZcV (bal r.out _) o (fun j I=>(C.out.lt j I).1));clear a o))
    refine ⟨⟨j+1,c++[v],y,n,by go_num,by simp,by omega,by simp [b.out],Zh (by have:=x.out;simpa using this),s.out⟩,?_⟩;simp [intOf];omega
   ·have F:¬ (j:Int) < B.length:=by omega
    go_wp2_with (at_builtin;refine Zaj rfl (.tmp 30) (.tmp 32) 34 rfl g.heap.size 3 1 8 Zcq (.slice A c.length f) c.length (c.map (Value.int .i64)) rfl (C.out.alloc _) _ 1 1 [.int .i64 0] rfl (ZdL (Blk.new' #[.int .i64 0] 3 (by simp)) rfl) (by intro u N;rw [List.mem_singleton.1 N];rfl) (by have:=b.out;omega) (by have:=b.out;unfold maxLen;omega) (by have:=r.out.size;simp;omega) ?_;intro y n z a o;have x:=Zh a;have s:=Zh (show Below g.heap.size g z from ZcV (bal r.out _) o (fun j I=>(C.out.lt j I).1));clear a o)
    refine ⟨⟨j+1,c++[0],y,n,by go_num,by simp,by omega,by simp [b.out],Zh (by have:=x.out;simpa using this),s.out⟩,?_⟩;simp [intOf];omega
  ·obtain rfl:j=pl:=by omega
   have ab:¬ (j:Int) < (j:Int):=by omega
   go_wp2;go_ret;exact ⟨c,A,f,rfl,b.out,Zar.of_own (by rw [Zat];exact C.out),d.out.trans (r.out.mono d.out.size)⟩
theorem Zsj {m:Md}{k:Int} (h:(Zr6 m k).2=0) (b:(Zr6 m k).1≤30000):∃ n:Nat,k=n∧PlX m n∧(m.me.getD n default).c<0∧(Zr6 m k).1=3*Zm1 (gW ZmV m) m n+10∧Zm1 (gW ZmV m) m n≤9997∧(Zmg m).2.2=0:=by
 unfold Zr6 at h b ⊢;split at h
 ·cases h
 ·rename_i q;split at h
  ·rename_i d;exact absurd h d
  ·rename_i d;rw [if_neg q,if_neg d] at b ⊢;dsimp only at b ⊢;obtain ⟨j,f⟩:(Zra m k).2=0∧(Zra m k).1=true:=by
    constructor
    ·exact Classical.byContradiction fun e=>q (.inl e)
    ·cases hh:(Zra m k).1
     ·exact absurd (.inr hh) q
     ·rfl
   unfold Zra at j f;by_cases hr:ZpR m k=true
   ·rw [if_pos hr] at f;obtain ⟨l,s,t⟩:=ZpS hr;obtain ⟨n,rfl⟩:∃ n:Nat,k=n:=⟨k.toNat,by omega⟩;have o:ZpU m n=if 1000000000<Zm1 (gW ZmV m) m n then (0,6) else (Zm1 (gW ZmV m) m n,0):=by unfold ZpU;rw [if_pos hr,Int.toNat_natCast]
    have g:¬ 1000000000<Zm1 (gW ZmV m) m n:=fun e=>by have:(ZpU m n).2=0:=Classical.byContradiction fun p=>d p;rw [o,if_pos e] at this;cases this
    rw [o,if_neg g] at b ⊢;dsimp only [Int.toNat_natCast] at f b ⊢;have a:(Zmg m).2.2=0:=by unfold ZpR at hr;simp only [Bool.and_eq_true,decide_eq_true_eq] at hr;exact hr.1
    have c:Zq9 m n=true:=by simpa using f
    unfold Zq9 at c;simp only [Bool.and_eq_true,decide_eq_true_eq,Bool.not_eq_true',List.any_eq_false] at c;refine ⟨n,rfl,⟨l,by omega,ZqZ m.me.length 0 (by unfold Zmg at a;rw [if_pos l] at a;exact a) n (Nat.zero_le _) (by omega),fun i r=>?_⟩,c.2.1,rfl,by omega,a⟩;have:=c.2.2 i r;simpa using this
   ·rw [if_neg hr] at j;cases j
def Zsk (W:World) (m:Md) (k:Int):Ending→World→Prop:=fun e w'=>∃ b:Bool,e=.returned (.bool b)∧(b=true→(Zr6 m k).2=0∧(Zr6 m k).1≤30000)∧Below W.heap.size W w'
theorem Zsl (m:Md) (h:Hd) (k:Int) (w:World) (H:Zay w h m):Calls Tryz.prog 40 #[.agg (HM.mk h m),.int .i64 k] w (Zsk w m k):=by
 obtain ⟨i,c⟩:∃ i,i=w.alloc (.cells (HM.mk h m) 26):=⟨_,rfl⟩;have j:=Zh (show Below w.heap.size w i by rw [c];exact bE);have y:=Zh (show Blk i w.heap.size (HM.mk h m) 26 by rw [c];exact Blk.new _ _ _);have x:=Zh (H.old j.out);have z:=Zh c;obtain ⟨⟨A,B⟩,d⟩:∃ q,q=Zr6 m k:=⟨_,rfl⟩;have n:=Zh (fun w' (H':Zay w' h m)=>show Calls Tryz.prog 38 _ w' (Zhf w' (.int .i64 A) (.int .i64 B)) from by have:=Zsa m h k w' H' (fun r o=>Zrg m h k r o);rwa [←d] at this);unfold Zsk;rw [←d];clear c H d;go_enter Tryz.func40,Tryz.ntmps40
 go_upto_region 1 with fail
 rw [←z.out];obtain ⟨s,t,u,v⟩:=Zj5 y.out
 go_wp2_with (first
  | (go_at_call 32;refine (Zsg m h _ x.out).mono ?_;rintro e C ⟨⟨b,rfl⟩,f⟩;have a:=Zh f;clear f s t u v;obtain ⟨s,t,u,v⟩:=Zj5 (y.out.old a.out))
  | (go_at_call 38;refine (n.out _ (x.out.old a.out)).mono ?_;rintro e D ⟨rfl,g⟩;have l:=Zh (Zaf a.out g);clear g s t u v))
 all_goals
  go_ret
  first
  | exact ⟨_,rfl,(fun e=>by first|(cases e;done)|(simp_all;done)|(constructor<;>simp_all)),Zaf j.out l.out⟩
  | exact ⟨_,rfl,(fun e=>by cases e),Zaf j.out a.out⟩
end
