import Derived.Test.YtfmcclhfnpcokaaGreatG20
import Derived.Test.YtfmcclhfnpcokaaGreatG21
import Derived.Test.YtfmcclhfnpcokaaGreatG19
set_option linter.all false
set_option maxRecDepth 100000
set_option maxHeartbeats 10000000
namespace Go.Proofs.YtfmcclhfnpcokaaGreat
theorem k31{p:Prop}(h:p:=by
 by_cases q:a=Zew
 ·exact ZlB H Hj hd ht (by decide) hr q
 ·exact ZkN H Hj hd ht (by decide) hr q):p:=h
theorem k63{p:Prop}(h:p:=by
 go_wp2_with (go_at_call 166;refine (HBs.out _ (Zag HB1.out HB2.out)).mono ?_;rintro r w3 ⟨rfl,hb3⟩)
 go_ret;exact Zmc hn1 hn2 he (by decide) (Upd.of (Zag HB1.out (Zag HB2.out hb3)))):p:=h
section
open Go.RowKit
theorem p_1 {w:World}{K:Nat}{m:Md}{ls:List Ty}{ia ib:Int}{k:Option Addr}{e:Nat} :
  Calls Tryz.prog 167 #[ZQ.p K,.agg #[.int .i64 1,.int .i64 ia,.int .i64 ib],.slice k 0 e] w (Zka w (ZeD m ls ⟨1,ia,ib⟩ [])):=by
 have d:Blk ((w.alloc (.cells #[.int .i64 1,.int .i64 ia,.int .i64 ib] 72)).alloc (.cells #[.int .i64 0,.int .i64 0] 38)) (w.heap.size+1) #[.int .i64 0,.int .i64 0] 38:=Blk.new' (w:=w.alloc (.cells #[.int .i64 1,.int .i64 ia,.int .i64 ib] 72)) _ _ (by simp);have b:=Zh d;have f:=Zh (show Below w.heap.size w ((w.alloc (.cells #[.int .i64 1,.int .i64 ia,.int .i64 ib] 72)).alloc (.cells #[.int .i64 0,.int .i64 0] 38)) by exact bE);clear d;have g:ZeD m ls ⟨1,ia,ib⟩ []=some ⟨1,0⟩:=pv1 rfl;go_enter Tryz.func167,Tryz.ntmps167
 go_wp2_with (go_at_call 228;refine (Zkd _).mono ?_;rintro r t ⟨rfl,c⟩;have a:=Zh c;clear c;have l:=(b.out.old a.out).cell 0 (v:=.int .i64 0) rfl;have n:=(b.out.old a.out).cell 1 (v:=.int .i64 0) rfl;have o:=(b.out.old a.out).frozen 0;have q:=(b.out.old a.out).frozen 1;have j:=(b.out.old a.out).lt)
 refine bodyPost_ret (v:=.tuple #[.agg #[.int .i64 1,.int .i64 0],.bool true]) (by simp [results,Tryz.results167,go_sem,l,n]) rfl ?_;exact Zkb (by rw [g];rfl) (fun u i=>by rw [g] at i;exact Option.some.inj i) (ZcS (ZcS (Zag f.out a.out) (Nat.le_succ _) _) (Nat.le_succ _) _)
theorem ZlR {w:World}{K:Nat}{op ia ib:Int}{l:Option Addr}{n d:Nat}{q:Option Ty} (j:op=17∨op=18∨op=19∨op=20∨op=21∨op=24∨op=25∨op=26)
  (y:op≠25→op≠26→∀ w',Below w.heap.size w w'→Calls Tryz.prog 229 #[ZQ.p K,.agg #[.int .i64 op,.int .i64 ia,.int .i64 ib],.slice l n d] w' (Zka w' q))
  (x:op=25∨op=26→∀ w',Below w.heap.size w w'→Calls Tryz.prog 230 #[ZQ.p K,.agg #[.int .i64 op,.int .i64 ia,.int .i64 ib],.slice l n d] w' (Zka w' q)) :
  Calls Tryz.prog 167 #[ZQ.p K,.agg #[.int .i64 op,.int .i64 ia,.int .i64 ib],.slice l n d] w (Zka w q):=by
 have g:Blk ((w.alloc (.cells #[.int .i64 op,.int .i64 ia,.int .i64 ib] 72)).alloc (.cells #[.int .i64 0,.int .i64 0] 38)) (w.heap.size+1) #[.int .i64 0,.int .i64 0] 38:=Blk.new' (w:=w.alloc (.cells #[.int .i64 op,.int .i64 ia,.int .i64 ib] 72)) _ _ (by simp);have f:Below w.heap.size w ((w.alloc (.cells #[.int .i64 op,.int .i64 ia,.int .i64 ib] 72)).alloc (.cells #[.int .i64 0,.int .i64 0] 38)):=by exact bE
 have E:=Zh y;have D:=Zh x;clear y x;rcases j with rfl|rfl|rfl|rfl|rfl|rfl|rfl|rfl
 all_goals
  have b:=Zh g;have e:=Zh f;clear g f;go_enter Tryz.func167,Tryz.ntmps167
  go_wp2_with (first
   | (go_at_call 229;refine (E.out (by decide) (by decide) _ e.out).mono ?_;rintro r J ⟨t,rfl,i,c⟩;obtain ⟨A,z⟩:=t;have o:=Zh i;have a:=Zh c;clear i c;have B:=(b.out.old a.out).cell 0 (v:=.int .i64 0) rfl;have C:=(b.out.old a.out).cell 1 (v:=.int .i64 0) rfl;have F:=(b.out.old a.out).frozen 0;have G:=(b.out.old a.out).frozen 1;have k:=(b.out.old a.out).lt)
   | (go_at_call 230;refine (D.out (by decide) _ e.out).mono ?_;rintro r J ⟨t,rfl,i,c⟩;obtain ⟨A,z⟩:=t;have o:=Zh i;have a:=Zh c;clear i c;have B:=(b.out.old a.out).cell 0 (v:=.int .i64 0) rfl;have C:=(b.out.old a.out).cell 1 (v:=.int .i64 0) rfl;have F:=(b.out.old a.out).frozen 0;have G:=(b.out.old a.out).frozen 1;have k:=(b.out.old a.out).lt))
  refine bodyPost_ret (v:=.tuple #[.agg #[.int .i64 A,.int .i64 z],.bool q.isSome]) (by simp [results,Tryz.results167,go_sem,B,C]) rfl ?_;exact Zkb rfl (fun u I=>o.out u I) (ZcS (ZcS (Zag e.out a.out) (Nat.le_succ _) _) (Nat.le_succ _) _)
theorem ZlS {l:List Ty} (h:l.length=0):l=[]:=List.eq_nil_of_length_eq_zero h
theorem ZlT {l:List Ty} (h:l.length=1):∃ a,l=[a]:=List.length_eq_one_iff.1 h
theorem ZlU {l:List Ty} (h:l.length=2):∃ a b,l=[a,b]:=by
 match l,h with
 | [a,b],_=>exact ⟨a,b,rfl⟩
theorem ZlV {l:List Ty} (h:l.length=3):∃ a b c,l=[a,b,c]:=by
 match l,h with
 | [a,b,c],_=>exact ⟨a,b,c,rfl⟩
theorem ZlW {w:World}{K:Nat}{h:Hd}{m:Md}{lo:Option Addr}{lc:Nat}{ls:List Ty}{S O:Value} (H:Pk w K h m (.slice lo ls.length lc) S O) (Hj:Zaz w h m) (C:Za2 m=true) (ht:Zas w lo lc ls) (F:∀ t∈ls,Zfk m t) {k:Nat} (M:k<m.me.length) {i:In3} (o:ZfU m k i) (G:0≤i.op∧i.op<34) {l:List Ty}{J:Option Addr}{r:Nat} (hr:Zas w J r l) (z:l.length=(Zez m i).1) (g:∀ t∈l,Zfk m t) :
  Calls Tryz.prog 167 #[ZQ.p K,ZI.i i,.slice J l.length r] w (Zka w (ZeD m ls i l)):=by
 have hd:ZcZ m m.cl.length:=Zc4 (ZfK C);by_cases hc:i.op=25∨i.op=26
 ·exact ZlR (by omega) (fun q n=>absurd hc (by omega)) (fun _ x c=>Zk6 (H.old c) (Hj.old c) C M o hc (hr.old c) z g)
 ·have j:=o.a0;have D:=o.b0;have u:=o.o22;have A:=o.o12;have B:=o.o14;have I:=o.o16;clear o;obtain ⟨e,v,N⟩:=i;dsimp only at G hc j D u A B I ⊢;have E:e=0∨e=1∨e=2∨e=3∨e=4∨e=5∨e=6∨e=7∨e=8∨e=9∨e=10∨e=11∨e=12∨e=13∨e=14∨e=15∨e=16∨e=17∨e=18∨e=19∨e=20∨e=21∨e=22∨e=23∨e=24∨e=27∨e=28∨e=29∨e=30∨e=31∨e=32∨e=33:=by omega
  rcases E with rfl|rfl|rfl|rfl|rfl|rfl|rfl|rfl|rfl|rfl|rfl|rfl|rfl|rfl|rfl|rfl|rfl|rfl|rfl|rfl|rfl|rfl|rfl|rfl|rfl|rfl|rfl|rfl|rfl|rfl|rfl|rfl
  all_goals first|(obtain rfl:=ZlS z)|(obtain ⟨a,rfl⟩:=ZlT z)|(obtain ⟨a,b,rfl⟩:=ZlU z)|(obtain ⟨a,b,d,rfl⟩:=ZlV z)
  ·exact p_0 H Hj hd ht hr
  ·exact p_1
  ·by_cases q:v<ls.length
   ·exact Zlp H Hj hd ht hr (j (by decide)) q
   ·exact ZlJ H Hj hd ht hr (j (by decide)) q
  ·by_cases q:v<ls.length
   ·exact ZlL H Hj hd ht hr (fun q=>ZfH (g a (by simp)) (.inl q)) F (j (by decide)) q
   ·exact Zlc H Hj hd ht hr (j (by decide)) q
  ·exact p_4 H Hj hd ht hr
  ·exact p_5 H Hj hd ht hr
  ·exact k31
  ·exact k31
  ·exact k31
  ·exact k31
  ·exact k31
  ·exact k31
  ·by_cases q:v=3
   ·exact Zlq H Hj hd ht hr q ((A rfl).2.1 q)
   ·exact ZlK H Hj hd ht hr q
  ·exact Zlb H Hj hd ht hr
  ·exact Zla H Hj hd ht hr
  ·exact ZkM H Hj hd ht hr
  ·exact ZlA H Hj hd ht hr
  ·refine ZlR (by decide) (fun _ _ x c=>?_) (fun q=>absurd q (by decide));have f:=fun q=>ZfH (g a (by simp)) (.inl q);by_cases q:a.k=2
   ·by_cases n:v<(m.cl.getD a.c.toNat default).f.length
    ·exact ZlF (H.old c) (Hj.old c) hd (ht.old c) (hr.old c) f q (j (by decide)) n
    ·exact ZkR (H.old c) (Hj.old c) hd (ht.old c) (hr.old c) f q (j (by decide)) n
   ·exact Zld (H.old c) (Hj.old c) hd (ht.old c) (hr.old c) q
  ·refine ZlR (by decide) (fun _ _ x c=>?_) (fun q=>absurd q (by decide));have f:=fun q=>ZfH (g a (by simp)) (.inl q);by_cases q:a.k=2
   ·by_cases n:v<(m.cl.getD a.c.toNat default).f.length
    ·exact Zle (H.old c) (Hj.old c) hd (ht.old c) (hr.old c) f (fun q=>ZfH (g b (by simp)) (.inl q)) (ZfN C (f q).1 (f q).2) q (j (by decide)) n
    ·exact ZlN (H.old c) (Hj.old c) hd (ht.old c) (hr.old c) f q (j (by decide)) n
   ·exact Zlu (H.old c) (Hj.old c) hd (ht.old c) (hr.old c) q
  ·refine ZlR (by decide) (fun _ _ x c=>?_) (fun q=>absurd q (by decide));by_cases q3:a.k=3
   ·by_cases q:b=Zew
    ·exact ZlP (H.old c) (Hj.old c) hd (ht.old c) (hr.old c) q3 q
    ·exact Zlw (H.old c) (Hj.old c) hd (ht.old c) (hr.old c) q3 q
   ·by_cases q4:a.k=4
    ·by_cases q:b=Zew
     ·exact ZkU (H.old c) (Hj.old c) hd (ht.old c) (hr.old c) q4 q
     ·exact Zlg (H.old c) (Hj.old c) hd (ht.old c) (hr.old c) q4 q
    ·exact ZlH (H.old c) (Hj.old c) hd (ht.old c) (hr.old c) q3 q4
  ·refine ZlR (by decide) (fun _ _ x c=>?_) (fun q=>absurd q (by decide));have y:=fun q=>ZfH (g d (by simp)) (.inl q);by_cases q3:a.k=3
   ·by_cases q:b=Zew
    ·exact ZlQ (H.old c) (Hj.old c) hd (ht.old c) (hr.old c) q3 q y
    ·exact Zlx (H.old c) (Hj.old c) hd (ht.old c) (hr.old c) q3 q
   ·by_cases q4:a.k=4
    ·by_cases q:b=Zew
     ·exact ZkV (H.old c) (Hj.old c) hd (ht.old c) (hr.old c) q4 q y (ZfH (g a (by simp)) (.inr q4)).1
     ·exact Zlh (H.old c) (Hj.old c) hd (ht.old c) (hr.old c) q4 q
    ·exact ZlI (H.old c) (Hj.old c) hd (ht.old c) (hr.old c) q3 q4
  ·refine ZlR (by decide) (fun _ _ x c=>?_) (fun q=>absurd q (by decide));by_cases q3:a.k=3
   ·exact ZkS (H.old c) (Hj.old c) hd (ht.old c) (hr.old c) q3
   ·by_cases q4:a.k=4
    ·exact ZlG (H.old c) (Hj.old c) hd (ht.old c) (hr.old c) q4
    ·exact Zlv (H.old c) (Hj.old c) hd (ht.old c) (hr.old c) q3 q4
  ·have:=u (.inl rfl);have:=j (by decide);exact ZlC H Hj hd ht hr (by omega) (by omega)
  ·have:=u (.inr rfl);have:=j (by decide);exact Zlr H Hj hd ht hr (fun q=>ZfH (g a (by simp)) (.inl q)) (by omega) (by omega) (ZfO C)
  ·refine ZlR (by decide) (fun _ _ x c=>?_) (fun q=>absurd q (by decide));have f:=fun q=>ZfH (g a (by simp)) (.inl q);have L:=B (.inr rfl);by_cases q:a.k=2
   ·cases n:Zev m ⟨2,v⟩ a
    ·exact ZkT (H.old c) (Hj.old c) hd (ht.old c) (hr.old c) f q (j (by decide)) (by omega) n
    ·exact Zlf (H.old c) (Hj.old c) hd (ht.old c) (hr.old c) f q (j (by decide)) (by omega) n
   ·exact ZlO (H.old c) (Hj.old c) hd (ht.old c) (hr.old c) q
  ·exact ZkO H Hj hd ht (by decide) hr
  ·exact ZkQ H Hj hd ht hr
  ·exact ZkO H Hj hd ht (by decide) hr
  ·by_cases q:a=Zew
   ·by_cases n:N<ls.length
    ·exact Zls H Hj hd ht hr q D n
    ·exact ZlD H Hj hd ht hr q D n
   ·exact ZkP H Hj hd ht hr q
  ·exact ZlE H Hj hd ht hr
  ·exact Zlt H Hj hd ht hr
  ·exact ZlM H Hj hd ht hr
end
section
open Go.RowKit
theorem ZlX (h:Hd) (m:Md) (a:Int) (w:World) (l:Zaz w h m):Calls Tryz.prog 18 #[.agg (HM.mk h m),.int .i64 a] w (ZjO w (ZeJ m a)):=by
 have n:∀ b,Below w.heap.size w b→_:=fun b d=>Zhv m h a b (l.old d);have j:(Za2 m&&inV m.me.length a)=true→∀ b,Below w.heap.size w b→Calls Tryz.prog 71 #[.agg (HM.mk h m),.int .i64 a] b (ZjO b (ZeJ m a)):=fun q b d=>by
  simp only [Bool.and_eq_true,inV,decide_eq_true_eq] at q;obtain ⟨k,rfl⟩:∃ k:Nat,a=k:=⟨a.toNat,by omega⟩;have G:k<m.me.length:=by omega
  unfold ZeJ;rw [if_pos ⟨q.1,by omega,by omega⟩,Int.toNat_natCast];exact Zk0 h m k b (l.old d) q.1 G
 have i:(Za2 m&&inV m.me.length a)=false→ZeJ m a=([],0,1):=fun q=>by unfold ZeJ;rw [if_neg];rintro ⟨I,J,P⟩;simp [I,inV,J] at q;omega
 generalize (Za2 m&&inV m.me.length a)=x at n j i;generalize ZeJ m a=r at j i ⊢;have u:=Zh n;have z:=Zh j;have y:=Zh i;have A:=Zh (show ∀ b,Below (w.alloc (.cells (HM.mk h m) 26)).heap.size (w.alloc (.cells (HM.mk h m) 26)) b→_ from fun b F=>Zj8 ((Blk.new w (HM.mk h m) 26).old F));clear n j i l;rcases x with _|_
 ·have E:=y.out rfl;clear z y A;subst E;go_enter Tryz.func18,Tryz.ntmps18
  go_wp2_with (go_at_call 70;refine (u.out _ bE).mono ?_;rintro e D ⟨rfl,f⟩)
  refine bodyPost_ret (v:=.tuple #[.slice none 0 0,.int .i64 0,.int .i64 1]) (by simp [results,Tryz.results18,go_sem]) rfl ?_;exact ZjO.no w bE 0 1
 ·go_enter Tryz.func18,Tryz.ntmps18
  go_wp2_with (first
   | (go_at_call 70;refine (u.out _ bE).mono ?_;rintro e D ⟨rfl,f⟩;obtain ⟨L,M,N,O⟩:=A.out _ f)
   | (go_at_call 71;refine (z.out trivial _ bE).mono ?_;rintro e Q ⟨⟨C,B,c,rfl,t⟩,o⟩))
  refine bodyPost_ret (v:=.tuple #[.slice C c.length B,.int .i64 r.2.1,.int .i64 r.2.2]) (by simp [results,Tryz.results18,go_sem]) rfl ?_;have g:Below w.heap.size w D:=Zag bE f;exact ⟨⟨C,B,c,rfl,⟨Zef t.own g.size,t.len,t.at_⟩⟩,Zag g o⟩
theorem Zas.alloc {α:Type} [Cells α] {w:World}{ao:Option Addr}{cap:Nat}{l:List α} (h:Zas w ao cap l) (o:Obj):Zas (w.alloc o) ao cap l:=h.old ((Below.refl _ _).alloc (Nat.le_refl _) o)
theorem ZlY {α:Type} [Cells α] (W:World) (l:List α) (a:Array Value) (e:TypeId) (b:a=(Zal l).toArray):Zas (W.alloc (.cells a e)) (some ⟨W.heap.size,0,none⟩) l.length l:=by have h:=Zcn W a e (n:=l.length) (size:=Cells.n α) (by rw [b];simp [Zan]);rw [b] at h ⊢;simpa [Zas] using h
def ZlZ:Md:=⟨[],[],[⟨⟨#[]⟩,-1,[],[],⟨1,0⟩,[⟨1,1,0⟩,⟨1,2,0⟩,⟨6,0,0⟩]⟩,⟨⟨#[]⟩,-1,[],[⟨1,0⟩],⟨0,0⟩,[⟨2,0,0⟩,⟨6,0,0⟩]⟩],0⟩
def Zl0 (b:Nat):Hd:=⟨none,0,none,0,some ⟨b+1+1+1+1,0,none⟩,2,fun _=>default,fun i=>if i=0 then ⟨none,0,none,0,some ⟨b+1,0,none⟩,3⟩ else ⟨none,0,some ⟨b+1+1,0,none⟩,1,some ⟨b+1+1+1,0,none⟩,2⟩⟩
theorem Zl1:ZeJ ZlZ 0=([[],[Zew],[Zew,Zew],[Zew]],0,0):=by kernel_rfl
theorem Zl2:ZeJ ZlZ 1=([],1,12):=by kernel_rfl
theorem bls (w:World) (o:Obj):(w.alloc o).heap.size=w.heap.size+1:=by simp
theorem Zl3 {w:World}{ao:Option Addr}{cap:Nat}{l:List SH} (h:Zas w ao cap l) {i:Nat} (b:i<l.length):∃ a,ao=some a∧w.cell? (a.add i)=some (.slice (l.getD i default).ao (l.getD i default).n (l.getD i default).c):=by
 obtain ⟨a,rfl⟩:=h.some (by omega);have c:l.getD i default=l[i]:=by simp [b]
 rw [c];have:=h.cell b 0 (v:=.slice l[i].ao l[i].n l[i].c) rfl;rw [show i*Cells.n SH=i from Nat.mul_one i] at this;exact ⟨a,rfl,this⟩
theorem Zl4 {i:Nat} (h:i<2):i=0∨i=1:=by omega
theorem Zl5 (W:World) (e0 b c d e l:TypeId) (n:Array Value):Zaz ((((((W.alloc (.cells #[.int .i64 1,.int .i64 0] e0)).alloc (.cells #[.int .i64 1,.int .i64 1,.int .i64 0,.int .i64 1,.int .i64 2,.int .i64 0,.int .i64 6,.int .i64 0,.int .i64 0] b)).alloc (.cells #[.int .i64 1,.int .i64 0] c)).alloc
  (.cells #[.int .i64 2,.int .i64 0,.int .i64 0,.int .i64 6,.int .i64 0,.int .i64 0] d)).alloc (.cells #[.string ⟨#[]⟩,.int .i64 (-1),.slice none 0 0,.slice none 0 0,.int .i64 1,.int .i64 0,.slice (some ⟨W.heap.size+1,0,none⟩) 3 3,.string ⟨#[]⟩,.int .i64 (-1),.slice none 0 0,.slice (some ⟨W.heap.size+1+1,0,none⟩) 1 1,.int .i64 0,.int .i64 0,.slice (some ⟨W.heap.size+1+1+1,0,none⟩) 2 2] e)).alloc (.cells n l)) (Zl0 W.heap.size) ZlZ:=by
 have f:=ZlY (W.alloc (.cells #[.int .i64 1,.int .i64 0] e0)) ([⟨1,1,0⟩,⟨1,2,0⟩,⟨6,0,0⟩]:List In3) _ b rfl;have g:=ZlY ((W.alloc (.cells #[.int .i64 1,.int .i64 0] e0)).alloc (.cells #[.int .i64 1,.int .i64 1,.int .i64 0,.int .i64 1,.int .i64 2,.int .i64 0,.int .i64 6,.int .i64 0,.int .i64 0] b)) ([⟨1,0⟩]:List Ty) _ c rfl;have j:=ZlY (((W.alloc (.cells #[.int .i64 1,.int .i64 0] e0)).alloc (.cells #[.int .i64 1,.int .i64 1,.int .i64 0,.int .i64 1,.int .i64 2,.int .i64 0,.int .i64 6,.int .i64 0,.int .i64 0] b)).alloc (.cells #[.int .i64 1,.int .i64 0] c)) ([⟨2,0,0⟩,⟨6,0,0⟩]:List In3) _ d rfl;have k:=ZlY ((((W.alloc (.cells #[.int .i64 1,.int .i64 0] e0)).alloc (.cells #[.int .i64 1,.int .i64 1,.int .i64 0,.int .i64 1,.int .i64 2,.int .i64 0,.int .i64 6,.int .i64 0,.int .i64 0] b)).alloc (.cells #[.int .i64 1,.int .i64 0] c)).alloc (.cells #[.int .i64 2,.int .i64 0,.int .i64 0,.int .i64 6,.int .i64 0,.int .i64 0] d)) (Zaw (Zl0 W.heap.size) ZlZ) _ e rfl;rw [bls] at f;rw [bls,bls] at g;rw [bls,bls,bls] at j;rw [bls,bls,bls,bls] at k;refine ⟨Zas.nil _,Zas.nil _,k.alloc _,fun i a=>absurd a (Nat.not_lt_zero i),fun i a=>absurd a (Nat.not_lt_zero i),fun i a=>?_,fun i a=>?_,fun i a=>?_,fun i a=>absurd a (Nat.not_lt_zero i),fun i a=>?_,⟨by decide,by decide,by decide⟩⟩
 ·rcases Zl4 a with rfl|rfl<;>exact Zas.nil _
 ·rcases Zl4 a with rfl|rfl
  ·exact Zas.nil _
  ·exact ((g.alloc _).alloc _).alloc _
 ·rcases Zl4 a with rfl|rfl
  ·exact (((f.alloc _).alloc _).alloc _).alloc _
  ·exact (j.alloc _).alloc _
 ·rcases Zl4 a with rfl|rfl<;>exact ⟨by decide,by decide,by decide⟩
theorem Zl6 (W:World):Calls Tryz.prog 16 #[] W (Ret W (.bool true)):=by
 go_enter Tryz.func16,Tryz.ntmps16
 go_wp2_with fail
 have I:=Zl5 W 38 72 38 72 70 26 #[.slice none 0 0,.slice none 0 0,.slice (some ⟨W.heap.size+1+1+1+1,0,none⟩) 2 2,.int .i64 0];obtain ⟨B,j⟩:∃ B,B=((((((W.alloc (.cells #[.int .i64 1,.int .i64 0] 38)).alloc (.cells #[.int .i64 1,.int .i64 1,.int .i64 0,.int .i64 1,.int .i64 2,.int .i64 0,.int .i64 6,.int .i64 0,.int .i64 0] 72)).alloc (.cells #[.int .i64 1,.int .i64 0] 38)).alloc (.cells #[.int .i64 2,.int .i64 0,.int .i64 0,.int .i64 6,.int .i64 0,.int .i64 0] 72)).alloc (.cells #[.string ⟨#[]⟩,.int .i64 (-1),.slice none 0 0,.slice none 0 0,.int .i64 1,.int .i64 0,.slice (some ⟨W.heap.size+1,0,none⟩) 3 3,.string ⟨#[]⟩,.int .i64 (-1),.slice none 0 0,.slice (some ⟨W.heap.size+1+1,0,none⟩) 1 1,.int .i64 0,.int .i64 0,.slice (some ⟨W.heap.size+1+1+1,0,none⟩) 2 2] 70)).alloc (.cells #[.slice none 0 0,.slice none 0 0,.slice (some ⟨W.heap.size+1+1+1+1,0,none⟩) 2 2,.int .i64 0] 26)):=⟨_,rfl⟩;have C:Below W.heap.size W B:=by rw [j];exact bE
 have y:Blk B W.heap.size #[.int .i64 1,.int .i64 0] 38:=by rw [j];exact (((((Blk.new W _ _).alloc _).alloc _).alloc _).alloc _).alloc _
 have n:Blk B (W.heap.size+1+1+1+1+1) #[.slice none 0 0,.slice none 0 0,.slice (some ⟨W.heap.size+1+1+1+1,0,none⟩) 2 2,.int .i64 0] 26:=by rw [j];exact Blk.new' _ _ (by simp)
 rw [←j] at I ⊢;clear j;have T:=ZlX _ _ 0 _ I;rw [Zl1] at T;refine T.mono ?_;rintro r q ⟨⟨so,sc,g,rfl,x⟩,e⟩;have Z:g.length=4:=x.len;obtain ⟨u,rfl,J⟩:=Zl3 (Zas.of_own x.own) (i:=2) (by omega);obtain ⟨_,R,L⟩:=Zl3 (Zas.of_own x.own) (i:=3) (by omega);cases R;have V:=(x.at_ 2 (by omega)).1;have M:=x.at_ 3 (by omega);rw [Z];generalize g.getD 2 default=x2 at J V;generalize g.getD 3 default=x3 at L M;obtain ⟨X,n2,Y⟩:=x2;obtain ⟨a3,n3,O⟩:=x3;have e2:n2=2:=V;have R:n3=1:=M.1;have E:ZeR q a3 O [Zew]:=M.2;subst e2 R;obtain ⟨b,rfl,z0,z1⟩:=ZaA E.1 (i:=0) (by simp);have F:q.cell? b=some (.int .i64 1):=z0;have G:q.cell? ⟨b.block,b.off+1,none⟩=some (.int .i64 0):=z1;dsimp only at J L;have U:=ZlX _ _ 1 _ (I.old e);rw [Zl2] at U;have H2:=Zh U;obtain ⟨m0,m1,m2,m3⟩:=(show q.cell? ⟨W.heap.size+1+1+1+1+1,0,none⟩=some (.slice none 0 0)∧q.cell? ⟨W.heap.size+1+1+1+1+1,1,none⟩=some (.slice none 0 0)∧q.cell? ⟨W.heap.size+1+1+1+1+1,2,none⟩=some (.slice (some ⟨W.heap.size+1+1+1+1,0,none⟩) 2 2)∧q.cell? ⟨W.heap.size+1+1+1+1+1,3,none⟩=some (.int .i64 0) from ⟨(n.old e).cell 0 rfl,(n.old e).cell 1 rfl,(n.old e).cell 2 rfl,(n.old e).cell 3 rfl⟩);have HX:=Zh (show ∀ f,Below q.heap.size q f→f.cell? ⟨u.block,u.off+2,none⟩=some (.slice X 2 Y)∧f.cell? ⟨u.block,u.off+3,none⟩=some (.slice (some b) 1 O)∧f.cell? b=some (.int .i64 1)∧f.cell? ⟨b.block,b.off+1,none⟩=some (.int .i64 0)∧f.cell? ⟨W.heap.size,0,none⟩=some (.int .i64 1)∧f.cell? ⟨W.heap.size,1,none⟩=some (.int .i64 0) from
  fun f z=>⟨Zj7 z J,Zj7 z L,Zj7 z F,Zj7 z G,Zj7 z ((y.old e).cell 0 rfl),Zj7 z ((y.old e).cell 1 rfl)⟩)
 have N:=Zh (Zag C e);clear C e y n I T U x J L V M E z0 z1 F G Z
 go_wp2_with (go_at_call 18;refine H2.out.mono ?_;rintro r w3 ⟨⟨so,sc,g,rfl,x⟩,D⟩;have A:=Zh D;clear x D)
 refine rO (fun f:World=>f.cell? ⟨u.block,u.off+2,none⟩=some (.slice X 2 Y)∧f.cell? ⟨u.block,u.off+3,none⟩=some (.slice (some b) 1 O)∧f.cell? b=some (.int .i64 1)∧f.cell? ⟨b.block,b.off+1,none⟩=some (.int .i64 0)∧f.cell? ⟨W.heap.size,0,none⟩=some (.int .i64 1)∧f.cell? ⟨W.heap.size,1,none⟩=some (.int .i64 0)) (oL [0,1,2,3,4,5,6,7,8,9,10,11,12,13,14,15,16,17,18,19,20,21,22,23,24,25,26,27,28,29,30,31,32,33,34,35,36,37,38]) (HX.out _ (Below.drew A.out)) ?_
 repeat refine pO ?_
 refine Zd7 ?_;go_wp2;go_ret;exact ZcP rfl (Below.drew (Zag N.out A.out))
end
section
open Go.RowKit
theorem Zl7:El Tryz.prog 145 213 4 64:=El.mk' (z:=.agg #[.int .i64 0,.slice none 0 0,.slice none 0 0,.bool false]) Tryz.underlying145 (by kernel_rfl) (by kernel_rfl) (by decide)
theorem Zl8 {w:World}{c:Option Addr}{b:Nat}{a:List Ty} (H:ZeR w c b a) {lf:Nat} (d:lf≤a.length):∃ f e,(if b=lf then c else c.map fun x=>x.add (lf*2))=f∧b-lf=e∧Zas w f e (a.drop lf):=by
 refine ⟨_,_,rfl,rfl,?_⟩;have i:=H.2.1;cases c with
 | none=>
  have g:=H.1.2.1 rfl;have l:a=[]:=by cases a with|nil=>rfl|cons x r=>simp at g
  subst l;simp only [List.drop_nil,Option.map_none,g.2,Nat.zero_sub,ite_self];exact Zas.nil _
 | some ad=>
  by_cases hsc:b=lf
  ·have k:a.drop lf=[]:=by rw [List.drop_eq_nil_iff];omega
   rw [k,if_pos hsc];exact ⟨by simp [Zal],(fun h=>by simp at h),fun j u n=>by simp [Zal] at n⟩
  ·rw [if_neg hsc];exact H.dropA _ d
theorem Zl9 {w:World}{base:Nat}{e:TypeId}{size:Nat}{f:Option Addr}{n d:Nat}{j:List Value} (h:w.ownsRow base e size (.slice f n d) n j) {b:Nat} (k:b<base):(Value.slice f n d).ownBlock≠some b:=by
 intro q;rcases h.2 with ⟨a,_⟩|⟨g,c,i,a,l,_⟩
 ·rw [a] at q;cases q
 ·rw [a] at q;have:g=b:=Option.some.inj q;omega
section
variable {w0 w:World}{K:Nat}{h:Hd}{m:Md}{lo:Option Addr}{lc:Nat}{ls:List Ty}
include w0 w K h m lo lc ls
theorem Zma {s:Ps} {M:Option Addr} {L:Nat} {oo:Option Addr} {oc:Nat} {bs:List VB} {i:In3} (H:S6 w0 w K h m lo lc ls s M L oo oc bs) (C:i.op≠34) (D:i.op≠35) (E:ZaS i.op=true) (z:(ZhS m ls i s).1=0) {w1 w2 w4:World} {n:Option Addr} {l:Nat} (J:Upd K K w w1) (u:Pk w1 K h m (.slice lo ls.length lc) (.slice n (ZhS m ls i s).2.length l) (.slice oo bs.length oc)) (A:ZeR w1 n l (ZhS m ls i s).2) (r:Below w1.heap.size w1 w2) {bo:Option Addr} {bc:Nat} (hcl:ZeR w2 bo bc (ZhS m ls i s).2) {f:Option Addr} {b:Nat} (hown4:w4.ownsRow w0.heap.size 213 4 (.slice f (bs.length+1) b) (bs.length+1) (Zal bs++vbL i.op bo (ZhS m ls i s).2.length bc)) (hg4:w2.grownBy w4 (Value.slice oo bs.length oc).ownBlock):
  P6 w0 w K h m lo lc ls oo (ZeE m ls i s) (.returned (.int .i64 0)) (w4.setCell ⟨K,6,none⟩ (.slice f (bs.length+1) b)):=by
 have t:Upd K K w w2:=J.bel r;have v:=H.op.upd t H.pk.noTy H.ne;have hc2:=u.old r;have hno2:=v.noTy hc2.noTy;have hneK:K≠ZhL K oo∨oo=none:=by
  cases oo with
  | none=>exact .inr rfl
  | some a=>exact .inl (fun q=>H.ne a rfl q.symm)
 have hu4:Upd K (ZhL K oo) w2 w4:=(Upd.refl K (ZhL K oo) w2).grown hg4 (fun k I=>.inl (Zi4 K oo _ _ k I));have hKw:K<w2.heap.size:=Blk.lt hc2;have hc4:Pk w4 K h m (.slice lo ls.length lc) (.slice n (ZhS m ls i s).2.length l) (.slice oo bs.length oc):=by unfold Pk Blk;exact k79
 have hu5:Upd K (ZhL K oo) w4 (w4.setCell ⟨K,6,none⟩ (.slice f (bs.length+1) b)):=(Upd.refl K _ w4).set 6 _;have d:Upd K (ZhL K oo) w (w4.setCell ⟨K,6,none⟩ (.slice f (bs.length+1) b)):=(t.more.trans hu4).trans hu5;have o:=H.op.noTy H.pk.noTy;have F:w0.heap.size≤ZhL K oo:=by exact k50
 have y:ZeE m ls i s=(0,⟨(ZhS m ls i s).2,s.opn++[⟨i.op,(ZhS m ls i s).2,[],false⟩]⟩):=by rw [ZhT C D,E,if_pos z,z];rfl
 rw [y];generalize (ZhS m ls i s).2=st at u A hcl hown4 hc2 hc4;refine ⟨rfl,d,fun _=>⟨n,l,f,b,bs++[⟨i.op,bo,st.length,bc,none,0,0,false⟩],?_⟩⟩;have hlen:(bs++[(⟨i.op,bo,st.length,bc,none,0,0,false⟩:VB)]).length=bs.length+1:=by simp
 refine ⟨?_,?_,⟨?_,by simp [H.op.len],fun j G=>?_⟩,H.tl.upd d H.pk.noTy o,d.below H.hb (Nat.le_refl _) H.hK F,H.hK⟩
 ·rw [hlen];exact Blk.set hc4 6 _
 ·exact (A.upd (Upd.of (K:=K) (B:=K) r) u.noTy u.noTy).upd (hu4.trans hu5) hc2.noTy hno2
 ·exact k54
 ·rw [hlen] at G;by_cases hjl:j<bs.length
  ·have hb:=H.op.at_ j hjl;have x:j<s.opn.length:=by rw [←H.op.len];exact hjl
   rw [show (bs++[(⟨i.op,bo,st.length,bc,none,0,0,false⟩:VB)]).getD j default=bs.getD j default by simp [List.getElem?_append_left hjl],show (s.opn++[(⟨i.op,st,[],false⟩:Opn)]).getD j default=s.opn.getD j default by simp [List.getElem?_append_left x]];exact hb.upd d H.pk.noTy o
  ·exact k36
theorem Zmb {s:Ps} {o:Option Addr} {n:Nat} {oo:Option Addr} {oc:Nat} {bs:List VB} {i:In3} (H:S6 w0 w K h m lo lc ls s o n oo oc bs) (f:i.op≠34) (g:i.op≠35) (j:ZaS i.op=false) (e:(ZhS m ls i s).1=0) {w1:World} {b:Option Addr} {a:Nat} (c:Upd K K w w1) (k:Pk w1 K h m (.slice lo ls.length lc) (.slice b (ZhS m ls i s).2.length a) (.slice oo bs.length oc)) (l:ZeR w1 b a (ZhS m ls i s).2):
  P6 w0 w K h m lo lc ls oo (ZeE m ls i s) (.returned (.int .i64 0)) w1:=by
 have d:ZeE m ls i s=(0,⟨(ZhS m ls i s).2,s.opn⟩):=by rw [ZhT f g,j,if_pos e,e];rfl
 rw [d];exact ⟨rfl,c.more,fun _=>⟨b,a,oo,oc,bs,k,l,H.op.upd c H.pk.noTy H.ne,H.tl.upd c H.pk.noTy H.pk.noTy,c.below H.hb (Nat.le_refl _) H.hK H.hK,H.hK⟩⟩
theorem Zmc {s:Ps} {oo:Option Addr} {i:In3} (c:i.op≠34) (d:i.op≠35) {e:Int} (f:(ZhS m ls i s).1=e) (b:e≠0) {w1:World} (g:Upd K K w w1):
  P6 w0 w K h m lo lc ls oo (ZeE m ls i s) (.returned (.int .i64 e)) w1:=by
 have a:(ZeE m ls i s).1=e:=by rw [ZhT c d,f]
 exact ⟨by rw [a],g.more,fun q=>absurd (a▸q) b⟩
theorem Zmd {s:Ps} {so:Option Addr} {sc:Nat} {oo:Option Addr} {oc:Nat} {bs:List VB} {i:In3} {k:Nat} (H:S6 w0 w K h m lo lc ls s so sc oo oc bs) (Hj:Zaz w h m) (hm:Za2 m=true) (bQ:∀ t∈ls,Zfk m t) (hk:k<m.me.length) (hi:ZfU m k i) (aT:0≤i.op∧i.op<34) (HW:Zfl m s.stk) (hd:s.opn.length≤6) (aB:Zex s.opn≤s.stk.length):
  Calls Tryz.prog 104 #[ZQ.p K,ZI.i i] w (P6 w0 w K h m lo lc ls oo (ZeE m ls i s)):=by
 have hn1:i.op≠34:=by omega
 have hn2:i.op≠35:=by omega
 obtain ⟨G,am⟩:∃ n,n=(Zez m i).1:=⟨_,rfl⟩;obtain ⟨ps,aU⟩:∃ n,n=(Zez m i).2:=⟨_,rfl⟩;have cN:ps≤2:=by
  rw [aU];unfold Zez
  repeat' split
  all_goals first|decide|(dsimp only;omega)
 have cP:G≤1000:=by
  rw [am];by_cases hc:i.op=25∨i.op=26
  ·rw [ZkK hc];have:=Zk1 hm hk hi hc;dsimp only;omega
  ·unfold Zez
   repeat' split
   all_goals first|decide|(exact absurd (by assumption) hc)
 have k5:w.cell? ⟨K,5,none⟩=some (.slice so s.stk.length sc):=Blk.cell H.pk 5 rfl;have k6:w.cell? ⟨K,6,none⟩=some (.slice oo bs.length oc):=Blk.cell H.pk 6 rfl;have HC:=Zh (show ∀ w',Below w.heap.size w w'→_ from fun w' hb=>ZkL (H.pk.old hb) (Hj.old hb) hm hk hi aT);have HBs:=Zh (show ∀ w',Below w.heap.size w w'→_ from fun w' hb=>Zk8 K oo oc bs w' (Zj7 hb k6) ((Zas.of_own H.op.own).old hb) (by have:=H.op.len;omega));rw [←am,←aU] at HC;obtain ⟨bv,aS⟩:∃ n,n=Ze6 bs:=⟨_,rfl⟩;rw [←aS] at HBs;rw [Zli H.op] at aS;obtain ⟨A,al⟩:∃ n,n=s.stk.length:=⟨_,rfl⟩;have cB:A≤12:=by rw [al];exact HW.1
 have c9:IntKind.i64.wrap ((A:Int)-(G:Int))=(A:Int)-G:=IntWalk.i64_in _ (by omega);have da:IntKind.i64.wrap ((A:Int)-(G:Int)+(ps:Int))=(A:Int)-G+ps:=IntWalk.i64_in _ (by omega);have L:ZhS m ls i s=if A<G+bv∨12<A-G+ps then ((12:Int),s.stk) else match ZeD m ls i (s.stk.drop (A-G)) with
  | none=>((11:Int),s.stk)
  | some t=>(0,s.stk.take (A-G)++List.replicate ps t):=by
  unfold ZhS;rw [←am,←aU,←aS,←al];rfl
 rw [←al] at k5;have cX:(i.op == 34)=false:=by simp;omega
 have cY:(i.op == 35)=false:=by simp;omega
 obtain ⟨V,aR⟩:∃ V,V=w.alloc (.cells #[.int .i64 i.op,.int .i64 i.a,.int .i64 i.b] 72):=⟨_,rfl⟩;have bj:Below w.heap.size w V:=by rw [aR];exact bE
 have aC:Blk V w.heap.size #[.int .i64 i.op,.int .i64 i.a,.int .i64 i.b] 72:=by rw [aR];exact Blk.new w _ _
 have HB1:=Zh bj;have aJ:=Zh aC;have ct:=Zh aR;have HH:=Zh H;have cR:=Zh Hj;have aK:=Zh L;have av:=Zh al;have cT:=Zh am;have kl:=Blk.lt H.pk;have HX:=Zh (show ∀ w',Below V.heap.size V w'→w'.cell? ⟨K,5,none⟩=some (.slice so A sc)∧w'.cell? ⟨w.heap.size,0,none⟩=some (.int .i64 i.op)∧w'.cell? ⟨w.heap.size,1,none⟩=some (.int .i64 i.a)∧w'.cell? ⟨w.heap.size,2,none⟩=some (.int .i64 i.b) from fun w' hb=>⟨Zj7 hb (Zj7 bj k5),(aC.old hb).cell 0 rfl,(aC.old hb).cell 1 rfl,(aC.old hb).cell 2 rfl⟩);have bD:=Zh (show ∀ lf,lf=A-G→G≤A→∀ w',Below w.heap.size w w'→∀ co cc,Zas w' co cc (s.stk.drop lf)→Calls Tryz.prog 167 #[ZQ.p K,ZI.i i,.slice co (s.stk.drop lf).length cc] w' (Zka w' (ZeD m ls i (s.stk.drop lf))) from
  fun lf aE c4 w' hb co cc hr=>ZlW (H.pk.old hb) (Hj.old hb) hm (H.tl.1.old hb) bQ hk hi aT hr (by rw [List.length_drop,←al,←am,aE];omega) (fun t ht=>HW.2 t (List.mem_of_mem_drop ht)))
 have bT:=H.ts;have aN:=Zh bT;have ci:=Zh aT;have bx:=Zh (show bs.length≤6 by rw [H.op.len];exact hd);clear L aR bj aC Hj hm bQ hk hi HW hd al am aU k5 k6 H bT aT;clear aS aB;go_enter Tryz.func104,Tryz.ntmps104
 go_upto_region 1 with fail
 rw [←ct.out];obtain ⟨k5,i0,i1,i2⟩:=HX.out _ (Below.refl _ _)
 go_upto_region 5 with (go_at_call 165;refine (HC.out _ HB1.out).mono ?_;rintro r w2 ⟨rfl,bM⟩;have HB2:=Zh bM;clear bM k5 i0 i1 i2;obtain ⟨k5,i0,i1,i2⟩:=HX.out _ HB2.out)
 by_cases hc1:A<G+bv
 ·have he:(ZhS m ls i s).1=12:=by rw [aK.out,if_pos (.inl hc1)]
  have cz:(A:Int)-G<bv:=by omega
  exact k63
 ·have cz:¬ (A:Int)-G<bv:=by omega
  by_cases hc2:12<A-G+ps
  ·have he:(ZhS m ls i s).1=12:=by rw [aK.out,if_pos (.inr hc2)]
   have cy:(A:Int)-G+ps > 12:=by omega
   exact k63
  ·have cy:¬ (A:Int)-G+ps > 12:=by omega
   have L:ZhS m ls i s=match ZeD m ls i (s.stk.drop (A-G)) with
    | none=>((11:Int),s.stk)
    | some t=>(0,s.stk.take (A-G)++List.replicate ps t):=by rw [aK.out,if_neg (by omega)]
   obtain ⟨lf,aE⟩:∃ n,n=A-G:=⟨_,rfl⟩;have cx:(A:Int)-G=lf:=by omega
   rw [←aE] at L;have ce:=Zh aE;have a4:lf≤A:=by omega
   have cL:(lf:Int)≤A:=by omega
   have aX:=Zh L;clear L aK hc1 hc2 aE;have bP:∀ w',Below w.heap.size w w'→w'.frozen? ⟨K,5,none⟩=false∧w'.frozen? ⟨K,6,none⟩=false:=fun w' Y=>⟨(HH.out.pk.old Y).frozen 5,(HH.out.pk.old Y).frozen 6⟩;have b9:=Zh bP;have cO:¬ (sc:Int) < A:=by have:=aN.out.2.1;have:=av.out;omega
   have cJ:¬ (A:Int) < lf:=by omega
   have cK:¬ (sc:Int) < lf:=by omega
   have cM:((A-lf:Nat):Int)=A-lf:=by omega
   clear bP
   go_upto_region 7 with (go_at_call 166;refine (HBs.out _ (Zag HB1.out HB2.out)).mono ?_;rintro r w3 ⟨rfl,hb3⟩;have HB3:=Zh (Zag HB2.out hb3);clear hb3)
   try rw [cx]
   obtain ⟨co,cc,bN,c2,a5⟩:=Zl8 aN.out (lf:=lf) (by rw [←av.out];exact a4);refine rO (fun w':World=>w'.cell? ⟨K,5,none⟩=some (.slice so A sc)∧w'.cell? ⟨w.heap.size,0,none⟩=some (.int .i64 i.op)∧w'.cell? ⟨w.heap.size,1,none⟩=some (.int .i64 i.a)∧w'.cell? ⟨w.heap.size,2,none⟩=some (.int .i64 i.b)) (.plain 0 (.plain 1 (.plain 2 (.plain 3 (.plain 4 (.plain 5 (.plain 6 (.plain 7 (.two 8 12 (oL [9,10,11,112,113,14]) (oL [108,9,10,11,113,14])))))))))) (HX.out _ (Below.drew HB3.out)) ?_
   repeat refine pO ?_
   have bO:(s.stk.drop lf).length=A-lf:=by rw [List.length_drop,←av.out]
   obtain ⟨q,hq⟩:∃ q,q=ZeD m ls i (s.stk.drop lf):=⟨_,rfl⟩;have HP:=Zh (show ∀ w',Below w.heap.size w w'→Calls Tryz.prog 167 #[ZQ.p K,ZI.i i,.slice co (A-lf) cc] w' (Zka w' q) from fun w' Y=>by
    have:=bD.out lf ce.out (by omega) w' Y co cc (a5.old Y);rw [bO,←hq] at this;exact this)
   have bl:=aX.out;rw [←hq] at bl;have aL:=Zh bl;clear bl hq aX bD a5 bO;refine Zd6 ?_ ?_;refine Zd4 _ (by rfl) (by rfl) fun Kv hK=>?_;go_simp
   try rw [bN]
   refine (HP.out _ (Zag HB1.out (Below.drew HB3.out))).mono ?_;rintro r w5 ⟨⟨t0,F⟩,rfl,ht,hb5⟩;have HT:=Zh ht;have HB5:=Zh (Zag HB3.out (Zag (Below.drew (Below.refl _ _)) hb5));refine hK _ _ ⟨HX.out _ HB5.out,?_⟩;clear hK Kv ht hb5
   repeat refine pO ?_
   refine oO fun Kv hK=>?_;go_simp;refine hK _ _ ⟨HX.out _ (bal HB5.out _),?_⟩;clear hK Kv;obtain ⟨D,M⟩:∃ n,n=w5.heap.size:=⟨_,rfl⟩;have B:Blk (w5.alloc (.cells #[.int .i64 0,.int .i64 0] 38)) D #[.int .i64 0,.int .i64 0] 38:=Blk.new' _ _ M;have X:V.heap.size≤D:=by rw [M];exact HB5.out.size
   have hb6:Below V.heap.size V (w5.alloc (.cells #[.int .i64 0,.int .i64 0] 38)):=bal HB5.out _;obtain ⟨w6,hw6⟩:∃ x,x=w5.alloc (.cells #[.int .i64 0,.int .i64 0] 38):=⟨_,rfl⟩;rw [←M];rw [←hw6] at B hb6 ⊢;clear hw6 M;refine oO fun Kv hK=>?_;have y0:=B.cell 0 (v:=.int .i64 0) rfl;have y1:=B.cell 1 (v:=.int .i64 0) rfl;have g0:=B.frozen 0;have g1:=B.frozen 1;go_simp;have hNw:w.heap.size<D:=Nat.lt_of_lt_of_le aJ.out.lt X;have hb7:Below V.heap.size V ((w6.setCell ⟨D,0,none⟩ (.int .i64 t0)).setCell ⟨D,1,none⟩ (.int .i64 F)):=ZcS (ZcS hb6 X _) X _;have aM:=Zh (show Blk ((w6.setCell ⟨D,0,none⟩ (.int .i64 t0)).setCell ⟨D,1,none⟩ (.int .i64 F)) D #[.int .i64 t0,.int .i64 F] 38 from Blk.set (Blk.set B 0 _) 1 _);have HB7:=Zh hb7;refine hK _ _ ⟨HX.out _ hb7,?_⟩;clear hK Kv y0 y1 g0 g1 B hb6 hb7
   repeat refine pO ?_
   refine Zd7 ?_
   rotate_left
   refine Zd4 _ (by rfl) (by rfl) fun Kv hK=>?_;go_simp;refine hK _ _ ⟨HX.out _ (bal (Below.drew HB3.out) _),?_⟩;clear hK Kv;obtain ⟨D,M⟩:∃ n,n=w3.heap.size:=⟨_,rfl⟩;have aD:Blk (w3.alloc (.cells #[.int .i64 0,.int .i64 0] 38)).drew D #[.int .i64 0,.int .i64 0] 38:=Blk.drew (Blk.new' _ _ M);have X:V.heap.size≤D:=by rw [M];exact HB3.out.size
   have ac:Below V.heap.size V (w3.alloc (.cells #[.int .i64 0,.int .i64 0] 38)).drew:=Below.drew (bal HB3.out _);obtain ⟨w5,hw5⟩:∃ x,x=(w3.alloc (.cells #[.int .i64 0,.int .i64 0] 38)).drew:=⟨_,rfl⟩;rw [←M];rw [←hw5] at aD ac ⊢;clear hw5 M;refine oO fun Kv hK=>?_;go_simp
   try rw [bN]
   refine (HP.out _ (Zag HB1.out ac)).mono ?_;rintro r w6 ⟨⟨t0,F⟩,rfl,ht,aA⟩;have HT:=Zh ht;have hb6:=Zag ac aA;have B:=aD.old aA;refine hK _ _ ⟨HX.out _ hb6,?_⟩;clear hK Kv ht aD ac aA
   repeat refine pO ?_
   refine oO fun Kv hK=>?_;have y0:=B.cell 0 (v:=.int .i64 0) rfl;have y1:=B.cell 1 (v:=.int .i64 0) rfl;have g0:=B.frozen 0;have g1:=B.frozen 1;go_simp;have hNw:w.heap.size<D:=Nat.lt_of_lt_of_le aJ.out.lt X;have hb7:Below V.heap.size V ((w6.setCell ⟨D,0,none⟩ (.int .i64 t0)).setCell ⟨D,1,none⟩ (.int .i64 F)):=ZcS (ZcS hb6 X _) X _;have aM:=Zh (show Blk ((w6.setCell ⟨D,0,none⟩ (.int .i64 t0)).setCell ⟨D,1,none⟩ (.int .i64 F)) D #[.int .i64 t0,.int .i64 F] 38 from Blk.set (Blk.set B 0 _) 1 _);have HB7:=Zh hb7;refine hK _ _ ⟨HX.out _ hb7,?_⟩;clear hK Kv y0 y1 g0 g1 B hb6 hb7
   repeat refine pO ?_
   refine Zd7 ?_;clear k5 i0 i1 i2
   rotate_left
   all_goals
    obtain ⟨w7,bV⟩:∃ x,x=(w6.setCell ⟨D,0,none⟩ (.int .i64 t0)).setCell ⟨D,1,none⟩ (.int .i64 F):=⟨_,rfl⟩;rw [←bV] at aM HB7 ⊢;clear bV;obtain ⟨k5,i0,i1,i2⟩:=HX.out _ HB7.out;rcases q with _|t
    ·have he:(ZhS m ls i s).1=11:=by rw [aL.out]
     go_wp2;go_ret;exact Zmc hn1 hn2 he (by decide) (Upd.of (Zag HB1.out HB7.out))
    ·obtain rfl:=HT.out t rfl;have bB:=Zh (show (ZhS m ls i s).1=0 by rw [aL.out]);have bC:=Zh (show (ZhS m ls i s).2=s.stk.take lf++List.replicate ps ⟨t0,F⟩ by rw [aL.out]);have bm:(s.stk.take lf).length=lf:=by rw [List.length_take,←av.out];omega
     have b8:=Zh (show Calls Tryz.prog 103 #[.slice so lf sc] w7 (Zfi 38 w7 (s.stk.take lf)) by
      have W:=ZjW w7 so sc (s.stk.take lf) ((aN.out.1.old (Zag HB1.out HB7.out)).take lf (by rw [←av.out];exact a4) sc (fun q9=>(aN.out.1.2.1 q9).2)) (by omega);rwa [bm] at W)
     have a7:=Zh bm;clear bm aL HT
     go_upto_region 11 with (go_at_call 103;refine b8.out.mono ?_;rintro r w8 ⟨⟨O,N,rfl,aH⟩,bk⟩;rw [a7.out];have cf:=Zh aH;have an:=Zh (Zag HB7.out bk);have aW:=Zh bk;clear aH bk;have f5:=(b9.out w8 (Zag HB1.out an.out)).1;have c5:=(HX.out _ an.out).1)
     have aP:=cf.out;rw [a7.out] at aP;have ax:K<w7.heap.size:=Nat.lt_of_lt_of_le kl (Zag HB1.out HB7.out).size;have bL:D<w7.heap.size:=aM.out.lt;have bK:w.heap.size<w7.heap.size:=Nat.lt_of_lt_of_le aJ.out.lt HB7.out.size;have bg:Upd K K w (w8.setCell ⟨K,5,none⟩ (.slice O lf N)):=(Upd.of (Zag HB1.out an.out)).set 5 _;have be:Pk (w8.setCell ⟨K,5,none⟩ (.slice O lf N)) K h m (.slice lo ls.length lc) (.slice O lf N) (.slice oo bs.length oc):=Blk.set (HH.out.pk.old (Zag HB1.out an.out)) 5 _;have bd:(w8.setCell ⟨K,5,none⟩ (.slice O lf N)).ownsRow w7.heap.size 38 2 (.slice O lf N) lf (Zal (s.stk.take lf)):=ownsRow_setCell_other aP (Zl9 aP ax) _;have bb:Blk (w8.setCell ⟨K,5,none⟩ (.slice O lf N)) w.heap.size #[.int .i64 i.op,.int .i64 i.a,.int .i64 i.b] 72:=Blk.other (aJ.out.old an.out) (by show w.heap.size≠K;omega) _;have bf:Blk (w8.setCell ⟨K,5,none⟩ (.slice O lf N)) D #[.int .i64 t0,.int .i64 F] 38:=Blk.other (aM.out.old aW.out) (by show D≠K;omega) _;obtain ⟨W9,bi⟩:∃ x,x=w8.setCell ⟨K,5,none⟩ (.slice O lf N):=⟨_,rfl⟩;rw [←bi] at bg be bd bb bf ⊢;have bG:=Zh (show w7.heap.size≤W9.heap.size by rw [bi,Zci];exact aW.out.size);have cr:=Zh bg;have ck:=Zh be;have cg:=Zh bd;have cb:=Zh bb;have cq:=Zh bf;clear bi bg be bd bb bf aP f5 c5 k5 i0 i1 i2;go_wp2
     go_loopw [10] (fun x wr=>∃ j:Nat,j≤ps∧x=.int .i64 (j:Int)∧∃ y f,Hid (Upd K K w wr)∧Hid (Pk wr K h m (.slice lo ls.length lc) (.slice y (lf+j) f) (.slice oo bs.length oc))∧Hid (wr.ownsRow w7.heap.size 38 2 (.slice y (lf+j) f) (lf+j) (Zal (s.stk.take lf++List.replicate j ⟨t0,F⟩)))∧Hid (Blk wr w.heap.size #[.int .i64 i.op,.int .i64 i.a,.int .i64 i.b] 72)∧Hid (Blk wr D #[.int .i64 t0,.int .i64 F] 38)∧Hid (w7.heap.size≤wr.heap.size)) (fun x _=>ps-(intOf x).toNat)
     case atStart=>exact ⟨0,Nat.zero_le _,rfl,O,N,cr,ck,Zh (by rw [List.replicate_zero,List.append_nil];exact cg.out),cb,cq,bG⟩
     case round=>
      obtain ⟨j,hj,rfl,y,f,HU,au,a6,HI,a9,bF⟩:=hrel;by_cases hjl:j<ps
      ·have cI:(j:Int) < ps:=by omega
       have db:IntKind.i64.wrap ((j:Int)+1)=j+1:=IntWalk.i64_in _ (by omega);have k5:wr.cell? ⟨K,5,none⟩=some (.slice y (lf+j) f):=au.out.cell 5 rfl;have z0:wr.cell? ⟨D,0,none⟩=some (.int .i64 t0):=a9.out.cell 0 rfl;have z1:wr.cell? ⟨D,1,none⟩=some (.int .i64 F):=a9.out.cell 1 rfl
       go_upto_region 14 with fail
       have cD:(wr.alloc (.cells #[.int .i64 t0,.int .i64 F] 38)).cell? ⟨K,5,none⟩=some (.slice y (lf+j) f):=Zj7 (show Below wr.heap.size wr (wr.alloc (.cells #[.int .i64 t0,.int .i64 F] 38)) by exact bE) k5;refine rO (fun _:World=>True) (.plain 0 (.plain 1 (.plain 2 (.plain 3 (.two 4 5 (oL [105,106,107,8,9,110]) (.two 4 6 (oL [106,107,8,9,110]) (oL [104,107,8,9,110]))))))) trivial ?_
       repeat refine pO ?_
       refine Zd6 ?_ ?_;refine Zd4 _ (by rfl) (by rfl) fun Kv hK=>?_;go_simp;refine hK _ _ ⟨trivial,?_⟩;clear hK Kv;refine oO fun Kv hK=>?_;go_simp;refine hK _ _ ⟨trivial,?_⟩;clear hK Kv;refine oO fun Kv hK=>?_;go_simp;refine hK _ _ ⟨trivial,?_⟩;clear hK Kv
       rotate_left
       refine Zd4 _ (by rfl) (by rfl) fun Kv hK=>?_;go_simp;refine hK _ _ ⟨trivial,?_⟩;clear hK Kv;refine Zd6 ?_ ?_;refine Zd4 _ (by rfl) (by rfl) fun Kv hK=>?_;go_simp;refine hK _ _ ⟨trivial,?_⟩;clear hK Kv;refine oO fun Kv hK=>?_;go_simp;refine hK _ _ ⟨trivial,?_⟩;clear hK Kv
       rotate_left
       refine Zd4 _ (by rfl) (by rfl) fun Kv hK=>?_;go_simp;refine hK _ _ ⟨trivial,?_⟩;clear hK Kv;refine oO fun Kv hK=>?_;go_simp;refine hK _ _ ⟨trivial,?_⟩;clear hK Kv
       all_goals
        clear k5 cD z0 z1;have aB:Below wr.heap.size wr (wr.alloc (.cells #[.int .i64 t0,.int .i64 F] 38)).drew:=by exact bE
        have aq:=Zh (show (wr.alloc (.cells #[.int .i64 t0,.int .i64 F] 38)).drew.ownsRow w7.heap.size 38 2 (.slice y (lf+j) f) (lf+j) (Zal (s.stk.take lf++List.replicate j ⟨t0,F⟩)) from ZhM a6.out fun k hk=>aB.block k (a6.out.lt k hk).2);have cm:=Zh (ZlY wr ([⟨t0,F⟩]:List Ty) _ 38 rfl);have ah:=Zh aB;clear aB;refine oO fun Kv hK=>?_;refine Zel (.tmp 78) (.tmp 80) 23 rfl w7.heap.size 38 2 16 Zfh (.slice y (lf+j) f) (lf+j) _ rfl aq.out (some ⟨wr.heap.size,0,none⟩) 1 1 (Zal ([⟨t0,F⟩]:List Ty)) rfl cm.out (Zar _) (by omega) (by unfold maxLen;omega) (Nat.le_trans bF.out ah.out.size) ?_;intro ao2 cap2 ab af I;have aG:=Zl9 aq.out ax;have bR:=Zl9 aq.out bL;have aF:=Zl9 aq.out bK;have bW:wr.heap.size≤(wr.alloc (.cells #[.int .i64 t0,.int .i64 F] 38)).drew.heap.size:=ah.out.size;have a1:Pk ab K h m (.slice lo ls.length lc) (.slice y (lf+j) f) (.slice oo bs.length oc):=by have W:=au.out.old ah.out;unfold Pk Blk;rw [I.block K (Blk.lt W) (fun e=>aG e.symm)];exact W
        have a2:Blk ab D #[.int .i64 t0,.int .i64 F] 38:=by have W:=a9.out.old ah.out;unfold Blk;rw [I.block D (Blk.lt W) (fun e=>bR e.symm)];exact W
        have a0:Blk ab w.heap.size #[.int .i64 i.op,.int .i64 i.a,.int .i64 i.b] 72:=by have W:=HI.out.old ah.out;unfold Blk;rw [I.block w.heap.size (Blk.lt W) (fun e=>aF e.symm)];exact W
        have a3:Upd K K w ab:=(HU.out.bel ah.out).grown I (fun k hk=>.inr (by
         rcases aq.out.2 with ⟨hv,_⟩|⟨g,c,cW,hv,c1,c3,_⟩
         ·rw [hv] at hk;cases hk
         ·rw [hv] at hk;have e9:g=k:=Option.some.inj hk;have:=(Zag HB1.out HB7.out).size;omega))
        have ar:=Zh a1;have bH:=Zh a2;have bA:=Zh a0;have bI:=Zh a3;have aY:=Zh af;have bJ:=Zh (show w7.heap.size≤ab.heap.size from Nat.le_trans bF.out (Nat.le_trans bW I.size));clear a1 a2 a0 a3 af I aG bR aF bW;refine hK _ _ ⟨trivial,?_⟩;clear hK Kv
        repeat refine pO ?_
        have c5:ab.cell? ⟨K,5,none⟩=some (.slice y (lf+j) f):=ar.out.cell 5 rfl;have f5:ab.frozen? ⟨K,5,none⟩=false:=ar.out.frozen 5;refine oO fun Kv hK=>?_;go_simp;refine hK _ _ ⟨trivial,?_⟩;clear hK Kv c5 f5;refine Zd7 ?_;go_wp2;go_roundw
        case rel=>
         refine ⟨j+1,by omega,by go_num,ao2,cap2,Zh (bI.out.set 5 _),Zh (Blk.set ar.out 5 _),Zh ?_,Zh (Blk.other bA.out (by show w.heap.size≠K;omega) _),Zh (Blk.other bH.out (by show D≠K;omega) _),Zh (by rw [Zci];exact bJ.out)⟩;rw [List.replicate_succ',←List.append_assoc,Zao];exact ownsRow_setCell_other aY.out (Zl9 aY.out ax) _
        case measure=>simp [intOf];omega
      ·obtain rfl:j=ps:=by omega
       have c7:¬ (j:Int) < j:=by omega
       have i0:wr.cell? ⟨w.heap.size,0,none⟩=some (.int .i64 i.op):=HI.out.cell 0 rfl;obtain ⟨Z,ak⟩:∃ n,n=lf+j:=⟨_,rfl⟩;have J:(ZhS m ls i s).2.length=Z:=by rw [bC.out,List.length_append,a7.out,List.length_replicate,ak]
       have aQ:Pk wr K h m (.slice lo ls.length lc) (.slice y (ZhS m ls i s).2.length f) (.slice oo bs.length oc):=by rw [J,ak];exact au.out
       have az:ZeR wr y f (ZhS m ls i s).2:=by refine ZeR.own (base:=w7.heap.size) ?_;rw [J,bC.out,ak];exact a6.out
       have k5:wr.cell? ⟨K,5,none⟩=some (.slice y Z f):=by rw [ak];exact au.out.cell 5 rfl
       have k6:wr.cell? ⟨K,6,none⟩=some (.slice oo bs.length oc):=au.out.cell 6 rfl;have bS:=ci.out;by_cases h3:ZaS i.op=true
       ·have aO:=h3;unfold ZaS inI at aO;simp only [Bool.and_eq_true,decide_eq_true_eq] at aO;have cv:i.op ≥ 29:=by omega
        have c0:i.op≤33:=aO.2;have ai:=Zh aQ;have a8:=Zh az;have ap:=Zh J;have H3:=Zh h3;have bz:=Zh (show ∀ w',Below wr.heap.size wr w'→Calls Tryz.prog 103 #[.slice y Z f] w' (Zfi 38 w' (ZhS m ls i s).2) from fun w' Y=>by
         have W:=ZjW w' y f (ZhS m ls i s).2 (az.1.old Y) (by omega);rwa [J] at W)
        have hS:∀ w',Upd K K wr w'→w'.cell? ⟨K,5,none⟩=some (.slice y Z f)→(fun w':World=>w'.cell? ⟨K,5,none⟩=some (.slice y Z f)∧w'.cell? ⟨w.heap.size,0,none⟩=some (.int .i64 i.op)) w':=fun w' hu hk=>⟨hk,hu.cell (HI.out.cell 0 rfl) (by show w.heap.size≠K;omega) (by show w.heap.size≠K;omega)⟩;have cS:=Zh hS;have HS:=Zh (show ∀ w',Below wr.heap.size wr w'→(fun w':World=>w'.cell? ⟨K,5,none⟩=some (.slice y Z f)∧w'.cell? ⟨w.heap.size,0,none⟩=some (.int .i64 i.op)) w' from fun w' hb=>hS w' (Upd.of hb) (Zj7 hb k5));clear hS ak J aQ az h3 aO bS
        go_upto_region 16 with fail
        refine rO (fun w':World=>w'.cell? ⟨K,5,none⟩=some (.slice y Z f)∧w'.cell? ⟨w.heap.size,0,none⟩=some (.int .i64 i.op)) (.plain 0 (.plain 1 (.plain 2 (.plain 3 (.plain 5 (.plain 6 (.plain 7 (.plain 8 (.plain 9 (.plain 10 (.two 4 11 (oL [111,12,113,114,15,16,117]) (.plain 12 (.two 4 13 (oL [113,114,15,16,117]) (oL [104,114,15,16,117])))))))))))))) (HS.out _ (Below.drew (Below.refl _ _))) ?_
        repeat refine pO ?_
        refine Zd6 ?_ ?_;refine Zd4 _ (by rfl) (by rfl) fun Kv hK=>?_;go_simp;refine hK _ _ ⟨HS.out _ (Below.drew (Below.refl _ _)),?_⟩;clear hK Kv;refine oO fun Kv hK=>?_;go_simp;refine (bz.out _ (Below.drew (Below.refl _ _))).mono ?_;rintro r E ⟨⟨bo,bc,rfl,C⟩,T⟩;rw [ap.out];have z:=Zh (show Below wr.heap.size wr E from Zag (Below.drew (Below.refl _ _)) T);have aZ:=Zh C;clear C T;have bZ:=Zj7 z.out k6;refine hK _ _ ⟨HS.out _ z.out,?_⟩;clear hK Kv
        repeat refine pO ?_
        refine oO fun Kv hK=>?_;go_simp;refine hK _ _ ⟨HS.out _ (bal z.out _),?_⟩;clear hK Kv
        rotate_left
        refine Zd4 _ (by rfl) (by rfl) fun Kv hK=>?_;go_simp;refine (bz.out _ (Below.drew (Below.refl _ _))).mono ?_;rintro r E ⟨⟨bo,bc,rfl,C⟩,T⟩;rw [ap.out];have z:=Zh (show Below wr.heap.size wr E from Zag (Below.drew (Below.refl _ _)) T);have aZ:=Zh C;clear C T;have bZ:=Zj7 z.out k6;refine hK _ _ ⟨HS.out _ z.out,?_⟩;clear hK Kv
        repeat refine pO ?_
        refine Zd6 ?_ ?_;refine Zd4 _ (by rfl) (by rfl) fun Kv hK=>?_;go_simp;refine hK _ _ ⟨HS.out _ z.out,?_⟩;clear hK Kv;refine oO fun Kv hK=>?_;go_simp;refine hK _ _ ⟨HS.out _ (bal z.out _),?_⟩;clear hK Kv
        rotate_left
        refine Zd4 _ (by rfl) (by rfl) fun Kv hK=>?_;go_simp;refine hK _ _ ⟨HS.out _ (bal z.out _),?_⟩;clear hK Kv;have cE:=Zj7 (show Below E.heap.size E (E.alloc (.cells #[.int .i64 i.op,.slice bo Z bc,.slice none 0 0,.bool false] 213)) by exact bE) bZ;refine oO fun Kv hK=>?_;go_simp;refine hK _ _ ⟨HS.out _ (bal z.out _),?_⟩;clear hK Kv cE
        all_goals
         have U:Below wr.heap.size wr (E.alloc (.cells #[.int .i64 i.op,.slice bo Z bc,.slice none 0 0,.bool false] 213)):=bal z.out _;have bh:Upd K K w (E.alloc (.cells #[.int .i64 i.op,.slice bo Z bc,.slice none 0 0,.bool false] 213)):=HU.out.bel U;have ch:=Zh ((HH.out.op.upd bh HH.out.pk.noTy HH.out.ne).own);have cn:=Zh (Zcn E #[.int .i64 i.op,.slice bo Z bc,.slice none 0 0,.bool false] 213 (n:=1) (size:=4) rfl);have bU:w0.heap.size≤(E.alloc (.cells #[.int .i64 i.op,.slice bo Z bc,.slice none 0 0,.bool false] 213)).heap.size:=Nat.le_trans HH.out.hb.size bh.size;have b6:=bx.out;refine oO fun Kv hK=>?_;refine Zel (.tmp 96) (.tmp 105) 145 rfl w0.heap.size 213 4 64 Zl7 (.slice oo bs.length oc) bs.length _ rfl ch.out (some ⟨E.heap.size,0,none⟩) 1 1 (vbL i.op bo Z bc) rfl cn.out (by intro u hu;simp only [vbL,List.mem_cons,List.not_mem_nil,or_false] at hu;rcases hu with rfl|rfl|rfl|rfl<;>rfl) (by omega) (by unfold maxLen;omega) bU ?_;intro ao2 cap2 aI ag ae;have ay:Pk (E.alloc (.cells #[.int .i64 i.op,.slice bo Z bc,.slice none 0 0,.bool false] 213)) K h m (.slice lo ls.length lc) (.slice y (ZhS m ls i s).2.length f) (.slice oo bs.length oc):=ai.out.old U;have aG:(Value.slice oo bs.length oc).ownBlock≠some K:=by
          intro e9;cases hoo:oo with
          | none=>rw [hoo] at e9;cases e9
          | some a=>rw [hoo] at e9;exact HH.out.ne a hoo (Option.some.inj e9)
         have aF:(Value.slice oo bs.length oc).ownBlock≠some w.heap.size:=by intro e9;have:=(HH.out.op.own.lt _ e9).2;omega
         have R:Pk aI K h m (.slice lo ls.length lc) (.slice y (ZhS m ls i s).2.length f) (.slice oo bs.length oc):=by unfold Pk Blk;rw [ae.block K (Blk.lt ay) (fun e=>aG e.symm)];exact ay
         have aw:Blk aI w.heap.size #[.int .i64 i.op,.int .i64 i.a,.int .i64 i.b] 72:=by have W:=HI.out.old U;unfold Blk;rw [ae.block w.heap.size (Blk.lt W) (fun e=>aF e.symm)];exact W
         have c5:aI.cell? ⟨K,5,none⟩=some (.slice y Z f):=by rw [←ap.out];exact Blk.cell R 5 rfl
         have c6:aI.cell? ⟨K,6,none⟩=some (.slice oo bs.length oc):=Blk.cell R 6 rfl;have f6:aI.frozen? ⟨K,6,none⟩=false:=Blk.frozen R 6;have cl:=Zh R;have cd:=Zh aw;have cj:=Zh ag;have ca:=Zh ae;have b7:=Zh U;clear ay aG aF R ag ae U bh bU b6;refine hK _ _ ⟨⟨c5,aw.cell 0 rfl⟩,?_⟩;clear hK Kv aw
         repeat refine pO ?_
         refine oO fun Kv hK=>?_;go_simp;refine hK _ _ ⟨⟨?_,?_⟩,?_⟩
         ·rw [←ap.out];exact Blk.cell (Blk.set cl.out 6 _) 5 rfl
         ·exact (Blk.other cd.out (by show w.heap.size≠K;omega) _).cell 0 rfl
         clear hK Kv c5 c6 f6;refine Zd7 ?_;go_wp2;go_ret;refine Zma (bo:=bo) (bc:=bc) HH.out hn1 hn2 H3.out bB.out HU.out ai.out a8.out b7.out ?_ ?_ ca.out
         ·exact (ZeR.own aZ.out).upd ((Upd.refl K K E).alloc _) (Pk.noTy (ai.out.old z.out)) (Pk.noTy (ai.out.old z.out))
         ·rw [ap.out];exact cj.out
       ·have cv:¬ i.op ≥ 29:=by intro hh;exact h3 (by unfold ZaS inI;simp;omega)
        have cw:ZaS i.op=false:=by simpa using h3
        have ai:=Zh aQ;have a8:=Zh az;clear aQ az J ak h3;go_wp2;go_ret;exact Zmb HH.out hn1 hn2 cw bB.out HU.out ai.out a8.out
theorem S6.old {s:Ps} {so:Option Addr} {sc:Nat} {oo:Option Addr} {oc:Nat} {bs:List VB} (H:S6 w0 w K h m lo lc ls s so sc oo oc bs) {w1:World} (hb:Below w.heap.size w w1):S6 w0 w1 K h m lo lc ls s so sc oo oc bs:=
 ⟨H.pk.old hb,H.ts.upd (Upd.of (K:=K) (B:=K) hb) H.pk.noTy H.pk.noTy,H.op.upd (Upd.of hb) H.pk.noTy H.ne,H.tl.upd (Upd.of (K:=K) (B:=K) hb) H.pk.noTy H.pk.noTy,Zag H.hb hb,H.hK⟩
theorem P6.pre {oo:Option Addr} {q:Int × Ps} {r:Ending} {w' w1:World} (hb:Below w.heap.size w w1) (H:P6 w0 w1 K h m lo lc ls oo q r w'):P6 w0 w K h m lo lc ls oo q r w':=⟨H.1,(Upd.of hb).trans H.2.1,H.2.2⟩
theorem Zme {s:Ps} {oo:Option Addr} {i:In3} (b:i.op=34∨i.op=35) (c:∀ w1,Below w.heap.size w w1→Calls Tryz.prog 164 #[ZQ.p K,ZI.i i] w1 (P6 w0 w1 K h m lo lc ls oo (ZeE m ls i s))):
  Calls Tryz.prog 104 #[ZQ.p K,ZI.i i] w (P6 w0 w K h m lo lc ls oo (ZeE m ls i s)):=by
 obtain ⟨q,e⟩:∃ q,q=ZeE m ls i s:=⟨_,rfl⟩;rw [←e] at c ⊢;clear e;obtain ⟨t,n,o⟩:=i;dsimp only at b c ⊢;have a:Below w.heap.size w (w.alloc (.cells #[.int .i64 t,.int .i64 n,.int .i64 o] 72)):=by exact bE
 have d:=Zh (c _ a);have j:=Zh a;clear c a;rcases b with rfl|rfl
 all_goals
  go_enter Tryz.func104,Tryz.ntmps104
  go_wp2_with (go_at_call 164;refine d.out.mono ?_;rintro r w1 ⟨rfl,g,f⟩;have l:=Zh g;have k:=Zh f;clear g f)
  go_ret;exact P6.pre j.out ⟨rfl,l.out,k.out⟩
theorem Zmf {s:Ps} {y:Option Addr} {x:Nat} {oo:Option Addr} {oc:Nat} {bs:List VB} {i:In3} {l:List In3} {k:Nat} (H:S6 w0 w K h m lo lc ls s y x oo oc bs) (n:Zaz w h m) (u:Za2 m=true) (g:∀ t∈ls,Zfk m t) (q:k<m.me.length) (p:ZfU m k i) (v:0≤i.op∧i.op<36) (b:Wf m s (i :: l)):
  Calls Tryz.prog 104 #[ZQ.p K,ZI.i i] w (P6 w0 w K h m lo lc ls oo (ZeE m ls i s)):=by
 have f:=b.depth;have a:=b.stk;by_cases h34:i.op=34
 ·obtain ⟨r,o,c,-,-⟩:=b.else_ h34;have e:o.beg.length≤12:=by have j:=b.opn;rw [c,List.reverse_append,List.reverse_singleton,List.singleton_append] at j;exact j.1.1
  refine Zme (.inl h34) fun z d=>?_;have:=Zln (H.old d) h34 c f e a.1;rwa [←h34] at this
 ·by_cases h35:i.op=35
  ·obtain ⟨r,o,c,-⟩:=b.end_ h35;refine Zme (.inr h35) fun z d=>?_;have:=Zlo (H.old d) h35 c f a.1;rwa [←h35] at this
  ·exact Zmd H n u g q p (by omega) a f b.base
end
end
section
open Go.RowKit
section
variable {w0 w:World}{K:Nat}{h:Hd}{m:Md}{lo:Option Addr}{lc:Nat}{ls:List Ty}{s:Ps}{sso:Option Addr}{ssc:Nat}{oo:Option Addr}{oc:Nat}{bs:List VB}
section
variable (H:S6 w0 w K h m lo lc ls s sso ssc oo oc bs)
include H
theorem S6.grow {w':World} {row:Option Nat} (hg:w.grownBy w' row) (hr:∀ b,row=some b→ZeS w b∧b≠K∧(∀ a,oo=some a→a.block≠b)∧w0.heap.size≤b):S6 w0 w' K h m lo lc ls s sso ssc oo oc bs:=by
 cases row with
 | none=>exact H.old ((Below.refl _ _).grown hg (Nat.le_refl _) (fun j p=>by cases p))
 | some b=>
  obtain ⟨c,g,n,l⟩:=hr b rfl;have d:Upd b b w w':=(Upd.refl b b w).grown hg (fun k f=>.inl (Option.some.inj f).symm);refine ⟨?_,H.ts.upd d c c,⟨ZhM H.op.own fun k f=>d.block k (H.op.own.lt k f).2 ?_ ?_,H.op.len,fun i o=>(H.op.at_ i o).upd d c c⟩,H.tl.upd d c c,d.below H.hb (Nat.le_refl _) l l,H.hK⟩
  ·exact Blk.upd H.pk d g.symm g.symm
  all_goals
   intro e;cases oo with
   | none=>cases f
   | some a=>cases f;exact n a rfl e
theorem S6.grow_st {so:Option Addr} {sc:Nat} {rows:List SH} {sts:List (List Ty)} (HS:ZjM w w0.heap.size so sc rows sts) {w':World} (hg:w.grownBy w' (Value.slice so rows.length sc).ownBlock):S6 w0 w' K h m lo lc ls s sso ssc oo oc bs:=by
 refine H.grow hg fun b hb=>⟨HS.noTy hb,fun e=>?_,fun a ha e=>?_,(HS.own.lt b hb).1⟩
 ·exact HS.ne (b:=K) (show w.heap[K]?=some (.cells _ 147 (0,0)) from H.pk) (by decide) (e▸hb)
 ·exact k85
theorem ZjM.step6 {w':World} {N:Nat} {so:Option Addr} {sc:Nat} {rows:List SH} {sts:List (List Ty)} (HS:ZjM w N so sc rows sts) (hu:Upd K (ZhL K oo) w w'):ZjM w' N so sc rows sts:=by have h1:=HS.ne (b:=K) (show w.heap[K]?=some (.cells _ 147 (0,0)) from H.pk) (by decide);refine HS.upd hu H.pk.noTy (H.op.noTy H.pk.noTy) h1 ?_;exact k84
theorem Blk.step6 {w':World} {b:Nat} {xs:Array Value} {t:TypeId} (HB:Blk w b xs t) (ht:t≠147) (ht2:t≠213) (hu:Upd K (ZhL K oo) w w'):Blk w' b xs t:=by have h1:b≠K:=Zh3 HB H.pk ht;exact k76
theorem S6.upper {w':World} (hu:Upd K (ZhL K oo) w w'):Below w0.heap.size w0 w':=by refine hu.below H.hb (Nat.le_refl _) H.hK ?_;exact k50
end
end
structure Rd6 (w wr:World) (K:Nat) (h:Hd) (m:Md) (kk:Nat) (lo:Option Addr) (lc:Nat) (ls:List Ty) (k:Nat) (so:Option Addr) (sc nr:Nat):Prop where
 ex:∃ (s:Ps) (acc:List (List Ty)) (rows:List SH) (sso:Option Addr) (ssc:Nat) (oo:Option Addr) (oc:Nat) (bs:List VB),
  S6 w wr K h m lo lc ls s sso ssc oo oc bs∧Wf m s ((m.me.getD kk default).k.drop k)∧rows.length=nr∧ZjM wr w.heap.size so sc rows acc ∧
  ZeI m kk=Zfx acc (ZeG m ls (m.me.getD kk default).r k ((m.me.getD kk default).k.drop k) s)
theorem S6.start {w w2:World}{h:Hd}{m:Md}{lo:Option Addr}{lc:Nat}{ls:List Ty}{K:Nat} (hb:Below w.heap.size w w2) (hK:w.heap.size≤K) (hl:ZeR w2 lo lc ls) (hp:Pk w2 K h m (.slice lo ls.length lc) (.slice none 0 0) (.slice none 0 0)) :
  S6 w w2 K h m lo lc ls ⟨[],[]⟩ none 0 none 0 []:=⟨hp,ZeR.nil _,⟨World.ownsRow_nil _ _ _ _,rfl,fun i a=>by simp at a⟩,hl,hb,hK⟩
theorem Zmg (h:Hd) (m:Md) (a:Int) (w:World) (j:Zaz w h m) (c:Za2 m=false∨a < 0∨(m.me.length:Int)≤a):Calls Tryz.prog 50 #[.agg (HM.mk h m),.int .i64 a] w (ZjO w ([],0,1)):=by
 have b:Below w.heap.size w (w.alloc (.cells (HM.mk h m) 26)):=by exact bE
 have k:=Blk.new w (HM.mk h m) 26;have i:=Zh (Zjm m h _ (j.old b));have l:=Zh k;have f:=Zh b;have g:(Za2 m=false)∨(Za2 m=true∧a < 0)∨(Za2 m=true∧¬ a < 0∧(m.me.length:Int)≤a):=by
  cases hq:Za2 m
  ·exact .inl rfl
  ·rw [hq] at c;rcases c with q|q|q
   ·cases q
   ·exact .inr (.inl ⟨rfl,q⟩)
   ·by_cases q2:a < 0
    ·exact .inr (.inl ⟨rfl,q2⟩)
    ·exact .inr (.inr ⟨rfl,q2,q⟩)
 clear k b j c;rcases g with q|⟨q,q2⟩|⟨q,q2,q3⟩
 all_goals
  rw [q] at i;have n:=Zh q;clear q;go_enter Tryz.func50,Tryz.ntmps50
  go_wp2_with (go_at_call 60;refine i.out.mono ?_;rintro e r ⟨rfl,d⟩;have o:=(l.out.old d).cell 2 (v:=.slice h.eo m.me.length h.ec) rfl)
  go_ret3;exact ZjO.no w (Zag f.out d) 0 1
theorem Zmh (h:Hd) (m:Md) (f:Nat) (w:World) (Hj:Zaz w h m) (hm:Za2 m=true) (hk:f<m.me.length):Calls Tryz.prog 50 #[.agg (HM.mk h m),.int .i64 f] w (ZjO w (ZeI m f)):=by
 have aV:=ZfQ hm hk;obtain ⟨ls,an⟩:∃ l,l=ZeH (m.me.getD f default):=⟨_,rfl⟩;obtain ⟨I,aW⟩:∃ n,n=(m.me.getD f default).k.length:=⟨_,rfl⟩;have ch:I≤120:=by rw [aW];exact aV.z.2.2
 have aU:=ZfR hm hk;rw [←an] at aU;have aP:Below w.heap.size w (w.alloc (.cells (HM.mk h m) 26)):=by exact bE
 have ap:=Blk.new w (HM.mk h m) 26;have HC:=Zh (show ∀ w',Below w.heap.size w w'→Calls Tryz.prog 60 #[.agg (HM.mk h m)] w' (Ret w' (.int .i64 0)) from fun w' M=>by have:=Zjm m h w' (Hj.old M);rwa [hm] at this);have bI:=Zh (show ∀ w',Below w.heap.size w w'→Calls Tryz.prog 44 #[.agg (HM.mk h m),.int .i64 f] w' (Zim 38 w' ls 0) from fun w' M=>by rw [an];exact Zjo m h f w' (Hj.old M) hm hk);obtain ⟨W1,aN⟩:∃ W1,W1=w.alloc (.cells (HM.mk h m) 26):=⟨_,rfl⟩;rw [←aN] at ap aP;have HX:=Zh (show ∀ w',Below W1.heap.size W1 w'→_ from fun w' hb=>Zj8 (ap.old hb));have cq:=Zh ap;have am:=Zh Hj;have aB:=Zh hm;have aC:=Zh aV;have bJ:=Zh an;have a5:=Zh aU;have aD:=Zh aW;have bM:=Zh aN;have W:=Zh aP;have cc:(f:Int) < m.me.length:=by omega
 have cd:¬ (f:Int) < 0:=by omega
 have ce:¬ (m.me.length:Int)≤f:=by omega
 clear ap Hj hm aV an aU aW aN aP;go_enter Tryz.func50,Tryz.ntmps50
 go_upto_region 1 with fail
 rw [←bM.out];obtain ⟨c0,c1,c2,c3⟩:=HX.out _ (Below.refl _ _)
 go_upto_region 4 with (first
  | (go_at_call 60;refine (HC.out _ W.out).mono ?_;rintro e w2 ⟨rfl,D⟩;have HB2:=Zh D;clear D c0 c1 c2 c3;obtain ⟨c0,c1,c2,c3⟩:=HX.out _ HB2.out)
  | (go_at_call 44;refine (bI.out _ (Zag W.out HB2.out)).mono ?_;rintro r w3 ⟨⟨lo,lc,rfl,af⟩,bf⟩;have a7:=Zh af;have ak:=Zh (Zag HB2.out bf);clear af bf c0 c1 c2 c3;obtain ⟨c0,c1,c2,c3⟩:=HX.out _ ak.out))
 obtain ⟨W4,U⟩:∃ W4,W4=w3.alloc (.cells #[.slice h.co m.cl.length h.cc,.slice h.so m.st.length h.sc,.slice h.eo m.me.length h.ec,.int .i64 m.sel,.slice lo ls.length lc,.slice none 0 0,.slice none 0 0] 147):=⟨_,rfl⟩;have bl:Pk W4 w3.heap.size h m (.slice lo ls.length lc) (.slice none 0 0) (.slice none 0 0):=by rw [U];exact Blk.new w3 _ _
 have aw:Below w3.heap.size w3 W4:=by rw [U];exact bE
 have bp:ZeR W4 lo lc ls:=by rw [U];exact ZeR.alloc' (ZeR.own a7.out) _
 go_upto_region 5 with fail
 rw [←U];have al:=Zh (Zag ak.out aw);clear c0 c1 c2 c3;obtain ⟨ea,bh,m0,m1,m2,m3,m4,m5,m6⟩:=(am.out.old (Zag W.out al.out)).mth hk;obtain ⟨c0,c1,c2,c3⟩:=HX.out _ al.out;rw [bh] at c2;obtain ⟨ma,bT⟩:∃ a,a=ea.add (f*7):=⟨_,rfl⟩;rw [←aD.out] at m6;obtain ⟨nm,mc,pn,ln,rk,rq,bQ⟩:∃ (nm:ByteArray) (mc:Int) (pn ln:Nat) (rk rq:Int),nm=(m.me.getD f default).n∧mc=(m.me.getD f default).c∧pn=(m.me.getD f default).p.length∧ln=(m.me.getD f default).l.length∧(⟨rk,rq⟩:Ty)=(m.me.getD f default).r:=⟨_,_,_,_,(m.me.getD f default).r.k,(m.me.getD f default).r.c,rfl,rfl,rfl,rfl,rfl⟩;obtain ⟨e0,e1,e2,e3,e4⟩:=bQ;rw [←e4] at m4 m5;rw [←e0] at m0;rw [←e1] at m1;rw [←e2] at m2;rw [←e3] at m3;dsimp only at m4 m5;have a9:=Zh e4;have T:=Zh (S6.start (Zag W.out al.out) (Zag W.out ak.out).size bp bl);have bN:=Zh U;clear U bl aw bp e0 e1 e2 e3 e4;have aq:=Blk.new W4 #[.string nm,.int .i64 mc,.slice (h.e f).po pn (h.e f).pc,.slice (h.e f).lo ln (h.e f).lc,.int .i64 rk,.int .i64 rq,.slice (h.e f).ko I (h.e f).kc] 70;obtain ⟨W5,aO⟩:∃ W5,W5=W4.alloc (.cells #[.string nm,.int .i64 mc,.slice (h.e f).po pn (h.e f).pc,.slice (h.e f).lo ln (h.e f).lc,.int .i64 rk,.int .i64 rq,.slice (h.e f).ko I (h.e f).kc] 70):=⟨_,rfl⟩;have ax:Below W4.heap.size W4 W5:=by rw [aO];exact bE
 go_upto_region 6 with fail
 rw [←aO] at aq ⊢;clear c0 c1 c2 c3 m0 m1 m2 m3 m4 m5 m6 bT bh aO;have aa:=Zh (T.out.old ax);obtain ⟨K,hK⟩:∃ K,K=w3.heap.size:=⟨_,rfl⟩;obtain ⟨X,hX⟩:∃ X,X=W4.heap.size:=⟨_,rfl⟩;rw [←hK] at aa ⊢;rw [←hX] at aq ⊢;have aI:=Zh aq;have V:Wf m ⟨[],[]⟩ (m.me.getD f default).k:=Zfq aC.out.n;have ag:ZeI m f=Zfx [] (ZeG m ls (m.me.getD f default).r 0 (m.me.getD f default).k ⟨[],[]⟩):=by rw [←ZfE,bJ.out];rfl
 have ba:=Zh (show Rd6 w W5 K h m f lo lc ls 0 none 0 0 from ⟨⟨_,[],[],_,_,_,_,_,aa.out,by rw [List.drop_zero];exact V,rfl,ZjM.nil _ _,by rw [List.drop_zero];exact ag⟩⟩);clear aq ax hK hX V ag T aa bN al ak a7 HB2;go_wp2
 go_loopw [11,12] (fun a i wr=>∃ (k:Nat) (so:Option Addr) (sc nr:Nat),k≤I∧i=.int .i64 k∧a=.slice so nr sc∧nr=k∧Hid (Rd6 w wr K h m f lo lc ls k so sc nr)∧Hid (Blk wr X #[.string nm,.int .i64 mc,.slice (h.e f).po pn (h.e f).pc,.slice (h.e f).lo ln (h.e f).lc,.int .i64 rk,.int .i64 rq,.slice (h.e f).ko I (h.e f).kc] 70)) (fun _ i _=>I-(intOf i).toNat)
 case atStart=>exact ⟨0,none,0,0,by omega,rfl,rfl,rfl,ba,aI⟩
 case round=>
  obtain ⟨k,so,sc,nr,cs,rfl,rfl,bk,HR,aJ⟩:=hrel;have Y:=Zh bk;clear bk;obtain ⟨s,be,L,sso,ssc,oo,oc,bs,ao,V,bV,bo,ag⟩:=HR.out.ex;subst bV;have T:=Zh ao;have bd:=Zh V;have bc:=Zh bo;have a8:=Zh ag;have k5:wr.cell? ⟨K,5,none⟩=some (.slice sso s.stk.length ssc):=Blk.cell ao.pk 5 rfl;have x6:wr.cell? ⟨X,6,none⟩=some (.slice (h.e f).ko I (h.e f).kc):=aJ.out.cell 6 rfl;have a1:=Zh ao.hb;have ci:=V.stk.1;have a2:=Zh (show ∀ w',Below wr.heap.size wr w'→Calls Tryz.prog 103 #[.slice sso s.stk.length ssc] w' (Zfi 38 w' s.stk) from fun w' M=>ZjW w' sso ssc s.stk (T.out.ts.1.old M) (by omega));clear ao V bo ag ba HR;by_cases hkl:k<I
  ·have cf:(k:Int) < I:=by omega
   have aT:k<(m.me.getD f default).k.length:=by have:=aD.out;omega
   obtain ⟨ae,ac,N⟩:=ZkX aC.out aT;have a4:=Zh (show ∀ w',Below w.heap.size w w'→_ from fun w' M=>ZaB ((am.out.old M).k f hk) aT);obtain ⟨i,hi⟩:∃ i,i=(m.me.getD f default).k.getD k default:=⟨_,rfl⟩;have aQ:(m.me.getD f default).k.drop k=i :: (m.me.getD f default).k.drop (k+1):=by rw [hi];exact ZkY aT
   rw [←hi] at ae ac N a4;have ct:IntKind.i64.wrap ((k:Int)+1)=k+1:=IntWalk.i64_in _ (by omega);have ah:=bd.out;rw [aQ] at ah;have A:=a8.out;rw [aQ] at A;have au:=Zh ah;have J:=Zh A;have ar:=Zh ae;have a6:=Zh (And.intro ac N);obtain ⟨er,bi⟩:∃ e,e=(ZeE m ls i s).1:=⟨_,rfl⟩;have R:=Zh bi;clear ae aQ hi ah A bi ac N
   as_aux_lemma=>
   go_upto_region 11 with (first
    | (go_at_call 103;refine (a2.out _ (Below.refl _ _)).mono ?_;rintro r w2 ⟨⟨E,tc,rfl,B⟩,D⟩;have HO2:=Zh B;have HB2:=Zh D;have y:=Zh (show Below wr.heap.size wr (w2.alloc (.cells #[.slice E s.stk.length tc] 23)) from bal D _);have z:=Zh (bc.out.old y.out);have aG:=Zh (ZeR.alloc' (ZeR.own HO2.out) (.cells #[.slice E s.stk.length tc] 23));have ab:=Zh (ZdN (n:=1) (size:=1) (Blk.new w2 #[.slice E s.stk.length tc] 23) rfl);have bX:=y.out.size;have bW:=a1.out.size;clear B D)
    | (at_builtin;refine ZhG rfl ?_;refine Zel (.tmp 51) (.tmp 57) 34 rfl w.heap.size 23 1 24 ZjN _ L.length _ rfl z.out.own _ 1 1 [.slice E s.stk.length tc] rfl ab.out (by intro u hu;rw [List.mem_singleton.1 hu];rfl) (by have:=Y.out;omega) (by have:=Y.out;unfold maxLen;omega) (by omega) ?_;intro ao2 cap2 w4 C G;have aE:=Zh (z.out.snoc aG.out C G);have g:=Zh (S6.grow_st (T.out.old y.out) z.out G);have F:=Zh (Blk.grown_st z.out (aJ.out.old y.out) (by decide) G);have b5:=F.out.cell 6 (v:=.slice (h.e f).ko I (h.e f).kc) rfl;clear C G))
   obtain ⟨ka,bj,i0,i1,i2⟩:=a4.out w4 g.out.hb;have O:=Zmf g.out (am.out.old g.out.hb) aB.out a5.out hk ar.out a6.out au.out;rw [bj] at b5;clear bj k5 x6;obtain ⟨op,ia,ib⟩:=i;dsimp only at i0 i1 i2 O;have aF:=Zh O;clear O
   go_upto_region 12 with (go_at_call 104;refine aF.out.mono ?_;rintro r w5 ⟨rfl,bq,bn⟩;rw [←R.out];have aH:=Zh bq;have bL:=Zh bn;clear bq bn)
   by_cases h0:er=0
   ·subst h0;obtain ⟨bx,bw,b1,b0,bO,ay⟩:=bL.out R.out.symm;have bm:Rd6 w w5 K h m f lo lc ls (k+1) ao2 cap2 (L.length+1):=⟨⟨_,be++[s.stk],_,bx,bw,b1,b0,bO,ay,Zgr aB.out a5.out hk a6.out ar.out au.out R.out.symm,by simp,ZjM.step6 g.out aE.out aH.out,by rw [J.out,Zfz R.out.symm,ZfB]⟩⟩;have bb:=Zh bm;have aI:=Zh (Blk.step6 g.out F.out (by decide) (by decide) aH.out);clear ay bm;go_wp2;go_roundw
    case rel=>exact ⟨k+1,ao2,cap2,L.length+1,by omega,by go_num,rfl,by rw [Y.out],bb,aI⟩
    case measure=>simp [intOf];omega
   ·have bU:(er != 0)=true:=by simpa using h0
    have Z:=Zh (show ZeI m f=([],k,er) by rw [J.out,ZfA (by rw [←R.out];exact h0),←R.out];exact ZkZ h0);have bG:=Zh (S6.upper g.out aH.out);go_wp2;go_ret3;rw [Z.out];exact ZjO.no w bG.out k er
  ·have bS:I=k:=by omega
   subst bS;have cg:¬ (I:Int) < I:=by omega
   have bg:(m.me.getD f default).k.drop I=[]:=by rw [List.drop_eq_nil_iff];have:=aD.out;omega
   have A:=a8.out;rw [bg,←a9.out,ZkW] at A;have aX:=aC.out.r;rw [←a9.out] at aX;have bK:=Zh aX;obtain ⟨ev,aR⟩:∃ e,e=ZeF m ⟨rk,rq⟩ s.stk:=⟨_,rfl⟩;rw [←aR] at A;have J:=Zh A;have bH:=Zh aR;clear bg A aX aR hkl
   as_aux_lemma=>
   go_upto_region 15 with (first
    | (go_at_call 103;refine (a2.out _ (Below.refl _ _)).mono ?_;rintro r w2 ⟨⟨E,tc,rfl,B⟩,D⟩;have HO2:=Zh B;have HB2:=Zh D;have y:=Zh (show Below wr.heap.size wr (w2.alloc (.cells #[.slice E s.stk.length tc] 23)) from bal D _);have z:=Zh (bc.out.old y.out);have aG:=Zh (ZeR.alloc' (ZeR.own HO2.out) (.cells #[.slice E s.stk.length tc] 23));have ab:=Zh (ZdN (n:=1) (size:=1) (Blk.new w2 #[.slice E s.stk.length tc] 23) rfl);have bX:=y.out.size;have bW:=a1.out.size;clear B D)
    | (at_builtin;refine ZhG rfl ?_;refine Zel (.tmp 70) (.tmp 76) 34 rfl w.heap.size 23 1 24 ZjN _ L.length _ rfl z.out.own _ 1 1 [.slice E s.stk.length tc] rfl ab.out (by intro u hu;rw [List.mem_singleton.1 hu];rfl) (by have:=Y.out;omega) (by have:=Y.out;unfold maxLen;omega) (by omega) ?_;intro ao2 cap2 w4 C G;have aE:=Zh (z.out.snoc aG.out C G);have g:=Zh (S6.grow_st (T.out.old y.out) z.out G);have F:=Zh (Blk.grown_st z.out (aJ.out.old y.out) (by decide) G);have cx:=F.out.cell 4 (v:=.int .i64 rk) rfl;have cy:=F.out.cell 5 (v:=.int .i64 rq) rfl;clear C G))
   have a3:=Zh (Zk9 (r:=⟨rk,rq⟩) g.out.pk (am.out.old g.out.hb) g.out.ts.1 aB.out bd.out.stk.2 (fun q=>ZfI bK.out q));rw [←bH.out] at a3
   go_upto_region 16 with (go_at_call 105;refine a3.out.mono ?_;rintro r w5 ⟨rfl,hb5⟩;have HB5:=Zh hb5;clear hb5;have b4:=(F.out.old HB5.out).cell 6 (v:=.slice (h.e f).ko I (h.e f).kc) rfl)
   by_cases h0:ev=0
   ·have Z:=Zh (show ZeI m f=(be++[s.stk],0,0) by rw [J.out,if_pos h0];rfl);subst h0;go_wp2;go_ret3;rw [Z.out];exact ⟨⟨ao2,cap2,L++[⟨E,s.stk.length,tc⟩],by simp,aE.out.old HB5.out⟩,Zag g.out.hb HB5.out⟩
   ·have bU:(ev != 0)=true:=by simpa using h0
    have Z:=Zh (show ZeI m f=([],I,ev) by rw [J.out,if_neg h0];exact ZkZ h0)
    go_wp2_with fail
    refine rO (fun w':World=>w'.cell? ⟨X,6,none⟩=some (.slice (h.e f).ko I (h.e f).kc)) (oL [0,1,2,3,4,5,6]) b4 ?_
    repeat refine pO ?_
    refine Zd7 ?_;go_wp2;go_ret3;rw [Z.out];exact ZjO.no w (Below.drew (Zag g.out.hb HB5.out)) I ev
theorem Zmi (h:Hd) (m:Md) (a:Int) (w:World) (b:Zaz w h m):Calls Tryz.prog 50 #[.agg (HM.mk h m),.int .i64 a] w (ZjO w (ZeJ m a)):=by
 unfold ZeJ;by_cases hq:Za2 m=true∧0≤a∧a < m.me.length
 ·rw [if_pos hq];obtain ⟨c,d,e⟩:=hq;obtain ⟨k,rfl⟩:∃ k:Nat,a=k:=⟨a.toNat,by omega⟩;rw [Int.toNat_natCast];exact Zmh h m k w b c (by omega)
 ·rw [if_neg hq];refine Zmg h m a w b ?_;cases hm:Za2 m
  ·exact .inl rfl
  ·by_cases h0:a < 0
   ·exact .inr (.inl h0)
   ·exact .inr (.inr (by
     by_cases h1:(m.me.length:Int)≤a
     ·exact h1
     ·exact absurd ⟨hm,by omega,by omega⟩ hq))
end
