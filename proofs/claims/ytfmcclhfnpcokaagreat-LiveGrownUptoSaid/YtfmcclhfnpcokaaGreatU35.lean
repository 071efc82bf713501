import Derived.Test.YtfmcclhfnpcokaaGreatU29
import Derived.Test.YtfmcclhfnpcokaaGreatU32
import Derived.Test.YtfmcclhfnpcokaaGreatU33
set_option linter.all false
set_option maxRecDepth 100000
set_option maxHeartbeats 16000000
namespace Go.Proofs.YtfmcclhfnpcokaaGreat
section
open Go.RowKit
attribute [local go_sem] World.cell?_alloc_some
def ZrJ (F:Ty→Option T3) (m:Md) (d k:Nat) (b:T3):Prop:=ZmZ F (szC m d) ((fsC m d).take k)=some b∧BdT b
theorem ZrJ.zero {F:Ty→Option T3}{m:Md} (hm:Za2 m=true) {d:Nat} (hd:d<m.cl.length):ZrJ F m d 0 (szC m d):=⟨rfl,Zoy hm hd⟩
theorem ZrJ.next {F:Ty→Option T3}{m:Md}{d k:Nat}{b x:T3} (h:ZrJ F m d k b) (hk:k<(fsC m d).length) (hx:F ((fsC m d).getD k default)=some x) (hb:BdT x):ZrJ F m d (k+1) (plT b x):=
 ⟨by rw [Zam _ _ hk,Zp6,h.1];dsimp only;rw [hx],h.2.pl hb⟩
theorem ZrJ.fin {F:Ty→Option T3}{m:Md}{d:Nat}{b:T3} (h:ZrJ F m d (fsC m d).length b):ZmZ F (szC m d) (fsC m d)=some b:=by have:=h.1;rwa [List.take_length] at this
end
section
open Go.RowKit
attribute [local go_sem] World.cell?_alloc_some
theorem ZrK {m:Md}{o n b:Int} (c:o=15∨o=16) (a:0≤n) (d:n≤48):szV m ⟨o,n,b⟩=ZmD n true∧ZmG m ⟨o,n,b⟩:=by
 refine ⟨?_,⟨fun e=>?_,fun _=>⟨a,by show n≤1000;omega⟩⟩⟩
 ·unfold szV;rw [if_neg (show ¬ (⟨o,n,b⟩:In3).op=14 from by show ¬ o=14;omega),if_pos (show (⟨o,n,b⟩:In3).op=15∨(⟨o,n,b⟩:In3).op=16 from c)]
 ·have:o=14:=e;omega
end
section
open Go.RowKit
attribute [local go_sem] World.cell?_alloc_some
end
section
open Go.RowKit
attribute [local go_sem] World.cell?_alloc_some
theorem ZrL:El Tryz.prog 106 27 1 24:=El.mk' (z:=.slice none 0 0) Tryz.underlying106 (by kernel_rfl) (by kernel_rfl) (by decide)
def nwI (m:Md) (c:Nat):List Int:=(ZmX m c).map fun d:Nat=>(d:Int)
def ZrM (w:World) (N:Nat) (m:Md) (rows:List SH):Prop:=∀ i,i<rows.length→(rows.getD i default).n=(ZmX m i).length∧w.ownsRow N 3 1 (.slice (rows.getD i default).ao (nwI m i).length (rows.getD i default).c) (nwI m i).length ((nwI m i).map (Value.int .i64))
theorem ZrN {w w':World}{base:Nat}{e:TypeId}{size:Nat}{v:Value}{n:Nat}{a:List Value} (h:w.ownsRow base e size v n a) (b:Below w.heap.size w w'):w'.ownsRow base e size v n a:=ZhM h fun k c=>b.block k (h.lt k c).2
theorem ZrM.old {w w':World}{N:Nat}{m:Md}{rows:List SH} (h:ZrM w N m rows) (hb:Below w.heap.size w w'):ZrM w' N m rows:=fun i a=>⟨(h i a).1,ZrN (h i a).2 hb⟩
theorem ZrO {w:World}{o p:Nat}{f i:TypeId}{x y:Nat}{m n:Value}{u v:Nat}{z A:List Value} (h:w.ownsRow o f x m u z) (g:w.ownsRow p i y n v A) (s:f≠i):∀ b,m.ownBlock=some b→some b≠n.ownBlock:=by
 intro b j l;rcases h.2 with ⟨rfl,-⟩|⟨k,c,q,rfl,-,r,-⟩
 ·cases j
 ·rcases g.2 with ⟨rfl,-⟩|⟨t,B,d,rfl,-,a,-⟩
  ·cases l
  ·cases j;have e:k=t:=Option.some.inj l;subst e;rw [r] at a;cases a;exact s rfl
theorem ZrM.grown {w w':World}{N:Nat}{m:Md}{rows:List SH} (h:ZrM w N m rows) {b2:Nat}{s2:Nat}{v2:Value}{n2:Nat}{x2:List Value} (g:w.ownsRow b2 27 s2 v2 n2 x2) (hg:w.grownBy w' v2.ownBlock):ZrM w' N m rows:=fun i a=>
 ⟨(h i a).1,Zed (h i a).2 hg (ZrO (h i a).2 g (by decide))⟩
theorem ZrM.add {w:World}{N:Nat}{m:Md}{rows:List SH} (h:ZrM w N m rows) {r:SH} (h1:r.n=(ZmX m rows.length).length) (h2:w.ownsRow N 3 1 (.slice r.ao (nwI m rows.length).length r.c) (nwI m rows.length).length ((nwI m rows.length).map (Value.int .i64))):ZrM w N m (rows++[r]):=by
 intro i a;rw [List.length_append,List.length_singleton] at a;by_cases q:i<rows.length
 ·have:(rows++[r]).getD i default=rows.getD i default:=by simp [List.getElem?_append_left q]
  rw [this];exact h i q
 ·obtain rfl:i=rows.length:=by omega
  have:(rows++[r]).getD rows.length default=r:=by simp
  rw [this];exact ⟨h1,h2⟩
theorem ZrP (m:Md) (c:Nat):(nwI m c).length=(ZmX m c).length:=by simp [nwI]
def ZrQ (W:World) (m:Md):Ending→World→Prop:=fun e w'=>(∃ so sc rows,e=.returned (.slice so rows.length sc)∧rows.length=m.cl.length∧Zas w' so sc rows∧(∀ a,so=some a→W.heap.size≤a.block)∧ZrM w' W.heap.size m rows)∧Below W.heap.size W w'
theorem ZrR (m:Md) (h:Hd) (w:World) (H:Zaz w h m) (V:Za2 m=true):Calls Tryz.prog 78 #[.agg (HM.mk h m)] w (ZrQ w m):=by
 obtain ⟨s,r⟩:∃ s,s=w.alloc (.cells (HM.mk h m) 26):=⟨_,rfl⟩;have J:=Zh (show Below w.heap.size w s by rw [r];exact bE);obtain ⟨X,U⟩:∃ X,X=w.heap.size:=⟨_,rfl⟩;have HX:=Zh (show Blk s X (HM.mk h m) 26 by rw [r,U];exact Blk.new _ _ _);have Hj:=Zh (H.old J.out);have HW:=Zh r;have T:=Zh U;have D:=Zh (Zir V);have M:=Zh (fun c (hc:c<m.cl.length) w' (h':Zaz w' h m)=>Zrn m h c w' h' V hc);clear r H U V;go_enter Tryz.func78,Tryz.ntmps78
 go_upto_region 1 with fail
 rw [←HW.out,←T.out];go_wp2
 go_loopw [3,4] (fun o i wr=>∃ (j:Nat) (b:List SH) (G:Option Addr) (F:Nat),j≤m.cl.length∧i=.int .i64 j∧o=.slice G b.length F∧b.length=j∧Hid (wr.ownsRow s.heap.size 27 1 (.slice G b.length F) b.length (Zal b))∧Hid (ZrM wr s.heap.size m b)∧Hid (Below s.heap.size s wr)) (fun _ i _=>m.cl.length-(intOf i).toNat)
 case atStart=>exact ⟨0,[],none,0,Nat.zero_le _,rfl,rfl,rfl,World.ownsRow_nil _ _ _ _,fun i I=>by simp at I,Below.refl _ _⟩
 case round=>
  obtain ⟨j,b,G,F,Z,rfl,rfl,x,Q,y,k⟩:=hrel;rename World=>wo;obtain ⟨x0,x1,x2,x3⟩:=Zj8 (HX.out.old k.out);have f:=Zh x;clear x;by_cases hjl:j<m.cl.length
  ·have aa:(j:Int) < m.cl.length:=by omega
   have ai:IntKind.i64.wrap ((j:Int)+1)=((j+1:Nat):Int):=IntWalk.i64_in _ (by have:=D.out;omega);have N:=Zh (M.out j hjl);have ag:b.length≤100:=by have:=f.out;have:=D.out;omega
   go_wp2_with (first
    | (go_at_call 138;refine (N.out _ (Hj.out.old k.out)).mono ?_;rintro e t ⟨⟨z,g,rfl,E⟩,n⟩;have A:=Zh (Zag k.out n);have d:=ZrN Q.out n;have B:=Zh (Zrm E k.out.size);have O:=Zh (y.out.old n);clear n E x0 x1 x2 x3;rw [List.length_map])
    | (at_builtin;refine Zak rfl (.tmp 12) (.tmp 16) 106 rfl s.heap.size 27 1 24 ZrL (.slice G b.length F) b.length (Zal b) rfl (d.alloc _) _ 1 1 [.slice z (ZmX m j).length g] rfl (ZdN (Blk.new' #[.slice z (ZmX m j).length g] 27 (by simp)) rfl) (by intro u hu;rw [List.mem_singleton.1 hu];rfl) (by omega) (by unfold maxLen;omega) (by have:=A.out.size;simp;omega) ?_;intro Y W aj l q;have R:=Zh l;have K:=Zh (ZcR (bal A.out _) q (fun j Z=>(d.lt j Z).1));have P:=Zh ((O.out.old (show Below t.heap.size t (t.alloc (.cells #[.slice z (ZmX m j).length g] 27)) by exact bE)).grown (d.alloc _) q);have S:=Zh (Zed (ZrN B.out (show Below t.heap.size t (t.alloc (.cells #[.slice z (ZmX m j).length g] 27)) by exact bE)) q (ZrO (ZrN B.out (show Below t.heap.size t (t.alloc (.cells #[.slice z (ZmX m j).length g] 27)) by exact bE)) (d.alloc _) (by decide)));clear l q))
   clear d;refine ⟨⟨j+1,b++[⟨z,(ZmX m j).length,g⟩],Y,W,hjl,rfl,by rw [List.length_append];rfl,by rw [List.length_append,f.out];rfl,?_,?_,K.out⟩,by simp [intOf];omega⟩
   ·show World.ownsRow _ _ _ _ _ _ _;rw [List.length_append,Zao];exact R.out
   ·refine ZrM.add P.out (by rw [f.out]) ?_;rw [f.out];exact S.out
  ·obtain rfl:j=m.cl.length:=by omega
   have af:¬ (m.cl.length:Int) < m.cl.length:=by omega
   have v:=f.out;have C:=Zh J.out.size;clear f;have L:=Zh v;clear v;go_wp2;go_ret;refine ⟨⟨G,F,b,rfl,L.out,Zas.of_own Q.out,fun a ha=>?_,fun i I=>⟨(y.out i I).1,Zrm (y.out i I).2 C.out⟩⟩,Zag J.out k.out⟩;subst ha;exact Nat.le_trans C.out (Q.out.lt a.block rfl).1
end
