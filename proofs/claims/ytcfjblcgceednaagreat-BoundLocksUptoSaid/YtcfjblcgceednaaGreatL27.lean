import Derived.Test.YtcfjblcgceednaaGreatG22
import Derived.Test.YtcfjblcgceednaaGreatL24
set_option linter.all false
set_option maxHeartbeats 8000000
namespace Go.Proofs.YtcfjblcgceednaaGreat
section
open Go.RowKit
attribute [local go_sem] World.cell?_alloc_some
def InR (n:Int) (zs:List Int):Prop:=∀ x∈zs,0≤x∧x<n
theorem InR.app {n:Int}{a b:List Int} (h:InR n a) (g:InR n b):InR n (a++b):=fun x c=>(List.mem_append.1 c).elim (h x) (g x)
theorem InR.one {n x:Int} (h:0≤x∧x<n):InR n [x]:=fun y a=>by rw [List.mem_singleton.1 a];exact h
theorem InR.sort {n:Int}{a:List Int} (h:InR n a):InR n (ZaM a):=fun x b=>h x ((Zdw _ _).1 b)
theorem Zoe (l:List Int) (o:Option Addr) (b:Nat) (n:Int) (w:World) (p:Zar w o b l) (A:l.length≤1000000):Calls Tryz.prog 169 #[.slice o l.length b,.int .i64 n] w (Ret w (.bool (decide (n∈l)))):=by
 have t:=Zh p;obtain ⟨v,g⟩:∃ v,v=decide (n∈l):=⟨_,rfl⟩;rw [←g];have m:=Zh g;clear p g;go_enter Tryz.func169,Tryz.ntmps169;go_wp2
 go_loopw [5] (fun i wr=>∃ k:Nat,k≤l.length∧i=.int .i64 k∧Hid (Below w.heap.size w wr)∧Hid (n ∉ l.take k)) (fun i _=>l.length-(intOf i).toNat)
 case atStart=>exact ⟨0,Nat.zero_le _,rfl,Below.refl _ _,by show n ∉ l.take 0;simp⟩
 case round=>
  obtain ⟨k,C,rfl,d,j⟩:=hrel;by_cases hkl:k<l.length
  ·have c:(k:Int) < l.length:=by omega
   have y:IntKind.i64.wrap ((k:Int)+1)=((k+1:Nat):Int):=IntWalk.i64_in _ (by omega);obtain ⟨z,rfl,u⟩:=ZaB (t.out.old d.out) hkl;have f:=ZfU (0:Int) hkl;have a:l.take (k+1)=l.take k++[l.getD k 0]:=by rw [List.take_succ_eq_append_getElem hkl];simp [hkl]
   obtain ⟨x,s⟩:∃ x,x=l.getD k 0:=⟨_,rfl⟩;rw [←s] at u f a;have h:=Zh (And.intro f a);clear f a s;by_cases e:x=n
   ·subst e;go_wp2;go_ret;exact ZcT (ZcX (by rw [m.out,decide_eq_true h.out.1])) d.out
   ·have B:(x == n)=false:=by simpa using e
    go_wp2;refine ⟨⟨k+1,hkl,rfl,d.out,?_⟩,by simp [intOf];omega⟩;show n ∉ l.take (k+1);rw [h.out.2,List.mem_append,List.mem_singleton];exact fun q=>q.elim j.out fun q=>e q.symm
  ·have c:¬ (k:Int) < l.length:=by omega
   go_wp2;go_ret;have r:=j.out;rw [List.take_of_length_le (by omega)] at r;exact ZcT (ZcX (by rw [m.out,decide_eq_false r])) d.out
def nmV (zs:List Int) (t:Ty):List Int:=if t.k=2∨t.k=4 then zs++[t.c] else zs
theorem Zof {m:Md}{b:List Int}{t:Ty} (h:InR m.cl.length b) (a:ZaF m.cl.length t 0=true):InR m.cl.length (nmV b t):=by
 unfold nmV;split
 ·rename_i q;refine h.app (.one ?_);unfold ZaF at a;obtain ⟨d,c⟩:=t;dsimp only at q ⊢;simp at a;rcases q with rfl|rfl<;>simp at a<;>omega
 ·exact h
theorem Zog (a:List Int) (t:Ty):(nmV a t).length≤a.length+1:=by
 unfold nmV;split
 ·simp
 ·omega
def Zoh (w:World) (base:Nat) (ao:Option Addr) (cap:Nat) (zs:List Int):Prop:=w.ownsRow base 3 1 (.slice ao zs.length cap) zs.length (zs.map (Value.int .i64))
theorem Zoi {w:World}{A:Array Oper}{k:List Oper}{o:Oper}{a:Act}{Q:Exit→Act→World→Prop} (G:o.guard=none) (s x:Operand)
  (R:o.op=.call { callee:=.builtin .append,args:=#[s,x],argTypes:=#[34,34] })
  (C:Option Addr) (f:List Int) (T:a.eval s=.slice C f.length f.length) (B:Zar w C f.length f) (b:Nat) (c:Int) (U:a.eval x=.slice (some ⟨b,0,none⟩) 1 1) (N:Blk w b #[.int .i64 c] 3) (X:f.length≤1000001)
  (h:∀ p d w',Zoh w' w.heap.size p d (f++[c])→f.length+1≤d→Below w.heap.size w w'→wpList Tryz.prog A Q k (a.put o.dst (.slice p (f.length+1) d)) w'):wpList Tryz.prog A Q (o :: k) a w:=by
 obtain ⟨i,z,O,V,m,E,J⟩:=Zcq.info;have H:=B.1;have I:=B.2.1;have v:=B.2.2;rw [Zat] at H v;refine wpList_append_grows w G s x 34 R 3 i z 1 8 Zcq.und O V m E J (by decide) C f.length f.length (f.map (Value.int .i64)) T I (by simp) (fun W r j u y=>?_) ⟨b,0,none⟩ 1 1 [.int .i64 c] U rfl (fun j u y=>?_) (by intro u y;rw [List.mem_singleton.1 y];rfl) (by omega) (by unfold maxLen;omega) (by omega) ?_
 ·obtain ⟨K,l,F⟩:=v j u y;rw [l] at r;cases r;exact F
 ·have:=(ZdL N (n:=1) (size:=1) rfl).2.2 j u y;obtain ⟨K,l,F⟩:=this;cases l;exact F
 ·intro Y w' e t;have D:Below w.heap.size w w':=⟨t.os,t.tape,t.output,t.size,fun q S=>t.block q S (by simp)⟩;rcases e.2 with ⟨rfl,P⟩|⟨g,L,M,rfl,B⟩
  ·omega
  ·refine h _ L w' ?_ (ZmB e) D;unfold Zoh;rw [List.length_append,List.map_append];exact e
theorem Zoj (t:Ty) (k:Option Addr) (a:List Int) (w:World) (s:Zar w k a.length a) (x:a.length≤1000000) :
  Calls Tryz.prog 171 #[.slice k a.length a.length,.agg #[.int .i64 t.k,.int .i64 t.c]] w (fun e w'=>(∃ f b,e=.returned (.slice f (nmV a t).length b)∧Zar w' f b (nmV a t)∧(nmV a t).length≤b)∧Below w.heap.size w w'):=by
 obtain ⟨d,j⟩:=t;dsimp only;have r:=Zh s;clear s;by_cases hk:d=2∨d=4
 ·have q:nmV a ⟨d,j⟩=a++[j]:=if_pos hk;rw [q];rcases hk with rfl|rfl
  all_goals
   go_enter Tryz.func171,Tryz.ntmps171
   go_wp2_with (at_builtin;refine Zoi rfl (.tmp 13) (.tmp 16) rfl k a rfl ((r.out.alloc _).alloc _) (w.heap.size+1) j rfl (Blk.new' #[.int .i64 j] 3 (by simp)) (by omega) ?_;intro o g y c i h;have n:=Zh c;have m:=Zh i;have l:=Zh (Zaf (bal (bal (Below.refl _ w) _) _) h);clear c i h)
   go_ret;refine ⟨⟨o,g,by rw [List.length_append];rfl,Zar.of_own (by rw [Zat];exact n.out),by rw [List.length_append];exact m.out⟩,l.out⟩
 ·have q:nmV a ⟨d,j⟩=a:=if_neg hk;rw [q];have u:(d == 2)=false:=by simp;omega
  have v:(d == 4)=false:=by simp;omega
  go_enter Tryz.func171,Tryz.ntmps171;go_wp2;go_ret;exact ⟨⟨k,a.length,rfl,r.out.alloc _,Nat.le_refl _⟩,by exact bE⟩
end
section
open Go.RowKit
attribute [local go_sem] World.cell?_alloc_some
def obk (ao:Option Addr):Option Nat:=ao.map Addr.block
def Zok (w:World) (base:Nat) (a1:Option Addr) (c1:Nat) (zs:List Int) (a2:Option Addr) (c2:Nat) (ys:List Int):Prop:=Zoh w base a1 c1 zs∧Zoh w base a2 c2 ys∧∀ b,obk a1=some b→obk a2≠some b
theorem Zol (a:Option Addr) (n b:Nat):(Value.slice a n b).ownBlock=obk a:=by cases a<;>rfl
theorem Zoh.old {w w':World}{base:Nat}{ao:Option Addr}{cap:Nat}{zs:List Int} (h:Zoh w base ao cap zs) (hb:Below w.heap.size w w'):Zoh w' base ao cap zs:=
 ZhI h fun q a=>hb.block q (h.lt q a).2
theorem Zok.old {w w':World}{base:Nat}{a1 a2:Option Addr}{c1 c2:Nat}{zs ys:List Int} (h:Zok w base a1 c1 zs a2 c2 ys) (hb:Below w.heap.size w w'):Zok w' base a1 c1 zs a2 c2 ys:=⟨h.1.old hb,h.2.1.old hb,h.2.2⟩
theorem Zok.nil (w:World) (base:Nat):Zok w base none 0 [] none 0 []:=⟨World.ownsRow_nil _ _ _ _,World.ownsRow_nil _ _ _ _,fun b h=>by cases h⟩
theorem Zok.left {w w':World}{base:Nat}{a1 a2 ao':Option Addr}{c1 c2 cap':Nat}{zs ys zs':List Int} (h:Zok w base a1 c1 zs a2 c2 ys) (ho:Zoh w' base ao' cap' zs') (hg:w.grownBy w' (obk a1)) (hat:∀ b,obk ao'=some b→obk a1=some b∨w.heap.size≤b):Zok w' base ao' cap' zs' a2 c2 ys:=by
 obtain ⟨f,a,c⟩:=h;refine ⟨ho,World.ownsRow.kept a hg ?_,fun b d e=>?_⟩
 ·rw [Zol];cases h4:obk a2 with
  | none=>exact .inl rfl
  | some b=>exact .inr fun e=>c b e.symm h4
 ·rcases hat b d with q|q
  ·exact c b q e
  ·have:=(World.ownsRow.lt a b (by rw [Zol];exact e)).2;omega
theorem Zok.swap {w:World}{base:Nat}{a1 a2:Option Addr}{c1 c2:Nat}{zs ys:List Int} (h:Zok w base a1 c1 zs a2 c2 ys):Zok w base a2 c2 ys a1 c1 zs:=⟨h.2.1,h.1,fun b a e=>h.2.2 b e a⟩
theorem Zom {w w':World}{base:Nat}{c:Option Addr}{b:Nat}{f:List Int} (d:Zoh w base c b f) (a:w.grownBy w' (obk c)) (g:base≤w.heap.size):Below base w w':=
 ⟨a.os,a.tape,a.output,a.size,fun q h=>a.block q (by omega) fun e=>by
  have:=(World.ownsRow.lt d q (by rw [Zol];exact e.symm)).1
  omega⟩
theorem Zon {w:World}{C:Array Oper}{n:List Oper}{o:Oper}{a:Act}{Q:Exit→Act→World→Prop} (y:o.guard=none) (s x:Operand)
  (N:o.op=.call { callee:=.builtin .append,args:=#[s,x],argTypes:=#[34,34] })
  (base:Nat) (v:Option Addr) (k:Nat) (l:List Int) (O:a.eval s=.slice v l.length k) (f:Zoh w base v k l) (bo:Option Addr) (c:Nat) (ys:List Int) (P:a.eval x=.slice bo ys.length c) (H:Zar w bo c ys) (Y:l.length≤1000000∧ys.length≤1000000) (T:base≤w.heap.size)
  (h:∀ p m w',Zoh w' base p m (l++ys)→w.grownBy w' (obk v)→(∀ b,obk p=some b→obk v=some b∨w.heap.size≤b)→wpList Tryz.prog C Q n (a.put o.dst (.slice p (l++ys).length m)) w'):wpList Tryz.prog C Q (o :: n) a w:=by
 obtain ⟨i,z,M,W,t,E,L⟩:=Zcq.info;have I:=H.1;have J:=H.2.1;have B:=H.2.2;rw [Zat] at I B;cases bo with
 |none=>
  obtain ⟨U,F⟩:=J rfl;have V:ys=[]:=List.eq_nil_of_length_eq_zero U;subst V;subst F;refine wpList_append_own_none y s x 34 N base 3 i 1 Zcq.und M _ l.length _ O f P ?_;have:=h v k w (by rw [List.append_nil];exact f) ⟨rfl,rfl,rfl,Nat.le_refl _,fun _ _ _=>rfl⟩ (fun b q=>.inl q);rwa [List.append_nil] at this
 |some ad=>
  refine wpList_append_own_at _ y s x 34 N base 3 i z 1 8 Zcq.und M W t E L (by decide) (.slice v l.length k) l.length (l.map (Value.int .i64)) O f ad ys.length c (ys.map (Value.int .i64)) P (by simp) (fun j u K=>?_) (by intro u K;obtain ⟨q,-,rfl⟩:=List.mem_map.1 K;rfl) (by unfold maxLen;omega) (by omega) T ?_
  ·obtain ⟨X,D,F⟩:=B j u K;cases D;exact F
  ·intro v' w' d G _ r;rw [Zol] at G r;rcases d.2 with ⟨rfl,A⟩|⟨g,R,S,rfl,Z⟩
   ·have:=h none 0 w' (by unfold Zoh;rw [List.length_append,List.map_append,A] at *;exact d) G (fun b q=>by cases q);rwa [List.length_append,A] at this
   ·have:=h (some ⟨g,0,none⟩) R w' (by unfold Zoh;rw [List.length_append,List.map_append];exact d) G (fun b q=>by
     rw [Zol] at r;rcases r with e|e
     ·exact .inl (e▸q)
     ·right
      rw [e] at q;cases q;exact Nat.le_refl _)
    rwa [List.length_append] at this
theorem Zoo (w:World) (a b:Obj) {r:Option Nat}:w.grownBy ((w.alloc a).alloc b) r:=(World.grownBy_alloc w a r).trans (World.grownBy_alloc _ b r)
theorem Zop (t:Ty) (base:Nat) (f:Option Addr) (d:Nat) (c:List Int) (w:World) (z:Zoh w base f d c) (y:base≤w.heap.size) (A:c.length≤1000000) :
  Calls Tryz.prog 171 #[.slice f c.length d,.agg #[.int .i64 t.k,.int .i64 t.c]] w (fun e w'=>∃ k g,e=.returned (.slice k (nmV c t).length g)∧Zoh w' base k g (nmV c t)∧w.grownBy w' (obk f)∧∀ b,obk k=some b→obk f=some b∨w.heap.size≤b):=by
 obtain ⟨j,l⟩:=t;dsimp only;have x:=Zh z;clear z;by_cases hk:j=2∨j=4
 ·have v:nmV c ⟨j,l⟩=c++[l]:=if_pos hk;rw [v];have E:(j == 2||j == 4)=true:=by rcases hk with rfl|rfl<;>rfl
  rcases hk with rfl|rfl
  all_goals
   go_enter Tryz.func171,Tryz.ntmps171
   go_wp2_with (at_builtin;refine Zon rfl (.tmp 13) (.tmp 16) rfl base f d c rfl ((x.out.old (bal (Below.refl _ w) _)).old (bal (Below.refl _ _) _)) _ 1 [l] rfl (show Zar _ (some ⟨w.heap.size+1,0,none⟩) 1 [l] from ZdL (n:=1) (size:=1) (Blk.new' #[.int .i64 l] 3 (by simp)) rfl) ⟨A,by simp⟩ (by simp;omega) ?_;intro m o B a p i;have u:=Zh a;have s:=Zh (show w.grownBy B (obk f) from (Zoo w _ _).trans p);have q:=Zh (show ∀ b,obk m=some b→obk f=some b∨w.heap.size≤b from fun b y=>(i b y).imp id fun h=>Nat.le_trans (Zoo w _ _ (r:=none)).size h);clear a p i)
   go_ret;exact ⟨m,o,by rw [List.length_append];rfl,u.out,s.out,q.out⟩
 ·have v:nmV c ⟨j,l⟩=c:=if_neg hk;rw [v];have C:(j == 2)=false:=by simp;omega
  have D:(j == 4)=false:=by simp;omega
  go_enter Tryz.func171,Tryz.ntmps171;go_wp2;go_ret;exact ⟨f,d,rfl,x.out.old (bal (Below.refl _ w) _),World.grownBy_alloc w _ _,fun b h=>.inl h⟩
end
section
open Go.RowKit
def Zoq (w:World):Ending→World→Prop:=fun e w'=>(∃ b,e=.returned (.bool b))∧Below w.heap.size w w'
theorem Zor (m:Md) (h:Hd) (w:World) (H:Zay w h m):Calls Tryz.prog 44 #[.agg (HM.mk h m)] w (Zoq w):=by
  obtain ⟨z,u⟩:∃ z,z=w.alloc (.cells (HM.mk h m) 26):=⟨_,rfl⟩;have G:=Zh (show Below w.heap.size w z by rw [u];exact bE);have B:=Zh (show Blk z w.heap.size (HM.mk h m) 26 by rw [u];exact Blk.new _ _ _);have I:=Zh (H.old G.out);have K:=Zh u;have F:=H.bz;obtain ⟨X,Y,Z⟩:=F;clear u H;go_enter Tryz.func44,Tryz.ntmps44
  go_upto_region 1 with fail
  rw [←K.out];have A:=B.out.cell 0 (v:=.slice h.co m.cl.length h.cc) rfl;have T:=B.out.cell 1 (v:=.slice h.so m.st.length h.sc) rfl;have E:=B.out.cell 2 (v:=.slice h.eo m.me.length h.ec) rfl
  go_upto_region 2 with fail
  clear A T E;go_wp2
  go_loopw [3,4] (fun s i wr=>∃ (k:Nat) (n:Int),k≤m.cl.length∧i=.int .i64 k∧s=.int .i64 n∧Hid (Below z.heap.size z wr)) (fun _ i _=>m.cl.length-(intOf i).toNat)
  case atStart=>exact ⟨0,_,Nat.zero_le _,rfl,rfl,by exact bE⟩
  case round=>
    obtain ⟨k,n,U,rfl,rfl,f⟩:=hrel;rename World=>wo;have A:=(B.out.old f.out).cell 0 (v:=.slice h.co m.cl.length h.cc) rfl;by_cases hc:k<m.cl.length∧n≤400
    · obtain ⟨j,L⟩:=hc;have x:(k:Int) < m.cl.length:=by omega
      have O:IntKind.i64.wrap ((k:Int)+1)=((k+1:Nat):Int):=IntWalk.i64_in _ (by omega);obtain ⟨b,e,-,-,C,D⟩:=(I.out.old f.out).cls j;rw [e] at A;clear e
      go_upto_region 5 with fail
      refine rO (Cs [(⟨w.heap.size,0,none⟩,.slice (some b) m.cl.length h.cc),(⟨(b.add (k*4)).block,(b.add (k*4)).off+2,none⟩,.slice (h.c k).fo (m.cl.getD k default).f.length (h.c k).fc),(⟨(b.add (k*4)).block,(b.add (k*4)).off+3,none⟩,.slice (h.c k).mo (m.cl.getD k default).m.length (h.c k).mc)]) (oL [0,1,2,3,4,5,6,7,8,9,10,11,12,13,14,15,16,17]) ⟨A,C,D,trivial⟩ ?_;clear A C D
      repeat refine pO ?_
      refine Zd5 ?_;go_wp2;exact ⟨⟨k+1,_,j,rfl,rfl,f.out.drew⟩,by simp [intOf];omega⟩
    · by_cases j:k<m.cl.length
      all_goals first
        | (have x:(k:Int) < m.cl.length:=by omega
           have L:¬ n≤400:=fun q=>hc ⟨j,q⟩;have M:400<n:=by omega
           clear hc;go_wp2)
        | (have x:¬ (k:Int) < m.cl.length:=by omega
           clear hc;go_wp2)
      all_goals
        clear A
        go_loopw [3,5] (fun s i wr=>∃ (k:Nat) (n:Int),k≤m.me.length∧i=.int .i64 k∧s=.int .i64 n∧Hid (Below z.heap.size z wr)) (fun _ i _=>m.me.length-(intOf i).toNat)
        case atStart=>exact ⟨0,_,Nat.zero_le _,rfl,rfl,f.out⟩
        case round=>
          obtain ⟨q,p,V,rfl,rfl,g⟩:=hrel;rename World=>W;have E:=(B.out.old g.out).cell 2 (v:=.slice h.eo m.me.length h.ec) rfl;by_cases hc:q<m.me.length∧p≤3000
          · obtain ⟨r,N⟩:=hc;have y:(q:Int) < m.me.length:=by omega
            have R:IntKind.i64.wrap ((q:Int)+1)=((q+1:Nat):Int):=IntWalk.i64_in _ (by omega);obtain ⟨b,e,-,-,C,D,-,-,J⟩:=(I.out.old g.out).mth r;rw [e] at E;clear e
            go_upto_region 9 with fail
            refine rO (Cs [(⟨w.heap.size,2,none⟩,.slice (some b) m.me.length h.ec),(⟨(b.add (q*7)).block,(b.add (q*7)).off+2,none⟩,.slice (h.e q).po (m.me.getD q default).p.length (h.e q).pc),(⟨(b.add (q*7)).block,(b.add (q*7)).off+3,none⟩,.slice (h.e q).lo (m.me.getD q default).l.length (h.e q).lc),(⟨(b.add (q*7)).block,(b.add (q*7)).off+6,none⟩,.slice (h.e q).ko (m.me.getD q default).k.length (h.e q).kc)]) (oL [0,1,2,3,4,5,6,7,8,9,10,11,12,13,14,15,16,17,18,19,20,21,22,23,24,25]) ⟨E,C,D,J,trivial⟩ ?_;clear E C D J
            repeat refine pO ?_
            refine Zd5 ?_;go_wp2;exact ⟨⟨q+1,_,r,rfl,rfl,g.out.drew⟩,by simp [intOf];omega⟩
          · by_cases r:q<m.me.length
            all_goals first
              | (have y:(q:Int) < m.me.length:=by omega
                 have N:¬ p≤3000:=fun q=>hc ⟨r,q⟩;clear hc;go_wp2)
              | (have y:¬ (q:Int) < m.me.length:=by omega
                 clear hc;go_wp2)
            all_goals
              go_ret;exact ⟨⟨_,rfl⟩,Zaf G.out g.out⟩
end
