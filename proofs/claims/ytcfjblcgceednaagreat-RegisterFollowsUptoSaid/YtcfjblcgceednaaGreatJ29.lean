import Derived.Test.YtcfjblcgceednaaGreatJ24
import Derived.Test.YtcfjblcgceednaaGreatG22
set_option linter.all false
set_option maxHeartbeats 8000000
namespace Go.Proofs.YtcfjblcgceednaaGreat
section
open Go.RowKit
def iv (z:Int):Value:=.int .i64 z
def Rm (w:World) (N:Nat) (so:Option Addr) (sn sc:Nat):Prop:=
 (so=none∧sn=0∧sc=0)∨∃ (g:Nat) (zs:List Int),so=some ⟨g,0,none⟩∧N≤g∧Blk w g (zs.map (Value.int .i64)).toArray 3∧zs.length=sc∧sn≤sc∧sc≤maxLen
theorem Zo4 (k:Nat):∃ a:List Int,a.length=k∧Builtin.zeroCells (Value.int .i64 0).cells k=(a.map (Value.int .i64)).toArray:=by
 refine ⟨List.replicate k 0,by simp,?_⟩;apply Array.ext
 ·simp [Builtin.zeroCells,Value.cells]
 ·intro i b c;simp [Builtin.zeroCells,Value.cells,Nat.mod_one]
theorem Zo5 {w:World}{H:Array Oper}{t:List Oper}{o:Oper}{a:Act}{Q:Exit→Act→World→Prop} (I:o.guard=none) (s x:Operand)
  (Z:o.op=.call { callee:=.builtin .append,args:=#[s,x],argTypes:=#[34,34] })
  (N:Nat) (so:Option Addr) (sn B:Nat) (hs:a.eval s=.slice so sn B) (A:Rm w N so sn B) (b:Nat) (c:Int) (hx:a.eval x=.slice (some ⟨b,0,none⟩) 1 1) (W:Blk w b #[.int .i64 c] 3) (hl:sn≤1000001) (U:N≤w.heap.size)
  (h:∀ d f w',Rm w' N d (sn+1) f→B≤f→(d=so∨∃ g,d=some ⟨g,0,none⟩∧w.heap.size≤g)→w.grownBy w' (Value.slice so sn B).ownBlock→wpList Tryz.prog H Q t (a.put o.dst (.slice d (sn+1) f)) w'):wpList Tryz.prog H Q (o :: t) a w:=by
 obtain ⟨i,J,S,C,T⟩:=info_parts (P:=Tryz.prog) (show (Tryz.prog.info? 3).map (fun i=>(i.zero,i.size,i.bytes))=some (some (.int .i64 0),1,8) by kernel_rfl);have M:=Tryz.underlying34;have q:∀ j u,[Value.int .i64 c][j]?=some u→w.cell? ((⟨b,0,none⟩:Addr).add j)=some u:=by
  intro j u r;cases j with
  | zero=>simp at r;subst r;exact W.cell 0 rfl
  | succ j=>simp at r
 have G:∀ u∈[Value.int .i64 c],u.oneCell'=true:=by intro u r;rw [List.mem_singleton.1 r];rfl
 suffices key:∃ d f w',(Builtin.append_ #[34,34] o.type #[.slice so sn B,.slice (some ⟨b,0,none⟩) 1 1]).run Tryz.prog w=.ok (.slice d (sn+1) f) w'∧Rm w' N d (sn+1) f∧B≤f∧(d=so∨∃ g,d=some ⟨g,0,none⟩∧w.heap.size≤g)∧w.grownBy w' (Value.slice so sn B).ownBlock by obtain ⟨d,f,w',L,r1,r2,r3,r4⟩:=key;refine wpList_plain I fun K V=>?_;unfold Oper.wp execOp;simp only [Z,resolve,invoke,builtin,Sem.run_bind,Sem.run_pure,Result.andThen_ok,List.map_toArray,List.map_cons,List.map_nil,hs,hx,L];exact V _ _ (h d f w' r1 r2 r3 r4)
 rcases A with ⟨rfl,rfl,rfl⟩|⟨g,n,rfl,X,v,rfl,hn,Y⟩
 ·have A:=run_append_nil (P:=Tryz.prog) w 34 o.type 3 i (.int .i64 0) M J S ⟨b,0,none⟩ 1 1 [.int .i64 c] (by rw [C];rfl) q (by omega) (by omega) (by rw [T];omega);obtain ⟨n,hz,R⟩:=Zo4 (grownCap w 1 0 3-1);have y:=grownCap_ge w 1 0 3;refine ⟨some ⟨w.heap.size,0,none⟩,_,_,A,.inr ⟨w.heap.size,c :: n,rfl,U,?_,by simp;omega,y,grownCap_le_maxLen w 1 0 3 (by unfold maxLen;omega)⟩,Nat.zero_le _,.inr ⟨_,rfl,Nat.le_refl _⟩,⟨rfl,rfl,rfl,by simp,fun k F _=>Below.heap_alloc w.drew _ k F⟩⟩;have e:=heap_alloc_new w.drew (.cells ([Value.int .i64 c].toArray++Builtin.zeroCells (Value.int .i64 0).cells (grownCap w 1 0 3-1)) 3);rw [R] at e ⊢;rw [List.map_cons];simpa [Blk] using e
 ·by_cases room:sn+1≤n.length
  ·have E:sn*i.size+[Value.int .i64 c].length≤(n.map (Value.int .i64)).toArray.size:=by rw [C];simp;omega
   have A:=run_append_room (P:=Tryz.prog) w 34 o.type 3 i M J g sn n.length _ v ⟨b,0,none⟩ 1 1 [.int .i64 c] (by rw [C];rfl) q G room E;refine ⟨_,_,_,A,.inr ⟨g,n.take sn++[c]++n.drop (sn+1),rfl,X,?_,by simp;omega,room,Y⟩,Nat.le_refl _,.inl rfl,⟨rfl,rfl,rfl,by simp,fun k _ F=>setRow_other w g k _ (fun e=>F (by simp [Value.ownBlock,e]))⟩⟩;have e:=setRow_heap w g (n.map (Value.int .i64)).toArray ((n.map (Value.int .i64)).toArray.toList.take (sn*i.size)++[Value.int .i64 c]++(n.map (Value.int .i64)).toArray.toList.drop (sn*i.size+[Value.int .i64 c].length)).toArray 3 _ v;unfold Blk;rw [e,C];simp [List.map_take,List.map_drop]
  ·have z:∀ j u,((n.take sn).map (Value.int .i64))[j]?=some u→w.cell? ((⟨g,0,none⟩:Addr).add j)=some u:=by
    intro j u r;have D:(⟨g,0,none⟩:Addr).add j=⟨g,j,none⟩:=by unfold Addr.add;split<;>simp_all
    rw [D];refine v.cell j ?_;rw [List.getElem?_map,List.getElem?_take] at r;split at r
    ·simpa using r
    ·simp at r
   have A:=run_append_grow (P:=Tryz.prog) w 34 o.type 3 i (.int .i64 0) M J S ⟨g,0,none⟩ sn n.length ((n.take sn).map (Value.int .i64)) (by rw [C];simp;omega) z ⟨b,0,none⟩ 1 1 [.int .i64 c] (by rw [C];rfl) q (by omega) (by omega) (growslice_fits (by omega) (by rw [T];omega));obtain ⟨ys,hy,O⟩:=Zo4 (grownCap w (sn+1) n.length 3-(sn+1));have y:=grownCap_ge w (sn+1) n.length 3;refine ⟨_,_,_,A,.inr ⟨w.heap.size,n.take sn++[c]++ys,rfl,U,?_,by simp;omega,y,grownCap_le_maxLen w (sn+1) n.length 3 (by unfold maxLen;omega)⟩,by omega,.inr ⟨_,rfl,Nat.le_refl _⟩,⟨rfl,rfl,rfl,by simp,fun k F _=>Below.heap_alloc w.drew _ k F⟩⟩;have e:=heap_alloc_new w.drew (.cells (((n.take sn).map (Value.int .i64)).toArray++[Value.int .i64 c].toArray++Builtin.zeroCells (Value.int .i64 0).cells (grownCap w (sn+1) n.length 3-(sn+1))) 3);rw [O] at e ⊢;simpa [Blk] using e
theorem Rm.eq {w w':World}{N:Nat}{so:Option Addr}{sn sc:Nat} (H:Rm w N so sn sc) (h:∀ g,so=some ⟨g,0,none⟩→w'.heap[g]?=w.heap[g]?):Rm w' N so sn sc:=by
 rcases H with q|⟨g,zs,rfl,h1,h2,h3⟩
 ·exact .inl q
 ·exact .inr ⟨g,zs,rfl,h1,(h g rfl).trans h2,h3⟩
section
variable {w:World}{N:Nat}{so:Option Addr}
include w N so
theorem Rm.lt {sn sc:Nat} (H:Rm w N so sn sc) {g:Nat} (h:so=some ⟨g,0,none⟩):N≤g∧g<w.heap.size∧∃ X,Blk w g X 3:=by
 rcases H with ⟨q,_⟩|⟨c,d,q,b,a,_⟩
 ·rw [q] at h;cases h
 ·rw [q] at h;cases h;exact ⟨b,a.lt,_,a⟩
theorem Rm.own {sn sc n c:Nat} (H:Rm w N so sn sc) {g:Nat} (h:(Value.slice so n c).ownBlock=some g):so=some ⟨g,0,none⟩:=by
 rcases H with ⟨rfl,_⟩|⟨a,b,rfl,_⟩
 ·cases h
 ·cases h;rfl
theorem Rm.shorter {sn sc k:Nat} (H:Rm w N so sn sc) (h:k≤sc):Rm w N so k sc:=by
 rcases H with ⟨rfl,rfl,rfl⟩|⟨g,e,rfl,a,b,c,f,d⟩
 ·exact .inl ⟨rfl,by omega,rfl⟩
 ·exact .inr ⟨g,e,rfl,a,b,c,h,d⟩
theorem Rm.top {sn sc:Nat} (H:Rm w N so sn sc) {j:Nat} (h:j<sc):∃ g z,so=some ⟨g,0,none⟩∧N≤g∧g<w.heap.size∧w.cell? ⟨g,j,none⟩=some (.int .i64 z):=by
 rcases H with ⟨rfl,rfl,rfl⟩|⟨g,c,rfl,b,a,rfl,d,e⟩
 ·omega
 ·exact ⟨g,c[j],rfl,b,a.lt,a.cell j (by simp [h])⟩
theorem Rm.room {sn sc:Nat} (H:Rm w N so sn sc):sn≤sc:=by
 rcases H with ⟨_,rfl,rfl⟩|⟨g,a,_,_,_,_,h,_⟩<;>omega
end
def evC (ko:Option Addr) (kc:Nat) (c:List In3) (nl:Nat) (L:Nat) (so:Option Addr) (sn sc:Nat) (lf cs:Int) (ov:Bool) (r t:Int) (tv:Value):Array Value:=#[.slice ko c.length kc,.slice (some ⟨L,0,none⟩) nl nl,.slice so sn sc,.int .i64 lf,.bool ov,.int .i64 r,.int .i64 t,.int .i64 cs,tv]
structure LQ where
 l:Nat
 ov:Bool
 r:Int
 t:Int
structure EvA (N:Nat) (w:World) (B:Nat) (L:LQ) (ko:Option Addr) (kc:Nat) (c:List In3) (ls:List Int) (sn sc:Nat) (lf cs:Int) (tn:Nat):Prop where
 ex:∃ (so:Option Addr) (tv:Value) (xs:List Value),Blk w B (evC ko kc c ls.length L.l so sn sc lf cs L.ov L.r L.t tv) 127∧Blk w L.l (ls.map (Value.int .i64)).toArray 3∧N≤L.l∧Rm w N so sn sc∧(∀ g,so=some ⟨g,0,none⟩→g≠L.l)∧w.ownsRow N 44 2 tv tn xs
 sz:N≤B
 k:Zar w ko kc c
 kl:0<c.length→∀ a,ko=some a→a.block<N
 iv:0≤lf∧lf≤100000∧0≤cs∧cs≤1000*(100000-lf)∧sn≤100∧tn+lf≤100000
theorem Zo6 {w:World}{N:Nat}{e:TypeId}{size:Nat}{v:Value}{n:Nat}{xs:List Value} (h:w.ownsRow N e size v n xs) {g:Nat} (b:v.ownBlock=some g):∃ a,Blk w g a e:=by
 rcases h.2 with ⟨rfl,_⟩|⟨f,c,a,rfl,_,d,_⟩
 ·cases b
 ·cases b;exact ⟨a,d⟩
end
section
def psA (m:Md) (lo:List Ty) (l:List In3) (s:Ps) (p:Nat):Ps:=(l.take p).foldl (fun s i=>(ZeC m lo i s).2) s
theorem Zo7 (m:Md) (lo:List Ty) (l:List In3) (s:Ps):psA m lo l s 0=s:=by simp [psA]
theorem Zo8 {m:Md}{lo:List Ty}{l:List In3}{s:Ps}{p:Nat} (a:p<l.length):psA m lo l s (p+1)=(ZeC m lo (l.getD p default) (psA m lo l s p)).2:=by unfold psA;rw [Zal l p a,List.foldl_append];rfl
theorem Zo9 {m:Md}{lo:List Ty}{r:Ty}:∀ (l:List In3) (n:Nat) (s:Ps),(ZeE m lo r n l s).2.2=0→(∀ p,p<l.length→(ZeC m lo (l.getD p default) (psA m lo l s p)).1=0)∧(∀ p,p≤l.length→(ZeE m lo r n l s).1.getD p []=(psA m lo l s p).stk)∧ZeD m r (psA m lo l s l.length).stk=0
 |[],n,s,h=>by
  unfold ZeE at h ⊢;split at h
  ·rename_i q;rw [if_pos q];refine ⟨fun p a=>(by cases a),fun p a=>?_,q⟩;have c:p=0:=by simp at a;exact a
   subst c;rfl
  ·rename_i q;exact absurd h q
 |i :: l,n,s,h=>by
  unfold ZeE at h ⊢;split at h
  ·rename_i q;rw [if_pos q];dsimp only at h ⊢;split at h
   ·rename_i b;obtain ⟨d,e,f⟩:=Zo9 l (n+1) _ b;rw [if_pos b];refine ⟨fun p a=>?_,fun p a=>?_,f⟩
    ·cases p with
     | zero=>exact q
     | succ p=>exact d p (by simpa using a)
    ·cases p with
     | zero=>rfl
     | succ p=>exact e p (by simpa using a)
   ·rename_i b;exact absurd h b
  ·rename_i q;exact absurd h q
theorem Zpa {m:Md}{lo:List Ty}{i:In3}{s:Ps} (h:(ZeC m lo i s).1=0) (a:i.op≠34) (b:i.op≠35) :
  (Zex m i).1≤s.stk.length∧(ZeC m lo i s).2.stk.length=s.stk.length-(Zex m i).1+(Zex m i).2∧s.stk.length-(Zex m i).1+(Zex m i).2≤12∧(ZeC m lo i s).2.opn=if ZaR i.op then s.opn++[⟨i.op,(ZeC m lo i s).2.stk,[],false⟩] else s.opn:=by
 unfold ZeC at h ⊢;rw [if_neg a,if_neg b] at h ⊢;dsimp only at h ⊢;split at h
 ·cases h
 ·rename_i q;rw [if_neg q];split at h
  ·cases h
  ·rename_i t c;dsimp only;simp only [List.length_append,List.length_take,List.length_replicate];refine ⟨by omega,by omega,by omega,?_⟩
   first|trivial|(split<;>rfl)
theorem Zpb {m:Md}{lo:List Ty}{i:In3}{s:Ps} (a:i.op=34) {o:List Opn}{b:Opn} (c:s.opn=o++[b]):(ZeC m lo i s).2=⟨b.beg,o++[{ b with past:=s.stk,mid:=true }]⟩:=by unfold ZeC;rw [if_pos a,c];simp
theorem Zpc {m:Md}{lo:List Ty}{i:In3}{s:Ps} (h:(ZeC m lo i s).1=0) (c:i.op=35) {o:List Opn}{b:Opn} (d:s.opn=o++[b]):s.stk=(if b.mid then b.past else b.beg)∧(ZeC m lo i s).2=⟨s.stk,o⟩:=by
 have a:¬ i.op=34:=by omega
 have f:s.opn.getLastD default=b:=by rw [d];simp
 have e:s.opn.dropLast=o:=by rw [d];simp
 unfold ZeC at h ⊢;rw [if_neg a,if_pos c,f,e] at h ⊢;dsimp only at h ⊢;generalize (if b.mid=true then b.past else b.beg)=z at h ⊢;by_cases q:s.stk.length≠z.length
 ·rw [if_pos q] at h;cases h
 ·rw [if_neg q] at h ⊢;by_cases q2:s.stk=z
  ·rw [if_pos q2] at h ⊢;exact ⟨q2,rfl⟩
  ·rw [if_neg q2] at h;cases h
section
variable {m:Md}{lo:List Ty}{l:List In3}{s:Ps} (hs:∀ p,p<l.length→(ZeC m lo (l.getD p default) (psA m lo l s p)).1=0)
include hs
theorem Zpd {p:Nat} (c:p<l.length) (a:ZaR (l.getD p default).op=true):(psA m lo l s (p+1)).opn=(psA m lo l s p).opn++[⟨(l.getD p default).op,(psA m lo l s (p+1)).stk,[],false⟩]:=by have b:=(Zpa (hs p c) (fun e=>by rw [Zbf (.inl e)] at a;cases a) (fun e=>by rw [Zbf (.inr e)] at a;cases a)).2.2.2;rw [Zo8 c];rw [if_pos a] at b;exact b
theorem Zpe {a b:Nat} (h:Seg l a b):(psA m lo l s b).opn=(psA m lo l s a).opn:=by
 induction h with
 | nil a h=>rfl
 |pl a b h1 h2 h3 h4 h5 ih=>
  have e:=(Zpa (hs a h1) h3 h4).2.2.2;rw [ih,Zo8 h1,e,if_neg (by rw [h2];decide)]
 |one a en b h1 h2 h3 i1 i2=>
  have j:=h1.1;have c:=h1.2.2.1;have d:=Zpd hs j h1.2.1;rw [←i1] at d;have g:=(Zpc (hs en c) h1.2.2.2.1 d).2;rw [i2,Zo8 c,g]
 |two a n en b h1 h2 h3 h4 i1 i2 i3=>
  have j:=h1.1;have c:=h1.2.2.1;obtain ⟨o,f⟩:n<l.length∧(l.getD n default).op=34:=by
   rcases h1.2.2.2.2 with ⟨q,_⟩|⟨r,q,t,u,_⟩
   ·omega
   ·obtain rfl:r=n:=by omega
    exact ⟨t,u⟩
  have d:=Zpd hs j h1.2.1;rw [←i1] at d;have g:=Zpb (m:=m) (lo:=lo) f d;have i:=congrArg Ps.opn ((Zo8 (m:=m) (lo:=lo) (s:=s) o).trans g);dsimp only at i;rw [←i2] at i;have k:=(Zpc (hs en c) h1.2.2.2.1 i).2;rw [i3,Zo8 c,k]
theorem Zpf {a en:Nat} (c:Mat l a (-1) en) (g:Seg l (a+1) en):(psA m lo l s en).stk=(psA m lo l s (a+1)).stk∧(psA m lo l s (en+1)).stk=(psA m lo l s (a+1)).stk:=by have b:=c.2.2.1;have d:=Zpd hs c.1 c.2.1;rw [←Zpe hs g] at d;obtain ⟨e,f⟩:=Zpc (hs en b) c.2.2.2.1 d;rw [Zo8 b,f];exact ⟨e,e⟩
theorem Zpg {a n en:Nat} (b:Mat l a n en) (k:Seg l (a+1) n) (o:Seg l (n+1) en):(psA m lo l s (n+1)).stk=(psA m lo l s (a+1)).stk∧(psA m lo l s en).stk=(psA m lo l s n).stk∧(psA m lo l s (en+1)).stk=(psA m lo l s n).stk:=by
 have c:=b.2.2.1;obtain ⟨i,d⟩:n<l.length∧(l.getD n default).op=34:=by
  rcases b.2.2.2.2 with ⟨q,_⟩|⟨r,q,t,u,_⟩
  ·omega
  ·obtain rfl:r=n:=by omega
   exact ⟨t,u⟩
 have f:=Zpd hs b.1 b.2.1;rw [←Zpe hs k] at f;have g:=Zpb (m:=m) (lo:=lo) d f;have e:=congrArg Ps.opn ((Zo8 (m:=m) (lo:=lo) (s:=s) i).trans g);dsimp only at e;rw [←Zpe hs o] at e;obtain ⟨h,j⟩:=Zpc (hs en c) b.2.2.2.1 e;rw [Zo8 c,j,Zo8 i,g];exact ⟨rfl,h,h⟩
end
end
section
open Go.RowKit
def Zph (w:World):Ending→World→Prop:=fun e w'=>(∃ b,e=.returned (.bool b))∧Below w.heap.size w w'
end
