import Derived.Test.YtcfjblcgceednaaGreatG10
set_option linter.all false
set_option maxRecDepth 100000
set_option maxHeartbeats 8000000
namespace Go.Proofs.YtcfjblcgceednaaGreat
section
def mtF (l:List In3):Nat→Nat→Nat→Int→Int × Nat
 | 0,_,_,_=>(-1,0)
 |f+1,d,p,alt=>
  if ZaR (l.getD p default).op=true then mtF l f (d+1) (p+1) alt
  else if (l.getD p default).op=34 then mtF l f d (p+1) (if d=0 then (p:Int) else alt)
  else if (l.getD p default).op=35 then (match d with
   | 0=>(alt,p)
   | e+1=>mtF l f e (p+1) alt)
  else mtF l f d (p+1) alt
def mtV (l:List In3) (o:Nat):Int × Nat:=mtF l l.length 0 (o+1) (-1)
theorem Zml {l:List In3} (alt:Int):∀ (n p f:Nat) (S T:List Br) (D k:Nat),p+n≤l.length→n≤f→ZaT (S,D) ((l.drop p).take n)=some (T,k)→mtF l f S.length p alt=mtF l (f-n) T.length (p+n) alt
 | 0,p,f,S,T,D,k,_,_,h=>by cases h;rfl
 |n+1,p,f,S,T,D,k,hp,hf,h=>by
  obtain ⟨f,rfl⟩:∃ g,f=g+1:=⟨f-1,by omega⟩;rw [List.drop_eq_getElem_cons (by omega),List.take_succ_cons] at h;unfold ZaT at h;have q:l[p]'(by omega)=l.getD p default:=by simp [show p<l.length by omega]
  rw [q] at h;split at h
  ·cases h
  ·rename_i t d;obtain ⟨U,o⟩:=t;have s:=Zml alt n (p+1) f U T o k (by omega) (by omega) h;rw [show f+1-(n+1)=f-n by omega,show p+(n+1)=p+1+n by omega,←s];unfold ZaS at d
   conv=>lhs;unfold mtF
   split at d
   ·rename_i m;rw [if_pos m];cases d;rfl
   ·rename_i m;rw [if_neg m];split at d
    ·rename_i i;rw [if_pos i];cases S with
     | nil=>cases d
     |cons b r=>
      dsimp only at d;split at d
      ·cases d;rw [if_neg (by simp)];rfl
      ·cases d
    ·rename_i i;rw [if_neg i];split at d
     ·rename_i j;rw [if_pos j];cases S with
      | nil=>cases d
      |cons b r=>
       dsimp only at d;split at d
       ·cases d
       ·cases d;rfl
     ·rename_i j;rw [if_neg j];cases d;rfl
theorem Zmm {l:List In3}{a b d f:Nat} (alt:Int) (h:Za7 l a b d) (j:b-a≤f):mtF l f 0 a alt=mtF l (f-(b-a)) 0 b alt:=by obtain ⟨k,m,i⟩:=h [] 0 (Nat.le_refl _);have:=Zml alt (b-a) a f [] [] 0 _ (by omega) j i;rw [show a+(b-a)=b by omega] at this;exact this
theorem Zmn {l:List In3}{o en:Nat}{alt:Int} (h:Mat l o alt en):mtV l o=(alt,en):=by
 have u:=ZbI h;obtain ⟨z,A,B,m,s⟩:=h;have j:∀ f (x:Int),0<f→mtF l f 0 en x=(x,en):=fun f x r=>by obtain ⟨g,rfl⟩:∃ g,f=g+1:=⟨f-1,by omega⟩;unfold mtF;rw [if_neg (by rw [Zbf (.inr m)];decide),if_neg (by omega),if_pos m]
 unfold mtV;rcases s with ⟨rfl,t,d,k⟩|⟨n,rfl,t,k,C,⟨d,p⟩,i,q⟩
 ·have:=Za9 k;rw [Zmm (-1) k (by omega),j _ _ (by omega)]
 ·have v:=Za9 p;have y:=Za9 q;rw [Zmm (-1) p (by omega)];obtain ⟨f,r⟩:∃ f,l.length-(n-(o+1))=f+1:=⟨l.length-(n-(o+1))-1,by omega⟩;rw [r]
  conv=>lhs;unfold mtF
  rw [if_neg (by rw [Zbf (.inl k)];decide),if_pos k,if_pos rfl,Zmm (n:Int) q (by omega),j _ _ (by omega)]
structure Wg where
 plus:Int→Int→Int
 pl:In3→Int
 brk:In3→Int→Int→Int
def wL (g:Wg) (l:List In3):Nat→Nat→Nat→Int→Int
 | 0,_,_,acc=>acc
 |f+1,a,b,acc=>
  if a<b then
   if ZaR (l.getD a default).op=true then
    wL g l f ((mtV l a).2+1) b (g.plus acc (g.brk (l.getD a default) (wL g l f (a+1) (if (mtV l a).1<0 then (mtV l a).2 else (mtV l a).1.toNat) 0) (if (mtV l a).1<0 then 0 else wL g l f ((mtV l a).1.toNat+1) (mtV l a).2 0)))
   else wL g l f (a+1) b (g.plus acc (g.pl (l.getD a default)))
  else acc
end
section
inductive Seg (l:List In3):Nat→Nat→Prop
 | nil (a:Nat):a≤l.length→Seg l a a
 | pl (a b:Nat):a<l.length→ZaR (l.getD a default).op=false→(l.getD a default).op≠34→(l.getD a default).op≠35→Seg l (a+1) b→Seg l a b
 | one (a en b:Nat):Mat l a (-1) en→Seg l (a+1) en→Seg l (en+1) b→Seg l a b
 | two (a n en b:Nat):Mat l a n en→Seg l (a+1) n→Seg l (n+1) en→Seg l (en+1) b→Seg l a b
theorem Zmo {l:List In3}{a b:Nat} (h:Seg l a b):a≤b∧b≤l.length:=by
 induction h with
 | nil a h=>exact ⟨Nat.le_refl _,h⟩
 | pl a b h1 h2 h3 h4 h5 ih=>omega
 | one a en b h1 h2 h3 i1 i2=>have:=ZbI h1;omega
 | two a n en b h1 h2 h3 h4 i1 i2 i3=>have:=ZbI h1;omega
theorem Zmp (l:List In3):∀ (n a:Nat) (S:List Br) (D r:Nat),l.length-a≤n→a≤l.length→ZaT (S,D) (l.drop a)=some ([],r) →
  ∃ b d E,Seg l a b∧Za7 l a b d∧ZaT (S,E) (l.drop b)=some ([],r)∧((b=l.length∧S=[])∨(b<l.length∧((l.getD b default).op=34∨(l.getD b default).op=35)))
 |n,a,S,D,r,hn,ha,h=>by
  by_cases hal:a=l.length
  ·refine ⟨a,0,D,.nil a ha,Zba ha,h,.inl ⟨hal,?_⟩⟩;rw [hal,List.drop_length] at h;cases h;rfl
  have f:a<l.length:=by omega
  obtain ⟨n,rfl⟩:∃ k,n=k+1:=⟨n-1,by omega⟩;have y:∀ (S:List Br) (D b:Nat),b<l.length→ZaT (S,D) (l.drop b)=some ([],r)→∃ T E,ZaS (S,D) (l.getD b default)=some (T,E)∧ZaT (T,E) (l.drop (b+1))=some ([],r):=fun S D b U h=>by
   have M:l[b]=l.getD b default:=by simp [U]
   rw [List.drop_eq_getElem_cons U,M] at h;unfold ZaT at h;split at h
   ·cases h
   ·rename_i t ht;exact ⟨t.1,t.2,ht,h⟩
  obtain ⟨T,E,B,Q⟩:=y _ _ _ f h;by_cases hop:ZaR (l.getD a default).op=true
  ·unfold ZaS at B;rw [if_pos hop] at B;cases B;obtain ⟨z,d1,E1,N,H,n1,q1⟩:=Zmp l n (a+1) _ _ r (by omega) (by omega) Q;rcases q1 with ⟨_,j⟩|⟨o,j⟩
   ·cases j
   obtain ⟨T2,E2,m,R⟩:=y _ _ _ o n1;have Z:=(Zmo N).1;rcases j with j|j
   ·unfold ZaS at m;rw [Zbf (.inl j),if_neg (by decide),if_pos j] at m;dsimp only at m;split at m
    ·rename_i I;cases m;obtain ⟨K,d2,E3,W,P,n2,q2⟩:=Zmp l n (z+1) _ _ r (by omega) (by omega) R;rcases q2 with ⟨_,i⟩|⟨x,i⟩
     ·cases i
     obtain ⟨T3,E4,v,Y⟩:=y _ _ _ x n2;have V:=(Zmo W).1;have u:(l.getD K default).op=35:=by
      rcases i with i|i
      ·unfold ZaS at v;rw [Zbf (.inl i),if_neg (by decide),if_pos i] at v;simp at v
      ·exact i
     unfold ZaS at v;rw [Zbf (.inr u),if_neg (by decide),if_neg (by omega),if_pos u] at v;simp at v;obtain ⟨rfl,rfl⟩:=v;obtain ⟨A,X,J,O,L,F,G⟩:=Zmp l n (K+1) _ _ r (by omega) (by omega) Y;exact ⟨A,_,J,.two a z K A ⟨f,hop,x,u,.inr ⟨z,rfl,o,j,I.1,⟨_,H⟩,_,P⟩⟩ N W O,Zbb (Zbo f hop H o j I.1 P x u) L,F,G⟩
    ·cases m
   ·unfold ZaS at m;rw [Zbf (.inr j),if_neg (by decide),if_neg (by omega),if_pos j] at m;dsimp only at m;split at m
    ·cases m
    ·rename_i I;cases m;have C:(l.getD a default).op≠33:=fun q=>I ⟨q,rfl⟩;obtain ⟨A,X,J,O,L,F,G⟩:=Zmp l n (z+1) _ _ r (by omega) (by omega) R;exact ⟨A,_,J,.one a z A ⟨f,hop,o,j,.inl ⟨rfl,C,_,H⟩⟩ N O,Zbb (Zbn f hop H o j C) L,F,G⟩
  ·by_cases M:(l.getD a default).op=34∨(l.getD a default).op=35
   ·exact ⟨a,0,D,.nil a ha,Zba ha,h,.inr ⟨f,M⟩⟩
   ·have p:ZaR (l.getD a default).op=false:=by simpa using hop
    rw [Zbc p (by omega) (by omega)] at B;cases B;obtain ⟨b,d,E,s,g,F,G⟩:=Zmp l n (a+1) _ _ r (by omega) (by omega) Q;exact ⟨b,_,E,.pl a b f p (by omega) (by omega) s,Zbb (Zbd (Zba ha) f p (by omega) (by omega)) g,F,G⟩
theorem Zmq {l:List In3} (h:ZaU l=true):Seg l 0 l.length:=by
 unfold ZaU at h;split at h
 ·cases h
 ·rename_i m d j;simp only [Bool.and_eq_true,List.isEmpty_iff] at h;obtain ⟨rfl,_⟩:=h;obtain ⟨b,e,E,s,g,n,q⟩:=Zmp l l.length 0 [] 0 d (by omega) (by omega) j;rcases q with ⟨rfl,_⟩|⟨i,f⟩
  ·exact s
  ·have k:l[b]=l.getD b default:=by simp [i]
   rw [List.drop_eq_getElem_cons i,k] at n;unfold ZaT ZaS at n;rw [Zbf f,if_neg (by decide)] at n;rcases f with f|f
   ·rw [if_pos f] at n;cases n
   ·rw [if_neg (by omega),if_pos f] at n;cases n
theorem Zmr (g:Wg) (l:List In3) (f a:Nat) (acc:Int):wL g l f a a acc=acc:=by
 cases f with
 | zero=>rfl
 | succ f=>unfold wL;rw [if_neg (Nat.lt_irrefl a)]
theorem Zms {g:Wg}{l:List In3}{f a b:Nat}{acc:Int} (i:ZaR (l.getD a default).op=false) (d:a<b):wL g l (f+1) a b acc=wL g l f (a+1) b (g.plus acc (g.pl (l.getD a default))):=by
 conv=>lhs;unfold wL
 rw [if_pos d,if_neg (by rw [i];decide)]
theorem Zmt {g:Wg}{l:List In3}{f a b en:Nat}{alt acc:Int} (h:Mat l a alt en) (d:a<b):wL g l (f+1) a b acc =
  wL g l f (en+1) b (g.plus acc (g.brk (l.getD a default) (wL g l f (a+1) (if alt<0 then en else alt.toNat) 0) (if alt<0 then 0 else wL g l f (alt.toNat+1) en 0))):=by
 conv=>lhs;unfold wL
 rw [if_pos d,if_pos (show ZaR (l.getD a default).op=true from h.2.1),Zmn h]
theorem Zmu {g:Wg}{l:List In3}{a b:Nat} (h:Seg l a b):∀ (f d:Nat) (acc:Int),b-a≤f→b-a≤d→wL g l f a b acc=wL g l d a b acc:=by
 induction h with
 | nil a h=>intro f d acc _ _;rw [Zmr,Zmr]
 |pl a b h1 h2 h3 h4 h5 ih=>
  intro f d acc m i;have:=(Zmo h5).1;obtain ⟨f,rfl⟩:∃ k,f=k+1:=⟨f-1,by omega⟩;obtain ⟨d,rfl⟩:∃ k,d=k+1:=⟨d-1,by omega⟩;rw [Zms h2 (by omega),Zms h2 (by omega)];exact ih _ _ _ (by omega) (by omega)
 |one a en b h1 h2 h3 i1 i2=>
  intro f d acc m i;have:=ZbI h1;have:=(Zmo h3).1;obtain ⟨f,rfl⟩:∃ k,f=k+1:=⟨f-1,by omega⟩;obtain ⟨d,rfl⟩:∃ k,d=k+1:=⟨d-1,by omega⟩;rw [Zmt h1 (by omega),Zmt h1 (by omega),if_pos (by decide),if_pos (by decide),if_pos (by decide),i1 f d _ (by omega) (by omega)];exact i2 _ _ _ (by omega) (by omega)
 |two a n en b h1 h2 h3 h4 i1 i2 i3=>
  intro f d acc m i;have:=ZbI h1;have:=(Zmo h2).1;have:=(Zmo h3).1;have:=(Zmo h4).1;obtain ⟨f,rfl⟩:∃ k,f=k+1:=⟨f-1,by omega⟩;obtain ⟨d,rfl⟩:∃ k,d=k+1:=⟨d-1,by omega⟩;have j:¬ (n:Int) < 0:=by omega
  rw [Zmt h1 (by omega),Zmt h1 (by omega),if_neg j,if_neg j,if_neg j,Int.toNat_natCast,i1 f d _ (by omega) (by omega),i2 f d _ (by omega) (by omega)];exact i3 _ _ _ (by omega) (by omega)
def WA (g:Wg) (l:List In3) (a b:Nat) (acc:Int):Int:=wL g l (b-a) a b acc
section
variable {g:Wg}{l:List In3}{a n en b:Nat}{acc:Int}
theorem Zmv:WA g l a a acc=acc:=Zmr _ _ _ _ _
theorem Zmw (d:ZaR (l.getD a default).op=false) (f:Seg l (a+1) b):WA g l a b acc=WA g l (a+1) b (g.plus acc (g.pl (l.getD a default))):=by have:=(Zmo f).1;unfold WA;rw [show b-a=(b-(a+1))+1 by omega,Zms d (by omega)]
theorem Zmx (d:Mat l a (-1) en) (i:Seg l (a+1) en) (f:Seg l (en+1) b):WA g l a b acc=WA g l (en+1) b (g.plus acc (g.brk (l.getD a default) (WA g l (a+1) en 0) 0)):=by have:=ZbI d;have:=(Zmo f).1;unfold WA;rw [show b-a=(b-(a+1))+1 by omega,Zmt d (by omega),if_pos (by decide),if_pos (by decide),Zmu i _ (en-(a+1)) _ (by omega) (by omega),Zmu f _ (b-(en+1)) _ (by omega) (by omega)]
theorem Zmy (d:Mat l a n en) (f:Seg l (a+1) n) (i:Seg l (n+1) en) (j:Seg l (en+1) b):WA g l a b acc=WA g l (en+1) b (g.plus acc (g.brk (l.getD a default) (WA g l (a+1) n 0) (WA g l (n+1) en 0))):=by
 have:=ZbI d;have:=(Zmo f).1;have:=(Zmo i).1;have:=(Zmo j).1;have k:¬ (n:Int) < 0:=by omega
 unfold WA;rw [show b-a=(b-(a+1))+1 by omega,Zmt d (by omega),if_neg k,if_neg k,Int.toNat_natCast,Zmu f _ (n-(a+1)) _ (by omega) (by omega),Zmu i _ (en-(n+1)) _ (by omega) (by omega),Zmu j _ (b-(en+1)) _ (by omega) (by omega)]
end
end
section
open Go.RowKit
structure VN where
 at_:Int
 alt:Int
 en:Int
 fo:Option Addr
 fn:Nat
 fc:Nat
 so:Option Addr
 sn:Nat
 sc:Nat
instance:Inhabited VN:=⟨⟨0,0,0,none,0,0,none,0,0⟩⟩
instance:Cells VN:=⟨5,by decide,fun t=>[.int .i64 t.at_,.int .i64 t.alt,.int .i64 t.en,.slice t.fo t.fn t.fc,.slice t.so t.sn t.sc],fun _=>rfl,by
 intro x u hu;simp only [List.mem_cons,List.not_mem_nil,or_false] at hu;rcases hu with rfl|rfl|rfl|rfl|rfl<;>rfl⟩
def Lie (P:Nat→Prop) (ao:Option Addr):Prop:=∀ ad,ao=some ad→P ad.block
inductive Nds (w:World) (l:List In3) (P:Nat→Prop):Nat→Nat→List VN→Prop
 | nil (a:Nat):a≤l.length→Nds w l P a a []
 | pl (a b:Nat) (r:List VN):a<l.length→ZaR (l.getD a default).op=false→(l.getD a default).op≠34→(l.getD a default).op≠35→Nds w l P (a+1) b r→Nds w l P a b (⟨a,-1,-1,none,0,0,none,0,0⟩ :: r)
 | one (a en b:Nat) (fo:Option Addr) (fc:Nat) (F r:List VN):Mat l a (-1) en→Zar w fo fc F→Lie P fo∧F.length≤fc→Nds w l P (a+1) en F→Nds w l P (en+1) b r→Nds w l P a b (⟨a,-1,en,fo,F.length,fc,none,0,0⟩ :: r)
 | two (a n en b:Nat) (fo so:Option Addr) (fc sc:Nat) (F S r:List VN):Mat l a n en→Zar w fo fc F→Lie P fo∧F.length≤fc→Nds w l P (a+1) n F→Zar w so sc S→Lie P so∧S.length≤sc→Nds w l P (n+1) en S→Nds w l P (en+1) b r→Nds w l P a b (⟨a,n,en,fo,F.length,fc,so,S.length,sc⟩ :: r)
theorem Nds.le {w:World}{l:List In3}{P:Nat→Prop}{a b:Nat}{r:List VN} (h:Nds w l P a b r):a+r.length≤b∧b≤l.length:=by
 induction h with
 | nil a h=>simp [h]
 | pl a b r h1 h2 h3 h4 h5 ih=>simp;omega
 | one a en b fo fc F r h1 h2 h3 h4 h5 i1 i2=>have:=ZbI h1;simp;omega
 | two a n en b fo so fc sc F S r h1 h2 h3 h4 h5 h6 h7 h8 i1 i2 i3=>have:=ZbI h1;simp;omega
theorem Nds.seg {w:World}{l:List In3}{P:Nat→Prop}{a b:Nat}{r:List VN} (h:Nds w l P a b r):Seg l a b:=by
 induction h with
 | nil a h=>exact .nil a h
 | pl a b r h1 h2 h3 h4 h5 ih=>exact .pl a b h1 h2 h3 h4 ih
 | one a en b fo fc F r h1 h2 h3 h4 h5 i1 i2=>exact .one a en b h1 i1 i2
 | two a n en b fo so fc sc F S r h1 h2 h3 h4 h5 h6 h7 h8 i1 i2 i3=>exact .two a n en b h1 i1 i2 i3
theorem Nds.keep {w w':World}{l:List In3}{P Q:Nat→Prop}{a b:Nat}{r:List VN} (h:Nds w l P a b r) (hr:∀ (ao:Option Addr) (c:Nat) (L:List VN),Zar w ao c L→Lie P ao→Zar w' ao c L∧Lie Q ao):Nds w' l Q a b r:=by
 induction h with
 | nil a h=>exact .nil a h
 | pl a b r h1 h2 h3 h4 h5 ih=>exact .pl a b r h1 h2 h3 h4 ih
 | one a en b fo fc F r h1 h2 h3 h4 h5 i1 i2=>exact .one a en b fo fc F r h1 (hr _ _ _ h2 h3.1).1 ⟨(hr _ _ _ h2 h3.1).2,h3.2⟩ i1 i2
 | two a n en b fo so fc sc F S r h1 h2 h3 h4 h5 h6 h7 h8 i1 i2 i3=>exact .two a n en b fo so fc sc F S r h1 (hr _ _ _ h2 h3.1).1 ⟨(hr _ _ _ h2 h3.1).2,h3.2⟩ i1 (hr _ _ _ h5 h6.1).1 ⟨(hr _ _ _ h5 h6.1).2,h6.2⟩ i2 i3
theorem Nds.old {w w':World}{l:List In3}{P:Nat→Prop}{a b:Nat}{r:List VN} (h:Nds w l P a b r) (hb:Below w.heap.size w w'):Nds w' l P a b r:=
 h.keep fun _ _ _ d f=>⟨d.old hb,f⟩
theorem Nds.weak {w:World}{l:List In3}{P Q:Nat→Prop}{a b:Nat}{r:List VN} (h:Nds w l P a b r) (hq:∀ k,P k→Q k):Nds w l Q a b r:=
 h.keep fun _ _ _ f i=>⟨f,fun d e=>hq _ (i d e)⟩
theorem Nds.snoc_pl {w:World}{l:List In3}{P:Nat→Prop}{a k:Nat}{r:List VN} (h:Nds w l P a k r) (h1:k<l.length) (h2:ZaR (l.getD k default).op=false) (h3:(l.getD k default).op≠34) (h4:(l.getD k default).op≠35):Nds w l P a (k+1) (r++[⟨k,-1,-1,none,0,0,none,0,0⟩]):=by
 induction h with
 | nil a h=>exact .pl a (a+1) [] h1 h2 h3 h4 (.nil _ (by omega))
 | pl a b r q1 q2 q3 q4 q5 ih=>exact .pl a _ _ q1 q2 q3 q4 (ih h1 h2 h3 h4)
 | one a en b fo fc F r q1 q2 q3 q4 q5 i1 i2=>exact .one a en _ fo fc F _ q1 q2 q3 q4 (i2 h1 h2 h3 h4)
 | two a n en b fo so fc sc F S r q1 q2 q3 q4 q5 q6 q7 q8 i1 i2 i3=>exact .two a n en _ fo so fc sc F S _ q1 q2 q3 q4 q5 q6 q7 (i3 h1 h2 h3 h4)
theorem Nds.snoc_one {w:World}{l:List In3}{P:Nat→Prop}{a k en:Nat}{r F:List VN}{fo:Option Addr}{fc:Nat} (h:Nds w l P a k r) (h1:Mat l k (-1) en) (h2:Zar w fo fc F) (h3:Lie P fo∧F.length≤fc) (h4:Nds w l P (k+1) en F):Nds w l P a (en+1) (r++[⟨k,-1,en,fo,F.length,fc,none,0,0⟩]):=by
 induction h with
 | nil a h=>exact .one a en _ fo fc F [] h1 h2 h3 h4 (.nil _ (by have:=h1.2.2.1;omega))
 | pl a b r q1 q2 q3 q4 q5 ih=>exact .pl a _ _ q1 q2 q3 q4 (ih h1 h4)
 | one a en b fo fc F r q1 q2 q3 q4 q5 i1 i2=>exact .one a en _ fo fc F _ q1 q2 q3 q4 (i2 h1 h4)
 | two a n en b fo so fc sc F S r q1 q2 q3 q4 q5 q6 q7 q8 i1 i2 i3=>exact .two a n en _ fo so fc sc F S _ q1 q2 q3 q4 q5 q6 q7 (i3 h1 h4)
theorem Nds.snoc_two {w:World}{l:List In3}{P:Nat→Prop}{a k n en:Nat}{r F S:List VN}{fo so:Option Addr}{fc sc:Nat} (h:Nds w l P a k r) (h1:Mat l k n en) (h2:Zar w fo fc F) (h3:Lie P fo∧F.length≤fc) (h4:Nds w l P (k+1) n F) (h5:Zar w so sc S) (h6:Lie P so∧S.length≤sc) (h7:Nds w l P (n+1) en S) :
  Nds w l P a (en+1) (r++[⟨k,n,en,fo,F.length,fc,so,S.length,sc⟩]):=by
 induction h with
 | nil a h=>exact .two a n en _ fo so fc sc F S [] h1 h2 h3 h4 h5 h6 h7 (.nil _ (by have:=h1.2.2.1;omega))
 | pl a b r q1 q2 q3 q4 q5 ih=>exact .pl a _ _ q1 q2 q3 q4 (ih h1 h4)
 | one a en b fo fc F r q1 q2 q3 q4 q5 i1 i2=>exact .one a en _ fo fc F _ q1 q2 q3 q4 (i2 h1 h4)
 | two a n en b fo so fc sc F S r q1 q2 q3 q4 q5 q6 q7 q8 i1 i2 i3=>exact .two a n en _ fo so fc sc F S _ q1 q2 q3 q4 q5 q6 q7 (i3 h1 h4)
def Zmz (W:World) (l:List In3) (a b:Nat):Ending→World→Prop:=fun e w'=>∃ ro rc rows,e=.returned (.slice ro rows.length rc)∧w'.ownsRow W.heap.size 193 5 (.slice ro rows.length rc) rows.length (Zak rows)∧Nds w' l (fun k=>W.heap.size≤k∧k<w'.heap.size) a b rows∧Below W.heap.size W w'
section
variable {w:World}{base:Nat}{e:TypeId}{size:Nat}{ao:Option Addr}{n c:Nat}{xs:List Value}(h:w.ownsRow base e size (.slice ao n c) n xs)
include w base e size ao n c xs h
theorem ZmA:Lie (fun k=>base≤k∧k<w.heap.size) ao:=by intro d f;subst f;exact h.lt d.block rfl
theorem ZmB:n≤c:=by
 rcases h.2 with ⟨d,k⟩|⟨g,i,j,d,m,o,f⟩
 ·cases d;exact Nat.le_refl _
 ·cases d;first|exact f.1|omega|(have:=f;omega)
end
theorem ZmC {w w':World}{d:Option Nat}{ao:Option Addr}{c:Nat}{L:List VN} (h:Zar w ao c L) (o:w.grownBy w' d) (f:∀ i,ao=some i→d≠some i.block):Zar w' ao c L:=
 ⟨h.1,h.2.1,fun j u p=>by
  obtain ⟨a,k,m⟩:=h.2.2 j u p
  exact ⟨a,k,(World.cell?_of_block (w:=w) (o.block _ (Zac m) (fun e=>f a k (by rw [Zag] at e;exact e.symm)))).trans m⟩⟩
theorem Nds.grow {w w':World}{l:List In3}{row:Option Nat}{base a b:Nat}{r:List VN} (h:Nds w l (fun k=>base≤k∧k<w.heap.size∧row≠some k) a b r) (hg:w.grownBy w' row) {Q:Nat→Prop} (hq:∀ k,base≤k→k<w.heap.size→row≠some k→Q k):Nds w' l Q a b r:=
 h.keep fun _ _ _ i f=>⟨ZmC i hg fun d e=>(f d e).2.2,fun d e=>hq _ (f d e).1 (f d e).2.1 (f d e).2.2⟩
end
section
open Go.RowKit
theorem ZmD {w:World}{a b:Nat}{xs ys:Array Value}{t u:TypeId} (h:Blk w a xs t) (g:Blk w b ys u) (d:t≠u):a≠b:=by rintro rfl;unfold Blk at h g;rw [h] at g;cases g;exact d rfl
theorem ZcI.set {l:List In3}{w:World}{v0 v1 v2 v3:Value} (H:ZcI l w v0 v1 v2 v3) {B:Nat}{xs:Array Value}{t:TypeId} (hB:Blk w B xs t) (ht:3≠t) (j:Nat) (v:Value):ZcI l (w.setCell ⟨B,j,none⟩ v) v0 v1 v2 v3:=by obtain ⟨m,o,p,q,P,E,Q,R,r,s,u,x,z,d,f,i,k,y⟩:=H;exact ⟨m,o,p,q,P,E,Q,R,r,s,u,x,z,d.other (a:=⟨B,j,none⟩) (ZmD d hB ht) v,f.other (a:=⟨B,j,none⟩) (ZmD f hB ht) v,i.other (a:=⟨B,j,none⟩) (ZmD i hB ht) v,k.other (a:=⟨B,j,none⟩) (ZmD k hB ht) v,y⟩
theorem ZcI.alloc {l:List In3}{w:World}{v0 v1 v2 v3:Value} (H:ZcI l w v0 v1 v2 v3) (o:Obj):ZcI l (w.alloc o) v0 v1 v2 v3:=by obtain ⟨k,m,p,q,P,E,Q,R,r,s,t,u,x,d,f,i,j,v⟩:=H;exact ⟨k,m,p,q,P,E,Q,R,r,s,t,u,x,d.alloc o,f.alloc o,i.alloc o,j.alloc o,v⟩
def ZmE (l:List In3) (W:World):Ending→World→Prop:=fun e w'=>(∃ v0 v1 v2 v3:Value,∃ n:Int,e=.returned (.tuple #[.agg #[v0,v1,v2,v3,.int .i64 n,.bool true],.int .i64 0])∧ZcI l w' v0 v1 v2 v3)∧Below W.heap.size W w'
theorem ZmF {l:List In3} (h:ZaV false l=0):l.length≤120∧l.all (ZaQ false)=true∧ZaU l=true:=by
 unfold ZaV at h;split at h
 ·omega
 ·split at h
  ·split at h
   ·rename_i i d f;exact ⟨by omega,d,f⟩
   ·omega
  ·omega
theorem ZmG (l:List In3) (ao:Option Addr) (f:Nat) (w:World) (C:Zar w ao f l) (D:ZaV false l=0) (k:Nat) (hk:k<l.length) :
  Calls Tryz.prog 224 #[.slice ao l.length f,.int .i64 k] w (ZmE l w):=by
 obtain ⟨O,S,I⟩:=ZmF D;obtain ⟨B,A⟩:∃ B,B=w.heap.size:=⟨_,rfl⟩;have i:=(Below.refl w.heap.size w).alloc (Nat.le_refl _) (.cells #[.slice none 0 0,.slice none 0 0,.slice none 0 0,.slice none 0 0,.int .i64 0,.bool false] 245);have J:=Blk.new' (w:=w) #[.slice none 0 0,.slice none 0 0,.slice none 0 0,.slice none 0 0,.int .i64 0,.bool false] 245 A;have H:=Zh (ZgN l ao f false _ (C.old i));rw [D] at H;have M:=Zh (fun V T=>Zc9 l ao f V (C.old T) O);have F:=Zh I;have G:=Zh A;have N:=Zh J;have q:=Zh i;have U:(k:Int) < l.length:=by omega
 clear C D S I A J i;go_enter Tryz.func224,Tryz.ntmps224
 go_wp2_with (first
  | (go_at_call 299;refine H.out.mono ?_;rintro e w1 ⟨rfl,j⟩;have p:=Zh (Zaf q.out j);have t:=Zh (N.out.old j);clear j)
  | (go_at_call 300;refine (M.out _ p.out).mono ?_;rintro e W ⟨⟨v0,v1,v2,v3,n,rfl,L⟩,m⟩;have r:=Zh (Zaf p.out m);have d:=Zh (t.out.old m);obtain ⟨u,x,y,z,P,E,Q,R,rfl,rfl,rfl,rfl,K⟩:=L F.out;have s:RowKit.Hid (ZcI l W _ _ _ _):=⟨u,x,y,z,P,E,Q,R,rfl,rfl,rfl,rfl,K⟩;rw [F.out];clear m L K;rw [←G.out];have x0:=d.out.cell 0 rfl;have x1:=d.out.cell 1 rfl;have x2:=d.out.cell 2 rfl;have x3:=d.out.cell 3 rfl;have x4:=d.out.cell 4 rfl;have x5:=d.out.cell 5 rfl;have f0:=d.out.frozen 0;have f1:=d.out.frozen 1;have f2:=d.out.frozen 2;have f3:=d.out.frozen 3;have f4:=d.out.frozen 4;have f5:=d.out.frozen 5))
 have o:=(((((d.out.set 0 (.slice (some ⟨u,0,none⟩) l.length l.length)).set 1 (.slice (some ⟨x,0,none⟩) l.length l.length)).set 2 (.slice (some ⟨y,0,none⟩) l.length l.length)).set 3 (.slice (some ⟨z,0,none⟩) l.length l.length)).set 4 (.int .i64 n)).set 5 (.bool true);have X:=o.cell 0 rfl;have Y:=o.cell 1 rfl;have Z:=o.cell 2 rfl;have y3:=o.cell 3 rfl;have y4:=o.cell 4 rfl;have y5:=o.cell 5 rfl;refine bodyPost_ret (v:=.tuple #[.agg #[.slice (some ⟨u,0,none⟩) l.length l.length,.slice (some ⟨x,0,none⟩) l.length l.length,.slice (some ⟨y,0,none⟩) l.length l.length,.slice (some ⟨z,0,none⟩) l.length l.length,.int .i64 n,.bool true],.int .i64 0]) (by simp [results,Tryz.results224,go_sem,X,Y,Z,y3,y4,y5]) rfl ⟨⟨_,_,_,_,_,rfl,?_⟩,?_⟩
 ·exact (((((s.out.set d.out (by decide) 0 _).set (d.out.set 0 _) (by decide) 1 _).set ((d.out.set 0 _).set 1 _) (by decide) 2 _).set (((d.out.set 0 _).set 1 _).set 2 _) (by decide) 3 _).set ((((d.out.set 0 _).set 1 _).set 2 _).set 3 _) (by decide) 4 _).set (((((d.out.set 0 _).set 1 _).set 2 _).set 3 _).set 4 _) (by decide) 5 _
 ·have:=G.out;exact ZcW (ZcW (ZcW (ZcW (ZcW (ZcW r.out (by omega) _) (by omega) _) (by omega) _) (by omega) _) (by omega) _) (by omega) _
theorem ZcI.mat {l:List In3}{w:World}{v0 v1 v2 v3:Value} (H:ZcI l w v0 v1 v2 v3) {k en:Nat}{alt:Int} (hm:Mat l k alt en):∃ g0 g1 g2 g3,(v0=.slice (some ⟨g0,0,none⟩) l.length l.length∧v1=.slice (some ⟨g1,0,none⟩) l.length l.length∧v2=.slice (some ⟨g2,0,none⟩) l.length l.length∧v3=.slice (some ⟨g3,0,none⟩) l.length l.length)∧w.cell? ⟨g1,k,none⟩=some (.int .i64 alt)∧w.cell? ⟨g2,k,none⟩=some (.int .i64 en):=by
 obtain ⟨g0,g1,g2,g3,P,E,Q,R,o,p,q,r,⟨z,A,B,C⟩,t,j,m,u,s⟩:=H;obtain ⟨n,i,d⟩:=ZbZ s hm.1 hm.2.1;obtain ⟨f,x⟩:=ZbH hm d;have y:=hm.1;refine ⟨g0,g1,g2,g3,⟨o,p,q,r⟩,?_,?_⟩
 ·rw [j.cell k (v:=.int .i64 alt) (by simp [show k<E.length by omega];unfold gx at f;simpa [show k<E.length by omega] using f.symm)]
 ·rw [m.cell k (v:=.int .i64 en) (by simp [show k<Q.length by omega];unfold gx at i;simp [show k<Q.length by omega] at i;omega)]
theorem ZmH (l:List In3) (ao:Option Addr) (d:Nat) (w:World) (r:Zar w ao d l) (y:ZaV false l=0) {k en:Nat}{alt:Int} (m:Mat l k alt en) :
  Calls Tryz.prog 163 #[.slice ao l.length d,.int .i64 k] w (Ret w (.tuple #[.int .i64 alt,.int .i64 en,.int .i64 0])):=by
 have v:=m.1;have F:(k:Int) < l.length:=by omega
 have z:=Zh (ZmG l ao d w r y k v);have j:=Zh (show ZaR (l.getD k default).op=true from m.2.1);have A:=Zh m;have u:=Zh (fun w' E=>ZaA (Zar.old r (w':=w') E) v);clear r y m;obtain ⟨N,i⟩:∃ o,o=(l.getD k default).op:=⟨_,rfl⟩;rw [←i] at j u;have B:=Zh i;clear i;go_enter Tryz.func163,Tryz.ntmps163
 go_wp2_with (first
  | (go_at_call 224;refine z.out.mono ?_;rintro e S ⟨⟨O,P,Q,R,n,rfl,x⟩,f⟩;have q:=Zh f;obtain ⟨J,K,L,M,⟨rfl,rfl,rfl,rfl⟩,C,D⟩:=x.mat A.out;obtain ⟨I,rfl,H,-,-⟩:=u.out _ f;have s:=Zac C;have t:=Zac D;dsimp only at s t;have G:=Zac H;clear f x)
  | (go_at_call 162;refine (ZcP _ _).mono ?_;rintro e T ⟨rfl,rfl⟩;rw [j.out]))
 go_quiet (fail)
 go_wp2;go_ret3;exact ZcT rfl (by have:=q.out;exact bE)
end
section
open Go.RowKit
theorem ZmI {P:Program}{w:World}{F:Array Oper}{y:List Oper}{o:Oper}{a:Act}{Q:Exit→Act→World→Prop} (L:o.guard=none) (s x:Operand) (t:TypeId)
  (V:o.op=.call { callee:=.builtin .append,args:=#[s,x],argTypes:=#[t,t] })
  (base:Nat) (e:TypeId) (size d:Nat) (B:El P t e size d)
  (v:Value) (n:Nat) (xs:List Value) (W:a.eval s=v) (D:w.ownsRow base e size v n xs)
  (G:Addr) (m c:Nat) (k:List Value) (Y:a.eval x=.slice (some G) m c) (E:SlA w size (some G) m c k) (O:∀ u∈k,u.oneCell'=true)
  (r:(n+m)*d≤140737488355328) (H:n+m≤maxLen) (A:base≤w.heap.size) (hm:0<m)
  (h:∀ q f w',w'.ownsRow base e size (.slice q (n+m) f) (n+m) (xs++k)→w.grownBy w' v.ownBlock→((Value.slice q (n+m) f).ownBlock=v.ownBlock∨(Value.slice q (n+m) f).ownBlock=some w.heap.size)→wpList P F Q y (a.put o.dst (.slice q (n+m) f)) w'):wpList P F Q (o :: y) a w:=by
 obtain ⟨i,z,T,Z,C,K,M⟩:=B.info;refine wpList_append_own_at _ L s x t V base e i z size d B.und T Z C K M B.pos v n xs W D G m c k Y E.1 (fun j u X=>?_) O H r A ?_
 ·obtain ⟨a',I,R⟩:=E.2.2 j u X;obtain rfl:=Option.some.inj I;exact R
 ·intro v' w' p S _ J;rcases p.2 with ⟨rfl,U⟩|⟨g,c,N,rfl,hr⟩
  ·omega
  ·exact h _ c w' p S J
theorem ZmJ:El Tryz.prog 140 193 5 72:=El.mk' (z:=.agg #[.int .i64 0,.int .i64 0,.int .i64 0,.slice none 0 0,.slice none 0 0]) Tryz.underlying140 (by kernel_rfl) (by kernel_rfl) (by decide)
theorem ZmK {l:List In3}{a b:Nat} (h:Seg l a b):a=b∨(a<b∧ZaR (l.getD a default).op=false∧(l.getD a default).op≠34∧(l.getD a default).op≠35∧Seg l (a+1) b) ∨
  (∃ en:Nat,Mat l a (-1) en∧a<en∧en<b∧Seg l (a+1) en∧Seg l (en+1) b)∨∃ n en:Nat,Mat l a n en∧a<n∧n<en∧en<b∧Seg l (a+1) n∧Seg l (n+1) en∧Seg l (en+1) b:=by
 cases h with
 | nil _ h=>exact .inl rfl
 | pl _ _ h1 h2 h3 h4 h5=>exact .inr (.inl ⟨(Zmo h5).1,h2,h3,h4,h5⟩)
 | one _ en _ h1 h2 h3=>exact .inr (.inr (.inl ⟨en,h1,ZbI h1,(Zmo h3).1,h2,h3⟩))
 | two _ n en _ h1 h2 h3 h4=>exact .inr (.inr (.inr ⟨n,en,h1,(Zmo h2).1,(Zmo h3).1,(Zmo h4).1,h2,h3,h4⟩))
theorem ZmL (w:World) (xs:Array Value) (t:TypeId) {b n size:Nat}{ys:List Value} (d:b=w.heap.size) (f:xs.toList=ys∧ys.length=n*size):SlA (w.alloc (.cells xs t)) size (some ⟨b,0,none⟩) n n ys:=by subst d;obtain ⟨rfl,h⟩:=f;exact Zcr w xs t (by simpa using h)
structure ZmM (W w:World) (l:List In3) (a k:Nat) (ro:Option Addr) (rc:Nat) (rows:List VN):Prop where
 own:w.ownsRow W.heap.size 193 5 (.slice ro rows.length rc) rows.length (Zak rows)
 nds:Nds w l (fun q=>W.heap.size≤q∧q<w.heap.size∧(Value.slice ro rows.length rc).ownBlock≠some q) a k rows
 low:Below W.heap.size W w
theorem ZmM.old {W w w':World}{l:List In3}{a k:Nat}{ro:Option Addr}{rc:Nat}{rows:List VN} (H:ZmM W w l a k ro rc rows) (hb:Below w.heap.size w w'):ZmM W w' l a k ro rc rows:=
 ⟨ZhI H.own fun k f=>hb.block k (H.own.lt k f).2,(H.nds.old hb).weak fun q d=>⟨d.1,Nat.lt_of_lt_of_le d.2.1 hb.size,d.2.2⟩,Zaf H.low hb⟩
theorem ZmM.push {W w w2:World}{l:List In3}{a k k':Nat}{ro ao:Option Addr}{rc cap:Nat}{rows:List VN} (H:ZmM W w l a k ro rc rows) (x:VN)
  (hx:Nds w l (fun q=>W.heap.size≤q∧q<w.heap.size∧(Value.slice ro rows.length rc).ownBlock≠some q) a k' (rows++[x]))
  (hown:w2.ownsRow W.heap.size 193 5 (.slice ao (rows.length+1) cap) (rows.length+1) (Zak rows++Zak [x])) (hg:w.grownBy w2 (Value.slice ro rows.length rc).ownBlock)
  (hat:(Value.slice ao (rows.length+1) cap).ownBlock=(Value.slice ro rows.length rc).ownBlock∨(Value.slice ao (rows.length+1) cap).ownBlock=some w.heap.size):ZmM W w2 l a k' ao cap (rows++[x]):=by
 have d:(rows++[x]).length=rows.length+1:=by simp
 refine ⟨by rw [d,Zan];exact hown,hx.grow hg fun q f i j=>⟨f,Nat.lt_of_lt_of_le i hg.size,?_⟩,ZcV H.low hg fun q m=>(H.own.lt q m).1⟩;rw [d];rcases hat with e|e
 ·rw [e];exact j
 ·rw [e];intro q;cases q;omega
theorem ZmN {w w':World}{K B:Nat}{ao:Option Addr}{c:Nat}{L:List VN} (h:Zar w ao c L) (o:Upd K B w w') (d:∀ f,ao=some f→f.block≠K∧f.block≠B):Zar w' ao c L:=
 ⟨h.1,h.2.1,fun j u k=>by
  obtain ⟨a,i,m⟩:=h.2.2 j u k
  exact ⟨a,i,(World.cell?_of_block (w:=w) (o.block _ (Zac m) (by rw [Zag];exact (d a i).1) (by rw [Zag];exact (d a i).2))).trans m⟩⟩
theorem ZmO {W w i f w6:World}{l:List In3}{a k x y B:Nat}{m r:Option Addr}{j p:Nat}{d F:List VN} (H:ZmM W w l a k m j d) (G:w.heap.size≤i.heap.size) (D:B<i.heap.size)
  (hF:f.ownsRow i.heap.size 193 5 (.slice r F.length p) F.length (Zak F)∧Nds f l (fun q=>i.heap.size≤q∧q<f.heap.size) x y F) (v:Upd B B f w6) :
  Zar w6 r p F∧(Lie (fun q=>W.heap.size≤q∧q<w6.heap.size∧(Value.slice m d.length j).ownBlock≠some q) r∧F.length≤p)∧Nds w6 l (fun q=>W.heap.size≤q∧q<w6.heap.size∧(Value.slice m d.length j).ownBlock≠some q) x y F:=by
 have E:=H.low.size;have A:∀ q,i.heap.size≤q∧q<f.heap.size→W.heap.size≤q∧q<w6.heap.size∧(Value.slice m d.length j).ownBlock≠some q:=fun q C=>⟨by omega,Nat.lt_of_lt_of_le C.2 v.size,fun e=>by have:=(H.own.lt q e).2;omega⟩;have u:=ZmA hF.1;have s:∀ (ao:Option Addr) (c:Nat) (L:List VN),Zar f ao c L→Lie (fun q=>i.heap.size≤q∧q<f.heap.size) ao→Zar w6 ao c L∧Lie (fun q=>W.heap.size≤q∧q<w6.heap.size∧(Value.slice m d.length j).ownBlock≠some q) ao:=
  fun ao c L z t=>⟨ZmN z v fun o e=>by have:=(t o e).1;omega,fun o e=>A _ (t o e)⟩
 exact ⟨(s _ _ _ (Zar.of_own hF.1) u).1,⟨(s _ _ _ (Zar.of_own hF.1) u).2,ZmB hF.1⟩,hF.2.keep s⟩
theorem ZmP (l:List In3) (ao:Option Addr) (aj a b:Nat) (w:World) (hl:Zar w ao aj l) (hv:ZaV false l=0) (hs:Seg l a b)
  (ih:∀ a' b' w',Seg l a' b'→a<a'→b' < b→Below w.heap.size w w'→Calls Tryz.prog 104 #[.slice ao l.length aj,.int .i64 a',.int .i64 b'] w' (Zmz w' l a' b')) :
  Calls Tryz.prog 104 #[.slice ao l.length aj,.int .i64 a,.int .i64 b] w (Zmz w l a b):=by
 have bt:=(ZmF hv).1;have bn:=Zmo hs;have HL:=Zh (fun k (hk:k<l.length) w' hb=>ZaA (Zar.old hl (w':=w') hb) hk);have ag:=Zh (fun w' hb k en alt O=>ZmH l ao aj w' (Zar.old hl (w':=w') hb) hv (k:=k) (en:=en) (alt:=alt) O);have bb:=Zh hs;have HI:=Zh ih;clear hl hv hs ih;go_enter Tryz.func104,Tryz.ntmps104;go_wp2
 go_loopw [7,8] (fun o i wr=>∃ (k:Nat) (ro:Option Addr) (rc:Nat) (f:List VN),i=.int .i64 k∧o=.slice ro f.length rc∧a≤k∧k≤b∧f.length≤k∧Hid (Seg l k b)∧Hid (ZmM w wr l a k ro rc f)) (fun _ i _=>b-(intOf i).toNat)
 case atStart=>exact ⟨a,none,0,[],rfl,rfl,Nat.le_refl _,bn.1,Nat.zero_le _,bb,⟨World.ownsRow_nil _ _ _ _,.nil _ (by omega),Below.refl _ _⟩⟩
 case round=>
  obtain ⟨k,ro,rc,f,rfl,rfl,bA,bB,bF,HS,x⟩:=hrel;rcases ZmK HS.out with hq|⟨hkb2,aF,aT,aU,H⟩|⟨en,O,hken,henb,H,Z⟩|⟨n,en,O,hkn,hnen,henb,H,Z,a0⟩
  ·have bD:¬ (k:Int) < b:=by omega
   clear HI ag HL;go_wp2;go_ret;obtain rfl:b=k:=hq.symm;exact ⟨ro,rc,f,rfl,x.out.own,x.out.nds.weak fun _ h=>⟨h.1,h.2.1⟩,x.out.low⟩
  ·have N:k<l.length:=by omega
   have an:(k:Int) < b:=by omega
   have ap:(k:Int) < l.length:=by omega
   have m:IntKind.i64.wrap ((k:Int)+1)=k+1:=IntWalk.i64_in _ (by omega);have HW:=Zh m;have HP:=Zh (And.intro aF (And.intro aT (And.intro aU H)));obtain ⟨ad,rfl,o0,-,-⟩:=HL.out k N wr x.out.low;obtain ⟨op,j⟩:∃ o,o=(l.getD k default).op:=⟨_,rfl⟩;rw [←j] at o0;have HO:=Zh (show ZaR op=false by rw [j];exact aF);have aY:=Zac o0;have bv:=Zh (Blk.new wr #[.int .i64 k,.int .i64 (-1),.int .i64 (-1),.slice none 0 0,.slice none 0 0] 193);have aw:=Zh (show Below wr.heap.size wr ((wr.alloc (.cells #[.int .i64 k,.int .i64 (-1),.int .i64 (-1),.slice none 0 0,.slice none 0 0] 193)).alloc (.cells #[.int .i64 k,.int .i64 (-1),.int .i64 (-1),.slice none 0 0,.slice none 0 0] 193)) by exact bE);clear m aF aT aU H j HI ag
   go_wp2_with (first
    | (go_at_call 162;refine (ZcP _ _).mono ?_;rintro e w2 ⟨rfl,rfl⟩;rw [HO.out])
    | (at_builtin;refine ZmI rfl (.tmp 60) (.tmp 62) 140 rfl w.heap.size 193 5 72 ZmJ (.slice ro f.length rc) f.length (Zak f) rfl (x.out.old aw.out).own ⟨wr.heap.size+1,0,none⟩ 1 1 (Zak [(⟨k,-1,-1,none,0,0,none,0,0⟩:VN)]) rfl (ZmL _ _ _ (by simp) ⟨rfl,rfl⟩) (Zaq _) (by omega) (by unfold maxLen;omega) (by have:=x.out.low.size;simp;omega) (by decide) ?_;intro W C w2 aG bi aV))
   go_roundw
   case rel=>
    refine ⟨k+1,W,C,f++[⟨k,-1,-1,none,0,0,none,0,0⟩],rfl,by simp,by omega,by omega,by simp;omega,HP.out.2.2.2,?_⟩;exact (x.out.old aw.out).push _ ((x.out.old aw.out).nds.snoc_pl N HP.out.1 HP.out.2.1 HP.out.2.2.1) aG bi aV
   case measure=>simp [intOf];omega
  ·have N:=O.1;have an:(k:Int) < b:=by omega
   have ap:(k:Int) < l.length:=by omega
   have m:IntKind.i64.wrap ((k:Int)+1)=((k+1:Nat):Int):=IntWalk.i64_in _ (by omega);have ae:IntKind.i64.wrap ((en:Int)+1)=((en+1:Nat):Int):=IntWalk.i64_in _ (by omega);have HW:=Zh (And.intro m ae);have aB:=Zh O;have M:=Zh (And.intro H Z);obtain ⟨ad,rfl,o0,-,-⟩:=HL.out k N wr x.out.low;obtain ⟨op,j⟩:∃ o,o=(l.getD k default).op:=⟨_,rfl⟩;rw [←j] at o0;have HO:=Zh (show ZaR op=true by rw [j];exact O.2.1);have aY:=Zac o0;obtain ⟨B,hB⟩:∃ B,B=wr.heap.size:=⟨_,rfl⟩;have A:=Zh hB;have aD:=Zh (Blk.new' (w:=wr) #[.int .i64 k,.int .i64 (-1),.int .i64 (-1),.slice none 0 0,.slice none 0 0] 193 hB);have T:=Zh (show Below wr.heap.size wr (wr.alloc (.cells #[.int .i64 k,.int .i64 (-1),.int .i64 (-1),.slice none 0 0,.slice none 0 0] 193)) by exact bE);have HC:=Zh (ag.out _ (Zaf x.out.low T.out) k en (-1) O);clear m ae O H Z j hB
   go_upto_region 8 with (first
    | (go_at_call 162;refine (ZcP _ _).mono ?_;rintro e w2 ⟨rfl,rfl⟩;rw [HO.out])
    | (go_at_call 163;refine HC.out.mono ?_;rintro e w2 ⟨rfl,K⟩;have ax:=Zh (Zaf T.out K);have q:=Zh (aD.out.old K);clear K;rw [←A.out];have x1:=q.out.cell 1 (v:=.int .i64 (-1)) rfl;have x2:=q.out.cell 2 (v:=.int .i64 (-1)) rfl;have f1:=q.out.frozen 1;have f2:=q.out.frozen 2))
   obtain ⟨w3,z⟩:∃ w3,w3=(w2.setCell ⟨B,1,none⟩ (.int .i64 (-1))).setCell ⟨B,2,none⟩ (.int .i64 en):=⟨_,rfl⟩;have u:=Zh (show Blk w3 B #[.int .i64 k,.int .i64 (-1),.int .i64 en,.slice none 0 0,.slice none 0 0] 193 by rw [z];exact (q.out.set 1 _).set 2 _);have I:=Zh (show Below wr.heap.size wr w3 by rw [z];have:=A.out;exact ZcW (ZcW ax.out (by omega) _) (by omega) _);rw [←z];clear x1 x2 f1 f2 z;have y1:=u.out.cell 1 (v:=.int .i64 (-1)) rfl;have y2:=u.out.cell 2 (v:=.int .i64 en) rfl;have m:=HW.out.1
   go_upto_region 11 with (first
    | (go_at_call 104;refine (HI.out (k+1) en _ M.out.1 (by omega) henb (Zaf x.out.low I.out)).mono ?_;rintro e w4 ⟨E,D,F,rfl,s,G,L⟩;have aA:=Zh (And.intro s G);have U:=Zh (Zaf I.out L);have y:=Zh (u.out.old L);have HZ:=Zh I.out.size;clear s G L y1 y2;have y3:=y.out.cell 3 (v:=.slice none 0 0) rfl;have f3:=y.out.frozen 3))
   obtain ⟨R,aa⟩:∃ R,R=w4.setCell ⟨B,3,none⟩ (.slice E F.length D):=⟨_,rfl⟩;have r:=Zh (show Blk R B #[.int .i64 k,.int .i64 (-1),.int .i64 en,.slice E F.length D,.slice none 0 0] 193 by rw [aa];exact y.out.set 3 _);have bc:=Zh (show Upd B B w4 R by rw [aa];exact (Upd.refl B B w4).set 3 _);have ay:=Zh (show Below wr.heap.size wr R by rw [aa];have:=A.out;exact ZcW U.out (by omega) _);rw [←aa];clear y3 f3 aa m;have y0:=r.out.cell 0 (v:=.int .i64 k) rfl;have y1:=r.out.cell 1 (v:=.int .i64 (-1)) rfl;have y2:=r.out.cell 2 (v:=.int .i64 en) rfl;have y3:=r.out.cell 3 (v:=.slice E F.length D) rfl;have y4:=r.out.cell 4 (v:=.slice none 0 0) rfl;have az:=Zh (show Below wr.heap.size wr (R.alloc (.cells #[.int .i64 k,.int .i64 (-1),.int .i64 en,.slice E F.length D,.slice none 0 0] 193)) by have:=ay.out;exact bE);have ah:=Zh (x.out.old az.out);have m:=HW.out.2
   go_wp2_with (at_builtin;refine ZmI rfl (.tmp 60) (.tmp 62) 140 rfl w.heap.size 193 5 72 ZmJ (.slice ro f.length rc) f.length (Zak f) rfl ah.out.own ⟨R.heap.size,0,none⟩ 1 1 (Zak [(⟨k,-1,en,E,F.length,D,none,0,0⟩:VN)]) rfl (ZmL _ _ _ (by simp) ⟨rfl,rfl⟩) (Zaq _) (by omega) (by unfold maxLen;omega) (by have:=ah.out.low.size;simp at this ⊢;omega) (by decide) ?_;intro W C w7 aH bj aW)
   go_roundw
   case rel=>
    refine ⟨en+1,W,C,f++[⟨k,-1,en,E,F.length,D,none,0,0⟩],rfl,by simp,by omega,by omega,by simp;omega,M.out.2,?_⟩;have hz:=HZ.out;have hp:=ZmO (w6:=R.alloc (.cells #[.int .i64 k,.int .i64 (-1),.int .i64 en,.slice E F.length D,.slice none 0 0] 193)) x.out hz u.out.lt aA.out (bc.out.alloc _);exact ah.out.push _ (ah.out.nds.snoc_one aB.out hp.1 hp.2.1 hp.2.2) aH bj aW
   case measure=>simp [intOf];omega
  ·have N:=O.1;have an:(k:Int) < b:=by omega
   have ap:(k:Int) < l.length:=by omega
   have m:IntKind.i64.wrap ((k:Int)+1)=((k+1:Nat):Int):=IntWalk.i64_in _ (by omega);have ae:IntKind.i64.wrap ((en:Int)+1)=((en+1:Nat):Int):=IntWalk.i64_in _ (by omega);have al:IntKind.i64.wrap ((n:Int)+1)=((n+1:Nat):Int):=IntWalk.i64_in _ (by omega);have HW:=Zh (And.intro m (And.intro ae al));have aB:=Zh O;have M:=Zh (And.intro H (And.intro Z a0));obtain ⟨ad,rfl,o0,-,-⟩:=HL.out k N wr x.out.low;obtain ⟨op,j⟩:∃ o,o=(l.getD k default).op:=⟨_,rfl⟩;rw [←j] at o0;have HO:=Zh (show ZaR op=true by rw [j];exact O.2.1);have aY:=Zac o0;obtain ⟨B,hB⟩:∃ B,B=wr.heap.size:=⟨_,rfl⟩;have A:=Zh hB;have aD:=Zh (Blk.new' (w:=wr) #[.int .i64 k,.int .i64 (-1),.int .i64 (-1),.slice none 0 0,.slice none 0 0] 193 hB);have T:=Zh (show Below wr.heap.size wr (wr.alloc (.cells #[.int .i64 k,.int .i64 (-1),.int .i64 (-1),.slice none 0 0,.slice none 0 0] 193)) by exact bE);have HC:=Zh (ag.out _ (Zaf x.out.low T.out) k en n O);clear m ae al O H Z a0 j hB
   go_upto_region 8 with (first
    | (go_at_call 162;refine (ZcP _ _).mono ?_;rintro e w2 ⟨rfl,rfl⟩;rw [HO.out])
    | (go_at_call 163;refine HC.out.mono ?_;rintro e w2 ⟨rfl,K⟩;have ax:=Zh (Zaf T.out K);have q:=Zh (aD.out.old K);clear K;rw [←A.out];have x1:=q.out.cell 1 (v:=.int .i64 (-1)) rfl;have x2:=q.out.cell 2 (v:=.int .i64 (-1)) rfl;have f1:=q.out.frozen 1;have f2:=q.out.frozen 2))
   obtain ⟨w3,z⟩:∃ w3,w3=(w2.setCell ⟨B,1,none⟩ (.int .i64 n)).setCell ⟨B,2,none⟩ (.int .i64 en):=⟨_,rfl⟩;have u:=Zh (show Blk w3 B #[.int .i64 k,.int .i64 n,.int .i64 en,.slice none 0 0,.slice none 0 0] 193 by rw [z];exact (q.out.set 1 _).set 2 _);have I:=Zh (show Below wr.heap.size wr w3 by rw [z];have:=A.out;exact ZcW (ZcW ax.out (by omega) _) (by omega) _);rw [←z];clear x1 x2 f1 f2 z;have y1:=u.out.cell 1 (v:=.int .i64 n) rfl;have y2:=u.out.cell 2 (v:=.int .i64 en) rfl;have m:=HW.out.1;have al:=HW.out.2.2;have bC:¬ (n:Int) < 0:=by omega
   go_upto_region 10 with fail
   refine rO (Cs [(⟨B,1,none⟩,.int .i64 n),(⟨B,2,none⟩,.int .i64 en)]) (oL [0,1,2,3,4,6,7,8,9,10,11,105,13,112,114,15,116]) ⟨y1,y2,trivial⟩ ?_
   repeat refine pO ?_
   refine oO fun Kv X=>?_;go_simp;refine (HI.out (k+1) n _ M.out.1 (by omega) (by omega) (Zaf x.out.low I.out.drew)).mono ?_;rintro e w4 ⟨E,D,F,rfl,s,G,L⟩;have aA:=Zh (And.intro s G);have U:=Zh (Zaf I.out.drew L);have y:=Zh (u.out.old (Zaf (Below.refl _ _).drew L));refine X _ _ ⟨⟨y.out.cell 1 rfl,y.out.cell 2 rfl,trivial⟩,?_⟩;clear X Kv s G L y1 y2
   repeat refine pO ?_
   refine oO fun Kv X=>?_;go_simp;refine (HI.out (n+1) en _ M.out.2.1 (by omega) henb (Zaf x.out.low U.out)).mono ?_;rintro e R ⟨so,sc,S,rfl,Y,aq,ak⟩;have ba:=Zh (And.intro Y aq);have aP:=Zh ak;have ay:=Zh (Zaf U.out ak);have r:=Zh (y.out.old ak);refine X _ _ ⟨⟨r.out.cell 1 rfl,r.out.cell 2 rfl,trivial⟩,?_⟩;clear X Kv Y aq ak;have y3:=r.out.cell 3 (v:=.slice none 0 0) rfl;have f3:=r.out.frozen 3;refine oO fun Kv X=>?_;go_simp;obtain ⟨w6,ab⟩:∃ w6,w6=R.setCell ⟨B,3,none⟩ (.slice E F.length D):=⟨_,rfl⟩;have V:=Zh (show Blk w6 B #[.int .i64 k,.int .i64 n,.int .i64 en,.slice E F.length D,.slice none 0 0] 193 by rw [ab];exact r.out.set 3 _);have bd:=Zh (show Upd B B R w6 by rw [ab];exact (Upd.refl B B R).set 3 _);have az:=Zh (show Below wr.heap.size wr w6 by rw [ab];have:=A.out;exact ZcW ay.out (by omega) _);rw [←ab];refine X _ _ ⟨⟨V.out.cell 1 rfl,V.out.cell 2 rfl,trivial⟩,?_⟩;clear X Kv y3 f3 ab
   repeat refine pO ?_
   have y4:=V.out.cell 4 (v:=.slice none 0 0) rfl;have f4:=V.out.frozen 4;refine oO fun Kv X=>?_;go_simp;obtain ⟨w7,ac⟩:∃ w7,w7=w6.setCell ⟨B,4,none⟩ (.slice so S.length sc):=⟨_,rfl⟩;have J:=Zh (show Blk w7 B #[.int .i64 k,.int .i64 n,.int .i64 en,.slice E F.length D,.slice so S.length sc] 193 by rw [ac];exact V.out.set 4 _);have aS:=Zh (show Upd B B R w7 by rw [ac];exact bd.out.set 4 _);have a7:=Zh (show Below wr.heap.size wr w7 by rw [ac];have:=A.out;exact ZcW az.out (by omega) _);rw [←ac];refine X _ _ ⟨⟨J.out.cell 1 rfl,J.out.cell 2 rfl,trivial⟩,?_⟩;clear X Kv y4 f4 ac m al;refine Zd5 ?_;have y0:=J.out.cell 0 (v:=.int .i64 k) rfl;have y1:=J.out.cell 1 (v:=.int .i64 n) rfl;have y2:=J.out.cell 2 (v:=.int .i64 en) rfl;have y3:=J.out.cell 3 (v:=.slice E F.length D) rfl;have y4:=J.out.cell 4 (v:=.slice so S.length sc) rfl;have a8:=Zh (show Below wr.heap.size wr (w7.alloc (.cells #[.int .i64 k,.int .i64 n,.int .i64 en,.slice E F.length D,.slice so S.length sc] 193)) by have:=a7.out;exact bE);have ai:=Zh (x.out.old a8.out);have m:=HW.out.2.1
   go_wp2_with (at_builtin;refine ZmI rfl (.tmp 60) (.tmp 62) 140 rfl w.heap.size 193 5 72 ZmJ (.slice ro f.length rc) f.length (Zak f) rfl ai.out.own ⟨w7.heap.size,0,none⟩ 1 1 (Zak [(⟨k,n,en,E,F.length,D,so,S.length,sc⟩:VN)]) rfl (ZmL _ _ _ (by simp) ⟨rfl,rfl⟩) (Zaq _) (by omega) (by unfold maxLen;omega) (by have:=ai.out.low.size;simp at this ⊢;omega) (by decide) ?_;intro W C w9 aI bk aX)
   go_roundw
   case rel=>
    refine ⟨en+1,W,C,f++[⟨k,n,en,E,F.length,D,so,S.length,sc⟩],rfl,by simp,by omega,by omega,by simp;omega,M.out.2.2,?_⟩;have h3:=u.out.lt;have h4:=y.out.lt;have hp:=ZmO (w6:=w7.alloc (.cells #[.int .i64 k,.int .i64 n,.int .i64 en,.slice E F.length D,.slice so S.length sc] 193)) x.out I.out.size u.out.lt aA.out (((Upd.of aP.out).trans aS.out).alloc _);have hq:=ZmO (w6:=w7.alloc (.cells #[.int .i64 k,.int .i64 n,.int .i64 en,.slice E F.length D,.slice so S.length sc] 193)) x.out U.out.size y.out.lt ba.out (aS.out.alloc _);exact ai.out.push _ (ai.out.nds.snoc_two aB.out hp.1 hp.2.1 hp.2.2 hq.1 hq.2.1 hq.2.2) aI bk aX
   case measure=>simp [intOf];omega
theorem ZmQ (l:List In3) (ao:Option Addr) (d:Nat) (i:ZaV false l=0):∀ (n a b:Nat) (w:World),b-a≤n→Zar w ao d l→Seg l a b →
  Calls Tryz.prog 104 #[.slice ao l.length d,.int .i64 a,.int .i64 b] w (Zmz w l a b)
 | 0,a,b,w,hn,hl,hs=>ZmP l ao d a b w hl i hs fun j k o f p q m=>by have:=(Zmo f).1;omega
 | n+1,a,b,w,hn,hl,hs=>ZmP l ao d a b w hl i hs fun j k o f p q m=>ZmQ l ao d i n j k o (by have:=(Zmo f).1;omega) (Zar.old hl m) f
end
section
def ZmR:Int:=1000000001
def ZmS (a b:Int):Int:=min (a+b) ZmR
def ZmT (a b:Int):Int:=min (a*b) ZmR
def ZmU (i:In3):Int:=((opC.getD i.op.toNat 0:Nat):Int)+if i.op=15∨i.op=16 then i.a else 0
structure Ms where
 wt:In3→Int
 tl:Int
 sc:Bool
def ZmV:Ms:=⟨ZmU,1,false⟩
def ZmW (T:Int→Int) (l:List Int):Int:=l.foldl (fun a t=>max a (T t)) 0
def gW (x:Ms) (m:Md) (T:Int→Int):Wg where
 plus:=ZmS
 pl i:=if i.op=25 then ZmS (x.wt i) (T i.a) else if i.op=26 then ZmS (x.wt i) (ZmW T (ZaN m i.a)) else x.wt i
 brk i f s:=if i.op=29 then ZmS (x.wt i) (max (ZmS f x.tl) (ZmS s x.tl)) else if i.op=30 then ZmS (x.wt i) (ZmT i.a (ZmS f x.tl)) else if i.op=32∧x.sc=true then x.wt i else if i.op=33 then ZmS (x.wt i) (ZmS (ZmS f x.tl) s) else ZmS (x.wt i) (ZmS f x.tl)
def ZmX (a b:Int):Int:=if a<0∨b<0 then -1 else ZmS a b
def ZmY (a b:Int):Int:=if a<0 then b else if b<0 then a else min a b
def ZmZ (T:Int→Int) (l:List Int):Int:=l.foldl (fun a t=>ZmY a (T t)) (match l with|[]=>0|t :: _=>T t)
def gL (m:Md) (T:Int→Int):Wg where
 plus:=ZmX
 pl i:=if i.op=25 then ZmX (ZmU i) (T i.a) else if i.op=26 then ZmX (ZmU i) (ZmZ T (ZaN m i.a)) else if i.op=28 then -1 else ZmU i
 brk i f s:=if i.op=29∨i.op=33 then ZmX (ZmU i) (ZmX (ZmY f s) 1) else if i.op=30 then ZmU i else ZmX (ZmU i) (ZmX f 1)
def Zm0 (G:(Int→Int)→Wg) (m:Md):Nat→List Int
 | 0=>[]
 | k+1=>Zm0 G m k++[WA (G fun t=>(Zm0 G m k).getD t.toNat 0) (m.me.getD k default).k 0 (m.me.getD k default).k.length 0]
def Zm1 (G:(Int→Int)→Wg) (m:Md) (k:Nat):Int:=(Zm0 G m (k+1)).getD k 0
theorem Zm2 (G:(Int→Int)→Wg) (m:Md):∀ k,(Zm0 G m k).length=k
 | 0=>rfl
 | k+1=>by unfold Zm0;simp [Zm2 G m k]
theorem Zm3 (G:(Int→Int)→Wg) (m:Md) {j k:Nat} (h:j<k):(Zm0 G m k).getD j 0=Zm1 G m j:=by
 induction k with
 | zero=>omega
 |succ k ih=>
  by_cases hj:j=k
  ·subst hj;rfl
  ·conv=>lhs;unfold Zm0
   rw [List.getD_eq_getElem?_getD,List.getElem?_append_left (by rw [Zm2];omega),←List.getD_eq_getElem?_getD];exact ih (by omega)
theorem Zm4 {g g':Wg}{l:List In3}{a b:Nat} (h:Seg l a b) (d:g.plus=g'.plus) (f:g.brk=g'.brk) (j:∀ i∈l,g.pl i=g'.pl i):∀ acc,WA g l a b acc=WA g' l a b acc:=by
 induction h with
 | nil a h=>intro acc;rw [Zmv,Zmv]
 |pl a b q1 q2 q3 q4 q5 ih=>
  intro acc;rw [Zmw q2 q5,Zmw q2 q5,ih,d,j _ (by rw [List.getD_eq_getElem?_getD,List.getElem?_eq_getElem q1];exact List.getElem_mem q1)]
 | one a en b q1 q2 q3 i1 i2=>intro acc;rw [Zmx q1 q2 q3,Zmx q1 q2 q3,i1,i2,d,f]
 | two a n en b q1 q2 q3 q4 i1 i2 i3=>intro acc;rw [Zmy q1 q2 q3 q4,Zmy q1 q2 q3 q4,i1,i2,i3,d,f]
theorem Zm5 {G:(Int→Int)→Wg}{m:Md}{k:Nat} (p:Seg (m.me.getD k default).k 0 (m.me.getD k default).k.length) {T:Int→Int} (o:∀ S d,(G S).plus=(G d).plus) (f:∀ S d,(G S).brk=(G d).brk)
  (j:∀ i∈(m.me.getD k default).k,(G fun t=>(Zm0 G m k).getD t.toNat 0).pl i=(G T).pl i):Zm1 G m k=WA (G T) (m.me.getD k default).k 0 (m.me.getD k default).k.length 0:=by
 unfold Zm1 Zm0;rw [List.getD_eq_getElem?_getD,List.getElem?_append_right (by rw [Zm2];omega),Zm2,Nat.sub_self];exact Zm4 p (o _ _) (f _ _) j 0
theorem Zm6 {T T':Int→Int}{l:List Int} (h:∀ t∈l,T t=T' t):ZmW T l=ZmW T' l:=by
 unfold ZmW;generalize (0:Int)=a
 induction l generalizing a with
 | nil=>rfl
 | cons x r ih=>rw [List.foldl_cons,List.foldl_cons,h x (by simp)];exact ih (fun t d=>h t (by simp [d])) _
theorem Zm7 {T T':Int→Int}{l:List Int} (h:∀ t∈l,T t=T' t):ZmZ T l=ZmZ T' l:=by
 have:∀ (l:List Int) (a:Int),(∀ t∈l,T t=T' t)→l.foldl (fun a t=>ZmY a (T t)) a=l.foldl (fun a t=>ZmY a (T' t)) a:=by
  intro l
  induction l with
  | nil=>intro a _;rfl
  | cons x r ih=>intro a h;rw [List.foldl_cons,List.foldl_cons,h x (by simp)];exact ih _ (fun t d=>h t (by simp [d]))
 unfold ZmZ;cases l with
 | nil=>rfl
 | cons x r=>dsimp only;rw [h x (by simp)];exact this _ _ h
end
