/- Joined texts. The first: Where an opening's else and end stand, computed; what a stretch of code weighs. -/
import Derived.Test.YtcfjblcgceednaaGreatG10
set_option linter.all false
set_option linter.unusedVariables false
set_option linter.unusedSimpArgs false
set_option maxRecDepth 100000
set_option maxHeartbeats 8000000
namespace Go.Proofs.YtcfjblcgceednaaGreat
section
def mtF (l:List In3):Nat→Nat→Nat→Int→Int × Nat
 | 0,_,_,_=>(-1,0)
 |f+1,d,p,alt=>
  if ZaR (l.getD p default).op=true then mtF l f (d+1) (p+1) alt
  else if (l.getD p default).op=34 then mtF l f d (p+1) (if d=0 then (p:Int) else alt)
  else if (l.getD p default).op=35 then (match d with
   | 0=>(alt,p)
   | e+1=>mtF l f e (p+1) alt)
  else mtF l f d (p+1) alt
def mtV (l:List In3) (o:Nat):Int × Nat:=mtF l l.length 0 (o+1) (-1)
theorem Zml {l:List In3} (alt:Int):∀ (n p f:Nat) (S T:List Br) (D D':Nat),p+n≤l.length→n≤f→ZaT (S,D) ((l.drop p).take n)=some (T,D')→mtF l f S.length p alt=mtF l (f-n) T.length (p+n) alt
 | 0,p,f,S,T,D,D',_,_,h=>by cases h;rfl
 |n+1,p,f,S,T,D,D',hp,hf,h=>by
  obtain ⟨f,rfl⟩:∃ g,f=g+1:=⟨f-1,by omega⟩
  rw [List.drop_eq_getElem_cons (by omega),List.take_succ_cons] at h
  unfold ZaT at h
  have hx:l[p]'(by omega)=l.getD p default:=by simp [show p<l.length by omega]
  rw [hx] at h
  split at h
  ·cases h
  ·rename_i t ht
   obtain ⟨U,D2⟩:=t
   have ih:=Zml alt n (p+1) f U T D2 D' (by omega) (by omega) h
   rw [show f+1-(n+1)=f-n by omega,show p+(n+1)=p+1+n by omega,←ih]
   unfold ZaS at ht
   conv=>lhs;unfold mtF
   split at ht
   ·rename_i ho
    rw [if_pos ho]
    cases ht
    rfl
   ·rename_i ho
    rw [if_neg ho]
    split at ht
    ·rename_i h34
     rw [if_pos h34]
     cases S with
     | nil=>cases ht
     |cons b r=>
      dsimp only at ht
      split at ht
      ·cases ht
       rw [if_neg (by simp)]
       rfl
      ·cases ht
    ·rename_i h34
     rw [if_neg h34]
     split at ht
     ·rename_i h35
      rw [if_pos h35]
      cases S with
      | nil=>cases ht
      |cons b r=>
       dsimp only at ht
       split at ht
       ·cases ht
       ·cases ht
        rfl
     ·rename_i h35
      rw [if_neg h35]
      cases ht
      rfl
theorem Zmm {l:List In3}{a b d f:Nat} (alt:Int) (h:Za7 l a b d) (hf:b-a≤f):mtF l f 0 a alt=mtF l (f-(b-a)) 0 b alt:=by
 obtain ⟨h1,h2,h3⟩:=h [] 0 (Nat.le_refl _)
 have:=Zml alt (b-a) a f [] [] 0 _ (by omega) hf h3
 rw [show a+(b-a)=b by omega] at this
 exact this
theorem Zmn {l:List In3}{o en:Nat}{alt:Int} (h:Mat l o alt en):mtV l o=(alt,en):=by
 have hlt:=ZbI h
 obtain ⟨h0,h1,h2,h3,h4⟩:=h
 have hend:∀ f (x:Int),0<f→mtF l f 0 en x=(x,en):=fun f x hf=>by
  obtain ⟨g,rfl⟩:∃ g,f=g+1:=⟨f-1,by omega⟩
  unfold mtF
  rw [if_neg (by rw [Zbf (.inr h3)];decide),if_neg (by omega),if_pos h3]
 unfold mtV
 rcases h4 with ⟨rfl,h5,d,h6⟩|⟨n,rfl,h5,h6,h7,⟨d,h8⟩,i,h9⟩
 ·have:=Za9 h6
  rw [Zmm (-1) h6 (by omega),hend _ _ (by omega)]
 ·have g1:=Za9 h8
  have g2:=Za9 h9
  rw [Zmm (-1) h8 (by omega)]
  obtain ⟨f,hf⟩:∃ f,l.length-(n-(o+1))=f+1:=⟨l.length-(n-(o+1))-1,by omega⟩
  rw [hf]
  conv=>lhs;unfold mtF
  rw [if_neg (by rw [Zbf (.inl h6)];decide),if_pos h6,if_pos rfl,Zmm (n:Int) h9 (by omega),hend _ _ (by omega)]
structure Wg where
 plus:Int→Int→Int
 pl:In3→Int
 brk:In3→Int→Int→Int
def wL (g:Wg) (l:List In3):Nat→Nat→Nat→Int→Int
 | 0,_,_,acc=>acc
 |f+1,a,b,acc=>
  if a<b then
   if ZaR (l.getD a default).op=true then
    wL g l f ((mtV l a).2+1) b (g.plus acc (g.brk (l.getD a default) (wL g l f (a+1) (if (mtV l a).1<0 then (mtV l a).2 else (mtV l a).1.toNat) 0) (if (mtV l a).1<0 then 0 else wL g l f ((mtV l a).1.toNat+1) (mtV l a).2 0)))
   else wL g l f (a+1) b (g.plus acc (g.pl (l.getD a default)))
  else acc
end
section
inductive Seg (l:List In3):Nat→Nat→Prop
 | nil (a:Nat):a≤l.length→Seg l a a
 | pl (a b:Nat):a<l.length→ZaR (l.getD a default).op=false→(l.getD a default).op≠34→(l.getD a default).op≠35→Seg l (a+1) b→Seg l a b
 | one (a en b:Nat):Mat l a (-1) en→Seg l (a+1) en→Seg l (en+1) b→Seg l a b
 | two (a n en b:Nat):Mat l a n en→Seg l (a+1) n→Seg l (n+1) en→Seg l (en+1) b→Seg l a b
theorem Zmo {l:List In3}{a b:Nat} (h:Seg l a b):a≤b∧b≤l.length:=by
 induction h with
 | nil a h=>exact ⟨Nat.le_refl _,h⟩
 | pl a b h1 h2 h3 h4 h5 ih=>omega
 | one a en b h1 h2 h3 i1 i2=>have:=ZbI h1;omega
 | two a n en b h1 h2 h3 h4 i1 i2 i3=>have:=ZbI h1;omega
theorem Zmp (l:List In3):∀ (n a:Nat) (S:List Br) (D D':Nat),l.length-a≤n→a≤l.length→ZaT (S,D) (l.drop a)=some ([],D') →
  ∃ b d E,Seg l a b∧Za7 l a b d∧ZaT (S,E) (l.drop b)=some ([],D')∧((b=l.length∧S=[])∨(b<l.length∧((l.getD b default).op=34∨(l.getD b default).op=35)))
 |n,a,S,D,D',hn,ha,h=>by
  by_cases hal:a=l.length
  ·refine ⟨a,0,D,.nil a ha,Zba ha,h,.inl ⟨hal,?_⟩⟩
   rw [hal,List.drop_length] at h
   cases h
   rfl
  have hal2:a<l.length:=by omega
  obtain ⟨n,rfl⟩:∃ k,n=k+1:=⟨n-1,by omega⟩
  have hst:∀ (S:List Br) (D b:Nat),b<l.length→ZaT (S,D) (l.drop b)=some ([],D')→∃ T E,ZaS (S,D) (l.getD b default)=some (T,E)∧ZaT (T,E) (l.drop (b+1))=some ([],D'):=fun S D b hb h=>by
   have hx:l[b]=l.getD b default:=by simp [hb]
   rw [List.drop_eq_getElem_cons hb,hx] at h
   unfold ZaT at h
   split at h
   ·cases h
   ·rename_i t ht
    exact ⟨t.1,t.2,ht,h⟩
  obtain ⟨T,E,h1,h2⟩:=hst _ _ _ hal2 h
  by_cases hop:ZaR (l.getD a default).op=true
  ·unfold ZaS at h1
   rw [if_pos hop] at h1
   cases h1
   obtain ⟨b1,d1,E1,s1,g1,n1,q1⟩:=Zmp l n (a+1) _ _ D' (by omega) (by omega) h2
   rcases q1 with ⟨_,hq⟩|⟨hb1,hq⟩
   ·cases hq
   obtain ⟨T2,E2,h3,h4⟩:=hst _ _ _ hb1 n1
   have hle:=(Zmo s1).1
   rcases hq with hq|hq
   ·unfold ZaS at h3
    rw [Zbf (.inl hq),if_neg (by decide),if_pos hq] at h3
    dsimp only at h3
    split at h3
    ·rename_i hc
     cases h3
     obtain ⟨b2,d2,E3,s2,g2,n2,q2⟩:=Zmp l n (b1+1) _ _ D' (by omega) (by omega) h4
     rcases q2 with ⟨_,hq2⟩|⟨hb2,hq2⟩
     ·cases hq2
     obtain ⟨T3,E4,h5,h6⟩:=hst _ _ _ hb2 n2
     have hle2:=(Zmo s2).1
     have h35:(l.getD b2 default).op=35:=by
      rcases hq2 with hq2|hq2
      ·unfold ZaS at h5
       rw [Zbf (.inl hq2),if_neg (by decide),if_pos hq2] at h5
       simp at h5
      ·exact hq2
     unfold ZaS at h5
     rw [Zbf (.inr h35),if_neg (by decide),if_neg (by omega),if_pos h35] at h5
     simp at h5
     obtain ⟨rfl,rfl⟩:=h5
     obtain ⟨b3,d3,E5,s3,g3,n3,q3⟩:=Zmp l n (b2+1) _ _ D' (by omega) (by omega) h6
     exact ⟨b3,_,E5,.two a b1 b2 b3 ⟨hal2,hop,hb2,h35,.inr ⟨b1,rfl,hb1,hq,hc.1,⟨_,g1⟩,_,g2⟩⟩ s1 s2 s3,Zbb (Zbo hal2 hop g1 hb1 hq hc.1 g2 hb2 h35) g3,n3,q3⟩
    ·cases h3
   ·unfold ZaS at h3
    rw [Zbf (.inr hq),if_neg (by decide),if_neg (by omega),if_pos hq] at h3
    dsimp only at h3
    split at h3
    ·cases h3
    ·rename_i hc
     cases h3
     have h33:(l.getD a default).op≠33:=fun q=>hc ⟨q,rfl⟩
     obtain ⟨b3,d3,E5,s3,g3,n3,q3⟩:=Zmp l n (b1+1) _ _ D' (by omega) (by omega) h4
     exact ⟨b3,_,E5,.one a b1 b3 ⟨hal2,hop,hb1,hq,.inl ⟨rfl,h33,_,g1⟩⟩ s1 s3,Zbb (Zbn hal2 hop g1 hb1 hq h33) g3,n3,q3⟩
  ·by_cases hx:(l.getD a default).op=34∨(l.getD a default).op=35
   ·exact ⟨a,0,D,.nil a ha,Zba ha,h,.inr ⟨hal2,hx⟩⟩
   ·have hop':ZaR (l.getD a default).op=false:=by simpa using hop
    rw [Zbc hop' (by omega) (by omega)] at h1
    cases h1
    obtain ⟨b,d,E,s,g,n3,q3⟩:=Zmp l n (a+1) _ _ D' (by omega) (by omega) h2
    exact ⟨b,_,E,.pl a b hal2 hop' (by omega) (by omega) s,Zbb (Zbd (Zba ha) hal2 hop' (by omega) (by omega)) g,n3,q3⟩
theorem Zmq {l:List In3} (h:ZaU l=true):Seg l 0 l.length:=by
 unfold ZaU at h
 split at h
 ·cases h
 ·rename_i st d hf
  simp only [Bool.and_eq_true,List.isEmpty_iff] at h
  obtain ⟨rfl,_⟩:=h
  obtain ⟨b,e,E,s,g,n,q⟩:=Zmp l l.length 0 [] 0 d (by omega) (by omega) hf
  rcases q with ⟨rfl,_⟩|⟨hb,hq⟩
  ·exact s
  ·have hx:l[b]=l.getD b default:=by simp [hb]
   rw [List.drop_eq_getElem_cons hb,hx] at n
   unfold ZaT ZaS at n
   rw [Zbf hq,if_neg (by decide)] at n
   rcases hq with hq|hq
   ·rw [if_pos hq] at n;cases n
   ·rw [if_neg (by omega),if_pos hq] at n;cases n
theorem Zmr (g:Wg) (l:List In3) (f a:Nat) (acc:Int):wL g l f a a acc=acc:=by
 cases f with
 | zero=>rfl
 | succ f=>unfold wL;rw [if_neg (Nat.lt_irrefl a)]
theorem Zms {g:Wg}{l:List In3}{f a b:Nat}{acc:Int} (h1:ZaR (l.getD a default).op=false) (hab:a<b):wL g l (f+1) a b acc=wL g l f (a+1) b (g.plus acc (g.pl (l.getD a default))):=by
 conv=>lhs;unfold wL
 rw [if_pos hab,if_neg (by rw [h1];decide)]
theorem Zmt {g:Wg}{l:List In3}{f a b en:Nat}{alt acc:Int} (h:Mat l a alt en) (hab:a<b):wL g l (f+1) a b acc =
  wL g l f (en+1) b (g.plus acc (g.brk (l.getD a default) (wL g l f (a+1) (if alt<0 then en else alt.toNat) 0) (if alt<0 then 0 else wL g l f (alt.toNat+1) en 0))):=by
 conv=>lhs;unfold wL
 rw [if_pos hab,if_pos (show ZaR (l.getD a default).op=true from h.2.1),Zmn h]
theorem Zmu {g:Wg}{l:List In3}{a b:Nat} (h:Seg l a b):∀ (f f':Nat) (acc:Int),b-a≤f→b-a≤f'→wL g l f a b acc=wL g l f' a b acc:=by
 induction h with
 | nil a h=>intro f f' acc _ _;rw [Zmr,Zmr]
 |pl a b h1 h2 h3 h4 h5 ih=>
  intro f f' acc hf hf'
  have:=(Zmo h5).1
  obtain ⟨f,rfl⟩:∃ k,f=k+1:=⟨f-1,by omega⟩
  obtain ⟨f',rfl⟩:∃ k,f'=k+1:=⟨f'-1,by omega⟩
  rw [Zms h2 (by omega),Zms h2 (by omega)]
  exact ih _ _ _ (by omega) (by omega)
 |one a en b h1 h2 h3 i1 i2=>
  intro f f' acc hf hf'
  have:=ZbI h1
  have:=(Zmo h3).1
  obtain ⟨f,rfl⟩:∃ k,f=k+1:=⟨f-1,by omega⟩
  obtain ⟨f',rfl⟩:∃ k,f'=k+1:=⟨f'-1,by omega⟩
  rw [Zmt h1 (by omega),Zmt h1 (by omega),if_pos (by decide),if_pos (by decide),if_pos (by decide),i1 f f' _ (by omega) (by omega)]
  exact i2 _ _ _ (by omega) (by omega)
 |two a n en b h1 h2 h3 h4 i1 i2 i3=>
  intro f f' acc hf hf'
  have:=ZbI h1
  have:=(Zmo h2).1
  have:=(Zmo h3).1
  have:=(Zmo h4).1
  obtain ⟨f,rfl⟩:∃ k,f=k+1:=⟨f-1,by omega⟩
  obtain ⟨f',rfl⟩:∃ k,f'=k+1:=⟨f'-1,by omega⟩
  have hn:¬ (n:Int) < 0:=by omega
  rw [Zmt h1 (by omega),Zmt h1 (by omega),if_neg hn,if_neg hn,if_neg hn,Int.toNat_natCast,i1 f f' _ (by omega) (by omega),i2 f f' _ (by omega) (by omega)]
  exact i3 _ _ _ (by omega) (by omega)
def WA (g:Wg) (l:List In3) (a b:Nat) (acc:Int):Int:=wL g l (b-a) a b acc
section
variable {g:Wg}{l:List In3}{a n en b:Nat}{acc:Int}
theorem Zmv:WA g l a a acc=acc:=Zmr _ _ _ _ _
theorem Zmw (h2:ZaR (l.getD a default).op=false) (h5:Seg l (a+1) b):WA g l a b acc=WA g l (a+1) b (g.plus acc (g.pl (l.getD a default))):=by
 have:=(Zmo h5).1
 unfold WA
 rw [show b-a=(b-(a+1))+1 by omega,Zms h2 (by omega)]
theorem Zmx (h1:Mat l a (-1) en) (h2:Seg l (a+1) en) (h3:Seg l (en+1) b):WA g l a b acc=WA g l (en+1) b (g.plus acc (g.brk (l.getD a default) (WA g l (a+1) en 0) 0)):=by
 have:=ZbI h1
 have:=(Zmo h3).1
 unfold WA
 rw [show b-a=(b-(a+1))+1 by omega,Zmt h1 (by omega),if_pos (by decide),if_pos (by decide),Zmu h2 _ (en-(a+1)) _ (by omega) (by omega),Zmu h3 _ (b-(en+1)) _ (by omega) (by omega)]
theorem Zmy (h1:Mat l a n en) (h2:Seg l (a+1) n) (h3:Seg l (n+1) en) (h4:Seg l (en+1) b):WA g l a b acc=WA g l (en+1) b (g.plus acc (g.brk (l.getD a default) (WA g l (a+1) n 0) (WA g l (n+1) en 0))):=by
 have:=ZbI h1
 have:=(Zmo h2).1
 have:=(Zmo h3).1
 have:=(Zmo h4).1
 have hn:¬ (n:Int) < 0:=by omega
 unfold WA
 rw [show b-a=(b-(a+1))+1 by omega,Zmt h1 (by omega),if_neg hn,if_neg hn,Int.toNat_natCast,Zmu h2 _ (n-(a+1)) _ (by omega) (by omega),Zmu h3 _ (en-(n+1)) _ (by omega) (by omega),Zmu h4 _ (b-(en+1)) _ (by omega) (by omega)]
end
end
section
open Go.RowKit
structure VN where
 at_:Int
 alt:Int
 en:Int
 fo:Option Addr
 fn:Nat
 fc:Nat
 so:Option Addr
 sn:Nat
 sc:Nat
instance:Inhabited VN:=⟨⟨0,0,0,none,0,0,none,0,0⟩⟩
instance:Cells VN:=⟨5,by decide,fun t=>[.int .i64 t.at_,.int .i64 t.alt,.int .i64 t.en,.slice t.fo t.fn t.fc,.slice t.so t.sn t.sc],fun _=>rfl,by
 intro x u hu;simp only [List.mem_cons,List.not_mem_nil,or_false] at hu;rcases hu with rfl|rfl|rfl|rfl|rfl<;>rfl⟩
def Lie (P:Nat→Prop) (ao:Option Addr):Prop:=∀ ad,ao=some ad→P ad.block
inductive Nds (w:World) (l:List In3) (P:Nat→Prop):Nat→Nat→List VN→Prop
 | nil (a:Nat):a≤l.length→Nds w l P a a []
 | pl (a b:Nat) (r:List VN):a<l.length→ZaR (l.getD a default).op=false→(l.getD a default).op≠34→(l.getD a default).op≠35→Nds w l P (a+1) b r→Nds w l P a b (⟨a,-1,-1,none,0,0,none,0,0⟩ :: r)
 | one (a en b:Nat) (fo:Option Addr) (fc:Nat) (F r:List VN):Mat l a (-1) en→Zar w fo fc F→Lie P fo∧F.length≤fc→Nds w l P (a+1) en F→Nds w l P (en+1) b r→Nds w l P a b (⟨a,-1,en,fo,F.length,fc,none,0,0⟩ :: r)
 | two (a n en b:Nat) (fo so:Option Addr) (fc sc:Nat) (F S r:List VN):Mat l a n en→Zar w fo fc F→Lie P fo∧F.length≤fc→Nds w l P (a+1) n F→Zar w so sc S→Lie P so∧S.length≤sc→Nds w l P (n+1) en S→Nds w l P (en+1) b r→Nds w l P a b (⟨a,n,en,fo,F.length,fc,so,S.length,sc⟩ :: r)
theorem Nds.le {w:World}{l:List In3}{P:Nat→Prop}{a b:Nat}{r:List VN} (h:Nds w l P a b r):a+r.length≤b∧b≤l.length:=by
 induction h with
 | nil a h=>simp [h]
 | pl a b r h1 h2 h3 h4 h5 ih=>simp;omega
 | one a en b fo fc F r h1 h2 h3 h4 h5 i1 i2=>have:=ZbI h1;simp;omega
 | two a n en b fo so fc sc F S r h1 h2 h3 h4 h5 h6 h7 h8 i1 i2 i3=>have:=ZbI h1;simp;omega
theorem Nds.seg {w:World}{l:List In3}{P:Nat→Prop}{a b:Nat}{r:List VN} (h:Nds w l P a b r):Seg l a b:=by
 induction h with
 | nil a h=>exact .nil a h
 | pl a b r h1 h2 h3 h4 h5 ih=>exact .pl a b h1 h2 h3 h4 ih
 | one a en b fo fc F r h1 h2 h3 h4 h5 i1 i2=>exact .one a en b h1 i1 i2
 | two a n en b fo so fc sc F S r h1 h2 h3 h4 h5 h6 h7 h8 i1 i2 i3=>exact .two a n en b h1 i1 i2 i3
theorem Nds.keep {w w':World}{l:List In3}{P Q:Nat→Prop}{a b:Nat}{r:List VN} (h:Nds w l P a b r) (hr:∀ (ao:Option Addr) (c:Nat) (L:List VN),Zar w ao c L→Lie P ao→Zar w' ao c L∧Lie Q ao):Nds w' l Q a b r:=by
 induction h with
 | nil a h=>exact .nil a h
 | pl a b r h1 h2 h3 h4 h5 ih=>exact .pl a b r h1 h2 h3 h4 ih
 | one a en b fo fc F r h1 h2 h3 h4 h5 i1 i2=>exact .one a en b fo fc F r h1 (hr _ _ _ h2 h3.1).1 ⟨(hr _ _ _ h2 h3.1).2,h3.2⟩ i1 i2
 | two a n en b fo so fc sc F S r h1 h2 h3 h4 h5 h6 h7 h8 i1 i2 i3=>exact .two a n en b fo so fc sc F S r h1 (hr _ _ _ h2 h3.1).1 ⟨(hr _ _ _ h2 h3.1).2,h3.2⟩ i1 (hr _ _ _ h5 h6.1).1 ⟨(hr _ _ _ h5 h6.1).2,h6.2⟩ i2 i3
theorem Nds.old {w w':World}{l:List In3}{P:Nat→Prop}{a b:Nat}{r:List VN} (h:Nds w l P a b r) (hb:Below w.heap.size w w'):Nds w' l P a b r:=
 h.keep fun _ _ _ h1 h2=>⟨h1.old hb,h2⟩
theorem Nds.weak {w:World}{l:List In3}{P Q:Nat→Prop}{a b:Nat}{r:List VN} (h:Nds w l P a b r) (hq:∀ k,P k→Q k):Nds w l Q a b r:=
 h.keep fun _ _ _ h1 h2=>⟨h1,fun ad e=>hq _ (h2 ad e)⟩
theorem Nds.snoc_pl {w:World}{l:List In3}{P:Nat→Prop}{a k:Nat}{r:List VN} (h:Nds w l P a k r) (h1:k<l.length) (h2:ZaR (l.getD k default).op=false) (h3:(l.getD k default).op≠34) (h4:(l.getD k default).op≠35):Nds w l P a (k+1) (r++[⟨k,-1,-1,none,0,0,none,0,0⟩]):=by
 induction h with
 | nil a h=>exact .pl a (a+1) [] h1 h2 h3 h4 (.nil _ (by omega))
 | pl a b r q1 q2 q3 q4 q5 ih=>exact .pl a _ _ q1 q2 q3 q4 (ih h1 h2 h3 h4)
 | one a en b fo fc F r q1 q2 q3 q4 q5 i1 i2=>exact .one a en _ fo fc F _ q1 q2 q3 q4 (i2 h1 h2 h3 h4)
 | two a n en b fo so fc sc F S r q1 q2 q3 q4 q5 q6 q7 q8 i1 i2 i3=>exact .two a n en _ fo so fc sc F S _ q1 q2 q3 q4 q5 q6 q7 (i3 h1 h2 h3 h4)
theorem Nds.snoc_one {w:World}{l:List In3}{P:Nat→Prop}{a k en:Nat}{r F:List VN}{fo:Option Addr}{fc:Nat} (h:Nds w l P a k r) (h1:Mat l k (-1) en) (h2:Zar w fo fc F) (h3:Lie P fo∧F.length≤fc) (h4:Nds w l P (k+1) en F):Nds w l P a (en+1) (r++[⟨k,-1,en,fo,F.length,fc,none,0,0⟩]):=by
 induction h with
 | nil a h=>exact .one a en _ fo fc F [] h1 h2 h3 h4 (.nil _ (by have:=h1.2.2.1;omega))
 | pl a b r q1 q2 q3 q4 q5 ih=>exact .pl a _ _ q1 q2 q3 q4 (ih h1 h4)
 | one a en b fo fc F r q1 q2 q3 q4 q5 i1 i2=>exact .one a en _ fo fc F _ q1 q2 q3 q4 (i2 h1 h4)
 | two a n en b fo so fc sc F S r q1 q2 q3 q4 q5 q6 q7 q8 i1 i2 i3=>exact .two a n en _ fo so fc sc F S _ q1 q2 q3 q4 q5 q6 q7 (i3 h1 h4)
theorem Nds.snoc_two {w:World}{l:List In3}{P:Nat→Prop}{a k n en:Nat}{r F S:List VN}{fo so:Option Addr}{fc sc:Nat} (h:Nds w l P a k r) (h1:Mat l k n en) (h2:Zar w fo fc F) (h3:Lie P fo∧F.length≤fc) (h4:Nds w l P (k+1) n F) (h5:Zar w so sc S) (h6:Lie P so∧S.length≤sc) (h7:Nds w l P (n+1) en S) :
  Nds w l P a (en+1) (r++[⟨k,n,en,fo,F.length,fc,so,S.length,sc⟩]):=by
 induction h with
 | nil a h=>exact .two a n en _ fo so fc sc F S [] h1 h2 h3 h4 h5 h6 h7 (.nil _ (by have:=h1.2.2.1;omega))
 | pl a b r q1 q2 q3 q4 q5 ih=>exact .pl a _ _ q1 q2 q3 q4 (ih h1 h4)
 | one a en b fo fc F r q1 q2 q3 q4 q5 i1 i2=>exact .one a en _ fo fc F _ q1 q2 q3 q4 (i2 h1 h4)
 | two a n en b fo so fc sc F S r q1 q2 q3 q4 q5 q6 q7 q8 i1 i2 i3=>exact .two a n en _ fo so fc sc F S _ q1 q2 q3 q4 q5 q6 q7 (i3 h1 h4)
def Zmz (W:World) (l:List In3) (a b:Nat):Ending→World→Prop:=fun e w'=>∃ ro rc rows,e=.returned (.slice ro rows.length rc)∧w'.ownsRow W.heap.size 193 5 (.slice ro rows.length rc) rows.length (Zak rows)∧Nds w' l (fun k=>W.heap.size≤k∧k<w'.heap.size) a b rows∧Below W.heap.size W w'
section
variable {w:World}{base:Nat}{e:TypeId}{size:Nat}{ao:Option Addr}{n c:Nat}{xs:List Value}(h:w.ownsRow base e size (.slice ao n c) n xs)
include w base e size ao n c xs h
theorem ZmA:Lie (fun k=>base≤k∧k<w.heap.size) ao:=by
 intro ad hd
 subst hd
 exact h.lt ad.block rfl
theorem ZmB:n≤c:=by
 rcases h.2 with ⟨hv,h0⟩|⟨g,cap,cur,hv,hg,hh,h4⟩
 ·cases hv;exact Nat.le_refl _
 ·cases hv;first|exact h4.1|omega|(have:=h4;omega)
end
theorem ZmC {w w':World}{row:Option Nat}{ao:Option Addr}{c:Nat}{L:List VN} (h:Zar w ao c L) (hg:w.grownBy w' row) (hne:∀ ad,ao=some ad→row≠some ad.block):Zar w' ao c L:=
 ⟨h.1,h.2.1,fun j u hu=>by
  obtain ⟨a,ha,hc⟩:=h.2.2 j u hu
  exact ⟨a,ha,(World.cell?_of_block (w:=w) (hg.block _ (Zac hc) (fun e=>hne a ha (by rw [Zag] at e;exact e.symm)))).trans hc⟩⟩
theorem Nds.grow {w w':World}{l:List In3}{row:Option Nat}{base a b:Nat}{r:List VN} (h:Nds w l (fun k=>base≤k∧k<w.heap.size∧row≠some k) a b r) (hg:w.grownBy w' row) {Q:Nat→Prop} (hq:∀ k,base≤k→k<w.heap.size→row≠some k→Q k):Nds w' l Q a b r:=
 h.keep fun _ _ _ h1 h2=>⟨ZmC h1 hg fun ad e=>(h2 ad e).2.2,fun ad e=>hq _ (h2 ad e).1 (h2 ad e).2.1 (h2 ad e).2.2⟩
end
section
open Go.RowKit
theorem ZmD {w:World}{a b:Nat}{xs ys:Array Value}{t u:TypeId} (h:Blk w a xs t) (g:Blk w b ys u) (hn:t≠u):a≠b:=by
 rintro rfl
 unfold Blk at h g
 rw [h] at g
 cases g
 exact hn rfl
theorem ZcI.set {l:List In3}{w:World}{v0 v1 v2 v3:Value} (H:ZcI l w v0 v1 v2 v3) {B:Nat}{xs:Array Value}{t:TypeId} (hB:Blk w B xs t) (ht:3≠t) (j:Nat) (v:Value):ZcI l (w.setCell ⟨B,j,none⟩ v) v0 v1 v2 v3:=by
 obtain ⟨g0,g1,g2,g3,P,E,Q,R,h0,h1,h2,h3,hl,b0,b1,b2,b3,ha⟩:=H
 exact ⟨g0,g1,g2,g3,P,E,Q,R,h0,h1,h2,h3,hl,b0.other (a:=⟨B,j,none⟩) (ZmD b0 hB ht) v,b1.other (a:=⟨B,j,none⟩) (ZmD b1 hB ht) v,b2.other (a:=⟨B,j,none⟩) (ZmD b2 hB ht) v,b3.other (a:=⟨B,j,none⟩) (ZmD b3 hB ht) v,ha⟩
theorem ZcI.alloc {l:List In3}{w:World}{v0 v1 v2 v3:Value} (H:ZcI l w v0 v1 v2 v3) (o:Obj):ZcI l (w.alloc o) v0 v1 v2 v3:=by
 obtain ⟨g0,g1,g2,g3,P,E,Q,R,h0,h1,h2,h3,hl,b0,b1,b2,b3,ha⟩:=H
 exact ⟨g0,g1,g2,g3,P,E,Q,R,h0,h1,h2,h3,hl,b0.alloc o,b1.alloc o,b2.alloc o,b3.alloc o,ha⟩
def ZmE (l:List In3) (W:World):Ending→World→Prop:=fun e w'=>(∃ v0 v1 v2 v3:Value,∃ n:Int,e=.returned (.tuple #[.agg #[v0,v1,v2,v3,.int .i64 n,.bool true],.int .i64 0])∧ZcI l w' v0 v1 v2 v3)∧Below W.heap.size W w'
theorem ZmF {l:List In3} (h:ZaV false l=0):l.length≤120∧l.all (ZaQ false)=true∧ZaU l=true:=by
 unfold ZaV at h
 split at h
 ·omega
 ·split at h
  ·split at h
   ·rename_i h1 h2 h3;exact ⟨by omega,h2,h3⟩
   ·omega
  ·omega
theorem ZmG (l:List In3) (ao:Option Addr) (cap:Nat) (w:World) (hl:Zar w ao cap l) (hv:ZaV false l=0) (k:Nat) (hk:k<l.length) :
  Calls Tryz.prog 224 #[.slice ao l.length cap,.int .i64 k] w (ZmE l w):=by
 obtain ⟨h1,h2,h3⟩:=ZmF hv
 obtain ⟨B,hB⟩:∃ B,B=w.heap.size:=⟨_,rfl⟩
 have hb0:=(Below.refl w.heap.size w).alloc (Nat.le_refl _) (.cells #[.slice none 0 0,.slice none 0 0,.slice none 0 0,.slice none 0 0,.int .i64 0,.bool false] 245)
 have hX:=Blk.new' (w:=w) #[.slice none 0 0,.slice none 0 0,.slice none 0 0,.slice none 0 0,.int .i64 0,.bool false] 245 hB
 have HC:=Zh (ZgN l ao cap false _ (hl.old hb0))
 rw [hv] at HC
 have HS:=Zh (fun w' hb=>Zc9 l ao cap w' (hl.old hb) h1)
 have H3:=Zh h3
 have HB:=Zh hB
 have HX:=Zh hX
 have HB0:=Zh hb0
 have hk2:(k:Int) < l.length:=by omega
 clear hl hv h2 h3 hB hX hb0
 go_enter Tryz.func224,Tryz.ntmps224
 go_wp2_with (first
  | (go_at_call 299;refine HC.out.mono ?_;rintro e w1 ⟨rfl,hb1⟩;have HB1:=Zh (Zaf HB0.out hb1);have HX1:=Zh (HX.out.old hb1);clear hb1)
  | (go_at_call 300;refine (HS.out _ HB1.out).mono ?_;rintro e w2 ⟨⟨v0,v1,v2,v3,n,rfl,hs⟩,hb2⟩;have HB2:=Zh (Zaf HB1.out hb2);have HX2:=Zh (HX1.out.old hb2);obtain ⟨g0,g1,g2,g3,P,E,Q,R,rfl,rfl,rfl,rfl,hr⟩:=hs H3.out;have HS2:RowKit.Hid (ZcI l w2 _ _ _ _):=⟨g0,g1,g2,g3,P,E,Q,R,rfl,rfl,rfl,rfl,hr⟩;rw [H3.out];clear hb2 hs hr;rw [←HB.out];have x0:=HX2.out.cell 0 rfl;have x1:=HX2.out.cell 1 rfl;have x2:=HX2.out.cell 2 rfl;have x3:=HX2.out.cell 3 rfl;have x4:=HX2.out.cell 4 rfl;have x5:=HX2.out.cell 5 rfl;have f0:=HX2.out.frozen 0;have f1:=HX2.out.frozen 1;have f2:=HX2.out.frozen 2;have f3:=HX2.out.frozen 3;have f4:=HX2.out.frozen 4;have f5:=HX2.out.frozen 5))
 have hR:=(((((HX2.out.set 0 (.slice (some ⟨g0,0,none⟩) l.length l.length)).set 1 (.slice (some ⟨g1,0,none⟩) l.length l.length)).set 2 (.slice (some ⟨g2,0,none⟩) l.length l.length)).set 3 (.slice (some ⟨g3,0,none⟩) l.length l.length)).set 4 (.int .i64 n)).set 5 (.bool true)
 have y0:=hR.cell 0 rfl
 have y1:=hR.cell 1 rfl
 have y2:=hR.cell 2 rfl
 have y3:=hR.cell 3 rfl
 have y4:=hR.cell 4 rfl
 have y5:=hR.cell 5 rfl
 refine bodyPost_ret (v:=.tuple #[.agg #[.slice (some ⟨g0,0,none⟩) l.length l.length,.slice (some ⟨g1,0,none⟩) l.length l.length,.slice (some ⟨g2,0,none⟩) l.length l.length,.slice (some ⟨g3,0,none⟩) l.length l.length,.int .i64 n,.bool true],.int .i64 0]) (by simp [results,Tryz.results224,go_sem,y0,y1,y2,y3,y4,y5]) rfl ⟨⟨_,_,_,_,_,rfl,?_⟩,?_⟩
 ·exact (((((HS2.out.set HX2.out (by decide) 0 _).set (HX2.out.set 0 _) (by decide) 1 _).set ((HX2.out.set 0 _).set 1 _) (by decide) 2 _).set (((HX2.out.set 0 _).set 1 _).set 2 _) (by decide) 3 _).set ((((HX2.out.set 0 _).set 1 _).set 2 _).set 3 _) (by decide) 4 _).set (((((HX2.out.set 0 _).set 1 _).set 2 _).set 3 _).set 4 _) (by decide) 5 _
 ·have:=HB.out
  exact ZcW (ZcW (ZcW (ZcW (ZcW (ZcW HB2.out (by omega) _) (by omega) _) (by omega) _) (by omega) _) (by omega) _) (by omega) _
theorem ZcI.mat {l:List In3}{w:World}{v0 v1 v2 v3:Value} (H:ZcI l w v0 v1 v2 v3) {k en:Nat}{alt:Int} (hm:Mat l k alt en):∃ g0 g1 g2 g3,(v0=.slice (some ⟨g0,0,none⟩) l.length l.length∧v1=.slice (some ⟨g1,0,none⟩) l.length l.length∧v2=.slice (some ⟨g2,0,none⟩) l.length l.length∧v3=.slice (some ⟨g3,0,none⟩) l.length l.length)∧w.cell? ⟨g1,k,none⟩=some (.int .i64 alt)∧w.cell? ⟨g2,k,none⟩=some (.int .i64 en):=by
 obtain ⟨g0,g1,g2,g3,P,E,Q,R,h0,h1,h2,h3,⟨l0,l1,l2,l3⟩,b0,b1,b2,b3,ha⟩:=H
 obtain ⟨n,hn,hm2⟩:=ZbZ ha hm.1 hm.2.1
 obtain ⟨e1,e2⟩:=ZbH hm hm2
 have hk:=hm.1
 refine ⟨g0,g1,g2,g3,⟨h0,h1,h2,h3⟩,?_,?_⟩
 ·rw [b1.cell k (v:=.int .i64 alt) (by simp [show k<E.length by omega];unfold gx at e1;simpa [show k<E.length by omega] using e1.symm)]
 ·rw [b2.cell k (v:=.int .i64 en) (by simp [show k<Q.length by omega];unfold gx at hn;simp [show k<Q.length by omega] at hn;omega)]
theorem ZmH (l:List In3) (ao:Option Addr) (cap:Nat) (w:World) (hl:Zar w ao cap l) (hv:ZaV false l=0) {k en:Nat}{alt:Int} (hm:Mat l k alt en) :
  Calls Tryz.prog 163 #[.slice ao l.length cap,.int .i64 k] w (Ret w (.tuple #[.int .i64 alt,.int .i64 en,.int .i64 0])):=by
 have hk:=hm.1
 have hk2:(k:Int) < l.length:=by omega
 have HI:=Zh (ZmG l ao cap w hl hv k hk)
 have HOp:=Zh (show ZaR (l.getD k default).op=true from hm.2.1)
 have HM:=Zh hm
 have HL:=Zh (fun w' hb=>ZaA (Zar.old hl (w':=w') hb) hk)
 clear hl hv hm
 obtain ⟨op,hop⟩:∃ o,o=(l.getD k default).op:=⟨_,rfl⟩
 rw [←hop] at HOp HL
 have HOq:=Zh hop
 clear hop
 go_enter Tryz.func163,Tryz.ntmps163
 go_wp2_with (first
  | (go_at_call 224;refine HI.out.mono ?_;rintro e w1 ⟨⟨v0,v1,v2,v3,n,rfl,hs⟩,hb1⟩;have HB1:=Zh hb1;obtain ⟨g0,g1,g2,g3,⟨rfl,rfl,rfl,rfl⟩,c1,c2⟩:=hs.mat HM.out;obtain ⟨ad,rfl,o0,-,-⟩:=HL.out _ hb1;have hl1:=Zac c1;have hl2:=Zac c2;dsimp only at hl1 hl2;have hl3:=Zac o0;clear hb1 hs)
  | (go_at_call 162;refine (ZcP _ _).mono ?_;rintro e w2 ⟨rfl,rfl⟩;rw [HOp.out]))
 go_quiet (fail)
 go_wp2
 go_ret3
 exact ZcT rfl (by have:=HB1.out;exact bE)
end
section
open Go.RowKit
theorem ZmI {P:Program}{w:World}{ops:Array Oper}{rest:List Oper}{o:Oper}{a:Act}{Q:Exit→Act→World→Prop} (hgd:o.guard=none) (s x:Operand) (t:TypeId)
  (ho:o.op=.call { callee:=.builtin .append,args:=#[s,x],argTypes:=#[t,t] })
  (base:Nat) (e:TypeId) (size bytes:Nat) (hel:El P t e size bytes)
  (v:Value) (n:Nat) (xs:List Value) (hs:a.eval s=v) (hown:w.ownsRow base e size v n xs)
  (ad:Addr) (m c:Nat) (news:List Value) (hx:a.eval x=.slice (some ad) m c) (hsl:SlA w size (some ad) m c news) (h1:∀ u∈news,u.oneCell'=true)
  (hbytes:(n+m)*bytes≤140737488355328) (h63:n+m≤maxLen) (hbase:base≤w.heap.size) (hm:0<m)
  (h:∀ ao' cap' w',w'.ownsRow base e size (.slice ao' (n+m) cap') (n+m) (xs++news)→w.grownBy w' v.ownBlock→((Value.slice ao' (n+m) cap').ownBlock=v.ownBlock∨(Value.slice ao' (n+m) cap').ownBlock=some w.heap.size)→wpList P ops Q rest (a.put o.dst (.slice ao' (n+m) cap')) w'):wpList P ops Q (o :: rest) a w:=by
 obtain ⟨i,z,hi,hz,hsize,hby,hzs⟩:=hel.info
 refine wpList_append_own_at _ hgd s x t ho base e i z size bytes hel.und hi hz hsize hby hzs hel.pos v n xs hs hown ad m c news hx hsl.1 (fun j u hu=>?_) h1 h63 hbytes hbase ?_
 ·obtain ⟨a',ha',hc⟩:=hsl.2.2 j u hu
  obtain rfl:=Option.some.inj ha'
  exact hc
 ·intro v' w' hown' hg _ hat
  rcases hown'.2 with ⟨rfl,hnm⟩|⟨g,c,cur,rfl,hr⟩
  ·omega
  ·exact h _ c w' hown' hg hat
theorem ZmJ:El Tryz.prog 140 193 5 72:=El.mk' (z:=.agg #[.int .i64 0,.int .i64 0,.int .i64 0,.slice none 0 0,.slice none 0 0]) Tryz.underlying140 (by kernel_rfl) (by kernel_rfl) (by decide)
theorem ZmK {l:List In3}{a b:Nat} (h:Seg l a b):a=b∨(a<b∧ZaR (l.getD a default).op=false∧(l.getD a default).op≠34∧(l.getD a default).op≠35∧Seg l (a+1) b) ∨
  (∃ en:Nat,Mat l a (-1) en∧a<en∧en<b∧Seg l (a+1) en∧Seg l (en+1) b)∨∃ n en:Nat,Mat l a n en∧a<n∧n<en∧en<b∧Seg l (a+1) n∧Seg l (n+1) en∧Seg l (en+1) b:=by
 cases h with
 | nil _ h=>exact .inl rfl
 | pl _ _ h1 h2 h3 h4 h5=>exact .inr (.inl ⟨(Zmo h5).1,h2,h3,h4,h5⟩)
 | one _ en _ h1 h2 h3=>exact .inr (.inr (.inl ⟨en,h1,ZbI h1,(Zmo h3).1,h2,h3⟩))
 | two _ n en _ h1 h2 h3 h4=>exact .inr (.inr (.inr ⟨n,en,h1,(Zmo h2).1,(Zmo h3).1,(Zmo h4).1,h2,h3,h4⟩))
theorem ZmL (w:World) (xs:Array Value) (t:TypeId) {b n size:Nat}{ys:List Value} (hb:b=w.heap.size) (hx:xs.toList=ys∧ys.length=n*size):SlA (w.alloc (.cells xs t)) size (some ⟨b,0,none⟩) n n ys:=by
 subst hb
 obtain ⟨rfl,h⟩:=hx
 exact Zcr w xs t (by simpa using h)
structure ZmM (W w:World) (l:List In3) (a k:Nat) (ro:Option Addr) (rc:Nat) (rows:List VN):Prop where
 own:w.ownsRow W.heap.size 193 5 (.slice ro rows.length rc) rows.length (Zak rows)
 nds:Nds w l (fun q=>W.heap.size≤q∧q<w.heap.size∧(Value.slice ro rows.length rc).ownBlock≠some q) a k rows
 low:Below W.heap.size W w
theorem ZmM.old {W w w':World}{l:List In3}{a k:Nat}{ro:Option Addr}{rc:Nat}{rows:List VN} (H:ZmM W w l a k ro rc rows) (hb:Below w.heap.size w w'):ZmM W w' l a k ro rc rows:=
 ⟨ZhI H.own fun k hk=>hb.block k (H.own.lt k hk).2,(H.nds.old hb).weak fun q hq=>⟨hq.1,Nat.lt_of_lt_of_le hq.2.1 hb.size,hq.2.2⟩,Zaf H.low hb⟩
theorem ZmM.push {W w w2:World}{l:List In3}{a k k':Nat}{ro ao:Option Addr}{rc cap:Nat}{rows:List VN} (H:ZmM W w l a k ro rc rows) (x:VN)
  (hx:Nds w l (fun q=>W.heap.size≤q∧q<w.heap.size∧(Value.slice ro rows.length rc).ownBlock≠some q) a k' (rows++[x]))
  (hown:w2.ownsRow W.heap.size 193 5 (.slice ao (rows.length+1) cap) (rows.length+1) (Zak rows++Zak [x])) (hg:w.grownBy w2 (Value.slice ro rows.length rc).ownBlock)
  (hat:(Value.slice ao (rows.length+1) cap).ownBlock=(Value.slice ro rows.length rc).ownBlock∨(Value.slice ao (rows.length+1) cap).ownBlock=some w.heap.size):ZmM W w2 l a k' ao cap (rows++[x]):=by
 have hlen:(rows++[x]).length=rows.length+1:=by simp
 refine ⟨by rw [hlen,Zan];exact hown,hx.grow hg fun q h1 h2 h3=>⟨h1,Nat.lt_of_lt_of_le h2 hg.size,?_⟩,ZcV H.low hg fun q hq=>(H.own.lt q hq).1⟩
 rw [hlen]
 rcases hat with e|e
 ·rw [e];exact h3
 ·rw [e];intro q;cases q;omega
theorem ZmN {w w':World}{K B:Nat}{ao:Option Addr}{c:Nat}{L:List VN} (h:Zar w ao c L) (hu:Upd K B w w') (hne:∀ ad,ao=some ad→ad.block≠K∧ad.block≠B):Zar w' ao c L:=
 ⟨h.1,h.2.1,fun j u hu'=>by
  obtain ⟨a,ha,hc⟩:=h.2.2 j u hu'
  exact ⟨a,ha,(World.cell?_of_block (w:=w) (hu.block _ (Zac hc) (by rw [Zag];exact (hne a ha).1) (by rw [Zag];exact (hne a ha).2))).trans hc⟩⟩
theorem ZmO {W w w3 w4 w6:World}{l:List In3}{a k x y B:Nat}{ro fo:Option Addr}{rc fc:Nat}{rows F:List VN} (H:ZmM W w l a k ro rc rows) (hz:w.heap.size≤w3.heap.size) (hB:B<w3.heap.size)
  (hF:w4.ownsRow w3.heap.size 193 5 (.slice fo F.length fc) F.length (Zak F)∧Nds w4 l (fun q=>w3.heap.size≤q∧q<w4.heap.size) x y F) (hu:Upd B B w4 w6) :
  Zar w6 fo fc F∧(Lie (fun q=>W.heap.size≤q∧q<w6.heap.size∧(Value.slice ro rows.length rc).ownBlock≠some q) fo∧F.length≤fc)∧Nds w6 l (fun q=>W.heap.size≤q∧q<w6.heap.size∧(Value.slice ro rows.length rc).ownBlock≠some q) x y F:=by
 have hW:=H.low.size
 have hP:∀ q,w3.heap.size≤q∧q<w4.heap.size→W.heap.size≤q∧q<w6.heap.size∧(Value.slice ro rows.length rc).ownBlock≠some q:=fun q hq=>⟨by omega,Nat.lt_of_lt_of_le hq.2 hu.size,fun e=>by have:=(H.own.lt q e).2;omega⟩
 have hl:=ZmA hF.1
 have hr:∀ (ao:Option Addr) (c:Nat) (L:List VN),Zar w4 ao c L→Lie (fun q=>w3.heap.size≤q∧q<w4.heap.size) ao→Zar w6 ao c L∧Lie (fun q=>W.heap.size≤q∧q<w6.heap.size∧(Value.slice ro rows.length rc).ownBlock≠some q) ao:=
  fun ao c L h1 h2=>⟨ZmN h1 hu fun ad e=>by have:=(h2 ad e).1;omega,fun ad e=>hP _ (h2 ad e)⟩
 exact ⟨(hr _ _ _ (Zar.of_own hF.1) hl).1,⟨(hr _ _ _ (Zar.of_own hF.1) hl).2,ZmB hF.1⟩,hF.2.keep hr⟩
theorem ZmP (l:List In3) (ao:Option Addr) (cap a b:Nat) (w:World) (hl:Zar w ao cap l) (hv:ZaV false l=0) (hs:Seg l a b)
  (ih:∀ a' b' w',Seg l a' b'→a<a'→b' < b→Below w.heap.size w w'→Calls Tryz.prog 104 #[.slice ao l.length cap,.int .i64 a',.int .i64 b'] w' (Zmz w' l a' b')) :
  Calls Tryz.prog 104 #[.slice ao l.length cap,.int .i64 a,.int .i64 b] w (Zmz w l a b):=by
 have hlen:=(ZmF hv).1
 have hsl:=Zmo hs
 have HL:=Zh (fun k (hk:k<l.length) w' hb=>ZaA (Zar.old hl (w':=w') hb) hk)
 have HMt:=Zh (fun w' hb k en alt hm=>ZmH l ao cap w' (Zar.old hl (w':=w') hb) hv (k:=k) (en:=en) (alt:=alt) hm)
 have HS0:=Zh hs
 have HI:=Zh ih
 clear hl hv hs ih
 go_enter Tryz.func104,Tryz.ntmps104
 go_wp2
 go_loopw [7,8] (fun o i wr=>∃ (k:Nat) (ro:Option Addr) (rc:Nat) (rows:List VN),i=.int .i64 k∧o=.slice ro rows.length rc∧a≤k∧k≤b∧rows.length≤k∧Hid (Seg l k b)∧Hid (ZmM w wr l a k ro rc rows)) (fun _ i _=>b-(intOf i).toNat)
 case atStart=>exact ⟨a,none,0,[],rfl,rfl,Nat.le_refl _,hsl.1,Nat.zero_le _,HS0,⟨World.ownsRow_nil _ _ _ _,.nil _ (by omega),Below.refl _ _⟩⟩
 case round=>
  obtain ⟨k,ro,rc,rows,rfl,rfl,hak,hkb,hrk,HS,HN⟩:=hrel
  rcases ZmK HS.out with hq|⟨hkb2,hop,h34,h35,hs2⟩|⟨en,hm,hken,henb,hs2,hs3⟩|⟨n,en,hm,hkn,hnen,henb,hs2,hs3,hs4⟩
  ·have hq2:¬ (k:Int) < b:=by omega
   clear HI HMt HL
   go_wp2
   go_ret
   obtain rfl:b=k:=hq.symm
   exact ⟨ro,rc,rows,rfl,HN.out.own,HN.out.nds.weak fun _ h=>⟨h.1,h.2.1⟩,HN.out.low⟩
  ·have hkl:k<l.length:=by omega
   have hkb3:(k:Int) < b:=by omega
   have hkl2:(k:Int) < l.length:=by omega
   have hwr:IntKind.i64.wrap ((k:Int)+1)=k+1:=IntWalk.i64_in _ (by omega)
   have HW:=Zh hwr
   have HP:=Zh (And.intro hop (And.intro h34 (And.intro h35 hs2)))
   obtain ⟨ad,rfl,o0,-,-⟩:=HL.out k hkl wr HN.out.low
   obtain ⟨op,hop2⟩:∃ o,o=(l.getD k default).op:=⟨_,rfl⟩
   rw [←hop2] at o0
   have HO:=Zh (show ZaR op=false by rw [hop2];exact hop)
   have hl0:=Zac o0
   have HNd:=Zh (Blk.new wr #[.int .i64 k,.int .i64 (-1),.int .i64 (-1),.slice none 0 0,.slice none 0 0] 193)
   have HB1:=Zh (show Below wr.heap.size wr ((wr.alloc (.cells #[.int .i64 k,.int .i64 (-1),.int .i64 (-1),.slice none 0 0,.slice none 0 0] 193)).alloc (.cells #[.int .i64 k,.int .i64 (-1),.int .i64 (-1),.slice none 0 0,.slice none 0 0] 193)) by exact bE)
   clear hwr hop h34 h35 hs2 hop2 HI HMt
   go_wp2_with (first
    | (go_at_call 162;refine (ZcP _ _).mono ?_;rintro e w2 ⟨rfl,rfl⟩;rw [HO.out])
    | (at_builtin;refine ZmI rfl (.tmp 60) (.tmp 62) 140 rfl w.heap.size 193 5 72 ZmJ (.slice ro rows.length rc) rows.length (Zak rows) rfl (HN.out.old HB1.out).own ⟨wr.heap.size+1,0,none⟩ 1 1 (Zak [(⟨k,-1,-1,none,0,0,none,0,0⟩:VN)]) rfl (ZmL _ _ _ (by simp) ⟨rfl,rfl⟩) (Zaq _) (by omega) (by unfold maxLen;omega) (by have:=HN.out.low.size;simp;omega) (by decide) ?_;intro ao' cap' w2 hown2 hg2 hat2))
   go_roundw
   case rel=>
    refine ⟨k+1,ao',cap',rows++[⟨k,-1,-1,none,0,0,none,0,0⟩],rfl,by simp,by omega,by omega,by simp;omega,HP.out.2.2.2,?_⟩
    exact (HN.out.old HB1.out).push _ ((HN.out.old HB1.out).nds.snoc_pl hkl HP.out.1 HP.out.2.1 HP.out.2.2.1) hown2 hg2 hat2
   case measure=>simp [intOf];omega
  ·have hkl:=hm.1
   have hkb3:(k:Int) < b:=by omega
   have hkl2:(k:Int) < l.length:=by omega
   have hwr:IntKind.i64.wrap ((k:Int)+1)=((k+1:Nat):Int):=IntWalk.i64_in _ (by omega)
   have hwe:IntKind.i64.wrap ((en:Int)+1)=((en+1:Nat):Int):=IntWalk.i64_in _ (by omega)
   have HW:=Zh (And.intro hwr hwe)
   have HMm:=Zh hm
   have HSs:=Zh (And.intro hs2 hs3)
   obtain ⟨ad,rfl,o0,-,-⟩:=HL.out k hkl wr HN.out.low
   obtain ⟨op,hop2⟩:∃ o,o=(l.getD k default).op:=⟨_,rfl⟩
   rw [←hop2] at o0
   have HO:=Zh (show ZaR op=true by rw [hop2];exact hm.2.1)
   have hl0:=Zac o0
   obtain ⟨B,hB⟩:∃ B,B=wr.heap.size:=⟨_,rfl⟩
   have HBB:=Zh hB
   have HX0:=Zh (Blk.new' (w:=wr) #[.int .i64 k,.int .i64 (-1),.int .i64 (-1),.slice none 0 0,.slice none 0 0] 193 hB)
   have HB0:=Zh (show Below wr.heap.size wr (wr.alloc (.cells #[.int .i64 k,.int .i64 (-1),.int .i64 (-1),.slice none 0 0,.slice none 0 0] 193)) by exact bE)
   have HC:=Zh (HMt.out _ (Zaf HN.out.low HB0.out) k en (-1) hm)
   clear hwr hwe hm hs2 hs3 hop2 hB
   go_upto_region 8 with (first
    | (go_at_call 162;refine (ZcP _ _).mono ?_;rintro e w2 ⟨rfl,rfl⟩;rw [HO.out])
    | (go_at_call 163;refine HC.out.mono ?_;rintro e w2 ⟨rfl,hb2⟩;have HB2:=Zh (Zaf HB0.out hb2);have HX2:=Zh (HX0.out.old hb2);clear hb2;rw [←HBB.out];have x1:=HX2.out.cell 1 (v:=.int .i64 (-1)) rfl;have x2:=HX2.out.cell 2 (v:=.int .i64 (-1)) rfl;have f1:=HX2.out.frozen 1;have f2:=HX2.out.frozen 2))
   obtain ⟨w3,hw3⟩:∃ w3,w3=(w2.setCell ⟨B,1,none⟩ (.int .i64 (-1))).setCell ⟨B,2,none⟩ (.int .i64 en):=⟨_,rfl⟩
   have HX3:=Zh (show Blk w3 B #[.int .i64 k,.int .i64 (-1),.int .i64 en,.slice none 0 0,.slice none 0 0] 193 by rw [hw3];exact (HX2.out.set 1 _).set 2 _)
   have HB3:=Zh (show Below wr.heap.size wr w3 by rw [hw3];have:=HBB.out;exact ZcW (ZcW HB2.out (by omega) _) (by omega) _)
   rw [←hw3]
   clear x1 x2 f1 f2 hw3
   have y1:=HX3.out.cell 1 (v:=.int .i64 (-1)) rfl
   have y2:=HX3.out.cell 2 (v:=.int .i64 en) rfl
   have hwr:=HW.out.1
   go_upto_region 11 with (first
    | (go_at_call 104;refine (HI.out (k+1) en _ HSs.out.1 (by omega) henb (Zaf HN.out.low HB3.out)).mono ?_;rintro e w4 ⟨fo,fc,F,rfl,hown4,hnd4,hb4⟩;have HF4:=Zh (And.intro hown4 hnd4);have HB4:=Zh (Zaf HB3.out hb4);have HX4:=Zh (HX3.out.old hb4);have HZ:=Zh HB3.out.size;clear hown4 hnd4 hb4 y1 y2;have y3:=HX4.out.cell 3 (v:=.slice none 0 0) rfl;have f3:=HX4.out.frozen 3))
   obtain ⟨w5,hw5⟩:∃ w5,w5=w4.setCell ⟨B,3,none⟩ (.slice fo F.length fc):=⟨_,rfl⟩
   have HX5:=Zh (show Blk w5 B #[.int .i64 k,.int .i64 (-1),.int .i64 en,.slice fo F.length fc,.slice none 0 0] 193 by rw [hw5];exact HX4.out.set 3 _)
   have HU5:=Zh (show Upd B B w4 w5 by rw [hw5];exact (Upd.refl B B w4).set 3 _)
   have HB5:=Zh (show Below wr.heap.size wr w5 by rw [hw5];have:=HBB.out;exact ZcW HB4.out (by omega) _)
   rw [←hw5]
   clear y3 f3 hw5 hwr
   have y0:=HX5.out.cell 0 (v:=.int .i64 k) rfl
   have y1:=HX5.out.cell 1 (v:=.int .i64 (-1)) rfl
   have y2:=HX5.out.cell 2 (v:=.int .i64 en) rfl
   have y3:=HX5.out.cell 3 (v:=.slice fo F.length fc) rfl
   have y4:=HX5.out.cell 4 (v:=.slice none 0 0) rfl
   have HB6:=Zh (show Below wr.heap.size wr (w5.alloc (.cells #[.int .i64 k,.int .i64 (-1),.int .i64 en,.slice fo F.length fc,.slice none 0 0] 193)) by have:=HB5.out;exact bE)
   have HN6:=Zh (HN.out.old HB6.out)
   have hwr:=HW.out.2
   go_wp2_with (at_builtin;refine ZmI rfl (.tmp 60) (.tmp 62) 140 rfl w.heap.size 193 5 72 ZmJ (.slice ro rows.length rc) rows.length (Zak rows) rfl HN6.out.own ⟨w5.heap.size,0,none⟩ 1 1 (Zak [(⟨k,-1,en,fo,F.length,fc,none,0,0⟩:VN)]) rfl (ZmL _ _ _ (by simp) ⟨rfl,rfl⟩) (Zaq _) (by omega) (by unfold maxLen;omega) (by have:=HN6.out.low.size;simp at this ⊢;omega) (by decide) ?_;intro ao' cap' w7 hown7 hg7 hat7)
   go_roundw
   case rel=>
    refine ⟨en+1,ao',cap',rows++[⟨k,-1,en,fo,F.length,fc,none,0,0⟩],rfl,by simp,by omega,by omega,by simp;omega,HSs.out.2,?_⟩
    have hz:=HZ.out
    have hp:=ZmO (w6:=w5.alloc (.cells #[.int .i64 k,.int .i64 (-1),.int .i64 en,.slice fo F.length fc,.slice none 0 0] 193)) HN.out hz HX3.out.lt HF4.out (HU5.out.alloc _)
    exact HN6.out.push _ (HN6.out.nds.snoc_one HMm.out hp.1 hp.2.1 hp.2.2) hown7 hg7 hat7
   case measure=>simp [intOf];omega
  ·have hkl:=hm.1
   have hkb3:(k:Int) < b:=by omega
   have hkl2:(k:Int) < l.length:=by omega
   have hwr:IntKind.i64.wrap ((k:Int)+1)=((k+1:Nat):Int):=IntWalk.i64_in _ (by omega)
   have hwe:IntKind.i64.wrap ((en:Int)+1)=((en+1:Nat):Int):=IntWalk.i64_in _ (by omega)
   have hwn:IntKind.i64.wrap ((n:Int)+1)=((n+1:Nat):Int):=IntWalk.i64_in _ (by omega)
   have HW:=Zh (And.intro hwr (And.intro hwe hwn))
   have HMm:=Zh hm
   have HSs:=Zh (And.intro hs2 (And.intro hs3 hs4))
   obtain ⟨ad,rfl,o0,-,-⟩:=HL.out k hkl wr HN.out.low
   obtain ⟨op,hop2⟩:∃ o,o=(l.getD k default).op:=⟨_,rfl⟩
   rw [←hop2] at o0
   have HO:=Zh (show ZaR op=true by rw [hop2];exact hm.2.1)
   have hl0:=Zac o0
   obtain ⟨B,hB⟩:∃ B,B=wr.heap.size:=⟨_,rfl⟩
   have HBB:=Zh hB
   have HX0:=Zh (Blk.new' (w:=wr) #[.int .i64 k,.int .i64 (-1),.int .i64 (-1),.slice none 0 0,.slice none 0 0] 193 hB)
   have HB0:=Zh (show Below wr.heap.size wr (wr.alloc (.cells #[.int .i64 k,.int .i64 (-1),.int .i64 (-1),.slice none 0 0,.slice none 0 0] 193)) by exact bE)
   have HC:=Zh (HMt.out _ (Zaf HN.out.low HB0.out) k en n hm)
   clear hwr hwe hwn hm hs2 hs3 hs4 hop2 hB
   go_upto_region 8 with (first
    | (go_at_call 162;refine (ZcP _ _).mono ?_;rintro e w2 ⟨rfl,rfl⟩;rw [HO.out])
    | (go_at_call 163;refine HC.out.mono ?_;rintro e w2 ⟨rfl,hb2⟩;have HB2:=Zh (Zaf HB0.out hb2);have HX2:=Zh (HX0.out.old hb2);clear hb2;rw [←HBB.out];have x1:=HX2.out.cell 1 (v:=.int .i64 (-1)) rfl;have x2:=HX2.out.cell 2 (v:=.int .i64 (-1)) rfl;have f1:=HX2.out.frozen 1;have f2:=HX2.out.frozen 2))
   obtain ⟨w3,hw3⟩:∃ w3,w3=(w2.setCell ⟨B,1,none⟩ (.int .i64 n)).setCell ⟨B,2,none⟩ (.int .i64 en):=⟨_,rfl⟩
   have HX3:=Zh (show Blk w3 B #[.int .i64 k,.int .i64 n,.int .i64 en,.slice none 0 0,.slice none 0 0] 193 by rw [hw3];exact (HX2.out.set 1 _).set 2 _)
   have HB3:=Zh (show Below wr.heap.size wr w3 by rw [hw3];have:=HBB.out;exact ZcW (ZcW HB2.out (by omega) _) (by omega) _)
   rw [←hw3]
   clear x1 x2 f1 f2 hw3
   have y1:=HX3.out.cell 1 (v:=.int .i64 n) rfl
   have y2:=HX3.out.cell 2 (v:=.int .i64 en) rfl
   have hwr:=HW.out.1
   have hwn:=HW.out.2.2
   have hn0:¬ (n:Int) < 0:=by omega
   go_upto_region 10 with fail
   refine rO (Cs [(⟨B,1,none⟩,.int .i64 n),(⟨B,2,none⟩,.int .i64 en)]) (oL [0,1,2,3,4,6,7,8,9,10,11,105,13,112,114,15,116]) ⟨y1,y2,trivial⟩ ?_
   repeat refine pO ?_
   refine oO fun Kv hK=>?_
   go_simp
   refine (HI.out (k+1) n _ HSs.out.1 (by omega) (by omega) (Zaf HN.out.low HB3.out.drew)).mono ?_
   rintro e w4 ⟨fo,fc,F,rfl,hown4,hnd4,hb4⟩
   have HF4:=Zh (And.intro hown4 hnd4)
   have HB4:=Zh (Zaf HB3.out.drew hb4)
   have HX4:=Zh (HX3.out.old (Zaf (Below.refl _ _).drew hb4))
   refine hK _ _ ⟨⟨HX4.out.cell 1 rfl,HX4.out.cell 2 rfl,trivial⟩,?_⟩
   clear hK Kv hown4 hnd4 hb4 y1 y2
   repeat refine pO ?_
   refine oO fun Kv hK=>?_
   go_simp
   refine (HI.out (n+1) en _ HSs.out.2.1 (by omega) henb (Zaf HN.out.low HB4.out)).mono ?_
   rintro e w5 ⟨so,sc,S,rfl,hown5,hnd5,hb5⟩
   have HF5:=Zh (And.intro hown5 hnd5)
   have HB45:=Zh hb5
   have HB5:=Zh (Zaf HB4.out hb5)
   have HX5:=Zh (HX4.out.old hb5)
   refine hK _ _ ⟨⟨HX5.out.cell 1 rfl,HX5.out.cell 2 rfl,trivial⟩,?_⟩
   clear hK Kv hown5 hnd5 hb5
   have y3:=HX5.out.cell 3 (v:=.slice none 0 0) rfl
   have f3:=HX5.out.frozen 3
   refine oO fun Kv hK=>?_
   go_simp
   obtain ⟨w6,hw6⟩:∃ w6,w6=w5.setCell ⟨B,3,none⟩ (.slice fo F.length fc):=⟨_,rfl⟩
   have HX6:=Zh (show Blk w6 B #[.int .i64 k,.int .i64 n,.int .i64 en,.slice fo F.length fc,.slice none 0 0] 193 by rw [hw6];exact HX5.out.set 3 _)
   have HU6:=Zh (show Upd B B w5 w6 by rw [hw6];exact (Upd.refl B B w5).set 3 _)
   have HB6:=Zh (show Below wr.heap.size wr w6 by rw [hw6];have:=HBB.out;exact ZcW HB5.out (by omega) _)
   rw [←hw6]
   refine hK _ _ ⟨⟨HX6.out.cell 1 rfl,HX6.out.cell 2 rfl,trivial⟩,?_⟩
   clear hK Kv y3 f3 hw6
   repeat refine pO ?_
   have y4:=HX6.out.cell 4 (v:=.slice none 0 0) rfl
   have f4:=HX6.out.frozen 4
   refine oO fun Kv hK=>?_
   go_simp
   obtain ⟨w7,hw7⟩:∃ w7,w7=w6.setCell ⟨B,4,none⟩ (.slice so S.length sc):=⟨_,rfl⟩
   have HX7:=Zh (show Blk w7 B #[.int .i64 k,.int .i64 n,.int .i64 en,.slice fo F.length fc,.slice so S.length sc] 193 by rw [hw7];exact HX6.out.set 4 _)
   have HU7:=Zh (show Upd B B w5 w7 by rw [hw7];exact HU6.out.set 4 _)
   have HB7:=Zh (show Below wr.heap.size wr w7 by rw [hw7];have:=HBB.out;exact ZcW HB6.out (by omega) _)
   rw [←hw7]
   refine hK _ _ ⟨⟨HX7.out.cell 1 rfl,HX7.out.cell 2 rfl,trivial⟩,?_⟩
   clear hK Kv y4 f4 hw7 hwr hwn
   refine Zd5 ?_
   have y0:=HX7.out.cell 0 (v:=.int .i64 k) rfl
   have y1:=HX7.out.cell 1 (v:=.int .i64 n) rfl
   have y2:=HX7.out.cell 2 (v:=.int .i64 en) rfl
   have y3:=HX7.out.cell 3 (v:=.slice fo F.length fc) rfl
   have y4:=HX7.out.cell 4 (v:=.slice so S.length sc) rfl
   have HB8:=Zh (show Below wr.heap.size wr (w7.alloc (.cells #[.int .i64 k,.int .i64 n,.int .i64 en,.slice fo F.length fc,.slice so S.length sc] 193)) by have:=HB7.out;exact bE)
   have HN8:=Zh (HN.out.old HB8.out)
   have hwr:=HW.out.2.1
   go_wp2_with (at_builtin;refine ZmI rfl (.tmp 60) (.tmp 62) 140 rfl w.heap.size 193 5 72 ZmJ (.slice ro rows.length rc) rows.length (Zak rows) rfl HN8.out.own ⟨w7.heap.size,0,none⟩ 1 1 (Zak [(⟨k,n,en,fo,F.length,fc,so,S.length,sc⟩:VN)]) rfl (ZmL _ _ _ (by simp) ⟨rfl,rfl⟩) (Zaq _) (by omega) (by unfold maxLen;omega) (by have:=HN8.out.low.size;simp at this ⊢;omega) (by decide) ?_;intro ao' cap' w9 hown9 hg9 hat9)
   go_roundw
   case rel=>
    refine ⟨en+1,ao',cap',rows++[⟨k,n,en,fo,F.length,fc,so,S.length,sc⟩],rfl,by simp,by omega,by omega,by simp;omega,HSs.out.2.2,?_⟩
    have h3:=HX3.out.lt
    have h4:=HX4.out.lt
    have hp:=ZmO (w6:=w7.alloc (.cells #[.int .i64 k,.int .i64 n,.int .i64 en,.slice fo F.length fc,.slice so S.length sc] 193)) HN.out HB3.out.size HX3.out.lt HF4.out (((Upd.of HB45.out).trans HU7.out).alloc _)
    have hq:=ZmO (w6:=w7.alloc (.cells #[.int .i64 k,.int .i64 n,.int .i64 en,.slice fo F.length fc,.slice so S.length sc] 193)) HN.out HB4.out.size HX4.out.lt HF5.out (HU7.out.alloc _)
    exact HN8.out.push _ (HN8.out.nds.snoc_two HMm.out hp.1 hp.2.1 hp.2.2 hq.1 hq.2.1 hq.2.2) hown9 hg9 hat9
   case measure=>simp [intOf];omega
theorem ZmQ (l:List In3) (ao:Option Addr) (cap:Nat) (hv:ZaV false l=0):∀ (n a b:Nat) (w:World),b-a≤n→Zar w ao cap l→Seg l a b →
  Calls Tryz.prog 104 #[.slice ao l.length cap,.int .i64 a,.int .i64 b] w (Zmz w l a b)
 | 0,a,b,w,hn,hl,hs=>ZmP l ao cap a b w hl hv hs fun a' b' w' h1 h2 h3 h4=>by have:=(Zmo h1).1;omega
 | n+1,a,b,w,hn,hl,hs=>ZmP l ao cap a b w hl hv hs fun a' b' w' h1 h2 h3 h4=>ZmQ l ao cap hv n a' b' w' (by have:=(Zmo h1).1;omega) (Zar.old hl h4) h1
end
section
def ZmR:Int:=1000000001
def ZmS (a b:Int):Int:=min (a+b) ZmR
def ZmT (a b:Int):Int:=min (a*b) ZmR
def ZmU (i:In3):Int:=((opC.getD i.op.toNat 0:Nat):Int)+if i.op=15∨i.op=16 then i.a else 0
structure Ms where
 wt:In3→Int
 tl:Int
 sc:Bool
def ZmV:Ms:=⟨ZmU,1,false⟩
def ZmW (T:Int→Int) (l:List Int):Int:=l.foldl (fun a t=>max a (T t)) 0
def gW (x:Ms) (m:Md) (T:Int→Int):Wg where
 plus:=ZmS
 pl i:=if i.op=25 then ZmS (x.wt i) (T i.a) else if i.op=26 then ZmS (x.wt i) (ZmW T (ZaN m i.a)) else x.wt i
 brk i f s:=if i.op=29 then ZmS (x.wt i) (max (ZmS f x.tl) (ZmS s x.tl)) else if i.op=30 then ZmS (x.wt i) (ZmT i.a (ZmS f x.tl)) else if i.op=32∧x.sc=true then x.wt i else if i.op=33 then ZmS (x.wt i) (ZmS (ZmS f x.tl) s) else ZmS (x.wt i) (ZmS f x.tl)
def ZmX (a b:Int):Int:=if a<0∨b<0 then -1 else ZmS a b
def ZmY (a b:Int):Int:=if a<0 then b else if b<0 then a else min a b
def ZmZ (G:(Int→Int)→Wg) (m:Md):Nat→List Int
 | 0=>[]
 | k+1=>ZmZ G m k++[WA (G fun t=>(ZmZ G m k).getD t.toNat 0) (m.me.getD k default).k 0 (m.me.getD k default).k.length 0]
def Zm0 (G:(Int→Int)→Wg) (m:Md) (k:Nat):Int:=(ZmZ G m (k+1)).getD k 0
theorem Zm1 (G:(Int→Int)→Wg) (m:Md):∀ k,(ZmZ G m k).length=k
 | 0=>rfl
 | k+1=>by unfold ZmZ;simp [Zm1 G m k]
theorem Zm2 (G:(Int→Int)→Wg) (m:Md) {j k:Nat} (h:j<k):(ZmZ G m k).getD j 0=Zm0 G m j:=by
 induction k with
 | zero=>omega
 |succ k ih=>
  by_cases hj:j=k
  ·subst hj;rfl
  ·conv=>lhs;unfold ZmZ
   rw [List.getD_eq_getElem?_getD,List.getElem?_append_left (by rw [Zm1];omega),←List.getD_eq_getElem?_getD]
   exact ih (by omega)
theorem Zm3 {g g':Wg}{l:List In3}{a b:Nat} (h:Seg l a b) (h1:g.plus=g'.plus) (h2:g.brk=g'.brk) (h3:∀ i∈l,g.pl i=g'.pl i):∀ acc,WA g l a b acc=WA g' l a b acc:=by
 induction h with
 | nil a h=>intro acc;rw [Zmv,Zmv]
 |pl a b q1 q2 q3 q4 q5 ih=>
  intro acc
  rw [Zmw q2 q5,Zmw q2 q5,ih,h1,h3 _ (by rw [List.getD_eq_getElem?_getD,List.getElem?_eq_getElem q1];exact List.getElem_mem q1)]
 | one a en b q1 q2 q3 i1 i2=>intro acc;rw [Zmx q1 q2 q3,Zmx q1 q2 q3,i1,i2,h1,h2]
 | two a n en b q1 q2 q3 q4 i1 i2 i3=>intro acc;rw [Zmy q1 q2 q3 q4,Zmy q1 q2 q3 q4,i1,i2,i3,h1,h2]
theorem Zm4 {G:(Int→Int)→Wg}{m:Md}{k:Nat} (hs:Seg (m.me.getD k default).k 0 (m.me.getD k default).k.length) {T:Int→Int} (hp:∀ S S',(G S).plus=(G S').plus) (hb:∀ S S',(G S).brk=(G S').brk)
  (hc:∀ i∈(m.me.getD k default).k,(G fun t=>(ZmZ G m k).getD t.toNat 0).pl i=(G T).pl i):Zm0 G m k=WA (G T) (m.me.getD k default).k 0 (m.me.getD k default).k.length 0:=by
 unfold Zm0 ZmZ
 rw [List.getD_eq_getElem?_getD,List.getElem?_append_right (by rw [Zm1];omega),Zm1,Nat.sub_self]
 exact Zm3 hs (hp _ _) (hb _ _) hc 0
theorem Zm5 {T T':Int→Int}{l:List Int} (h:∀ t∈l,T t=T' t):ZmW T l=ZmW T' l:=by
 unfold ZmW
 generalize (0:Int)=a
 induction l generalizing a with
 | nil=>rfl
 | cons x r ih=>rw [List.foldl_cons,List.foldl_cons,h x (by simp)];exact ih (fun t ht=>h t (by simp [ht])) _
end
end Go.Proofs.YtcfjblcgceednaaGreat
