/- Joined texts. The first: Where an opening's else and end stand, computed; what a stretch of code weighs. -/
import Derived.Test.YtcfjblcgceednaaGreatG1
import Derived.Lib.SmallJoins
set_option linter.all false
set_option linter.unusedVariables false
set_option linter.unusedSimpArgs false
set_option maxRecDepth 100000
namespace Go.Proofs.YtcfjblcgceednaaGreat
section
def mtF (l:List In3):Nat→Nat→Nat→Int→Int × Nat
 | 0,_,_,_=>(-1,0)
 | f+1,d,p,alt=>
  if ZaR (l.getD p default).op=true then mtF l f (d+1) (p+1) alt
  else if (l.getD p default).op=34 then mtF l f d (p+1) (if d=0 then (p:Int) else alt)
  else if (l.getD p default).op=35 then (match d with
   | 0=>(alt,p)
   | e+1=>mtF l f e (p+1) alt)
  else mtF l f d (p+1) alt
def mtV (l:List In3) (o:Nat):Int × Nat:=mtF l l.length 0 (o+1) (-1)
theorem Zml {l:List In3} (alt:Int):∀ (n p f:Nat) (S T:List Br) (D D':Nat),p+n≤l.length→n≤f→ZaT (S,D) ((l.drop p).take n)=some (T,D')→mtF l f S.length p alt=mtF l (f-n) T.length (p+n) alt
 | 0,p,f,S,T,D,D',_,_,h=>by cases h;rfl
 | n+1,p,f,S,T,D,D',hp,hf,h=>by
  obtain ⟨f,rfl⟩:∃ g,f=g+1:=⟨f-1,by omega⟩
  rw [List.drop_eq_getElem_cons (by omega),List.take_succ_cons] at h
  unfold ZaT at h
  have hx:l[p]'(by omega)=l.getD p default:=by simp [show p<l.length by omega]
  rw [hx] at h
  split at h
  ·cases h
  ·rename_i t ht
   obtain ⟨U,D2⟩:=t
   have ih:=Zml alt n (p+1) f U T D2 D' (by omega) (by omega) h
   rw [show f+1-(n+1)=f-n by omega,show p+(n+1)=p+1+n by omega,←ih]
   unfold ZaS at ht
   conv=>lhs;unfold mtF
   split at ht
   ·rename_i ho
    rw [if_pos ho]
    cases ht
    rfl
   ·rename_i ho
    rw [if_neg ho]
    split at ht
    ·rename_i h34
     rw [if_pos h34]
     cases S with
     | nil=>cases ht
     | cons b r=>
      dsimp only at ht
      split at ht
      ·cases ht
       rw [if_neg (by simp)]
       rfl
      ·cases ht
    ·rename_i h34
     rw [if_neg h34]
     split at ht
     ·rename_i h35
      rw [if_pos h35]
      cases S with
      | nil=>cases ht
      | cons b r=>
       dsimp only at ht
       split at ht
       ·cases ht
       ·cases ht
        rfl
     ·rename_i h35
      rw [if_neg h35]
      cases ht
      rfl
theorem Zmm {l:List In3}{a b d f:Nat} (alt:Int) (h:Za7 l a b d) (hf:b-a≤f):mtF l f 0 a alt=mtF l (f-(b-a)) 0 b alt:=by
 obtain ⟨h1,h2,h3⟩:=h [] 0 (Nat.le_refl _)
 have:=Zml alt (b-a) a f [] [] 0 _ (by omega) hf h3
 rw [show a+(b-a)=b by omega] at this
 exact this
theorem Zmn {l:List In3}{o en:Nat}{alt:Int} (h:Mat l o alt en):mtV l o=(alt,en):=by
 have hlt:=ZbI h
 obtain ⟨h0,h1,h2,h3,h4⟩:=h
 have hend:∀ f (x:Int),0<f→mtF l f 0 en x=(x,en):=fun f x hf=>by
  obtain ⟨g,rfl⟩:∃ g,f=g+1:=⟨f-1,by omega⟩
  unfold mtF
  rw [if_neg (by rw [Zbf (.inr h3)];decide),if_neg (by omega),if_pos h3]
 unfold mtV
 rcases h4 with ⟨rfl,h5,d,h6⟩|⟨n,rfl,h5,h6,h7,⟨d,h8⟩,i,h9⟩
 ·have:=Za9 h6
  rw [Zmm (-1) h6 (by omega),hend _ _ (by omega)]
 ·have g1:=Za9 h8
  have g2:=Za9 h9
  rw [Zmm (-1) h8 (by omega)]
  obtain ⟨f,hf⟩:∃ f,l.length-(n-(o+1))=f+1:=⟨l.length-(n-(o+1))-1,by omega⟩
  rw [hf]
  conv=>lhs;unfold mtF
  rw [if_neg (by rw [Zbf (.inl h6)];decide),if_pos h6,if_pos rfl,Zmm (n:Int) h9 (by omega),hend _ _ (by omega)]
structure Wg where
 plus:Int→Int→Int
 pl:In3→Int
 brk:In3→Int→Int→Int
def wL (g:Wg) (l:List In3):Nat→Nat→Nat→Int→Int
 | 0,_,_,acc=>acc
 | f+1,a,b,acc=>
  if a<b then
   if ZaR (l.getD a default).op=true then
    wL g l f ((mtV l a).2+1) b (g.plus acc (g.brk (l.getD a default) (wL g l f (a+1) (if (mtV l a).1<0 then (mtV l a).2 else (mtV l a).1.toNat) 0) (if (mtV l a).1<0 then 0 else wL g l f ((mtV l a).1.toNat+1) (mtV l a).2 0)))
   else wL g l f (a+1) b (g.plus acc (g.pl (l.getD a default)))
  else acc
end
section
inductive Seg (l:List In3):Nat→Nat→Prop
 | nil (a:Nat):a≤l.length→Seg l a a
 | pl (a b:Nat):a<l.length→ZaR (l.getD a default).op=false→(l.getD a default).op≠34→(l.getD a default).op≠35→Seg l (a+1) b→Seg l a b
 | one (a en b:Nat):Mat l a (-1) en→Seg l (a+1) en→Seg l (en+1) b→Seg l a b
 | two (a n en b:Nat):Mat l a n en→Seg l (a+1) n→Seg l (n+1) en→Seg l (en+1) b→Seg l a b
theorem Zmo {l:List In3}{a b:Nat} (h:Seg l a b):a≤b∧b≤l.length:=by
 induction h with
 | nil a h=>exact ⟨Nat.le_refl _,h⟩
 | pl a b h1 h2 h3 h4 h5 ih=>omega
 | one a en b h1 h2 h3 i1 i2=>have:=ZbI h1;omega
 | two a n en b h1 h2 h3 h4 i1 i2 i3=>have:=ZbI h1;omega
theorem Zmp (l:List In3):∀ (n a:Nat) (S:List Br) (D D':Nat),l.length-a≤n→a≤l.length→ZaT (S,D) (l.drop a)=some ([],D') →
  ∃ b d E,Seg l a b∧Za7 l a b d∧ZaT (S,E) (l.drop b)=some ([],D')∧((b=l.length∧S=[])∨(b<l.length∧((l.getD b default).op=34∨(l.getD b default).op=35)))
 | n,a,S,D,D',hn,ha,h=>by
  by_cases hal:a=l.length
  ·refine ⟨a,0,D,.nil a ha,Zba ha,h,.inl ⟨hal,?_⟩⟩
   rw [hal,List.drop_length] at h
   cases h
   rfl
  have hal2:a<l.length:=by omega
  obtain ⟨n,rfl⟩:∃ k,n=k+1:=⟨n-1,by omega⟩
  have hst:∀ (S:List Br) (D b:Nat),b<l.length→ZaT (S,D) (l.drop b)=some ([],D')→∃ T E,ZaS (S,D) (l.getD b default)=some (T,E)∧ZaT (T,E) (l.drop (b+1))=some ([],D'):=fun S D b hb h=>by
   have hx:l[b]=l.getD b default:=by simp [hb]
   rw [List.drop_eq_getElem_cons hb,hx] at h
   unfold ZaT at h
   split at h
   ·cases h
   ·rename_i t ht
    exact ⟨t.1,t.2,ht,h⟩
  obtain ⟨T,E,h1,h2⟩:=hst _ _ _ hal2 h
  by_cases hop:ZaR (l.getD a default).op=true
  ·unfold ZaS at h1
   rw [if_pos hop] at h1
   cases h1
   obtain ⟨b1,d1,E1,s1,g1,n1,q1⟩:=Zmp l n (a+1) _ _ D' (by omega) (by omega) h2
   rcases q1 with ⟨_,hq⟩|⟨hb1,hq⟩
   ·cases hq
   obtain ⟨T2,E2,h3,h4⟩:=hst _ _ _ hb1 n1
   have hle:=(Zmo s1).1
   rcases hq with hq|hq
   ·unfold ZaS at h3
    rw [Zbf (.inl hq),if_neg (by decide),if_pos hq] at h3
    dsimp only at h3
    split at h3
    ·rename_i hc
     cases h3
     obtain ⟨b2,d2,E3,s2,g2,n2,q2⟩:=Zmp l n (b1+1) _ _ D' (by omega) (by omega) h4
     rcases q2 with ⟨_,hq2⟩|⟨hb2,hq2⟩
     ·cases hq2
     obtain ⟨T3,E4,h5,h6⟩:=hst _ _ _ hb2 n2
     have hle2:=(Zmo s2).1
     have h35:(l.getD b2 default).op=35:=by
      rcases hq2 with hq2|hq2
      ·unfold ZaS at h5
       rw [Zbf (.inl hq2),if_neg (by decide),if_pos hq2] at h5
       simp at h5
      ·exact hq2
     unfold ZaS at h5
     rw [Zbf (.inr h35),if_neg (by decide),if_neg (by omega),if_pos h35] at h5
     simp at h5
     obtain ⟨rfl,rfl⟩:=h5
     obtain ⟨b3,d3,E5,s3,g3,n3,q3⟩:=Zmp l n (b2+1) _ _ D' (by omega) (by omega) h6
     exact ⟨b3,_,E5,.two a b1 b2 b3 ⟨hal2,hop,hb2,h35,.inr ⟨b1,rfl,hb1,hq,hc.1,⟨_,g1⟩,_,g2⟩⟩ s1 s2 s3,Zbb (Zbo hal2 hop g1 hb1 hq hc.1 g2 hb2 h35) g3,n3,q3⟩
    ·cases h3
   ·unfold ZaS at h3
    rw [Zbf (.inr hq),if_neg (by decide),if_neg (by omega),if_pos hq] at h3
    dsimp only at h3
    split at h3
    ·cases h3
    ·rename_i hc
     cases h3
     have h33:(l.getD a default).op≠33:=fun q=>hc ⟨q,rfl⟩
     obtain ⟨b3,d3,E5,s3,g3,n3,q3⟩:=Zmp l n (b1+1) _ _ D' (by omega) (by omega) h4
     exact ⟨b3,_,E5,.one a b1 b3 ⟨hal2,hop,hb1,hq,.inl ⟨rfl,h33,_,g1⟩⟩ s1 s3,Zbb (Zbn hal2 hop g1 hb1 hq h33) g3,n3,q3⟩
  ·by_cases hx:(l.getD a default).op=34∨(l.getD a default).op=35
   ·exact ⟨a,0,D,.nil a ha,Zba ha,h,.inr ⟨hal2,hx⟩⟩
   ·have hop':ZaR (l.getD a default).op=false:=by simpa using hop
    rw [Zbc hop' (by omega) (by omega)] at h1
    cases h1
    obtain ⟨b,d,E,s,g,n3,q3⟩:=Zmp l n (a+1) _ _ D' (by omega) (by omega) h2
    exact ⟨b,_,E,.pl a b hal2 hop' (by omega) (by omega) s,Zbb (Zbd (Zba ha) hal2 hop' (by omega) (by omega)) g,n3,q3⟩
theorem Zmq {l:List In3} (h:ZaU l=true):Seg l 0 l.length:=by
 unfold ZaU at h
 split at h
 ·cases h
 ·rename_i st d hf
  simp only [Bool.and_eq_true,List.isEmpty_iff] at h
  obtain ⟨rfl,_⟩:=h
  obtain ⟨b,e,E,s,g,n,q⟩:=Zmp l l.length 0 [] 0 d (by omega) (by omega) hf
  rcases q with ⟨rfl,_⟩|⟨hb,hq⟩
  ·exact s
  ·have hx:l[b]=l.getD b default:=by simp [hb]
   rw [List.drop_eq_getElem_cons hb,hx] at n
   unfold ZaT ZaS at n
   rw [Zbf hq,if_neg (by decide)] at n
   rcases hq with hq|hq
   ·rw [if_pos hq] at n;cases n
   ·rw [if_neg (by omega),if_pos hq] at n;cases n
theorem Zmr (g:Wg) (l:List In3) (f a:Nat) (acc:Int):wL g l f a a acc=acc:=by
 cases f with
 | zero=>rfl
 | succ f=>unfold wL;rw [if_neg (Nat.lt_irrefl a)]
theorem Zms {g:Wg}{l:List In3}{f a b:Nat}{acc:Int} (h1:ZaR (l.getD a default).op=false) (hab:a<b):wL g l (f+1) a b acc=wL g l f (a+1) b (g.plus acc (g.pl (l.getD a default))):=by
 conv=>lhs;unfold wL
 rw [if_pos hab,if_neg (by rw [h1];decide)]
theorem Zmt {g:Wg}{l:List In3}{f a b en:Nat}{alt acc:Int} (h:Mat l a alt en) (hab:a<b):wL g l (f+1) a b acc =
  wL g l f (en+1) b (g.plus acc (g.brk (l.getD a default) (wL g l f (a+1) (if alt<0 then en else alt.toNat) 0) (if alt<0 then 0 else wL g l f (alt.toNat+1) en 0))):=by
 conv=>lhs;unfold wL
 rw [if_pos hab,if_pos (show ZaR (l.getD a default).op=true from h.2.1),Zmn h]
theorem Zmu {g:Wg}{l:List In3}{a b:Nat} (h:Seg l a b):∀ (f f':Nat) (acc:Int),b-a≤f→b-a≤f'→wL g l f a b acc=wL g l f' a b acc:=by
 induction h with
 | nil a h=>intro f f' acc _ _;rw [Zmr,Zmr]
 | pl a b h1 h2 h3 h4 h5 ih=>
  intro f f' acc hf hf'
  have:=(Zmo h5).1
  obtain ⟨f,rfl⟩:∃ k,f=k+1:=⟨f-1,by omega⟩
  obtain ⟨f',rfl⟩:∃ k,f'=k+1:=⟨f'-1,by omega⟩
  rw [Zms h2 (by omega),Zms h2 (by omega)]
  exact ih _ _ _ (by omega) (by omega)
 | one a en b h1 h2 h3 i1 i2=>
  intro f f' acc hf hf'
  have:=ZbI h1
  have:=(Zmo h3).1
  obtain ⟨f,rfl⟩:∃ k,f=k+1:=⟨f-1,by omega⟩
  obtain ⟨f',rfl⟩:∃ k,f'=k+1:=⟨f'-1,by omega⟩
  rw [Zmt h1 (by omega),Zmt h1 (by omega),if_pos (by decide),if_pos (by decide),if_pos (by decide),i1 f f' _ (by omega) (by omega)]
  exact i2 _ _ _ (by omega) (by omega)
 | two a n en b h1 h2 h3 h4 i1 i2 i3=>
  intro f f' acc hf hf'
  have:=ZbI h1
  have:=(Zmo h2).1
  have:=(Zmo h3).1
  have:=(Zmo h4).1
  obtain ⟨f,rfl⟩:∃ k,f=k+1:=⟨f-1,by omega⟩
  obtain ⟨f',rfl⟩:∃ k,f'=k+1:=⟨f'-1,by omega⟩
  have hn:¬ (n:Int) < 0:=by omega
  rw [Zmt h1 (by omega),Zmt h1 (by omega),if_neg hn,if_neg hn,if_neg hn,Int.toNat_natCast,i1 f f' _ (by omega) (by omega),i2 f f' _ (by omega) (by omega)]
  exact i3 _ _ _ (by omega) (by omega)
def WA (g:Wg) (l:List In3) (a b:Nat) (acc:Int):Int:=wL g l (b-a) a b acc
section
variable {g:Wg}{l:List In3}{a n en b:Nat}{acc:Int}
theorem Zmv:WA g l a a acc=acc:=Zmr _ _ _ _ _
theorem Zmw (h2:ZaR (l.getD a default).op=false) (h5:Seg l (a+1) b):WA g l a b acc=WA g l (a+1) b (g.plus acc (g.pl (l.getD a default))):=by
 have:=(Zmo h5).1
 unfold WA
 rw [show b-a=(b-(a+1))+1 by omega,Zms h2 (by omega)]
theorem Zmx (h1:Mat l a (-1) en) (h2:Seg l (a+1) en) (h3:Seg l (en+1) b):WA g l a b acc=WA g l (en+1) b (g.plus acc (g.brk (l.getD a default) (WA g l (a+1) en 0) 0)):=by
 have:=ZbI h1
 have:=(Zmo h3).1
 unfold WA
 rw [show b-a=(b-(a+1))+1 by omega,Zmt h1 (by omega),if_pos (by decide),if_pos (by decide),Zmu h2 _ (en-(a+1)) _ (by omega) (by omega),Zmu h3 _ (b-(en+1)) _ (by omega) (by omega)]
theorem Zmy (h1:Mat l a n en) (h2:Seg l (a+1) n) (h3:Seg l (n+1) en) (h4:Seg l (en+1) b):WA g l a b acc=WA g l (en+1) b (g.plus acc (g.brk (l.getD a default) (WA g l (a+1) n 0) (WA g l (n+1) en 0))):=by
 have:=ZbI h1
 have:=(Zmo h2).1
 have:=(Zmo h3).1
 have:=(Zmo h4).1
 have hn:¬ (n:Int) < 0:=by omega
 unfold WA
 rw [show b-a=(b-(a+1))+1 by omega,Zmt h1 (by omega),if_neg hn,if_neg hn,Int.toNat_natCast,Zmu h2 _ (n-(a+1)) _ (by omega) (by omega),Zmu h3 _ (en-(n+1)) _ (by omega) (by omega),Zmu h4 _ (b-(en+1)) _ (by omega) (by omega)]
end
end
section
open Go.RowKit
structure VN where
 at_:Int
 alt:Int
 en:Int
 fo:Option Addr
 fn:Nat
 fc:Nat
 so:Option Addr
 sn:Nat
 sc:Nat
instance:Inhabited VN:=⟨⟨0,0,0,none,0,0,none,0,0⟩⟩
instance:Cells VN:=⟨5,by decide,fun t=>[.int .i64 t.at_,.int .i64 t.alt,.int .i64 t.en,.slice t.fo t.fn t.fc,.slice t.so t.sn t.sc],fun _=>rfl,by
 intro x u hu;simp only [List.mem_cons,List.not_mem_nil,or_false] at hu;rcases hu with rfl|rfl|rfl|rfl|rfl<;>rfl⟩
def Lie (P:Nat→Prop) (ao:Option Addr):Prop:=∀ ad,ao=some ad→P ad.block
inductive Nds (w:World) (l:List In3) (P:Nat→Prop):Nat→Nat→List VN→Prop
 | nil (a:Nat):a≤l.length→Nds w l P a a []
 | pl (a b:Nat) (r:List VN):a<l.length→ZaR (l.getD a default).op=false→(l.getD a default).op≠34→(l.getD a default).op≠35→Nds w l P (a+1) b r→Nds w l P a b (⟨a,-1,-1,none,0,0,none,0,0⟩ :: r)
 | one (a en b:Nat) (fo:Option Addr) (fc:Nat) (F r:List VN):Mat l a (-1) en→Zar w fo fc F→Lie P fo∧F.length≤fc→Nds w l P (a+1) en F→Nds w l P (en+1) b r→Nds w l P a b (⟨a,-1,en,fo,F.length,fc,none,0,0⟩ :: r)
 | two (a n en b:Nat) (fo so:Option Addr) (fc sc:Nat) (F S r:List VN):Mat l a n en→Zar w fo fc F→Lie P fo∧F.length≤fc→Nds w l P (a+1) n F→Zar w so sc S→Lie P so∧S.length≤sc→Nds w l P (n+1) en S→Nds w l P (en+1) b r→Nds w l P a b (⟨a,n,en,fo,F.length,fc,so,S.length,sc⟩ :: r)
theorem Nds.le {w:World}{l:List In3}{P:Nat→Prop}{a b:Nat}{r:List VN} (h:Nds w l P a b r):a+r.length≤b∧b≤l.length:=by
 induction h with
 | nil a h=>simp [h]
 | pl a b r h1 h2 h3 h4 h5 ih=>simp;omega
 | one a en b fo fc F r h1 h2 h3 h4 h5 i1 i2=>have:=ZbI h1;simp;omega
 | two a n en b fo so fc sc F S r h1 h2 h3 h4 h5 h6 h7 h8 i1 i2 i3=>have:=ZbI h1;simp;omega
theorem Nds.seg {w:World}{l:List In3}{P:Nat→Prop}{a b:Nat}{r:List VN} (h:Nds w l P a b r):Seg l a b:=by
 induction h with
 | nil a h=>exact .nil a h
 | pl a b r h1 h2 h3 h4 h5 ih=>exact .pl a b h1 h2 h3 h4 ih
 | one a en b fo fc F r h1 h2 h3 h4 h5 i1 i2=>exact .one a en b h1 i1 i2
 | two a n en b fo so fc sc F S r h1 h2 h3 h4 h5 h6 h7 h8 i1 i2 i3=>exact .two a n en b h1 i1 i2 i3
theorem Nds.keep {w w':World}{l:List In3}{P Q:Nat→Prop}{a b:Nat}{r:List VN} (h:Nds w l P a b r) (hr:∀ (ao:Option Addr) (c:Nat) (L:List VN),Zar w ao c L→Lie P ao→Zar w' ao c L∧Lie Q ao):Nds w' l Q a b r:=by
 induction h with
 | nil a h=>exact .nil a h
 | pl a b r h1 h2 h3 h4 h5 ih=>exact .pl a b r h1 h2 h3 h4 ih
 | one a en b fo fc F r h1 h2 h3 h4 h5 i1 i2=>exact .one a en b fo fc F r h1 (hr _ _ _ h2 h3.1).1 ⟨(hr _ _ _ h2 h3.1).2,h3.2⟩ i1 i2
 | two a n en b fo so fc sc F S r h1 h2 h3 h4 h5 h6 h7 h8 i1 i2 i3=>exact .two a n en b fo so fc sc F S r h1 (hr _ _ _ h2 h3.1).1 ⟨(hr _ _ _ h2 h3.1).2,h3.2⟩ i1 (hr _ _ _ h5 h6.1).1 ⟨(hr _ _ _ h5 h6.1).2,h6.2⟩ i2 i3
theorem Nds.old {w w':World}{l:List In3}{P:Nat→Prop}{a b:Nat}{r:List VN} (h:Nds w l P a b r) (hb:Below w.heap.size w w'):Nds w' l P a b r:=
 h.keep fun _ _ _ h1 h2=>⟨h1.old hb,h2⟩
theorem Nds.weak {w:World}{l:List In3}{P Q:Nat→Prop}{a b:Nat}{r:List VN} (h:Nds w l P a b r) (hq:∀ k,P k→Q k):Nds w l Q a b r:=
 h.keep fun _ _ _ h1 h2=>⟨h1,fun ad e=>hq _ (h2 ad e)⟩
theorem Nds.snoc_pl {w:World}{l:List In3}{P:Nat→Prop}{a k:Nat}{r:List VN} (h:Nds w l P a k r) (h1:k<l.length) (h2:ZaR (l.getD k default).op=false) (h3:(l.getD k default).op≠34) (h4:(l.getD k default).op≠35):Nds w l P a (k+1) (r++[⟨k,-1,-1,none,0,0,none,0,0⟩]):=by
 induction h with
 | nil a h=>exact .pl a (a+1) [] h1 h2 h3 h4 (.nil _ (by omega))
 | pl a b r q1 q2 q3 q4 q5 ih=>exact .pl a _ _ q1 q2 q3 q4 (ih h1 h2 h3 h4)
 | one a en b fo fc F r q1 q2 q3 q4 q5 i1 i2=>exact .one a en _ fo fc F _ q1 q2 q3 q4 (i2 h1 h2 h3 h4)
 | two a n en b fo so fc sc F S r q1 q2 q3 q4 q5 q6 q7 q8 i1 i2 i3=>exact .two a n en _ fo so fc sc F S _ q1 q2 q3 q4 q5 q6 q7 (i3 h1 h2 h3 h4)
theorem Nds.snoc_one {w:World}{l:List In3}{P:Nat→Prop}{a k en:Nat}{r F:List VN}{fo:Option Addr}{fc:Nat} (h:Nds w l P a k r) (h1:Mat l k (-1) en) (h2:Zar w fo fc F) (h3:Lie P fo∧F.length≤fc) (h4:Nds w l P (k+1) en F):Nds w l P a (en+1) (r++[⟨k,-1,en,fo,F.length,fc,none,0,0⟩]):=by
 induction h with
 | nil a h=>exact .one a en _ fo fc F [] h1 h2 h3 h4 (.nil _ (by have:=h1.2.2.1;omega))
 | pl a b r q1 q2 q3 q4 q5 ih=>exact .pl a _ _ q1 q2 q3 q4 (ih h1 h4)
 | one a en b fo fc F r q1 q2 q3 q4 q5 i1 i2=>exact .one a en _ fo fc F _ q1 q2 q3 q4 (i2 h1 h4)
 | two a n en b fo so fc sc F S r q1 q2 q3 q4 q5 q6 q7 q8 i1 i2 i3=>exact .two a n en _ fo so fc sc F S _ q1 q2 q3 q4 q5 q6 q7 (i3 h1 h4)
theorem Nds.snoc_two {w:World}{l:List In3}{P:Nat→Prop}{a k n en:Nat}{r F S:List VN}{fo so:Option Addr}{fc sc:Nat} (h:Nds w l P a k r) (h1:Mat l k n en) (h2:Zar w fo fc F) (h3:Lie P fo∧F.length≤fc) (h4:Nds w l P (k+1) n F) (h5:Zar w so sc S) (h6:Lie P so∧S.length≤sc) (h7:Nds w l P (n+1) en S) :
  Nds w l P a (en+1) (r++[⟨k,n,en,fo,F.length,fc,so,S.length,sc⟩]):=by
 induction h with
 | nil a h=>exact .two a n en _ fo so fc sc F S [] h1 h2 h3 h4 h5 h6 h7 (.nil _ (by have:=h1.2.2.1;omega))
 | pl a b r q1 q2 q3 q4 q5 ih=>exact .pl a _ _ q1 q2 q3 q4 (ih h1 h4)
 | one a en b fo fc F r q1 q2 q3 q4 q5 i1 i2=>exact .one a en _ fo fc F _ q1 q2 q3 q4 (i2 h1 h4)
 | two a n en b fo so fc sc F S r q1 q2 q3 q4 q5 q6 q7 q8 i1 i2 i3=>exact .two a n en _ fo so fc sc F S _ q1 q2 q3 q4 q5 q6 q7 (i3 h1 h4)
def Zmz (W:World) (l:List In3) (a b:Nat):Ending→World→Prop:=fun e w'=>∃ ro rc rows,e=.returned (.slice ro rows.length rc)∧w'.ownsRow W.heap.size 193 5 (.slice ro rows.length rc) rows.length (Zak rows)∧Nds w' l (fun k=>W.heap.size≤k∧k<w'.heap.size) a b rows∧Below W.heap.size W w'
section
variable {w:World}{base:Nat}{e:TypeId}{size:Nat}{ao:Option Addr}{n c:Nat}{xs:List Value}(h:w.ownsRow base e size (.slice ao n c) n xs)
include w base e size ao n c xs h
theorem ZmA:Lie (fun k=>base≤k∧k<w.heap.size) ao:=by
 intro ad hd
 subst hd
 exact h.lt ad.block rfl
theorem ZmB:n≤c:=by
 rcases h.2 with ⟨hv,h0⟩|⟨g,cap,cur,hv,hg,hh,h4⟩
 ·cases hv;exact Nat.le_refl _
 ·cases hv;first|exact h4.1|omega|(have:=h4;omega)
end
theorem ZmC {w w':World}{row:Option Nat}{ao:Option Addr}{c:Nat}{L:List VN} (h:Zar w ao c L) (hg:w.grownBy w' row) (hne:∀ ad,ao=some ad→row≠some ad.block):Zar w' ao c L:=
 ⟨h.1,h.2.1,fun j u hu=>by
  obtain ⟨a,ha,hc⟩:=h.2.2 j u hu
  exact ⟨a,ha,(World.cell?_of_block (w:=w) (hg.block _ (Zac hc) (fun e=>hne a ha (by rw [Zag] at e;exact e.symm)))).trans hc⟩⟩
theorem Nds.grow {w w':World}{l:List In3}{row:Option Nat}{base a b:Nat}{r:List VN} (h:Nds w l (fun k=>base≤k∧k<w.heap.size∧row≠some k) a b r) (hg:w.grownBy w' row) {Q:Nat→Prop} (hq:∀ k,base≤k→k<w.heap.size→row≠some k→Q k):Nds w' l Q a b r:=
 h.keep fun _ _ _ h1 h2=>⟨ZmC h1 hg fun ad e=>(h2 ad e).2.2,fun ad e=>hq _ (h2 ad e).1 (h2 ad e).2.1 (h2 ad e).2.2⟩
end
section
def ZmD:Int:=1000000001
def ZmE (a b:Int):Int:=min (a+b) ZmD
def ZmF (a b:Int):Int:=min (a*b) ZmD
def ZmG (i:In3):Int:=((opC.getD i.op.toNat 0:Nat):Int)+if i.op=15∨i.op=16 then i.a else 0
structure Ms where
 wt:In3→Int
 tl:Int
 sc:Bool
def ZmH:Ms:=⟨ZmG,1,false⟩
def ZmI (T:Int→Int) (l:List Int):Int:=l.foldl (fun a t=>max a (T t)) 0
def gW (x:Ms) (m:Md) (T:Int→Int):Wg where
 plus:=ZmE
 pl i:=if i.op=25 then ZmE (x.wt i) (T i.a) else if i.op=26 then ZmE (x.wt i) (ZmI T (ZaN m i.a)) else x.wt i
 brk i f s:=if i.op=29 then ZmE (x.wt i) (max (ZmE f x.tl) (ZmE s x.tl)) else if i.op=30 then ZmE (x.wt i) (ZmF i.a (ZmE f x.tl)) else if i.op=32∧x.sc=true then x.wt i else if i.op=33 then ZmE (x.wt i) (ZmE (ZmE f x.tl) s) else ZmE (x.wt i) (ZmE f x.tl)
def ZmJ (a b:Int):Int:=if a<0∨b<0 then -1 else ZmE a b
def ZmK (a b:Int):Int:=if a<0 then b else if b<0 then a else min a b
def ZmL (T:Int→Int) (l:List Int):Int:=l.foldl (fun a t=>ZmK a (T t)) (match l with|[]=>0|t :: _=>T t)
def gL (m:Md) (T:Int→Int):Wg where
 plus:=ZmJ
 pl i:=if i.op=25 then ZmJ (ZmG i) (T i.a) else if i.op=26 then ZmJ (ZmG i) (ZmL T (ZaN m i.a)) else if i.op=28 then -1 else ZmG i
 brk i f s:=if i.op=29∨i.op=33 then ZmJ (ZmG i) (ZmJ (ZmK f s) 1) else if i.op=30 then ZmG i else ZmJ (ZmG i) (ZmJ f 1)
def ZmM (G:(Int→Int)→Wg) (m:Md):Nat→List Int
 | 0=>[]
 | k+1=>ZmM G m k++[WA (G fun t=>(ZmM G m k).getD t.toNat 0) (m.me.getD k default).k 0 (m.me.getD k default).k.length 0]
def ZmN (G:(Int→Int)→Wg) (m:Md) (k:Nat):Int:=(ZmM G m (k+1)).getD k 0
theorem ZmO (G:(Int→Int)→Wg) (m:Md):∀ k,(ZmM G m k).length=k
 | 0=>rfl
 | k+1=>by unfold ZmM;simp [ZmO G m k]
theorem ZmP (G:(Int→Int)→Wg) (m:Md) {j k:Nat} (h:j<k):(ZmM G m k).getD j 0=ZmN G m j:=by
 induction k with
 | zero=>omega
 | succ k ih=>
  by_cases hj:j=k
  ·subst hj;rfl
  ·conv=>lhs;unfold ZmM
   rw [List.getD_eq_getElem?_getD,List.getElem?_append_left (by rw [ZmO];omega),←List.getD_eq_getElem?_getD]
   exact ih (by omega)
theorem ZmQ {g g':Wg}{l:List In3}{a b:Nat} (h:Seg l a b) (h1:g.plus=g'.plus) (h2:g.brk=g'.brk) (h3:∀ i∈l,g.pl i=g'.pl i):∀ acc,WA g l a b acc=WA g' l a b acc:=by
 induction h with
 | nil a h=>intro acc;rw [Zmv,Zmv]
 | pl a b q1 q2 q3 q4 q5 ih=>
  intro acc
  rw [Zmw q2 q5,Zmw q2 q5,ih,h1,h3 _ (by rw [List.getD_eq_getElem?_getD,List.getElem?_eq_getElem q1];exact List.getElem_mem q1)]
 | one a en b q1 q2 q3 i1 i2=>intro acc;rw [Zmx q1 q2 q3,Zmx q1 q2 q3,i1,i2,h1,h2]
 | two a n en b q1 q2 q3 q4 i1 i2 i3=>intro acc;rw [Zmy q1 q2 q3 q4,Zmy q1 q2 q3 q4,i1,i2,i3,h1,h2]
theorem ZmR {G:(Int→Int)→Wg}{m:Md}{k:Nat} (hs:Seg (m.me.getD k default).k 0 (m.me.getD k default).k.length) {T:Int→Int} (hp:∀ S S',(G S).plus=(G S').plus) (hb:∀ S S',(G S).brk=(G S').brk)
  (hc:∀ i∈(m.me.getD k default).k,(G fun t=>(ZmM G m k).getD t.toNat 0).pl i=(G T).pl i):ZmN G m k=WA (G T) (m.me.getD k default).k 0 (m.me.getD k default).k.length 0:=by
 unfold ZmN ZmM
 rw [List.getD_eq_getElem?_getD,List.getElem?_append_right (by rw [ZmO];omega),ZmO,Nat.sub_self]
 exact ZmQ hs (hp _ _) (hb _ _) hc 0
theorem ZmS {T T':Int→Int}{l:List Int} (h:∀ t∈l,T t=T' t):ZmI T l=ZmI T' l:=by
 unfold ZmI
 generalize (0:Int)=a
 induction l generalizing a with
 | nil=>rfl
 | cons x r ih=>rw [List.foldl_cons,List.foldl_cons,h x (by simp)];exact ih (fun t ht=>h t (by simp [ht])) _
theorem ZmT {T T':Int→Int}{l:List Int} (h:∀ t∈l,T t=T' t):ZmL T l=ZmL T' l:=by
 have:∀ (l:List Int) (a:Int),(∀ t∈l,T t=T' t)→l.foldl (fun a t=>ZmK a (T t)) a=l.foldl (fun a t=>ZmK a (T' t)) a:=by
  intro l
  induction l with
  | nil=>intro a _;rfl
  | cons x r ih=>intro a h;rw [List.foldl_cons,List.foldl_cons,h x (by simp)];exact ih _ (fun t ht=>h t (by simp [ht]))
 unfold ZmL
 cases l with
 | nil=>rfl
 | cons x r=>dsimp only;rw [h x (by simp)];exact this _ _ h
end
section
open Go.ChangeShapes Go.WideShapes Go.ChangeAt Go.RowKit
theorem ZmU {H:Type} (d:DataW H):1≤Rows.uptoBulk d:=by
 cases d with
 | lit l=>cases l<;>simp [Rows.uptoBulk]
 | nil=>simp [Rows.uptoBulk]
 | ptr d=>simp [Rows.uptoBulk]
 | slice elems spare=>simp [Rows.uptoBulk]
 | agg parts=>simp [Rows.uptoBulk]
 | iface t d=>simp [Rows.uptoBulk]
 | map entries=>simp [Rows.uptoBulk]
 | held h=>simp [Rows.uptoBulk]
theorem ZmV {H:Type} (l:List (DataW H)):l.length≤Rows.uptoBulkAll l:=by
 induction l with
 | nil=>simp [Rows.uptoBulkAll]
 | cons x r ih=>have:=ZmU x;simp only [Rows.uptoBulkAll,List.length_cons];omega
theorem ZmW {H:Type} (elems spare:List (DataW H)):elems.length+spare.length+1≤Rows.uptoBulk (.slice elems spare):=by
 have h1:=ZmV elems
 have h2:=ZmV spare
 simp only [Rows.uptoBulk]
 omega
theorem ZmX {H:Type}{l:List (DataW H)} (hk:Rows.uptoSmall H l=true):Rows.uptoBulkAll l≤1048576:=of_decide_eq_true hk
theorem ZmY {H:Type} (k:IntKind) (zs:List Int):(lits (H:=H) k zs).length=zs.length:=by simp [lits]
theorem ZmZ {H:Type}{enc:TypeId × Value→H}{P:Program}{W:World}{r:Reach}{b0:Nat}{t e:TypeId}{k:IntKind}{v:Value}{d:DataW H}{ps:List MemPlace}
  (ht:P.underlying t=some (.slice e)) (he:P.underlying e=some (.int k)) (hc:P.cellsOf e=1)
  (hval:Value.okWide P W r b0 t v) (hd:DataW.Trod enc P W 0 (fun _=>true) true t v d ps) :
  ∃ a cap zs,v=.slice a zs.length cap∧(Sl k W a zs∧(a=none→cap=0))∧(∀ n∈zs,(Lit.int k n).wf=true)∧zs.length≤maxLen∧zs.length≤Rows.uptoBulk d:=by
 obtain ⟨a,len,cap,rfl⟩:=okWide_slice ht hval
 obtain ⟨fuel,hf⟩:=hd
 rcases open_ints ht he hc hf with ⟨hcs,_⟩|⟨x,l,c,zs,hcs,_,hl,hm,hz,hx,hcell,hwz⟩
 ·simp [Value.cells] at hcs
  obtain ⟨rfl,rfl,rfl⟩:=hcs
  exact ⟨none,0,[],rfl,⟨fun i hi=>by simp at hi,fun _=>rfl⟩,by simp,by simp,by simp⟩
 ·simp [Value.cells] at hcs
  obtain ⟨rfl,rfl,rfl⟩:=hcs
  have hz':zs.length=cap:=by simpa using hz
  obtain ⟨rfl,_⟩:=Prod.mk.inj hx
  refine ⟨some x,cap,zs.take len,by rw [List.length_take,Nat.min_eq_left (by omega)],⟨?_,fun h=>by cases h⟩,fun n hn=>hwz n (List.mem_of_mem_take hn),by rw [List.length_take];omega,?_⟩
  ·intro i hi
   rw [List.length_take] at hi
   refine ⟨x,rfl,?_⟩
   rw [hcell i (by omega),List.getD_eq_getElem?_getD,List.getD_eq_getElem?_getD,List.getElem?_take_of_lt (by omega)]
  ·refine Nat.le_trans ?_ (ZmW _ _)
   rw [ZmY];omega
theorem Zm0 {n:Int} (h:(Lit.int .i64 n).wf=true):-9223372036854775808≤n∧n≤9223372036854775807:=by
 simpa [Lit.wf,IntKind.min,IntKind.max,IntKind.bits,IntKind.signed] using h
end
section
open Go.ChangeShapes Go.WideShapes Go.ChangeAt Go.RowKit Go.Deep
theorem Zm1 {α:Type} [Inhabited α] {Q:Nat→α→Prop}:∀ n,(∀ i,i<n→∃ x,Q i x)→∃ l:List α,l.length=n∧∀ i,i<n→Q i (l.getD i default)
 | 0,_=>⟨[],rfl,fun i hi=>by omega⟩
 | n+1,h=>by
  obtain ⟨l,hl,hq⟩:=Zm1 n fun i hi=>h i (by omega)
  obtain ⟨x,hx⟩:=h n (by omega)
  refine ⟨l++[x],by simp [hl],fun i hi=>?_⟩
  by_cases hin:i<n
  ·rw [List.getD_eq_getElem?_getD,List.getElem?_append_left (by omega),←List.getD_eq_getElem?_getD];exact hq i hin
  ·obtain rfl:i=n:=by omega
   rw [List.getD_eq_getElem?_getD,List.getElem?_append_right (by omega),hl];simpa using hx
section
variable {H:Type}{enc:TypeId × Value→H}{P:Program}{W:World}
theorem Zm2 {d:DataW H}:∀ {l:List (DataW H)},d∈l→Rows.uptoBulk d≤Rows.uptoBulkAll l
 | [],h=>by cases h
 | x :: r,h=>by
  unfold Rows.uptoBulkAll
  rcases List.mem_cons.1 h with rfl|h
  ·omega
  ·have:=Zm2 h;omega
theorem Zm3 {α:Type} [Cells α] [Inhabited α] {Q:α→Prop}{t e:TypeId}{fuel:Nat}{v:Value}{y:DataW H × List MemPlace} (hN:Rows.uptoBulk y.1≤1048576) (ht:P.underlying t=some (.slice e)) (hC:P.cellsOf e=Cells.n α)
  (hel:∀ n cs z,Rows.uptoBulk z.1≤1048576→cs.length=Cells.n α→DataW.trod enc P W 0 (fun _=>true) true n e cs=some z→∃ x:α,cs=Cells.cells x∧Q x) (h:DataW.trod enc P W 0 (fun _=>true) true fuel t [v]=some y) :
  ∃ ao cap,∃ l:List α,v=.slice ao l.length cap∧Zar W ao cap l∧l.length≤cap∧l.length≤1048576∧∀ i,i<l.length→Q (l.getD i default):=by
 rcases open_slice ht h with ⟨hcs,_⟩|⟨a,len,cap,k,n,D,Pl,hcs,_,hl,hm,hmm,hx,hi⟩
 ·obtain rfl:v=.slice none 0 0:=by simpa using hcs
  exact ⟨none,0,[],rfl,Zar.nil W,by simp,by simp,fun i hi=>by simp at hi⟩
 ·obtain rfl:v=.slice (some a) len cap:=by simpa using hcs
  have hlm:len≤k:=by simp at hmm;omega
  have hex:∀ i,i<len→∃ x:α,Q x∧∀ j (hj:j<Cells.n α),W.cell? (a.add (i*Cells.n α+j))=(Cells.cells x)[j]?:=by
   intro i hil
   obtain ⟨cs',hc,ht'⟩:=hi i (by omega)
   rw [hC] at hc
   obtain ⟨_,hcl,hat⟩:=World.cells?_some hc
   obtain ⟨x,hxc,hq⟩:=hel n cs' _ (Nat.le_trans (Zm2 (List.mem_map.2 ⟨i,List.mem_range.2 hil,rfl⟩)) (by rw [hx] at hN;unfold Rows.uptoBulk at hN;omega)) hcl ht'
   refine ⟨x,hq,fun j hj=>?_⟩
   rw [←hxc,←hat j hj,Go.Deep.add_add]
  obtain ⟨l,hll,hq⟩:=Zm1 len hex
  refine ⟨some a,cap,l,by rw [hll],⟨Zam l,(fun h=>by cases h),fun j u hu=>⟨a,rfl,?_⟩⟩,by omega,?_,fun i hi=>(hq i (by omega)).1⟩
  rotate_left
  ·rw [hx] at hN
   dsimp only at hN
   have:=ZmW ((List.range len).map D) ((List.range (k-len)).map fun j=>D (len+j))
   simp only [List.length_map,List.length_range] at this
   omega
  have hn:=Cells.pos (α:=α)
  have hj:j<l.length*Cells.n α:=by
   have:=(List.getElem?_eq_some_iff.1 hu).1
   rwa [Zam] at this
  have hi4:j / Cells.n α<l.length:=(Nat.div_lt_iff_lt_mul hn).2 hj
  have hjm:j % Cells.n α<Cells.n α:=Nat.mod_lt _ hn
  have hjj:j=j / Cells.n α*Cells.n α+j % Cells.n α:=by rw [Nat.mul_comm];exact (Nat.div_add_mod j _).symm
  have h1:=(hq (j / Cells.n α) (by omega)).2 (j % Cells.n α) hjm
  rw [hjj,Zap l _ hi4 _ hjm] at hu
  rw [←hjj] at h1
  rw [h1,←hu]
  simp [hi4]
theorem Zm4 {cs:List Value} (hl:cs.length=2):∃ a b,cs=[a,b]:=by
 match cs,hl with
 | [a,b],_=>exact ⟨a,b,rfl⟩
theorem Zm5 {cs:List Value} (hl:cs.length=3):∃ a b c,cs=[a,b,c]:=by
 match cs,hl with
 | [a,b,c],_=>exact ⟨a,b,c,rfl⟩
theorem Zm6 {cs:List Value} (hl:cs.length=4):∃ a b c d,cs=[a,b,c,d]:=by
 match cs,hl with
 | [a,b,c,d],_=>exact ⟨a,b,c,d,rfl⟩
theorem Zm7 {cs:List Value} (hl:cs.length=7):∃ a b c d e f g,cs=[a,b,c,d,e,f,g]:=by
 match cs,hl with
 | [a,b,c,d,e,f,g],_=>exact ⟨a,b,c,d,e,f,g,rfl⟩
end
section
variable {H:Type}{enc:TypeId × Value→H}{W:World}
section
variable (n:Nat)(cs:List Value)(z:DataW H × List MemPlace)
include n cs z
theorem Zm8 (_:Rows.uptoBulk z.1≤1048576) (_:cs.length=Cells.n Int) (h:DataW.trod enc Tryz.prog W 0 (fun _=>true) true n 3 cs=some z):∃ x:Int,cs=Cells.cells x∧True:=by
 obtain ⟨k,e,_⟩:=DataW.trod_int Tryz.underlying3 h
 exact ⟨k,e,trivial⟩
theorem Zm9 (_:Rows.uptoBulk z.1≤1048576) (hl:cs.length=Cells.n Ty) (h:DataW.trod enc Tryz.prog W 0 (fun _=>true) true n 76 cs=some z):∃ x:Ty,cs=Cells.cells x∧True:=by
 obtain ⟨xs,n,_,_,_,hlen,hf⟩:=DataW.trod_struct Tryz.underlying76 h
 obtain ⟨a,b,rfl⟩:=Zm4 hl
 have h0:=hf 0 _ rfl
 have h1:=hf 1 _ rfl
 rw [show xs[0]?=some (xs[0]'(by rw [hlen];decide)) by simp] at h0
 rw [show xs[1]?=some (xs[1]'(by rw [hlen];decide)) by simp] at h1
 obtain ⟨k0,e0,_⟩:=DataW.trod_int Tryz.underlying3 h0
 obtain ⟨k1,e1,_⟩:=DataW.trod_int Tryz.underlying3 h1
 have e0':[a]=[Value.int .i64 k0]:=e0
 have e1':[b]=[Value.int .i64 k1]:=e1
 cases e0'
 cases e1'
 exact ⟨⟨k0,k1⟩,rfl,trivial⟩
theorem Zna (_:Rows.uptoBulk z.1≤1048576) (hl:cs.length=Cells.n In3) (h:DataW.trod enc Tryz.prog W 0 (fun _=>true) true n 78 cs=some z):∃ x:In3,cs=Cells.cells x∧True:=by
 obtain ⟨xs,n,_,_,_,hlen,hf⟩:=DataW.trod_struct Tryz.underlying78 h
 obtain ⟨a,b,c,rfl⟩:=Zm5 hl
 have h0:=hf 0 _ rfl
 have h1:=hf 1 _ rfl
 have h2:=hf 2 _ rfl
 rw [show xs[0]?=some (xs[0]'(by rw [hlen];decide)) by simp] at h0
 rw [show xs[1]?=some (xs[1]'(by rw [hlen];decide)) by simp] at h1
 rw [show xs[2]?=some (xs[2]'(by rw [hlen];decide)) by simp] at h2
 obtain ⟨k0,e0,_⟩:=DataW.trod_int Tryz.underlying3 h0
 obtain ⟨k1,e1,_⟩:=DataW.trod_int Tryz.underlying3 h1
 obtain ⟨k2,e2,_⟩:=DataW.trod_int Tryz.underlying3 h2
 have e0':[a]=[Value.int .i64 k0]:=e0
 have e1':[b]=[Value.int .i64 k1]:=e1
 have e2':[c]=[Value.int .i64 k2]:=e2
 cases e0'
 cases e1'
 cases e2'
 exact ⟨⟨k0,k1,k2⟩,rfl,trivial⟩
end
theorem Znb {z:DataW H × List MemPlace}{xs:List (DataW H × List MemPlace)} (hzx:z=(.agg (xs.map (·.1)),xs.flatMap (·.2))) (hz:Rows.uptoBulk z.1≤1048576) {i:Nat} (hi:i<xs.length):Rows.uptoBulk (xs[i]).1≤1048576:=by
 refine Nat.le_trans (Zm2 (l:=xs.map (·.1)) (List.mem_map.2 ⟨xs[i],List.getElem_mem hi,rfl⟩)) ?_
 rw [hzx] at hz
 unfold Rows.uptoBulk at hz
 omega
def Znc (W:World) (x:Cls × CHd):Prop:=Zar W x.2.fo x.2.fc x.1.f∧Zar W x.2.mo x.2.mc x.1.m∧x.1.f.length≤x.2.fc∧x.1.f.length≤1048576∧x.1.m.length≤1048576
def Znd (W:World) (x:Mth × MHd):Prop:=Zar W x.2.po x.2.pc x.1.p∧Zar W x.2.lo x.2.lc x.1.l∧Zar W x.2.ko x.2.kc x.1.k∧x.1.p.length≤1048576∧x.1.l.length≤1048576∧x.1.k.length≤1048576
instance:Inhabited (Cls × CHd):=⟨default,default⟩
instance:Inhabited (Mth × MHd):=⟨default,default⟩
theorem Zne (n:Nat) (cs:List Value) (z:DataW H × List MemPlace) (hz:Rows.uptoBulk z.1≤1048576) (hl:cs.length=Cells.n (Cls × CHd)) (h:DataW.trod enc Tryz.prog W 0 (fun _=>true) true n 99 cs=some z):∃ x:Cls × CHd,cs=Cells.cells x∧Znc W x:=by
 obtain ⟨xs,n,_,hzx,_,hlen,hf⟩:=DataW.trod_struct Tryz.underlying99 h
 have hp:∀ i (hi:i<xs.length),Rows.uptoBulk (xs[i]).1≤1048576:=fun i hi=>Znb hzx hz hi
 obtain ⟨a,b,c,d,rfl⟩:=Zm6 hl
 have h0:=hf 0 _ rfl
 have h1:=hf 1 _ rfl
 have h2:=hf 2 _ rfl
 have h3:=hf 3 _ rfl
 rw [show xs[0]?=some (xs[0]'(by rw [hlen];decide)) by simp] at h0
 rw [show xs[1]?=some (xs[1]'(by rw [hlen];decide)) by simp] at h1
 rw [show xs[2]?=some (xs[2]'(by rw [hlen];decide)) by simp] at h2
 rw [show xs[3]?=some (xs[3]'(by rw [hlen];decide)) by simp] at h3
 obtain ⟨k0,e0,_⟩:=DataW.trod_string Tryz.underlying9 h0
 obtain ⟨k1,e1,_⟩:=DataW.trod_int Tryz.underlying3 h1
 have e0':[a]=[Value.string k0]:=e0
 have e1':[b]=[Value.int .i64 k1]:=e1
 cases e0'
 cases e1'
 obtain ⟨fo,fc,f,rfl,hfr,hfl,hfc,_⟩:=Zm3 (α:=Ty) (v:=c) (hp 2 _) Tryz.underlying23 (by kernel_rfl) Zm9 h2
 obtain ⟨mo,mc,l,rfl,hmr,hml,hmc,_⟩:=Zm3 (α:=Int) (v:=d) (hp 3 _) Tryz.underlying34 (by kernel_rfl) Zm8 h3
 exact ⟨(⟨k0,k1,f,l⟩,⟨fo,fc,mo,mc⟩),rfl,hfr,hmr,hfl,hfc,hmc⟩
theorem Znf (n:Nat) (cs:List Value) (z:DataW H × List MemPlace) (hz:Rows.uptoBulk z.1≤1048576) (hl:cs.length=Cells.n (Mth × MHd)) (h:DataW.trod enc Tryz.prog W 0 (fun _=>true) true n 81 cs=some z):∃ x:Mth × MHd,cs=Cells.cells x∧Znd W x:=by
 obtain ⟨xs,n,_,hzx,_,hlen,hf⟩:=DataW.trod_struct Tryz.underlying81 h
 have hp:∀ i (hi:i<xs.length),Rows.uptoBulk (xs[i]).1≤1048576:=fun i hi=>Znb hzx hz hi
 obtain ⟨a,b,c,d,r,s,k,rfl⟩:=Zm7 hl
 have h0:=hf 0 _ rfl
 have h1:=hf 1 _ rfl
 have h2:=hf 2 _ rfl
 have h3:=hf 3 _ rfl
 have h4:=hf 4 _ rfl
 have h5:=hf 5 _ rfl
 rw [show xs[0]?=some (xs[0]'(by rw [hlen];decide)) by simp] at h0
 rw [show xs[1]?=some (xs[1]'(by rw [hlen];decide)) by simp] at h1
 rw [show xs[2]?=some (xs[2]'(by rw [hlen];decide)) by simp] at h2
 rw [show xs[3]?=some (xs[3]'(by rw [hlen];decide)) by simp] at h3
 rw [show xs[4]?=some (xs[4]'(by rw [hlen];decide)) by simp] at h4
 rw [show xs[5]?=some (xs[5]'(by rw [hlen];decide)) by simp] at h5
 obtain ⟨k0,e0,_⟩:=DataW.trod_string Tryz.underlying9 h0
 obtain ⟨k1,e1,_⟩:=DataW.trod_int Tryz.underlying3 h1
 have e0':[a]=[Value.string k0]:=e0
 have e1':[b]=[Value.int .i64 k1]:=e1
 cases e0'
 cases e1'
 obtain ⟨po,pc,p,rfl,hpr,hpl,hpc,_⟩:=Zm3 (α:=Ty) (v:=c) (hp 2 _) Tryz.underlying23 (by kernel_rfl) Zm9 h2
 obtain ⟨lo,lc,l,rfl,hlr,hll,hlc,_⟩:=Zm3 (α:=Ty) (v:=d) (hp 3 _) Tryz.underlying23 (by kernel_rfl) Zm9 h3
 obtain ⟨t,ht,_⟩:=Zm9 (cs:=[r,s]) _ _ (hp 4 _) rfl h4
 have ht':[r,s]=[Value.int .i64 t.k,Value.int .i64 t.c]:=ht
 cases ht'
 obtain ⟨ko,kc,q,rfl,hkr,hkl,hkc,_⟩:=Zm3 (α:=In3) (v:=k) (hp 5 _) Tryz.underlying79 (by kernel_rfl) Zna h5
 exact ⟨(⟨k0,k1,p,l,t,q⟩,⟨po,pc,lo,lc,ko,kc⟩),rfl,hpr,hlr,hkr,hpc,hlc,hkc⟩
theorem Zng {α β:Type} [Inhabited α] [Inhabited (α × β)] (l:List (α × β)) {i:Nat} (hi:i<l.length):(l.map Prod.fst).getD i default=(l.getD i default).1:=by simp [hi]
theorem Znh {α β:Type} [Inhabited β] [Inhabited (α × β)] (l:List (α × β)):((l.map Prod.fst).mapIdx fun i x=>(x,(l.getD i default).2))=l:=by
 apply List.ext_getElem
 ·simp
 ·intro i h1 h2
  simp [h2]
structure MdB (m:Md):Prop where
 z:m.cl.length≤1048576∧m.st.length≤1048576∧m.me.length≤1048576
 c:∀ i,i<m.cl.length→(m.cl.getD i default).f.length≤1048576∧(m.cl.getD i default).m.length≤1048576
 m:∀ i,i<m.me.length→(m.me.getD i default).p.length≤1048576∧(m.me.getD i default).l.length≤1048576∧(m.me.getD i default).k.length≤1048576
section
variable {r:Reach}{b0:Nat}{v:Value}{d:DataW H}{ps:List MemPlace}(hval:Value.okWide Tryz.prog W r b0 26 v)(hd:DataW.Trod enc Tryz.prog W 0 (fun _=>true) true 26 v d ps)(hN:Rows.uptoBulk d≤1048576)
include r b0 v d ps hval hd hN
theorem Zni:
  ∃ h m,v=.agg #[.slice h.co m.cl.length h.cc,.slice h.so m.st.length h.sc,.slice h.eo m.me.length h.ec,.int .i64 m.sel]∧Zay W h m∧MdB m:=by
 obtain ⟨v0,v1,v2,v3,y0,y1,y2,y3,n,rfl,hdd,_,h0,h1,h2,h3⟩:=Go.Joins.open_agg4 Tryz.underlying26 (by kernel_rfl) (by kernel_rfl) hval hd
 rw [hdd] at hN
 simp only [Rows.uptoBulk,Rows.uptoBulkAll] at hN
 obtain ⟨co,cc,cl,rfl,hcr,hcl,hcm,hcq⟩:=Zm3 (α:=Cls × CHd) (v:=v0) (by omega) Tryz.underlying22 (by kernel_rfl) Zne h0
 obtain ⟨so,sc,st,rfl,hsr,hsl,hsm,_⟩:=Zm3 (α:=Ty) (v:=v1) (by omega) Tryz.underlying23 (by kernel_rfl) Zm9 h1
 obtain ⟨eo,ec,me,rfl,her,hel,hem,heq⟩:=Zm3 (α:=Mth × MHd) (v:=v2) (by omega) Tryz.underlying24 (by kernel_rfl) Znf h2
 obtain ⟨s,e3,_⟩:=DataW.trod_int Tryz.underlying3 h3
 obtain rfl:v3=_:=by simpa using e3
 refine ⟨⟨co,cc,so,sc,eo,ec,fun i=>(cl.getD i default).2,fun i=>(me.getD i default).2⟩,⟨cl.map Prod.fst,st,me.map Prod.fst,s⟩,by simp,?_,⟨by dsimp only;simp only [List.length_map];omega,fun i hi=>?_,fun i hi=>?_⟩⟩
 rotate_left
 ·dsimp only at hi ⊢;rw [List.length_map] at hi;rw [Zng _ hi];exact (hcq i hi).2.2.2
 ·dsimp only at hi ⊢;rw [List.length_map] at hi;rw [Zng _ hi];exact (heq i hi).2.2.2
 refine ⟨?_,hsr,?_,?_,?_,?_,?_,?_,?_,?_,?_⟩
 ·show Zar W co cc ((cl.map Prod.fst).mapIdx fun i x=>(x,(cl.getD i default).2))
  rw [Znh];exact hcr
 ·show Zar W eo ec ((me.map Prod.fst).mapIdx fun i x=>(x,(me.getD i default).2))
  rw [Znh];exact her
 all_goals try (intro i hi;dsimp only at hi ⊢;rw [List.length_map] at hi;rw [Zng _ hi])
 ·exact (hcq i hi).1
 ·exact (hcq i hi).2.1
 ·exact (heq i hi).1
 ·exact (heq i hi).2.1
 ·exact (heq i hi).2.2.1
 ·exact (hcq i hi).2.2.1
 ·have:=(heq i hi).2.2.2;omega
 ·dsimp only;simp only [List.length_map];omega
theorem Znj:
  ∃ h m,v=.agg #[.slice h.co m.cl.length h.cc,.slice h.so m.st.length h.sc,.slice h.eo m.me.length h.ec,.int .i64 m.sel]∧Zay W h m:=by
 obtain ⟨h,m,h1,h2,_⟩:=Zni hval hd hN
 exact ⟨h,m,h1,h2⟩
end
theorem Znk {r:Reach}{b0:Nat}{v:Value}{d:DataW H}{ps:List MemPlace} (hval:Value.okWide Tryz.prog W r b0 76 v) (hd:DataW.Trod enc Tryz.prog W 0 (fun _=>true) true 76 v d ps) :
  ∃ t:Ty,v=.agg #[.int .i64 t.k,.int .i64 t.c]:=by
 obtain ⟨v0,v1,y0,y1,n,rfl,_,_,h0,h1⟩:=Go.Joins.open_agg2 Tryz.underlying76 (by kernel_rfl) (by kernel_rfl) hval hd
 obtain ⟨k0,e0,_⟩:=DataW.trod_int Tryz.underlying3 h0
 obtain ⟨k1,e1,_⟩:=DataW.trod_int Tryz.underlying3 h1
 obtain rfl:v0=_:=by simpa using e0
 obtain rfl:v1=_:=by simpa using e1
 exact ⟨⟨k0,k1⟩,rfl⟩
end
end
end Go.Proofs.YtcfjblcgceednaaGreat
