/- BoundRests, the plain law: the program's rest and the document's, item by item. -/
import Derived.Test.YtfkbfjhocmbneaaGreatS33
set_option linter.all false
set_option linter.unusedVariables false
set_option linter.unusedSimpArgs false
set_option maxHeartbeats 2000000
namespace Go.Proofs.YtfkbfjhocmbneaaGreat
section
open Go.RowKit
def ZqX (z:Wg) (c:List In3) (o:Nat) (first:Prop) [Decidable first]:Int:=
 if (c.getD o default).op=30 then Zmv (max 0 ((c.getD o default).a-1)) (Zmu (WA z c (o+1) (mtV c o).2 0) 1) else if (c.getD o default).op=33∧first then WA z c ((mtV c o).1.toNat+1) (mtV c o).2 0 else 0
def ZqY (c:List In3) (o p:Nat):Nat:=if 0≤(mtV c o).1∧p≤(mtV c o).1.toNat then (mtV c o).1.toNat else (mtV c o).2
def ZqZ (z:Wg) (c:List In3):Nat→Nat→Int
 | 0,_=>0
 |n+1,p=>if arV c p p<0 then WA z c p c.length 0 else
  Zmu (Zmu (Zmu (WA z c p (ZqY c (arV c p p).toNat p) 0) 1) (ZqX z c (arV c p p).toNat ((mtV c (arV c p p).toNat).1<0∨p≤(mtV c (arV c p p).toNat).1.toNat))) (ZqZ z c n ((mtV c (arV c p p).toNat).2+1))
def rsV (z:Wg) (c:List In3) (at_:Nat):Nat→Nat→Nat→Int
 | 0,_,_=>0
 | n+1,a,b=>if b≤a then 0 else if a=at_ then WA z c a b 0 else if ZaR (c.getD a default).op=true then
   (if a<at_∧at_≤(mtV c a).2 then Zmu (WA z c ((mtV c a).2+1) b 0) (if (mtV c a).1<0∨at_≤(mtV c a).1.toNat then Zmu (Zmu 1 (rsV z c at_ n (a+1) (ZqY c a at_))) (ZqX z c a True) else Zmu 1 (rsV z c at_ n ((mtV c a).1.toNat+1) (mtV c a).2))
   else rsV z c at_ n ((mtV c a).2+1) b)
  else rsV z c at_ n (a+1) b
theorem Zq0 {c:List In3}{p a:Nat} (ha:ZaR (c.getD a default).op=true) (hp:p≤(mtV c a).2):∀ k,a<k→(∀ o,a<o→o<k→ZaR (c.getD o default).op=true→(mtV c o).2<p)→arV c p k=a
 | 0,h,_=>by omega
 |k+1,h,ho=>by
  unfold arV
  by_cases hk:k=a
  ·subst hk;rw [if_pos ⟨ha,hp⟩]
  ·rw [if_neg (fun q=>by have:=ho k (by omega) (by omega) q.1;omega)]
   exact Zq0 ha hp k (by omega) (fun o h1 h2=>ho o h1 (by omega))
theorem Zq1 {c:List In3}{p:Nat}:∀ k,(∀ o,o<k→ZaR (c.getD o default).op=true→(mtV c o).2<p)→arV c p k<0
 | 0,_=>by unfold arV;omega
 |k+1,ho=>by
  unfold arV
  rw [if_neg (fun q=>by have:=ho k (by omega) q.1;omega)]
  exact Zq1 k (fun o h1=>ho o (by omega))
theorem Zq2 {c:List In3}{a q en:Nat} (h:Mat c a q en):(c.getD q default).op=34:=by
 rcases h.2.2.2.2 with ⟨h1,_⟩|⟨n,h1,_,h2,_⟩
 ·omega
 ·obtain rfl:q=n:=by omega
  exact h2
theorem Zq3 {a b c:Int} (ha:0≤a) (hb:0≤b) (hc:0≤c):Zmu (Zmu a b) c=Zmu a (Zmu b c):=by
 unfold Zmu Zmt;omega
theorem Zq4 {z:Wg}{c:List In3}{a:Nat}{f g:Prop} [Decidable f] [Decidable g] (h:f↔g):ZqX z c a f=ZqX z c a g:=by
 unfold ZqX;simp only [h]
section
variable {z:Wg}{c:List In3} (hW:∀ a b,Seg c a b→Bd (WA z c a b 0))
include hW
theorem Zq5 {a:Nat}{alt:Int}{en:Nat} (h:Mat c a alt en) (h1:alt=-1→Seg c (a+1) en) (h2:∀ q:Nat,alt=q→Seg c (q+1) en) (f:Prop) [Decidable f]:Bd (ZqX z c a f):=by
 unfold ZqX
 rw [Zmd h]
 dsimp only
 split
 ·rename_i h3
  rcases h.2.2.2.2 with ⟨h4,_⟩|⟨n,h4,_,_,h5,_⟩
  ·have hb:=hW _ _ (h1 h4)
   have h6:0≤max 0 ((c.getD a default).a-1)*Zmu (WA z c (a+1) en 0) 1:=Int.mul_nonneg (by omega) (by unfold Bd at hb;unfold Zmu Zmt;omega)
   unfold Bd Zmv Zmt
   omega
  ·omega
 ·split
  ·rename_i h3 h4
   rcases h.2.2.2.2 with ⟨_,h5,_⟩|⟨n,h5,_⟩
   ·exact absurd h4.1 h5
   ·rw [h5,Int.toNat_natCast];exact hW _ _ (h2 n h5)
  ·unfold Bd;omega
theorem Zq6 (at_:Nat):∀ n a b,Seg c a b→Bd (rsV z c at_ n a b):=by
 have h0:Bd 0:=by unfold Bd;omega
 have h1:Bd 1:=by unfold Bd;omega
 intro n
 induction n with
 | zero=>intro a b _;exact h0
 |succ n ih=>
  intro a b hs
  unfold rsV
  split
  ·exact h0
  split
  ·exact hW _ _ hs
  rcases Zno hs with e|⟨e1,e2,_,_,e5⟩|⟨en,e1,e2,e3,e4,e5⟩|⟨q,en,e1,e2,e3,e4,e5,e6,e7⟩
  ·omega
  ·rw [if_neg (by rw [e2];decide)];exact ih _ _ e5
  ·have hb:=Zq5 hW e1 (fun _=>e4) (fun q hq=>by omega) True
   rw [if_pos (show ZaR (c.getD a default).op=true from e1.2.1)]
   unfold ZqY
   rw [Zmd e1]
   dsimp only
   split
   ·rw [if_pos (.inl (by decide)),if_neg (by omega)]
    exact ZnB (hW _ _ e5) (ZnB (ZnB h1 (ih _ _ e4)) hb)
   ·exact ih _ _ e5
  ·have hb:=Zq5 hW e1 (fun h=>by omega) (fun x hx=>(show q=x by omega)▸e6) True
   rw [if_pos (show ZaR (c.getD a default).op=true from e1.2.1)]
   unfold ZqY
   rw [Zmd e1]
   dsimp only
   rw [Int.toNat_natCast]
   split
   ·split
    ·rename_i h3
     rw [if_pos (by omega)]
     exact ZnB (hW _ _ e7) (ZnB (ZnB h1 (ih _ _ e5)) hb)
    ·exact ZnB (hW _ _ e7) (ZnB h1 (ih _ _ e6))
   ·exact ih _ _ e7
theorem Zq7 (at_:Nat):∀ n a b,Seg c a b→b-a<n→b≤c.length→∀ C,Bd C→(∀ p,a≤p→p≤b→Seg c p b→(∀ o,a≤o→o<p→ZaR (c.getD o default).op=true→(mtV c o).2<p)→∀ N,c.length<N+p→ZqZ z c N p=Zmu (WA z c p b 0) C)→a≤at_→at_≤b→∀ N,c.length<N+at_→ZqZ z c N at_=Zmu (rsV z c at_ n a b) C:=by
 have h1:Bd 1:=by unfold Bd;omega
 intro n
 induction n with
 | zero=>intro a b _ h;omega
 |succ n ih=>
  intro a b hs hn hbl C hC hp ha hb N hN
  unfold rsV
  by_cases hab:b≤a
  ·rw [if_pos hab]
   obtain rfl:a=b:=by omega
   obtain rfl:a=at_:=by omega
   have:=hp a (by omega) (by omega) hs (fun o q1 q2=>by omega) N hN
   rwa [Zml] at this
  rw [if_neg hab]
  by_cases hat:a=at_
  ·rw [if_pos hat]
   subst hat
   exact hp a (by omega) (by omega) hs (fun o q1 q2=>by omega) N hN
  rw [if_neg hat]
  rcases Zno hs with e|⟨e1,e2,_,_,e5⟩|⟨en,e1,e2,e3,e4,e5⟩|⟨q,en,e1,e2,e3,e4,e5,e6,e7⟩
  ·omega
  ·rw [if_neg (by rw [e2];decide)]
   refine ih _ _ e5 (by omega) hbl C hC (fun p q1 q2 q3 q4=>hp p (by omega) q2 q3 fun o r1 r2 r3=>?_) (by omega) hb N hN
   by_cases ho:o=a
   ·subst ho;rw [r3] at e2;cases e2
   ·exact q4 o (by omega) r2 r3
  ·have hx:=Zq5 hW e1 (fun _=>e4) (fun q hq=>by omega) True
   have hbeh:=hW _ _ e5
   rw [if_pos (show ZaR (c.getD a default).op=true from e1.2.1)]
   unfold ZqY
   rw [Zmd e1]
   dsimp only
   by_cases hin:a<at_∧at_≤en
   ·rw [if_pos hin,if_pos (.inl (by decide)),if_neg (by omega)]
    have hC':Bd (Zmu 1 (Zmu (ZqX z c a True) (Zmu (WA z c (en+1) b 0) C))):=ZnB h1 (ZnB hx (ZnB hbeh hC))
    have hr:=Zq6 hW at_ n (a+1) en e4
    have:=ih _ _ e4 (by omega) (by omega) _ hC' (fun p q1 q2 q3 q4 M hM=>by
     have har:arV c p p=a:=Zq0 e1.2.1 (by rw [Zmd e1];exact q2) p (by omega) (fun o r1 r2 r3=>q4 o (by omega) r2 r3)
     have hbb:=hp (en+1) (by omega) (by omega) e5 (fun o r1 r2 r3=>by
      by_cases ho:o=a
      ·subst ho;rw [Zmd e1];exact Nat.lt_succ_self _
      ·by_cases ho2:o=en
       ·subst ho2
        have h35:=e1.2.2.2.1
        rw [h35] at r3;cases r3
       ·have:=Zoa e4 o (by omega) (by omega) r3;omega) (M-1) (by omega)
     have hwp:=hW _ _ q3
     obtain ⟨M,rfl⟩:∃ k,M=k+1:=⟨M-1,by omega⟩
     unfold ZqZ
     rw [har,if_neg (by omega),Int.toNat_natCast]
     unfold ZqY
     rw [Zmd e1]
     dsimp only
     rw [if_neg (by omega),show M=M+1-1 from rfl,hbb]
     have hxe:ZqX z c a (-1<0∨p≤(-1:Int).toNat)=ZqX z c a True:=by unfold ZqX;simp
     rw [hxe]
     unfold Bd at *
     rw [Zq3 (by unfold Zmu Zmt;omega) hx.1 (by unfold Zmu Zmt;omega),Zq3 hwp.1 (by decide) (by unfold Zmu Zmt;omega)]) (by omega) hin.2 N hN
    rw [this]
    unfold Bd at *
    unfold Zmu Zmt;omega
   ·rw [if_neg hin]
    refine ih _ _ e5 (by omega) hbl C hC (fun p q1 q2 q3 q4=>hp p (by omega) q2 q3 fun o r1 r2 r3=>?_) (by omega) hb N hN
    by_cases ho:o=a
    ·subst ho;rw [Zmd e1];show en<p;omega
    ·by_cases ho2:o≤en
     ·by_cases ho3:o=en
      ·subst ho3
       have h35:=e1.2.2.2.1
       rw [h35] at r3;cases r3
      ·have:=Zoa e4 o (by omega) (by omega) r3;omega
     ·exact q4 o (by omega) r2 r3
  ·have hx:=Zq5 hW e1 (fun h=>by omega) (fun x hx=>(show q=x by omega)▸e6) True
   have hbeh:=hW _ _ e7
   have h34:(c.getD q default).op=34:=Zq2 e1
   have hends:∀ o,a<o→o≤en→ZaR (c.getD o default).op=true→(mtV c o).2<en+1:=fun o r1 r2 r3=>by
    by_cases ho2:o=en
    ·subst ho2
     have h35:=e1.2.2.2.1
     rw [h35] at r3;cases r3
    ·by_cases ho3:o=q
     ·subst ho3;rw [h34] at r3;cases r3
     ·by_cases ho4:o<q
      ·have:=Zoa e5 o (by omega) ho4 r3;omega
      ·have:=Zoa e6 o (by omega) (by omega) r3;omega
   have hbb:∀ M,c.length<M+(en+1)→ZqZ z c M (en+1)=Zmu (WA z c (en+1) b 0) C:=fun M hM=>hp (en+1) (by omega) (by omega) e7 (fun o r1 r2 r3=>by
    by_cases ho:o=a
    ·subst ho;rw [Zmd e1];exact Nat.lt_succ_self _
    ·exact hends o (by omega) (by omega) r3) M hM
   rw [if_pos (show ZaR (c.getD a default).op=true from e1.2.1)]
   unfold ZqY
   rw [Zmd e1]
   dsimp only
   rw [Int.toNat_natCast]
   by_cases hin:a<at_∧at_≤en
   ·rw [if_pos hin]
    by_cases hq:at_≤q
    ·rw [if_pos (.inr hq),if_pos ⟨by omega,hq⟩]
     have hC':Bd (Zmu 1 (Zmu (ZqX z c a True) (Zmu (WA z c (en+1) b 0) C))):=ZnB h1 (ZnB hx (ZnB hbeh hC))
     have hr:=Zq6 hW at_ n (a+1) q e5
     have:=ih _ _ e5 (by omega) (by omega) _ hC' (fun p q1 q2 q3 q4 M hM=>by
      have har:arV c p p=a:=Zq0 e1.2.1 (by rw [Zmd e1];show p≤en;omega) p (by omega) (fun o r1 r2 r3=>q4 o (by omega) r2 r3)
      have hwp:=hW _ _ q3
      obtain ⟨M,rfl⟩:∃ k,M=k+1:=⟨M-1,by omega⟩
      unfold ZqZ
      rw [har,if_neg (by omega),Int.toNat_natCast]
      unfold ZqY
      rw [Zmd e1]
      dsimp only
      rw [Int.toNat_natCast,if_pos ⟨by omega,q2⟩,hbb M (by omega),Zq4 (show ((q:Int) < 0∨p≤q)↔True from ⟨fun _=>trivial,fun _=>.inr q2⟩)]
      unfold Bd at *
      rw [Zq3 (by unfold Zmu Zmt;omega) hx.1 (by unfold Zmu Zmt;omega),Zq3 hwp.1 (by decide) (by unfold Zmu Zmt;omega)]) (by omega) hq N hN
     rw [this]
     unfold Bd at *
     unfold Zmu Zmt;omega
    ·rw [if_neg (by omega)]
     have hC':Bd (Zmu 1 (Zmu (WA z c (en+1) b 0) C)):=ZnB h1 (ZnB hbeh hC)
     have hr:=Zq6 hW at_ n (q+1) en e6
     have hx0:ZqX z c a False=0:=by
      unfold ZqX
      rcases e1.2.2.2.2 with ⟨h5,_⟩|⟨x,_,_,_,h5,_⟩
      ·omega
      ·rw [if_neg (by omega),if_neg (fun h=>h.2)]
     have:=ih _ _ e6 (by omega) (by omega) _ hC' (fun p q1 q2 q3 q4 M hM=>by
      have har:arV c p p=a:=Zq0 e1.2.1 (by rw [Zmd e1];exact q2) p (by omega) (fun o r1 r2 r3=>by
       by_cases ho4:o<q
       ·have:=Zoa e5 o (by omega) ho4 r3;omega
       ·by_cases ho3:o=q
        ·subst ho3;rw [h34] at r3;cases r3
        ·exact q4 o (by omega) r2 r3)
      have hwp:=hW _ _ q3
      obtain ⟨M,rfl⟩:∃ k,M=k+1:=⟨M-1,by omega⟩
      unfold ZqZ
      rw [har,if_neg (by omega),Int.toNat_natCast]
      unfold ZqY
      rw [Zmd e1]
      dsimp only
      rw [Int.toNat_natCast,if_neg (by omega),hbb M (by omega),Zq4 (show ((q:Int) < 0∨p≤q)↔False from ⟨fun h=>by omega,fun h=>h.elim⟩),hx0]
      unfold Bd at *
      unfold Zmu Zmt;omega) (by omega) hin.2 N hN
     rw [this]
     unfold Bd at *
     unfold Zmu Zmt;omega
   ·rw [if_neg hin]
    refine ih _ _ e7 (by omega) hbl C hC (fun p q1 q2 q3 q4=>hp p (by omega) q2 q3 fun o r1 r2 r3=>?_) (by omega) hb N hN
    by_cases ho:o=a
    ·subst ho;rw [Zmd e1];show en<p;omega
    ·by_cases ho2:o≤en
     ·have:=hends o (by omega) ho2 r3;omega
     ·exact q4 o (by omega) r2 r3
theorem Zq8 {n at_ N:Nat} (hs:Seg c 0 c.length) (hn:c.length<n) (ha:at_≤c.length) (hN:c.length<N+at_):ZqZ z c N at_=rsV z c at_ n 0 c.length:=by
 have h0:Bd 0:=by unfold Bd;omega
 have:=Zq7 hW at_ n 0 c.length hs (by omega) (Nat.le_refl _) 0 h0 (fun p q1 q2 q3 q4 M hM=>by
  have hwp:=hW _ _ q3
  have har:=Zq1 (c:=c) (p:=p) p (fun o r1 r2=>q4 o (by omega) r1 r2)
  obtain ⟨M,rfl⟩:∃ k,M=k+1:=⟨M-1,by omega⟩
  unfold ZqZ
  rw [if_pos har]
  unfold Bd at hwp;unfold Zmu Zmt;omega) (Nat.zero_le _) ha N hN
 rw [this]
 have hr:=Zq6 hW at_ n 0 c.length hs
 unfold Bd at hr;unfold Zmu Zmt;omega
omit hW in
theorem Zq9 {at_:Nat}:∀ n a b,Seg c a b→b≤at_→rsV z c at_ n a b=0:=by
 intro n
 induction n with
 | zero=>intro a b _ _;rfl
 |succ n ih=>
  intro a b hs hb
  unfold rsV
  by_cases hab:b≤a
  ·rw [if_pos hab]
  rw [if_neg hab,if_neg (by omega)]
  rcases Zno hs with e|⟨e1,e2,_,_,e5⟩|⟨en,e1,e2,e3,e4,e5⟩|⟨q,en,e1,e2,e3,e4,e5,e6,e7⟩
  ·omega
  ·rw [if_neg (by rw [e2];decide)];exact ih _ _ e5 hb
  ·rw [if_pos (show ZaR (c.getD a default).op=true from e1.2.1),Zmd e1,if_neg (by dsimp only;omega)];exact ih _ _ e5 hb
  ·rw [if_pos (show ZaR (c.getD a default).op=true from e1.2.1),Zmd e1,if_neg (by dsimp only;omega)];exact ih _ _ e7 hb
omit hW in
theorem Zra {n b:Nat} (hn:0<n):rsV z c 0 n 0 b=WA z c 0 b 0:=by
 obtain ⟨n,rfl⟩:∃ k,n=k+1:=⟨n-1,by omega⟩
 unfold rsV
 by_cases hb:b≤0
 ·obtain rfl:b=0:=by omega
  rw [if_pos (by decide),Zml]
 ·rw [if_neg hb,if_pos rfl]
end
def Zrb (c:List In3) (a b p o:Nat) (alt:Int) (en:Nat):Prop:=a≤o∧o<p∧p≤en∧en<b∧Mat c o alt en∧(∀ x,o<x→x<p→ZaR (c.getD x default).op=true→(mtV c x).2<p)∧Seg c p (ZqY c o p)∧(alt=-1→Seg c (o+1) en)∧∀ q:Nat,alt=q→Seg c (o+1) q∧Seg c (q+1) en
theorem Zrb.up {c:List In3}{a b a' b' p o:Nat}{alt:Int}{en:Nat} (h:Zrb c a b p o alt en) (h1:a'≤a) (h2:b≤b'):Zrb c a' b' p o alt en:=
 ⟨by have:=h.1;omega,h.2.1,h.2.2.1,by have:=h.2.2.2.1;omega,h.2.2.2.2⟩
theorem Zrc {c:List In3}:∀ n a b,b-a≤n→Seg c a b→∀ p,a≤p→p≤b→(Seg c p b∧∀ x,a≤x→x<p→ZaR (c.getD x default).op=true→(mtV c x).2<p)∨∃ o alt en,Zrb c a b p o alt en:=by
 intro n
 induction n with
 |zero=>
  intro a b hn hs p h1 h2
  have:=Zme hs
  obtain rfl:a=p:=by omega
  exact .inl ⟨hs,fun x q1 q2=>by omega⟩
 |succ n ih=>
  intro a b hn hs p h1 h2
  by_cases hap:a=p
  ·subst hap;exact .inl ⟨hs,fun x q1 q2=>by omega⟩
  rcases Zno hs with e|⟨e1,e2,_,_,e5⟩|⟨en,e1,e2,e3,e4,e5⟩|⟨q,en,e1,e2,e3,e4,e5,e6,e7⟩
  ·omega
  ·rcases ih _ _ (by omega) e5 p (by omega) h2 with ⟨g1,g2⟩|⟨o,alt,en,g⟩
   ·refine .inl ⟨g1,fun x q1 q2 q3=>?_⟩
    by_cases hx:x=a
    ·subst hx;rw [q3] at e2;cases e2
    ·exact g2 x (by omega) q2 q3
   ·exact .inr ⟨o,alt,en,g.up (by omega) (Nat.le_refl _)⟩
  ·by_cases hpe:p≤en
   ·rcases ih _ _ (by omega) e4 p (by omega) hpe with ⟨g1,g2⟩|⟨o,alt,en2,g⟩
    ·refine .inr ⟨a,-1,en,Nat.le_refl _,by omega,hpe,e3,e1,fun x q1 q2 q3=>g2 x (by omega) q2 q3,?_,fun _=>e4,fun q hq=>by omega⟩
     unfold ZqY
     rw [Zmd e1,if_neg (by dsimp only;omega)]
     exact g1
    ·exact .inr ⟨o,alt,en2,g.up (by omega) (by omega)⟩
   ·rcases ih _ _ (by omega) e5 p (by omega) h2 with ⟨g1,g2⟩|⟨o,alt,en2,g⟩
    ·refine .inl ⟨g1,fun x q1 q2 q3=>?_⟩
     by_cases hx:x=a
     ·subst hx;rw [Zmd e1];show en<p;omega
     ·by_cases hx2:x=en
      ·subst hx2
       have h35:=e1.2.2.2.1
       rw [h35] at q3;cases q3
      ·by_cases hx3:x<en
       ·have:=Zoa e4 x (by omega) hx3 q3;omega
       ·exact g2 x (by omega) q2 q3
    ·exact .inr ⟨o,alt,en2,g.up (by omega) (Nat.le_refl _)⟩
  ·have h34:(c.getD q default).op=34:=Zq2 e1
   by_cases hpq:p≤q
   ·rcases ih _ _ (by omega) e5 p (by omega) hpq with ⟨g1,g2⟩|⟨o,alt,en2,g⟩
    ·refine .inr ⟨a,q,en,Nat.le_refl _,by omega,by omega,e4,e1,fun x q1 q2 q3=>g2 x (by omega) q2 q3,?_,fun h=>by omega,fun x hx=>?_⟩
     ·unfold ZqY
      rw [Zmd e1,if_pos ⟨by dsimp only;omega,by dsimp only;omega⟩]
      exact g1
     ·obtain rfl:q=x:=by omega
      exact ⟨e5,e6⟩
    ·exact .inr ⟨o,alt,en2,g.up (by omega) (by omega)⟩
   ·by_cases hpe:p≤en
    ·rcases ih _ _ (by omega) e6 p (by omega) hpe with ⟨g1,g2⟩|⟨o,alt,en2,g⟩
     ·refine .inr ⟨a,q,en,Nat.le_refl _,by omega,hpe,e4,e1,fun x q1 q2 q3=>?_,?_,fun h=>by omega,fun x hx=>?_⟩
      ·by_cases hx:x=q
       ·subst hx;rw [h34] at q3;cases q3
       ·by_cases hx3:x<q
        ·have:=Zoa e5 x (by omega) hx3 q3;omega
        ·exact g2 x (by omega) q2 q3
      ·unfold ZqY
       rw [Zmd e1,if_neg (by dsimp only;omega)]
       exact g1
      ·obtain rfl:q=x:=by omega
       exact ⟨e5,e6⟩
     ·exact .inr ⟨o,alt,en2,g.up (by omega) (by omega)⟩
    ·rcases ih _ _ (by omega) e7 p (by omega) h2 with ⟨g1,g2⟩|⟨o,alt,en2,g⟩
     ·refine .inl ⟨g1,fun x q1 q2 q3=>?_⟩
      by_cases hx:x=a
      ·subst hx;rw [Zmd e1];show en<p;omega
      ·by_cases hx2:x=en
       ·subst hx2
        have h35:=e1.2.2.2.1
        rw [h35] at q3;cases q3
       ·by_cases hx3:x=q
        ·subst hx3;rw [h34] at q3;cases q3
        ·by_cases hx4:x<q
         ·have:=Zoa e5 x (by omega) hx4 q3;omega
         ·by_cases hx5:x<en
          ·have:=Zoa e6 x (by omega) hx5 q3;omega
          ·exact g2 x (by omega) q2 q3
     ·exact .inr ⟨o,alt,en2,g.up (by omega) (Nat.le_refl _)⟩
theorem Zrb.ar {c:List In3}{a b p o:Nat}{alt:Int}{en:Nat} (h:Zrb c a b p o alt en):arV c p p=o:=
 Zq0 h.2.2.2.2.1.2.1 (by rw [Zmd h.2.2.2.2.1];exact h.2.2.1) p h.2.1 h.2.2.2.2.2.1
section
variable {z z':Wg}{c:List In3} (hE:∀ a b,Seg c a b→WA z c a b 0=WA z' c a b 0)
include hE
theorem Zrd {a:Nat}{alt:Int}{en:Nat} (h:Mat c a alt en) (h1:alt=-1→Seg c (a+1) en) (h2:∀ q:Nat,alt=q→Seg c (q+1) en) (f:Prop) [Decidable f]:ZqX z c a f=ZqX z' c a f:=by
 unfold ZqX
 rw [Zmd h]
 dsimp only
 rcases h.2.2.2.2 with ⟨h4,h5,_⟩|⟨n,h4,_,_,h5,_⟩
 ·by_cases h30:(c.getD a default).op=30
  ·rw [if_pos h30,if_pos h30,hE _ _ (h1 h4)]
  ·rw [if_neg h30,if_neg h30,if_neg (fun q=>h5 q.1),if_neg (fun q=>h5 q.1)]
 ·have h30:¬ (c.getD a default).op=30:=by omega
  rw [if_neg h30,if_neg h30,h4,Int.toNat_natCast,hE _ _ (h2 n h4)]
theorem Zre (at_:Nat):∀ n a b,Seg c a b→rsV z c at_ n a b=rsV z' c at_ n a b:=by
 intro n
 induction n with
 | zero=>intro a b _;rfl
 |succ n ih=>
  intro a b hs
  unfold rsV
  rw [hE a b hs]
  rcases Zno hs with e|⟨e1,e2,_,_,e5⟩|⟨en,e1,e2,e3,e4,e5⟩|⟨q,en,e1,e2,e3,e4,e5,e6,e7⟩
  ·rw [if_pos (by omega),if_pos (by omega)]
  ·rw [ih _ _ e5];simp only [e2];rfl
  ·have hx:=Zrd hE e1 (fun _=>e4) (fun q hq=>by omega) True
   have hop:ZaR (c.getD a default).op=true:=e1.2.1
   rw [if_pos hop,if_pos hop]
   unfold ZqY
   rw [Zmd e1]
   dsimp only
   rw [hx,hE _ _ e5,if_neg (show ¬ (0≤(-1:Int)∧at_≤(-1:Int).toNat) by omega),ih _ _ e4,ih _ _ e5,if_pos (show (-1:Int) < 0∨at_≤(-1:Int).toNat from .inl (by decide)),if_pos (show (-1:Int) < 0∨at_≤(-1:Int).toNat from .inl (by decide))]
  ·have hx:=Zrd hE e1 (fun h=>by omega) (fun x hx=>(show q=x by omega)▸e6) True
   have hop:ZaR (c.getD a default).op=true:=e1.2.1
   rw [if_pos hop,if_pos hop]
   unfold ZqY
   rw [Zmd e1]
   dsimp only
   rw [Int.toNat_natCast,hx,hE _ _ e7,ih _ _ e6,ih _ _ e7]
   by_cases hq:at_≤q
   ·rw [if_pos (show 0≤(q:Int)∧at_≤q from ⟨by omega,hq⟩),ih _ _ e5]
   ·rw [if_neg (show ¬ ((q:Int) < 0∨at_≤q) by omega),if_neg (show ¬ ((q:Int) < 0∨at_≤q) by omega)]
end
end
end Go.Proofs.YtfkbfjhocmbneaaGreat
