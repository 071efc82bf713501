import Derived.Test.YtfmcclhfnpcokaaGreatG6
set_option linter.all false
set_option maxRecDepth 100000
set_option maxHeartbeats 4000000
namespace Go.Proofs.YtfmcclhfnpcokaaGreat
theorem k69{p:Prop}(h:p:=by
 go_wp2_with fail
 go_ret3;exact ⟨.inr ⟨rfl,HE.out⟩,rfl⟩):p:=h
section
open Go.RowKit
def ZgH (l:List In3) (a:Nat) (e:Ending):Prop:=
 (∃ n d:Nat,e=.returned (.tuple #[.int .i64 n,.int .i64 d])∧Za8 l a n d∧(n<l.length→(l.getD n default).op=34∨(l.getD n default).op=35))∨(e=.returned (.tuple #[.int .i64 0,.int .i64 (-1)])∧Za9 l a)
def BrP (l:List In3) (a:Nat) (e:Ending):Prop:=
 (∃ (alt:Int) (n d:Nat),e=.returned (.tuple #[.int .i64 alt,.int .i64 n,.int .i64 d])∧a<n∧n<l.length∧Za8 l a (n+1) (d+1)∧Mat l a alt n)∨(e=.returned (.tuple #[.int .i64 0,.int .i64 0,.int .i64 (-1)])∧Za9 l a)
theorem ZgI {a b c d:Int} (h:c=d):Ending.returned (.tuple #[.int .i64 a,.int .i64 b,.int .i64 c])=.returned (.tuple #[.int .i64 a,.int .i64 b,.int .i64 d]):=by rw [h]
section
variable (l:List In3)(ao:Option Addr)(cap:Nat)(w:World)(hl:Zas w ao cap l)(hlen:l.length≤1000)(m:Nat)
include l ao cap w hl hlen m
theorem ZgJ (j:∀ a,a<l.length→l.length-a≤m→ZaS (l.getD a default).op=true→Calls Tryz.prog 296 #[.slice ao l.length cap,.int .i64 a] w fun e w'=>BrP l a e∧w=w') (a:Nat) (A:a≤l.length) (G:l.length-a≤m):
  Calls Tryz.prog 246 #[.slice ao l.length cap,.int .i64 a] w fun e w'=>ZgH l a e∧w=w':=by
 have C:=Zh hl;have s:=Zh j;have t:=Zh (Zbb (l:=l) A);clear hl j;go_enter Tryz.func246,Tryz.ntmps246;go_wp2
 go_loop [1,6] (fun i d=>∃ b k:Nat,i=.int .i64 b∧d=.int .i64 k∧a≤b∧b≤l.length∧Za8 l a b k) (fun i _=>l.length-(intOf i).toNat)
 case atStart=>exact ⟨a,0,rfl,rfl,Nat.le_refl _,A,t.out⟩
 case round=>
  obtain ⟨b,k,rfl,rfl,F,I,B⟩:=hrel;have g:=Zh B;clear B;by_cases j:b<l.length
  ·obtain ⟨R,rfl,E,_,_⟩:=ZaB C.out j;have H:(b:Int) < l.length:=by omega
   have c:=s.out b j (by omega);have o:=Zh (Zbe g.out j);generalize hx:(l.getD b default).op=x at E c;rw [hx] at o;have z:=Zh hx;have r:=Zh c;have S:IntKind.i64.wrap ((b:Int)+1)=b+1:=IntWalk.i64_in _ (by omega);clear hx c;by_cases h34:x=34
   ·subst h34;go_wp2;go_ret2;exact ⟨.inl ⟨b,k,rfl,g.out,fun _=>by rw [z.out];exact .inl rfl⟩,rfl⟩
   by_cases h35:x=35
   ·subst h35;go_wp2;go_ret2;exact ⟨.inl ⟨b,k,rfl,g.out,fun _=>by rw [z.out];exact .inr rfl⟩,rfl⟩
   have P:(x != 34)=true:=by simp [h34]
   have Q:(x != 35)=true:=by simp [h35]
   rcases hop:ZaS x with _|_
   ·have p:=Zh hop;clear hop
    go_wp2_with (go_at_call 280;refine (ZeQ _ _).mono ?_;rintro e w' ⟨rfl,rfl⟩;rw [p.out])
    go_round
    case rel=>exact ⟨b+1,k,by go_num,rfl,by omega,by omega,o.out p.out h34 h35⟩
    case measure=>simp [intOf];omega
   ·have p:=Zh hop;clear hop
    go_wp2_with (go_at_call 280;refine (ZeQ _ _).mono ?_;rintro e w' ⟨rfl,rfl⟩;rw [p.out])
    refine (r.out p.out).mono ?_;rintro e w' ⟨⟨D,n,d,rfl,J,M,f,-⟩|⟨rfl,q⟩,rfl⟩
    ·have u:=Zh (Zbc g.out f);have L:=ZbE f;clear f;have N:IntKind.i64.wrap ((n:Int)+1)=n+1:=IntWalk.i64_in _ (by omega);have K:d+1≤1000000:=by omega
     have O:IntKind.i64.wrap ((d:Int)+1)=d+1:=IntWalk.i64_in _ (by omega)
     go_wp2_with fail
     exact ⟨⟨n+1,max k (d+1),by go_num,ZcU (by first|omega|(split<;>omega)),by omega,by omega,u.out⟩,by show l.length-((n:Int)+1).toNat<l.length-(b:Int).toNat;omega⟩
    ·have v:=Zh (Zbq g.out q);clear q
     go_wp2_with fail
     go_ret2;exact ⟨.inr ⟨rfl,v.out⟩,rfl⟩
  ·have y:b=l.length:=by omega
   subst y;go_wp2;go_ret2;exact ⟨.inl ⟨l.length,k,rfl,g.out,fun h=>by omega⟩,rfl⟩
theorem ZgK (L:∀ a,a≤l.length→l.length-a≤m→Calls Tryz.prog 246 #[.slice ao l.length cap,.int .i64 a] w fun e w'=>ZgH l a e∧w=w') (a:Nat) (f:a<l.length) (ah:l.length-a≤m+1) (C:ZaS (l.getD a default).op=true):
  Calls Tryz.prog 296 #[.slice ao l.length cap,.int .i64 a] w fun e w'=>BrP l a e∧w=w':=by
 have O:=Zh hl;have HP:=Zh L;have F:=Zh C;have ag:(a:Int) < l.length:=by omega
 have hw:IntKind.i64.wrap ((a:Int)+1)=(a:Int)+1:=IntWalk.i64_in _ (by omega);have u:=L (a+1) (by omega) (by omega);rw [show ((a+1:Nat):Int)=(a:Int)+1 by omega] at u;have G:=Zh u;obtain ⟨ad,rfl,e0,_,_⟩:=ZaB hl f;clear hl L C u;generalize hx:(l.getD a default).op=x at e0 F;have A:=Zh hx;have b:=Zh (show ZaS (l.getD a default).op=true by rw [hx];exact F.out);have D:29≤x∧x≤33:=by have:=F.out;simpa [ZaS,inI] using this
 obtain ⟨D,an⟩:=D;clear hx;go_enter Tryz.func296,Tryz.ntmps296
 go_wp2_with fail
 refine G.out.mono ?_;rintro e w' ⟨⟨n,d,rfl,s,B⟩|⟨rfl,j⟩,rfl⟩
 ·have k:=Zh s;have Z:=Zh B;obtain ⟨ak,aj⟩:=Zba s;have ai:=ZbE s;clear s B;by_cases hnl:n<l.length
  ·have R:(n:Int) < l.length:=by omega
   have S:¬ ((l.length:Int)≤n):=by omega
   have T:¬ (l.length≤n):=by omega
   have am:IntKind.i64.wrap ((n:Int)+1)=(n:Int)+1:=IntWalk.i64_in _ (by omega);obtain ⟨J,c,f0,_,_⟩:=ZaB O.out hnl;obtain rfl:=Option.some.inj c;clear c;have X:=Z.out hnl;generalize hyy:(l.getD n default).op=y at f0 X;have r:=Zh hyy;clear hyy;rcases X with rfl|rfl
   ·have HS:=Zh (fun h=>Zbt f b.out k.out hnl r.out h);by_cases h29:x=29∨x=33
    ·have g:=Zh (show (l.getD a default).op=29∨(l.getD a default).op=33 by rw [A.out];exact h29);have v:=HP.out (n+1) (by omega) (by omega);rw [show ((n+1:Nat):Int)=(n:Int)+1 by omega] at v;have H:=Zh v;have ap:¬ ((x != 29)=true∧(x != 33)=true):=by rcases h29 with rfl|rfl<;>simp
     clear v;rcases h29 with rfl|rfl
     all_goals
      go_wp2_with fail
      refine H.out.mono ?_;rintro e w' ⟨⟨q,i,rfl,s,B⟩|⟨rfl,j⟩,rfl⟩
      ·have o:=Zh s;have E:=Zh B;obtain ⟨al,Q⟩:=Zba s;have P:=ZbE s;clear s B;by_cases hql:q<l.length
       ·have U:(q:Int) < l.length:=by omega
        have V:¬ ((l.length:Int)≤q):=by omega
        have W:¬ (l.length≤q):=by omega
        obtain ⟨J,c,g0,_,_⟩:=ZaB O.out hql;obtain rfl:=Option.some.inj c;clear c;have Y:=E.out hql;generalize hzz:(l.getD q default).op=z at g0 Y;have I:=Zh hzz;clear hzz;rcases Y with rfl|rfl
        ·have HE:=Zh (Zbw f b.out k.out hnl r.out g.out o.out hql I.out)
         go_wp2_with fail
         go_ret3;exact ⟨.inr ⟨rfl,HE.out⟩,rfl⟩
        ·have HE:=Zh (Zbp f b.out k.out hnl r.out g.out o.out hql I.out);have t:=Zh (show Mat l a n q from ⟨f,b.out,hql,I.out,.inr ⟨n,rfl,hnl,r.out,g.out,⟨_,k.out⟩,_,o.out⟩⟩)
         go_wp2_with fail
         all_goals
          go_ret3;exact ⟨.inl ⟨n,q,max d i,ZgI (by omega),by omega,by omega,HE.out,t.out⟩,rfl⟩
       ·have M:q=l.length:=by omega
        subst M;have HE:=Zh (Zbv f b.out k.out hnl r.out g.out o.out)
        go_wp2_with fail
        go_ret3;exact ⟨.inr ⟨rfl,HE.out⟩,rfl⟩
      ·have HE:=Zh (Zbu f b.out k.out hnl r.out g.out j);clear j
       go_wp2_with fail
       go_ret3;exact ⟨.inr ⟨rfl,HE.out⟩,rfl⟩
    ·have aq:(x != 29)=true:=by simp;omega
     have N:(x != 33)=true:=by simp;omega
     have HE:=Zh (HS.out (by rw [A.out];exact h29));exact k69
   ·by_cases h33:x=33
    ·subst h33;have HE:=Zh (Zbx f b.out k.out hnl r.out A.out);exact k69
    ·have N:(x == 33)=false:=by simp [h33]
     have HE:=Zh (Zbo f b.out k.out hnl r.out (by rw [A.out];exact h33));have t:=Zh (show Mat l a (-1) n from ⟨f,b.out,hnl,r.out,.inl ⟨rfl,(by rw [A.out];exact h33),_,k.out⟩⟩)
     go_wp2_with fail
     go_ret3;exact ⟨.inl ⟨-1,n,d,rfl,by omega,by omega,HE.out,t.out⟩,rfl⟩
  ·have K:n=l.length:=by omega
   subst K;have HE:=Zh (Zbs f b.out k.out);exact k69
 ·have HE:=Zh (Zbr f b.out j);clear j;exact k69
end
theorem ZgL (l:List In3) (ao:Option Addr) (cap:Nat) (w:World) (hl:Zas w ao cap l) (hlen:l.length≤1000):∀ (m a:Nat),a≤l.length→l.length-a≤m →
  Calls Tryz.prog 246 #[.slice ao l.length cap,.int .i64 a] w fun e w'=>ZgH l a e∧w=w'
 | 0,a,ha,hm=>ZgJ l ao cap w hl hlen 0 (fun b d c _=>by omega) a ha hm
 | m+1,a,ha,hm=>ZgJ l ao cap w hl hlen (m+1) (fun b d c f=>ZgK l ao cap w hl hlen m (ZgL l ao cap w hl hlen m) b d c f) a ha hm
theorem ZgM (l:List In3) (ao:Option Addr) (cap:Nat) (w:World) (hl:Zas w ao cap l) (hlen:l.length≤1000) (a:Nat) (b:a≤l.length) :
  Calls Tryz.prog 246 #[.slice ao l.length cap,.int .i64 a] w fun e w'=>ZgH l a e∧w=w':=ZgL l ao cap w hl hlen _ a b (Nat.le_refl _)
theorem ZgN (l:List In3) (ao:Option Addr) (cap:Nat) (p:Bool) (w:World) (hl:Zas w ao cap l) :
  Calls Tryz.prog 177 #[.slice ao l.length cap,.bool p] w (Ret w (.int .i64 (ZaW p l))):=by
 have F:=Zh hl;generalize hq:ZaW p l=q;have z:=Zh hq;clear hl hq;by_cases hlen:l.length≤120
 ·have C:¬ (l.length:Int) > 120:=by omega
  have T:¬ (120:Int) < l.length:=by omega
  have o:¬ 120<l.length:=by omega
  go_enter Tryz.func177,Tryz.ntmps177;go_wp2
  go_loopw [5] (fun i wr=>∃ (k:Nat),k≤l.length∧i=.int .i64 k∧Below w.heap.size w wr∧(∀ j,j<k→ZaR p (l.getD j default)=true)) (fun i _=>l.length-(intOf i).toNat)
  case atStart=>exact ⟨0,by omega,rfl,Below.refl _ _,by omega⟩
  case round=>
   obtain ⟨k,W,rfl,a,M⟩:=hrel;have H:=Zh M;clear M;by_cases hkl:k<l.length
   ·obtain ⟨V,rfl,O,P,Q⟩:=ZaB (F.out.old a) hkl;have g:=ZgB (l.getD k default) p wr;obtain ⟨x,t⟩:∃ x,x=l.getD k default:=⟨_,rfl⟩;rw [←t] at O P Q g;have G:=Zh t;have c:=Zh g;have J:(k:Int) < l.length:=by omega
    have S:IntKind.i64.wrap ((k:Int)+1)=k+1:=IntWalk.i64_in _ (by omega);clear t g;rcases hI:ZaR p x with _|_
    ·rw [hI] at c;have v:=Zh hI;clear hI
     go_wp2_with fail
     refine c.out.mono ?_;rintro e U ⟨rfl,f⟩;go_wp2;go_ret;refine ZcP (ZcU ?_) (Zag a f);rw [←z.out,ZaW,if_neg (by omega),if_neg];intro b;have:=List.all_eq_true.1 b x (by rw [G.out,List.getD_eq_getElem?_getD,List.getElem?_eq_getElem hkl];exact List.getElem_mem hkl);rw [v.out] at this;cases this
    ·rw [hI] at c;have v:=Zh hI;clear hI
     go_wp2_with fail
     refine c.out.mono ?_;rintro e U ⟨rfl,f⟩;have A:=Zag a f;clear f a;go_wp2;go_roundw
     case rel=>
      refine ⟨k+1,by omega,by go_num,A,fun j I=>?_⟩;by_cases hjk:j<k
      ·exact H.out j hjk
      ·obtain rfl:j=k:=by omega
       rw [←G.out];exact v.out
     case measure=>simp [intOf];omega
   ·have b:l.all (ZaR p)=true:=by rw [List.all_eq_true];intro x t;obtain ⟨j,I,rfl⟩:=List.mem_iff_getElem.1 t;have:=H.out j (by omega);simpa [I] using this
    have u:=Zh (show q=if ZaV l then 0 else 7 by rw [←z.out,ZaW,if_neg (by omega),if_pos b]);have r:=ZgM l ao cap wr (F.out.old a) (by omega) 0 (by omega);have y:=Zh r;clear b r
    go_wp2_with fail
    refine y.out.mono ?_;rintro e X ⟨⟨n,d,rfl,B,K⟩|⟨rfl,s⟩,rfl⟩
    ·have E:=Zh B;have N:=Zh K;obtain ⟨_,R⟩:=Zba B;clear B K;by_cases hnl:n<l.length
     ·have L:(n:Int) < l.length:=by omega
      have h:=Zh (ZbB E.out hnl (N.out hnl))
      go_wp2_with fail
      go_ret;exact ZcP (ZcU (by rw [u.out,h.out];rfl)) a
     ·have D:n=l.length:=by omega
      subst D;have h:=Zh (Zby E.out)
      go_wp2_with fail
      all_goals
       go_ret;refine ZcP (ZcU ?_) a;rw [u.out,h.out]
       first
        | (rw [decide_eq_true (by omega)];rfl)
        | (rw [decide_eq_false (by omega)];rfl)
    ·have h:=Zh (ZbA s);clear s
     go_wp2_with fail
     go_ret;exact ZcP (ZcU (by rw [u.out,h.out];rfl)) a
 ·have C:(120:Int) < l.length:=by omega
  have o:120<l.length:=by omega
  go_enter Tryz.func177,Tryz.ntmps177;go_wp2;go_ret;exact ZcP (ZcU (by rw [←z.out,ZaW,if_pos o])) (Below.refl _ _)
end
