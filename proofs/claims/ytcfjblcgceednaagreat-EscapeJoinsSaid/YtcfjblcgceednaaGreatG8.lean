/- Brackets: the reference's parts and bracket, which call each other; its Check. -/
import Derived.Test.YtcfjblcgceednaaGreatG6
set_option linter.all false
set_option linter.unusedVariables false
set_option linter.unusedSimpArgs false
set_option maxRecDepth 100000
set_option maxHeartbeats 4000000
namespace Go.Proofs.YtcfjblcgceednaaGreat
theorem k69{p:Prop}(h:p:=by
 go_wp2_with fail
 go_ret3
 exact ⟨.inr ⟨rfl,HE.out⟩,rfl⟩):p:=h
section
open Go.RowKit
def ZgE (l:List In3) (a:Nat) (e:Ending):Prop:=
 (∃ n d:Nat,e=.returned (.tuple #[.int .i64 n,.int .i64 d])∧Za7 l a n d∧(n<l.length→(l.getD n default).op=34∨(l.getD n default).op=35))∨(e=.returned (.tuple #[.int .i64 0,.int .i64 (-1)])∧Za8 l a)
def BrP (l:List In3) (a:Nat) (e:Ending):Prop:=
 (∃ (alt:Int) (n d:Nat),e=.returned (.tuple #[.int .i64 alt,.int .i64 n,.int .i64 d])∧a<n∧n<l.length∧Za7 l a (n+1) (d+1)∧Mat l a alt n)∨(e=.returned (.tuple #[.int .i64 0,.int .i64 0,.int .i64 (-1)])∧Za8 l a)
theorem ZgF {a b c d:Int} (h:c=d):Ending.returned (.tuple #[.int .i64 a,.int .i64 b,.int .i64 c])=.returned (.tuple #[.int .i64 a,.int .i64 b,.int .i64 d]):=by rw [h]
section
variable (l:List In3)(ao:Option Addr)(cap:Nat)(w:World)(hl:Zar w ao cap l)(hlen:l.length≤1000)(m:Nat)
include l ao cap w hl hlen m
theorem ZgG (hb:∀ a,a<l.length→l.length-a≤m→ZaR (l.getD a default).op=true→Calls Tryz.prog 225 #[.slice ao l.length cap,.int .i64 a] w fun e w'=>BrP l a e∧w=w') (a:Nat) (ha:a≤l.length) (ham:l.length-a≤m):
  Calls Tryz.prog 245 #[.slice ao l.length cap,.int .i64 a] w fun e w'=>ZgE l a e∧w=w':=by
 have HL:=Zh hl
 have HBr:=Zh hb
 have HG0:=Zh (Zba (l:=l) ha)
 clear hl hb
 go_enter Tryz.func245,Tryz.ntmps245
 go_wp2
 go_loop [1,6] (fun i d=>∃ b k:Nat,i=.int .i64 b∧d=.int .i64 k∧a≤b∧b≤l.length∧Za7 l a b k) (fun i _=>l.length-(intOf i).toNat)
 case atStart=>exact ⟨a,0,rfl,rfl,Nat.le_refl _,ha,HG0.out⟩
 case round=>
  obtain ⟨b,k,rfl,rfl,hab,hbl,hg⟩:=hrel
  have HG:=Zh hg
  clear hg
  by_cases hb:b<l.length
  ·obtain ⟨ad,rfl,e0,_,_⟩:=ZaA HL.out hb
   have hb2:(b:Int) < l.length:=by omega
   have HBb:=HBr.out b hb (by omega)
   have HGp:=Zh (Zbd HG.out hb)
   generalize hx:(l.getD b default).op=x at e0 HBb
   rw [hx] at HGp
   have HX:=Zh hx
   have HB2:=Zh HBb
   have hw:IntKind.i64.wrap ((b:Int)+1)=b+1:=IntWalk.i64_in _ (by omega)
   clear hx HBb
   by_cases h34:x=34
   ·subst h34
    go_wp2
    go_ret2
    exact ⟨.inl ⟨b,k,rfl,HG.out,fun _=>by rw [HX.out];exact .inl rfl⟩,rfl⟩
   by_cases h35:x=35
   ·subst h35
    go_wp2
    go_ret2
    exact ⟨.inl ⟨b,k,rfl,HG.out,fun _=>by rw [HX.out];exact .inr rfl⟩,rfl⟩
   have n34:(x != 34)=true:=by simp [h34]
   have n35:(x != 35)=true:=by simp [h35]
   rcases hop:ZaR x with _|_
   ·have HO:=Zh hop
    clear hop
    go_wp2_with (go_at_call 151;refine (ZeO _ _).mono ?_;rintro e w' ⟨rfl,rfl⟩;rw [HO.out])
    go_round
    case rel=>exact ⟨b+1,k,by go_num,rfl,by omega,by omega,HGp.out HO.out h34 h35⟩
    case measure=>simp [intOf];omega
   ·have HO:=Zh hop
    clear hop
    go_wp2_with (go_at_call 151;refine (ZeO _ _).mono ?_;rintro e w' ⟨rfl,rfl⟩;rw [HO.out])
    refine (HB2.out HO.out).mono ?_
    rintro e w' ⟨⟨alt,n,d,rfl,hbn,hnl,hgn,-⟩|⟨rfl,hst⟩,rfl⟩
    ·have HGn:=Zh (Zbb HG.out hgn)
     have hdp:=ZbD hgn
     clear hgn
     have hw2:IntKind.i64.wrap ((n:Int)+1)=n+1:=IntWalk.i64_in _ (by omega)
     have hdl:d+1≤1000000:=by omega
     have hw3:IntKind.i64.wrap ((d:Int)+1)=d+1:=IntWalk.i64_in _ (by omega)
     go_wp2_with fail
     exact ⟨⟨n+1,max k (d+1),by go_num,ZcY (by first|omega|(split<;>omega)),by omega,by omega,HGn.out⟩,by show l.length-((n:Int)+1).toNat<l.length-(b:Int).toNat;omega⟩
    ·have HSt:=Zh (Zbp HG.out hst)
     clear hst
     go_wp2_with fail
     go_ret2
     exact ⟨.inr ⟨rfl,HSt.out⟩,rfl⟩
  ·have hbe:b=l.length:=by omega
   subst hbe
   go_wp2
   go_ret2
   exact ⟨.inl ⟨l.length,k,rfl,HG.out,fun h=>by omega⟩,rfl⟩
theorem ZgH (hp:∀ a,a≤l.length→l.length-a≤m→Calls Tryz.prog 245 #[.slice ao l.length cap,.int .i64 a] w fun e w'=>ZgE l a e∧w=w') (a:Nat) (ha:a<l.length) (ham:l.length-a≤m+1) (hop:ZaR (l.getD a default).op=true):
  Calls Tryz.prog 225 #[.slice ao l.length cap,.int .i64 a] w fun e w'=>BrP l a e∧w=w':=by
 have HL:=Zh hl
 have HP:=Zh hp
 have HO:=Zh hop
 have ha1:(a:Int) < l.length:=by omega
 have hw:IntKind.i64.wrap ((a:Int)+1)=(a:Int)+1:=IntWalk.i64_in _ (by omega)
 have hpa:=hp (a+1) (by omega) (by omega)
 rw [show ((a+1:Nat):Int)=(a:Int)+1 by omega] at hpa
 have HPa:=Zh hpa
 obtain ⟨ad,rfl,e0,_,_⟩:=ZaA hl ha
 clear hl hp hop hpa
 generalize hx:(l.getD a default).op=x at e0 HO
 have HX:=Zh hx
 have HO2:=Zh (show ZaR (l.getD a default).op=true by rw [hx];exact HO.out)
 have hx1:29≤x∧x≤33:=by have:=HO.out;simpa [ZaR,inI] using this
 obtain ⟨hx1,hx2⟩:=hx1
 clear hx
 go_enter Tryz.func225,Tryz.ntmps225
 go_wp2_with fail
 refine HPa.out.mono ?_
 rintro e w' ⟨⟨n,d,rfl,hg,hn⟩|⟨rfl,hst⟩,rfl⟩
 ·have HG:=Zh hg
  have HN:=Zh hn
  obtain ⟨hgn,hgl⟩:=Za9 hg
  have hdp:=ZbD hg
  clear hg hn
  by_cases hnl:n<l.length
  ·have hnl2:(n:Int) < l.length:=by omega
   have hnl3:¬ ((l.length:Int)≤n):=by omega
   have hnl4:¬ (l.length≤n):=by omega
   have hw2:IntKind.i64.wrap ((n:Int)+1)=(n:Int)+1:=IntWalk.i64_in _ (by omega)
   obtain ⟨ad',hadd,f0,_,_⟩:=ZaA HL.out hnl
   obtain rfl:=Option.some.inj hadd
   clear hadd
   have hy:=HN.out hnl
   generalize hyy:(l.getD n default).op=y at f0 hy
   have HY:=Zh hyy
   clear hyy
   rcases hy with rfl|rfl
   ·have HS:=Zh (fun h=>Zbs ha HO2.out HG.out hnl HY.out h)
    by_cases h29:x=29∨x=33
    ·have HS1:=Zh (show (l.getD a default).op=29∨(l.getD a default).op=33 by rw [HX.out];exact h29)
     have hpn:=HP.out (n+1) (by omega) (by omega)
     rw [show ((n+1:Nat):Int)=(n:Int)+1 by omega] at hpn
     have HPn:=Zh hpn
     have hxx:¬ ((x != 29)=true∧(x != 33)=true):=by rcases h29 with rfl|rfl<;>simp
     clear hpn
     rcases h29 with rfl|rfl
     all_goals
      go_wp2_with fail
      refine HPn.out.mono ?_
      rintro e w' ⟨⟨q,i,rfl,hg,hn⟩|⟨rfl,hst⟩,rfl⟩
      ·have HG2:=Zh hg
       have HN2:=Zh hn
       obtain ⟨hgq,hgq2⟩:=Za9 hg
       have hdp2:=ZbD hg
       clear hg hn
       by_cases hql:q<l.length
       ·have hql2:(q:Int) < l.length:=by omega
        have hql3:¬ ((l.length:Int)≤q):=by omega
        have hql4:¬ (l.length≤q):=by omega
        obtain ⟨ad',hadd,g0,_,_⟩:=ZaA HL.out hql
        obtain rfl:=Option.some.inj hadd
        clear hadd
        have hz:=HN2.out hql
        generalize hzz:(l.getD q default).op=z at g0 hz
        have HZ:=Zh hzz
        clear hzz
        rcases hz with rfl|rfl
        ·have HE:=Zh (Zbv ha HO2.out HG.out hnl HY.out HS1.out HG2.out hql HZ.out)
         go_wp2_with fail
         go_ret3
         exact ⟨.inr ⟨rfl,HE.out⟩,rfl⟩
        ·have HE:=Zh (Zbo ha HO2.out HG.out hnl HY.out HS1.out HG2.out hql HZ.out)
         have HMt:=Zh (show Mat l a n q from ⟨ha,HO2.out,hql,HZ.out,.inr ⟨n,rfl,hnl,HY.out,HS1.out,⟨_,HG.out⟩,_,HG2.out⟩⟩)
         go_wp2_with fail
         all_goals
          go_ret3
          exact ⟨.inl ⟨n,q,max d i,ZgF (by omega),by omega,by omega,HE.out,HMt.out⟩,rfl⟩
       ·have hqe:q=l.length:=by omega
        subst hqe
        have HE:=Zh (Zbu ha HO2.out HG.out hnl HY.out HS1.out HG2.out)
        go_wp2_with fail
        go_ret3
        exact ⟨.inr ⟨rfl,HE.out⟩,rfl⟩
      ·have HE:=Zh (Zbt ha HO2.out HG.out hnl HY.out HS1.out hst)
       clear hst
       go_wp2_with fail
       go_ret3
       exact ⟨.inr ⟨rfl,HE.out⟩,rfl⟩
    ·have n29:(x != 29)=true:=by simp;omega
     have n33:(x != 33)=true:=by simp;omega
     have HE:=Zh (HS.out (by rw [HX.out];exact h29))
     exact k69
   ·by_cases h33:x=33
    ·subst h33
     have HE:=Zh (Zbw ha HO2.out HG.out hnl HY.out HX.out)
     exact k69
    ·have n33:(x == 33)=false:=by simp [h33]
     have HE:=Zh (Zbn ha HO2.out HG.out hnl HY.out (by rw [HX.out];exact h33))
     have HMt:=Zh (show Mat l a (-1) n from ⟨ha,HO2.out,hnl,HY.out,.inl ⟨rfl,(by rw [HX.out];exact h33),_,HG.out⟩⟩)
     go_wp2_with fail
     go_ret3
     exact ⟨.inl ⟨-1,n,d,rfl,by omega,by omega,HE.out,HMt.out⟩,rfl⟩
  ·have hne:n=l.length:=by omega
   subst hne
   have HE:=Zh (Zbr ha HO2.out HG.out)
   exact k69
 ·have HE:=Zh (Zbq ha HO2.out hst)
  clear hst
  exact k69
end
theorem ZgI (l:List In3) (ao:Option Addr) (cap:Nat) (w:World) (hl:Zar w ao cap l) (hlen:l.length≤1000):∀ (m a:Nat),a≤l.length→l.length-a≤m →
  Calls Tryz.prog 245 #[.slice ao l.length cap,.int .i64 a] w fun e w'=>ZgE l a e∧w=w'
 | 0,a,ha,hm=>ZgG l ao cap w hl hlen 0 (fun b hb hbm _=>by omega) a ha hm
 | m+1,a,ha,hm=>ZgG l ao cap w hl hlen (m+1) (fun b hb hbm ho=>ZgH l ao cap w hl hlen m (ZgI l ao cap w hl hlen m) b hb hbm ho) a ha hm
theorem ZgJ (l:List In3) (ao:Option Addr) (cap:Nat) (w:World) (hl:Zar w ao cap l) (hlen:l.length≤1000) (a:Nat) (ha:a≤l.length) :
  Calls Tryz.prog 245 #[.slice ao l.length cap,.int .i64 a] w fun e w'=>ZgE l a e∧w=w':=ZgI l ao cap w hl hlen _ a ha (Nat.le_refl _)
theorem ZgK (l:List In3) (ao:Option Addr) (cap:Nat) (p:Bool) (w:World) (hl:Zar w ao cap l) :
  Calls Tryz.prog 181 #[.slice ao l.length cap,.bool p] w (Ret w (.int .i64 (ZaV p l))):=by
 have HL:=Zh hl
 generalize hq:ZaV p l=q
 have HQ:=Zh hq
 clear hl hq
 by_cases hlen:l.length≤120
 ·have hl3:¬ (l.length:Int) > 120:=by omega
  have hl4:¬ (120:Int) < l.length:=by omega
  have hl5:¬ 120<l.length:=by omega
  go_enter Tryz.func181,Tryz.ntmps181
  go_wp2
  go_loopw [5] (fun i wr=>∃ (k:Nat),k≤l.length∧i=.int .i64 k∧Below w.heap.size w wr∧(∀ j,j<k→ZaQ p (l.getD j default)=true)) (fun i _=>l.length-(intOf i).toNat)
  case atStart=>exact ⟨0,by omega,rfl,Below.refl _ _,by omega⟩
  case round=>
   obtain ⟨k,hk,rfl,hbel,q1⟩:=hrel
   have Q1:=Zh q1
   clear q1
   by_cases hkl:k<l.length
   ·obtain ⟨ad,rfl,e0,e1,e2⟩:=ZaA (HL.out.old hbel) hkl
    have hva:=Zgy (l.getD k default) p wr
    obtain ⟨x,hx⟩:∃ x,x=l.getD k default:=⟨_,rfl⟩
    rw [←hx] at e0 e1 e2 hva
    have HX:=Zh hx
    have HVa:=Zh hva
    have hkl2:(k:Int) < l.length:=by omega
    have hkw:IntKind.i64.wrap ((k:Int)+1)=k+1:=IntWalk.i64_in _ (by omega)
    clear hx hva
    rcases hI:ZaQ p x with _|_
    ·rw [hI] at HVa
     have HP:=Zh hI
     clear hI
     go_wp2_with fail
     refine HVa.out.mono ?_
     rintro e w1 ⟨rfl,hb1⟩
     go_wp2
     go_ret
     refine ZcT (ZcY ?_) (Zaf hbel hb1)
     rw [←HQ.out,ZaV,if_neg (by omega),if_neg]
     intro hall
     have:=List.all_eq_true.1 hall x (by rw [HX.out,List.getD_eq_getElem?_getD,List.getElem?_eq_getElem hkl];exact List.getElem_mem hkl)
     rw [HP.out] at this
     cases this
    ·rw [hI] at HVa
     have HP:=Zh hI
     clear hI
     go_wp2_with fail
     refine HVa.out.mono ?_
     rintro e w1 ⟨rfl,hb1⟩
     have hb2:=Zaf hbel hb1
     clear hb1 hbel
     go_wp2
     go_roundw
     case rel=>
      refine ⟨k+1,by omega,by go_num,hb2,fun j hj=>?_⟩
      by_cases hjk:j<k
      ·exact Q1.out j hjk
      ·obtain rfl:j=k:=by omega
       rw [←HX.out];exact HP.out
     case measure=>simp [intOf];omega
   ·have hall:l.all (ZaQ p)=true:=by
     rw [List.all_eq_true]
     intro x hx
     obtain ⟨j,hj,rfl⟩:=List.mem_iff_getElem.1 hx
     have:=Q1.out j (by omega)
     simpa [hj] using this
    have HE:=Zh (show q=if ZaU l then 0 else 7 by rw [←HQ.out,ZaV,if_neg (by omega),if_pos hall])
    have hpa:=ZgJ l ao cap wr (HL.out.old hbel) (by omega) 0 (by omega)
    have HPa:=Zh hpa
    clear hall hpa
    go_wp2_with fail
    refine HPa.out.mono ?_
    rintro e w' ⟨⟨n,d,rfl,hg,hn⟩|⟨rfl,hst⟩,rfl⟩
    ·have HG:=Zh hg
     have HN:=Zh hn
     obtain ⟨_,hgl⟩:=Za9 hg
     clear hg hn
     by_cases hnl:n<l.length
     ·have hnl2:(n:Int) < l.length:=by omega
      have HV:=Zh (ZbA HG.out hnl (HN.out hnl))
      go_wp2_with fail
      go_ret
      exact ZcT (ZcY (by rw [HE.out,HV.out];rfl)) hbel
     ·have hne:n=l.length:=by omega
      subst hne
      have HV:=Zh (Zbx HG.out)
      go_wp2_with fail
      all_goals
       go_ret
       refine ZcT (ZcY ?_) hbel
       rw [HE.out,HV.out]
       first
        | (rw [decide_eq_true (by omega)];rfl)
        | (rw [decide_eq_false (by omega)];rfl)
    ·have HV:=Zh (Zbz hst)
     clear hst
     go_wp2_with fail
     go_ret
     exact ZcT (ZcY (by rw [HE.out,HV.out];rfl)) hbel
 ·have hl3:(120:Int) < l.length:=by omega
  have hl5:120<l.length:=by omega
  go_enter Tryz.func181,Tryz.ntmps181
  go_wp2
  go_ret
  exact ZcT (ZcY (by rw [←HQ.out,ZaV,if_pos hl5])) (Below.refl _ _)
end
end Go.Proofs.YtcfjblcgceednaaGreat
