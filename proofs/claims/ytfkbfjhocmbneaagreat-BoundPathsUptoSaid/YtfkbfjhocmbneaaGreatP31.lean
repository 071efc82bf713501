/- Joined texts. The first: A walk through a method: the walker in memory; pick, traps, pay. -/
import Derived.Test.YtfkbfjhocmbneaaGreatG23
import Derived.Test.YtfkbfjhocmbneaaGreatG24
import Derived.Test.YtfkbfjhocmbneaaGreatG26
set_option linter.all false
set_option linter.unusedVariables false
set_option linter.unusedSimpArgs false
set_option maxHeartbeats 8000000
namespace Go.Proofs.YtfkbfjhocmbneaaGreat
theorem kC0{p:Prop}(h:p:=by
 go_enter Tryz.func121,Tryz.ntmps121
 go_upto_region 1 with fail
 refine rO (Cs [(⟨B,4,none⟩,.slice co ch.length cc),(⟨B,5,none⟩,.int .i64 nx)]) (oL [0,1,2,3,4,5,6,7,8,9,10,11,12,13]) ⟨c4,c5,trivial⟩ ?_
 clear c4 c5
 repeat refine pO ?_
 refine Zd5 ?_
 go_wp2
 go_ret
 exact ⟨0,nx,rfl,by omega,by omega,HH.out.old bE,Upd.of bE⟩):p:=h
section
open Go.RowKit
def wkC (h:Hd) (m:Md) (co:Option Addr) (cc:Nat) (ch:List Int) (nx lf cs:Int):Array Value:=#[.slice h.co m.cl.length h.cc,.slice h.so m.st.length h.sc,.slice h.eo m.me.length h.ec,.int .i64 m.sel,.slice co ch.length cc,.int .i64 nx,.int .i64 lf,.int .i64 cs]
structure Wkx (W0:World) (B:Nat) (h:Hd) (m:Md) (co:Option Addr) (cc:Nat) (ch:List Int):Prop where
 sz:W0.heap.size≤B
 md:Zay W0 h m
 cr:Zar W0 co cc ch
 ln:ch.length≤1000
 mo:(Zl6 m).2.2=0
structure WkW (W0 w:World) (B:Nat) (h:Hd) (m:Md) (co:Option Addr) (cc:Nat) (ch:List Int) (nx lf cs:Int):Prop where
 bk:Blk w B (wkC h m co cc ch nx lf cs) 85
 bl:Below W0.heap.size W0 w
 iv:0≤nx∧nx≤1000∧-1≤lf∧lf≤2000∧0≤cs∧cs≤1000*(2000-lf)
section
variable {W0 w w':World}{B:Nat}{h:Hd}{m:Md}{co:Option Addr}{cc:Nat}{ch:List Int}{nx lf cs:Int}
theorem WkW.cells (H:WkW W0 w B h m co cc ch nx lf cs):B<w.heap.size∧w.cell? ⟨B,0,none⟩=some (.slice h.co m.cl.length h.cc)∧w.cell? ⟨B,1,none⟩=some (.slice h.so m.st.length h.sc)∧w.cell? ⟨B,2,none⟩=some (.slice h.eo m.me.length h.ec)∧w.cell? ⟨B,3,none⟩=some (.int .i64 m.sel)∧w.cell? ⟨B,4,none⟩=some (.slice co ch.length cc)∧w.cell? ⟨B,5,none⟩=some (.int .i64 nx)∧w.cell? ⟨B,6,none⟩=some (.int .i64 lf)∧w.cell? ⟨B,7,none⟩=some (.int .i64 cs):=
 ⟨Blk.lt H.bk,H.bk.cell 0 rfl,H.bk.cell 1 rfl,H.bk.cell 2 rfl,H.bk.cell 3 rfl,H.bk.cell 4 rfl,H.bk.cell 5 rfl,H.bk.cell 6 rfl,H.bk.cell 7 rfl⟩
theorem WkW.old (H:WkW W0 w B h m co cc ch nx lf cs) (hb:Below w.heap.size w w'):WkW W0 w' B h m co cc ch nx lf cs:=⟨H.bk.old hb,Zaf H.bl hb,H.iv⟩
theorem WkW.setN (H:WkW W0 w B h m co cc ch nx lf cs) (hB:W0.heap.size≤B) {n:Int} (h1:0≤n∧n≤1000):WkW W0 (w.setCell ⟨B,5,none⟩ (.int .i64 n)) B h m co cc ch n lf cs:=⟨H.bk.set 5 _,ZcW H.bl hB _,by have:=H.iv;omega⟩
end
def ZpW (how lf cs0 cs hi lo:Int):Prop:=(how=0∨how=1∨how=2)∧(how≠2→0≤lf)∧cs0≤cs∧cs-cs0≤hi∧(how=0→0≤lo∧lo≤cs-cs0)
def WkP (W0 W:World) (B:Nat) (h:Hd) (m:Md) (co:Option Addr) (cc:Nat) (ch:List Int) (cs0 hi lo:Int):Ending→World→Prop:=fun e w'=>∃ how nx lf cs,e=.returned (.int .i64 how)∧WkW W0 w' B h m co cc ch nx lf cs∧Upd B B W w'∧ZpW how lf cs0 cs hi lo
def ZpX (W0 W:World) (B:Nat) (h:Hd) (m:Md) (co:Option Addr) (cc:Nat) (ch:List Int) (n lf cs:Int):Ending→World→Prop:=fun e w'=>∃ k nx,e=.returned (.int .i64 k)∧0≤k∧k<max 1 n∧WkW W0 w' B h m co cc ch nx lf cs∧Upd B B W w'
section
variable {W0 w:World}{B:Nat}{h:Hd}{m:Md}{co:Option Addr}{cc:Nat}{ch:List Int}{nx lf cs:Int} (X:Wkx W0 B h m co cc ch) (H:WkW W0 w B h m co cc ch nx lf cs)
include X H
theorem ZpY (n:Int) (hn:n≤100000):Calls Tryz.prog 121 #[.pointer (some ⟨B,0,none⟩),.int .i64 n] w (ZpX W0 w B h m co cc ch n lf cs):=by
 have hiv:=H.iv
 obtain ⟨kl,-,-,-,-,c4,c5,-,-⟩:=H.cells
 have f5:w.frozen? ⟨B,5,none⟩=false:=H.bk.frozen 5
 have HH:=Zh H
 have HX:=Zh X
 obtain ⟨nx,rfl⟩:∃ d:Nat,nx=d:=⟨nx.toNat,by omega⟩
 have hcs:nx ≥ ch.length∨(¬ (nx:Int) ≥ ch.length∧n<1)∨(¬ (nx:Int) ≥ ch.length∧¬ n<1):=by omega
 clear H X
 rcases hcs with h1|⟨h1,h2⟩|⟨h1,h2⟩
 ·have h1':(nx:Int) ≥ ch.length:=by omega
  exact kC0
 ·exact kC0
 ·have hnl:nx<ch.length:=by omega
  have hnl2:(nx:Int) < ch.length:=by omega
  have hwn:IntKind.i64.wrap ((nx:Int)+1)=((nx+1:Nat):Int):=IntWalk.i64_in _ (by omega)
  obtain ⟨ad,rfl,l0⟩:=ZaB (HX.out.cr.old HH.out.bl) hnl
  generalize ch.getD nx 0=v at l0
  go_enter Tryz.func121,Tryz.ntmps121
  go_upto_region 1 with fail
  refine rO (Cs [(⟨B,4,none⟩,.slice (some ad) ch.length cc),(⟨B,5,none⟩,.int .i64 nx)]) (oL [0,1,2,3,4,5,6,7,8,9,10,11,12,13]) ⟨c4,c5,trivial⟩ ?_
  clear c4 c5
  repeat refine pO ?_
  refine Zd5 ?_
  obtain ⟨kl,-,-,-,-,c4,c5,-,-⟩:=HH.out.cells
  go_upto_region 3 with fail
  refine rO (Cs [(⟨B,4,none⟩,.slice (some ad) ch.length cc),(⟨B,5,none⟩,.int .i64 nx),(ad.add nx,.int .i64 v)]) (oL [0,1,2,3,4,5,6,7,8,9,10,11,12]) ⟨c4,c5,l0,trivial⟩ ?_
  have hn0:n≠0:=by omega
  have hn1:(n == 0)=false:=by simpa using hn0
  have hr:=Int.tmod_lt_of_pos v (show 0<n by omega)
  have hr2:-n<v.tmod n:=by have:=Int.tmod_lt_of_pos (-v) (show 0<n by omega);rw [Int.neg_tmod] at this;omega
  have hwr:IntKind.i64.wrap (v.tmod n)=v.tmod n:=IntWalk.i64_in _ (by omega)
  repeat refine pO ?_
  refine Zd5 ?_
  clear c4 c5 l0
  obtain ⟨kl,-,-,-,-,-,c5,-,-⟩:=HH.out.cells
  have HN:=Zh (HH.out.setN HX.out.sz (n:=(nx:Int)+1) (by have:=HX.out.ln;omega))
  have HU:=Zh ((Upd.refl B B w).set 5 (.int .i64 ((nx:Int)+1)))
  have hw2:IntKind.i64.wrap (v.tmod n+n)=v.tmod n+n:=IntWalk.i64_in _ (by omega)
  generalize v.tmod n=r at hr hr2 hwr hw2 ⊢
  by_cases hr0:r<0
  ·go_wp2
   go_ret
   exact ⟨r+n,_,rfl,by omega,by omega,HN.out.old bE,HU.out.bel bE⟩
  ·go_wp2
   go_ret
   exact ⟨r,_,rfl,by omega,by omega,HN.out.old bE,HU.out.bel bE⟩
theorem ZpZ (n:Int) (hn:0≤n∧n≤1000) (hl:0≤lf):Calls Tryz.prog 120 #[.pointer (some ⟨B,0,none⟩),.int .i64 n] w (fun e w'=>e=.returned (.int .i64 (if lf=0 then 2 else 0))∧WkW W0 w' B h m co cc ch nx (lf-1) (cs+n)∧Upd B B w w'):=by
 have hiv:=H.iv
 obtain ⟨kl,-,-,-,-,-,-,c6,c7⟩:=H.cells
 have f7:w.frozen? ⟨B,7,none⟩=false:=H.bk.frozen 7
 have hw1:IntKind.i64.wrap (cs+n)=cs+n:=IntWalk.i64_in _ (by omega)
 have hw2:IntKind.i64.wrap (lf-1)=lf-1:=IntWalk.i64_in _ (by omega)
 have hB:=X.sz
 have hb1:Blk (w.setCell ⟨B,7,none⟩ (.int .i64 (cs+n))) B (wkC h m co cc ch nx lf (cs+n)) 85:=H.bk.set 7 _
 have c6':(w.setCell ⟨B,7,none⟩ (.int .i64 (cs+n))).cell? ⟨B,6,none⟩=some (.int .i64 lf):=hb1.cell 6 rfl
 have f6:(w.setCell ⟨B,7,none⟩ (.int .i64 (cs+n))).frozen? ⟨B,6,none⟩=false:=hb1.frozen 6
 have kl2:=hb1.lt
 have hb2:Blk ((w.setCell ⟨B,7,none⟩ (.int .i64 (cs+n))).setCell ⟨B,6,none⟩ (.int .i64 (lf-1))) B (wkC h m co cc ch nx (lf-1) (cs+n)) 85:=hb1.set 6 _
 have d6:((w.setCell ⟨B,7,none⟩ (.int .i64 (cs+n))).setCell ⟨B,6,none⟩ (.int .i64 (lf-1))).cell? ⟨B,6,none⟩=some (.int .i64 (lf-1)):=hb2.cell 6 rfl
 have HW:=Zh (show WkW W0 ((w.setCell ⟨B,7,none⟩ (.int .i64 (cs+n))).setCell ⟨B,6,none⟩ (.int .i64 (lf-1))) B h m co cc ch nx (lf-1) (cs+n) from ⟨hb2,ZcW (ZcW H.bl hB _) hB _,by omega⟩)
 have HU:=Zh (((Upd.refl B B w).set 7 (.int .i64 (cs+n))).set 6 (.int .i64 (lf-1)))
 clear H X hb1 hb2
 by_cases h0:lf=0
 ·rw [if_pos h0]
  have hlt:lf-1<0:=by omega
  clear h0
  go_enter Tryz.func120,Tryz.ntmps120
  go_wp2
  go_ret
  exact ⟨rfl,HW.out,HU.out⟩
 ·rw [if_neg h0]
  have hlt:¬ lf-1<0:=by omega
  go_enter Tryz.func120,Tryz.ntmps120
  go_wp2
  go_ret
  exact ⟨rfl,HW.out,HU.out⟩
end
def Zp0 (op:Int):Bool:=decide (op=9∨op=14∨op=15∨op=16∨op=17∨op=18∨op=19∨op=20∨op=21∨op=23∨op=24∨op=26)
theorem Zp1 (op:Int) (w:World):Calls Tryz.prog 164 #[.int .i64 op] w (Ret w (.bool (Zp0 op))):=by
 generalize hq:Zp0 op=q
 have HQ:=Zh hq
 clear hq
 go_enter Tryz.func164,Tryz.ntmps164
 go_wp2
 all_goals
  go_ret
  refine ZcT (ZcX ?_) bE
  rw [←HQ.out]
  unfold Zp0
  grind
end
section
open Go.RowKit
def Zp2 (w:World):Ending→World→Prop:=fun e w'=>(∃ b,e=.returned (.bool b))∧Below w.heap.size w w'
theorem Zp3 (m:Md) (h:Hd) (w:World) (H:Zay w h m):Calls Tryz.prog 11 #[.agg #[.slice h.co m.cl.length h.cc,.slice h.so m.st.length h.sc,.slice h.eo m.me.length h.ec,.int .i64 m.sel]] w (Zp2 w):=by
  obtain ⟨w0,hw0⟩:∃ w0,w0=w.alloc (.cells #[.slice h.co m.cl.length h.cc,.slice h.so m.st.length h.sc,.slice h.eo m.me.length h.ec,.int .i64 m.sel] 26):=⟨_,rfl⟩
  have HB:=Zh (show Below w.heap.size w w0 by rw [hw0];exact bE)
  have HX:=Zh (show Blk w0 w.heap.size #[.slice h.co m.cl.length h.cc,.slice h.so m.st.length h.sc,.slice h.eo m.me.length h.ec,.int .i64 m.sel] 26 by rw [hw0];exact Blk.new _ _ _)
  have HM:=Zh (H.old HB.out)
  have HW:=Zh hw0
  have hbz:=H.bz
  obtain ⟨z1,z2,z3⟩:=hbz
  clear hw0 H
  go_enter Tryz.func11,Tryz.ntmps11
  go_upto_region 1 with fail
  rw [←HW.out]
  have x0:=HX.out.cell 0 (v:=.slice h.co m.cl.length h.cc) rfl
  have x1:=HX.out.cell 1 (v:=.slice h.so m.st.length h.sc) rfl
  have x2:=HX.out.cell 2 (v:=.slice h.eo m.me.length h.ec) rfl
  go_upto_region 2 with fail
  clear x0 x1 x2
  go_wp2
  go_loopw [3,4] (fun s i wr=>∃ (k:Nat) (n:Int),k≤m.cl.length∧i=.int .i64 k∧s=.int .i64 n∧Hid (Below w0.heap.size w0 wr)) (fun _ i _=>m.cl.length-(intOf i).toNat)
  case atStart=>exact ⟨0,_,Nat.zero_le _,rfl,rfl,by exact bE⟩
  case round=>
    obtain ⟨k,n,hk,rfl,rfl,HBr⟩:=hrel
    rename World=>wo
    have x0:=(HX.out.old HBr.out).cell 0 (v:=.slice h.co m.cl.length h.cc) rfl
    by_cases hc:k<m.cl.length∧n≤400
    · obtain ⟨hkl,hn⟩:=hc
      have hkl2:(k:Int) < m.cl.length:=by omega
      have hwk:IntKind.i64.wrap ((k:Int)+1)=((k+1:Nat):Int):=IntWalk.i64_in _ (by omega)
      obtain ⟨ad,had,-,-,e2,e3⟩:=(HM.out.old HBr.out).cls hkl
      rw [had] at x0
      clear had
      go_upto_region 5 with fail
      refine rO (Cs [(⟨w.heap.size,0,none⟩,.slice (some ad) m.cl.length h.cc),(⟨(ad.add (k*4)).block,(ad.add (k*4)).off+2,none⟩,.slice (h.c k).fo (m.cl.getD k default).f.length (h.c k).fc),(⟨(ad.add (k*4)).block,(ad.add (k*4)).off+3,none⟩,.slice (h.c k).mo (m.cl.getD k default).m.length (h.c k).mc)]) (oL [0,1,2,3,4,5,6,7,8,9,10,11,12,13,14,15,16,17]) ⟨x0,e2,e3,trivial⟩ ?_
      clear x0 e2 e3
      repeat refine pO ?_
      refine Zd5 ?_
      go_wp2
      exact ⟨⟨k+1,_,hkl,rfl,rfl,HBr.out.drew⟩,by simp [intOf];omega⟩
    · by_cases hkl:k<m.cl.length
      all_goals first
        | (have hkl2:(k:Int) < m.cl.length:=by omega
           have hn:¬ n≤400:=fun q=>hc ⟨hkl,q⟩
           have hn2:400<n:=by omega
           clear hc
           go_wp2)
        | (have hkl2:¬ (k:Int) < m.cl.length:=by omega
           clear hc
           go_wp2)
      all_goals
        clear x0
        go_loopw [3,5] (fun s i wr=>∃ (k:Nat) (n:Int),k≤m.me.length∧i=.int .i64 k∧s=.int .i64 n∧Hid (Below w0.heap.size w0 wr)) (fun _ i _=>m.me.length-(intOf i).toNat)
        case atStart=>exact ⟨0,_,Nat.zero_le _,rfl,rfl,HBr.out⟩
        case round=>
          obtain ⟨q,p,hq,rfl,rfl,HBs⟩:=hrel
          rename World=>wi
          have x2:=(HX.out.old HBs.out).cell 2 (v:=.slice h.eo m.me.length h.ec) rfl
          by_cases hc:q<m.me.length∧p≤3000
          · obtain ⟨hql,hp⟩:=hc
            have hql2:(q:Int) < m.me.length:=by omega
            have hwq:IntKind.i64.wrap ((q:Int)+1)=((q+1:Nat):Int):=IntWalk.i64_in _ (by omega)
            obtain ⟨ad,had,-,-,e2,e3,-,-,e6⟩:=(HM.out.old HBs.out).mth hql
            rw [had] at x2
            clear had
            go_upto_region 9 with fail
            refine rO (Cs [(⟨w.heap.size,2,none⟩,.slice (some ad) m.me.length h.ec),(⟨(ad.add (q*7)).block,(ad.add (q*7)).off+2,none⟩,.slice (h.e q).po (m.me.getD q default).p.length (h.e q).pc),(⟨(ad.add (q*7)).block,(ad.add (q*7)).off+3,none⟩,.slice (h.e q).lo (m.me.getD q default).l.length (h.e q).lc),(⟨(ad.add (q*7)).block,(ad.add (q*7)).off+6,none⟩,.slice (h.e q).ko (m.me.getD q default).k.length (h.e q).kc)]) (oL [0,1,2,3,4,5,6,7,8,9,10,11,12,13,14,15,16,17,18,19,20,21,22,23,24,25]) ⟨x2,e2,e3,e6,trivial⟩ ?_
            clear x2 e2 e3 e6
            repeat refine pO ?_
            refine Zd5 ?_
            go_wp2
            exact ⟨⟨q+1,_,hql,rfl,rfl,HBs.out.drew⟩,by simp [intOf];omega⟩
          · by_cases hql:q<m.me.length
            all_goals first
              | (have hql2:(q:Int) < m.me.length:=by omega
                 have hp:¬ p≤3000:=fun q=>hc ⟨hql,q⟩
                 clear hc
                 go_wp2)
              | (have hql2:¬ (q:Int) < m.me.length:=by omega
                 clear hc
                 go_wp2)
            all_goals
              go_ret
              exact ⟨⟨_,rfl⟩,Zaf HB.out HBs.out⟩
end
end Go.Proofs.YtfkbfjhocmbneaaGreat
