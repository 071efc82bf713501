/- Joined texts. The first: VerifyNops, the plain law: a method without its nops is valid, and has the same error. -/
import Derived.Test.YtfkbfjhocmbneaaGreatG21
import Derived.Test.YtfkbfjhocmbneaaGreatG19
import Derived.Test.YtfkbfjhocmbneaaGreatG24
import Derived.Test.YtfkbfjhocmbneaaGreatG26
set_option linter.all false
set_option linter.unusedVariables false
set_option linter.unusedSimpArgs false
set_option maxHeartbeats 8000000
namespace Go.Proofs.YtfkbfjhocmbneaaGreat
section
structure ZqN (a b:List Mth):Prop where
 len:a.length=b.length
 c:∀ j,(a.getD j default).c=(b.getD j default).c
 p:∀ j,(a.getD j default).p=(b.getD j default).p
 l:∀ j,(a.getD j default).l=(b.getD j default).l
 r:∀ j,(a.getD j default).r=(b.getD j default).r
section
variable {cl:List Cls}{st:List Ty}{sel:Int}{a b:List Mth} (S:ZqN a b)
include S
end
end
section
open Go.RowKit
def ZqO (w:World):Ending→World→Prop:=fun e w'=>(∃ b,e=.returned (.bool b))∧Below w.heap.size w w'
theorem ZqP (m:Md) (h:Hd) (w:World) (H:Zay w h m):Calls Tryz.prog 11 #[.agg #[.slice h.co m.cl.length h.cc,.slice h.so m.st.length h.sc,.slice h.eo m.me.length h.ec,.int .i64 m.sel]] w (ZqO w):=by
  obtain ⟨w0,hw0⟩:∃ w0,w0=w.alloc (.cells #[.slice h.co m.cl.length h.cc,.slice h.so m.st.length h.sc,.slice h.eo m.me.length h.ec,.int .i64 m.sel] 26):=⟨_,rfl⟩
  have HB:=Zh (show Below w.heap.size w w0 by rw [hw0];exact bE)
  have HX:=Zh (show Blk w0 w.heap.size #[.slice h.co m.cl.length h.cc,.slice h.so m.st.length h.sc,.slice h.eo m.me.length h.ec,.int .i64 m.sel] 26 by rw [hw0];exact Blk.new _ _ _)
  have HM:=Zh (H.old HB.out)
  have HW:=Zh hw0
  have hbz:=H.bz
  obtain ⟨z1,z2,z3⟩:=hbz
  clear hw0 H
  go_enter Tryz.func11,Tryz.ntmps11
  go_upto_region 1 with fail
  rw [←HW.out]
  have x0:=HX.out.cell 0 (v:=.slice h.co m.cl.length h.cc) rfl
  have x1:=HX.out.cell 1 (v:=.slice h.so m.st.length h.sc) rfl
  have x2:=HX.out.cell 2 (v:=.slice h.eo m.me.length h.ec) rfl
  go_upto_region 2 with fail
  clear x0 x1 x2
  go_wp2
  go_loopw [3,4] (fun s i wr=>∃ (k:Nat) (n:Int),k≤m.cl.length∧i=.int .i64 k∧s=.int .i64 n∧Hid (Below w0.heap.size w0 wr)) (fun _ i _=>m.cl.length-(intOf i).toNat)
  case atStart=>exact ⟨0,_,Nat.zero_le _,rfl,rfl,by exact bE⟩
  case round=>
    obtain ⟨k,n,hk,rfl,rfl,HBr⟩:=hrel
    rename World=>wo
    have x0:=(HX.out.old HBr.out).cell 0 (v:=.slice h.co m.cl.length h.cc) rfl
    by_cases hc:k<m.cl.length∧n≤400
    · obtain ⟨hkl,hn⟩:=hc
      have hkl2:(k:Int) < m.cl.length:=by omega
      have hwk:IntKind.i64.wrap ((k:Int)+1)=((k+1:Nat):Int):=IntWalk.i64_in _ (by omega)
      obtain ⟨ad,had,-,-,e2,e3⟩:=(HM.out.old HBr.out).cls hkl
      rw [had] at x0
      clear had
      go_upto_region 5 with fail
      refine rO (Cs [(⟨w.heap.size,0,none⟩,.slice (some ad) m.cl.length h.cc),(⟨(ad.add (k*4)).block,(ad.add (k*4)).off+2,none⟩,.slice (h.c k).fo (m.cl.getD k default).f.length (h.c k).fc),(⟨(ad.add (k*4)).block,(ad.add (k*4)).off+3,none⟩,.slice (h.c k).mo (m.cl.getD k default).m.length (h.c k).mc)]) (oL [0,1,2,3,4,5,6,7,8,9,10,11,12,13,14,15,16,17]) ⟨x0,e2,e3,trivial⟩ ?_
      clear x0 e2 e3
      repeat refine pO ?_
      refine Zd5 ?_
      go_wp2
      exact ⟨⟨k+1,_,hkl,rfl,rfl,HBr.out.drew⟩,by simp [intOf];omega⟩
    · by_cases hkl:k<m.cl.length
      all_goals first
        | (have hkl2:(k:Int) < m.cl.length:=by omega
           have hn:¬ n≤400:=fun q=>hc ⟨hkl,q⟩
           have hn2:400<n:=by omega
           clear hc
           go_wp2)
        | (have hkl2:¬ (k:Int) < m.cl.length:=by omega
           clear hc
           go_wp2)
      all_goals
        clear x0
        go_loopw [3,5] (fun s i wr=>∃ (k:Nat) (n:Int),k≤m.me.length∧i=.int .i64 k∧s=.int .i64 n∧Hid (Below w0.heap.size w0 wr)) (fun _ i _=>m.me.length-(intOf i).toNat)
        case atStart=>exact ⟨0,_,Nat.zero_le _,rfl,rfl,HBr.out⟩
        case round=>
          obtain ⟨q,p,hq,rfl,rfl,HBs⟩:=hrel
          rename World=>wi
          have x2:=(HX.out.old HBs.out).cell 2 (v:=.slice h.eo m.me.length h.ec) rfl
          by_cases hc:q<m.me.length∧p≤3000
          · obtain ⟨hql,hp⟩:=hc
            have hql2:(q:Int) < m.me.length:=by omega
            have hwq:IntKind.i64.wrap ((q:Int)+1)=((q+1:Nat):Int):=IntWalk.i64_in _ (by omega)
            obtain ⟨ad,had,-,-,e2,e3,-,-,e6⟩:=(HM.out.old HBs.out).mth hql
            rw [had] at x2
            clear had
            go_upto_region 9 with fail
            refine rO (Cs [(⟨w.heap.size,2,none⟩,.slice (some ad) m.me.length h.ec),(⟨(ad.add (q*7)).block,(ad.add (q*7)).off+2,none⟩,.slice (h.e q).po (m.me.getD q default).p.length (h.e q).pc),(⟨(ad.add (q*7)).block,(ad.add (q*7)).off+3,none⟩,.slice (h.e q).lo (m.me.getD q default).l.length (h.e q).lc),(⟨(ad.add (q*7)).block,(ad.add (q*7)).off+6,none⟩,.slice (h.e q).ko (m.me.getD q default).k.length (h.e q).kc)]) (oL [0,1,2,3,4,5,6,7,8,9,10,11,12,13,14,15,16,17,18,19,20,21,22,23,24,25]) ⟨x2,e2,e3,e6,trivial⟩ ?_
            clear x2 e2 e3 e6
            repeat refine pO ?_
            refine Zd5 ?_
            go_wp2
            exact ⟨⟨q+1,_,hql,rfl,rfl,HBs.out.drew⟩,by simp [intOf];omega⟩
          · by_cases hql:q<m.me.length
            all_goals first
              | (have hql2:(q:Int) < m.me.length:=by omega
                 have hp:¬ p≤3000:=fun q=>hc ⟨hql,q⟩
                 clear hc
                 go_wp2)
              | (have hql2:¬ (q:Int) < m.me.length:=by omega
                 clear hc
                 go_wp2)
            all_goals
              go_ret
              exact ⟨⟨_,rfl⟩,Zaf HB.out HBs.out⟩
end
end Go.Proofs.YtfkbfjhocmbneaaGreat
