/- Joined texts. The first: BoundTrims, the plain law: a method without its nops weighs less, by at most them, each as often as it is done. -/
import Derived.Test.YtfkbfjhocmbneaaGreatS30
import Derived.Test.YtfkbfjhocmbneaaGreatS31
set_option linter.all false
set_option linter.unusedVariables false
set_option linter.unusedSimpArgs false
set_option maxRecDepth 100000
set_option maxHeartbeats 8000000
namespace Go.Proofs.YtfkbfjhocmbneaaGreat
section
open Go.RowKit
abbrev gH (m:Md):Wg:=gT Zmx m (ZmD (gW Zmx m) m)
section
variable {m:Md} (hm:Za1 m=true)
include hm
theorem ZqQ (k:Nat):Bd (ZmD (gW Zmx m) m k):=ZoI hm (x:=Zmx) (fun k hk i hi=>ZoD ((ZfN hm hk).i i hi).1) (by decide) (k+1) k (by omega)
theorem ZqR {k:Nat} (hk:k<m.me.length) {a b:Nat} (hs:Seg (cdM m k) a b) {acc:Int} (ha:Bd acc):Bd (WA (gH m) (cdM m k) a b acc):=
 ZnH (x:=Zmx) (m:=m) (fun i hi=>ZoD ((ZfN hm hk).i i hi).1) (by decide) (fun t=>ZqQ hm t.toNat) (fun i hi=>(ZfS ((ZfN hm hk).i i hi).1 ((ZfN hm hk).i i hi).2).a0) hs acc ha
end
end
section
open Go.RowKit
def hvA (m:Md):Nat→Int
 | 0=>(m.cl.length:Int)+m.st.length+m.me.length
 | k+1=>if 400<hvA m k then hvA m k else IntKind.i64.wrap (IntKind.i64.wrap (hvA m k+(m.cl.getD k default).f.length)+(m.cl.getD k default).m.length)
theorem ZqS {m:Md}{k:Nat} (h:400<hvA m k):∀ j,hvA m (k+j)=hvA m k
 | 0=>rfl
 |j+1=>by
  show (if 400<hvA m (k+j) then hvA m (k+j) else _)=_
  rw [ZqS h j,if_pos h]
def hvB (m:Md):Nat→Int
 | 0=>hvA m m.cl.length
 | k+1=>if 3000<hvB m k then hvB m k else IntKind.i64.wrap (IntKind.i64.wrap (IntKind.i64.wrap (hvB m k+(m.me.getD k default).k.length)+(m.me.getD k default).p.length)+(m.me.getD k default).l.length)
theorem ZqT {m:Md}{k:Nat} (h:3000<hvB m k):∀ j,hvB m (k+j)=hvB m k
 | 0=>rfl
 |j+1=>by
  show (if 3000<hvB m (k+j) then hvB m (k+j) else _)=_
  rw [ZqT h j,if_pos h]
def ZqU (m:Md):Bool:=decide (3000<hvB m m.me.length)
theorem ZqV (m:Md) (h:Hd) (w:World) (H:Zay w h m):Calls Tryz.prog 11 #[.agg #[.slice h.co m.cl.length h.cc,.slice h.so m.st.length h.sc,.slice h.eo m.me.length h.ec,.int .i64 m.sel]] w (Ret w (.bool (ZqU m))):=by
  obtain ⟨w0,hw0⟩:∃ w0,w0=w.alloc (.cells #[.slice h.co m.cl.length h.cc,.slice h.so m.st.length h.sc,.slice h.eo m.me.length h.ec,.int .i64 m.sel] 26):=⟨_,rfl⟩
  have HB:=Zh (show Below w.heap.size w w0 by rw [hw0];exact bE)
  have HX:=Zh (show Blk w0 w.heap.size #[.slice h.co m.cl.length h.cc,.slice h.so m.st.length h.sc,.slice h.eo m.me.length h.ec,.int .i64 m.sel] 26 by rw [hw0];exact Blk.new _ _ _)
  have HM:=Zh (H.old HB.out)
  have HW:=Zh hw0
  have hbz:=H.bz
  obtain ⟨z1,z2,z3⟩:=hbz
  clear hw0 H
  go_enter Tryz.func11,Tryz.ntmps11
  go_upto_region 1 with fail
  rw [←HW.out]
  have x0:=HX.out.cell 0 (v:=.slice h.co m.cl.length h.cc) rfl
  have x1:=HX.out.cell 1 (v:=.slice h.so m.st.length h.sc) rfl
  have x2:=HX.out.cell 2 (v:=.slice h.eo m.me.length h.ec) rfl
  go_upto_region 2 with fail
  clear x0 x1 x2
  go_wp2
  go_loopw [3,4] (fun s i wr=>∃ (k:Nat) (n:Int),k≤m.cl.length∧i=.int .i64 k∧s=.int .i64 n∧Hid (n=hvA m k)∧Hid (Below w0.heap.size w0 wr)) (fun _ i _=>m.cl.length-(intOf i).toNat)
  case atStart=>exact ⟨0,_,Nat.zero_le _,rfl,rfl,(show _=hvA m 0 from rfl),by exact bE⟩
  case round=>
    obtain ⟨k,n,hk,rfl,rfl,HN,HBr⟩:=hrel
    rename World=>wo
    have x0:=(HX.out.old HBr.out).cell 0 (v:=.slice h.co m.cl.length h.cc) rfl
    by_cases hc:k<m.cl.length∧n≤400
    · obtain ⟨hkl,hn⟩:=hc
      have hkl2:(k:Int) < m.cl.length:=by omega
      have hwk:IntKind.i64.wrap ((k:Int)+1)=((k+1:Nat):Int):=IntWalk.i64_in _ (by omega)
      obtain ⟨ad,had,-,-,e2,e3⟩:=(HM.out.old HBr.out).cls hkl
      rw [had] at x0
      clear had
      go_upto_region 5 with fail
      refine rO (Cs [(⟨w.heap.size,0,none⟩,.slice (some ad) m.cl.length h.cc),(⟨(ad.add (k*4)).block,(ad.add (k*4)).off+2,none⟩,.slice (h.c k).fo (m.cl.getD k default).f.length (h.c k).fc),(⟨(ad.add (k*4)).block,(ad.add (k*4)).off+3,none⟩,.slice (h.c k).mo (m.cl.getD k default).m.length (h.c k).mc)]) (oL [0,1,2,3,4,5,6,7,8,9,10,11,12,13,14,15,16,17]) ⟨x0,e2,e3,trivial⟩ ?_
      clear x0 e2 e3
      repeat refine pO ?_
      refine Zd5 ?_
      go_wp2
      have hn2:¬ 400<hvA m k:=by rw [←HN.out];omega
      exact ⟨⟨k+1,_,hkl,rfl,rfl,(by show _=hvA m (k+1);rw [show hvA m (k+1)=IntKind.i64.wrap (IntKind.i64.wrap (hvA m k+((m.cl.getD k default).f.length:Int))+(m.cl.getD k default).m.length) from if_neg hn2,HN.out];simp [List.getD_eq_getElem?_getD,hkl]),HBr.out.drew⟩,by simp [intOf];omega⟩
    · by_cases hkl:k<m.cl.length
      all_goals first
        | (have hkl2:(k:Int) < m.cl.length:=by omega
           have hn:¬ n≤400:=fun q=>hc ⟨hkl,q⟩
           have hn2:400<n:=by omega
           have HE:=Zh (show n=hvB m 0 by
             have h:=ZqS (m:=m) (k:=k) (by rw [←HN.out];exact hn2) (m.cl.length-k)
             rw [show k+(m.cl.length-k)=m.cl.length by omega] at h
             rw [HN.out];exact h.symm)
           clear hc
           go_wp2)
        | (have hkl2:¬ (k:Int) < m.cl.length:=by omega
           have HE:=Zh (show n=hvB m 0 by rw [HN.out,show k=m.cl.length by omega];rfl)
           clear hc
           go_wp2)
      all_goals
        clear x0
        go_loopw [3,5] (fun s i wr=>∃ (k:Nat) (n:Int),k≤m.me.length∧i=.int .i64 k∧s=.int .i64 n∧Hid (n=hvB m k)∧Hid (Below w0.heap.size w0 wr)) (fun _ i _=>m.me.length-(intOf i).toNat)
        case atStart=>exact ⟨0,_,Nat.zero_le _,rfl,rfl,HE.out,HBr.out⟩
        case round=>
          obtain ⟨q,p,hq,rfl,rfl,HP,HBs⟩:=hrel
          rename World=>wi
          have x2:=(HX.out.old HBs.out).cell 2 (v:=.slice h.eo m.me.length h.ec) rfl
          by_cases hc:q<m.me.length∧p≤3000
          · obtain ⟨hql,hp⟩:=hc
            have hql2:(q:Int) < m.me.length:=by omega
            have hwq:IntKind.i64.wrap ((q:Int)+1)=((q+1:Nat):Int):=IntWalk.i64_in _ (by omega)
            obtain ⟨ad,had,-,-,e2,e3,-,-,e6⟩:=(HM.out.old HBs.out).mth hql
            rw [had] at x2
            clear had
            go_upto_region 9 with fail
            refine rO (Cs [(⟨w.heap.size,2,none⟩,.slice (some ad) m.me.length h.ec),(⟨(ad.add (q*7)).block,(ad.add (q*7)).off+2,none⟩,.slice (h.e q).po (m.me.getD q default).p.length (h.e q).pc),(⟨(ad.add (q*7)).block,(ad.add (q*7)).off+3,none⟩,.slice (h.e q).lo (m.me.getD q default).l.length (h.e q).lc),(⟨(ad.add (q*7)).block,(ad.add (q*7)).off+6,none⟩,.slice (h.e q).ko (m.me.getD q default).k.length (h.e q).kc)]) (oL [0,1,2,3,4,5,6,7,8,9,10,11,12,13,14,15,16,17,18,19,20,21,22,23,24,25]) ⟨x2,e2,e3,e6,trivial⟩ ?_
            clear x2 e2 e3 e6
            repeat refine pO ?_
            refine Zd5 ?_
            go_wp2
            have hp2:¬ 3000<hvB m q:=by rw [←HP.out];omega
            exact ⟨⟨q+1,_,hql,rfl,rfl,(by show _=hvB m (q+1);rw [show hvB m (q+1)=IntKind.i64.wrap (IntKind.i64.wrap (IntKind.i64.wrap (hvB m q+((m.me.getD q default).k.length:Int))+(m.me.getD q default).p.length)+(m.me.getD q default).l.length) from if_neg hp2,HP.out];simp [List.getD_eq_getElem?_getD,hql]),HBs.out.drew⟩,by simp [intOf];omega⟩
          · by_cases hql:q<m.me.length
            all_goals first
              | (have hql2:(q:Int) < m.me.length:=by omega
                 have hp:¬ p≤3000:=fun q=>hc ⟨hql,q⟩
                 have HF:=Zh (show p=hvB m m.me.length by
                   have h:=ZqT (m:=m) (k:=q) (by rw [←HP.out];omega) (m.me.length-q)
                   rw [show q+(m.me.length-q)=m.me.length by omega] at h
                   rw [HP.out];exact h.symm)
                 clear hc
                 go_wp2)
              | (have hql2:¬ (q:Int) < m.me.length:=by omega
                 have HF:=Zh (show p=hvB m m.me.length by rw [HP.out,show q=m.me.length by omega])
                 clear hc
                 go_wp2)
            all_goals
              go_ret
              exact ZcT (ZcX (by unfold ZqU;rw [←HF.out];try first|rfl|exact (decide_eq_true (by omega)).symm|exact (decide_eq_false (by omega)).symm)) (Zaf HB.out HBs.out)
theorem ZqW (m:Md) (h:Hd) (k:Int) (w:World) (H:Zay w h m):Calls Tryz.prog 18 #[.agg #[.slice h.co m.cl.length h.cc,.slice h.so m.st.length h.sc,.slice h.eo m.me.length h.ec,.int .i64 m.sel],.int .i64 k] w (Ret w (.bool (!ZqU m&&ZoO m k))):=by
 obtain ⟨w0,hw0⟩:∃ w0,w0=w.alloc (.cells #[.slice h.co m.cl.length h.cc,.slice h.so m.st.length h.sc,.slice h.eo m.me.length h.ec,.int .i64 m.sel] 26):=⟨_,rfl⟩
 have HB:=Zh (show Below w.heap.size w w0 by rw [hw0];exact bE)
 have HX:=Zh (show Blk w0 w.heap.size #[.slice h.co m.cl.length h.cc,.slice h.so m.st.length h.sc,.slice h.eo m.me.length h.ec,.int .i64 m.sel] 26 by rw [hw0];exact Blk.new _ _ _)
 have HM:=Zh (H.old HB.out)
 have HW:=Zh hw0
 obtain ⟨z,hz⟩:∃ z:Int,z=if ZoO m k=true then 0 else 1:=⟨_,rfl⟩
 have HR:=Zh (fun w' hb=>Zp2 m h k w' (HM.out.old (w':=w') hb))
 rw [←hz] at HR
 have HHv:=Zh (ZqV m h w0 HM.out)
 obtain ⟨bv,hbv⟩:∃ b,b=ZqU m:=⟨_,rfl⟩
 rw [←hbv] at HHv ⊢
 obtain ⟨br,hbr⟩:∃ b,b=ZoO m k:=⟨_,rfl⟩
 rw [←hbr]
 have HZ:=Zh (show z=if br=true then 0 else 1 by rw [hz,hbr])
 clear hw0 H hz hbv hbr
 cases bv
 all_goals
  go_enter Tryz.func18,Tryz.ntmps18
  go_upto_region 1 with fail
  rw [←HW.out]
  have x0:=HX.out.cell 0 (v:=.slice h.co m.cl.length h.cc) rfl
  have x1:=HX.out.cell 1 (v:=.slice h.so m.st.length h.sc) rfl
  have x2:=HX.out.cell 2 (v:=.slice h.eo m.me.length h.ec) rfl
  have x3:=HX.out.cell 3 (v:=.int .i64 m.sel) rfl
  go_wp2_with (first
   | (go_at_call 11;refine HHv.out.mono ?_;rintro e w1 ⟨rfl,hb1⟩;have HB1:=Zh hb1;clear hb1 x0 x1 x2 x3;have x0:=(HX.out.old HB1.out).cell 0 (v:=.slice h.co m.cl.length h.cc) rfl;have x1:=(HX.out.old HB1.out).cell 1 (v:=.slice h.so m.st.length h.sc) rfl;have x2:=(HX.out.old HB1.out).cell 2 (v:=.slice h.eo m.me.length h.ec) rfl;have x3:=(HX.out.old HB1.out).cell 3 (v:=.int .i64 m.sel) rfl)
   | (go_at_call 46;refine (HR.out _ HB1.out).mono ?_;rintro e w2 ⟨rfl,hb2⟩;have HB2:=Zh (Zaf HB1.out hb2);clear hb2))
  all_goals
   go_ret
   first
    | exact ZcT rfl (Zaf HB.out HB1.out)
    | (refine ZcT (ZcX ?_) (Zaf HB.out HB2.out);have hz:=HZ.out;cases br<;>simp_all)
end
end Go.Proofs.YtfkbfjhocmbneaaGreat
