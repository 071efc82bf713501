/- BoundTrims: the law. -/
import Derived.Test.YtfkbfjhocmbneaaGreatT19
set_option linter.all false
set_option linter.unusedVariables false
set_option linter.unusedSimpArgs false
set_option maxRecDepth 100000
set_option maxHeartbeats 16000000
namespace Go.Proofs.YtfkbfjhocmbneaaGreat
section
open Go.RowKit
theorem nopV_bd {c:List In3} (h:∀ i,i<c.length→Bd (tmV c i)∧tmV c i≤1000000000):∀ n,n≤c.length→0≤nopV c n∧nopV c n≤n*1000000000
 | 0,_=>⟨Int.le_refl _,by show (0:Int)≤_;omega⟩
 | n+1,hn=>by
  obtain ⟨i0,i1⟩:=nopV_bd h n (by omega)
  obtain ⟨b0,b1⟩:=h n (by omega)
  have:=b0.1
  show 0≤nopV c n+(if _ then _ else _)∧nopV c n+(if _ then _ else _)≤((n+1:Nat):Int)*1000000000
  split<;>omega
attribute [local go_sem] addr_at
theorem boundTrims_any (m:Md) (h:Hd) (k:Int) (w:World) (H:ModAt w h m):Calls Tryz.prog 4 #[.agg #[.slice h.co m.cl.length h.cc,.slice h.so m.st.length h.sc,.slice h.eo m.me.length h.ec,.int .i64 m.sel],.int .i64 k] w (Ret w (.bool true)):=by
 obtain ⟨w0,hw0⟩:∃ w0,w0=w.alloc (.cells #[.slice h.co m.cl.length h.cc,.slice h.so m.st.length h.sc,.slice h.eo m.me.length h.ec,.int .i64 m.sel] 26):=⟨_,rfl⟩
 have HB:=Lib.hid (show Below w.heap.size w w0 by rw [hw0];exact bE)
 have HX:=Lib.hid (show Blk w0 w.heap.size #[.slice h.co m.cl.length h.cc,.slice h.so m.st.length h.sc,.slice h.eo m.me.length h.ec,.int .i64 m.sel] 26 by rw [hw0];exact Blk.new _ _ _)
 have HM:=Lib.hid (H.old HB.out)
 have HW:=Lib.hid hw0
 have HSz0:=Lib.hid (show w0.heap.size=w.heap.size+1 by rw [hw0];simp)
 clear hw0 H
 go_enter Tryz.func4,Tryz.ntmps4
 go_upto_region 1 with fail
 rw [←HW.out]
 have x0:=HX.out.cell 0 (v:=.slice h.co m.cl.length h.cc) rfl
 have x1:=HX.out.cell 1 (v:=.slice h.so m.st.length h.sc) rfl
 have x2:=HX.out.cell 2 (v:=.slice h.eo m.me.length h.ec) rfl
 have x3:=HX.out.cell 3 (v:=.int .i64 m.sel) rfl
 go_upto_region 3 with (first
  | (go_at_call 18;refine (lfits_any m h k _ HM.out).mono ?_;rintro e w1 ⟨⟨b,rfl,hfb⟩,hb1⟩;have HFb:=Lib.hid hfb;have HB1:=Lib.hid hb1;clear hfb hb1 x0 x1 x2 x3;have x0:=(HX.out.old HB1.out).cell 0 (v:=.slice h.co m.cl.length h.cc) rfl;have x1:=(HX.out.old HB1.out).cell 1 (v:=.slice h.so m.st.length h.sc) rfl;have x2:=(HX.out.old HB1.out).cell 2 (v:=.slice h.eo m.me.length h.ec) rfl;have x3:=(HX.out.old HB1.out).cell 3 (v:=.int .i64 m.sel) rfl)
  | (go_at_call 12;refine (sane7_any _).mono ?_;rintro e w2 ⟨rfl,hb2⟩))
 ·go_ret
  exact ret_ok rfl (bthen HB.out (bthen HB1.out hb2))
 have hrd:readyV m k=true:=HFb.out (by simp_all)
 obtain ⟨hm,hk0,hk1⟩:=readyV_yes hrd
 obtain ⟨k,rfl⟩:∃ d:Nat,k=d:=⟨k.toNat,by omega⟩
 have hkl:k<m.me.length:=by omega
 have hkl2:(k:Int) < m.me.length:=by omega
 have hmo:(moduleV m).2.2=0:=ready_mod hrd
 have hrn:readyV (nopM m k) k=true:=by
  unfold readyV inV
  rw [trim_ready hmo hkl]
  simp [nopM]
  omega
 have hok:=mth_ok hm hkl
 have hcl:(cdM m k).length≤120:=hok.z.2.2
 have hcv:codeE false (cdM m k)=0:=(cost_wkr hm w).code hkl
 obtain ⟨v,hv⟩:∃ v,v=mthW (gW byCost m) m k:=⟨_,rfl⟩
 obtain ⟨u,hu⟩:∃ u,u=mthW (gW byCost (nopM m k)) (nopM m k) k:=⟨_,rfl⟩
 have hvb:Bd v:=hv▸mthW_bd hm (x:=byCost) (fun k hk i hi=>costV_bd ((mth_ok hm hk).i i hi).1) (by decide) (k+1) k (by omega)
 have hub:Bd u:=hu▸mthW_bd (nop_mod hm hkl) (x:=byCost) (fun k' hk i hi=>costV_bd ((mth_ok (nop_mod hm hkl) hk).i i hi).1) (by decide) (k+1) k (by omega)
 have htr:(∀ i,i<(cdM m k).length→tmV (cdM m k) i≤1000000000)→u≤v∧v-u≤nopV (cdM m k) (cdM m k).length:=fun ht=>hu▸hv▸trim_law hm hkl ht
 have hwe:worstE m k=if 1000000000<v then (0,6) else (v,0):=by rw [hv];unfold worstE;rw [if_pos hrd,Int.toNat_natCast]
 have hwf:worstE (nopM m k) k=if 1000000000<u then (0,6) else (u,0):=by rw [hu];unfold worstE;rw [if_pos hrn,Int.toNat_natCast]
 have hte:timesE m k=if hugeV∈timesL (cdM m k) then ([],6) else (timesL (cdM m k),0):=by unfold timesE;rw [if_pos hrd,Int.toNat_natCast]
 clear hv hu
 obtain ⟨⟨ra,re⟩,hq1⟩:∃ q,q=worstE m k:=⟨_,rfl⟩
 obtain ⟨⟨rb,rf⟩,hq2⟩:∃ q,q=worstE (nopM m k) k:=⟨_,rfl⟩
 obtain ⟨⟨L,rg⟩,hq3⟩:∃ q,q=timesE m k:=⟨_,rfl⟩
 have HNl:=Lib.hid (show (nopM m k).me.length=m.me.length by simp [nopM])
 have HWo:=Lib.hid (show ∀ w',Below w0.heap.size w0 w'→_ from fun w' hb=>by have:=worst_any m h k w' (HM.out.old hb);rwa [←hq1] at this)
 have HTi:=Lib.hid (show ∀ w',Below w0.heap.size w0 w'→_ from fun w' hb=>by have:=btimes_any m h k w' (HM.out.old hb);rwa [←hq3] at this)
 have HWn:=Lib.hid (show ∀ w' h',ModAt w' h' (nopM m k)→_ from fun w' h' H'=>by have:=worst_any (nopM m k) h' k w' H';rwa [←hq2] at this)
 rw [←hq1] at hwe
 rw [←hq2] at hwf
 rw [←hq3] at hte
 have hall:(re=0∧rg=0∧rf=0∧rb≤ra∧0≤rb∧ra≤1000000000∧ra-rb≤nopV (cdM m k) (cdM m k).length∧L=timesL (cdM m k)∧∀ i,i<(cdM m k).length→Bd (tmV (cdM m k) i)∧tmV (cdM m k) i≤1000000000)∨(re=0∧rg=6)∨(re=6∧rg=0)∨(re=6∧rg=6):=by
  by_cases h1:1000000000<v
  ·rw [if_pos h1] at hwe
   cases hwe
   by_cases h2:hugeV∈timesL (cdM m k)
   ·rw [if_pos h2] at hte;cases hte;exact .inr (.inr (.inr ⟨rfl,rfl⟩))
   ·rw [if_neg h2] at hte;cases hte;exact .inr (.inr (.inl ⟨rfl,rfl⟩))
  ·rw [if_neg h1] at hwe
   cases hwe
   by_cases h2:hugeV∈timesL (cdM m k)
   ·rw [if_pos h2] at hte;cases hte;exact .inr (.inl ⟨rfl,rfl⟩)
   ·rw [if_neg h2] at hte
    cases hte
    have htb:∀ i,i<(cdM m k).length→Bd (tmV (cdM m k) i)∧tmV (cdM m k) i≤1000000000:=fun i hi=>by
     have hb:Bd (tmV (cdM m k) i):=tmB_bd (fun j hj e=>(opd_ok (hok.i _ (getD_mem _ hj)).1 (hok.i _ (getD_mem _ hj)).2).a0 (by omega)) i i (Nat.le_of_lt hi)
     refine ⟨hb,?_⟩
     have:tmV (cdM m k) i≠hugeV:=fun e=>h2 (by
      rw [←e]
      exact List.mem_map.2 ⟨i,List.mem_range.2 hi,rfl⟩)
     unfold Bd at hb;unfold hugeV at this;omega
    obtain ⟨t1,t2⟩:=htr fun i hi=>(htb i hi).2
    rw [if_neg (by omega)] at hwf
    cases hwf
    unfold Bd at hub
    exact .inl ⟨rfl,rfl,rfl,t1,hub.1,by omega,t2,rfl,htb⟩
 have HCp:=Lib.hid (fun w' hb=>copy_any w' h m (HM.out.old (w':=w') hb) (mdSm_of hm))
 have HSm:=Lib.hid (mdSm_of (nop_mod hm hkl))
 have HSm0:=Lib.hid (mdSm_of hm)
 have HCv:=Lib.hid hcv
 have HAll:=Lib.hid hall
 clear hrd hm hmo hrn hok hcv hvb hub htr hwe hwf hte hq1 hq2 hq3 hall
 go_upto_region 4 with (go_at_call 19;refine (HCp.out _ HB1.out).mono ?_;rintro r w2 ⟨h2,rfl,hcp,hb2⟩;have HC2:=Lib.hid hcp;have HB2:=Lib.hid hb2;clear hcp hb2 x0 x1 x2 x3)
 obtain ⟨W3,hW3⟩:∃ W3,W3=w2.alloc (.cells #[.slice h2.co m.cl.length h2.cc,.slice h2.so m.st.length h2.sc,.slice h2.eo m.me.length h2.ec,.int .i64 m.sel] 26):=⟨_,rfl⟩
 have hnb:Blk W3 w2.heap.size #[.slice h2.co m.cl.length h2.cc,.slice h2.so m.st.length h2.sc,.slice h2.eo m.me.length h2.ec,.int .i64 m.sel] 26:=by rw [hW3];exact Blk.new w2 _ _
 have hb3:Below w2.heap.size w2 W3:=by rw [hW3];exact bE
 rw [←hW3]
 have HNb:=Lib.hid hnb
 have HB13:=Lib.hid (bthen HB2.out hb3)
 have HB3:=Lib.hid (bthen HB1.out HB13.out)
 have HC3:=Lib.hid (HC2.out.old hb3)
 have hg01:=HB1.out.size
 have hg12:=HB2.out.size
 have hg23:=hb3.size
 clear hW3 hnb hb3
 generalize w2.heap.size=NB at HNb hg12 hg23 ⊢
 have x2:=(HX.out.old HB3.out).cell 2 (v:=.slice h.eo m.me.length h.ec) rfl
 have n2:=HNb.out.cell 2 (v:=.slice h2.eo m.me.length h2.ec) rfl
 obtain ⟨ea,he,-,-,-,-,-,-,e6⟩:=(HM.out.old HB3.out).mth hkl
 rw [show (m.me.getD k default).k.length=(cdM m k).length from rfl] at e6
 rw [he] at x2
 have HEa:=Lib.hid he
 obtain ⟨g,hg⟩:=ownsRow_some HC3.out.me (by omega)
 rw [hg] at n2
 have HG:=Lib.hid hg
 have HKo:=Lib.hid (show ∀ w',Below w0.heap.size w0 w'→RowAt w' (h.e k).ko (h.e k).kc (cdM m k) from fun w' hb=>(HM.out.old hb).k k hkl)
 clear he hg
 have HCs:=Lib.hid (show Cs [(⟨w.heap.size,2,none⟩,.slice (some ea) m.me.length h.ec),(⟨NB,2,none⟩,.slice (some ⟨g,0,none⟩) m.me.length h2.ec),(⟨(ea.add (k*7)).block,(ea.add (k*7)).off+6,none⟩,.slice (h.e k).ko (cdM m k).length (h.e k).kc)] W3 from ⟨x2,n2,e6,trivial⟩)
 refine rO (Cs [(⟨w.heap.size,2,none⟩,.slice (some ea) m.me.length h.ec),(⟨NB,2,none⟩,.slice (some ⟨g,0,none⟩) m.me.length h2.ec),(⟨(ea.add (k*7)).block,(ea.add (k*7)).off+6,none⟩,.slice (h.e k).ko (cdM m k).length (h.e k).kc)]) (oL [0,1,2,3,4,5,6,7,8,109,10,11,12,13,14,115]) ⟨x2,n2,e6,trivial⟩ ?_
 clear x2 n2 e6
 repeat refine pO ?_
 refine oO fun Kv hK=>?_
 go_simp
 refine (rTrim_any (cdM m k) _ _ _ (HKo.out _ HB3.out.drew) HCv.out).mono ?_
 rintro r w4 ⟨⟨bo,bc,rfl,hown⟩,hb4⟩
 have HB4:=Lib.hid (bthen (Below.refl W3.heap.size W3).drew hb4)
 have hcode:=(HC3.out.old HB4.out).code hkl (own_baseV hown (show w1.heap.size≤W3.heap.size by omega))
 obtain ⟨g2,hg2,hNg,hfz,hbw,hblk,hcp5⟩:=hcode
 obtain rfl:g2=g:=by rw [HG.out] at hg2;cases hg2;rfl
 obtain ⟨ad5,had5,-,-,-,-,-,-,z6⟩:=((HC3.out.old HB4.out).at_ HSm0.out).mth hkl
 rw [HG.out] at had5
 cases had5
 simp only [addr_at] at z6
 refine hK _ _ ⟨Cs.keeps (Keeps.of HB4.out) HCs.out,?_⟩
 have HK5:=Lib.hid hcp5
 have HB5:=Lib.hid hbw
 have HNb5:=Lib.hid (hblk (HNb.out.old HB4.out) (by decide))
 have HX5:=Lib.hid (hblk (HX.out.old (bthen HB3.out HB4.out)) (by decide))
 have HBW5:=Lib.hid ((bthen HB3.out HB4.out).trans (hbw.mono hg01))
 clear hK Kv hb4 hown hcp5 hbw hblk hg2 hNg
 repeat refine pO ?_
 refine oO fun Kv hK=>?_
 go_simp
 have hc5:Cs [(⟨w.heap.size,2,none⟩,.slice (some ea) m.me.length h.ec),(⟨NB,2,none⟩,.slice (some ⟨g2,0,none⟩) m.me.length h2.ec),(⟨(ea.add (k*7)).block,(ea.add (k*7)).off+6,none⟩,.slice (h.e k).ko (cdM m k).length (h.e k).kc)] (w4.setCell ⟨g2,k*7+6,none⟩ (.slice bo (noNop (cdM m k)).length bc)):=by
  refine ⟨?_,?_,?_,trivial⟩
  ·have:=HX5.out.cell 2 (v:=.slice h.eo m.me.length h.ec) rfl;rwa [HEa.out] at this
  ·have:=HNb5.out.cell 2 (v:=.slice h2.eo m.me.length h2.ec) rfl;rwa [HG.out] at this
  ·obtain ⟨ea',he,-,-,-,-,-,-,e6⟩:=(HM.out.old HBW5.out).mth hkl
   obtain rfl:ea=ea':=by rw [HEa.out] at he;cases he;rfl
   exact e6
 refine hK _ _ ⟨hc5,wpMixO_done ?_⟩
 clear hK Kv hfz z6 hc5
 generalize w4.setCell _ _=w5 at HK5 HB5 HNb5 HX5 HBW5 ⊢
 have HK6:=Lib.hid (show CpAt w5 w1.heap.size (codeH h2 k bo bc) (nopM m k) from HK5.out)
 clear HK5
 have x0:=HX5.out.cell 0 (v:=.slice h.co m.cl.length h.cc) rfl;have x1:=HX5.out.cell 1 (v:=.slice h.so m.st.length h.sc) rfl;have x2:=HX5.out.cell 2 (v:=.slice h.eo m.me.length h.ec) rfl;have x3:=HX5.out.cell 3 (v:=.int .i64 m.sel) rfl
 go_upto_region 6 with (go_at_call 17;refine (HWo.out _ HBW5.out).mono ?_;rintro e w6 ⟨rfl,hb6⟩;have HB6:=Lib.hid hb6;clear hb6 x0 x1 x2 x3)
 have n0:=(HNb5.out.old HB6.out).cell 0 (v:=.slice h2.co m.cl.length h2.cc) rfl
 have n1:=(HNb5.out.old HB6.out).cell 1 (v:=.slice h2.so m.st.length h2.sc) rfl
 have n2:=(HNb5.out.old HB6.out).cell 2 (v:=.slice h2.eo m.me.length h2.ec) rfl
 have n3:=(HNb5.out.old HB6.out).cell 3 (v:=.int .i64 m.sel) rfl
 have hn7:=HWn.out w6 (codeH h2 k bo bc) ((HK6.out.old HB6.out).at_ HSm.out)
 rw [HNl.out] at hn7
 have HN7:=Lib.hid (show Calls Tryz.prog 17 #[.agg #[.slice h2.co m.cl.length h2.cc,.slice h2.so m.st.length h2.sc,.slice h2.eo m.me.length h2.ec,.int .i64 m.sel],.int .i64 k] w6 _ from hn7)
 clear hn7
 go_upto_region 7 with (go_at_call 17;refine HN7.out.mono ?_;rintro e w7 ⟨rfl,hb7⟩;have HB7:=Lib.hid (bthen HB6.out hb7);clear hb7 n0 n1 n2 n3)
 have HBW7:=Lib.hid (bthen HBW5.out HB7.out)
 have HX7:=Lib.hid (HX5.out.old HB7.out)
 have x0:=HX7.out.cell 0 (v:=.slice h.co m.cl.length h.cc) rfl;have x1:=HX7.out.cell 1 (v:=.slice h.so m.st.length h.sc) rfl;have x2:=HX7.out.cell 2 (v:=.slice h.eo m.me.length h.ec) rfl;have x3:=HX7.out.cell 3 (v:=.int .i64 m.sel) rfl
 go_upto_region 8 with (go_at_call 13;refine (HTi.out _ HBW7.out).mono ?_;rintro e w8 ⟨⟨tao,tc,rfl,htr,-⟩,hb8⟩;have HB8:=Lib.hid (bthen HBW7.out hb8);have HX8:=Lib.hid (HX7.out.old hb8);have HTr:=Lib.hid htr;clear hb8 htr x0 x1 x2 x3)
 rcases HAll.out with ⟨rfl,rfl,rfl,t1,t2,t3,t4,rfl,htb⟩|⟨rfl,rfl⟩|⟨rfl,rfl⟩|⟨rfl,rfl⟩
 rotate_left
 iterate 3
  ·go_wp2_with (go_at_call 12;refine (sane7_any _).mono ?_;rintro e w9 ⟨rfl,hb9⟩)
   go_ret
   exact ret_ok rfl (bthen HB.out (bthen HB8.out hb9))
 have hLl:(timesL (cdM m k)).length=(cdM m k).length:=by simp [timesL]
 have HTb:=Lib.hid htb
 have HPb:=Lib.hid (nopV_bd htb)
 have HT4:=Lib.hid t4
 have htm:∀ i,i<(cdM m k).length→(timesL (cdM m k)).getD i 0=tmV (cdM m k) i:=fun i hi=>by simp [timesL,hi]
 have HTm:=Lib.hid htm
 rw [hLl]
 have HTr2:=Lib.hid (show RowAt w8 tao tc (timesL (cdM m k)) from HTr.out)
 have HLl:=Lib.hid hLl
 clear htb t4 htm hLl
 have x2:=HX8.out.cell 2 (v:=.slice h.eo m.me.length h.ec) rfl
 rw [HEa.out] at x2
 obtain ⟨ea',he,-,-,-,-,-,-,e6⟩:=(HM.out.old HB8.out).mth hkl
 obtain rfl:ea=ea':=by rw [HEa.out] at he;cases he;rfl
 rw [show (m.me.getD k default).k.length=(cdM m k).length from rfl] at e6
 clear he
 go_upto_region 13 with fail
 clear x2 e6
 go_wp2
 go_loopw [12,13] (fun s i wr=>∃ n:Nat,n≤(cdM m k).length∧i=.int .i64 n∧s=.int .i64 (nopV (cdM m k) n)∧Hid (Below w8.heap.size w8 wr)) (fun _ i _=>(cdM m k).length-(intOf i).toNat)
 case atStart=>exact ⟨0,Nat.zero_le _,rfl,rfl,by exact bE⟩
 case round=>
  obtain ⟨n,hn,rfl,rfl,HBr⟩:=hrel
  rename World=>wo
  have HBo:=Lib.hid (bthen HB8.out HBr.out)
  by_cases hnl:n<(cdM m k).length
  ·have hnl2:(n:Int) < (cdM m k).length:=by omega
   have hwn:IntKind.i64.wrap ((n:Int)+1)=((n+1:Nat):Int):=IntWalk.i64_in _ (by omega)
   obtain ⟨ca,hca,o0,-,-⟩:=row_in (HKo.out _ HBo.out) hnl
   obtain ⟨la,rfl,l0⟩:=row_int (HTr2.out.old HBr.out) (show n<(timesL (cdM m k)).length by have:=HLl.out;omega)
   rw [HTm.out n hnl] at l0
   have x2:=(HX8.out.old HBr.out).cell 2 (v:=.slice h.eo m.me.length h.ec) rfl
   rw [HEa.out] at x2
   obtain ⟨ea',he,-,-,-,-,-,-,e6⟩:=(HM.out.old HBo.out).mth hkl
   obtain rfl:ea=ea':=by rw [HEa.out] at he;cases he;rfl
   rw [show (m.me.getD k default).k.length=(cdM m k).length from rfl,hca] at e6
   clear he hca
   have hp0:=HPb.out n hn
   have hp1:=HPb.out (n+1) hnl
   have htb:=HTb.out n hnl
   have hpe:nopV (cdM m k) (n+1)=nopV (cdM m k) n+if ((cdM m k).getD n default).op=0 then tmV (cdM m k) n else 0:=rfl
   have hw2:IntKind.i64.wrap (nopV (cdM m k) n+tmV (cdM m k) n)=nopV (cdM m k) n+tmV (cdM m k) n:=IntWalk.i64_in _ (by have:=htb.1.1;omega)
   have HPe:=Lib.hid hpe
   clear hp0 hp1 htb hpe
   generalize tmV (cdM m k) n=tv at hw2 l0 HPe
   generalize nopV (cdM m k) n=pv at hw2 HPe ⊢
   generalize ((cdM m k).getD n default).op=op at o0 HPe
   by_cases h0:op=0
   ·subst h0
    go_wp2
    exact ⟨⟨n+1,hnl,rfl,by rw [HPe.out,if_pos rfl],HBr.out⟩,by simp [intOf];omega⟩
   ·go_wp2
    exact ⟨⟨n+1,hnl,rfl,by rw [HPe.out,if_neg h0,Int.add_zero],HBr.out⟩,by simp [intOf];omega⟩
  ·obtain rfl:n=(cdM m k).length:=by omega
   have hj5:¬ ((cdM m k).length:Int) < (cdM m k).length:=by omega
   have hw3:IntKind.i64.wrap (ra-rb)=ra-rb:=IntWalk.i64_in _ (by omega)
   have t4:=HT4.out
   generalize nopV (cdM m k) (cdM m k).length=pv at t4 ⊢
   go_wp2_with (go_at_call 12;refine (sane7_any _).mono ?_;rintro e w9 ⟨rfl,hb9⟩)
   go_ret
   exact ret_ok rfl (bthen HB.out (bthen HBo.out hb9))
end
end Go.Proofs.YtfkbfjhocmbneaaGreat
