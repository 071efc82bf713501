/- Joined texts. The first: isochronlaw07.heavy: whatever it says, it says it. -/
import Derived.Test.YtfkbfjhocmbneaaGreatT18
import Derived.Test.YtfkbfjhocmbneaaGreatG6
import Derived.Test.YtfkbfjhocmbneaaGreatG10
import Derived.Test.YtfkbfjhocmbneaaGreatG15
import Derived.Test.YtfkbfjhocmbneaaGreatT17
import Derived.Test.YtfkbfjhocmbneaaGreatG14
set_option linter.all false
set_option linter.unusedVariables false
set_option linter.unusedSimpArgs false
set_option maxRecDepth 100000
set_option maxHeartbeats 8000000
namespace Go.Proofs.YtfkbfjhocmbneaaGreat
theorem j1{p:Prop}(h:p:=by
 refine hK _ _ ⟨HS.out _ hb5,?_⟩
 clear hK Kv hg
 repeat refine pO ?_
 have z0:=hz5.cell 0 (v:=.slice none 0 0) rfl
 have f0:=hz5.frozen 0
 have z1:=hz5.cell 1 (v:=.slice none 0 0) rfl
 have f1:=hz5.frozen 1
 have z2:=hz5.cell 2 (v:=.slice none 0 0) rfl
 have f2:=hz5.frozen 2
 have z3:=hz5.cell 3 (v:=.int .i64 0) rfl
 have f3:=hz5.frozen 3
 have zl:=hz5.lt
 refine oO fun Kv hK=>?_
 go_simp
 refine hK _ _ ⟨HS.out _ (bsetV (bsetV (bsetV (bsetV hb5 hle0 _) hle0 _) hle0 _) hle0 _),?_⟩
 refine wpMixO_done ?_
 exact key OB _ _ _ _ _ _ _ _ ao ac (bsetV (bsetV (bsetV (bsetV hb5 hle0 _) hle0 _) hle0 _) hle0 _) (by have:=HSz.out;omega) (by have:=HSz.out;omega) (by have:=HSz.out;omega) ((((hz5.set 0 (.slice none 0 0)).set 1 (.slice ao m.st.length ac)).set 2 (.slice none 0 0)).set 3 (.int .i64 m.sel)) (own_set (own_set (own_set (own_set hown hz5 (by decide) 0 (.slice none 0 0)) (hz5.set 0 (.slice none 0 0)) (by decide) 1 (.slice ao m.st.length ac)) ((hz5.set 0 (.slice none 0 0)).set 1 (.slice ao m.st.length ac)) (by decide) 2 (.slice none 0 0)) (((hz5.set 0 (.slice none 0 0)).set 1 (.slice ao m.st.length ac)).set 2 (.slice none 0 0)) (by decide) 3 (.int .i64 m.sel))):p:=h
theorem j6{p:Prop}(h:p:=by
 dsimp only
 by_cases h:j=kk
 ·subst h
  rw [if_pos rfl,List.getD_eq_getElem?_getD,List.getElem?_set_self hk]
  rfl
 ·rw [if_neg h,List.getD_eq_getElem?_getD,List.getElem?_set_ne (fun q=>h q.symm),List.getD_eq_getElem?_getD]):p:=h
section
open Go.RowKit
def SomeB (w:World):Ending→World→Prop:=fun e w'=>(∃ b,e=.returned (.bool b))∧Below w.heap.size w w'
theorem heavy_any (m:Md) (h:Hd) (w:World) (H:ModAt w h m):Calls Tryz.prog 11 #[.agg #[.slice h.co m.cl.length h.cc,.slice h.so m.st.length h.sc,.slice h.eo m.me.length h.ec,.int .i64 m.sel]] w (SomeB w):=by
  obtain ⟨w0,hw0⟩:∃ w0,w0=w.alloc (.cells #[.slice h.co m.cl.length h.cc,.slice h.so m.st.length h.sc,.slice h.eo m.me.length h.ec,.int .i64 m.sel] 26):=⟨_,rfl⟩
  have HB:=Lib.hid (show Below w.heap.size w w0 by rw [hw0];exact bE)
  have HX:=Lib.hid (show Blk w0 w.heap.size #[.slice h.co m.cl.length h.cc,.slice h.so m.st.length h.sc,.slice h.eo m.me.length h.ec,.int .i64 m.sel] 26 by rw [hw0];exact Blk.new _ _ _)
  have HM:=Lib.hid (H.old HB.out)
  have HW:=Lib.hid hw0
  have hbz:=H.bz
  obtain ⟨z1,z2,z3⟩:=hbz
  clear hw0 H
  go_enter Tryz.func11,Tryz.ntmps11
  go_upto_region 1 with fail
  rw [←HW.out]
  have x0:=HX.out.cell 0 (v:=.slice h.co m.cl.length h.cc) rfl
  have x1:=HX.out.cell 1 (v:=.slice h.so m.st.length h.sc) rfl
  have x2:=HX.out.cell 2 (v:=.slice h.eo m.me.length h.ec) rfl
  go_upto_region 2 with fail
  clear x0 x1 x2
  go_wp2
  go_loopw [3,4] (fun s i wr=>∃ (k:Nat) (n:Int),k≤m.cl.length∧i=.int .i64 k∧s=.int .i64 n∧Hid (Below w0.heap.size w0 wr)) (fun _ i _=>m.cl.length-(intOf i).toNat)
  case atStart=>exact ⟨0,_,Nat.zero_le _,rfl,rfl,by exact bE⟩
  case round=>
    obtain ⟨k,n,hk,rfl,rfl,HBr⟩:=hrel
    rename World=>wo
    have x0:=(HX.out.old HBr.out).cell 0 (v:=.slice h.co m.cl.length h.cc) rfl
    by_cases hc:k<m.cl.length∧n≤400
    · obtain ⟨hkl,hn⟩:=hc
      have hkl2:(k:Int) < m.cl.length:=by omega
      have hwk:IntKind.i64.wrap ((k:Int)+1)=((k+1:Nat):Int):=IntWalk.i64_in _ (by omega)
      obtain ⟨ad,had,-,-,e2,e3⟩:=(HM.out.old HBr.out).cls hkl
      rw [had] at x0
      clear had
      go_upto_region 5 with fail
      refine rO (Cs [(⟨w.heap.size,0,none⟩,.slice (some ad) m.cl.length h.cc),(⟨(ad.add (k*4)).block,(ad.add (k*4)).off+2,none⟩,.slice (h.c k).fo (m.cl.getD k default).f.length (h.c k).fc),(⟨(ad.add (k*4)).block,(ad.add (k*4)).off+3,none⟩,.slice (h.c k).mo (m.cl.getD k default).m.length (h.c k).mc)]) (oL [0,1,2,3,4,5,6,7,8,9,10,11,12,13,14,15,16,17]) ⟨x0,e2,e3,trivial⟩ ?_
      clear x0 e2 e3
      repeat refine pO ?_
      refine wpMixO_done ?_
      go_wp2
      exact ⟨⟨k+1,_,hkl,rfl,rfl,HBr.out.drew⟩,by simp [intOf];omega⟩
    · by_cases hkl:k<m.cl.length
      all_goals first
        | (have hkl2:(k:Int) < m.cl.length:=by omega
           have hn:¬ n≤400:=fun q=>hc ⟨hkl,q⟩
           have hn2:400<n:=by omega
           clear hc
           go_wp2)
        | (have hkl2:¬ (k:Int) < m.cl.length:=by omega
           clear hc
           go_wp2)
      all_goals
        clear x0
        go_loopw [3,5] (fun s i wr=>∃ (k:Nat) (n:Int),k≤m.me.length∧i=.int .i64 k∧s=.int .i64 n∧Hid (Below w0.heap.size w0 wr)) (fun _ i _=>m.me.length-(intOf i).toNat)
        case atStart=>exact ⟨0,_,Nat.zero_le _,rfl,rfl,HBr.out⟩
        case round=>
          obtain ⟨q,p,hq,rfl,rfl,HBs⟩:=hrel
          rename World=>wi
          have x2:=(HX.out.old HBs.out).cell 2 (v:=.slice h.eo m.me.length h.ec) rfl
          by_cases hc:q<m.me.length∧p≤3000
          · obtain ⟨hql,hp⟩:=hc
            have hql2:(q:Int) < m.me.length:=by omega
            have hwq:IntKind.i64.wrap ((q:Int)+1)=((q+1:Nat):Int):=IntWalk.i64_in _ (by omega)
            obtain ⟨ad,had,-,-,e2,e3,-,-,e6⟩:=(HM.out.old HBs.out).mth hql
            rw [had] at x2
            clear had
            go_upto_region 9 with fail
            refine rO (Cs [(⟨w.heap.size,2,none⟩,.slice (some ad) m.me.length h.ec),(⟨(ad.add (q*7)).block,(ad.add (q*7)).off+2,none⟩,.slice (h.e q).po (m.me.getD q default).p.length (h.e q).pc),(⟨(ad.add (q*7)).block,(ad.add (q*7)).off+3,none⟩,.slice (h.e q).lo (m.me.getD q default).l.length (h.e q).lc),(⟨(ad.add (q*7)).block,(ad.add (q*7)).off+6,none⟩,.slice (h.e q).ko (m.me.getD q default).k.length (h.e q).kc)]) (oL [0,1,2,3,4,5,6,7,8,9,10,11,12,13,14,15,16,17,18,19,20,21,22,23,24,25]) ⟨x2,e2,e3,e6,trivial⟩ ?_
            clear x2 e2 e3 e6
            repeat refine pO ?_
            refine wpMixO_done ?_
            go_wp2
            exact ⟨⟨q+1,_,hql,rfl,rfl,HBs.out.drew⟩,by simp [intOf];omega⟩
          · by_cases hql:q<m.me.length
            all_goals first
              | (have hql2:(q:Int) < m.me.length:=by omega
                 have hp:¬ p≤3000:=fun q=>hc ⟨hql,q⟩
                 clear hc
                 go_wp2)
              | (have hql2:¬ (q:Int) < m.me.length:=by omega
                 clear hc
                 go_wp2)
            all_goals
              go_ret
              exact ⟨⟨_,rfl⟩,bthen HB.out HBs.out⟩
end
section
open Go.RowKit
theorem elCls:El Tryz.prog 22 63 4 72:=El.mk' (z:=.agg #[.string ⟨#[]⟩,.int .i64 0,.slice none 0 0,.slice none 0 0]) Tryz.underlying22 (by kernel_rfl) (by kernel_rfl) (by decide)
theorem elMth:El Tryz.prog 24 38 7 112:=El.mk' (z:=.agg #[.string ⟨#[]⟩,.int .i64 0,.slice none 0 0,.slice none 0 0,.int .i64 0,.int .i64 0,.slice none 0 0]) Tryz.underlying24 (by kernel_rfl) (by kernel_rfl) (by decide)
theorem elIn3:El Tryz.prog 36 42 3 24:=El.mk' (z:=.agg #[.int .i64 0,.int .i64 0,.int .i64 0]) Tryz.underlying36 (by kernel_rfl) (by kernel_rfl) (by decide)
def rowsK {α β:Type} [Inhabited α] (l:List α) (f:Nat→β):Nat→List (α × β)
 | 0=>[]
 | k+1=>rowsK l f k++[(l.getD k default,f k)]
theorem rowsK_len {α β:Type} [Inhabited α] (l:List α) (f:Nat→β) (k:Nat):(rowsK l f k).length=k:=by
 induction k with
 | zero=>rfl
 | succ k ih=>simp [rowsK,ih]
theorem rowsK_congr {α β:Type} [Inhabited α] (l:List α) {f g:Nat→β}:∀ k,(∀ i,i<k→f i=g i)→rowsK l f k=rowsK l g k
 | 0,_=>rfl
 | k+1,h=>by unfold rowsK;rw [rowsK_congr l k fun i hi=>h i (by omega),h k (by omega)]
theorem rowsK_get {α β:Type} [Inhabited α] (l:List α) (f:Nat→β):∀ k i,i<k→(rowsK l f k)[i]?=some (l.getD i default,f i)
 | 0,_,h=>by omega
 | k+1,i,h=>by
  unfold rowsK
  by_cases hi:i<k
  ·rw [List.getElem?_append_left (by rw [rowsK_len];exact hi)];exact rowsK_get l f k i hi
  ·obtain rfl:i=k:=by omega
   rw [List.getElem?_append_right (by rw [rowsK_len];omega),rowsK_len];simp
theorem rowsK_all {α β:Type} [Inhabited α] (l:List α) (f:Nat→β):rowsK l f l.length=l.mapIdx fun i x=>(x,f i):=by
 refine List.ext_getElem? fun i=>?_
 by_cases hi:i<l.length
 ·rw [rowsK_get l f l.length i hi];simp [hi]
 ·rw [List.getElem?_eq_none (by rw [rowsK_len];omega),List.getElem?_eq_none (by simp;omega)]
structure Kp (ts:List TypeId) (N:Nat) (w w':World):Prop where
 bw:Below N w w'
 blk:∀ (k:Nat) (cur:Array Value) (e:TypeId),w.heap[k]?=some (Obj.cells cur e (0,0))→e ∉ ts→w'.heap[k]?=w.heap[k]?
theorem Kp.refl (ts:List TypeId) (N:Nat) (w:World):Kp ts N w w:=⟨Below.refl _ _,fun _ _ _ _ _=>rfl⟩
section
variable {ts:List TypeId}{N:Nat}
include ts N
theorem Kp.trans {a b c:World} (h:Kp ts N a b) (g:Kp ts N b c):Kp ts N a c:=
 ⟨h.bw.trans g.bw,fun k cur e hk h1=>(g.blk k cur e ((h.blk k cur e hk h1).trans hk) h1).trans (h.blk k cur e hk h1)⟩
theorem Kp.of {w w':World} (h:Below w.heap.size w w') (hN:N≤w.heap.size):Kp ts N w w':=
 ⟨h.mono hN,fun k cur e hk _=>h.block k (Array.getElem?_eq_some_iff.1 hk).1⟩
theorem Kp.set {w w':World} (h:Kp ts N w w') {b:Nat} {xs:Array Value} {t:TypeId} (hb:Blk w' b xs t) (ht:t∈ts) (hN:N≤b) (i:Nat) (v:Value):Kp ts N w (w'.setCell ⟨b,i,none⟩ v):=by
 refine h.trans ⟨(Below.refl N w').setCell (p:=⟨b,i,none⟩) hN v,fun k cur e hk h1=>?_⟩
 refine heap_setCell_other w' ⟨b,i,none⟩ k v ?_
 rintro rfl
 rw [show w'.heap[k]?=_ from hb] at hk
 cases hk
 exact h1 ht
theorem Kp.grown {w w':World} {base:Nat} {e:TypeId} {size:Nat} {v:Value} {n:Nat} {xs:List Value} (ho:w.ownsRow base e size v n xs) (hg:w.grownBy w' v.ownBlock) (hN:N≤base) (hs:N≤w.heap.size) (he:e∈ts):Kp ts N w w':=by
 refine ⟨(Below.refl N w).grown hg hs (fun k hk=>Nat.le_trans hN (ho.lt k hk).1),fun k cur e' hk h1=>hg.block k (Array.getElem?_eq_some_iff.1 hk).1 ?_⟩
 intro q
 rcases ho.2 with ⟨hv,_⟩|⟨g,c,cur',hv,_,hh,_⟩
 ·rw [hv] at q;cases q
 ·rw [hv] at q
  cases q
  rw [hk] at hh
  cases hh
  exact h1 he
theorem Kp.own {w w':World} (h:Kp ts N w w') {base:Nat} {e:TypeId} {size:Nat} {v:Value} {n:Nat} {xs:List Value} (ho:w.ownsRow base e size v n xs) (h1:e ∉ ts:=by decide):w'.ownsRow base e size v n xs:=by
 refine own_eqV ho fun k hk=>?_
 rcases ho.2 with ⟨hv,_⟩|⟨g,c,cur',hv,_,hh,_⟩
 ·rw [hv] at hk;cases hk
 ·rw [hv] at hk
  cases hk
  exact h.blk g cur' e hh h1
end
theorem own_made (w:World) (base:Nat) (e:TypeId) (size:Nat) (hb:base≤w.heap.size):(w.alloc (.cells #[] e)).ownsRow base e size (.slice (some ⟨w.heap.size,0,none⟩) 0 0) 0 []:=
 ⟨by simp,.inr ⟨w.heap.size,0,#[],rfl,hb,Blk.new w #[] e,Nat.le_refl _,Nat.zero_le _,by simp,by simp⟩⟩
structure CpC (w:World) (N:Nat) (c:CHd) (x:Cls):Prop where
 f:w.ownsRow N 35 2 (.slice c.fo x.f.length c.fc) x.f.length (flatR x.f)
 m:w.ownsRow N 3 1 (.slice c.mo x.m.length c.mc) x.m.length (flatR x.m)
structure CpM (w:World) (N:Nat) (c:MHd) (x:Mth):Prop where
 p:w.ownsRow N 35 2 (.slice c.po x.p.length c.pc) x.p.length (flatR x.p)
 l:w.ownsRow N 35 2 (.slice c.lo x.l.length c.lc) x.l.length (flatR x.l)
 k:w.ownsRow N 42 3 (.slice c.ko x.k.length c.kc) x.k.length (flatR x.k)
theorem CpC.kp {ts:List TypeId}{w w':World}{N B:Nat}{c:CHd}{x:Cls} (h:CpC w N c x) (hk:Kp ts B w w') (h1:35 ∉ ts:=by decide) (h2:3 ∉ ts:=by decide):CpC w' N c x:=⟨hk.own h.f h1,hk.own h.m h2⟩
theorem CpM.kp {ts:List TypeId}{w w':World}{N B:Nat}{c:MHd}{x:Mth} (h:CpM w N c x) (hk:Kp ts B w w') (h1:35 ∉ ts:=by decide) (h2:42 ∉ ts:=by decide):CpM w' N c x:=⟨hk.own h.p h1,hk.own h.l h1,hk.own h.k h2⟩
structure CpAt (w:World) (N:Nat) (h:Hd) (m:Md):Prop where
 cl:w.ownsRow N 63 4 (.slice h.co m.cl.length h.cc) m.cl.length (flatR (rowsC h m))
 st:w.ownsRow N 35 2 (.slice h.so m.st.length h.sc) m.st.length (flatR m.st)
 me:w.ownsRow N 38 7 (.slice h.eo m.me.length h.ec) m.me.length (flatR (rowsM h m))
 c:∀ i,i<m.cl.length→CpC w N (h.c i) (m.cl.getD i default)
 m:∀ i,i<m.me.length→CpM w N (h.e i) (m.me.getD i default)
structure MdSm (m:Md):Prop where
 cl:m.cl.length≤1000000
 st:m.st.length≤1000000
 me:m.me.length≤1000000
 c:∀ i,i<m.cl.length→(m.cl.getD i default).f.length≤1000000∧(m.cl.getD i default).m.length≤1000000
 m:∀ i,i<m.me.length→(m.me.getD i default).p.length≤1000000∧(m.me.getD i default).l.length≤1000000∧(m.me.getD i default).k.length≤1000000
theorem own_len {w:World}{base:Nat}{e:TypeId}{size:Nat}{ao:Option Addr}{n cap:Nat}{xs:List Value} (h:w.ownsRow base e size (.slice ao n cap) n xs):n≤cap:=by
 rcases h.2 with ⟨hv,hn⟩|⟨g,c,cur,hv,_,_,hn,_⟩
 ·cases hv;omega
 ·cases hv;exact hn
theorem CpAt.at_ {w:World}{N:Nat}{h:Hd}{m:Md} (H:CpAt w N h m) (hs:MdSm m):ModAt w h m where
 cl:=RowAt.of_own (by rw [rowsC_len];exact H.cl)
 st:=RowAt.of_own H.st
 me:=RowAt.of_own (by rw [rowsM_len];exact H.me)
 f i hi:=RowAt.of_own (H.c i hi).f
 t i hi:=RowAt.of_own (H.c i hi).m
 p i hi:=RowAt.of_own (H.m i hi).p
 l i hi:=RowAt.of_own (H.m i hi).l
 k i hi:=RowAt.of_own (H.m i hi).k
 bf i hi:=own_len (H.c i hi).f
 bm i hi:=by have:=hs.m i hi;omega
 bz:=by have:=hs.cl;have:=hs.st;have:=hs.me;omega
end
section
open Go.RowKit
theorem passF_small {m:Md} (hm:modV m=true) {lo:List Ty} (hlo:∀ t∈lo,tyOk m t) {k:Nat} (hk:k<m.me.length) (r:Ty):∀ (l:List In3) (n:Nat) (s:Ps),(∀ i∈l,OpdOk m k i∧0≤i.op∧i.op<36)→Wf m s l→(∀ t∈(passF m lo r n l s).1,stkOk m t)∧(passF m lo r n l s).1.length≤l.length+1
 | [],n,s,_,hw=>by
  unfold passF
  split
  ·exact ⟨fun t ht=>by rw [List.mem_singleton.1 ht];exact hw.stk,by simp⟩
  ·exact ⟨fun t ht=>(by cases ht),by simp⟩
 | i :: l,n,s,hi,hw=>by
  unfold passF
  split
  ·rename_i h0
   obtain ⟨q1,q2⟩:=hi i List.mem_cons_self
   obtain ⟨a1,a2⟩:=passF_small hm hlo hk r l (n+1) _ (fun j hj=>hi j (List.mem_cons_of_mem _ hj)) (wf_step hm hlo hk q2 q1 hw h0)
   dsimp only
   split
   ·refine ⟨fun t ht=>?_,by simp;omega⟩
    rcases List.mem_cons.1 ht with rfl|ht
    ·exact hw.stk
    ·exact a1 t ht
   ·exact ⟨fun t ht=>(by cases ht),by simp⟩
  ·exact ⟨fun t ht=>(by cases ht),by simp⟩
theorem methodV_small (m:Md) (k:Int):(∀ t∈(methodV m k).1,stkOk m t)∧(methodV m k).1.length≤121:=by
 unfold methodV
 split
 ·rename_i h
  obtain ⟨hm,h0,h1⟩:=h
  have hk:k.toNat<m.me.length:=by omega
  have hmt:=mth_ok hm hk
  obtain ⟨a,b⟩:=passF_small hm (own_neg hm hk) hk (m.me.getD k.toNat default).r (m.me.getD k.toNat default).k 0 ⟨[],[]⟩ (fun i hi=>⟨opd_ok (hmt.i i hi).1 (hmt.i i hi).2,insn_op (hmt.i i hi).1⟩) (wf_start hmt.n)
  have:=hmt.z.2.2
  exact ⟨a,by unfold passV;omega⟩
 ·exact ⟨fun t ht=>(by cases ht),by simp⟩
theorem RetM.rows {w:World}{N:Nat}{so:Option Addr}{sc:Nat}{rows:List SH}{m:Md}{k:Int} (H:StOwn w N so sc rows (methodV m k).1):rows.length≤121:=by rw [H.len];exact (methodV_small m k).2
end
section
structure MeSim (a b:List Mth):Prop where
 len:a.length=b.length
 c:∀ j,(a.getD j default).c=(b.getD j default).c
 p:∀ j,(a.getD j default).p=(b.getD j default).p
 l:∀ j,(a.getD j default).l=(b.getD j default).l
 r:∀ j,(a.getD j default).r=(b.getD j default).r
section
variable {cl:List Cls}{st:List Ty}{sel:Int}{a b:List Mth} (S:MeSim a b)
include S
theorem above_sim:∀ (f:Nat) (x y:Int),aboveV ⟨cl,st,a,sel⟩ f x y=aboveV ⟨cl,st,b,sel⟩ f x y
 | 0,_,_=>rfl
 | f+1,x,y=>by unfold aboveV;rw [above_sim f];rfl
theorem fits_sim (t u:Ty):fitsV ⟨cl,st,a,sel⟩ t u=fitsV ⟨cl,st,b,sel⟩ t u:=by unfold fitsV;rw [above_sim S]
theorem fitsO_sim (t:Ty) (o:Option Ty):fitsO ⟨cl,st,a,sel⟩ t o=fitsO ⟨cl,st,b,sel⟩ t o:=by cases o<;>simp only [fitsO,fits_sim S]
theorem own_sim (n:Int):Md.own ⟨cl,st,a,sel⟩ n=Md.own ⟨cl,st,b,sel⟩ n:=S.c _
theorem callee_sim (i:In3):(calleeV ⟨cl,st,a,sel⟩ i).map (fun x=>(x.p,x.r))=(calleeV ⟨cl,st,b,sel⟩ i).map (fun x=>(x.p,x.r)):=by
 unfold calleeV
 split
 ·simp only [Option.map_some,S.p,S.r]
 ·rw [show tgtV ⟨cl,st,a,sel⟩ i.a=tgtV ⟨cl,st,b,sel⟩ i.a from rfl]
  split
  ·rfl
  ·simp only [Option.map_some,S.p,S.r]
theorem cnt_sim (i:In3):cntV ⟨cl,st,a,sel⟩ i=cntV ⟨cl,st,b,sel⟩ i:=by
 have h:=callee_sim (cl:=cl) (st:=st) (sel:=sel) S i
 unfold cntV
 generalize calleeV ⟨cl,st,a,sel⟩ i=x at h
 generalize calleeV ⟨cl,st,b,sel⟩ i=y at h
 cases x<;>cases y<;>simp only [Option.map_none,Option.map_some,reduceCtorEq,Option.some.injEq,Prod.mk.injEq] at h<;>first|rfl|(dsimp only;rw [h.1,h.2])
theorem push_sim (lo:List Ty) (i:In3) (l:List Ty):pushV ⟨cl,st,a,sel⟩ lo i l=pushV ⟨cl,st,b,sel⟩ lo i l:=by
 have h:=callee_sim (cl:=cl) (st:=st) (sel:=sel) S i
 unfold pushV
 generalize calleeV ⟨cl,st,a,sel⟩ i=x at h
 generalize calleeV ⟨cl,st,b,sel⟩ i=y at h
 simp only [fits_sim S,fitsO_sim S,S.p,S.r]
 cases x<;>cases y<;>simp only [Option.map_none,Option.map_some,reduceCtorEq,Option.some.injEq,Prod.mk.injEq] at h
 ·rfl
 ·dsimp only;rw [h.1,h.2];rfl
theorem step_sim (lo:List Ty) (i:In3) (s:Ps):stepV ⟨cl,st,a,sel⟩ lo i s=stepV ⟨cl,st,b,sel⟩ lo i s:=by
 unfold stepV
 rw [cnt_sim S]
 simp only [push_sim S]
theorem ended_sim (r:Ty) (k:List Ty):endedV ⟨cl,st,a,sel⟩ r k=endedV ⟨cl,st,b,sel⟩ r k:=by
 unfold endedV
 simp only [fits_sim S]
theorem pass_sim (lo:List Ty) (r:Ty):∀ (l:List In3) (n:Nat) (s:Ps),passF ⟨cl,st,a,sel⟩ lo r n l s=passF ⟨cl,st,b,sel⟩ lo r n l s
 | [],n,s=>by unfold passF;rw [ended_sim S]
 | i :: l,n,s=>by unfold passF;rw [step_sim S,pass_sim lo r l]
theorem cls_sim (k:Nat):clsV ⟨cl,st,a,sel⟩ k=clsV ⟨cl,st,b,sel⟩ k:=by
 have h:∀ s,selV ⟨cl,st,a,sel⟩ k s=selV ⟨cl,st,b,sel⟩ k s:=fun s=>by
  unfold selV entryV
  simp only [own_sim S,above_sim S,S.len]
  rfl
 unfold clsV
 rw [show selV ⟨cl,st,a,sel⟩ k=selV ⟨cl,st,b,sel⟩ k from funext h]
 rfl
theorem opd_sim (k:Nat) (i:In3):opdV ⟨cl,st,a,sel⟩ k i=opdV ⟨cl,st,b,sel⟩ k i:=by
 unfold opdV
 simp only [own_sim S]
 rfl
theorem alike_sim (s:Nat):alikeV ⟨cl,st,a,sel⟩ s=alikeV ⟨cl,st,b,sel⟩ s:=by
 unfold alikeV
 simp only [S.p,S.r]
 rfl
theorem mod_sim (h:modV ⟨cl,st,b,sel⟩=true) (hm:∀ k,k<b.length→mthV ⟨cl,st,a,sel⟩ k=true):modV ⟨cl,st,a,sel⟩=true:=by
 unfold modV at h ⊢
 simp only [Bool.and_eq_true] at h ⊢
 obtain ⟨⟨⟨⟨h1,h2⟩,h3⟩,h4⟩,h5⟩:=h
 refine ⟨⟨⟨⟨?_,?_⟩,?_⟩,?_⟩,?_⟩
 ·unfold sizesV at h1 ⊢
  rw [S.len]
  exact h1
 ·unfold ownsV at h2 ⊢
  rw [S.len]
  simp only [own_sim S]
  exact h2
 ·rw [show clsV ⟨cl,st,a,sel⟩=clsV ⟨cl,st,b,sel⟩ from funext (cls_sim S)]
  exact h3
 ·rw [S.len]
  exact all_range_iff.2 hm
 ·rw [show alikeV ⟨cl,st,a,sel⟩=alikeV ⟨cl,st,b,sel⟩ from funext (alike_sim S)]
  exact h5
end
def noNop (l:List In3):List In3:=l.filter fun i=>decide (i.op≠0)
theorem noNop_nil:noNop []=[]:=rfl
theorem noNop_yes {i:In3} (h:i.op=0) (l:List In3):noNop (i :: l)=noNop l:=by simp [noNop,h]
theorem noNop_no {i:In3} (h:i.op≠0) (l:List In3):noNop (i :: l)=i :: noNop l:=by simp [noNop,h]
theorem noNop_mem {l:List In3}{i:In3} (h:i∈noNop l):i∈l:=(List.mem_filter.1 h).1
theorem nestS_nop {i:In3} (h:i.op=0) (s:List Br × Nat):nestS s i=some s:=by simp [nestS,h,opensV,inI]
theorem nest_nop:∀ (l:List In3) (s:List Br × Nat),nestF s (noNop l)=nestF s l
 | [],_=>rfl
 | i :: l,s=>by
  by_cases h:i.op=0
  ·rw [noNop_yes h,nest_nop l s]
   conv=>rhs;unfold nestF
   rw [nestS_nop h]
  ·rw [noNop_no h]
   unfold nestF
   cases nestS s i with
   | none=>rfl
   | some t=>exact nest_nop l t
theorem codeE_nop {l:List In3} (h:codeE false l=0):codeE false (noNop l)=0:=by
 unfold codeE at h ⊢
 split at h
 ·cases h
 ·rename_i h1
  split at h
  ·rename_i h2
   split at h
   ·rename_i h3
    rw [if_neg (by have:=List.length_filter_le (fun i:In3=>decide (i.op≠0)) l;show ¬ 120<(l.filter _).length;omega),if_pos (List.all_eq_true.2 fun i hi=>List.all_eq_true.1 h2 i (noNop_mem hi)),if_pos (by unfold nestV at h3 ⊢;rw [nest_nop];exact h3)]
   ·cases h
  ·cases h
theorem stepV_nop {m:Md}{lo:List Ty}{i:In3}{s:Ps} (h:i.op=0) (hs:s.stk.length≤12) (hb:baseV s.opn≤s.stk.length):stepV m lo i s=(0,s):=by
 unfold stepV
 have hc:cntV m i=(0,0):=by simp [cntV,h]
 have hp:∀ l,pushV m lo i l=some ty0:=fun l=>by simp [pushV,h]
 rw [if_neg (by omega),if_neg (by omega),hc]
 simp only [hp]
 rw [if_neg (by omega)]
 simp [h,opensV,inI]
theorem pass_nop {m:Md} (hm:modV m=true) {lo:List Ty} (hlo:∀ t∈lo,tyOk m t) {k:Nat} (hk:k<m.me.length) (r:Ty):∀ (l:List In3) (n n':Nat) (s:Ps),(∀ i∈l,OpdOk m k i∧0≤i.op∧i.op<36)→Wf m s l→(passF m lo r n' (noNop l) s).2.2=(passF m lo r n l s).2.2
 | [],n,n',s,_,_=>by
  rw [noNop_nil]
  unfold passF
  split<;>rfl
 | i :: l,n,n',s,hi,hw=>by
  have hi':=fun j hj=>hi j (List.mem_cons_of_mem i hj)
  obtain ⟨q1,q2⟩:=hi i List.mem_cons_self
  by_cases h0:i.op=0
  ·have hst:=stepV_nop (m:=m) (lo:=lo) h0 hw.stk.1 hw.base
   have hw2:=wf_step hm hlo hk q2 q1 hw (by rw [hst])
   rw [hst] at hw2
   rw [noNop_yes h0,pass_nop hm hlo hk r l (n+1) n' s hi' hw2]
   conv=>rhs;unfold passF
   rw [hst]
   simp only [if_true]
   split<;>simp_all
  ·rw [noNop_no h0]
   unfold passF
   by_cases he:(stepV m lo i s).1=0
   ·have hw2:=wf_step hm hlo hk q2 q1 hw he
    have ih:=pass_nop hm hlo hk r l (n+1) (n'+1) (stepV m lo i s).2 hi' hw2
    rw [if_pos he,if_pos he]
    dsimp only
    rw [ih]
    split
    ·rfl
    ·exact ih
   ·rw [if_neg he,if_neg he]
def nopM (m:Md) (kk:Nat):Md:=⟨m.cl,m.st,m.me.set kk { m.me.getD kk default with k:=noNop (m.me.getD kk default).k },m.sel⟩
theorem nop_get {m:Md}{kk:Nat} (hk:kk<m.me.length) (j:Nat):(nopM m kk).me.getD j default=if j=kk then { m.me.getD kk default with k:=noNop (m.me.getD kk default).k } else m.me.getD j default:=by
 unfold nopM
 exact j6
theorem nop_sim {m:Md}{kk:Nat} (hk:kk<m.me.length):MeSim (nopM m kk).me m.me:=by
 refine ⟨by simp [nopM],fun j=>?_,fun j=>?_,fun j=>?_,fun j=>?_⟩<;>rw [nop_get hk]<;>split<;>simp_all
theorem nop_mod' {cl:List Cls}{st:List Ty}{sel:Int}{a me:List Mth} (S:MeSim a me) {kk:Nat} (hg:∀ j,a.getD j default=if j=kk then { me.getD kk default with k:=noNop (me.getD kk default).k } else me.getD j default) (hm:modV ⟨cl,st,me,sel⟩=true):modV ⟨cl,st,a,sel⟩=true:=by
 refine mod_sim S hm fun k hkl=>?_
 have h:=modV_mthN hm k hkl
 unfold mthV at h ⊢
 rw [show opdV ⟨cl,st,a,sel⟩ k=opdV ⟨cl,st,me,sel⟩ k from funext (opd_sim S k)]
 dsimp only at h ⊢
 rw [hg k]
 split
 ·rename_i q
  subst q
  simp only [Bool.and_eq_true,decide_eq_true_eq] at h ⊢
  exact ⟨⟨h.1.1,codeE_nop h.1.2⟩,List.all_eq_true.2 fun i hi=>List.all_eq_true.1 h.2 i (noNop_mem hi)⟩
 ·exact h
theorem nop_mod {m:Md} (hm:modV m=true) {kk:Nat} (hk:kk<m.me.length):modV (nopM m kk)=true:=nop_mod' (nop_sim hk) (nop_get hk) hm
theorem nops_law {m:Md} (hm:modV m=true) {kk:Nat} (hk:kk<m.me.length):(methodV (nopM m kk) kk).2.2=(methodV m kk).2.2:=by
 have S:=nop_sim hk
 have hmt:=mth_ok hm hk
 unfold methodV
 rw [if_pos ⟨nop_mod hm hk,by omega,by rw [S.len];omega⟩,if_pos ⟨hm,by omega,by omega⟩,Int.toNat_natCast]
 have hw:=pass_nop hm (own_neg hm hk) hk (m.me.getD kk default).r (m.me.getD kk default).k 0 0 ⟨[],[]⟩ (fun i hi=>⟨opd_ok (hmt.i i hi).1 (hmt.i i hi).2,insn_op (hmt.i i hi).1⟩) (wf_start hmt.n)
 unfold passV
 rw [nop_get hk kk,if_pos rfl]
 dsimp only
 have hp:∀ lo r l s,passF (nopM m kk) lo r 0 l s=passF m lo r 0 l s:=fun lo r l s=>pass_sim (cl:=m.cl) (st:=m.st) (sel:=m.sel) S lo r l 0 s
 rw [hp]
 exact hw
end
section
open Go.RowKit
def FitB (W:World) (m:Md) (k:Int):Ending→World→Prop:=fun e w'=>(∃ b,e=.returned (.bool b)∧(b=true→readyV m k=true))∧Below W.heap.size W w'
theorem lfits_any (m:Md) (h:Hd) (k:Int) (w:World) (H:ModAt w h m):Calls Tryz.prog 18 #[.agg #[.slice h.co m.cl.length h.cc,.slice h.so m.st.length h.sc,.slice h.eo m.me.length h.ec,.int .i64 m.sel],.int .i64 k] w (FitB w m k):=by
 obtain ⟨w0,hw0⟩:∃ w0,w0=w.alloc (.cells #[.slice h.co m.cl.length h.cc,.slice h.so m.st.length h.sc,.slice h.eo m.me.length h.ec,.int .i64 m.sel] 26):=⟨_,rfl⟩
 have HB:=Lib.hid (show Below w.heap.size w w0 by rw [hw0];exact bE)
 have HX:=Lib.hid (show Blk w0 w.heap.size #[.slice h.co m.cl.length h.cc,.slice h.so m.st.length h.sc,.slice h.eo m.me.length h.ec,.int .i64 m.sel] 26 by rw [hw0];exact Blk.new _ _ _)
 have HM:=Lib.hid (H.old HB.out)
 have HW:=Lib.hid hw0
 obtain ⟨z,hz⟩:∃ z:Int,z=if readyV m k=true then 0 else 1:=⟨_,rfl⟩
 have HR:=Lib.hid (fun w' hb=>rReady_any m h k w' (HM.out.old (w':=w') hb))
 rw [←hz] at HR
 have HZ:=Lib.hid (show (z=0→readyV m k=true)∧(z=0∨z=1) by rw [hz];split<;>simp_all)
 clear hw0 H hz
 go_enter Tryz.func18,Tryz.ntmps18
 go_upto_region 1 with fail
 rw [←HW.out]
 have x0:=HX.out.cell 0 (v:=.slice h.co m.cl.length h.cc) rfl
 have x1:=HX.out.cell 1 (v:=.slice h.so m.st.length h.sc) rfl
 have x2:=HX.out.cell 2 (v:=.slice h.eo m.me.length h.ec) rfl
 have x3:=HX.out.cell 3 (v:=.int .i64 m.sel) rfl
 go_wp2_with (first
  | (go_at_call 11;refine (heavy_any m h _ HM.out).mono ?_;rintro e w1 ⟨⟨b,rfl⟩,hb1⟩;have HB1:=Lib.hid hb1;clear hb1 x0 x1 x2 x3;have x0:=(HX.out.old HB1.out).cell 0 (v:=.slice h.co m.cl.length h.cc) rfl;have x1:=(HX.out.old HB1.out).cell 1 (v:=.slice h.so m.st.length h.sc) rfl;have x2:=(HX.out.old HB1.out).cell 2 (v:=.slice h.eo m.me.length h.ec) rfl;have x3:=(HX.out.old HB1.out).cell 3 (v:=.int .i64 m.sel) rfl)
  | (go_at_call 46;refine (HR.out _ HB1.out).mono ?_;rintro e w2 ⟨rfl,hb2⟩;have HB2:=Lib.hid (bthen HB1.out hb2);clear hb2))
 all_goals
  go_ret
  first
  | exact ⟨⟨_,rfl,fun h=>by first|cases h|exact HZ.out.1 (by simpa using h)⟩,bthen HB.out HB2.out⟩
  | exact ⟨⟨_,rfl,fun h=>by first|cases h|exact HZ.out.1 (by simpa using h)⟩,bthen HB.out HB1.out⟩
theorem trim_snoc (l:List In3) {j:Nat} (hj:j<l.length):noNop (l.take (j+1))=noNop (l.take j)++(if (l.getD j default).op=0 then [] else [l.getD j default]):=by
 rw [take_snocR l j hj]
 unfold noNop
 rw [List.filter_append]
 split<;>simp_all
theorem trim_len (l:List In3) (j:Nat):(noNop (l.take j)).length≤j:=Nat.le_trans (List.length_filter_le _ _) (by simp;omega)
def TrimP (W:World) (l:List In3):Ending→World→Prop:=fun e w'=>(∃ bo bc,e=.returned (.tuple #[.slice bo (noNop l).length bc,.int .i64 0])∧w'.ownsRow W.heap.size 42 3 (.slice bo (noNop l).length bc) (noNop l).length (flatR (noNop l)))∧Below W.heap.size W w'
theorem rTrim_any (l:List In3) (ao:Option Addr) (cap:Nat) (w:World) (hl:RowAt w ao cap l) (hv:codeE false l=0):Calls Tryz.prog 20 #[.slice ao l.length cap] w (TrimP w l):=by
 have hcl:=(code_ok hv).1
 have HC:=Lib.hid (rCheck3_any l ao cap false w hl)
 rw [hv] at HC
 have HL:=Lib.hid hl
 clear hl hv
 go_enter Tryz.func20,Tryz.ntmps20
 go_upto_region 4 with (go_at_call 53;refine HC.out.mono ?_;rintro e w1 ⟨rfl,hb1⟩;have HB1:=Lib.hid hb1;clear hb1)
 go_wp2
 go_loopw [5,6] (fun c i wr=>∃ (j:Nat) (ao1:Option Addr) (cap1:Nat),j≤l.length∧i=.int .i64 j∧c=.slice ao1 (noNop (l.take j)).length cap1∧wr.ownsRow w.heap.size 42 3 (.slice ao1 (noNop (l.take j)).length cap1) (noNop (l.take j)).length (flatR (noNop (l.take j)))∧Below w.heap.size w wr) (fun _ i _=>l.length-(intOf i).toNat)
 case atStart=>exact ⟨0,none,0,by omega,rfl,rfl,World.ownsRow_nil _ _ _ _,HB1.out⟩
 case round=>
  obtain ⟨j,ao1,cap1,hj,rfl,rfl,hown,hbl⟩:=hrel
  have hln:=trim_len l j
  by_cases hjn:j<l.length
  ·obtain ⟨ad,rfl,i0,i1,i2⟩:=row_in (HL.out.old hbl) hjn
   have hsn:=trim_snoc l hjn
   generalize noNop (l.take j)=zs at hown hln hsn ⊢
   generalize l.getD j default=x at i0 i1 i2 hsn
   obtain ⟨op,ia,ib⟩:=x
   dsimp only at i0 i1 i2 hsn
   have hjn2:(j:Int) < l.length:=by omega
   have hwr:IntKind.i64.wrap ((j:Int)+1)=((j+1:Nat):Int):=IntWalk.i64_in _ (by omega)
   by_cases h0:op=0
   ·rw [if_pos h0,List.append_nil] at hsn
    subst h0
    have HSn:=Lib.hid hsn
    have HO:=Lib.hid hown
    have HB:=Lib.hid hbl
    clear hown hbl
    go_wp2
    exact ⟨⟨j+1,ao1,cap1,by omega,rfl,by rw [HSn.out],by rw [HSn.out];exact HO.out,HB.out⟩,by simp [intOf];omega⟩
   ·rw [if_neg h0] at hsn
    have h1:(op != 0)=true:=by simpa using h0
    have HSn:=Lib.hid hsn
    clear h0 hsn
    go_wp2_with (at_builtin;refine wpList_append_sl rfl (.tmp 24) (.tmp 29) 36 rfl w.heap.size 42 3 24 elIn3 (.slice ao1 zs.length cap1) zs.length (flatR zs) rfl (hown.alloc _) _ 1 1 [.int .i64 op,.int .i64 ia,.int .i64 ib] rfl (sla_blkV (Blk.new' #[.int .i64 op,.int .i64 ia,.int .i64 ib] 42 (by simp)) rfl) (by intro u hu;simp only [List.mem_cons,List.not_mem_nil,or_false] at hu;rcases hu with rfl|rfl|rfl<;>rfl) (by omega) (by unfold maxLen;omega) (by have:=hbl.size;simp;omega) ?_;intro ao2 cap2 w10 hown9 hg9;have HO9:=Lib.hid hown9;have HB9:=Lib.hid (bgrown (bal hbl _) hg9 (fun j hj=>(hown.lt j hj).1));clear hown9 hg9)
    refine ⟨⟨j+1,ao2,cap2,by omega,rfl,by rw [HSn.out,List.length_append];rfl,?_,HB9.out⟩,by simp [intOf];omega⟩
    rw [HSn.out,List.length_append,flatR_append,flatR_one]
    exact HO9.out
  ·have hjn2:¬ (j:Int) < l.length:=by omega
   obtain rfl:j=l.length:=by omega
   rw [List.take_length] at hown ⊢
   go_wp2
   go_ret2
   exact ⟨⟨ao1,cap1,rfl,hown⟩,hbl⟩
end
section
open Go.RowKit
theorem own_made' {w:World}{b base:Nat}{e:TypeId}{size:Nat} (hb:b=w.heap.size) (h:base≤w.heap.size):(w.alloc (.cells #[] e)).ownsRow base e size (.slice (some ⟨b,0,none⟩) 0 0) 0 []:=by subst hb;exact own_made w base e size h
theorem own_old {w w':World}{base:Nat}{e:TypeId}{size:Nat}{v:Value}{n:Nat}{xs:List Value} (h:w.ownsRow base e size v n xs) (hb:Below w.heap.size w w'):w'.ownsRow base e size v n xs:=own_eqV h fun k hk=>hb.block k (h.lt k hk).2
section
variable {w:World}{base:Nat}{e:TypeId}{size:Nat}{v:Value}{n:Nat}{xs:List Value}(h:w.ownsRow base e size v n xs){b:Nat}{ys:Array Value}{t:TypeId}(hb:Blk w b ys t)(ht:e≠t)
include w base e size v n xs h b ys t hb ht
theorem own_neT:some b≠v.ownBlock:=by
 intro q
 rcases h.2 with ⟨hv,_⟩|⟨g,c,cur,hv,_,hg,_⟩
 ·rw [hv] at q;cases q
 ·rw [hv] at q
  have e':b=g:=Option.some.inj q
  subst e'
  rw [show w.heap[b]?=_ from hb] at hg
  cases hg
  exact ht rfl
theorem own_set (i:Nat) (u:Value):(w.setCell ⟨b,i,none⟩ u).ownsRow base e size v n xs:=
 ownsRow_setCell_other h (fun q=>own_neT h hb ht q.symm) u
end
theorem row_al {α:Type} [Cells α] {w:World}{ao:Option Addr}{cap:Nat}{l:List α} (h:RowAt w ao cap l) (o:Obj):RowAt (w.alloc o) ao cap l:=h.old ((Below.refl _ _).alloc (Nat.le_refl _) o)
theorem app_keep {w w8:World}{o:Obj}{base:Nat}{e:TypeId}{size:Nat}{v:Value}{n:Nat}{xs:List Value} (ho:w.ownsRow base e size v n xs) (hg:(w.alloc o).grownBy w8 v.ownBlock) {b:Nat}{ys:Array Value}{t:TypeId} (hb:Blk w b ys t) (ht:e≠t):Blk w8 b ys t:=Blk.grownV (hb.alloc o) hg (own_neT (ho.alloc o) (hb.alloc o) ht)
theorem rowsK_succ {α β:Type} [Inhabited α] (l:List α) (f:Nat→β) (k:Nat):rowsK l f (k+1)=rowsK l f k++[(l.getD k default,f k)]:=rfl
theorem fld_copy {wr w1 w3:World}{b N:Nat}{xs:Array Value}{t e:TypeId}{size n cap:Nat}{ao:Option Addr}{ys:List Value} (i:Nat) (hN:N≤wr.heap.size) (hbl:Below wr.heap.size wr w1) (hx:Blk w1 b xs t) (hb:wr.heap.size≤b)
  (ho:w3.ownsRow N e size (.slice ao (0+n) cap) (0+n) ([]++ys)) (hg:(w1.alloc (.cells #[] e)).grownBy w3 (Value.slice (some ⟨w1.heap.size,0,none⟩) 0 0).ownBlock) (ht:e≠t) :
  ∃ w4,w4=w3.setCell ⟨b,i,none⟩ (.slice ao n cap)∧RowKit.Hid (Below wr.heap.size wr w4)∧RowKit.Hid (Blk w4 b (xs.setIfInBounds i (.slice ao n cap)) t)∧RowKit.Hid (w4.ownsRow N e size (.slice ao n cap) n ys)∧RowKit.Hid (∀ {base':Nat}{e':TypeId}{size':Nat}{v':Value}{n':Nat}{ys':List Value},w1.ownsRow base' e' size' v' n' ys'→e'≠t→w4.ownsRow base' e' size' v' n' ys')∧w3.frozen? ⟨b,i,none⟩=false∧Blk w3 b xs t:=by
 have h13:Below w1.heap.size w1 w3:=bgrown (bal (Below.refl _ _) _) hg (fun j hj=>by cases hj;exact Nat.le_refl _)
 have hx3:Blk w3 b xs t:=hx.old h13
 rw [Nat.zero_add,List.nil_append] at ho
 exact ⟨_,rfl,bsetV (bthen hbl h13) hb _,hx3.set i _,own_set ho hx3 ht _ _,fun h1 h2=>own_set (own_old h1 h13) hx3 h2 _ _,hx3.frozen i,hx3⟩
def CpD (f:Nat→MHd) (k:Nat):Prop:=∀ i j,i<j→j<k→∀ a b,(f i).ko=some a→(f j).ko=some b→a.block≠b.block
theorem own_blk {w:World}{base:Nat}{e:TypeId}{size:Nat}{ao:Option Addr}{n cap:Nat}{xs:List Value} (h:w.ownsRow base e size (.slice ao n cap) n xs):∀ a,ao=some a→base≤a.block∧a.block<w.heap.size:=fun a ha=>by
 subst ha
 exact h.lt a.block rfl
theorem cpD_snoc {f:Nat→MHd}{k N:Nat}{x:MHd} (h:CpD f k) (hf:∀ i,i<k→∀ a,(f i).ko=some a→a.block<N) (hx:∀ b,x.ko=some b→N≤b.block):CpD (fun i=>if i=k then x else f i) (k+1):=fun i j hij hj a b ha hb=>by
 dsimp only at ha hb
 rw [if_neg (by omega)] at ha
 by_cases e:j=k
 ·rw [if_pos e] at hb
  have:=hf i (by omega) a ha
  have:=hx b hb
  omega
 ·rw [if_neg e] at hb
  exact h i j hij (by omega) a b ha hb
theorem copyD_any (w:World) (h:Hd) (m:Md) (H:ModAt w h m) (hs:MdSm m):Calls Tryz.prog 19 #[.agg #[.slice h.co m.cl.length h.cc,.slice h.so m.st.length h.sc,.slice h.eo m.me.length h.ec,.int .i64 m.sel]] w fun e w'=>∃ h':Hd,e=.returned (.agg #[.slice h'.co m.cl.length h'.cc,.slice h'.so m.st.length h'.sc,.slice h'.eo m.me.length h'.ec,.int .i64 m.sel])∧CpAt w' w.heap.size h' m∧Below w.heap.size w w'∧CpD h'.e m.me.length:=by
 have hX:=(Blk.new w #[.slice h.co m.cl.length h.cc,.slice h.so m.st.length h.sc,.slice h.eo m.me.length h.ec,.int .i64 m.sel] 26).alloc (.cells #[.slice none 0 0,.slice none 0 0,.slice none 0 0,.int .i64 0] 26)
 have hR:Blk ((w.alloc (.cells #[.slice h.co m.cl.length h.cc,.slice h.so m.st.length h.sc,.slice h.eo m.me.length h.ec,.int .i64 m.sel] 26)).alloc (.cells #[.slice none 0 0,.slice none 0 0,.slice none 0 0,.int .i64 0] 26)) (w.heap.size+1) #[.slice none 0 0,.slice none 0 0,.slice none 0 0,.int .i64 0] 26:=Blk.new' _ _ (by simp)
 have hb0:Below w.heap.size w ((w.alloc (.cells #[.slice h.co m.cl.length h.cc,.slice h.so m.st.length h.sc,.slice h.eo m.me.length h.ec,.int .i64 m.sel] 26)).alloc (.cells #[.slice none 0 0,.slice none 0 0,.slice none 0 0,.int .i64 0] 26)):=by exact bE
 have hs1:=hs.st
 have HM:=Lib.hid H
 have HSm:=Lib.hid hs
 clear H hs
 obtain ⟨co,cc,so,sc,eo,ec,hc,he⟩:=h
 dsimp only at hX hR hb0 HM ⊢
 have hsz:((w.alloc (.cells #[.slice co m.cl.length cc,.slice so m.st.length sc,.slice eo m.me.length ec,.int .i64 m.sel] 26)).alloc (.cells #[.slice none 0 0,.slice none 0 0,.slice none 0 0,.int .i64 0] 26)).heap.size=w.heap.size+2:=by simp
 obtain ⟨W0,hW0⟩:∃ W0,W0=(w.alloc (.cells #[.slice co m.cl.length cc,.slice so m.st.length sc,.slice eo m.me.length ec,.int .i64 m.sel] 26)).alloc (.cells #[.slice none 0 0,.slice none 0 0,.slice none 0 0,.int .i64 0] 26):=⟨_,rfl⟩
 rw [←hW0] at hX hR hb0 hsz
 have HX:=Lib.hid hX
 have HR:=Lib.hid hR
 have HB0:=Lib.hid hb0
 have HSz:=Lib.hid hsz
 have HW:=Lib.hid hW0
 clear hX hR hb0 hsz hW0
 go_enter Tryz.func19,Tryz.ntmps19
 go_upto_region 1 with fail
 rw [←HW.out]
 rename_i K hK
 have key:∀ (OB:Nat) (wz:World) (u8 u9 u10 u11 u12 u13 u14:Value) (so':Option Addr) (sc':Nat),Below W0.heap.size W0 wz→OB≠w.heap.size→OB≠w.heap.size+1→w.heap.size≤OB→Blk wz OB #[.slice none 0 0,.slice so' m.st.length sc',.slice none 0 0,.int .i64 m.sel] 26→wz.ownsRow w.heap.size 35 2 (.slice so' m.st.length sc') m.st.length (flatR m.st)→K { tmps:=#[.agg #[.slice co m.cl.length cc,.slice so m.st.length sc,.slice eo m.me.length ec,.int .i64 m.sel],.pointer (some ⟨w.heap.size,0,none⟩),.pointer (some ⟨w.heap.size+1,0,none⟩),.pointer (some ⟨OB,0,none⟩),undef,undef,undef,undef,u8,u9,u10,u11,u12,u13,u14,undef,undef,undef,undef,undef,undef,undef,undef,undef,undef,undef,undef,undef,undef,undef,undef,undef,undef,undef,undef,undef,undef,undef,undef,undef,undef,undef,undef,undef,undef,undef,undef,undef,undef,undef,undef,undef,undef,undef,undef,undef,undef,undef,undef,undef,undef,undef,undef,undef,undef,undef,undef,undef,undef,undef,undef,undef,undef,undef,undef,undef,undef],defers:=[] } wz:=by
  intro OB wz u8 u9 u10 u11 u12 u13 u14 so' sc' hbz hne0 hne1 hle hob host
  refine hK _ _ ?_
  clear hK
  go_wp2_with fail
  go_loopw [4] (fun i wr=>∃ (k:Nat) (c':Nat→CHd) (co':Option Addr) (cc':Nat),k≤m.cl.length∧i=.int .i64 k∧Below w.heap.size w wr∧Blk wr w.heap.size #[.slice co m.cl.length cc,.slice so m.st.length sc,.slice eo m.me.length ec,.int .i64 m.sel] 26∧Blk wr (w.heap.size+1) #[.slice none 0 0,.slice none 0 0,.slice none 0 0,.int .i64 0] 26∧Blk wr OB #[.slice co' k cc',.slice so' m.st.length sc',.slice none 0 0,.int .i64 m.sel] 26∧wr.ownsRow w.heap.size 63 4 (.slice co' k cc') k (flatR (rowsK m.cl c' k))∧(∀ i,i<k→CpC wr w.heap.size (c' i) (m.cl.getD i default))∧wr.ownsRow w.heap.size 35 2 (.slice so' m.st.length sc') m.st.length (flatR m.st)) (fun i _=>m.cl.length-(intOf i).toNat)
  case atStart=>exact ⟨0,fun _=>default,none,0,by omega,rfl,bthen HB0.out hbz,HX.out.old hbz,HR.out.old hbz,hob,World.ownsRow_nil _ _ _ _,fun i hi=>by omega,host⟩
  case round=>
   obtain ⟨k,c',co',cc',hk,rfl,hbw,hbx,hbr,hbo,hrow,hcp,hold⟩:=hrel
   have hN:w.heap.size≤wr.heap.size:=hbw.size
   have x0:=hbx.cell 0 (v:=.slice co m.cl.length cc) rfl
   have xl:=hbx.lt
   have HBw:=Lib.hid hbw
   have HBx:=Lib.hid hbx
   have HBr:=Lib.hid hbr
   have HBo:=Lib.hid hbo
   have HRow:=Lib.hid hrow
   have HCp:=Lib.hid hcp
   have HOl:=Lib.hid hold
   clear hbw hbx hbr hbo hrow hcp hold
   by_cases hkl:k<m.cl.length
   ·obtain ⟨ad,had,d0,d1,d2,d3⟩:=(HM.out.old HBw.out).cls hkl
    dsimp only at had
    subst had
    have hkn:(k:Int) < m.cl.length:=by omega
    have hwr:IntKind.i64.wrap ((k:Int)+1)=k+1:=IntWalk.i64_in _ (by have:=HSm.out.cl;omega)
    have hsz:=HSm.out.c k hkl
    have hr2:=(HM.out.old HBw.out).f k hkl
    have hr3:=(HM.out.old HBw.out).t k hkl
    dsimp only at hr2 hr3 d0 d1 d2 d3
    have hxk:m.cl.getD k default=m.cl.getD k default:=rfl
    generalize hxe:m.cl.getD k default=x at d0 d1 d2 d3 hsz hr2 hr3
    have HXe:=Lib.hid hxe
    generalize hc k=y at d0 d1 d2 d3 hr2 hr3
    obtain ⟨nm,sp,fl,ml⟩:=x
    obtain ⟨fo,fc,mo,mc⟩:=y
    dsimp only at d0 d1 d2 d3 hsz hr2 hr3
    have HR2:=Lib.hid hr2
    have HR3:=Lib.hid hr3
    clear hxe hxk hr2 hr3
    go_upto_region 6 with fail
    have hx1:=Blk.new wr #[.string nm,.int .i64 sp,.slice fo fl.length fc,.slice mo ml.length mc] 63
    have hb1:Below wr.heap.size wr (wr.alloc (.cells #[.string nm,.int .i64 sp,.slice fo fl.length fc,.slice mo ml.length mc] 63)):=by exact bE
    have hz1:(wr.alloc (.cells #[.string nm,.int .i64 sp,.slice fo fl.length fc,.slice mo ml.length mc] 63)).heap.size=wr.heap.size+1:=by simp
    generalize wr.alloc _=w1 at hx1 hb1 hz1 ⊢
    obtain ⟨B,hB⟩:∃ B,B=wr.heap.size:=⟨_,rfl⟩
    have hBl:wr.heap.size≤B:=by omega
    rw [←hB] at hx1 ⊢
    have HBl:=Lib.hid hBl
    have HB1:=Lib.hid hb1
    have HX1:=Lib.hid hx1
    clear hx1 hb1 hz1 hB hBl d0 d1 d2 d3 x0
    have y2:=HX1.out.cell 2 (v:=.slice fo fl.length fc) rfl
    have yl:=HX1.out.lt
    go_upto_region 7 with (at_builtin;refine wpList_append_sl rfl (.tmp 27) (.tmp 29) 23 rfl w.heap.size 35 2 16 elTyV _ 0 [] rfl (own_made' rfl (Nat.le_trans hN HB1.out.size)) _ _ _ _ rfl (row_al (RowAt.old HR2.out HB1.out) _) (flatR_oneC _) (by omega) (by unfold maxLen;omega) (by have:=HB1.out.size;simp;omega) ?_;intro ao2 ac2 w3 hown hg;obtain ⟨w4,hw4,HB2,HX2,HF2,HG2,hfz,hx3⟩:=fld_copy 2 hN HB1.out HX1.out HBl.out hown hg (by decide);have z2:=hx3.cell 2 (v:=.slice fo fl.length fc) rfl;clear hown hg hx3)
    try simp only [Nat.zero_add]
    rw [←hw4]
    clear hw4 hfz yl y2 z2
    have y3:=HX2.out.cell 3 (v:=.slice mo ml.length mc) rfl
    have yl:=HX2.out.lt
    go_upto_region 8 with (at_builtin;refine wpList_append_sl rfl (.tmp 32) (.tmp 34) 29 rfl w.heap.size 3 1 8 elIntV _ 0 [] rfl (own_made' rfl (Nat.le_trans hN HB2.out.size)) _ _ _ _ rfl (row_al (RowAt.old HR3.out HB2.out) _) (flatR_oneC _) (by omega) (by unfold maxLen;omega) (by have:=HB2.out.size;simp;omega) ?_;intro ao3 ac3 w3 hown hg;obtain ⟨w4,hw4,HB3,HX3,HF3,HG3,hfz,hx3⟩:=fld_copy 3 hN HB2.out HX2.out HBl.out hown hg (by decide);have z3:=hx3.cell 3 (v:=.slice mo ml.length mc) rfl;clear hown hg hx3)
    try simp only [Nat.zero_add]
    rw [←hw4]
    clear hw4 hfz yl y3 z3
    have HE2:=Lib.hid (HG3.out HF2.out (by decide))
    have HE3:=HF3
    have y0:=HX3.out.cell 0 (v:=.string nm) rfl
    have y1:=HX3.out.cell 1 (v:=.int .i64 sp) rfl
    have y2:=HX3.out.cell 2 (v:=.slice ao2 fl.length ac2) rfl
    have y3:=HX3.out.cell 3 (v:=.slice ao3 ml.length ac3) rfl
    have yl:=HX3.out.lt
    have hob4:=HBo.out.old HB3.out
    have o0:=hob4.cell 0 (v:=.slice co' k cc') rfl
    have ol:=hob4.lt
    have HO4:=Lib.hid (own_old HRow.out HB3.out)
    go_upto_region 4 with (at_builtin;refine wpList_append_sl rfl (.tmp 38) (.tmp 40) 22 rfl w.heap.size 63 4 72 elCls _ k _ rfl (HO4.out.alloc _) _ 1 1 [.string nm,.int .i64 sp,.slice ao2 fl.length ac2,.slice ao3 ml.length ac3] rfl (sla_blkV (Blk.new' #[.string nm,.int .i64 sp,.slice ao2 fl.length ac2,.slice ao3 ml.length ac3] 63 (by simp)) rfl) (by intro u hu;simp only [List.mem_cons,List.not_mem_nil,or_false] at hu;rcases hu with rfl|rfl|rfl|rfl<;>rfl) (by have:=HSm.out.cl;omega) (by have:=HSm.out.cl;unfold maxLen;omega) (by have:=HB3.out.size;simp;omega) ?_;intro ro2 rc2 w8 hown8 hg8;have hob8:=app_keep HO4.out hg8 hob4 (by decide);have z0:=hob8.cell 0 (v:=.slice co' k cc') rfl;have zf:=hob8.frozen 0;have zl:=hob8.lt;have HO8:=Lib.hid hown8;have HG8:=Lib.hid hg8;have HB8:=Lib.hid hob8;clear hown8 hg8 hob8)
    have hkp2:Kp [26,63] w.heap.size w4 (w8.setCell ⟨OB,0,none⟩ (.slice ro2 (k+1) rc2)):=((Kp.of (bal (Below.refl _ _) _) (Nat.le_trans hN HB3.out.size)).trans (Kp.grown (HO4.out.alloc _) HG8.out (Nat.le_refl _) (by have:=HB3.out.size;simp;omega) (by decide))).set HB8.out (by decide) hle 0 _
    have hkp:=(Kp.of HB3.out hN).trans hkp2
    have hA:=Blk.other (app_keep HO4.out HG8.out (HBx.out.old HB3.out) (by decide)) (a:=⟨OB,0,none⟩) hne0.symm (.slice ro2 (k+1) rc2)
    have hR:=Blk.other (app_keep HO4.out HG8.out (HBr.out.old HB3.out) (by decide)) (a:=⟨OB,0,none⟩) hne1.symm (.slice ro2 (k+1) rc2)
    have HK2:=Lib.hid hkp2
    have HK:=Lib.hid hkp
    have HA:=Lib.hid hA
    have HR:=Lib.hid hR
    clear hkp2 hkp hA hR y0 y1 y2 y3 o0 ol hob4 z0 zf zl yl
    go_wp2
    go_roundw
    case rel=>
     refine ⟨k+1,fun i=>if i=k then ⟨ao2,ac2,ao3,ac3⟩ else c' i,ro2,rc2,by omega,by go_num,HBw.out.trans HK.out.bw,HA.out,HR.out,HB8.out.set 0 _,?_,fun i hi=>?_,HK.out.own HOl.out⟩
     ·have h9:=own_set HO8.out HB8.out (by decide) 0 (.slice ro2 (k+1) rc2)
      have e:flatR (rowsK m.cl (fun i=>if i=k then ⟨ao2,ac2,ao3,ac3⟩ else c' i) (k+1))=flatR (rowsK m.cl c' k)++[.string nm,.int .i64 sp,.slice ao2 fl.length ac2,.slice ao3 ml.length ac3]:=by
       rw [rowsK_succ,flatR_append,flatR_one,rowsK_congr m.cl (g:=c') k (fun i hi=>if_neg (by omega)),HXe.out,if_pos rfl]
       rfl
      rw [e]
      exact h9
     ·by_cases hik:i=k
      ·subst hik
       show CpC _ _ (if i=i then _ else _) _
       rw [if_pos rfl,HXe.out]
       exact (⟨HE2.out,HE3.out⟩:CpC w4 _ _ _).kp HK2.out
      ·show CpC _ _ (if i=k then _ else _) _
       rw [if_neg hik]
       exact (HCp.out i (by omega)).kp HK.out
    case measure=>simp [intOf];omega
   ·have hkn:¬ (k:Int) < m.cl.length:=by omega
    obtain rfl:k=m.cl.length:=by omega
    go_wp2_with fail
    go_loopw [6] (fun i wr=>∃ (k:Nat) (e':Nat→MHd) (eo':Option Addr) (ec':Nat),k≤m.me.length∧i=.int .i64 k∧Below w.heap.size w wr∧Blk wr w.heap.size #[.slice co m.cl.length cc,.slice so m.st.length sc,.slice eo m.me.length ec,.int .i64 m.sel] 26∧Blk wr (w.heap.size+1) #[.slice none 0 0,.slice none 0 0,.slice none 0 0,.int .i64 0] 26∧Blk wr OB #[.slice co' m.cl.length cc',.slice so' m.st.length sc',.slice eo' k ec',.int .i64 m.sel] 26∧wr.ownsRow w.heap.size 38 7 (.slice eo' k ec') k (flatR (rowsK m.me e' k))∧((∀ i,i<k→CpM wr w.heap.size (e' i) (m.me.getD i default))∧CpD e' k)∧wr.ownsRow w.heap.size 63 4 (.slice co' m.cl.length cc') m.cl.length (flatR (rowsK m.cl c' m.cl.length))∧(∀ i,i<m.cl.length→CpC wr w.heap.size (c' i) (m.cl.getD i default))∧wr.ownsRow w.heap.size 35 2 (.slice so' m.st.length sc') m.st.length (flatR m.st)) (fun i _=>m.me.length-(intOf i).toNat)
    case atStart=>exact ⟨0,fun _=>default,none,0,by omega,rfl,HBw.out,HBx.out,HBr.out,HBo.out,World.ownsRow_nil _ _ _ _,⟨fun i hi=>by omega,fun i j _ hj=>by omega⟩,HRow.out,HCp.out,HOl.out⟩
    case round=>
     obtain ⟨k,e',eo',ec',hk,rfl,hbw,hbx,hbr,hbo,hrow,hcp,hold⟩:=hrel
     have hN:w.heap.size≤wr.heap.size:=hbw.size
     have x0:=hbx.cell 2 (v:=.slice eo m.me.length ec) rfl
     have xl:=hbx.lt
     have HBw:=Lib.hid hbw
     have HBx:=Lib.hid hbx
     have HBr:=Lib.hid hbr
     have HBo:=Lib.hid hbo
     have HRow:=Lib.hid hrow
     have HCp:=Lib.hid hcp
     have HOl:=Lib.hid hold
     clear hbw hbx hbr hbo hrow hcp hold
     by_cases hkl:k<m.me.length
     ·obtain ⟨ad,had,d0,d1,d2,d3,d4,d5,d6⟩:=(HM.out.old HBw.out).mth hkl
      dsimp only at had
      subst had
      have hkn:(k:Int) < m.me.length:=by omega
      have hwr:IntKind.i64.wrap ((k:Int)+1)=k+1:=IntWalk.i64_in _ (by have:=HSm.out.me;omega)
      have hsz:=HSm.out.m k hkl
      have hr2:=(HM.out.old HBw.out).p k hkl
      have hr3:=(HM.out.old HBw.out).l k hkl
      have hr6:=(HM.out.old HBw.out).k k hkl
      dsimp only at hr2 hr3 hr6 d0 d1 d2 d3 d4 d5 d6
      have hxk:m.me.getD k default=m.me.getD k default:=rfl
      generalize hxe:m.me.getD k default=x at d0 d1 d2 d3 d4 d5 d6 hsz hr2 hr3 hr6
      have HXe:=Lib.hid hxe
      generalize he k=y at d0 d1 d2 d3 d4 d5 d6 hr2 hr3 hr6
      obtain ⟨nm,mc,pl,ll,⟨rk,rq⟩,kl⟩:=x
      obtain ⟨po,pc,lo,lc,ko,kc⟩:=y
      dsimp only at d0 d1 d2 d3 d4 d5 d6 hsz hr2 hr3 hr6
      have HR2:=Lib.hid hr2
      have HR3:=Lib.hid hr3
      have HR6:=Lib.hid hr6
      clear hxe hxk hr2 hr3 hr6
      go_upto_region 13 with fail
      have hx1:=Blk.new wr #[.string nm,.int .i64 mc,.slice po pl.length pc,.slice lo ll.length lc,.int .i64 rk,.int .i64 rq,.slice ko kl.length kc] 38
      have hb1:Below wr.heap.size wr (wr.alloc (.cells #[.string nm,.int .i64 mc,.slice po pl.length pc,.slice lo ll.length lc,.int .i64 rk,.int .i64 rq,.slice ko kl.length kc] 38)):=by exact bE
      have hz1:(wr.alloc (.cells #[.string nm,.int .i64 mc,.slice po pl.length pc,.slice lo ll.length lc,.int .i64 rk,.int .i64 rq,.slice ko kl.length kc] 38)).heap.size=wr.heap.size+1:=by simp
      generalize wr.alloc _=w1 at hx1 hb1 hz1 ⊢
      obtain ⟨B,hB⟩:∃ B,B=wr.heap.size:=⟨_,rfl⟩
      have hBl:wr.heap.size≤B:=by omega
      rw [←hB] at hx1 ⊢
      have HBl:=Lib.hid hBl
      have HB1:=Lib.hid hb1
      have HX1:=Lib.hid hx1
      clear hx1 hb1 hz1 hB hBl d0 d1 d2 d3 d4 d5 d6 x0
      have y2:=HX1.out.cell 2 (v:=.slice po pl.length pc) rfl
      have yl:=HX1.out.lt
      go_upto_region 14 with (at_builtin;refine wpList_append_sl rfl (.tmp 55) (.tmp 57) 23 rfl w.heap.size 35 2 16 elTyV _ 0 [] rfl (own_made' rfl (Nat.le_trans hN HB1.out.size)) _ _ _ _ rfl (row_al (RowAt.old HR2.out HB1.out) _) (flatR_oneC _) (by omega) (by unfold maxLen;omega) (by have:=HB1.out.size;simp;omega) ?_;intro ao2 ac2 w3 hown hg;obtain ⟨w4,hw4,HB2,HX2,HF2,HG2,hfz,hx3⟩:=fld_copy 2 hN HB1.out HX1.out HBl.out hown hg (by decide);have z2:=hx3.cell 2 (v:=.slice po pl.length pc) rfl;clear hown hg hx3)
      try simp only [Nat.zero_add]
      rw [←hw4]
      clear hw4 hfz yl y2 z2
      have y3:=HX2.out.cell 3 (v:=.slice lo ll.length lc) rfl
      have yl:=HX2.out.lt
      go_upto_region 15 with (at_builtin;refine wpList_append_sl rfl (.tmp 60) (.tmp 62) 23 rfl w.heap.size 35 2 16 elTyV _ 0 [] rfl (own_made' rfl (Nat.le_trans hN HB2.out.size)) _ _ _ _ rfl (row_al (RowAt.old HR3.out HB2.out) _) (flatR_oneC _) (by omega) (by unfold maxLen;omega) (by have:=HB2.out.size;simp;omega) ?_;intro ao3 ac3 w3 hown hg;obtain ⟨w4,hw4,HB3,HX3,HF3,HG3,hfz,hx3⟩:=fld_copy 3 hN HB2.out HX2.out HBl.out hown hg (by decide);have z3:=hx3.cell 3 (v:=.slice lo ll.length lc) rfl;clear hown hg hx3)
      try simp only [Nat.zero_add]
      rw [←hw4]
      clear hw4 hfz yl y3 z3
      have y6:=HX3.out.cell 6 (v:=.slice ko kl.length kc) rfl
      have yl:=HX3.out.lt
      go_upto_region 16 with (at_builtin;refine wpList_append_sl rfl (.tmp 65) (.tmp 67) 36 rfl wr.heap.size 42 3 24 elIn3 _ 0 [] rfl (own_made' rfl HB3.out.size) _ _ _ _ rfl (row_al (RowAt.old HR6.out HB3.out) _) (flatR_oneC _) (by omega) (by unfold maxLen;omega) (by have:=HB3.out.size;simp;omega) ?_;intro ao6 ac6 w3 hown hg;obtain ⟨w4,hw4,HB4,HX4,HF6,HG6,hfz,hx3⟩:=fld_copy 6 (Nat.le_refl _) HB3.out HX3.out HBl.out hown hg (by decide);have z6:=hx3.cell 6 (v:=.slice ko kl.length kc) rfl;clear hown hg hx3)
      try simp only [Nat.zero_add]
      rw [←hw4]
      clear hw4 hfz yl y6 z6
      have HE2:=Lib.hid (HG6.out (HG3.out HF2.out (by decide)) (by decide))
      have HE3:=Lib.hid (HG6.out HF3.out (by decide))
      have HE6:=HF6
      have y0:=HX4.out.cell 0 (v:=.string nm) rfl
      have y1:=HX4.out.cell 1 (v:=.int .i64 mc) rfl
      have y2:=HX4.out.cell 2 (v:=.slice ao2 pl.length ac2) rfl
      have y3:=HX4.out.cell 3 (v:=.slice ao3 ll.length ac3) rfl
      have y4:=HX4.out.cell 4 (v:=.int .i64 rk) rfl
      have y5:=HX4.out.cell 5 (v:=.int .i64 rq) rfl
      have y6:=HX4.out.cell 6 (v:=.slice ao6 kl.length ac6) rfl
      have yl:=HX4.out.lt
      have hob4:=HBo.out.old HB4.out
      have o0:=hob4.cell 2 (v:=.slice eo' k ec') rfl
      have ol:=hob4.lt
      have HO4:=Lib.hid (own_old HRow.out HB4.out)
      go_upto_region 11 with (at_builtin;refine wpList_append_sl rfl (.tmp 71) (.tmp 73) 24 rfl w.heap.size 38 7 112 elMth _ k _ rfl (HO4.out.alloc _) _ 1 1 [.string nm,.int .i64 mc,.slice ao2 pl.length ac2,.slice ao3 ll.length ac3,.int .i64 rk,.int .i64 rq,.slice ao6 kl.length ac6] rfl (sla_blkV (Blk.new' #[.string nm,.int .i64 mc,.slice ao2 pl.length ac2,.slice ao3 ll.length ac3,.int .i64 rk,.int .i64 rq,.slice ao6 kl.length ac6] 38 (by simp)) rfl) (by intro u hu;simp only [List.mem_cons,List.not_mem_nil,or_false] at hu;rcases hu with rfl|rfl|rfl|rfl|rfl|rfl|rfl<;>rfl) (by have:=HSm.out.me;omega) (by have:=HSm.out.me;unfold maxLen;omega) (by have:=HB4.out.size;simp;omega) ?_;intro ro2 rc2 w8 hown8 hg8;have hob8:=app_keep HO4.out hg8 hob4 (by decide);have z0:=hob8.cell 2 (v:=.slice eo' k ec') rfl;have zf:=hob8.frozen 2;have zl:=hob8.lt;have HO8:=Lib.hid hown8;have HG8:=Lib.hid hg8;have HB8:=Lib.hid hob8;clear hown8 hg8 hob8)
      have hkp2:Kp [26,38] w.heap.size w4 (w8.setCell ⟨OB,2,none⟩ (.slice ro2 (k+1) rc2)):=((Kp.of (bal (Below.refl _ _) _) (Nat.le_trans hN HB4.out.size)).trans (Kp.grown (HO4.out.alloc _) HG8.out (Nat.le_refl _) (by have:=HB4.out.size;simp;omega) (by decide))).set HB8.out (by decide) hle 2 _
      have hkp:=(Kp.of HB4.out hN).trans hkp2
      have hA:=Blk.other (app_keep HO4.out HG8.out (HBx.out.old HB4.out) (by decide)) (a:=⟨OB,2,none⟩) hne0.symm (.slice ro2 (k+1) rc2)
      have hR:=Blk.other (app_keep HO4.out HG8.out (HBr.out.old HB4.out) (by decide)) (a:=⟨OB,2,none⟩) hne1.symm (.slice ro2 (k+1) rc2)
      have HK2:=Lib.hid hkp2
      have HK:=Lib.hid hkp
      have HA:=Lib.hid hA
      have HR:=Lib.hid hR
      clear hkp2 hkp hA hR y0 y1 y2 y3 y4 y5 y6 o0 ol hob4 z0 zf zl yl
      go_wp2
      go_roundw
      case rel=>
       refine ⟨k+1,fun i=>if i=k then ⟨ao2,ac2,ao3,ac3,ao6,ac6⟩ else e' i,ro2,rc2,by omega,by go_num,HBw.out.trans HK.out.bw,HA.out,HR.out,HB8.out.set 2 _,?_,⟨fun i hi=>?_,cpD_snoc HCp.out.2 (fun i hi a ha=>(own_blk (HCp.out.1 i hi).k a ha).2) fun b hb=>(own_blk HE6.out b hb).1⟩,HK.out.own HOl.out.1,fun i hi=>(HOl.out.2.1 i hi).kp HK.out,HK.out.own HOl.out.2.2⟩
       ·have h9:=own_set HO8.out HB8.out (by decide) 2 (.slice ro2 (k+1) rc2)
        have e:flatR (rowsK m.me (fun i=>if i=k then ⟨ao2,ac2,ao3,ac3,ao6,ac6⟩ else e' i) (k+1))=flatR (rowsK m.me e' k)++[.string nm,.int .i64 mc,.slice ao2 pl.length ac2,.slice ao3 ll.length ac3,.int .i64 rk,.int .i64 rq,.slice ao6 kl.length ac6]:=by
         rw [rowsK_succ,flatR_append,flatR_one,rowsK_congr m.me (g:=e') k (fun i hi=>if_neg (by omega)),HXe.out,if_pos rfl]
         rfl
        rw [e]
        exact h9
       ·by_cases hik:i=k
        ·subst hik
         show CpM _ _ (if i=i then _ else _) _
         rw [if_pos rfl,HXe.out]
         exact (⟨HE2.out,HE3.out,own_baseV HE6.out hN⟩:CpM w4 _ _ _).kp HK2.out
        ·show CpM _ _ (if i=k then _ else _) _
         rw [if_neg hik]
         exact (HCp.out.1 i (by omega)).kp HK.out
      case measure=>simp [intOf];omega
     ·have hkn:¬ (k:Int) < m.me.length:=by omega
      obtain rfl:k=m.me.length:=by omega
      have hbo:=HBo.out
      have hbr:=HBr.out
      have o0:=hbo.cell 0 (v:=.slice co' m.cl.length cc') rfl
      have o1:=hbo.cell 1 (v:=.slice so' m.st.length sc') rfl
      have o2:=hbo.cell 2 (v:=.slice eo' m.me.length ec') rfl
      have o3:=hbo.cell 3 (v:=.int .i64 m.sel) rfl
      have r0:=hbr.cell 0 (v:=.slice none 0 0) rfl
      have r1:=hbr.cell 1 (v:=.slice none 0 0) rfl
      have r2:=hbr.cell 2 (v:=.slice none 0 0) rfl
      have r3:=hbr.cell 3 (v:=.int .i64 0) rfl
      have f0:=hbr.frozen 0
      have f1:=hbr.frozen 1
      have f2:=hbr.frozen 2
      have f3:=hbr.frozen 3
      have hl:=hbr.lt
      have hk:=(((((Kp.refl [26] w.heap.size wr).set hbr (by decide) (Nat.le_succ _) 0 (.slice co' m.cl.length cc')).set (hbr.set 0 _) (by decide) (Nat.le_succ _) 1 (.slice so' m.st.length sc')).set ((hbr.set 0 _).set 1 _) (by decide) (Nat.le_succ _) 2 (.slice eo' m.me.length ec')).set (((hbr.set 0 _).set 1 _).set 2 _) (by decide) (Nat.le_succ _) 3 (.int .i64 m.sel))
      have HKf:=Lib.hid hk
      clear hbo hbr hk
      go_wp2
      refine bodyPost_ret (v:=.agg #[.slice co' m.cl.length cc',.slice so' m.st.length sc',.slice eo' m.me.length ec',.int .i64 m.sel]) (by simp [results,Tryz.results19,go_sem,r0,r1,r2,r3]) rfl ?_
      refine ⟨⟨co',cc',so',sc',eo',ec',c',e'⟩,rfl,⟨?_,HKf.out.own HOl.out.2.2,?_,fun i hi=>(HOl.out.2.1 i hi).kp HKf.out,fun i hi=>(HCp.out.1 i hi).kp HKf.out⟩,HBw.out.trans HKf.out.bw,HCp.out.2⟩
      ·have h9:=HKf.out.own HOl.out.1
       rw [rowsK_all] at h9
       exact h9
      ·have h9:=HKf.out.own HRow.out
       rw [rowsK_all] at h9
       exact h9
 clear hK
 have HS:=Lib.hid (show ∀ w',Below W0.heap.size W0 w'→Cs [(⟨w.heap.size,1,none⟩,.slice so m.st.length sc),(⟨w.heap.size,3,none⟩,.int .i64 m.sel)] w' from fun w' hb=>⟨(HX.out.old hb).cell 1 rfl,(HX.out.old hb).cell 3 rfl,trivial⟩)
 refine rO (Cs [(⟨w.heap.size,1,none⟩,.slice so m.st.length sc),(⟨w.heap.size,3,none⟩,.int .i64 m.sel)]) (.plain 0 (.plain 1 (.plain 3 (.plain 4 (.two 2 7 (.two 5 7 (oL [6,107,108]) (oL [105,6,108])) (oL [102,105,6,108])))))) (HS.out _ (Below.drew (Below.refl _ _))) ?_
 repeat refine pO ?_
 have hd0:Below W0.heap.size W0 W0.drew:=Below.drew (Below.refl _ _)
 have HDz:=Lib.hid (show W0.drew.heap.size=W0.heap.size from rfl)
 generalize W0.drew=w1 at hd0 HDz ⊢
 refine wpMixO_two (wpOp_one _ (by rfl) (by rfl) fun Kv hK=>?_) (wpOp_one _ (by rfl) (by rfl) fun Kv hK=>?_)
 ·go_simp
  have hb2:Below W0.heap.size W0 (w1.alloc (.cells #[] 35)):=bal hd0 _
  have ho2:(w1.alloc (.cells #[] 35)).ownsRow w.heap.size 35 2 (.slice (some ⟨w1.heap.size,0,none⟩) 0 0) 0 []:=own_made' rfl (by have:=HDz.out;have:=HSz.out;omega)
  have HZ2:=Lib.hid (show (w1.alloc (.cells #[] 35)).heap.size=w1.heap.size+1 by simp)
  refine hK _ _ ⟨HS.out _ hb2,?_⟩
  clear hK Kv
  generalize w1.alloc _=w2 at hb2 ho2 HZ2 ⊢
  generalize w1.heap.size=g at ho2 HZ2 HDz ⊢
  refine wpMixO_two (wpOp_one _ (by rfl) (by rfl) fun Kv hK=>?_) (wpOp_one _ (by rfl) (by rfl) fun Kv hK=>?_)
  ·refine wp_append_slx (.tmp 10) (.tmp 12) 23 rfl w.heap.size 35 2 16 elTyV _ 0 [] rfl ho2 _ _ _ _ rfl (RowAt.old HM.out.st (bthen HB0.out hb2)) (flatR_oneC _) (by omega) (by unfold maxLen;omega) (by have:=HSz.out;have:=(hb2).size;omega) ?_
   intro ao ac w3 hown hg
   rw [Nat.zero_add,List.nil_append] at hown
   have hb3:Below W0.heap.size W0 w3:=bgrown hb2 hg (fun j hj=>by cases hj;show W0.heap.size≤g;have:=HDz.out;omega)
   refine hK _ _ ⟨HS.out _ hb3,?_⟩
   clear hK Kv hg
   repeat refine pO ?_
   refine oO fun Kv hK=>?_
   go_simp
   have hb4:Below W0.heap.size W0 (w3.alloc (.cells #[.slice none 0 0,.slice none 0 0,.slice none 0 0,.int .i64 0] 26)):=bal hb3 _
   have hz4:=Blk.new w3 #[.slice none 0 0,.slice none 0 0,.slice none 0 0,.int .i64 0] 26
   have ho4:=hown.alloc (.cells #[.slice none 0 0,.slice none 0 0,.slice none 0 0,.int .i64 0] 26)
   have hle0:W0.heap.size≤w3.heap.size:=hb3.size
   refine hK _ _ ⟨HS.out _ hb4,?_⟩
   clear hK Kv
   generalize w3.alloc _=w4 at hb4 hz4 ho4 ⊢
   generalize w3.heap.size=OB at hz4 hle0 ⊢
   have z0:=hz4.cell 0 (v:=.slice none 0 0) rfl
   have f0:=hz4.frozen 0
   have z1:=hz4.cell 1 (v:=.slice none 0 0) rfl
   have f1:=hz4.frozen 1
   have z2:=hz4.cell 2 (v:=.slice none 0 0) rfl
   have f2:=hz4.frozen 2
   have z3:=hz4.cell 3 (v:=.int .i64 0) rfl
   have f3:=hz4.frozen 3
   have zl:=hz4.lt
   refine oO fun Kv hK=>?_
   go_simp
   refine hK _ _ ⟨HS.out _ (bsetV (bsetV (bsetV (bsetV hb4 hle0 _) hle0 _) hle0 _) hle0 _),?_⟩
   refine wpMixO_done ?_
   exact key OB _ _ _ _ _ _ _ _ ao ac (bsetV (bsetV (bsetV (bsetV hb4 hle0 _) hle0 _) hle0 _) hle0 _) (by have:=HSz.out;omega) (by have:=HSz.out;omega) (by have:=HSz.out;omega) ((((hz4.set 0 (.slice none 0 0)).set 1 (.slice ao m.st.length ac)).set 2 (.slice none 0 0)).set 3 (.int .i64 m.sel)) (own_set (own_set (own_set (own_set ho4 hz4 (by decide) 0 (.slice none 0 0)) (hz4.set 0 (.slice none 0 0)) (by decide) 1 (.slice ao m.st.length ac)) ((hz4.set 0 (.slice none 0 0)).set 1 (.slice ao m.st.length ac)) (by decide) 2 (.slice none 0 0)) (((hz4.set 0 (.slice none 0 0)).set 1 (.slice ao m.st.length ac)).set 2 (.slice none 0 0)) (by decide) 3 (.int .i64 m.sel))
  ·go_simp
   have hb4:Below W0.heap.size W0 (w2.alloc (.cells #[.slice none 0 0,.slice none 0 0,.slice none 0 0,.int .i64 0] 26)):=bal hb2 _
   have hz4:=Blk.new w2 #[.slice none 0 0,.slice none 0 0,.slice none 0 0,.int .i64 0] 26
   have ho4:=ho2.alloc (.cells #[.slice none 0 0,.slice none 0 0,.slice none 0 0,.int .i64 0] 26)
   have hle0:W0.heap.size≤w2.heap.size:=hb2.size
   have HNe:=Lib.hid (show g≠w2.heap.size by have:=HZ2.out;omega)
   refine hK _ _ ⟨HS.out _ hb4,?_⟩
   clear hK Kv
   generalize w2.alloc _=w4 at hb4 hz4 ho4 ⊢
   generalize w2.heap.size=OB at hz4 hle0 HNe ⊢
   refine oO fun Kv hK=>?_
   refine wp_append_slx (.tmp 10) (.tmp 12) 23 rfl w.heap.size 35 2 16 elTyV _ 0 [] rfl ho4 _ _ _ _ rfl (RowAt.old HM.out.st (bthen HB0.out hb4)) (flatR_oneC _) (by omega) (by unfold maxLen;omega) (by have:=HSz.out;have:=(hb4).size;omega) ?_
   intro ao ac w5 hown hg
   rw [Nat.zero_add,List.nil_append] at hown
   have hb5:Below W0.heap.size W0 w5:=bgrown hb4 hg (fun j hj=>by cases hj;show W0.heap.size≤g;have:=HDz.out;omega)
   have hz5:=Blk.grownV hz4 hg (own_neT ho4 hz4 (by decide))
   exact j1
 ·go_simp
  have hb2:Below W0.heap.size W0 (w1.alloc (.cells #[.slice none 0 0,.slice none 0 0,.slice none 0 0,.int .i64 0] 26)):=bal hd0 _
  have hz2:=Blk.new w1 #[.slice none 0 0,.slice none 0 0,.slice none 0 0,.int .i64 0] 26
  have hle0:W0.heap.size≤w1.heap.size:=hd0.size
  refine hK _ _ ⟨HS.out _ hb2,?_⟩
  clear hK Kv
  generalize w1.alloc _=w2 at hb2 hz2 ⊢
  generalize w1.heap.size=OB at hz2 hle0 ⊢
  refine oO fun Kv hK=>?_
  go_simp
  have hb3:Below W0.heap.size W0 (w2.alloc (.cells #[] 35)):=bal hb2 _
  have ho3:(w2.alloc (.cells #[] 35)).ownsRow w.heap.size 35 2 (.slice (some ⟨w2.heap.size,0,none⟩) 0 0) 0 []:=own_made' rfl (by have:=hb2.size;have:=HSz.out;omega)
  have hz3:=hz2.alloc (.cells #[] 35)
  have hg9:=hb2.size
  refine hK _ _ ⟨HS.out _ hb3,?_⟩
  clear hK Kv
  generalize w2.alloc _=w3 at hb3 hz3 ho3 ⊢
  generalize w2.heap.size=g at ho3 hg9 ⊢
  refine oO fun Kv hK=>?_
  refine wp_append_slx (.tmp 10) (.tmp 12) 23 rfl w.heap.size 35 2 16 elTyV _ 0 [] rfl ho3 _ _ _ _ rfl (RowAt.old HM.out.st (bthen HB0.out hb3)) (flatR_oneC _) (by omega) (by unfold maxLen;omega) (by have:=HSz.out;have:=(hb3).size;omega) ?_
  intro ao ac w5 hown hg
  rw [Nat.zero_add,List.nil_append] at hown
  have hb5:Below W0.heap.size W0 w5:=bgrown hb3 hg (fun j hj=>by cases hj;exact hg9)
  have hz5:=Blk.grownV hz3 hg (own_neT ho3 hz3 (by decide))
  exact j1
theorem copy_any (w:World) (h:Hd) (m:Md) (H:ModAt w h m) (hs:MdSm m):Calls Tryz.prog 19 #[.agg #[.slice h.co m.cl.length h.cc,.slice h.so m.st.length h.sc,.slice h.eo m.me.length h.ec,.int .i64 m.sel]] w fun e w'=>∃ h':Hd,e=.returned (.agg #[.slice h'.co m.cl.length h'.cc,.slice h'.so m.st.length h'.sc,.slice h'.eo m.me.length h'.ec,.int .i64 m.sel])∧CpAt w' w.heap.size h' m∧Below w.heap.size w w':=
 (copyD_any w h m H hs).mono fun e w' ⟨h',h1,h2,h3,h4⟩=>⟨h',h1,h2,h3⟩
end
section
open Go.RowKit
section
variable {w:World}{base:Nat}{e:TypeId}{size g n cap:Nat}{xs:List Value}(h:w.ownsRow base e size (.slice (some ⟨g,0,none⟩) n cap) n xs)(j:Nat)
include w base e size g n cap xs h j
theorem own_put (v:Value):(w.setCell ⟨g,j,none⟩ v).ownsRow base e size (.slice (some ⟨g,0,none⟩) n cap) n (xs.set j v):=by
 obtain ⟨h1,h2⟩:=h
 rcases h2 with ⟨hv,_⟩|⟨g',c,cur,hv,hb,hg,hn,hm,hs,ht⟩
 ·cases hv
 ·cases hv
  refine ⟨by rw [List.length_set];exact h1,.inr ⟨g,cap,cur.setIfInBounds j v,rfl,hb,heap_setCell_same w g j cur e v hg,hn,hm,by rw [Array.size_setIfInBounds];exact hs,?_⟩⟩
  rw [←ht,Array.toList_setIfInBounds,List.take_set]
theorem own_frozen:w.frozen? ⟨g,j,none⟩=false:=by
 rcases h.2 with ⟨hv,_⟩|⟨g',c,cur,hv,hb,hg,_⟩
 ·cases hv
 ·cases hv;exact frozen_of_row w g j cur e hg
end
theorem flatR_set {α:Type} [Cells α] (v:Value) (x:α) (j:Nat):∀ (l:List α) (i:Nat) (hi:i<l.length),j<Cells.n α→Cells.cells x=(Cells.cells l[i]).set j v→flatR (l.set i x)=(flatR l).set (i*Cells.n α+j) v
 | [],i,hi,_,_=>by cases hi
 | y :: l,0,hi,hj,h=>by
  simp only [List.set_cons_zero,flatR,List.flatMap_cons,Nat.zero_mul,Nat.zero_add]
  rw [List.set_append_left _ _ (by rw [Cells.len];exact hj),h]
  rfl
 | y :: l,i+1,hi,hj,h=>by
  have ih:=flatR_set v x j l i (by simpa using hi) hj h
  simp only [List.set_cons_succ,flatR,List.flatMap_cons] at ih ⊢
  rw [List.set_append_right _ _ (by rw [Cells.len,Nat.succ_mul];omega),ih,Cells.len]
  congr 2
  rw [Nat.succ_mul];omega
theorem addr_at (g n:Nat):(⟨g,0,none⟩:Addr).add n=⟨g,n,none⟩:=by unfold Addr.add;split<;>simp_all
def codeM (m:Md) (kk:Nat) (l:List In3):Md:=⟨m.cl,m.st,m.me.set kk { m.me.getD kk default with k:=l },m.sel⟩
def codeH (h:Hd) (kk:Nat) (ao:Option Addr) (cap:Nat):Hd:={ h with e:=fun i=>if i=kk then { h.e kk with ko:=ao,kc:=cap } else h.e i }
theorem codeM_get {m:Md}{kk:Nat} (hk:kk<m.me.length) (l:List In3) (j:Nat):(codeM m kk l).me.getD j default=if j=kk then { m.me.getD kk default with k:=l } else m.me.getD j default:=by
 unfold codeM
 exact j6
theorem codeM_rows {h:Hd}{m:Md}{kk:Nat} (hk:kk<m.me.length) (l:List In3) (ao:Option Addr) (cap:Nat):rowsM (codeH h kk ao cap) (codeM m kk l)=(rowsM h m).set kk ({ m.me.getD kk default with k:=l },{ h.e kk with ko:=ao,kc:=cap }):=by
 refine List.ext_getElem? fun i=>?_
 simp only [rowsM,codeM,codeH,List.getElem?_mapIdx,List.getElem?_set,List.length_mapIdx]
 by_cases q:kk=i
 ·subst q
  simp [hk]
 ·rw [if_neg q,if_neg q]
  cases m.me[i]? with
  | none=>rfl
  | some y=>simp [show ¬ i=kk from fun e=>q e.symm]
theorem CpAt.code {w:World}{N:Nat}{h:Hd}{m:Md} (H:CpAt w N h m) {kk:Nat} (hk:kk<m.me.length) {ao:Option Addr}{cap:Nat}{l:List In3} (ho:w.ownsRow N 42 3 (.slice ao l.length cap) l.length (flatR l)) :
  ∃ g,h.eo=some ⟨g,0,none⟩∧N≤g∧w.frozen? ⟨g,kk*7+6,none⟩=false∧Below N w (w.setCell ⟨g,kk*7+6,none⟩ (.slice ao l.length cap))∧(∀ {b:Nat}{xs:Array Value}{t:TypeId},Blk w b xs t→t≠38→Blk (w.setCell ⟨g,kk*7+6,none⟩ (.slice ao l.length cap)) b xs t)∧CpAt (w.setCell ⟨g,kk*7+6,none⟩ (.slice ao l.length cap)) N (codeH h kk ao cap) (codeM m kk l):=by
 obtain ⟨g,hg⟩:=ownsRow_some H.me (by omega)
 have hme:=H.me
 rw [hg] at hme
 have hN:=(hme.lt g rfl).1
 obtain ⟨c,cur,hcur⟩:∃ (c:Nat) (cur:Array Value),Blk w g cur 38:=by
  rcases hme.2 with ⟨hv,_⟩|⟨g',c,cur,hv,hb,hgg,_⟩
  ·cases hv
  ·cases hv;exact ⟨0,cur,hgg⟩
 have hkp:Kp [38] N w (w.setCell ⟨g,kk*7+6,none⟩ (.slice ao l.length cap)):=(Kp.refl _ N w).set hcur (by decide) hN _ _
 refine ⟨g,hg,hN,own_frozen hme _,hkp.bw,fun {b xs t} hb ht=>Blk.other hb (fun q=>?_) _,?_⟩
 ·have q':b=g:=q
  subst q'
  have:=(show w.heap[b]?=_ from hb).symm.trans hcur
  cases this
  exact ht rfl
 ·refine ⟨hkp.own H.cl,hkp.own H.st,?_,fun i hi=>(H.c i hi).kp hkp,fun i hi=>?_⟩
  ·have h9:=own_put hme (kk*7+6) (.slice ao l.length cap)
   rw [codeM_rows hk,flatR_set (.slice ao l.length cap) _ 6 (rowsM h m) kk (by rw [rowsM_len];exact hk) (by decide) (by simp [rowsM,hk];rfl)]
   show World.ownsRow _ N _ 7 (.slice h.eo (codeM m kk l).me.length h.ec) (codeM m kk l).me.length _
   rw [show (codeM m kk l).me.length=m.me.length by simp [codeM],hg]
   exact h9
  ·have hi':i<m.me.length:=by simpa [codeM] using hi
   rw [codeM_get hk]
   show CpM _ N (if i=kk then _ else _) _
   by_cases q:i=kk
   ·subst q
    rw [if_pos rfl,if_pos rfl]
    have h9:=(H.m i hk).kp hkp
    exact ⟨h9.p,h9.l,hkp.own ho⟩
   ·rw [if_neg q,if_neg q]
    exact (H.m i hi').kp hkp
end
section
open Go.RowKit
def pz (c:List In3) (k:Nat):Nat:=(noNop (c.take k)).length
theorem noNop_app (x y:List In3):noNop (x++y)=noNop x++noNop y:=by unfold noNop;exact List.filter_append ..
theorem pz_all (c:List In3):pz c c.length=(noNop c).length:=by unfold pz;rw [List.take_length]
section
variable {c:List In3}
include c
theorem pz_split {a b:Nat} (h:a≤b):pz c b=pz c a+(noNop ((c.drop a).take (b-a))).length∧noNop ((c.drop a).take (b-a))=((noNop c).drop (pz c a)).take (pz c b-pz c a):=by
 have e1:c.take b=c.take a++(c.drop a).take (b-a):=by
  conv=>lhs;rw [show b=a+(b-a) by omega,List.take_add]
 have e2:c=c.take a++((c.drop a).take (b-a)++c.drop b):=by
  rw [←List.append_assoc,←e1,List.take_append_drop]
 have h1:pz c b=pz c a+(noNop ((c.drop a).take (b-a))).length:=by unfold pz;rw [e1,noNop_app,List.length_append]
 refine ⟨h1,?_⟩
 have h2:noNop c=noNop (c.take a)++(noNop ((c.drop a).take (b-a))++noNop (c.drop b)):=by rw [←noNop_app,←noNop_app,←e2]
 rw [h2,show pz c b-pz c a=(noNop ((c.drop a).take (b-a))).length by omega,show pz c a=(noNop (c.take a)).length from rfl,List.drop_left,List.take_left]
theorem pz_le {a b:Nat} (h:a≤b):pz c a≤pz c b:=by have:=(pz_split (c:=c) h).1;omega
theorem pz_len {a:Nat} (h:a≤c.length):pz c a≤(noNop c).length:=pz_all c▸pz_le h
theorem pz_nop {k:Nat} (hk:k<c.length) (h:(c.getD k default).op=0):pz c (k+1)=pz c k:=by
 unfold pz
 rw [take_snocR c k hk,noNop_app,noNop_yes h,noNop_nil,List.append_nil]
theorem pz_at {k:Nat} (hk:k<c.length) (h:(c.getD k default).op≠0):pz c (k+1)=pz c k+1∧pz c k<(noNop c).length∧(noNop c).getD (pz c k) default=c.getD k default:=by
 have h1:pz c (k+1)=pz c k+1:=by
  unfold pz
  rw [take_snocR c k hk,noNop_app,noNop_no h,noNop_nil,List.length_append]
  rfl
 have h2:=(pz_split (c:=c) (Nat.le_succ k)).2
 have h3:=pz_len (c:=c) (a:=k+1) (by omega)
 have h4:(c.drop k).take (k+1-k)=[c.getD k default]:=by
  rw [show k+1-k=1 by omega,List.drop_eq_getElem_cons hk,List.take_succ_cons,List.take_zero]
  simp [hk]
 rw [h4,noNop_no h,noNop_nil,show pz c (k+1)-pz c k=1 by omega,List.drop_eq_getElem_cons (show pz c k<(noNop c).length by omega)] at h2
 simp only [List.take_succ_cons,List.take_zero,List.cons.injEq,and_true] at h2
 refine ⟨h1,by omega,?_⟩
 rw [h2]
 simp [show pz c k<(noNop c).length by omega]
theorem good_nop {a b d:Nat} (h:Good c a b d):Good (noNop c) (pz c a) (pz c b) d:=fun S D hD=>by
 obtain ⟨h1,h2,h3⟩:=h S D hD
 refine ⟨pz_le h1,pz_len h2,?_⟩
 rw [←(pz_split h1).2,nest_nop]
 exact h3
theorem op_ne0 {k:Nat} (h:opensV (c.getD k default).op=true∨(c.getD k default).op=34∨(c.getD k default).op=35):(c.getD k default).op≠0:=fun e=>by rw [e] at h;revert h;decide
theorem mat_nop1 {o en:Nat} (h:Mat c o (-1) en):Mat (noNop c) (pz c o) (-1) (pz c en)∧pz c (o+1)=pz c o+1∧pz c (en+1)=pz c en+1∧(noNop c).getD (pz c o) default=c.getD o default:=by
 obtain ⟨h0,h1,h2,h3,h4⟩:=h
 obtain ⟨p1,p2,p3⟩:=pz_at h0 (op_ne0 (.inl h1))
 obtain ⟨q1,q2,q3⟩:=pz_at h2 (op_ne0 (.inr (.inr h3)))
 refine ⟨⟨p2,by unfold isOp;rw [p3];exact h1,q2,by rw [q3];exact h3,.inl ⟨rfl,?_⟩⟩,p1,q1,p3⟩
 rcases h4 with ⟨_,h5,d,h6⟩|⟨n,h5,_⟩
 ·exact ⟨by rw [p3];exact h5,d,p1▸good_nop h6⟩
 ·omega
theorem mat_nop2 {o n en:Nat} (h:Mat c o n en):Mat (noNop c) (pz c o) (pz c n) (pz c en)∧pz c (o+1)=pz c o+1∧pz c (n+1)=pz c n+1∧pz c (en+1)=pz c en+1∧(noNop c).getD (pz c o) default=c.getD o default:=by
 obtain ⟨h0,h1,h2,h3,h4⟩:=h
 rcases h4 with ⟨h5,_⟩|⟨n',h5,h6,h7,h8,⟨d,h9⟩,e,h10⟩
 ·omega
 obtain rfl:n=n':=by omega
 obtain ⟨p1,p2,p3⟩:=pz_at h0 (op_ne0 (.inl h1))
 obtain ⟨q1,q2,q3⟩:=pz_at h2 (op_ne0 (.inr (.inr h3)))
 obtain ⟨r1,r2,r3⟩:=pz_at h6 (op_ne0 (.inr (.inl h7)))
 exact ⟨⟨p2,by unfold isOp;rw [p3];exact h1,q2,by rw [q3];exact h3,.inr ⟨pz c n,rfl,r2,by rw [r3];exact h7,by rw [p3];exact h8,⟨d,p1▸good_nop h9⟩,e,r1▸good_nop h10⟩⟩,p1,r1,q1,p3⟩
theorem seg_nop {a b:Nat} (h:Seg c a b):Seg (noNop c) (pz c a) (pz c b):=by
 induction h with
 | nil a h=>exact .nil _ (pz_len h)
 | pl a b h1 h2 h3 h4 h5 ih=>
  by_cases h0:(c.getD a default).op=0
  ·rw [pz_nop h1 h0] at ih;exact ih
  ·obtain ⟨p1,p2,p3⟩:=pz_at h1 h0
   rw [p1] at ih
   exact .pl _ _ p2 (by rw [p3];exact h2) (by rw [p3];exact h3) (by rw [p3];exact h4) ih
 | one a en b h1 h2 h3 i1 i2=>
  obtain ⟨m1,m2,m3,m4⟩:=mat_nop1 h1
  rw [m2] at i1
  rw [m3] at i2
  exact .one _ _ _ m1 i1 i2
 | two a n en b h1 h2 h3 h4 i1 i2 i3=>
  obtain ⟨m1,m2,m3,m4,m5⟩:=mat_nop2 h1
  rw [m2] at i1
  rw [m3] at i2
  rw [m4] at i3
  exact .two _ _ _ _ m1 i1 i2 i3
end
def nopV (c:List In3):Nat→Int
 | 0=>0
 | k+1=>nopV c k+if (c.getD k default).op=0 then tmV c k else 0
theorem nopV_no {c:List In3}{k:Nat} (h:(c.getD k default).op≠0):nopV c (k+1)=nopV c k:=by
 show nopV c k+_=_
 rw [if_neg h];omega
theorem addV_d {a a' p p':Int} (h1:a'≤a) (h2:p'≤p):addV a' p'≤addV a p∧addV a p-addV a' p'≤(a-a')+(p-p'):=by unfold addV;omega
theorem brk_d1 {m:Md}{T:Int→Int}{i:In3}{f f' o:Int} (hle:f'≤f) (ho:0≤o) (ha:i.op=30→0≤i.a) (h33:i.op≠33) (hi:innV i o≤1000000000):(gW byCost m T).brk i f' 0≤(gW byCost m T).brk i f 0∧o*((gW byCost m T).brk i f 0-(gW byCost m T).brk i f' 0)≤innV i o*(f-f'):=by
 by_cases h30:i.op=30
 ·have hb:∀ f,(gW byCost m T).brk i f 0=addV (costV i) (mulV i.a (addV f 1)):=fun f=>(if_neg (by omega)).trans (if_pos h30)
  have hin:innV i o=i.a*o:=by
   unfold innV at hi ⊢
   rw [if_pos h30] at hi ⊢
   unfold mulV hugeV at hi ⊢
   omega
  rw [hb,hb,hin]
  have h1:=addV_d (p:=1) (p':=1) hle (Int.le_refl _)
  have h2:=Int.mul_le_mul_of_nonneg_left h1.1 (ha h30)
  have h3:=Int.mul_le_mul_of_nonneg_left h1.2 (ha h30)
  rw [Int.mul_sub] at h3
  have h4:mulV i.a (addV f' 1)≤mulV i.a (addV f 1)∧mulV i.a (addV f 1)-mulV i.a (addV f' 1)≤i.a*((f-f')+(1-1)):=by unfold mulV;omega
  have h5:=addV_d (a:=costV i) (a':=costV i) (Int.le_refl _) h4.1
  refine ⟨h5.1,?_⟩
  have h6:=Int.mul_le_mul_of_nonneg_left (show addV (costV i) (mulV i.a (addV f 1))-addV (costV i) (mulV i.a (addV f' 1))≤i.a*((f-f')+(1-1)) by omega) ho
  rw [show (f-f')+(1-1)=f-f' by omega,←Int.mul_assoc,Int.mul_comm o i.a] at h6
  exact h6
 ·have hin:innV i o=o:=by unfold innV;rw [if_neg h30]
  rw [hin]
  have hb:∀ f,(gW byCost m T).brk i f 0=if i.op=29 then addV (costV i) (max (addV f 1) (addV 0 1)) else addV (costV i) (addV f 1):=fun f=>by
   show (if i.op=29 then addV (costV i) (max (addV f 1) (addV 0 1)) else if i.op=30 then _ else if i.op=32∧false=true then _ else if i.op=33 then _ else addV (costV i) (addV f 1))=_
   rw [if_neg h30,if_neg (show ¬ (i.op=32∧false=true) by simp),if_neg h33]
  rw [hb,hb]
  have h1:=addV_d (p:=1) (p':=1) hle (Int.le_refl _)
  have h2:=addV_d (a:=costV i) (a':=costV i) (Int.le_refl _) h1.1
  have h3:=addV_d (a:=costV i) (a':=costV i) (p:=max (addV f 1) (addV 0 1)) (p':=max (addV f' 1) (addV 0 1)) (Int.le_refl _) (by omega)
  have h4:(if i.op=29 then addV (costV i) (max (addV f' 1) (addV 0 1)) else addV (costV i) (addV f' 1))≤(if i.op=29 then addV (costV i) (max (addV f 1) (addV 0 1)) else addV (costV i) (addV f 1))∧(if i.op=29 then addV (costV i) (max (addV f 1) (addV 0 1)) else addV (costV i) (addV f 1))-(if i.op=29 then addV (costV i) (max (addV f' 1) (addV 0 1)) else addV (costV i) (addV f' 1))≤f-f':=by split<;>omega
  exact ⟨h4.1,Int.mul_le_mul_of_nonneg_left h4.2 ho⟩
theorem brk_d2 {m:Md}{T:Int→Int}{i:In3}{f f' s s':Int} (hf:f'≤f) (hs:s'≤s) (h:i.op=29∨i.op=33):(gW byCost m T).brk i f' s'≤(gW byCost m T).brk i f s∧(gW byCost m T).brk i f s-(gW byCost m T).brk i f' s'≤(f-f')+(s-s'):=by
 have hb:∀ f s,(gW byCost m T).brk i f s=if i.op=29 then addV (costV i) (max (addV f 1) (addV s 1)) else addV (costV i) (addV (addV f 1) s):=fun f s=>by
  show (if i.op=29 then addV (costV i) (max (addV f 1) (addV s 1)) else if i.op=30 then _ else if i.op=32∧false=true then _ else if i.op=33 then addV (costV i) (addV (addV f 1) s) else _)=_
  rw [if_neg (show ¬ i.op=30 by omega),if_neg (show ¬ (i.op=32∧false=true) by simp)]
  rcases h with h|h
  ·rw [if_pos h,if_pos h]
  ·rw [if_neg (by omega),if_pos h,if_neg (by omega)]
 rw [hb,hb]
 have h1:=addV_d (p:=1) (p':=1) hf (Int.le_refl _)
 have h2:=addV_d (p:=1) (p':=1) hs (Int.le_refl _)
 have h3:=addV_d (a:=costV i) (a':=costV i) (p:=max (addV f 1) (addV s 1)) (p':=max (addV f' 1) (addV s' 1)) (Int.le_refl _) (by omega)
 have h4:=addV_d h1.1 hs
 have h5:=addV_d (a:=costV i) (a':=costV i) (Int.le_refl _) h4.1
 split<;>omega
section
variable {m:Md}{T:Int→Int}{c:List In3} (ha:∀ i∈c,i.op≠1→0≤i.a)
include ha
theorem WA_nop {a b:Nat} (hs:Seg c a b):∀ o,0≤o→Enc c a b o→(∀ i,a≤i→i<b→tmV c i≤1000000000)→∀ x y,x≤hugeV→y≤x→WA (gW byCost m T) (noNop c) (pz c a) (pz c b) y≤WA (gW byCost m T) c a b x∧o*(WA (gW byCost m T) c a b x-WA (gW byCost m T) (noNop c) (pz c a) (pz c b) y)≤o*(x-y)+(nopV c b-nopV c a):=by
 have hplus:∀ x y,(gW byCost m T).plus x y=addV x y:=fun _ _=>rfl
 have hadd:∀ x y,addV x y≤hugeV:=fun x y=>by unfold addV;omega
 have h00:(0:Int)≤hugeV:=by decide
 have hm:∀ k,k<c.length→c.getD k default∈c:=fun k hk=>getD_mem _ hk
 induction hs with
 | nil a h=>intro o h0 _ _ x y hx hy;rw [WA_nil,WA_nil];exact ⟨hy,by omega⟩
 | pl a b q1 q2 q3 q4 q5 ih=>
  intro o h0 he ht x y hx hy
  have hle5:=(seg_le q5).1
  have hta:tmV c a=o:=he.here (by omega)
  have ih:=ih o h0 (he.next (.pl _ _ q1 q2 q3 q4 (.nil _ (by omega)))) (fun i h1 h2=>ht i (by omega) h2)
  rw [WA_pl q2 q5,hplus]
  have hsn:=seg_nop q5
  by_cases hz:(c.getD a default).op=0
  ·have hp:(gW byCost m T).pl (c.getD a default)=1:=by
    show (if _ then _ else if _ then _ else costV _)=_
    rw [if_neg (by omega),if_neg (by omega)]
    unfold costV
    rw [hz];rfl
   rw [hp,←pz_nop q1 hz]
   obtain ⟨i1,i2⟩:=ih (addV x 1) y (hadd _ _) (by unfold addV;omega)
   refine ⟨i1,Int.le_trans i2 ?_⟩
   have h2:=Int.mul_le_mul_of_nonneg_left (show addV x 1-y≤(x-y)+1 by unfold addV;omega) h0
   rw [Int.mul_add,Int.mul_one] at h2
   have h3:nopV c (a+1)=nopV c a+o:=by show nopV c a+(if _ then tmV c a else 0)=_;rw [if_pos hz,hta]
   omega
  ·obtain ⟨p1,p2,p3⟩:=pz_at q1 hz
   rw [p1] at ih hsn
   rw [WA_pl (l:=noNop c) (by rw [p3];exact q2) hsn,hplus,p3]
   have hd:=addV_d (p:=(gW byCost m T).pl (c.getD a default)) (p':=(gW byCost m T).pl (c.getD a default)) hy (Int.le_refl _)
   obtain ⟨i1,i2⟩:=ih _ _ (hadd _ _) hd.1
   refine ⟨i1,Int.le_trans i2 ?_⟩
   have h2:=Int.mul_le_mul_of_nonneg_left (Int.le_trans hd.2 (show _≤x-y by omega)) h0
   rw [nopV_no hz]
   exact Int.add_le_add_right h2 _
 | one a en b q1 q2 q3 i1 i2=>
  intro o h0 he ht x y hx hy
  have hle3:=(seg_le q3).1
  have hle2:=(seg_le q2).1
  have hte:tmV c en=innV (c.getD a default) o:=tm_end1 he (by omega) q1 q2
  have hti:=ht en (by omega) (by omega)
  rw [hte] at hti
  have hop:opensV (c.getD a default).op=true:=q1.2.1
  have h33:(c.getD a default).op≠33:=by
   rcases q1.2.2.2.2 with ⟨_,h,_⟩|⟨n,h,_⟩
   ·exact h
   ·omega
  have hai:(c.getD a default).op=30→0≤(c.getD a default).a:=fun h=>ha _ (hm a q1.1) (by omega)
  have hin0:0≤innV (c.getD a default) o:=by
   unfold innV
   split
   ·rename_i h30
    have:=Int.mul_nonneg (hai h30) h0
    unfold mulV hugeV;omega
   ·exact h0
  obtain ⟨m1,m2,m3,m4⟩:=mat_nop1 q1
  have s2:=seg_nop q2
  have s3:=seg_nop q3
  rw [m2] at s2
  rw [m3] at s3
  have hf:=i1 _ hin0 (enc_first he (by omega) q1 (Nat.le_refl _)) (fun i h1 h2=>ht i (by omega) (by omega)) 0 0 h00 (Int.le_refl _)
  rw [m2] at hf
  have hbk:=brk_d1 (m:=m) (T:=T) hf.1 h0 hai h33 hti
  rw [WA_one q1 q2 q3,WA_one m1 s2 s3,hplus,hplus,m4]
  have hd:=addV_d hy hbk.1
  have hr:=i2 o h0 (he.next (.one _ _ _ q1 q2 (.nil _ (by have:=q1.2.2.1;omega)))) (fun i h1 h2=>ht i (by omega) h2) _ _ (hadd _ _) hd.1
  rw [m3] at hr
  refine ⟨hr.1,Int.le_trans hr.2 ?_⟩
  have h2:=Int.mul_le_mul_of_nonneg_left hd.2 h0
  rw [Int.mul_add] at h2
  have e1:nopV c (a+1)=nopV c a:=nopV_no (op_ne0 (.inl hop))
  have e2:nopV c (en+1)=nopV c en:=nopV_no (op_ne0 (.inr (.inr q1.2.2.2.1)))
  have h3:=hf.2
  rw [Int.sub_self,Int.mul_zero] at h3
  have h4:=hbk.2
  omega
 | two a n en b q1 q2 q3 q4 i1 i2 i3=>
  intro o h0 he ht x y hx hy
  have hle4:=(seg_le q4).1
  have hle3:=(seg_le q3).1
  have hle2:=(seg_le q2).1
  have hop:opensV (c.getD a default).op=true:=q1.2.1
  have hop2:(c.getD n default).op=34∧((c.getD a default).op=29∨(c.getD a default).op=33):=by
   rcases q1.2.2.2.2 with ⟨h,_⟩|⟨n2,h,_,h34,h2,_⟩
   ·omega
   ·obtain rfl:n=n2:=by omega
    exact ⟨h34,h2⟩
  have hin:innV (c.getD a default) o=o:=by unfold innV;rw [if_neg (by omega)]
  obtain ⟨m1,m2,m3,m4,m5⟩:=mat_nop2 q1
  have s2:=seg_nop q2
  have s3:=seg_nop q3
  have s4:=seg_nop q4
  rw [m2] at s2
  rw [m3] at s3
  rw [m4] at s4
  have hf:=i1 o h0 (hin▸enc_first he (by omega) q1 (by omega)) (fun i h1 h2=>ht i (by omega) (by omega)) 0 0 h00 (Int.le_refl _)
  have hsc:=i2 o h0 (hin▸enc_second he (by omega) q1 q2 (by omega)) (fun i h1 h2=>ht i (by omega) (by omega)) 0 0 h00 (Int.le_refl _)
  rw [m2] at hf
  rw [m3] at hsc
  have hbk:=brk_d2 (m:=m) (T:=T) hf.1 hsc.1 hop2.2
  rw [WA_two q1 q2 q3 q4,WA_two m1 s2 s3 s4,hplus,hplus,m5]
  have hd:=addV_d hy hbk.1
  have hr:=i3 o h0 (he.next (.two _ _ _ _ q1 q2 q3 (.nil _ (by have:=q1.2.2.1;omega)))) (fun i h1 h2=>ht i (by omega) h2) _ _ (hadd _ _) hd.1
  rw [m4] at hr
  refine ⟨hr.1,Int.le_trans hr.2 ?_⟩
  have h2:=Int.mul_le_mul_of_nonneg_left (Int.le_trans hd.2 (Int.add_le_add_left hbk.2 _)) h0
  rw [Int.mul_add,Int.mul_add] at h2
  have e1:nopV c (a+1)=nopV c a:=nopV_no (op_ne0 (.inl hop))
  have e2:nopV c (en+1)=nopV c en:=nopV_no (op_ne0 (.inr (.inr q1.2.2.2.1)))
  have e3:nopV c (n+1)=nopV c n:=nopV_no (op_ne0 (.inr (.inl hop2.1)))
  have h3:=hf.2
  have h4:=hsc.2
  rw [Int.sub_self,Int.mul_zero] at h3 h4
  omega
end
theorem tab_code (x:Ms) (m:Md) {kk:Nat} (hk:kk<m.me.length) (l:List In3):∀ k,k≤kk→tabV (gW x (codeM m kk l)) (codeM m kk l) k=tabV (gW x m) m k
 | 0,_=>rfl
 | k+1,h=>by
  unfold tabV
  rw [tab_code x m hk l k (by omega),codeM_get hk,if_neg (by omega)]
  rfl
theorem mthW_code (x:Ms) (m:Md) {kk:Nat} (hk:kk<m.me.length) (l:List In3):mthW (gW x (codeM m kk l)) (codeM m kk l) kk=WA (gW x m fun t=>(tabV (gW x m) m kk).getD t.toNat 0) l 0 l.length 0:=by
 rw [mthW_def,tab_code x m hk l kk (Nat.le_refl _)]
 unfold cdM
 rw [codeM_get hk,if_pos rfl]
 rfl
theorem code_ok2 {m:Md}{kk:Nat} (hm:(moduleV m).2.2=0) (hk:kk<m.me.length) {l:List In3} (hv:modV (codeM m kk l)=true) (hp:(passV (codeM m kk l) kk).2.2=0):(moduleV (codeM m kk l)).2.2=0:=by
 have hmv:=(mod_ok hm).1
 have S:MeSim (codeM m kk l).me m.me:=by
  refine ⟨by simp [codeM],fun j=>?_,fun j=>?_,fun j=>?_,fun j=>?_⟩<;>rw [codeM_get hk]<;>split<;>simp_all
 unfold moduleV at hm ⊢
 rw [if_pos hmv] at hm
 rw [if_pos hv]
 have h2:∀ n k,(∀ j,k≤j→j<k+n→(passV (codeM m kk l) j).2.2=0)→(modF (codeM m kk l) n k).2.2=0:=by
  intro n
  induction n with
  | zero=>intro k _;rfl
  | succ n ih=>
   intro k h
   unfold modF
   rw [if_pos (h k (Nat.le_refl _) (by omega))]
   exact ih (k+1) fun j h1 h2=>h j (by omega) (by omega)
 refine h2 _ _ fun j _ hj=>?_
 by_cases e:j=kk
 ·subst e;exact hp
 ·have h3:=modF_ok _ _ hm j (Nat.zero_le _) (by rw [S.len] at hj;omega)
  unfold passV at h3 ⊢
  rw [codeM_get hk,if_neg e]
  have h4:∀ lo r l' s,passF (codeM m kk l) lo r 0 l' s=passF m lo r 0 l' s:=fun lo r l' s=>pass_sim (cl:=m.cl) (st:=m.st) (sel:=m.sel) S lo r l' 0 s
  rw [h4]
  exact h3
theorem trim_ready {m:Md}{kk:Nat} (hm:(moduleV m).2.2=0) (hk:kk<m.me.length):(moduleV (nopM m kk)).2.2=0:=by
 have hmv:=(mod_ok hm).1
 refine code_ok2 (l:=noNop (cdM m kk)) hm hk (nop_mod hmv hk) ?_
 have h1:=nops_law hmv hk
 rw [methodV_in hmv hk,methodV_in (nop_mod hmv hk) (by simpa [nopM] using hk)] at h1
 refine h1.trans ?_
 unfold moduleV at hm
 rw [if_pos hmv] at hm
 exact modF_ok _ _ hm kk (Nat.zero_le _) (by omega)
theorem trim_law {m:Md}{kk:Nat} (hm:modV m=true) (hk:kk<m.me.length) (ht:∀ i,i<(cdM m kk).length→tmV (cdM m kk) i≤1000000000):mthW (gW byCost (nopM m kk)) (nopM m kk) kk≤mthW (gW byCost m) m kk∧mthW (gW byCost m) m kk-mthW (gW byCost (nopM m kk)) (nopM m kk) kk≤nopV (cdM m kk) (cdM m kk).length:=by
 have hok:=mth_ok hm hk
 have h:=WA_nop (m:=m) (T:=fun t=>(tabV (gW byCost m) m kk).getD t.toNat 0) (c:=cdM m kk) (fun i hi=>(opd_ok (hok.i i hi).1 (hok.i i hi).2).a0) (seg_of hok.n) 1 (by decide) (enc_all _ _) (fun i _ hi=>ht i hi) 0 0 (by decide) (Int.le_refl _)
 rw [pz_all,show pz (cdM m kk) 0=0 from rfl] at h
 rw [show nopM m kk=codeM m kk (noNop (cdM m kk)) from rfl,mthW_code byCost m hk,mthW_def]
 refine ⟨h.1,?_⟩
 have h2:=h.2
 have h3:nopV (cdM m kk) 0=0:=rfl
 rw [h3] at h2
 rw [Int.one_mul,Int.one_mul] at h2
 refine Int.le_trans h2 ?_
 show 0-0+(nopV (cdM m kk) (cdM m kk).length-0)≤_
 omega
end
section
open Go.RowKit
def oneM (c:List In3):Md:=⟨[],[],[⟨⟨#[97,46,102]⟩,-1,[],[⟨1,0⟩],⟨0,0⟩,c⟩],0⟩
def oneH (b:Nat) (ao:Option Addr) (cap:Nat):Hd:=⟨none,0,none,0,some ⟨b+1,0,none⟩,1,fun _=>default,fun _=>⟨none,0,some ⟨b,0,none⟩,1,ao,cap⟩⟩
def saneC:List In3:=[⟨1,3,0⟩,⟨30,5,0⟩,⟨0,0,0⟩,⟨35,0,0⟩]
theorem sane_w:worstE (oneM saneC) 0=(13,0):=by kernel_rfl
theorem sane_l:leastE (oneM saneC) 0=(3,0):=by kernel_rfl
theorem sane_t:timesE (oneM saneC) 0=([1,1,5,5],0):=by kernel_rfl
def OneR (W:World) (c:List In3):Ending→World→Prop:=fun e w'=>(∃ h:Hd,e=.returned (.agg #[.slice h.co 0 h.cc,.slice h.so 0 h.sc,.slice h.eo 1 h.ec,.int .i64 0])∧ModAt w' h (oneM c))∧Below W.heap.size W w'
theorem one_any (c:List In3) (ao:Option Addr) (cap:Nat) (w:World) (hc:RowAt w ao cap c) (hl:c.length≤1000):Calls Tryz.prog 41 #[.slice ao c.length cap] w (OneR w c):=by
 have HC:=Lib.hid hc
 clear hc
 go_enter Tryz.func41,Tryz.ntmps41
 go_wp2
 obtain ⟨W4,hW4⟩:∃ W4,W4=(((w.alloc (Obj.cells #[Value.slice none 0 0,Value.slice none 0 0,Value.slice (some { block:=w.heap.size+1+1,off:=0 }) 1 1,Value.int IntKind.i64 0] 26)).alloc (Obj.cells #[Value.int IntKind.i64 1,Value.int IntKind.i64 0] 35)).alloc (Obj.cells #[Value.string { data:=#[97,46,102] },Value.int IntKind.i64 (-1),Value.slice none 0 0,Value.slice (some { block:=w.heap.size+1,off:=0 }) 1 1,Value.int IntKind.i64 0,Value.int IntKind.i64 0,Value.slice ao c.length cap] 38)):=⟨_,rfl⟩
 rw [←hW4]
 have hb:Below w.heap.size w W4:=by rw [hW4];exact bE
 have hx:Blk W4 w.heap.size #[Value.slice none 0 0,Value.slice none 0 0,Value.slice (some { block:=w.heap.size+1+1,off:=0 }) 1 1,Value.int IntKind.i64 0] 26:=by rw [hW4];exact ((Blk.new w _ _).alloc _).alloc _
 have r1:=row_built (w.alloc (Obj.cells #[Value.slice none 0 0,Value.slice none 0 0,Value.slice (some { block:=w.heap.size+1+1,off:=0 }) 1 1,Value.int IntKind.i64 0] 26)) ([⟨1,0⟩]:List Ty) _ 35 rfl
 have r2:=row_built ((w.alloc (Obj.cells #[Value.slice none 0 0,Value.slice none 0 0,Value.slice (some { block:=w.heap.size+1+1,off:=0 }) 1 1,Value.int IntKind.i64 0] 26)).alloc (Obj.cells #[Value.int IntKind.i64 1,Value.int IntKind.i64 0] 35)) (rowsM (oneH (w.heap.size+1) ao cap) (oneM c)) _ 38 rfl
 rw [bls] at r1
 rw [bls,bls] at r2
 have hM:ModAt W4 (oneH (w.heap.size+1) ao cap) (oneM c):=by
  rw [hW4]
  have h1:∀ {i:Nat},i<1→i=0:=fun h=>by omega
  refine ⟨RowAt.nil _,RowAt.nil _,r2,fun i hi=>absurd hi (Nat.not_lt_zero i),fun i hi=>absurd hi (Nat.not_lt_zero i),fun i hi=>?_,fun i hi=>?_,fun i hi=>?_,fun i hi=>absurd hi (Nat.not_lt_zero i),fun i hi=>?_,⟨by show (0:Nat)≤_;omega,by show (0:Nat)≤_;omega,by show (1:Nat)≤_;omega⟩⟩
  ·obtain rfl:=h1 hi;exact RowAt.nil _
  ·obtain rfl:=h1 hi;exact r1.alloc _
  ·obtain rfl:=h1 hi;exact HC.out.old bE
  ·obtain rfl:=h1 hi;exact ⟨by show (0:Nat)≤_;omega,by show (1:Nat)≤_;omega,by show c.length≤_;omega⟩
 have x0:=hx.cell 0 (v:=.slice none 0 0) rfl
 have x1:=hx.cell 1 (v:=.slice none 0 0) rfl
 have x2:=hx.cell 2 (v:=.slice (some { block:=w.heap.size+1+1,off:=0 }) 1 1) rfl
 have x3:=hx.cell 3 (v:=.int .i64 0) rfl
 clear r1 r2 hW4
 refine bodyPost_ret (v:=.agg #[.slice none 0 0,.slice none 0 0,.slice (some { block:=w.heap.size+1+1,off:=0 }) 1 1,.int .i64 0]) (by simp [results,Tryz.results41,go_sem,x0,x1,x2,x3]) rfl ?_
 exact ⟨⟨_,rfl,hM⟩,hb⟩
end
section
open Go.RowKit
theorem rInts_any (w:World) (ao bo:Option Addr) (ac bc:Nat) (a b:List Int) (ha:RowAt w ao ac a) (hb:RowAt w bo bc b) (hl:a.length≤4096):Calls Tryz.prog 15 #[.slice ao a.length ac,.slice bo b.length bc] w (Ret w (.bool (decide (a=b)))):=by
 have HA:=Lib.hid ha
 have HB:=Lib.hid hb
 clear ha hb
 by_cases hn:a.length=b.length
 ·have hn2:(a.length:Int)=b.length:=by omega
  rw [←hn]
  have HN:=Lib.hid hn
  clear hn hn2
  go_enter Tryz.func15,Tryz.ntmps15
  go_wp2
  go_loopw [5] (fun i wr=>∃ k:Nat,k≤a.length∧i=.int .i64 k∧Hid (Below w.heap.size w wr)∧Hid (∀ j,j<k→a.getD j 0=b.getD j 0)) (fun i _=>a.length-(intOf i).toNat)
  case atStart=>exact ⟨0,Nat.zero_le _,rfl,by exact bE,fun j h=>by omega⟩
  case round=>
   obtain ⟨k,hk,rfl,HBr,HE⟩:=hrel
   rename World=>wo
   by_cases hkl:k<a.length
   ·obtain ⟨ad,rfl,c0⟩:=row_int (HA.out.old HBr.out) hkl
    obtain ⟨bd,rfl,c1⟩:=row_int (HB.out.old HBr.out) (show k<b.length by have:=HN.out;omega)
    have hkl2:(k:Int) < a.length:=by omega
    have hwk:IntKind.i64.wrap ((k:Int)+1)=((k+1:Nat):Int):=IntWalk.i64_in _ (by omega)
    obtain ⟨x,hx⟩:∃ x,x=a.getD k 0:=⟨_,rfl⟩
    obtain ⟨y,hy⟩:∃ x,x=b.getD k 0:=⟨_,rfl⟩
    rw [←hx] at c0
    rw [←hy] at c1
    have HX:=Lib.hid hx
    have HY:=Lib.hid hy
    clear hx hy
    go_upto_region 6 with fail
    refine rO (Cs [(ad.add k,.int .i64 x),(bd.add k,.int .i64 y)]) (oL [0,1,2,3,4,5,6,7,8]) ⟨c0,c1,trivial⟩ ?_
    clear c0 c1
    repeat refine pO ?_
    refine wpMixO_done ?_
    by_cases hxy:x=y
    ·subst hxy
     go_wp2
     exact ⟨⟨k+1,by omega,rfl,HBr.out.drew,fun j hj=>by
      by_cases h2:j=k
      ·subst h2;rw [←HX.out,←HY.out]
      ·exact HE.out j (by omega)⟩,by simp [intOf];omega⟩
    ·go_wp2
     go_ret
     rw [decide_eq_false (fun e:a=b=>hxy (by rw [HX.out,HY.out,e]))]
     exact ret_ok rfl HBr.out.drew
   ·obtain rfl:k=a.length:=by omega
    have hj5:¬ (a.length:Int) < a.length:=by omega
    go_wp2
    go_ret
    rw [decide_eq_true (show a=b from List.ext_getElem HN.out fun j h1 h2=>by have:=HE.out j h1;simpa [h1,h2] using this)]
    exact ret_ok rfl HBr.out
 ·have hn2:¬ (a.length:Int)=b.length:=by omega
  rw [decide_eq_false (fun e=>hn (by rw [e]))]
  go_enter Tryz.func15,Tryz.ntmps15
  go_wp2
  go_ret
  exact ret_ok rfl bE
theorem sane7_any (W:World):Calls Tryz.prog 12 #[] W (Ret W (.bool true)):=by
 obtain ⟨w0,hw0⟩:∃ w0,w0=W.alloc (Obj.cells #[.int .i64 1,.int .i64 3,.int .i64 0,.int .i64 30,.int .i64 5,.int .i64 0,.int .i64 0,.int .i64 0,.int .i64 0,.int .i64 35,.int .i64 0,.int .i64 0] 42):=⟨_,rfl⟩
 have hO:=one_any saneC (some ⟨W.heap.size,0,none⟩) 4 w0 (by rw [hw0];exact row_built W saneC _ _ rfl) (by decide)
 have HO:=Lib.hid hO
 have HB0:=Lib.hid (show Below W.heap.size W w0 by rw [hw0];exact bE)
 have HW:=Lib.hid hw0
 clear hO hw0
 go_enter Tryz.func12,Tryz.ntmps12
 go_upto_region 2 with (go_at_call 41;rw [←HW.out];refine HO.out.mono ?_;rintro e w1 ⟨⟨h,rfl,hM⟩,hb1⟩;have HM1:=Lib.hid hM;have HB1:=Lib.hid (bthen HB0.out hb1);clear hM hb1)
 obtain ⟨w2,hw2⟩:∃ w2,w2=w1.alloc (.cells #[.slice h.co 0 h.cc,.slice h.so 0 h.sc,.slice h.eo 1 h.ec,.int .i64 0] 26):=⟨_,rfl⟩
 have HB2:=Lib.hid (show Below w1.heap.size w1 w2 by rw [hw2];exact bE)
 have HX2:=Lib.hid (show Blk w2 w1.heap.size #[.slice h.co 0 h.cc,.slice h.so 0 h.sc,.slice h.eo 1 h.ec,.int .i64 0] 26 by rw [hw2];exact Blk.new _ _ _)
 have HM2:=Lib.hid (HM1.out.old HB2.out)
 rw [←hw2]
 clear hw2
 have HWo:=Lib.hid (show ∀ w',Below w2.heap.size w2 w'→Calls Tryz.prog 17 #[.agg #[.slice h.co 0 h.cc,.slice h.so 0 h.sc,.slice h.eo 1 h.ec,.int .i64 0],.int .i64 0] w' (Ret2 w' (.int .i64 13) (.int .i64 0)) from fun w' hb=>by
   have:=worst_any (oneM saneC) h 0 w' (HM2.out.old hb)
   rw [sane_w] at this
   exact this)
 have HLe:=Lib.hid (show ∀ w',Below w2.heap.size w2 w'→Calls Tryz.prog 24 #[.agg #[.slice h.co 0 h.cc,.slice h.so 0 h.sc,.slice h.eo 1 h.ec,.int .i64 0],.int .i64 0] w' (Ret2 w' (.int .i64 3) (.int .i64 0)) from fun w' hb=>by
   have:=least_any (oneM saneC) h 0 w' (HM2.out.old hb)
   rw [sane_l] at this
   exact this)
 have HTi:=Lib.hid (show ∀ w',Below w2.heap.size w2 w'→Calls Tryz.prog 13 #[.agg #[.slice h.co 0 h.cc,.slice h.so 0 h.sc,.slice h.eo 1 h.ec,.int .i64 0],.int .i64 0] w' (RetRow2N w' ([1,1,5,5]:List Int) 0) from fun w' hb=>by
   have:=btimes_any (oneM saneC) h 0 w' (HM2.out.old hb)
   rw [sane_t] at this
   exact this)
 have HBN:=Lib.hid (Below.refl w2.heap.size w2)
 have hx:=HX2.out.old HBN.out;have x0:=hx.cell 0 (v:=.slice h.co 0 h.cc) rfl;have x1:=hx.cell 1 (v:=.slice h.so 0 h.sc) rfl;have x2:=hx.cell 2 (v:=.slice h.eo 1 h.ec) rfl;have x3:=hx.cell 3 (v:=.int .i64 0) rfl;clear hx
 go_wp2_with (first
   | (go_at_call 17;refine (HWo.out _ HBN.out).mono ?_;rintro e w3 ⟨rfl,hb3⟩;have HBN:=Lib.hid (bthen HBN.out hb3);clear hb3 x0 x1 x2 x3;have hx:=HX2.out.old HBN.out;have x0:=hx.cell 0 (v:=.slice h.co 0 h.cc) rfl;have x1:=hx.cell 1 (v:=.slice h.so 0 h.sc) rfl;have x2:=hx.cell 2 (v:=.slice h.eo 1 h.ec) rfl;have x3:=hx.cell 3 (v:=.int .i64 0) rfl;clear hx)
   | (go_at_call 24;refine (HLe.out _ HBN.out).mono ?_;rintro e w4 ⟨rfl,hb4⟩;have HBN:=Lib.hid (bthen HBN.out hb4);clear hb4 x0 x1 x2 x3;have hx:=HX2.out.old HBN.out;have x0:=hx.cell 0 (v:=.slice h.co 0 h.cc) rfl;have x1:=hx.cell 1 (v:=.slice h.so 0 h.sc) rfl;have x2:=hx.cell 2 (v:=.slice h.eo 1 h.ec) rfl;have x3:=hx.cell 3 (v:=.int .i64 0) rfl;clear hx)
   | (go_at_call 13;refine (HTi.out _ HBN.out).mono ?_;rintro e w5 ⟨⟨ao,cap,rfl,hr,-⟩,hb5⟩;have HBN:=Lib.hid (bthen HBN.out hb5);have HR:=Lib.hid hr;clear hb5 hr x0 x1 x2 x3)
   | (go_at_call 15
      have hI:=rInts_any (w5.alloc (.cells #[.int .i64 1,.int .i64 1,.int .i64 5,.int .i64 5] 3)) ao (some ⟨w5.heap.size,0,none⟩) cap 4 ([1,1,5,5]:List Int) ([1,1,5,5]:List Int) (HR.out.old bE) (row_built w5 ([1,1,5,5]:List Int) _ _ rfl) (by decide)
      rw [decide_eq_true rfl] at hI
      refine hI.mono ?_
      rintro e w6 ⟨rfl,hb6⟩
      have HB6:=Lib.hid (bthen (show Below w2.heap.size w2 _ from bal HBN.out _) hb6)
      clear hb6 hI))
 go_ret
 exact ret_ok rfl (bthen HB1.out (bthen HB2.out HB6.out))
end
section
open Go.RowKit
theorem mdSm_of {m:Md} (hm:modV m=true):MdSm m:=by
 obtain ⟨h1,h2,h3,h4,h5⟩:=modV_size hm
 refine ⟨by omega,by omega,by omega,fun i hi=>?_,fun i hi=>?_⟩
 ·have h:=modV_clsN hm i hi
  simp only [clsV,Bool.and_eq_true,decide_eq_true_eq] at h
  have a:=h.1.1.1.1.2
  have b:=h.1.1.2
  omega
 ·have:=(mth_ok hm hi).z
  omega
theorem CpAt.old {w w':World}{N:Nat}{h:Hd}{m:Md} (H:CpAt w N h m) (hb:Below w.heap.size w w'):CpAt w' N h m:=
 have hk:Kp [] 0 w w':=Kp.of hb (Nat.zero_le _)
 ⟨hk.own H.cl,hk.own H.st,hk.own H.me,fun i hi=>(H.c i hi).kp hk,fun i hi=>(H.m i hi).kp hk⟩
attribute [local go_sem] addr_at
end
end Go.Proofs.YtfkbfjhocmbneaaGreat
