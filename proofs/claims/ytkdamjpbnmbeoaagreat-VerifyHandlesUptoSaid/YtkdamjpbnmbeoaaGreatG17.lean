/- Joined texts. The first: verify.references, ref06.references; lists of numbers compared. -/
import Derived.Test.YtkdamjpbnmbeoaaGreatG16
import Derived.Test.YtkdamjpbnmbeoaaGreatG15
import Derived.Test.YtkdamjpbnmbeoaaGreatG10
set_option linter.all false
set_option linter.unusedVariables false
set_option linter.unusedSimpArgs false
set_option maxRecDepth 100000
set_option maxHeartbeats 8000000
namespace Go.Proofs.YtkdamjpbnmbeoaaGreat
section
open Go.RowKit
/-- where the references stand among the first k types -/
def refsL (l:List Ty):Nat→List Int
 | 0=>[]
 | k+1=>refsL l k++(if (l.getD k default).k=1 then [] else [(k:Int)])
def refsV (l:List Ty):List Int:=refsL l l.length
theorem refsL_len (l:List Ty) (k:Nat):(refsL l k).length≤k:=by
 induction k with
 | zero=>simp [refsL]
 | succ k ih=>unfold refsL;split<;>simp<;>omega
/-- a kind that is 1 or at least 2 -/
def kOk (l:List Ty):Prop:=∀ i,i<l.length→(l.getD i default).k=1∨2≤(l.getD i default).k
theorem vRefs_any (l:List Ty) (o:Option Addr) (c:Nat) (w:World) (H:RowAt w o c l) (hk:kOk l) (hl:l.length≤1000000):Calls Tryz.prog 49 #[.slice o l.length c] w (RetRow w (refsV l)):=by
 have HL:=Lib.hid H
 have HK:=Lib.hid hk
 clear H hk
 obtain ⟨n,hn⟩:∃ n,n=l.length:=⟨_,rfl⟩
 rw [←hn] at hl ⊢
 have HN:=Lib.hid hn
 clear hn
 go_enter Tryz.func49,Tryz.ntmps49
 go_wp2_with fail
 go_loopw [3,8] (fun q i wr=>∃ (k:Nat) (ao:Option Addr) (cap:Nat),k≤n∧i=.int .i64 k∧q=.slice ao (refsL l k).length cap∧wr.ownsRow w.heap.size 3 1 (.slice ao (refsL l k).length cap) (refsL l k).length ((refsL l k).map (Value.int .i64))∧Below w.heap.size w wr) (fun _ i _=>n-(intOf i).toNat)
 case atStart=>exact ⟨0,none,0,by omega,rfl,rfl,World.ownsRow_nil _ _ _ _,Below.refl _ _⟩
 case round=>
  obtain ⟨k,ao,cap,hk,rfl,rfl,hown,hbl⟩:=hrel
  have hlen:=refsL_len l k
  by_cases hkl:k<n
  ·obtain ⟨ad,rfl,c0,c1⟩:=row_ty (HL.out.old hbl) (i:=k) (by rw [←HN.out];exact hkl)
   have hkk:=HK.out k (by rw [←HN.out];exact hkl)
   have HS:refsL l (k+1)=refsL l k++(if (l.getD k default).k=1 then [] else [(k:Int)]):=rfl
   generalize refsL l k=zs at hown hlen HS ⊢
   generalize l.getD k default=t at c0 c1 hkk HS
   obtain ⟨tk,tc⟩:=t
   dsimp only at c0 c1 hkk HS
   have hkl2:(k:Int) < n:=by omega
   have hwr:IntKind.i64.wrap ((k:Int)+1)=k+1:=IntWalk.i64_in _ (by omega)
   by_cases h1:tk=1
   ·rw [if_pos h1,List.append_nil] at HS
    subst h1
    have HS:=Lib.hid HS
    have HO:=Lib.hid hown
    have HB:=Lib.hid hbl
    clear hown hbl
    go_wp2
    go_roundw
    case rel=>exact ⟨k+1,ao,cap,by omega,by go_num,by rw [HS.out],by rw [HS.out];exact HO.out.alloc _,bal HB.out _⟩
    case measure=>simp [intOf];omega
   ·rw [if_neg h1] at HS
    have h2:tk ≥ 2:=by omega
    have HS:=Lib.hid HS
    clear hkk h1
    go_wp2_with (at_builtin;refine wpList_append_sl rfl (.tmp 16) (.tmp 18) 51 rfl w.heap.size 3 1 8 elIntV (.slice ao zs.length cap) zs.length (zs.map (Value.int .i64)) rfl ((hown.alloc _).alloc _) _ 1 1 [.int .i64 k] rfl (sla_blkV (Blk.new' #[.int .i64 k] 3 (by simp)) rfl) (by intro u hu;rw [List.mem_singleton.1 hu];rfl) (by omega) (by unfold maxLen;omega) (by have:=hbl.size;simp;omega) ?_;intro ao1 cap1 w10 hown9 hg9;have HO9:=Lib.hid hown9;have HB9:=Lib.hid (bgrown (bal (bal hbl _) _) hg9 (fun j hj=>(hown.lt j hj).1));clear hown9 hg9)
    go_roundw
    case rel=>
     have h9:=HO9.out
     refine ⟨k+1,ao1,cap1,by omega,by go_num,by rw [HS.out,List.length_append];rfl,?_,HB9.out⟩
     rw [HS.out,List.length_append,List.map_append]
     exact h9
    case measure=>simp [intOf];omega
  ·obtain rfl:k=n:=by omega
   rw [HN.out] at hown ⊢
   have HO:=Lib.hid hown
   have HB:=Lib.hid hbl
   clear hown hbl
   go_wp2
   go_ret
   exact ⟨⟨ao,cap,rfl,RowAt.of_own (by rw [flatR_int];exact HO.out)⟩,HB.out⟩
theorem rRefs_any (l:List Ty) (o:Option Addr) (c:Nat) (w:World) (H:RowAt w o c l) (hl:l.length≤1000000):Calls Tryz.prog 50 #[.slice o l.length c] w (RetRow w (refsV l)):=by
 have HL:=Lib.hid H
 clear H
 obtain ⟨n,hn⟩:∃ n,n=l.length:=⟨_,rfl⟩
 rw [←hn] at hl ⊢
 have HN:=Lib.hid hn
 clear hn
 go_enter Tryz.func50,Tryz.ntmps50
 go_wp2_with fail
 go_loopw [3,4] (fun q i wr=>∃ (k:Nat) (ao:Option Addr) (cap:Nat),k≤n∧i=.int .i64 k∧q=.slice ao (refsL l k).length cap∧wr.ownsRow w.heap.size 3 1 (.slice ao (refsL l k).length cap) (refsL l k).length ((refsL l k).map (Value.int .i64))∧Below w.heap.size w wr) (fun _ i _=>n-(intOf i).toNat)
 case atStart=>exact ⟨0,none,0,by omega,rfl,rfl,World.ownsRow_nil _ _ _ _,Below.refl _ _⟩
 case round=>
  obtain ⟨k,ao,cap,hk,rfl,rfl,hown,hbl⟩:=hrel
  have hlen:=refsL_len l k
  by_cases hkl:k<n
  ·obtain ⟨ad,rfl,c0,c1⟩:=row_ty (HL.out.old hbl) (i:=k) (by rw [←HN.out];exact hkl)
   have HS:refsL l (k+1)=refsL l k++(if (l.getD k default).k=1 then [] else [(k:Int)]):=rfl
   generalize refsL l k=zs at hown hlen HS ⊢
   generalize l.getD k default=t at c0 c1 HS
   obtain ⟨tk,tc⟩:=t
   dsimp only at c0 c1 HS
   have hkl2:(k:Int) < n:=by omega
   have hwr:IntKind.i64.wrap ((k:Int)+1)=k+1:=IntWalk.i64_in _ (by omega)
   by_cases h1:tk=1
   ·rw [if_pos h1,List.append_nil] at HS
    subst h1
    have HS:=Lib.hid HS
    have HO:=Lib.hid hown
    have HB:=Lib.hid hbl
    clear hown hbl
    go_wp2
    go_roundw
    case rel=>exact ⟨k+1,ao,cap,by omega,by go_num,by rw [HS.out],by rw [HS.out];exact HO.out,HB.out⟩
    case measure=>simp [intOf];omega
   ·rw [if_neg h1] at HS
    have h2:(tk != 1)=true:=by simpa using h1
    have HS:=Lib.hid HS
    clear h1
    go_wp2_with (at_builtin;refine wpList_append_sl rfl (.tmp 17) (.tmp 19) 51 rfl w.heap.size 3 1 8 elIntV (.slice ao zs.length cap) zs.length (zs.map (Value.int .i64)) rfl (hown.alloc _) _ 1 1 [.int .i64 k] rfl (sla_blkV (Blk.new' #[.int .i64 k] 3 (by simp)) rfl) (by intro u hu;rw [List.mem_singleton.1 hu];rfl) (by omega) (by unfold maxLen;omega) (by have:=hbl.size;simp;omega) ?_;intro ao1 cap1 w10 hown9 hg9;have HO9:=Lib.hid hown9;have HB9:=Lib.hid (bgrown (bal hbl _) hg9 (fun j hj=>(hown.lt j hj).1));clear hown9 hg9)
    go_roundw
    case rel=>
     have h9:=HO9.out
     refine ⟨k+1,ao1,cap1,by omega,by go_num,by rw [HS.out,List.length_append];rfl,?_,HB9.out⟩
     rw [HS.out,List.length_append,List.map_append]
     exact h9
    case measure=>simp [intOf];omega
  ·obtain rfl:k=n:=by omega
   rw [HN.out] at hown ⊢
   have HO:=Lib.hid hown
   have HB:=Lib.hid hbl
   clear hown hbl
   go_wp2
   go_ret
   exact ⟨⟨ao,cap,rfl,RowAt.of_own (by rw [flatR_int];exact HO.out)⟩,HB.out⟩
theorem ints6_any (l:List Int) (o o2:Option Addr) (c c2:Nat) (w:World) (H:RowAt w o c l) (H2:RowAt w o2 c2 l) (hl:l.length≤1000000):Calls Tryz.prog 25 #[.slice o l.length c,.slice o2 l.length c2] w (Ret w (.bool true)):=by
 obtain ⟨n,hn⟩:∃ n,n=l.length:=⟨_,rfl⟩
 have HN:=Lib.hid hn
 have HL:=Lib.hid H
 have HL2:=Lib.hid H2
 clear H H2
 rw [←hn] at hl ⊢
 clear hn
 go_enter Tryz.func25,Tryz.ntmps25
 go_wp2
 go_loopw [5] (fun i wr=>∃ k:Nat,k≤n∧i=.int .i64 k∧Below w.heap.size w wr) (fun i _=>n-(intOf i).toNat)
 case atStart=>exact ⟨0,by omega,rfl,Below.refl _ _⟩
 case round=>
  obtain ⟨k,hk,rfl,hbel⟩:=hrel
  have HB:=Lib.hid hbel
  by_cases hkl:k<n
  ·obtain ⟨ad,rfl,c0⟩:=row_int (HL.out.old hbel) (i:=k) (by rw [←HN.out];exact hkl)
   obtain ⟨ad2,rfl,c1⟩:=row_int (HL2.out.old hbel) (i:=k) (by rw [←HN.out];exact hkl)
   generalize l.getD k 0=x at c0 c1
   have hkn:(k:Int) < n:=by omega
   have hwr:IntKind.i64.wrap ((k:Int)+1)=k+1:=IntWalk.i64_in _ (by omega)
   have hS:∀ w',Below wr.heap.size wr w'→Cs [(ad.add k,.int .i64 x),(ad2.add k,.int .i64 x)] w':=fun w' hb'=>⟨cell_bel hb' c0,cell_bel hb' c1,trivial⟩
   have HS:=Lib.hid hS
   clear hS c0 c1 hbel
   go_upto_region 6 with fail
   refine rO (Cs [(ad.add k,.int .i64 x),(ad2.add k,.int .i64 x)]) (.plain 0 (.plain 1 (.plain 2 (.plain 3 (.plain 4 (.plain 5 (.plain 6 (.plain 7 (.plain 8 .done))))))))) (HS.out _ (Below.drew (Below.refl _ _))) ?_
   repeat refine pO ?_
   refine wpMixO_done ?_
   go_wp2
   go_roundw
   case rel=>exact ⟨k+1,by omega,by go_num,HB.out.drew⟩
   case measure=>simp [intOf];omega
  ·have hkn:¬ (k:Int) < n:=by omega
   go_wp2
   go_ret
   exact ret_ok rfl HB.out
end
section
open Go.RowKit
theorem passF_full (m:Md) (lo:List Ty) (r:Ty):∀ (l:List In3) (n:Nat) (s:Ps),(passF m lo r n l s).2.2=0→(passF m lo r n l s).1.length=l.length+1∧(passF m lo r n l s).2.1=0
 | [],n,s=>by
  unfold passF
  split
  ·exact fun _=>⟨rfl,rfl⟩
  ·exact fun h=>absurd h (by assumption)
 | i :: l,n,s=>by
  unfold passF
  split
  ·have a:=passF_full m lo r l (n+1) (stepV m lo i s).2
   dsimp only
   split
   ·rename_i h;exact fun _=>⟨by simp [(a h).1],rfl⟩
   ·rename_i h;exact fun h2=>absurd h2 h
  ·rename_i h;exact fun h2=>absurd h2 h
theorem passV_full {m:Md}{k:Nat} (h:(passV m k).2.2=0):(passV m k).1.length=(m.me.getD k default).k.length+1∧(passV m k).2.1=0:=passF_full m _ _ _ 0 _ h
theorem kOk_of {m:Md}{l:List Ty} (h:∀ t∈l,tyOk m t):kOk l:=fun i hi=>by have:=ty_kind (h _ (getD_mem default hi));omega
/-- P6.3's Roots -/
def rootsV (m:Md) (k p:Int):List Int × List Int × Int:=
 if pointV m k p=true then (if (passV m k.toNat).2.2=0 then (refsV (localsV (m.me.getD k.toNat default)),refsV ((passV m k.toNat).1.getD p.toNat []),0) else ([],[],(passV m k.toNat).2.2)) else ([],[],1)
def RetRR (W:World) (q:List Int × List Int × Int):Ending→World→Prop:=fun e w'=>∃ ao ac bo bc,e=.returned (.tuple #[.slice ao q.1.length ac,.slice bo q.2.1.length bc,.int .i64 q.2.2])∧RowAt w' ao ac q.1∧RowAt w' bo bc q.2.1∧Below W.heap.size W w'
theorem RetRR.no {W w':World} (h:Below W.heap.size W w') (e:Int):RetRR W ([],[],e) (.returned (.tuple #[.slice none 0 0,.slice none 0 0,.int .i64 e])) w':=⟨none,0,none,0,rfl,RowAt.nil _,RowAt.nil _,h⟩
theorem rootsV_small (m:Md) (k p:Int):(rootsV m k p).1.length≤1000000∧(rootsV m k p).2.1.length≤1000000:=by
 unfold rootsV
 split
 ·rename_i hq
  simp only [pointV,Bool.and_eq_true,inV,decide_eq_true_eq] at hq
  obtain ⟨⟨⟨hm,hk0,hk1⟩,hp0⟩,hp1⟩:=hq
  split
  ·rename_i he
   have h1:=locals_len hm (show k.toNat<m.me.length by omega)
   have h2:=(passV_full he).1
   have h3:=(methodV_small m k.toNat).1
   rw [methodV_in hm (by omega)] at h3
   have h4:=(h3 _ (getD_mem [] (show p.toNat<(passV m k.toNat).1.length by omega))).1
   have h5:=refsL_len (localsV (m.me.getD k.toNat default)) (localsV (m.me.getD k.toNat default)).length
   have h6:=refsL_len ((passV m k.toNat).1.getD p.toNat []) ((passV m k.toNat).1.getD p.toNat []).length
   exact ⟨by unfold refsV;dsimp only;omega,by unfold refsV;dsimp only;omega⟩
  ·simp
 ·simp
theorem vRoots_any (w:World) (h:Hd) (m:Md) (H:ModAt w h m) (k p:Int):Calls Tryz.prog 23 #[.agg #[.slice h.co m.cl.length h.cc,.slice h.so m.st.length h.sc,.slice h.eo m.me.length h.ec,.int .i64 m.sel],.int .i64 k,.int .i64 p] w (RetRR w (rootsV m k p)):=by
 obtain ⟨W0,hW0⟩:∃ W0,W0=w.alloc (.cells #[.slice h.co m.cl.length h.cc,.slice h.so m.st.length h.sc,.slice h.eo m.me.length h.ec,.int .i64 m.sel] 26):=⟨_,rfl⟩
 have hb0:Below w.heap.size w W0:=by rw [hW0];exact bE
 have x0:Blk W0 w.heap.size #[.slice h.co m.cl.length h.cc,.slice h.so m.st.length h.sc,.slice h.eo m.me.length h.ec,.int .i64 m.sel] 26:=by rw [hW0];exact Blk.new w _ _
 have HX:=Lib.hid (show ∀ w',Below W0.heap.size W0 w'→_ from fun w' hb=>blk4 (x0.old hb))
 have HI:=Lib.hid (is_any m h k W0 (H.old hb0))
 have HW:=Lib.hid hW0
 have HB0:=Lib.hid hb0
 have HM:=Lib.hid H
 clear x0 hW0 hb0 H
 cases hin:modV m&&inV m.me.length k
 ·rw [hin] at HI
  rw [show rootsV m k p=([],[],1) by unfold rootsV pointV;rw [if_neg];simp [hin]]
  go_enter Tryz.func23,Tryz.ntmps23
  go_upto_region 1 with fail
  rw [←HW.out]
  obtain ⟨c0,c1,c2,c3⟩:=HX.out _ (Below.refl _ _)
  go_wp2_with (go_at_call 33;refine HI.out.mono ?_;rintro r w1 ⟨rfl,hb1⟩)
  go_ret3
  exact RetRR.no (bthen HB0.out hb1) 1
 ·have hi2:=hin
  simp only [Bool.and_eq_true,inV,decide_eq_true_eq] at hi2
  obtain ⟨hmv,hk0,hk1⟩:=hi2
  obtain ⟨kk,rfl⟩:∃ d:Nat,k=d:=⟨k.toNat,by omega⟩
  have hkk:kk<m.me.length:=by omega
  have hkk2:(kk:Int) < m.me.length:=hk1
  have HMt:=Lib.hid (show ∀ w',Below w.heap.size w w'→_ from fun w' hb'=>(HM.out.old hb').mth hkk)
  obtain ⟨nc,hnc⟩:∃ n,n=(m.me.getD kk default).k.length:=⟨_,rfl⟩
  have hR:rootsV m kk p=if 0≤p∧p≤nc then (if (passV m kk).2.2=0 then (refsV (localsV (m.me.getD kk default)),refsV ((passV m kk).1.getD p.toNat []),0) else ([],[],(passV m kk).2.2)) else ([],[],1):=by
   unfold rootsV pointV
   rw [hin,Int.toNat_natCast,←hnc]
   simp
  rw [hR]
  have hfull:(passV m kk).2.2=0→(passV m kk).1.length=nc+1:=fun q=>by rw [hnc];exact (passV_full q).1
  have hsm:=(methodV_small m kk).1
  rw [methodV_in hmv hkk] at hsm
  have hper:=(passV_err m kk).1
  have hll:=locals_len hmv hkk
  have hlk:=kOk_of (own_neg hmv hkk)
  have hPk:∀ w',Below w.heap.size w w'→_:=fun w' hb'=>vMethod_any h m kk w' (HM.out.old hb') hmv hkk
  rw [hin] at HI
  have HLo:=Lib.hid (show ∀ w',Below w.heap.size w w'→_ from fun w' hb'=>lLocals_yes m h kk w' (HM.out.old hb') hmv hkk)
  clear hR hmv hin
  generalize localsV (m.me.getD kk default)=lo at HLo hll hlk ⊢
  generalize passV m kk=pv at hPk hfull hsm hper ⊢
  obtain ⟨sts,pl,er⟩:=pv
  dsimp only at hfull hsm hper ⊢
  have her1:(er == 1)=false:=by simpa using hper
  have HPk:=Lib.hid hPk
  have HNc:=Lib.hid hnc
  have HSm:=Lib.hid hsm
  have HFu:=Lib.hid hfull
  have HLk:=Lib.hid hlk
  clear hPk hnc hsm hfull hper hlk hk0 hk1
  obtain ⟨ea,heo,-⟩:=(HM.out).mth hkk
  have HEo:=Lib.hid heo
  clear heo
  obtain ⟨l,hl⟩:∃ l,l=sts.getD p.toNat []:=⟨_,rfl⟩
  rw [←hl]
  have HLe:=Lib.hid hl
  clear hl
  have hP:p<0∨(¬ p<0∧p > nc)∨(¬ p<0∧¬ p > nc∧er≠0)∨(¬ p<0∧¬ p > nc∧er=0):=by omega
  rcases hP with hp0|⟨hp0,hp1⟩|⟨hp0,hp1,he⟩|⟨hp0,hp1,rfl⟩
  all_goals
   go_enter Tryz.func23,Tryz.ntmps23
   go_upto_region 1 with fail
   rw [←HW.out]
   obtain ⟨c0,c1,c2,c3⟩:=HX.out _ (Below.refl _ _)
  ·rw [if_neg (by omega)]
   go_wp2_with (first|(go_at_call 34;have h9:=HPk.out _ (bthen HB0.out HB1.out);rw [HEo.out] at h9;refine h9.mono ?_;rintro r w2 ⟨⟨so,sc,rows,rfl,hs⟩,hb2⟩;have HS2:=Lib.hid hs;have HB2:=Lib.hid (bthen HB1.out hb2);clear hs hb2 h9 c0 c1 c2 c3;obtain ⟨c0,c1,c2,c3⟩:=HX.out _ HB2.out;rw [HEo.out] at c2)|(go_at_call 33;refine HI.out.mono ?_;rintro r w1 ⟨rfl,hb1⟩;have HB1:=Lib.hid hb1;clear hb1 c0 c1 c2 c3;obtain ⟨c0,c1,c2,c3⟩:=HX.out _ HB1.out;rw [HEo.out] at c2;obtain ⟨ea',heo,-,-,-,-,-,-,m6⟩:=HMt.out w1 (bthen HB0.out HB1.out);rw [HEo.out] at heo;cases heo;rw [←HNc.out] at m6)|(go_at_call 48;have h8:=HLo.out _ (bthen HB0.out HB2.out);rw [HEo.out] at h8;refine h8.mono ?_;rintro r w3 ⟨⟨lro,lrc,rfl,hown3⟩,hb3⟩;have HLo3:=Lib.hid (RowAt.of_own hown3);have HB3:=Lib.hid hb3;clear hown3 hb3 h8 c0 c1 c2 c3))
   go_ret3
   exact RetRR.no (bthen HB0.out HB1.out) 1
  ·rw [if_neg (by omega)]
   go_wp2_with (first|(go_at_call 34;have h9:=HPk.out _ (bthen HB0.out HB1.out);rw [HEo.out] at h9;refine h9.mono ?_;rintro r w2 ⟨⟨so,sc,rows,rfl,hs⟩,hb2⟩;have HS2:=Lib.hid hs;have HB2:=Lib.hid (bthen HB1.out hb2);clear hs hb2 h9 c0 c1 c2 c3;obtain ⟨c0,c1,c2,c3⟩:=HX.out _ HB2.out;rw [HEo.out] at c2)|(go_at_call 33;refine HI.out.mono ?_;rintro r w1 ⟨rfl,hb1⟩;have HB1:=Lib.hid hb1;clear hb1 c0 c1 c2 c3;obtain ⟨c0,c1,c2,c3⟩:=HX.out _ HB1.out;rw [HEo.out] at c2;obtain ⟨ea',heo,-,-,-,-,-,-,m6⟩:=HMt.out w1 (bthen HB0.out HB1.out);rw [HEo.out] at heo;cases heo;rw [←HNc.out] at m6)|(go_at_call 48;have h8:=HLo.out _ (bthen HB0.out HB2.out);rw [HEo.out] at h8;refine h8.mono ?_;rintro r w3 ⟨⟨lro,lrc,rfl,hown3⟩,hb3⟩;have HLo3:=Lib.hid (RowAt.of_own hown3);have HB3:=Lib.hid hb3;clear hown3 hb3 h8 c0 c1 c2 c3))
   go_ret3
   exact RetRR.no (bthen HB0.out HB1.out) 1
  ·rw [if_pos (by omega),if_neg he]
   have hn0:(er != 0)=true:=by simpa using he
   go_wp2_with (first|(go_at_call 34;have h9:=HPk.out _ (bthen HB0.out HB1.out);rw [HEo.out] at h9;refine h9.mono ?_;rintro r w2 ⟨⟨so,sc,rows,rfl,hs⟩,hb2⟩;have HS2:=Lib.hid hs;have HB2:=Lib.hid (bthen HB1.out hb2);clear hs hb2 h9 c0 c1 c2 c3;obtain ⟨c0,c1,c2,c3⟩:=HX.out _ HB2.out;rw [HEo.out] at c2)|(go_at_call 33;refine HI.out.mono ?_;rintro r w1 ⟨rfl,hb1⟩;have HB1:=Lib.hid hb1;clear hb1 c0 c1 c2 c3;obtain ⟨c0,c1,c2,c3⟩:=HX.out _ HB1.out;rw [HEo.out] at c2;obtain ⟨ea',heo,-,-,-,-,-,-,m6⟩:=HMt.out w1 (bthen HB0.out HB1.out);rw [HEo.out] at heo;cases heo;rw [←HNc.out] at m6)|(go_at_call 48;have h8:=HLo.out _ (bthen HB0.out HB2.out);rw [HEo.out] at h8;refine h8.mono ?_;rintro r w3 ⟨⟨lro,lrc,rfl,hown3⟩,hb3⟩;have HLo3:=Lib.hid (RowAt.of_own hown3);have HB3:=Lib.hid hb3;clear hown3 hb3 h8 c0 c1 c2 c3))
   go_ret3
   exact RetRR.no (bthen HB0.out HB2.out) er
  ·rw [if_pos (by omega)]
   try rw [if_pos rfl]
   obtain ⟨pp,rfl⟩:∃ d:Nat,p=d:=⟨p.toNat,by omega⟩
   have hl:=HLe.out
   rw [Int.toNat_natCast] at hl
   have HLe2:=Lib.hid hl
   clear hl
   go_upto_region 7 with (first|(go_at_call 34;have h9:=HPk.out _ (bthen HB0.out HB1.out);rw [HEo.out] at h9;refine h9.mono ?_;rintro r w2 ⟨⟨so,sc,rows,rfl,hs⟩,hb2⟩;have HS2:=Lib.hid hs;have HB2:=Lib.hid (bthen HB1.out hb2);clear hs hb2 h9 c0 c1 c2 c3;obtain ⟨c0,c1,c2,c3⟩:=HX.out _ HB2.out;rw [HEo.out] at c2)|(go_at_call 33;refine HI.out.mono ?_;rintro r w1 ⟨rfl,hb1⟩;have HB1:=Lib.hid hb1;clear hb1 c0 c1 c2 c3;obtain ⟨c0,c1,c2,c3⟩:=HX.out _ HB1.out;rw [HEo.out] at c2;obtain ⟨ea',heo,-,-,-,-,-,-,m6⟩:=HMt.out w1 (bthen HB0.out HB1.out);rw [HEo.out] at heo;cases heo;rw [←HNc.out] at m6)|(go_at_call 48;have h8:=HLo.out _ (bthen HB0.out HB2.out);rw [HEo.out] at h8;refine h8.mono ?_;rintro r w3 ⟨⟨lro,lrc,rfl,hown3⟩,hb3⟩;have HLo3:=Lib.hid (RowAt.of_own hown3);have HB3:=Lib.hid hb3;clear hown3 hb3 h8 c0 c1 c2 c3))
   obtain ⟨hgn,hga⟩:=HS2.out.at_ pp (by rw [HS2.out.len,HFu.out (by simp)];omega)
   obtain ⟨ad,rfl,d0⟩:=row_sh (RowAt.of_own HS2.out.own) (i:=pp) (by rw [HS2.out.len,HFu.out (by simp)];omega)
   have hlr:(pp:Int) < rows.length:=by rw [HS2.out.len,HFu.out (by simp)];omega
   have hst:=HSm.out _ (getD_mem [] (show pp<sts.length by rw [HFu.out (by simp)];omega))
   rw [←HLe2.out] at hgn hga hst
   generalize rows.getD pp default=x at d0 hgn hga
   obtain ⟨xo,xn,xc⟩:=x
   dsimp only at d0 hgn hga
   subst hgn
   have hkl:=kOk_of hst.2
   have HGa:=Lib.hid (hga.1.old HB3.out)
   have HKl:=Lib.hid hkl
   have HS:=Lib.hid (show ∀ w',Below w3.heap.size w3 w'→Cs [(ad.add pp,.slice xo l.length xc)] w' from fun w' hb'=>⟨cell_bel (bthen HB3.out hb') d0,trivial⟩)
   have hll2:l.length≤1000000:=by have:=hst.1;omega
   clear hga hkl d0 hst
   refine rO (Cs [(ad.add pp,.slice xo l.length xc)]) (.plain 0 (.plain 2 (.plain 3 (.plain 4 (.plain 5 (.one 1 (.one 6 (.plain 7 (.plain 8 (.plain 9 .done)))))))))) (HS.out _ (Below.drew (Below.refl _ _))) ?_
   repeat refine pO ?_
   refine oO fun Kv hK=>?_
   go_simp
   refine (vRefs_any lo _ _ _ (HLo3.out.old (Below.drew (Below.refl _ _))) HLk.out (by omega)).mono ?_
   rintro r w4 ⟨⟨ro,rc,rfl,hr4⟩,hb4⟩
   have HB4:=Lib.hid (show Below w3.heap.size w3 w4 from bthen (Below.drew (Below.refl _ _)) hb4)
   refine hK _ _ ⟨HS.out _ HB4.out,?_⟩
   clear hK Kv hb4
   repeat refine pO ?_
   refine oO fun Kv hK=>?_
   go_simp
   refine (vRefs_any l _ _ _ (HGa.out.old HB4.out) HKl.out hll2).mono ?_
   rintro r w5 ⟨⟨ro2,rc2,rfl,hr5⟩,hb5⟩
   refine hK _ _ ⟨HS.out _ (bthen HB4.out hb5),?_⟩
   clear hK Kv
   repeat refine pO ?_
   refine wpMixO_done ?_
   go_wp2
   go_ret3
   exact ⟨ro,rc,ro2,rc2,rfl,hr4.old hb5,hr5,bthen HB0.out (bthen HB2.out (bthen HB3.out (bthen HB4.out hb5)))⟩
theorem rRoots_any (w:World) (h:Hd) (m:Md) (H:ModAt w h m) (k p:Int):Calls Tryz.prog 24 #[.agg #[.slice h.co m.cl.length h.cc,.slice h.so m.st.length h.sc,.slice h.eo m.me.length h.ec,.int .i64 m.sel],.int .i64 k,.int .i64 p] w (RetRR w (rootsV m k p)):=by
 obtain ⟨W0,hW0⟩:∃ W0,W0=w.alloc (.cells #[.slice h.co m.cl.length h.cc,.slice h.so m.st.length h.sc,.slice h.eo m.me.length h.ec,.int .i64 m.sel] 26):=⟨_,rfl⟩
 have hb0:Below w.heap.size w W0:=by rw [hW0];exact bE
 have x0:Blk W0 w.heap.size #[.slice h.co m.cl.length h.cc,.slice h.so m.st.length h.sc,.slice h.eo m.me.length h.ec,.int .i64 m.sel] 26:=by rw [hW0];exact Blk.new w _ _
 have HX:=Lib.hid (show ∀ w',Below W0.heap.size W0 w'→_ from fun w' hb=>blk4 (x0.old hb))
 have HI:=Lib.hid (rMeth6_any h m k W0 (H.old hb0))
 have HW:=Lib.hid hW0
 have HB0:=Lib.hid hb0
 have HM:=Lib.hid H
 clear x0 hW0 hb0 H
 cases hin:modV m&&inV m.me.length k
 ·rw [methodV_no hin] at HI
  rw [show rootsV m k p=([],[],1) by unfold rootsV pointV;rw [if_neg];simp [hin]]
  go_enter Tryz.func24,Tryz.ntmps24
  go_upto_region 1 with fail
  rw [←HW.out]
  obtain ⟨c0,c1,c2,c3⟩:=HX.out _ (Below.refl _ _)
  go_wp2_with (go_at_call 12;refine HI.out.mono ?_;rintro r w1 ⟨⟨so,sc,rows,rfl,hs⟩,hb1⟩)
  go_ret3
  exact RetRR.no (bthen HB0.out hb1) 1
 ·have hi2:=hin
  simp only [Bool.and_eq_true,inV,decide_eq_true_eq] at hi2
  obtain ⟨hmv,hk0,hk1⟩:=hi2
  obtain ⟨kk,rfl⟩:∃ d:Nat,k=d:=⟨k.toNat,by omega⟩
  have hkk:kk<m.me.length:=by omega
  have hkk2:(kk:Int) < m.me.length:=hk1
  have HMt:=Lib.hid (show ∀ w',Below w.heap.size w w'→_ from fun w' hb'=>(HM.out.old hb').mth hkk)
  obtain ⟨nc,hnc⟩:∃ n,n=(m.me.getD kk default).k.length:=⟨_,rfl⟩
  have hR:rootsV m kk p=if 0≤p∧p≤nc then (if (passV m kk).2.2=0 then (refsV (localsV (m.me.getD kk default)),refsV ((passV m kk).1.getD p.toNat []),0) else ([],[],(passV m kk).2.2)) else ([],[],1):=by
   unfold rootsV pointV
   rw [hin,Int.toNat_natCast,←hnc]
   simp
  rw [hR]
  have hfull:(passV m kk).2.2=0→(passV m kk).1.length=nc+1:=fun q=>by rw [hnc];exact (passV_full q).1
  have hsm:=(methodV_small m kk).1
  rw [methodV_in hmv hkk] at hsm
  have hper:=(passV_err m kk).1
  have hll:=locals_len hmv hkk
  have hlk:=kOk_of (own_neg hmv hkk)
  rw [methodV_in hmv hkk] at HI
  have HLo:=Lib.hid (show ∀ w',Below w.heap.size w w'→_ from fun w' hb'=>rLocals_yes m h kk w' (HM.out.old hb') hmv hkk)
  clear hR hmv hin
  generalize localsV (m.me.getD kk default)=lo at HLo hll hlk ⊢
  generalize passV m kk=pv at HI hfull hsm hper ⊢
  obtain ⟨sts,pl,er⟩:=pv
  dsimp only at hfull hsm hper ⊢
  have her1:(er == 1)=false:=by simpa using hper
  have HNc:=Lib.hid hnc
  have HSm:=Lib.hid hsm
  have HFu:=Lib.hid hfull
  have HLk:=Lib.hid hlk
  clear hnc hsm hfull hper hlk hk0 hk1
  obtain ⟨ea,heo,-⟩:=(HM.out).mth hkk
  have HEo:=Lib.hid heo
  clear heo
  obtain ⟨l,hl⟩:∃ l,l=sts.getD p.toNat []:=⟨_,rfl⟩
  rw [←hl]
  have HLe:=Lib.hid hl
  clear hl
  have hP:p<0∨(¬ p<0∧p > nc)∨(¬ p<0∧¬ p > nc∧er≠0)∨(¬ p<0∧¬ p > nc∧er=0):=by omega
  rcases hP with hp0|⟨hp0,hp1⟩|⟨hp0,hp1,he⟩|⟨hp0,hp1,rfl⟩
  all_goals
   go_enter Tryz.func24,Tryz.ntmps24
   go_upto_region 1 with fail
   rw [←HW.out]
   obtain ⟨c0,c1,c2,c3⟩:=HX.out _ (Below.refl _ _)
  ·rw [if_neg (by omega)]
   go_wp2_with (first|(go_at_call 12;refine HI.out.mono ?_;rintro r w1 ⟨⟨so,sc,rows,rfl,hs⟩,hb1⟩;have HS2:=Lib.hid hs;have HB1:=Lib.hid hb1;have HB2:=HB1;clear hs hb1 c0 c1 c2 c3;obtain ⟨c0,c1,c2,c3⟩:=HX.out _ HB1.out;rw [HEo.out] at c2;obtain ⟨ea',heo,-,-,-,-,-,-,m6⟩:=HMt.out w1 (bthen HB0.out HB1.out);rw [HEo.out] at heo;cases heo;rw [←HNc.out] at m6)|(go_at_call 31;have h8:=HLo.out _ (bthen HB0.out HB2.out);rw [HEo.out] at h8;refine h8.mono ?_;rintro r w3 ⟨⟨lro,lrc,rfl,hown3⟩,hb3⟩;have HLo3:=Lib.hid (RowAt.of_own hown3);have HB3:=Lib.hid hb3;clear hown3 hb3 h8 c0 c1 c2 c3))
   go_ret3
   exact RetRR.no (bthen HB0.out HB1.out) 1
  ·rw [if_neg (by omega)]
   go_wp2_with (first|(go_at_call 12;refine HI.out.mono ?_;rintro r w1 ⟨⟨so,sc,rows,rfl,hs⟩,hb1⟩;have HS2:=Lib.hid hs;have HB1:=Lib.hid hb1;have HB2:=HB1;clear hs hb1 c0 c1 c2 c3;obtain ⟨c0,c1,c2,c3⟩:=HX.out _ HB1.out;rw [HEo.out] at c2;obtain ⟨ea',heo,-,-,-,-,-,-,m6⟩:=HMt.out w1 (bthen HB0.out HB1.out);rw [HEo.out] at heo;cases heo;rw [←HNc.out] at m6)|(go_at_call 31;have h8:=HLo.out _ (bthen HB0.out HB2.out);rw [HEo.out] at h8;refine h8.mono ?_;rintro r w3 ⟨⟨lro,lrc,rfl,hown3⟩,hb3⟩;have HLo3:=Lib.hid (RowAt.of_own hown3);have HB3:=Lib.hid hb3;clear hown3 hb3 h8 c0 c1 c2 c3))
   go_ret3
   exact RetRR.no (bthen HB0.out HB1.out) 1
  ·rw [if_pos (by omega),if_neg he]
   have hn0:(er != 0)=true:=by simpa using he
   go_wp2_with (first|(go_at_call 12;refine HI.out.mono ?_;rintro r w1 ⟨⟨so,sc,rows,rfl,hs⟩,hb1⟩;have HS2:=Lib.hid hs;have HB1:=Lib.hid hb1;have HB2:=HB1;clear hs hb1 c0 c1 c2 c3;obtain ⟨c0,c1,c2,c3⟩:=HX.out _ HB1.out;rw [HEo.out] at c2;obtain ⟨ea',heo,-,-,-,-,-,-,m6⟩:=HMt.out w1 (bthen HB0.out HB1.out);rw [HEo.out] at heo;cases heo;rw [←HNc.out] at m6)|(go_at_call 31;have h8:=HLo.out _ (bthen HB0.out HB2.out);rw [HEo.out] at h8;refine h8.mono ?_;rintro r w3 ⟨⟨lro,lrc,rfl,hown3⟩,hb3⟩;have HLo3:=Lib.hid (RowAt.of_own hown3);have HB3:=Lib.hid hb3;clear hown3 hb3 h8 c0 c1 c2 c3))
   go_ret3
   exact RetRR.no (bthen HB0.out HB2.out) er
  ·rw [if_pos (by omega)]
   try rw [if_pos rfl]
   obtain ⟨pp,rfl⟩:∃ d:Nat,p=d:=⟨p.toNat,by omega⟩
   have hl:=HLe.out
   rw [Int.toNat_natCast] at hl
   have HLe2:=Lib.hid hl
   clear hl
   go_upto_region 7 with (first|(go_at_call 12;refine HI.out.mono ?_;rintro r w1 ⟨⟨so,sc,rows,rfl,hs⟩,hb1⟩;have HS2:=Lib.hid hs;have HB1:=Lib.hid hb1;have HB2:=HB1;clear hs hb1 c0 c1 c2 c3;obtain ⟨c0,c1,c2,c3⟩:=HX.out _ HB1.out;rw [HEo.out] at c2;obtain ⟨ea',heo,-,-,-,-,-,-,m6⟩:=HMt.out w1 (bthen HB0.out HB1.out);rw [HEo.out] at heo;cases heo;rw [←HNc.out] at m6)|(go_at_call 31;have h8:=HLo.out _ (bthen HB0.out HB2.out);rw [HEo.out] at h8;refine h8.mono ?_;rintro r w3 ⟨⟨lro,lrc,rfl,hown3⟩,hb3⟩;have HLo3:=Lib.hid (RowAt.of_own hown3);have HB3:=Lib.hid hb3;clear hown3 hb3 h8 c0 c1 c2 c3))
   obtain ⟨hgn,hga⟩:=HS2.out.at_ pp (by rw [HS2.out.len,HFu.out (by simp)];omega)
   obtain ⟨ad,rfl,d0⟩:=row_sh (RowAt.of_own HS2.out.own) (i:=pp) (by rw [HS2.out.len,HFu.out (by simp)];omega)
   have hlr:(pp:Int) < rows.length:=by rw [HS2.out.len,HFu.out (by simp)];omega
   have hst:=HSm.out _ (getD_mem [] (show pp<sts.length by rw [HFu.out (by simp)];omega))
   rw [←HLe2.out] at hgn hga hst
   generalize rows.getD pp default=x at d0 hgn hga
   obtain ⟨xo,xn,xc⟩:=x
   dsimp only at d0 hgn hga
   subst hgn
   have hkl:=kOk_of hst.2
   have HGa:=Lib.hid (hga.1.old HB3.out)
   have HKl:=Lib.hid hkl
   have HS:=Lib.hid (show ∀ w',Below w3.heap.size w3 w'→Cs [(ad.add pp,.slice xo l.length xc)] w' from fun w' hb'=>⟨cell_bel (bthen HB3.out hb') d0,trivial⟩)
   have hll2:l.length≤1000000:=by have:=hst.1;omega
   clear hga hkl d0 hst
   refine rO (Cs [(ad.add pp,.slice xo l.length xc)]) (.plain 0 (.plain 2 (.plain 3 (.plain 4 (.plain 5 (.one 1 (.one 6 (.plain 7 (.plain 8 (.plain 9 .done)))))))))) (HS.out _ (Below.drew (Below.refl _ _))) ?_
   repeat refine pO ?_
   refine oO fun Kv hK=>?_
   go_simp
   refine (rRefs_any lo _ _ _ (HLo3.out.old (Below.drew (Below.refl _ _))) (by omega)).mono ?_
   rintro r w4 ⟨⟨ro,rc,rfl,hr4⟩,hb4⟩
   have HB4:=Lib.hid (show Below w3.heap.size w3 w4 from bthen (Below.drew (Below.refl _ _)) hb4)
   refine hK _ _ ⟨HS.out _ HB4.out,?_⟩
   clear hK Kv hb4
   repeat refine pO ?_
   refine oO fun Kv hK=>?_
   go_simp
   refine (rRefs_any l _ _ _ (HGa.out.old HB4.out) hll2).mono ?_
   rintro r w5 ⟨⟨ro2,rc2,rfl,hr5⟩,hb5⟩
   refine hK _ _ ⟨HS.out _ (bthen HB4.out hb5),?_⟩
   clear hK Kv
   repeat refine pO ?_
   refine wpMixO_done ?_
   go_wp2
   go_ret3
   exact ⟨ro,rc,ro2,rc2,rfl,hr4.old hb5,hr5,bthen HB0.out (bthen HB2.out (bthen HB3.out (bthen HB4.out hb5)))⟩
end
section
open Go.RowKit
theorem lawRoots_any (W:World) (h:Hd) (m:Md) (H:ModAt W h m) (k p:Int):Calls Tryz.prog 8 #[.agg #[.slice h.co m.cl.length h.cc,.slice h.so m.st.length h.sc,.slice h.eo m.me.length h.ec,.int .i64 m.sel],.int .i64 k,.int .i64 p] W (Ret W (.bool true)):=by
 obtain ⟨W0,hW0⟩:∃ W0,W0=W.alloc (.cells #[.slice h.co m.cl.length h.cc,.slice h.so m.st.length h.sc,.slice h.eo m.me.length h.ec,.int .i64 m.sel] 26):=⟨_,rfl⟩
 have hb0:Below W.heap.size W W0:=by rw [hW0];exact bE
 have x0:Blk W0 W.heap.size #[.slice h.co m.cl.length h.cc,.slice h.so m.st.length h.sc,.slice h.eo m.me.length h.ec,.int .i64 m.sel] 26:=by rw [hW0];exact Blk.new W _ _
 have HX:=Lib.hid (show ∀ w',Below W0.heap.size W0 w'→_ from fun w' hb=>blk4 (x0.old hb))
 have h1:∀ w',Below W0.heap.size W0 w'→_:=fun w' hb'=>vRoots_any w' h m (H.old (bthen hb0 hb')) k p
 have h2:∀ w',Below W0.heap.size W0 w'→_:=fun w' hb'=>rRoots_any w' h m (H.old (bthen hb0 hb')) k p
 have hsm:=rootsV_small m k p
 generalize rootsV m k p=q at h1 h2 hsm
 obtain ⟨ra,rb,er⟩:=q
 obtain ⟨hs1,hs2⟩:=hsm
 dsimp only at hs1 hs2
 have H1:=Lib.hid h1
 have H2:=Lib.hid h2
 have HW:=Lib.hid hW0
 have HB0:=Lib.hid hb0
 clear h1 h2 x0 hW0 hb0 H
 go_enter Tryz.func8,Tryz.ntmps8
 go_upto_region 1 with fail
 rw [←HW.out]
 obtain ⟨c0,c1,c2,c3⟩:=HX.out _ (Below.refl _ _)
 go_wp2_with (first
  | (go_at_call 23;refine (H1.out _ (Below.refl _ _)).mono ?_;rintro r w1 ⟨ao,ac,bo,bc,rfl,ha,hb,hb1⟩;have HA1:=Lib.hid ha;have HA2:=Lib.hid hb;have HB1:=Lib.hid hb1;clear ha hb hb1 c0 c1 c2 c3;obtain ⟨c0,c1,c2,c3⟩:=HX.out _ HB1.out)
  | (go_at_call 24;refine (H2.out _ HB1.out).mono ?_;rintro r w2 ⟨ao2,ac2,bo2,bc2,rfl,ha,hb,hb2⟩;have HA3:=Lib.hid ha;have HA4:=Lib.hid hb;have HB2:=Lib.hid hb2;clear ha hb hb2)
  | (go_at_call 25;refine (ints6_any rb _ _ _ _ _ (HA2.out.old (bthen HB2.out HB3.out)) (HA4.out.old HB3.out) hs2).mono ?_;rintro r w4 ⟨rfl,hb4⟩;have HB4:=Lib.hid hb4;clear hb4)
  | (go_at_call 25;refine (ints6_any ra _ _ _ _ _ (HA1.out.old HB2.out) HA3.out hs1).mono ?_;rintro r w3 ⟨rfl,hb3⟩;have HB3:=Lib.hid hb3;clear hb3)
  | (go_at_call 14;refine (sane6_any _).mono ?_;rintro r w5 ⟨rfl,hb5⟩))
 go_ret
 exact ret_ok rfl (bthen HB0.out (bthen HB1.out (bthen HB2.out (bthen HB3.out (bthen HB4.out hb5)))))
end
section
open Go.RowKit
/-- the greatest height of the first k stacks -/
def hiL (s:List (List Ty)):Nat→Nat
 | 0=>0
 | k+1=>max (hiL s k) (s.getD k []).length
def highV (m:Md) (k:Int):Int × Int:=if (methodV m k).2.2=0 then ((hiL (methodV m k).1 (methodV m k).1.length:Int),0) else (0,(methodV m k).2.2)
theorem hiL_le (s:List (List Ty)) (b:Nat) (h:∀ i,i<s.length→(s.getD i []).length≤b):∀ k,k≤s.length→hiL s k≤b
 | 0,_=>Nat.zero_le _
 | k+1,hk=>Nat.max_le.2 ⟨hiL_le s b h k (by omega),h k (by omega)⟩
theorem highV_le (m:Md) (k:Int):(highV m k).1≤12:=by
 unfold highV
 split
 ·have:=hiL_le (methodV m k).1 12 (fun i hi=>((methodV_small m k).1 _ (getD_mem [] hi)).1) (methodV m k).1.length (Nat.le_refl _)
  dsimp only
  omega
 ·simp
theorem vHigh_any (w:World) (h:Hd) (m:Md) (H:ModAt w h m) (k:Int):Calls Tryz.prog 26 #[.agg #[.slice h.co m.cl.length h.cc,.slice h.so m.st.length h.sc,.slice h.eo m.me.length h.ec,.int .i64 m.sel],.int .i64 k] w (Ret2 w (.int .i64 (highV m k).1) (.int .i64 (highV m k).2)):=by
 obtain ⟨W0,hW0⟩:∃ W0,W0=w.alloc (.cells #[.slice h.co m.cl.length h.cc,.slice h.so m.st.length h.sc,.slice h.eo m.me.length h.ec,.int .i64 m.sel] 26):=⟨_,rfl⟩
 have hb0:Below w.heap.size w W0:=by rw [hW0];exact bE
 have x0:Blk W0 w.heap.size #[.slice h.co m.cl.length h.cc,.slice h.so m.st.length h.sc,.slice h.eo m.me.length h.ec,.int .i64 m.sel] 26:=by rw [hW0];exact Blk.new w _ _
 have HX:=Lib.hid (show ∀ w',Below W0.heap.size W0 w'→_ from fun w' hb=>blk4 (x0.old hb))
 have hI:=vMeth_any h m k W0 (H.old hb0)
 have hv:highV m k=if (methodV m k).2.2=0 then ((hiL (methodV m k).1 (methodV m k).1.length:Int),0) else (0,(methodV m k).2.2):=rfl
 have hsm:=(methodV_small m k).2
 generalize methodV m k=q at hI hv hsm
 obtain ⟨sts,pl,er⟩:=q
 dsimp only at hv hsm
 rw [hv]
 obtain ⟨n,hn⟩:∃ n,n=sts.length:=⟨_,rfl⟩
 rw [←hn] at hsm ⊢
 have HI:=Lib.hid hI
 have HW:=Lib.hid hW0
 have HB0:=Lib.hid hb0
 have HN:=Lib.hid hn
 clear x0 hW0 hb0 H hI hv hn
 by_cases he:er=0
 ·subst he
  rw [if_pos rfl]
  go_enter Tryz.func26,Tryz.ntmps26
  go_upto_region 1 with fail
  rw [←HW.out]
  obtain ⟨c0,c1,c2,c3⟩:=HX.out _ (Below.refl _ _)
  go_wp2_with (go_at_call 11;refine HI.out.mono ?_;rintro r w1 ⟨⟨so,sc,rows,rfl,hs⟩,hb1⟩;have hrl:=hs.len;rw [←HN.out] at hrl;have HS1:=Lib.hid hs;have HB1:=Lib.hid hb1;clear hs hb1 c0 c1 c2 c3)
  go_loopw [9,24] (fun s i wr=>∃ k:Nat,k≤n∧s=.int .i64 (hiL sts k)∧i=.int .i64 k∧Below w1.heap.size w1 wr) (fun _ i _=>n-(intOf i).toNat)
  case atStart=>exact ⟨0,by omega,rfl,rfl,Below.refl _ _⟩
  case round=>
   obtain ⟨k,hk,rfl,rfl,hbel⟩:=hrel
   have HL:=Lib.hid hbel
   clear hbel
   by_cases hkl:k<n
   ·have hA:=HS1.out.old HL.out
    have hkn:(k:Int) < rows.length:=by omega
    have hwr:IntKind.i64.wrap ((k:Int)+1)=k+1:=IntWalk.i64_in _ (by omega)
    have ha:=(hA.at_ k (by omega)).1
    obtain ⟨ad,rfl,x0⟩:=row_sh (RowAt.of_own hA.own) (i:=k) (by omega)
    have hst:hiL sts (k+1)=max (hiL sts k) (sts.getD k []).length:=rfl
    generalize sts.getD k []=l at ha hst
    generalize rows.getD k default=x at x0 ha
    obtain ⟨xo,xn,xc⟩:=x
    dsimp only at x0 ha
    subst ha
    have HSt:=Lib.hid hst
    clear hst hA
    go_wp2
    go_roundw
    case rel=>exact ⟨k+1,by omega,by rw [HSt.out];simp;omega,by go_num,HL.out⟩
    case measure=>simp [intOf];omega
   ·have hkn:¬ (k:Int) < rows.length:=by omega
    obtain rfl:k=n:=by omega
    go_wp2
    go_ret2
    exact ret2_ok rfl rfl (bthen HB0.out (bthen HB1.out HL.out))
 ·rw [if_neg he]
  have hn0:(er != 0)=true:=by simpa using he
  go_enter Tryz.func26,Tryz.ntmps26
  go_upto_region 1 with fail
  rw [←HW.out]
  obtain ⟨c0,c1,c2,c3⟩:=HX.out _ (Below.refl _ _)
  go_wp2_with (go_at_call 11;refine HI.out.mono ?_;rintro r w1 ⟨⟨so,sc,rows,rfl,hs⟩,hb1⟩)
  go_ret2
  exact ret2_ok rfl rfl (bthen HB0.out hb1)
theorem rHigh_any (w:World) (h:Hd) (m:Md) (H:ModAt w h m) (k:Int):Calls Tryz.prog 27 #[.agg #[.slice h.co m.cl.length h.cc,.slice h.so m.st.length h.sc,.slice h.eo m.me.length h.ec,.int .i64 m.sel],.int .i64 k] w (Ret2 w (.int .i64 (highV m k).1) (.int .i64 (highV m k).2)):=by
 obtain ⟨W0,hW0⟩:∃ W0,W0=w.alloc (.cells #[.slice h.co m.cl.length h.cc,.slice h.so m.st.length h.sc,.slice h.eo m.me.length h.ec,.int .i64 m.sel] 26):=⟨_,rfl⟩
 have hb0:Below w.heap.size w W0:=by rw [hW0];exact bE
 have x0:Blk W0 w.heap.size #[.slice h.co m.cl.length h.cc,.slice h.so m.st.length h.sc,.slice h.eo m.me.length h.ec,.int .i64 m.sel] 26:=by rw [hW0];exact Blk.new w _ _
 have HX:=Lib.hid (show ∀ w',Below W0.heap.size W0 w'→_ from fun w' hb=>blk4 (x0.old hb))
 have hI:=rMeth6_any h m k W0 (H.old hb0)
 have hv:highV m k=if (methodV m k).2.2=0 then ((hiL (methodV m k).1 (methodV m k).1.length:Int),0) else (0,(methodV m k).2.2):=rfl
 have hsm:=(methodV_small m k).2
 generalize methodV m k=q at hI hv hsm
 obtain ⟨sts,pl,er⟩:=q
 dsimp only at hv hsm
 rw [hv]
 obtain ⟨n,hn⟩:∃ n,n=sts.length:=⟨_,rfl⟩
 rw [←hn] at hsm ⊢
 have HI:=Lib.hid hI
 have HW:=Lib.hid hW0
 have HB0:=Lib.hid hb0
 have HN:=Lib.hid hn
 clear x0 hW0 hb0 H hI hv hn
 by_cases he:er=0
 ·subst he
  rw [if_pos rfl]
  go_enter Tryz.func27,Tryz.ntmps27
  go_upto_region 1 with fail
  rw [←HW.out]
  obtain ⟨c0,c1,c2,c3⟩:=HX.out _ (Below.refl _ _)
  go_wp2_with (go_at_call 12;refine HI.out.mono ?_;rintro r w1 ⟨⟨so,sc,rows,rfl,hs⟩,hb1⟩;have hrl:=hs.len;rw [←HN.out] at hrl;have HS1:=Lib.hid hs;have HB1:=Lib.hid hb1;clear hs hb1 c0 c1 c2 c3)
  go_loopw [9,10] (fun s i wr=>∃ k:Nat,k≤n∧s=.int .i64 (hiL sts k)∧i=.int .i64 k∧Below w1.heap.size w1 wr) (fun _ i _=>n-(intOf i).toNat)
  case atStart=>exact ⟨0,by omega,rfl,rfl,Below.refl _ _⟩
  case round=>
   obtain ⟨k,hk,rfl,rfl,hbel⟩:=hrel
   have HL:=Lib.hid hbel
   clear hbel
   by_cases hkl:k<n
   ·have hA:=HS1.out.old HL.out
    have hkn:(k:Int) < rows.length:=by omega
    have hwr:IntKind.i64.wrap ((k:Int)+1)=k+1:=IntWalk.i64_in _ (by omega)
    have ha:=(hA.at_ k (by omega)).1
    obtain ⟨ad,rfl,x0⟩:=row_sh (RowAt.of_own hA.own) (i:=k) (by omega)
    have hst:hiL sts (k+1)=max (hiL sts k) (sts.getD k []).length:=rfl
    generalize sts.getD k []=l at ha hst
    generalize rows.getD k default=x at x0 ha
    obtain ⟨xo,xn,xc⟩:=x
    dsimp only at x0 ha
    subst ha
    have HSt:=Lib.hid hst
    clear hst hA
    go_wp2
    go_roundw
    case rel=>exact ⟨k+1,by omega,by rw [HSt.out];simp;omega,by go_num,HL.out⟩
    case measure=>simp [intOf];omega
   ·have hkn:¬ (k:Int) < rows.length:=by omega
    obtain rfl:k=n:=by omega
    go_wp2
    go_ret2
    exact ret2_ok rfl rfl (bthen HB0.out (bthen HB1.out HL.out))
 ·rw [if_neg he]
  have hn0:(er != 0)=true:=by simpa using he
  go_enter Tryz.func27,Tryz.ntmps27
  go_upto_region 1 with fail
  rw [←HW.out]
  obtain ⟨c0,c1,c2,c3⟩:=HX.out _ (Below.refl _ _)
  go_wp2_with (go_at_call 12;refine HI.out.mono ?_;rintro r w1 ⟨⟨so,sc,rows,rfl,hs⟩,hb1⟩)
  go_ret2
  exact ret2_ok rfl rfl (bthen HB0.out hb1)
/-- P6.3's Signature -/
def sigV (m:Md) (k:Int):List Ty × Ty × Int:=if (modV m&&inV m.me.length k)=true then ((if 0≤(m.me.getD k.toNat default).c then [⟨2,(m.me.getD k.toNat default).c⟩] else [])++(m.me.getD k.toNat default).p,(m.me.getD k.toNat default).r,0) else ([],⟨0,0⟩,1)
def RetSg (W:World) (q:List Ty × Ty × Int):Ending→World→Prop:=fun e w'=>∃ ao ac,e=.returned (.tuple #[.slice ao q.1.length ac,.agg #[.int .i64 q.2.1.k,.int .i64 q.2.1.c],.int .i64 q.2.2])∧RowAt w' ao ac q.1∧Below W.heap.size W w'
theorem vSig_any (w:World) (h:Hd) (m:Md) (H:ModAt w h m) (k:Int):Calls Tryz.prog 28 #[.agg #[.slice h.co m.cl.length h.cc,.slice h.so m.st.length h.sc,.slice h.eo m.me.length h.ec,.int .i64 m.sel],.int .i64 k] w (RetSg w (sigV m k)):=by
 obtain ⟨W0,hW0⟩:∃ W0,W0=(w.alloc (.cells #[.slice h.co m.cl.length h.cc,.slice h.so m.st.length h.sc,.slice h.eo m.me.length h.ec,.int .i64 m.sel] 26)).alloc (.cells #[.int .i64 0,.int .i64 0] 38):=⟨_,rfl⟩
 have hb0:Below w.heap.size w W0:=by rw [hW0];exact bE
 have x0:Blk W0 w.heap.size #[.slice h.co m.cl.length h.cc,.slice h.so m.st.length h.sc,.slice h.eo m.me.length h.ec,.int .i64 m.sel] 26:=by rw [hW0];exact (Blk.new w _ _).alloc _
 have z0:Blk W0 (w.heap.size+1) #[.int .i64 0,.int .i64 0] 38:=by rw [hW0];exact Blk.new' (w:=w.alloc (.cells #[.slice h.co m.cl.length h.cc,.slice h.so m.st.length h.sc,.slice h.eo m.me.length h.ec,.int .i64 m.sel] 26)) _ _ (by simp)
 have HSz:=Lib.hid (show W0.heap.size=w.heap.size+2 by rw [hW0];simp)
 have HX:=Lib.hid (show ∀ w',Below W0.heap.size W0 w'→_ from fun w' hb=>blk4 (x0.old hb))
 have HZ:=Lib.hid z0
 have HI:=Lib.hid (is_any m h k W0 (H.old hb0))
 have HW:=Lib.hid hW0
 have HB0:=Lib.hid hb0
 have HM:=Lib.hid H
 clear x0 z0 hW0 hb0 H
 cases hin:modV m&&inV m.me.length k
 ·rw [hin] at HI
  rw [show sigV m k=([],⟨0,0⟩,1) by unfold sigV;rw [hin];rfl]
  go_enter Tryz.func28,Tryz.ntmps28
  go_upto_region 1 with fail
  rw [←HW.out]
  obtain ⟨c0,c1,c2,c3⟩:=HX.out _ (Below.refl _ _)
  go_wp2_with (go_at_call 33;refine HI.out.mono ?_;rintro r w1 ⟨rfl,hb1⟩;obtain ⟨y0,y1,g0,g1⟩:=blk00 (HZ.out.old hb1))
  refine bodyPost_ret (v:=.tuple #[.slice none 0 0,.agg #[.int .i64 0,.int .i64 0],.int .i64 1]) (by simp [results,Tryz.results28,go_sem,y0,y1]) rfl ?_
  exact ⟨none,0,rfl,RowAt.nil _,bset2 HB0.out hb1⟩
 ·have hi2:=hin
  rw [hin] at HI
  simp only [Bool.and_eq_true,inV,decide_eq_true_eq] at hi2
  obtain ⟨hmv,hk0,hk1⟩:=hi2
  obtain ⟨kk,rfl⟩:∃ d:Nat,k=d:=⟨k.toNat,by omega⟩
  have hkk:kk<m.me.length:=by omega
  have hc9:=(mth_ok hmv hkk).c.1
  have hp9:=(mth_ok hmv hkk).z.1
  obtain ⟨ea,heo,m0,m1,m2,m3,m4,m5,m6⟩:=HM.out.mth hkk
  have hpr:=HM.out.p kk hkk
  rw [show sigV m kk=((if 0≤(m.me.getD kk default).c then [⟨2,(m.me.getD kk default).c⟩] else [])++(m.me.getD kk default).p,(m.me.getD kk default).r,0) by unfold sigV;rw [hin,if_pos rfl,Int.toNat_natCast]]
  generalize m.me.getD kk default=x at hc9 hp9 hpr m0 m1 m2 m3 m4 m5 m6 ⊢
  obtain ⟨nm,c,pl,ll,⟨rk,rc⟩,kl⟩:=x
  dsimp only at hc9 hp9 hpr m0 m1 m2 m3 m4 m5 m6 ⊢
  have HP:=Lib.hid hpr
  have HEo:=Lib.hid heo
  clear hpr hin hmv hk0 heo
  have HS:=Lib.hid (show Keep (Cs [(⟨(ea.add (kk*7)).block,(ea.add (kk*7)).off+1,none⟩,.int .i64 c),(⟨(ea.add (kk*7)).block,(ea.add (kk*7)).off+2,none⟩,.slice (h.e kk).po pl.length (h.e kk).pc),(⟨(ea.add (kk*7)).block,(ea.add (kk*7)).off+4,none⟩,.int .i64 rk),(⟨(ea.add (kk*7)).block,(ea.add (kk*7)).off+5,none⟩,.int .i64 rc)]) (w.heap.size+1) W0 from fun w' hu=>cs_keep HB0.out (Nat.le_succ _) hu ⟨m1,m2,m4,m5,trivial⟩)
  clear m0 m1 m2 m3 m4 m5 m6
  by_cases hc:0≤c
  case' pos=>
   have hc2:c ≥ 0:=hc
   have HC:=Lib.hid hc
   clear hc
   go_enter Tryz.func28,Tryz.ntmps28
   go_upto_region 1 with fail
   rw [←HW.out]
   obtain ⟨c0,c1,c2,c3⟩:=HX.out _ (Below.refl _ _)
   go_upto_region 7 with (first
    | (go_at_call 33;refine HI.out.mono ?_;rintro r w1 ⟨rfl,hb1⟩;have HB1:=Lib.hid hb1;clear hb1 c0 c1 c2 c3;obtain ⟨c0,c1,c2,c3⟩:=HX.out _ HB1.out;rw [HEo.out] at c2;obtain ⟨m1,m2,m4,m5,-⟩:=HS.out _ (Upd.of HB1.out))
    | (go_at_call 51;refine (object_any _ _).mono ?_;rintro r w2 ⟨rfl,hb2⟩;have HB2:=Lib.hid (bthen HB1.out hb2);clear hb2)
    | (at_builtin;refine wpList_append_sl rfl (.tmp 23) (.tmp 29) 23 rfl (w.heap.size+2) 38 2 16 elTyV _ 0 [] rfl (World.ownsRow_nil _ _ _ _) _ 1 1 [.int .i64 2,.int .i64 c] rfl (sla_blkV (Blk.new' #[.int .i64 2,.int .i64 c] 38 (by simp)) rfl) (by intro u hu;simp only [List.mem_cons,List.not_mem_nil,or_false] at hu;rcases hu with rfl|rfl<;>rfl) (by omega) (by unfold maxLen;omega) (by have:=HSz.out;have:=HB2.out.size;simp;omega) ?_;intro oo oc wz hown hg))
   have HOw:=Lib.hid hown
   have HBz:=Lib.hid (bgrown (bal HB2.out _) hg (fun j hj=>by cases hj))
   clear hown hg c0 c1 c2 c3 m1 m2 m4 m5
  case' neg=>
   have hc2:¬ c ≥ 0:=hc
   have HC:=Lib.hid hc
   clear hc
   go_enter Tryz.func28,Tryz.ntmps28
   go_upto_region 1 with fail
   rw [←HW.out]
   obtain ⟨c0,c1,c2,c3⟩:=HX.out _ (Below.refl _ _)
   go_upto_region 7 with (go_at_call 33;refine HI.out.mono ?_;rintro r w1 ⟨rfl,hb1⟩;have HB1:=Lib.hid hb1;clear hb1 c0 c1 c2 c3;obtain ⟨c0,c1,c2,c3⟩:=HX.out _ HB1.out;rw [HEo.out] at c2;obtain ⟨m1,m2,m4,m5,-⟩:=HS.out _ (Upd.of HB1.out))
   have HOw:=Lib.hid (World.ownsRow_nil w1 (w.heap.size+2) 38 2)
   have HBz:=HB1
   clear c0 c1 c2 c3 m1 m2 m4 m5
  all_goals
   refine kO HS.out (.plain 0 (.plain 1 (.plain 2 (.plain 3 (.plain 4 (.plain 6 (.plain 7 (.plain 8 (.plain 9 (.one 5 (.plain 10 (.one 11 (.plain 12 .done))))))))))))) (Upd.of HBz.out).drew ?_
   repeat refine pO ?_
   refine oO fun Kv hK=>?_
   refine wp_append_slx (.tmp 31) (.tmp 35) 23 rfl (w.heap.size+2) 38 2 16 elTyV _ _ _ rfl (own_drewV HOw.out) _ _ _ _ rfl (RowAt.old HP.out (bthen HB0.out HBz.out.drew)) (flatR_oneC pl) (by omega) (by unfold maxLen;omega) (Nat.le_trans (Nat.le_of_eq HSz.out.symm) HBz.out.size) ?_
   intro ao2 cap2 w3 hown3 hg3
   have HB3:=Lib.hid (bgrown HBz.out.drew hg3 (fun j hj=>by have:=(HOw.out.lt j hj).1;have:=HSz.out;omega))
   have HO3:=Lib.hid hown3
   clear hown3 hg3
   refine hK _ _ ⟨HS.out _ (Upd.of HB3.out),?_⟩
   clear hK Kv
   repeat refine pO ?_
   obtain ⟨y0,y1,g0,g1⟩:=blk00 (HZ.out.old HB3.out)
   refine oO fun Kv hK=>?_
   go_simp
   refine hK _ _ ⟨HS.out _ (((Upd.of HB3.out).set 0 _).set 1 _),?_⟩
   clear hK Kv
   repeat refine pO ?_
   refine wpMixO_done ?_
   go_wp2
   have HO5:=Lib.hid (show World.ownsRow ((w3.setCell ⟨w.heap.size+1,0,none⟩ (.int .i64 rk)).setCell ⟨w.heap.size+1,1,none⟩ (.int .i64 rc)) _ _ _ _ _ _ from ownsRow_setCell_other (ownsRow_setCell_other HO3.out (fun e=>own_neV HO3.out (b:=w.heap.size+1) (by omega) e.symm) (.int .i64 rk)) (fun e=>own_neV HO3.out (b:=w.heap.size+1) (by omega) e.symm) (.int .i64 rc))
   first
    | (refine bodyPost_ret (v:=.tuple #[.slice ao2 (0+1+pl.length) cap2,.agg #[.int .i64 rk,.int .i64 rc],.int .i64 0]) (by simp [results,Tryz.results28,go_sem,y0,y1]) rfl ?_;have h9:=HO5.out;refine ⟨ao2,cap2,by simp;omega,RowAt.of_own (base:=(w.heap.size+2)) (e:=38) ?_,bset2 HB0.out HB3.out⟩;rw [show 0+1+pl.length=pl.length+1 by omega] at h9;exact h9)
    | (refine bodyPost_ret (v:=.tuple #[.slice ao2 (0+pl.length) cap2,.agg #[.int .i64 rk,.int .i64 rc],.int .i64 0]) (by simp [results,Tryz.results28,go_sem,y0,y1]) rfl ?_;have h9:=HO5.out;rw [Nat.zero_add] at h9 ⊢;exact ⟨ao2,cap2,rfl,RowAt.of_own (base:=(w.heap.size+2)) (e:=38) h9,bset2 HB0.out HB3.out⟩)
theorem rSig_any (w:World) (h:Hd) (m:Md) (H:ModAt w h m) (k:Int):Calls Tryz.prog 29 #[.agg #[.slice h.co m.cl.length h.cc,.slice h.so m.st.length h.sc,.slice h.eo m.me.length h.ec,.int .i64 m.sel],.int .i64 k] w (RetSg w (sigV m k)):=by
 obtain ⟨W0,hW0⟩:∃ W0,W0=(w.alloc (.cells #[.slice h.co m.cl.length h.cc,.slice h.so m.st.length h.sc,.slice h.eo m.me.length h.ec,.int .i64 m.sel] 26)).alloc (.cells #[.int .i64 0,.int .i64 0] 38):=⟨_,rfl⟩
 have hb0:Below w.heap.size w W0:=by rw [hW0];exact bE
 have x0:Blk W0 w.heap.size #[.slice h.co m.cl.length h.cc,.slice h.so m.st.length h.sc,.slice h.eo m.me.length h.ec,.int .i64 m.sel] 26:=by rw [hW0];exact (Blk.new w _ _).alloc _
 have z0:Blk W0 (w.heap.size+1) #[.int .i64 0,.int .i64 0] 38:=by rw [hW0];exact Blk.new' (w:=w.alloc (.cells #[.slice h.co m.cl.length h.cc,.slice h.so m.st.length h.sc,.slice h.eo m.me.length h.ec,.int .i64 m.sel] 26)) _ _ (by simp)
 have HSz:=Lib.hid (show W0.heap.size=w.heap.size+2 by rw [hW0];simp)
 have HX:=Lib.hid (show ∀ w',Below W0.heap.size W0 w'→_ from fun w' hb=>blk4 (x0.old hb))
 have HZ:=Lib.hid z0
 have HI:=Lib.hid (rCheck_any m h W0 (H.old hb0))
 have HW:=Lib.hid hW0
 have HB0:=Lib.hid hb0
 have HM:=Lib.hid H
 clear x0 z0 hW0 hb0 H
 have hcs:modV m=false∨(modV m=true∧k<0)∨(modV m=true∧¬ k<0∧k ≥ m.me.length)∨(modV m=true∧0≤k∧k<m.me.length):=by cases modV m<;>simp<;>omega
 rcases hcs with q|⟨q,q1⟩|⟨q,q1,q2⟩|hi2
 ·rw [q] at HI
  simp only [Bool.false_eq_true,if_false] at HI
  have hin:(modV m&&inV m.me.length k)=false:=by rw [q];rfl
  rw [show sigV m k=([],⟨0,0⟩,1) by unfold sigV;rw [hin];rfl]
  go_enter Tryz.func29,Tryz.ntmps29
  go_upto_region 1 with fail
  rw [←HW.out]
  obtain ⟨c0,c1,c2,c3⟩:=HX.out _ (Below.refl _ _)
  go_wp2_with (go_at_call 15;refine HI.out.mono ?_;rintro r w1 ⟨rfl,hb1⟩;obtain ⟨y0,y1,g0,g1⟩:=blk00 (HZ.out.old hb1);obtain ⟨c0,c1,c2,c3⟩:=HX.out _ hb1)
  refine bodyPost_ret (v:=.tuple #[.slice none 0 0,.agg #[.int .i64 0,.int .i64 0],.int .i64 1]) (by simp [results,Tryz.results29,go_sem,y0,y1]) rfl ?_
  exact ⟨none,0,rfl,RowAt.nil _,bset2 HB0.out hb1⟩
 ·rw [q] at HI
  simp only [if_true] at HI
  have hin:(modV m&&inV m.me.length k)=false:=by simp [inV];intros;omega
  rw [show sigV m k=([],⟨0,0⟩,1) by unfold sigV;rw [hin];rfl]
  go_enter Tryz.func29,Tryz.ntmps29
  go_upto_region 1 with fail
  rw [←HW.out]
  obtain ⟨c0,c1,c2,c3⟩:=HX.out _ (Below.refl _ _)
  go_wp2_with (go_at_call 15;refine HI.out.mono ?_;rintro r w1 ⟨rfl,hb1⟩;obtain ⟨y0,y1,g0,g1⟩:=blk00 (HZ.out.old hb1);obtain ⟨c0,c1,c2,c3⟩:=HX.out _ hb1)
  refine bodyPost_ret (v:=.tuple #[.slice none 0 0,.agg #[.int .i64 0,.int .i64 0],.int .i64 1]) (by simp [results,Tryz.results29,go_sem,y0,y1]) rfl ?_
  exact ⟨none,0,rfl,RowAt.nil _,bset2 HB0.out hb1⟩
 ·rw [q] at HI
  simp only [if_true] at HI
  have hin:(modV m&&inV m.me.length k)=false:=by simp [inV];intros;omega
  rw [show sigV m k=([],⟨0,0⟩,1) by unfold sigV;rw [hin];rfl]
  go_enter Tryz.func29,Tryz.ntmps29
  go_upto_region 1 with fail
  rw [←HW.out]
  obtain ⟨c0,c1,c2,c3⟩:=HX.out _ (Below.refl _ _)
  go_wp2_with (go_at_call 15;refine HI.out.mono ?_;rintro r w1 ⟨rfl,hb1⟩;obtain ⟨y0,y1,g0,g1⟩:=blk00 (HZ.out.old hb1);obtain ⟨c0,c1,c2,c3⟩:=HX.out _ hb1)
  refine bodyPost_ret (v:=.tuple #[.slice none 0 0,.agg #[.int .i64 0,.int .i64 0],.int .i64 1]) (by simp [results,Tryz.results29,go_sem,y0,y1]) rfl ?_
  exact ⟨none,0,rfl,RowAt.nil _,bset2 HB0.out hb1⟩
 ·rw [hi2.1] at HI
  simp only [if_true] at HI
  have hin:(modV m&&inV m.me.length k)=true:=by simp [inV,hi2]
  obtain ⟨hmv,hk0,hk1⟩:=hi2
  obtain ⟨kk,rfl⟩:∃ d:Nat,k=d:=⟨k.toNat,by omega⟩
  have hkk:kk<m.me.length:=by omega
  have hc9:=(mth_ok hmv hkk).c.1
  have hp9:=(mth_ok hmv hkk).z.1
  obtain ⟨ea,heo,m0,m1,m2,m3,m4,m5,m6⟩:=HM.out.mth hkk
  have hpr:=HM.out.p kk hkk
  rw [show sigV m kk=((if 0≤(m.me.getD kk default).c then [⟨2,(m.me.getD kk default).c⟩] else [])++(m.me.getD kk default).p,(m.me.getD kk default).r,0) by unfold sigV;rw [hin,if_pos rfl,Int.toNat_natCast]]
  generalize m.me.getD kk default=x at hc9 hp9 hpr m0 m1 m2 m3 m4 m5 m6 ⊢
  obtain ⟨nm,c,pl,ll,⟨rk,rc⟩,kl⟩:=x
  dsimp only at hc9 hp9 hpr m0 m1 m2 m3 m4 m5 m6 ⊢
  have HP:=Lib.hid hpr
  have HEo:=Lib.hid heo
  clear hpr hin hmv hk0 heo
  have hkn:¬ (kk:Int) < 0:=by omega
  have hkm:¬ (kk:Int) ≥ m.me.length:=by omega
  have hcs:Cs [(ea.add (kk*7),.string nm),(⟨(ea.add (kk*7)).block,(ea.add (kk*7)).off+1,none⟩,.int .i64 c),(⟨(ea.add (kk*7)).block,(ea.add (kk*7)).off+2,none⟩,.slice (h.e kk).po pl.length (h.e kk).pc),(⟨(ea.add (kk*7)).block,(ea.add (kk*7)).off+3,none⟩,.slice (h.e kk).lo ll.length (h.e kk).lc),(⟨(ea.add (kk*7)).block,(ea.add (kk*7)).off+4,none⟩,.int .i64 rk),(⟨(ea.add (kk*7)).block,(ea.add (kk*7)).off+5,none⟩,.int .i64 rc),(⟨(ea.add (kk*7)).block,(ea.add (kk*7)).off+6,none⟩,.slice (h.e kk).ko kl.length (h.e kk).kc)] w:=⟨m0,m1,m2,m3,m4,m5,m6,trivial⟩
  have HCs:=Lib.hid hcs
  clear m0 m1 m2 m3 m4 m5 m6 hcs
  have hcd:c=-1∨c≠-1:=by omega
  go_enter Tryz.func29,Tryz.ntmps29
  go_upto_region 1 with fail
  rw [←HW.out]
  obtain ⟨c0,c1,c2,c3⟩:=HX.out _ (Below.refl _ _)
  go_upto_region 4 with (go_at_call 15;refine HI.out.mono ?_;rintro r w1 ⟨rfl,hb1⟩;have HB1:=Lib.hid hb1;clear hb1 c0 c1 c2 c3;obtain ⟨c0,c1,c2,c3⟩:=HX.out _ HB1.out;rw [HEo.out] at c2;obtain ⟨m0,m1,m2,m3,m4,m5,m6,-⟩:=cs_keep HB0.out (Nat.le_succ _) (Upd.of (K:=w.heap.size+1) (B:=w.heap.size+1) HB1.out) HCs.out)
  clear c0 c1 c2 c3 m0 m1 m2 m3 m4 m5 m6
  have hbm:=Blk.new w1 #[.string nm,.int .i64 c,.slice (h.e kk).po pl.length (h.e kk).pc,.slice (h.e kk).lo ll.length (h.e kk).lc,.int .i64 rk,.int .i64 rc,.slice (h.e kk).ko kl.length (h.e kk).kc] 40
  have hbw:Below W0.heap.size W0 (w1.alloc (.cells #[.string nm,.int .i64 c,.slice (h.e kk).po pl.length (h.e kk).pc,.slice (h.e kk).lo ll.length (h.e kk).lc,.int .i64 rk,.int .i64 rc,.slice (h.e kk).ko kl.length (h.e kk).kc] 40)):=bal HB1.out _
  have hxb:w1.heap.size≠w.heap.size+1:=by have:=HB1.out.size;have:=HSz.out;omega
  obtain ⟨xb,hxe⟩:∃ xb,xb=w1.heap.size:=⟨_,rfl⟩
  rw [←hxe] at hbm hxb ⊢
  clear hxe
  generalize w1.alloc _=W2 at hbm hbw ⊢
  have HBW:=Lib.hid (bthen HB0.out hbw)
  have HZ2:=Lib.hid (HZ.out.old hbw)
  have HS:=Lib.hid (show Keep (Cs [(⟨xb,1,none⟩,.int .i64 c),(⟨xb,2,none⟩,.slice (h.e kk).po pl.length (h.e kk).pc),(⟨xb,4,none⟩,.int .i64 rk),(⟨xb,5,none⟩,.int .i64 rc)]) (w.heap.size+1) W2 from fun w' hu=>⟨hu.cell (hbm.cell 1 rfl) hxb hxb,hu.cell (hbm.cell 2 rfl) hxb hxb,hu.cell (hbm.cell 4 rfl) hxb hxb,hu.cell (hbm.cell 5 rfl) hxb hxb,trivial⟩)
  obtain ⟨m1,m2,m4,m5,-⟩:=HS.out _ (Upd.refl _ _ _)
  clear hbm hbw
  rcases hcd with hcd|hcd
  case' inl=>
   subst hcd
   have HC:=Lib.hid (show ¬ (0:Int)≤-1 by omega)
   go_upto_region 7 with fail
   have HOw:=Lib.hid (World.ownsRow_nil W2 W2.heap.size 38 2)
   have HBz:=Lib.hid (Below.refl W2.heap.size W2)
   clear m1 m2 m4 m5
  case' inr=>
   have hcn:(c != -1)=true:=by simpa using hcd
   have HC:=Lib.hid (show 0≤c by omega)
   go_upto_region 7 with (at_builtin;refine wpList_append_sl rfl (.tmp 32) (.tmp 36) 23 rfl W2.heap.size 38 2 16 elTyV _ 0 [] rfl (World.ownsRow_nil _ _ _ _) _ 1 1 [.int .i64 2,.int .i64 c] rfl (sla_blkV (Blk.new' #[.int .i64 2,.int .i64 c] 38 (by simp)) rfl) (by intro u hu;simp only [List.mem_cons,List.not_mem_nil,or_false] at hu;rcases hu with rfl|rfl<;>rfl) (by omega) (by unfold maxLen;omega) (by simp) ?_;intro oo oc wz hown hg)
   have HOw:=Lib.hid hown
   have HBz:=Lib.hid (bgrown (bal (Below.refl W2.heap.size W2) _) hg (fun j hj=>by cases hj))
   clear hown hg m1 m2 m4 m5
  all_goals
   refine kO HS.out (.plain 0 (.plain 1 (.plain 2 (.plain 4 (.plain 5 (.one 3 (.plain 6 (.one 7 (.plain 8 .done))))))))) (Upd.of HBz.out).drew ?_
   repeat refine pO ?_
   refine oO fun Kv hK=>?_
   refine wp_append_slx (.tmp 38) (.tmp 40) 23 rfl W2.heap.size 38 2 16 elTyV _ _ _ rfl (own_drewV HOw.out) _ _ _ _ rfl (RowAt.old HP.out (bthen HBW.out HBz.out.drew)) (flatR_oneC pl) (by omega) (by unfold maxLen;omega) HBz.out.size ?_
   intro ao2 cap2 w3 hown3 hg3
   have HB3:=Lib.hid (bgrown HBz.out.drew hg3 (fun j hj=>by exact (HOw.out.lt j hj).1))
   have HO3:=Lib.hid hown3
   clear hown3 hg3
   refine hK _ _ ⟨HS.out _ (Upd.of HB3.out),?_⟩
   clear hK Kv
   repeat refine pO ?_
   obtain ⟨y0,y1,g0,g1⟩:=blk00 (HZ2.out.old HB3.out)
   refine oO fun Kv hK=>?_
   go_simp
   refine hK _ _ ⟨HS.out _ (((Upd.of HB3.out).set 0 _).set 1 _),?_⟩
   clear hK Kv
   repeat refine pO ?_
   refine wpMixO_done ?_
   go_wp2
   have HO5:=Lib.hid (show World.ownsRow ((w3.setCell ⟨w.heap.size+1,0,none⟩ (.int .i64 rk)).setCell ⟨w.heap.size+1,1,none⟩ (.int .i64 rc)) _ _ _ _ _ _ from ownsRow_setCell_other (ownsRow_setCell_other HO3.out (fun e=>own_neV HO3.out (b:=w.heap.size+1) HZ2.out.lt e.symm) (.int .i64 rk)) (fun e=>own_neV HO3.out (b:=w.heap.size+1) HZ2.out.lt e.symm) (.int .i64 rc))
   first
    | (refine bodyPost_ret (v:=.tuple #[.slice ao2 (0+1+pl.length) cap2,.agg #[.int .i64 rk,.int .i64 rc],.int .i64 0]) (by simp [results,Tryz.results29,go_sem,y0,y1]) rfl ?_;have h9:=HO5.out;refine ⟨ao2,cap2,by simp;omega,RowAt.of_own (base:=W2.heap.size) (e:=38) ?_,bset2 HBW.out HB3.out⟩;rw [show 0+1+pl.length=pl.length+1 by omega] at h9;exact h9)
    | (refine bodyPost_ret (v:=.tuple #[.slice ao2 (0+pl.length) cap2,.agg #[.int .i64 rk,.int .i64 rc],.int .i64 0]) (by simp [results,Tryz.results29,go_sem,y0,y1]) rfl ?_;have h9:=HO5.out;rw [Nat.zero_add] at h9 ⊢;exact ⟨ao2,cap2,rfl,RowAt.of_own (base:=W2.heap.size) (e:=38) h9,bset2 HBW.out HB3.out⟩)
end
section
open Go.RowKit
theorem sigV_len (m:Md) (k:Int):(sigV m k).1.length≤1000000:=by
 unfold sigV
 split
 ·rename_i hq
  simp only [Bool.and_eq_true,inV,decide_eq_true_eq] at hq
  have:=(mth_ok hq.1 (show k.toNat<m.me.length by omega)).z.1
  dsimp only
  rw [List.length_append]
  have h2:(if 0≤(m.me.getD k.toNat default).c then [(⟨2,(m.me.getD k.toNat default).c⟩:Ty)] else []).length≤1:=by split<;>simp
  omega
 ·simp
theorem lawHeights_any (W:World) (h:Hd) (m:Md) (H:ModAt W h m) (k:Int):Calls Tryz.prog 9 #[.agg #[.slice h.co m.cl.length h.cc,.slice h.so m.st.length h.sc,.slice h.eo m.me.length h.ec,.int .i64 m.sel],.int .i64 k] W (Ret W (.bool true)):=by
 obtain ⟨W0,hW0⟩:∃ W0,W0=W.alloc (.cells #[.slice h.co m.cl.length h.cc,.slice h.so m.st.length h.sc,.slice h.eo m.me.length h.ec,.int .i64 m.sel] 26):=⟨_,rfl⟩
 have hb0:Below W.heap.size W W0:=by rw [hW0];exact bE
 have x0:Blk W0 W.heap.size #[.slice h.co m.cl.length h.cc,.slice h.so m.st.length h.sc,.slice h.eo m.me.length h.ec,.int .i64 m.sel] 26:=by rw [hW0];exact Blk.new W _ _
 have HX:=Lib.hid (show ∀ w',Below W0.heap.size W0 w'→_ from fun w' hb=>blk4 (x0.old hb))
 have h1:∀ w',Below W0.heap.size W0 w'→_:=fun w' hb'=>vHigh_any w' h m (H.old (bthen hb0 hb')) k
 have h2:∀ w',Below W0.heap.size W0 w'→_:=fun w' hb'=>rHigh_any w' h m (H.old (bthen hb0 hb')) k
 have h3:∀ w',Below W0.heap.size W0 w'→_:=fun w' hb'=>vSig_any w' h m (H.old (bthen hb0 hb')) k
 have h4:∀ w',Below W0.heap.size W0 w'→_:=fun w' hb'=>rSig_any w' h m (H.old (bthen hb0 hb')) k
 have hle:=highV_le m k
 have hsl:=sigV_len m k
 generalize sigV m k=q at h3 h4 hsl
 generalize highV m k=p at h1 h2 hle
 obtain ⟨ls,⟨rk,rc⟩,e2⟩:=q
 obtain ⟨hi,e1⟩:=p
 dsimp only at hsl hle
 have H1:=Lib.hid h1
 have H2:=Lib.hid h2
 have H3:=Lib.hid h3
 have H4:=Lib.hid h4
 have HW:=Lib.hid hW0
 have HB0:=Lib.hid hb0
 have HQ:=Lib.hid (show ∀ (o o2:Option Addr) (c c2:Nat) (w:World),RowAt w o c ls→RowAt w o2 c2 ls→Calls Tryz.prog 30 #[.slice o ls.length c,.slice o2 ls.length c2] w (Ret w (.bool true)) from fun o o2 c c2 w ha hb=>by have:=r6SameTypes_any ls ls o o2 c c2 w ha hb hsl;rwa [show decide (ls=ls)=true by simp] at this)
 clear h1 h2 h3 h4 x0 hW0 hb0 H
 have heq:=eqlTy
 have hgu:=guardTy
 go_enter Tryz.func9,Tryz.ntmps9
 go_upto_region 1 with fail
 rw [←HW.out]
 obtain ⟨c0,c1,c2,c3⟩:=HX.out _ (Below.refl _ _)
 go_wp2_with (first
  | (go_at_call 14;refine (sane6_any _).mono ?_;rintro r w6 ⟨rfl,hb6⟩)
  | (go_at_call 30;refine (HQ.out _ _ _ _ _ (HA.out.old (bal HB34.out _)) (RowAt.alloc HA4.out _)).mono ?_;rintro r w5 ⟨rfl,hb5⟩;have HB5:=Lib.hid (bthen (bal HB34.out (.cells #[.int .i64 rk,.int .i64 rc] 38)) hb5);clear hb5)
  | (go_at_call 29;refine (H4.out _ (bal HB3.out _)).mono ?_;rintro r w4 ⟨ao4,ac4,rfl,hr4,hb4⟩;have HA4:=Lib.hid hr4;have HB34:=Lib.hid (bthen (bal (Below.refl w3.heap.size w3) (.cells #[.int .i64 rk,.int .i64 rc] 38)) hb4);have d34:=(Blk.new w3 #[.int .i64 rk,.int .i64 rc] 38).old hb4;have d0:=d34.cell 0 (v:=.int .i64 rk) rfl;have d1:=d34.cell 1 (v:=.int .i64 rc) rfl;have dl:=d34.lt;clear hr4 hb4 d34)
  | (go_at_call 28;refine (H3.out _ HB2.out).mono ?_;rintro r w3 ⟨ao3,ac3,rfl,hr3,hb3⟩;have HA:=Lib.hid hr3;have HB3:=Lib.hid (bthen HB2.out hb3);clear hr3 hb3 c0 c1 c2 c3;obtain ⟨c0,c1,c2,c3⟩:=HX.out _ (bal HB3.out (.cells #[.int .i64 rk,.int .i64 rc] 38)))
  | (go_at_call 27;refine (H2.out _ HB1.out).mono ?_;rintro r w2 ⟨rfl,hb2⟩;have HB2:=Lib.hid (bthen HB1.out hb2);clear hb2 c0 c1 c2 c3;obtain ⟨c0,c1,c2,c3⟩:=HX.out _ HB2.out)
  | (go_at_call 26;refine (H1.out _ (Below.refl _ _)).mono ?_;rintro r w1 ⟨rfl,hb1⟩;have HB1:=Lib.hid hb1;clear hb1 c0 c1 c2 c3;obtain ⟨c0,c1,c2,c3⟩:=HX.out _ HB1.out))
 go_ret
 exact ret_ok rfl (bthen HB0.out (bthen HB3.out (bthen HB5.out hb6)))
end
section
open Go.RowKit
theorem mem_refsL (l:List Ty) (x:Nat):∀ k,(x:Int)∈refsL l k↔x<k∧(l.getD x default).k≠1
 | 0=>by simp [refsL]
 | k+1=>by
  unfold refsL
  rw [List.mem_append,mem_refsL l x k]
  by_cases hx:x=k
  ·subst hx
   split<;>simp_all
  ·split
   ·simp;intro _;omega
   ·simp only [List.mem_singleton]
    constructor
    ·rintro (h|h)
     ·exact ⟨by omega,h.2⟩
     ·omega
    ·intro h;exact .inl ⟨by omega,h.2⟩
theorem mem_refsV {l:List Ty}{x:Nat} (hx:x<l.length):decide ((x:Int)∈refsV l)=((l.getD x default).k != 1):=by
 unfold refsV
 rw [Bool.eq_iff_iff,decide_eq_true_eq,mem_refsL]
 simp [hx]
theorem refsV_len (l:List Ty):(refsV l).length≤l.length:=refsL_len l l.length
/-- the stack ahead of the first instruction, and the one at the end -/
theorem passF_ends (m:Md) (lo:List Ty) (r:Ty):∀ (l:List In3) (n:Nat) (s:Ps),(passF m lo r n l s).2.2=0→(passF m lo r n l s).1.getD 0 []=s.stk∧((passF m lo r n l s).1.getD l.length []).length≤1
 | [],n,s=>by
  unfold passF
  split
  ·rename_i h
   intro _
   refine ⟨rfl,?_⟩
   unfold endedV at h
   show s.stk.length≤1
   split at h
   ·split at h
    ·rename_i q;rw [q];simp
    ·cases h
   ·split at h
    ·rename_i q;rw [q];simp
    ·cases h
  ·exact fun h=>absurd h (by assumption)
 | i :: l,n,s=>by
  unfold passF
  split
  ·have a:=passF_ends m lo r l (n+1) (stepV m lo i s).2
   dsimp only
   split
   ·rename_i h;exact fun _=>⟨rfl,by simpa using (a h).2⟩
   ·rename_i h;exact fun h2=>absurd h2 h
  ·rename_i h;exact fun h2=>absurd h2 h
theorem hiL_ge (s:List (List Ty)) (i:Nat):∀ k,i<k→(s.getD i []).length≤hiL s k
 | 0,h=>by omega
 | k+1,h=>by
  unfold hiL
  by_cases q:i=k
  ·subst q;exact Nat.le_max_right _ _
  ·exact Nat.le_trans (hiL_ge s i k (by omega)) (Nat.le_max_left _ _)
theorem place6_any (l:List Int) (o:Option Addr) (c:Nat) (x:Int) (w:World) (H:RowAt w o c l) (hl:l.length≤1000000):Calls Tryz.prog 32 #[.slice o l.length c,.int .i64 x] w fun e w'=>∃ r:Int,e=.returned (.int .i64 r)∧decide (0≤r)=decide (x∈l)∧Below w.heap.size w w':=by
 obtain ⟨n,hn⟩:∃ n,n=l.length:=⟨_,rfl⟩
 have HN:=Lib.hid hn
 have HL:=Lib.hid H
 clear H
 rw [←hn] at hl ⊢
 clear hn
 go_enter Tryz.func32,Tryz.ntmps32
 go_wp2
 go_loopw [5] (fun i wr=>∃ k:Nat,k≤n∧i=.int .i64 k∧Below w.heap.size w wr∧Hid (x ∉ l.take k)) (fun i _=>n-(intOf i).toNat)
 case atStart=>exact ⟨0,by omega,rfl,Below.refl _ _,Lib.hid (by simp)⟩
 case round=>
  obtain ⟨k,hk,rfl,hbel,HNo⟩:=hrel
  have HB:=Lib.hid hbel
  by_cases hkl:k<n
  ·obtain ⟨ad,rfl,c0⟩:=row_int (HL.out.old hbel) (i:=k) (by rw [←HN.out];exact hkl)
   have hts:=take_snoc l k (by rw [←HN.out];exact hkl)
   have hmem:l.getD k 0∈l:=getD_mem 0 (by rw [←HN.out];exact hkl)
   generalize l.getD k 0=y at c0 hts hmem
   have HTs:=Lib.hid hts
   have HMm:=Lib.hid hmem
   have hkn:(k:Int) < n:=by omega
   have hwr:IntKind.i64.wrap ((k:Int)+1)=k+1:=IntWalk.i64_in _ (by omega)
   clear hbel hts hmem
   by_cases hxy:y=x
   ·subst hxy
    go_wp2
    go_ret
    exact ⟨k,rfl,by rw [decide_eq_true HMm.out];simp,HB.out⟩
   ·go_wp2
    go_roundw
    case rel=>exact ⟨k+1,by omega,by go_num,HB.out,Lib.hid (by rw [HTs.out,List.mem_append,not_or];exact ⟨HNo.out,by simpa using fun q=>hxy q.symm⟩)⟩
    case measure=>simp [intOf];omega
  ·have hkn:¬ (k:Int) < n:=by omega
   obtain rfl:k=n:=by omega
   go_wp2
   go_ret
   refine ⟨-1,rfl,?_,HB.out⟩
   have:=HNo.out
   rw [HN.out,List.take_length] at this
   simp [this]
theorem okM {m:Md}{k:Int} (h:(methodV m k).2.2=0):modV m=true∧∃ kk:Nat,k=kk∧kk<m.me.length∧methodV m k=passV m kk:=by
 unfold methodV at h
 split at h
 ·rename_i q
  obtain ⟨q1,q2,q3⟩:=q
  refine ⟨q1,k.toNat,by omega,by omega,?_⟩
  unfold methodV
  rw [if_pos ⟨q1,q2,q3⟩]
 ·cases h
theorem lawHandles_any (W:World) (h:Hd) (m:Md) (H:ModAt W h m) (k p:Int):Calls Tryz.prog 10 #[.agg #[.slice h.co m.cl.length h.cc,.slice h.so m.st.length h.sc,.slice h.eo m.me.length h.ec,.int .i64 m.sel],.int .i64 k,.int .i64 p] W (Ret W (.bool true)):=by
 obtain ⟨W0,hW0⟩:∃ W0,W0=W.alloc (.cells #[.slice h.co m.cl.length h.cc,.slice h.so m.st.length h.sc,.slice h.eo m.me.length h.ec,.int .i64 m.sel] 26):=⟨_,rfl⟩
 have hb0:Below W.heap.size W W0:=by rw [hW0];exact bE
 have x0:Blk W0 W.heap.size #[.slice h.co m.cl.length h.cc,.slice h.so m.st.length h.sc,.slice h.eo m.me.length h.ec,.int .i64 m.sel] 26:=by rw [hW0];exact Blk.new W _ _
 have HX:=Lib.hid (show ∀ w',Below W0.heap.size W0 w'→_ from fun w' hb=>blk4 (x0.old hb))
 have h1:∀ w',Below W0.heap.size W0 w'→_:=fun w' hb'=>vMeth_any h m k w' (H.old (bthen hb0 hb'))
 have HW:=Lib.hid hW0
 have HB0:=Lib.hid hb0
 have HM:=Lib.hid H
 by_cases he:(methodV m k).2.2=0
 ·obtain ⟨hmv,kk,rfl,hkk,hmp⟩:=okM he
  rw [hmp] at h1 he
  have hin:(modV m&&inV m.me.length kk)=true:=by rw [hmv];simp [inV];omega
  obtain ⟨nc,hnc⟩:∃ n,n=(m.me.getD kk default).k.length:=⟨_,rfl⟩
  obtain ⟨hfull,-⟩:=passV_full he
  have hpe:(passV m kk).1.getD 0 []=[]∧((passV m kk).1.getD (m.me.getD kk default).k.length []).length≤1:=passF_ends m (localsV (m.me.getD kk default)) (m.me.getD kk default).r (m.me.getD kk default).k 0 ⟨[],[]⟩ he
  have hsm:=(methodV_small m kk).1
  rw [hmp] at hsm
  have hlen:=(mth_ok hmv hkk).z.2.2
  have h2:∀ w',Below W0.heap.size W0 w'→Calls Tryz.prog 26 #[.agg #[.slice h.co m.cl.length h.cc,.slice h.so m.st.length h.sc,.slice h.eo m.me.length h.ec,.int .i64 m.sel],.int .i64 kk] w' (Ret2 w' (.int .i64 (hiL (passV m kk).1 (nc+1))) (.int .i64 0)):=fun w' hb'=>by
   have:=vHigh_any w' h m (H.old (bthen hb0 hb')) kk
   rw [show highV m kk=((hiL (passV m kk).1 (nc+1):Int),0) by unfold highV;rw [hmp,if_pos he,hfull,hnc]] at this
   exact this
  have h3:∀ w',Below W0.heap.size W0 w'→∀ pp:Nat,pp≤nc→Calls Tryz.prog 23 #[.agg #[.slice h.co m.cl.length h.cc,.slice h.so m.st.length h.sc,.slice h.eo m.me.length h.ec,.int .i64 m.sel],.int .i64 kk,.int .i64 pp] w' (RetRR w' (refsV (localsV (m.me.getD kk default)),refsV ((passV m kk).1.getD pp []),0)):=fun w' hb' pp hp=>by
   have:=vRoots_any w' h m (H.old (bthen hb0 hb')) kk pp
   rw [show rootsV m kk pp=(refsV (localsV (m.me.getD kk default)),refsV ((passV m kk).1.getD pp []),0) by unfold rootsV pointV;rw [hin,Int.toNat_natCast,Int.toNat_natCast,←hnc,if_pos (by simp;omega),if_pos he]] at this
   exact this
  have h4:∀ w',Below W0.heap.size W0 w'→_:=fun w' hb'=>rLocals_yes m h kk w' (H.old (bthen hb0 hb')) hmv hkk
  have hll:=locals_len hmv hkk
  have HMt:=Lib.hid (show ∀ w',Below W.heap.size W w'→_ from fun w' hb'=>(H.old hb').mth hkk)
  generalize localsV (m.me.getD kk default)=lo at h3 h4 hll
  rw [←hnc] at hfull hlen hpe
  obtain ⟨hend0,hendn⟩:=hpe
  have hge:=fun (i:Nat) (hi:i<nc+1)=>hiL_ge (passV m kk).1 i (nc+1) hi
  generalize hiL (passV m kk).1 (nc+1)=hig at h2 hge
  generalize passV m kk=pv at h1 h3 he hfull hend0 hendn hsm hge
  obtain ⟨sts,pl,er⟩:=pv
  dsimp only at he hfull hend0 hendn hsm h3 hge
  subst he
  have hkk2:(kk:Int) < m.me.length:=by omega
  have H1:=Lib.hid h1
  have H2:=Lib.hid h2
  have H3:=Lib.hid h3
  have H4:=Lib.hid h4
  have HFu:=Lib.hid hfull
  have HEn:=Lib.hid (And.intro hend0 hendn)
  have HSm:=Lib.hid hsm
  have HGe:=Lib.hid hge
  have HNc:=Lib.hid hnc
  obtain ⟨ea,heo,-⟩:=(HM.out).mth hkk
  have HEo:=Lib.hid heo
  clear h1 h2 h3 h4 hfull hend0 hendn hsm hge hnc x0 hW0 hb0 H heo hin hmv hmp
  go_enter Tryz.func10,Tryz.ntmps10
  go_upto_region 1 with fail
  rw [←HW.out]
  obtain ⟨c0,c1,c2,c3⟩:=HX.out _ (Below.refl _ _)
  go_upto_region 5 with (go_at_call 11;refine (H1.out _ (Below.refl _ _)).mono ?_;rintro r w1 ⟨⟨so,sc,rows,rfl,hs⟩,hb1⟩;have HS1:=Lib.hid hs;have HB1:=Lib.hid hb1;clear hs hb1 c0 c1 c2 c3;obtain ⟨c0,c1,c2,c3⟩:=HX.out _ HB1.out;rw [HEo.out] at c2)
  have hrl:rows.length=nc+1:=by rw [HS1.out.len,HFu.out]
  have hrw:IntKind.i64.wrap ((rows.length:Int)-1)=nc:=by rw [hrl];rw [IntWalk.i64_in _ (by omega)];omega
  have hnn:¬ (nc:Int) < 0:=by omega
  go_upto_region 9 with fail
  obtain ⟨ea',heo,-,-,-,-,-,-,m6⟩:=HMt.out w1 (bthen HB0.out HB1.out)
  rw [HEo.out] at heo
  cases heo
  rw [←HNc.out] at m6
  have HAt:=Lib.hid (show ∀ i,i≤nc→(rows.getD i default).n=(sts.getD i []).length∧TyAt w1 (rows.getD i default).ao (rows.getD i default).c (sts.getD i []) from fun i hi=>HS1.out.at_ i (by omega))
  have HRw:=Lib.hid (show ∀ i,i≤nc→∃ ad,so=some ad∧w1.cell? (ad.add i)=some (.slice (rows.getD i default).ao (sts.getD i []).length (rows.getD i default).c) from fun i hi=>by rw [←(HAt.out i hi).1];exact row_sh (RowAt.of_own HS1.out.own) (by omega))
  obtain ⟨ad,had,d1⟩:=HRw.out 0 (by omega)
  rw [HEn.out.1] at d1
  subst had
  have d1':=d1
  rw [show ad.add 0=ad by simp [Addr.add]] at d1'
  have hcl:∃ pp:Nat,pp≤nc∧((pp=nc∧(p<0∨(¬ p<0∧p > pp)∨p=pp))∨(p=pp∧pp≠nc)):=by
   by_cases q:p<0
   ·exact ⟨nc,Nat.le_refl _,.inl ⟨rfl,.inl q⟩⟩
   ·by_cases q2:p > nc
    ·exact ⟨nc,Nat.le_refl _,.inl ⟨rfl,.inr (.inl ⟨q,q2⟩)⟩⟩
    ·by_cases q3:p.toNat=nc
     ·exact ⟨nc,Nat.le_refl _,.inl ⟨rfl,.inr (.inr (by omega))⟩⟩
     ·exact ⟨p.toNat,by omega,.inr ⟨by omega,q3⟩⟩
  obtain ⟨pp,hpn,hcl⟩:=hcl
  obtain ⟨ad0,had0,d0⟩:=HRw.out pp hpn
  cases had0
  have hst:=(HSm.out _ (getD_mem [] (show pp<sts.length by rw [HFu.out];omega))).1
  have hge:=HGe.out pp (by omega)
  have H3p:=Lib.hid (show ∀ w',Below W0.heap.size W0 w'→_ from fun w' hb'=>H3.out w' hb' pp hpn)
  have HRl:=Lib.hid (HAt.out pp hpn).2.1
  have hlast:∃ ln:List Ty,ln.length≤1∧(pp=nc→ln=sts.getD pp [])∧w1.cell? (ad.add nc)=some (.slice (rows.getD nc default).ao ln.length (rows.getD nc default).c):=by
   obtain ⟨ad2,had2,d2⟩:=HRw.out nc (Nat.le_refl _)
   cases had2
   exact ⟨_,HEn.out.2,fun q=>by rw [q],d2⟩
  obtain ⟨ln,hln1,hlnp,d2⟩:=hlast
  generalize sts.getD pp []=l at d0 hst hge H3p HRl hlnp
  have hng:¬ hig<l.length:=by omega
  have hnl:¬ (1:Int) < ln.length:=by omega
  have hpp0:¬ (pp:Int) < 0:=by omega
  obtain ⟨n2,hn2⟩:∃ n,n=l.length:=⟨_,rfl⟩
  rw [←hn2] at hst hge hng
  rw [←hn2] at d0
  have HN2:=Lib.hid hn2
  generalize (rows.getD pp default).ao=xo at d0 HRl
  generalize (rows.getD pp default).c=xc at d0 HRl
  have HD0:=Lib.hid d0
  clear hn2 HAt HRw
  rcases hcl with ⟨hpe,hq|⟨hq,hq2⟩|hq⟩|⟨hpe,hq⟩
  all_goals first
   | (subst hpe;have hlp:=(hlnp rfl).symm;subst hlp;have hng2:¬ (1:Int) < n2:=(by rw [HN2.out];exact hnl);clear d2 hnl hlnp;try subst hq)
   | (subst hpe;have hng2:¬ (pp:Int) > nc:=(by omega))
  all_goals
   go_upto_region 14 with (first
    | (go_at_call 31;have h9:=H4.out _ HB3.out;rw [HEo.out] at h9;refine h9.mono ?_;clear h9;rintro r w4 ⟨⟨lro,lrc,rfl,hown⟩,hb4⟩;have HLo:=Lib.hid (RowAt.of_own hown);have HB4:=Lib.hid (bthen HB3.out hb4);have HB4':=Lib.hid hb4;clear hown hb4 c0 c1 c2 c3;obtain ⟨c0,c1,c2,c3⟩:=HX.out _ HB4.out;rw [HEo.out] at c2;skip)
    | (go_at_call 26;have h9:=H2.out _ HB2.out;rw [HEo.out] at h9;refine h9.mono ?_;clear h9;rintro r w3 ⟨rfl,hb3⟩;have HB3:=Lib.hid (bthen HB2.out hb3);have HB3':=Lib.hid hb3;clear hb3 c0 c1 c2 c3;obtain ⟨c0,c1,c2,c3⟩:=HX.out _ HB3.out;rw [HEo.out] at c2)
    | (go_at_call 23;have h9:=H3p.out _ HB1.out;rw [HEo.out] at h9;refine h9.mono ?_;clear h9;rintro r w2 ⟨ro,rc,ro2,rc2,rfl,hr1,hr2,hb2⟩;have HR1:=Lib.hid hr1;have HR2:=Lib.hid hr2;have HB2:=Lib.hid (bthen HB1.out hb2);have HB2':=Lib.hid hb2;clear hr1 hr2 hb2 c0 c1 c2 c3;obtain ⟨c0,c1,c2,c3⟩:=HX.out _ HB2.out;rw [HEo.out] at c2))
   have hbx:Below w1.heap.size w1 w4:=bthen (bthen HB2'.out HB3'.out) HB4'.out
   have d0:=cell_bel hbx d0
   have d1:=cell_bel hbx d1
   have d1':=cell_bel hbx d1'
   try have d2:=cell_bel hbx d2
   obtain ⟨ea',heo,-,-,-,-,-,-,m6⟩:=HMt.out w4 (bthen HB0.out HB4.out)
   rw [HEo.out] at heo
   cases heo
   rw [←HNc.out] at m6
   have HBx:=Lib.hid hbx
   have HBr:=Lib.hid (bthen HB3'.out HB4'.out)
   clear hbx
   go_upto_region 16 with fail
   clear c0 c1 c2 c3 m6 d0 d1 d1'
   go_wp2
   go_loopw [22] (fun i wr=>∃ j:Nat,j≤lo.length∧i=.int .i64 j∧Below w4.heap.size w4 wr) (fun i _=>lo.length-(intOf i).toNat)
   case atStart=>exact ⟨0,by omega,rfl,Below.refl _ _⟩
   case round=>
    obtain ⟨j,hj,rfl,hbel⟩:=hrel
    have HL:=Lib.hid hbel
    clear hbel
    by_cases hjl:j<lo.length
    ·obtain ⟨lad,hlad,t0,-⟩:=row_ty (HLo.out.old HL.out) (i:=j) (by rw [←(Lib.hid (Eq.refl lo.length)).out];exact hjl)
     have hjn:(j:Int) < lo.length:=by omega
     have hwr:IntKind.i64.wrap ((j:Int)+1)=j+1:=IntWalk.i64_in _ (by omega)
     have hmm:=mem_refsV (l:=lo) (x:=j) (by rw [←(Lib.hid (Eq.refl lo.length)).out];exact hjl)
     generalize (lo.getD j default).k=tk at t0 hmm
     have HMm:=Lib.hid hmm
     subst hlad
     have HS:=Lib.hid (show ∀ w',Below wr.heap.size wr w'→Cs [(lad.add (j*2),.int .i64 tk)] w' from fun w' hb'=>⟨cell_bel hb' t0,trivial⟩)
     clear hmm t0
     have hcs:(tk=1∧(tk != 1)=false)∨(tk≠1∧(tk != 1)=true):=by by_cases q:tk=1<;>simp [q]
     rcases hcs with ⟨htk,hb1⟩|⟨htk,hb1⟩
     all_goals
      go_upto_region 19 with fail
      refine rO (Cs [(lad.add (j*2),.int .i64 tk)]) (.plain 0 (.plain 1 (.plain 2 (.plain 3 (.plain 4 (.plain 5 (.plain 6 (.plain 7 (.one 8 (.plain 9 (.plain 10 .done))))))))))) (HS.out _ (Below.drew (Below.refl _ _))) ?_
      repeat refine pO ?_
      refine oO fun Kv hK=>?_
      go_simp
      refine (place6_any (refsV lo) _ _ j _ (HR1.out.old (bthen (bthen HBr.out HL.out) (Below.drew (Below.refl _ _)))) (by have:=refsV_len lo;have:=(Lib.hid (Eq.refl lo.length)).out;omega)).mono ?_
      rintro r w7 ⟨rr,rfl,hrr,hb7⟩
      have HB7:=Lib.hid (show Below wr.heap.size wr w7 from bthen (Below.drew (Below.refl _ _)) hb7)
      refine hK _ _ ⟨HS.out _ HB7.out,?_⟩
      clear hK Kv hb7
      rw [HMm.out,hb1] at hrr
      have hrg:=hrr
      simp only [decide_eq_true_eq,decide_eq_false_iff_not] at hrg
      repeat refine pO ?_
      refine wpMixO_done ?_
      go_wp2
      go_roundw
      case rel=>exact ⟨j+1,by omega,by go_num,bthen HL.out HB7.out⟩
      case measure=>simp [intOf];omega
    ·have hjn:¬ (j:Int) < lo.length:=by omega
     have HBs:=Lib.hid (bthen HBr.out HL.out)
     have HBy:=Lib.hid (bthen HBx.out HL.out)
     have HBz:=Lib.hid (bthen HB4.out HL.out)
     have HD5:=Lib.hid (cell_bel HBy.out HD0.out)
     have hplt:(pp:Int) < rows.length:=by omega
     try have hplt2:(pp:Int) < (nc:Int)+1:=by omega
     try have hplt3:pp<nc+1:=by omega
     have hplt4:(pp:Int) < (pp:Int)+1:=by omega
     go_wp2
     go_loopw [23] (fun i wq=>∃ j:Nat,j≤n2∧i=.int .i64 j∧Below wr.heap.size wr wq) (fun i _=>n2-(intOf i).toNat)
     case atStart=>exact ⟨0,by omega,rfl,Below.refl _ _⟩
     case round=>
      obtain ⟨j,hj,rfl,hbel⟩:=hrel
      have HL:=Lib.hid hbel
      clear hbel
      have d0:=cell_bel HL.out HD5.out
      by_cases hjl:j<n2
      ·obtain ⟨lad,hlad,t0,-⟩:=row_ty (HRl.out.old (bthen HBy.out HL.out)) (i:=j) (by rw [←HN2.out];exact hjl)
       have hjn:(j:Int) < n2:=by omega
       have hwr:IntKind.i64.wrap ((j:Int)+1)=j+1:=IntWalk.i64_in _ (by omega)
       have hmm:=mem_refsV (l:=l) (x:=j) (by rw [←HN2.out];exact hjl)
       generalize (l.getD j default).k=tk at t0 hmm
       have HMm:=Lib.hid hmm
       subst hlad
       have HS:=Lib.hid (show ∀ w',Below wr.heap.size wr w'→Cs [(ad.add pp,.slice (some lad) n2 xc),(lad.add (j*2),.int .i64 tk)] w' from fun w' hb'=>⟨cell_bel hb' d0,cell_bel hb' t0,trivial⟩)
       clear hmm t0
       have hcs:(tk=1∧(tk != 1)=false)∨(tk≠1∧(tk != 1)=true):=by by_cases q:tk=1<;>simp [q]
       rcases hcs with ⟨htk,hb1⟩|⟨htk,hb1⟩
       all_goals
        go_upto_region 24 with fail
        refine rO (Cs [(ad.add pp,.slice (some lad) n2 xc),(lad.add (j*2),.int .i64 tk)]) (.plain 0 (.plain 1 (.plain 2 (.plain 3 (.plain 4 (.plain 5 (.plain 6 (.plain 7 (.plain 8 (.plain 9 (.plain 10 (.one 11 (.plain 12 (.plain 13 .done)))))))))))))) (HS.out _ (Below.drew (Below.refl _ _))) ?_
        repeat refine pO ?_
        refine oO fun Kv hK=>?_
        go_simp
        refine (place6_any (refsV l) _ _ j _ (HR2.out.old (bthen (bthen HBs.out HL.out) (Below.drew (Below.refl _ _)))) (by have:=refsV_len l;have:=HN2.out;omega)).mono ?_
        rintro r w7 ⟨rr,rfl,hrr,hb7⟩
        have HB7:=Lib.hid (show Below wr.heap.size wr w7 from bthen (Below.drew (Below.refl _ _)) hb7)
        refine hK _ _ ⟨HS.out _ HB7.out,?_⟩
        clear hK Kv hb7
        rw [HMm.out,hb1] at hrr
        have hrg:=hrr
        simp only [decide_eq_true_eq,decide_eq_false_iff_not] at hrg
        repeat refine pO ?_
        refine wpMixO_done ?_
        go_wp2
        go_roundw
        case rel=>exact ⟨j+1,by omega,by go_num,bthen HL.out HB7.out⟩
        case measure=>simp [intOf];omega
      ·have hjn:¬ (j:Int) < n2:=by omega
       have d9:=0
       go_wp2_with (go_at_call 14;refine (sane6_any _).mono ?_;rintro r w8 ⟨rfl,hb8⟩)
       go_ret
       exact ret_ok rfl (bthen HB0.out (bthen HBz.out (bthen HL.out hb8)))
 ·have h2:∀ w',Below W0.heap.size W0 w'→_:=fun w' hb'=>rMeth6_any h m k w' (H.old (bthen hb0 hb'))
  generalize methodV m k=q at h1 h2 he
  obtain ⟨sts,pl,er⟩:=q
  dsimp only at he
  have hn0:(er != 0)=true:=by simpa using he
  have H1:=Lib.hid h1
  have H2:=Lib.hid h2
  clear h1 h2 x0 hW0 hb0 H
  go_enter Tryz.func10,Tryz.ntmps10
  go_upto_region 1 with fail
  rw [←HW.out]
  obtain ⟨c0,c1,c2,c3⟩:=HX.out _ (Below.refl _ _)
  go_wp2_with (first
   | (go_at_call 14;refine (sane6_any _).mono ?_;rintro r w4 ⟨rfl,hb4⟩)
   | (go_at_call 12;refine (H2.out _ HB1.out).mono ?_;rintro r w2 ⟨⟨so2,sc2,rows2,rfl,hs⟩,hb2⟩;have HB2:=Lib.hid (bthen HB1.out hb2);clear hs hb2)
   | (go_at_call 11;refine (H1.out _ (Below.refl _ _)).mono ?_;rintro r w1 ⟨⟨so,sc,rows,rfl,hs⟩,hb1⟩;have HB1:=Lib.hid hb1;clear hs hb1 c0 c1 c2 c3;obtain ⟨c0,c1,c2,c3⟩:=HX.out _ HB1.out))
  go_ret
  exact ret_ok rfl (bthen HB0.out (bthen HB2.out hb4))
end
end Go.Proofs.YtkdamjpbnmbeoaaGreat
