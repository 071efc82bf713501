/- Joined texts. The first: The reference's Check of a module: types, classes above. -/
import Derived.Test.YtfkbfjhocmbneaaGreatG2
import Derived.Test.YtfkbfjhocmbneaaGreatG4
import Derived.Test.YtfkbfjhocmbneaaGreatG1
import Derived.LoopTactic
import Derived.Deep.Cut
import Derived.Deep.CutRange
import Derived.Deep.RegionHeld
import Derived.ArgAppend
set_option linter.all false
set_option linter.unusedVariables false
set_option linter.unusedSimpArgs false
set_option maxRecDepth 100000
set_option maxHeartbeats 8000000
namespace Go.Proofs.YtfkbfjhocmbneaaGreat
theorem k5{p:Prop}(h:p:=by
 go_wp2
 go_quiet (fail)
 go_wp2
 go_quiet (fail)
 go_wp2_with (at_builtin;refine wpList_append_sl rfl (.tmp 45) (.tmp 48) 29 rfl wr.heap.size 3 1 8 elIntV _ 0 [] rfl (own_emptyV _ _ _ _ (Nat.le_refl _) (Blk.new _ _ _)) _ _ _ ([]) rfl (sla_zeroV _ _ _) (by intro u hu;simp at hu) (by omega) (by unfold maxLen;omega) (by simp) ?_;intro ao1 cap1 w5 hown5 hg5)
 have hb5:=bgrown (show Below w.heap.size w _ from bal (bdrewN HB2.out _) _) hg5 (fun j hj=>by cases hj;exact HB2.out.size)
 have hO5:=own_grownV ((show (wr.drewN _).ownsRow _ _ _ _ _ _ from HO2.out).alloc _) hg5 (fun b hb=>by cases hb;exact fun h=>absurd (Option.some.inj h) (Nat.ne_of_lt (own_ltV HO2.out)))
 simp only [Nat.zero_add,List.nil_append] at hown5
 have HO5:=Lib.hid hown5
 have HP5:=Lib.hid hO5
 have HB5:=Lib.hid hb5
 have hNw:=hg5.size
 clear hown5 hO5 hb5 hg5
 have hS:∀ w',Below w.heap.size w w'→w'.cell? (ad.add k)=some (.int .i64 x):=fun w' hb=>by obtain ⟨ad',hadd,t0⟩:=row_int (HL.out.old hb) hkl;obtain rfl:=Option.some.inj hadd;rw [HX.out] at t0;exact t0
 have HS:=Lib.hid hS
 have t5:=hS _ HB5.out
 clear hS
 refine rO (fun w'=>w'.cell? (ad.add k)=some (.int .i64 x)) (oL [0,1,2,3,4,5,6,7,10,108,109,111,12]) (HS.out w5.drew HB5.out.drew) ?_
 repeat refine pO ?_
 refine oO fun K hK=>?_
 go_simp
 refine hK _ _ ⟨HS.out _ (bal HB5.out.drew _),?_⟩
 clear hK K
 refine oO fun K hK=>?_
 refine wp_append_growx (.tmp 53) (.tmp 58) 29 rfl 3 1 8 elIntV _ zs.length _ ((zs.take zs.length).map (Value.int .i64)) rfl (SlA.alloc (w:=w5.drew) (sla_headV HP5.out (Nat.le_refl _) _) _) _ 1 1 [.int .i64 x] rfl (sla_blkV (Blk.new w5.drew #[.int .i64 x] 3) rfl) (by intro u hu;rw [List.mem_singleton.1 hu];rfl) (by decide) (by omega) (by omega) (by unfold maxLen;omega) ?_
 intro ao2 cap2 w6 hown6 hg6
 have hb6:=bgrown (bal HB5.out.drew _) hg6 (fun j hj=>by cases hj)
 have hO6:=own_grownV (World.ownsRow.alloc (w:=w5.drew) HO5.out (.cells #[.int .i64 x] 3)) hg6 (fun b hb h=>by cases h)
 have hw6:=hg6.size
 have HO6:=Lib.hid hO6
 have HP6:=Lib.hid hown6
 have HB6:=Lib.hid hb6
 clear hO6 hown6 hb6 hg6
 refine hK _ _ ⟨HS.out _ HB6.out,?_⟩
 clear hK K
 refine oO fun K hK=>?_
 refine wp_append_slx (.tmp 59) (.tmp 60) 29 rfl _ 3 1 8 elIntV _ (zs.length+1) _ rfl HP6.out _ _ _ _ rfl (ownsRow_slA HO6.out).2 (by intro u hu;simp at hu) (by omega) (by unfold maxLen;omega) hw6 ?_
 intro ao3 cap3 w7 hown7 hg7
 have hsz:w.heap.size≤(w5.alloc (.cells #[.int .i64 x] 3)).drew.heap.size:=(bal HB5.out (.cells #[.int .i64 x] 3)).size
 have hb7:=bgrown HB6.out hg7 (fun j hj=>Nat.le_trans hsz (HP6.out.lt j hj).1)
 have hO7:=own_baseV hown7 hsz
 have HO7:=Lib.hid hO7
 have HB7:=Lib.hid hb7
 clear hO7 hown7 hb7 hg7
 refine hK _ _ ⟨HS.out _ HB7.out,?_⟩
 clear hK K
 repeat refine pO ?_
 refine wpMixO_done ?_
 go_wp2
 go_roundw
 case rel=>
  have hlen:(srtL l (k+1)).length=zs.length+1:=by rw [HSu.out,HIns.out];simp
  exact k53
 case measure=>simp [intOf];omega):p:=h
theorem k26{p:Prop}(h:p:=by
 rw [←HW.out]
 repeat refine pO ?_
 refine wpMixO_done ?_
 go_wp2_with (go_at_call 219;refine (fail_any K h m _ _ _ e 11 W1.drew HC.out).mono ?_;rintro e w2 ⟨⟨v,rfl⟩,hc,hu⟩;have hx:=Blk.upd (w:=W1.drew) HX1.out hu (by omega) (by omega);have y0:=hx.cell 0 (v:=.int .i64 0) rfl;have y1:=hx.cell 1 (v:=.int .i64 0) rfl;have g0:=hx.frozen 0;have g1:=hx.frozen 1)
 refine bodyPost_ret (v:=.agg #[.int .i64 0,.int .i64 0]) (by simp [results,Tryz.results225,go_sem,y0,y1]) rfl ⟨rfl,?_,?_⟩
 ·exact (Ck.other (Ck.other (hc) (by omega) 0 _) (by omega) 1 _)
 ·exact (((Upd.of HB0.out).drew.trans hu).setN (by omega) 0 _).setN (by omega) 1 _):p:=h
theorem k37{p:Prop}(h:p:=by
 have hq:cntOk sn takes pushes bz=false:=by unfold cntOk;grind
 rw [hq]
 clear hq
 go_enter Tryz.func180,Tryz.ntmps180
 go_wp2_with (first|(go_at_call 221;refine HF.out.mono ?_;rintro e w1 ⟨rfl,hb⟩)|(go_at_call 219;refine (fail_any K h m L _ _ e 12 _ (HH.out.old hb)).mono ?_;rintro e w2 ⟨⟨v,rfl⟩,hc,hu⟩))
 go_ret
 exact ⟨rfl,hc,(Upd.of hb).trans hu⟩):p:=h
theorem k38{p:Prop}(h:p:=by
 have h4:=own_baseV HO4.out (base':=w.heap.size) (by have:=HBxl.out;omega)
 refine ⟨⟨ao4,cap4,?_,?_⟩,HB4.out⟩
 ·rw [HQ.out,if_neg (show ¬ 0≤c by have:=HC.out;omega)];simp
 ·rw [HQ.out,if_neg (show ¬ 0≤c by have:=HC.out;omega),flatR_append,flatR_append]
  have e:(([]:List Ty)++pl++ll).length=0+pl.length+ll.length:=by simp
  rw [e]
  exact h4):p:=h
theorem k42{p:Prop}(h:p:=by
 have h4:=own_baseV HO4.out (base':=w.heap.size) (by have:=HBxl.out;omega)
 refine ⟨⟨ao4,cap4,?_,?_⟩,HB4.out⟩
 ·rw [HQ.out,if_pos HC.out];simp;omega
 ·rw [HQ.out,if_pos HC.out,flatR_append,flatR_append]
  have e:(([⟨2,c⟩]:List Ty)++pl++ll).length=1+pl.length+ll.length:=by simp;omega
  rw [e]
  exact h4):p:=h
theorem k53{p:Prop}(h:p:=by
 refine ⟨k+1,ao3,cap3,by omega,by go_num,by rw [hlen],?_,HB7.out⟩
 rw [hlen,HSu.out,HIns.out]
 have h7:=HO7.out
 simpa using h7):p:=h
section
open Go.RowKit
attribute [local go_sem] World.cell?_alloc_some
theorem bcellV {w w':World}{a:Addr}{v:Value} (hb:Below w.heap.size w w') (h:w.cell? a=some v):w'.cell? a=some v:=by rw [hb.cell (cell_lt h)];exact h
theorem rIsType_any (m:Md) (h:Hd) (t:Ty) (least:Int) (w:World) (hl:0≤least∧least≤1):Calls Tryz.prog 190 #[.agg #[.slice h.co m.cl.length h.cc,.slice h.so m.st.length h.sc,.slice h.eo m.me.length h.ec,.int .i64 m.sel],.agg #[.int .i64 t.k,.int .i64 t.c],.int .i64 least] w (Ret w (.bool (isTy m.cl.length t least))):=by
 go_enter Tryz.func190,Tryz.ntmps190
 go_wp2
 all_goals
  go_ret
  exact ret_ok (bool_eq (by grind [isTy])) bE
theorem tysV_no {n:Nat}{l:List Ty}{k:Nat} (hk:k<l.length) (h:isTy n (l.getD k default) 1=false):tysV n l=false:=by
 unfold tysV
 rw [List.all_eq_false]
 exact ⟨l.getD k default,by rw [List.getD_eq_getElem?_getD,List.getElem?_eq_getElem hk];exact List.getElem_mem hk,by rw [h];decide⟩
theorem tysV_ok {n:Nat}{l:List Ty} (h:∀ i,i<l.length→isTy n (l.getD i default) 1=true):tysV n l=true:=by
 unfold tysV
 rw [List.all_eq_true]
 intro t ht
 obtain ⟨k,hk,rfl⟩:=List.getElem_of_mem ht
 have:=h k hk
 rwa [List.getD_eq_getElem?_getD,List.getElem?_eq_getElem hk] at this
theorem rTypes_any (m:Md) (h:Hd) (l:List Ty) (ao:Option Addr) (cap:Nat) (w:World) (hl:RowAt w ao cap l) (hm:l.length≤1000000):Calls Tryz.prog 135 #[.agg #[.slice h.co m.cl.length h.cc,.slice h.so m.st.length h.sc,.slice h.eo m.me.length h.ec,.int .i64 m.sel],.slice ao l.length cap] w (Ret w (.bool (tysV m.cl.length l))):=by
 have hX:=Blk.new w #[.slice h.co m.cl.length h.cc,.slice h.so m.st.length h.sc,.slice h.eo m.me.length h.ec,.int .i64 m.sel] 26
 have hb0:Below w.heap.size w (w.alloc (.cells #[.slice h.co m.cl.length h.cc,.slice h.so m.st.length h.sc,.slice h.eo m.me.length h.ec,.int .i64 m.sel] 26)):=by exact bE
 have HX:=Lib.hid hX
 have HL:=Lib.hid (hl.old hb0)
 have HB0:=Lib.hid hb0
 clear hX hl hb0
 go_enter Tryz.func135,Tryz.ntmps135
 go_upto_region 1 with fail
 generalize w.alloc (.cells #[.slice h.co m.cl.length h.cc,.slice h.so m.st.length h.sc,.slice h.eo m.me.length h.ec,.int .i64 m.sel] 26)=w0 at HX HL HB0 ⊢
 go_wp2_with fail
 go_loopw [5] (fun i wr=>∃ k:Nat,k≤l.length∧i=.int .i64 k∧Below w0.heap.size w0 wr∧Hid (∀ i,i<k→isTy m.cl.length (l.getD i default) 1=true)) (fun i _=>l.length-(intOf i).toNat)
 case atStart=>exact ⟨0,by omega,rfl,Below.refl _ _,Lib.hid (by omega)⟩
 case round=>
  obtain ⟨k,hk,rfl,hbl,q1⟩:=hrel
  by_cases hkl:k<l.length
  ·obtain ⟨ad,rfl,x0,x1⟩:=row_ty (HL.out.old hbl) hkl
   have hX2:=HX.out.old hbl
   have r0:wr.cell? ⟨w.heap.size,0,none⟩=some (.slice h.co m.cl.length h.cc):=hX2.cell 0 rfl
   have r1:wr.cell? ⟨w.heap.size,1,none⟩=some (.slice h.so m.st.length h.sc):=hX2.cell 1 rfl
   have r2:wr.cell? ⟨w.heap.size,2,none⟩=some (.slice h.eo m.me.length h.ec):=hX2.cell 2 rfl
   have r3:wr.cell? ⟨w.heap.size,3,none⟩=some (.int .i64 m.sel):=hX2.cell 3 rfl
   have rl:=hX2.lt
   have hkl2:(k:Int) < l.length:=by omega
   have hwr:IntKind.i64.wrap ((k:Int)+1)=k+1:=IntWalk.i64_in _ (by omega)
   generalize ht:l.getD k default=t at x0 x1
   have HT:=Lib.hid ht
   have HBL:=Lib.hid hbl
   clear ht hbl hX2
   have hcall:=fun w'=>rIsType_any m h t 1 w' (by omega)
   generalize hq:isTy m.cl.length t 1=q at hcall
   have HQ:=Lib.hid hq
   have HC:=Lib.hid hcall
   clear hq hcall
   go_upto_region 4 with fail
   refine rO (fun w'=>w'.cell? ⟨w.heap.size,0,none⟩=some (.slice h.co m.cl.length h.cc)∧w'.cell? ⟨w.heap.size,1,none⟩=some (.slice h.so m.st.length h.sc)∧w'.cell? ⟨w.heap.size,2,none⟩=some (.slice h.eo m.me.length h.ec)∧w'.cell? ⟨w.heap.size,3,none⟩=some (.int .i64 m.sel)∧w'.cell? (ad.add (k*2))=some (.int .i64 t.k)∧w'.cell? ⟨(ad.add (k*2)).block,(ad.add (k*2)).off+1,none⟩=some (.int .i64 t.c)) (oL [0,1,2,3,4,105,6]) ⟨r0,r1,r2,r3,x0,x1⟩ ?_
   repeat refine pO ?_
   refine oO fun K hK=>?_
   go_simp
   refine (HC.out _).mono ?_
   rintro e w2 ⟨rfl,hb2⟩
   have hb2':Below wr.heap.size wr w2:=bthen (Below.refl _ _).drew hb2
   go_simp
   refine hK _ _ ⟨⟨bcellV hb2' r0,bcellV hb2' r1,bcellV hb2' r2,bcellV hb2' r3,bcellV hb2' x0,bcellV hb2' x1⟩,?_⟩
   clear hK K
   repeat refine pO ?_
   refine wpMixO_done ?_
   have HBL2:=Lib.hid (bthen HBL.out hb2')
   clear hb2 hb2'
   rcases q with _|_
   ·go_wp2
    go_ret
    exact ret_ok (bool_eq (tysV_no hkl (by rw [HT.out];exact HQ.out)).symm) (bthen HB0.out HBL2.out)
   ·go_wp2
    go_roundw
    case rel=>
     refine ⟨k+1,by omega,by go_num,HBL2.out,Lib.hid fun i hi=>?_⟩
     by_cases hik:i<k
     ·exact q1.out i hik
     ·obtain rfl:i=k:=by omega
      rw [HT.out];exact HQ.out
    case measure=>simp [intOf];omega
  ·go_wp2
   go_ret
   exact ret_ok (bool_eq (tysV_ok fun i hi=>q1.out i (by omega)).symm) (bthen HB0.out hbl)
theorem eqTyR_no {a b:List Ty}{k:Nat} (h:a.getD k default≠b.getD k default):¬ a=b:=fun e=>h (by rw [e])
theorem eqTyR_ok {a b:List Ty} (h:a.length=b.length) (h1:∀ i,i<a.length→a.getD i default=b.getD i default):a=b:=by
 exact k90
theorem rSameTypes_any (a b:List Ty) (ao bo:Option Addr) (ac bc:Nat) (w:World) (ha:RowAt w ao ac a) (hb:RowAt w bo bc b) (hm:a.length≤1000000):Calls Tryz.prog 62 #[.slice ao a.length ac,.slice bo b.length bc] w (Ret w (.bool (decide (a=b)))):=by
 by_cases hlen:a.length=b.length
 · have HA:=Lib.hid ha
   have HB:=Lib.hid hb
   have HLn:=Lib.hid hlen
   have hb3:((a.length:Int) != b.length)=false:=by simp [hlen]
   clear ha hb hlen
   go_enter Tryz.func62,Tryz.ntmps62
   go_wp2
   go_loopw [5] (fun i wr=>∃ k:Nat,k≤a.length∧i=.int .i64 k∧Below w.heap.size w wr∧Hid (∀ i,i<k→a.getD i default=b.getD i default)) (fun i _=>a.length-(intOf i).toNat)
   case atStart=>exact ⟨0,by omega,rfl,Below.refl _ _,Lib.hid (by omega)⟩
   case round=>
     obtain ⟨k,hk,rfl,hbel,q1⟩:=hrel
     have HL:=Lib.hid hbel
     clear hbel
     by_cases hkl:k<a.length
     · obtain ⟨ad,rfl,x0,x1⟩:=row_ty (HA.out.old HL.out) hkl
       obtain ⟨bd,rfl,y0,y1⟩:=row_ty (HB.out.old HL.out) (i:=k) (by have:=HLn.out;omega)
       have hkb:(k:Int) < b.length:=by have:=HLn.out;omega
       have hka:(k:Int) < a.length:=by omega
       have hwr:IntKind.i64.wrap ((k:Int)+1)=k+1:=IntWalk.i64_in _ (by omega)
       generalize hx:a.getD k default=x at x0 x1
       generalize hy:b.getD k default=y at y0 y1
       have HX:=Lib.hid hx
       have HY:=Lib.hid hy
       clear hx hy
       have hne:=neqTy
       have hgu:=guardTy
       obtain ⟨xk,xc⟩:=x
       obtain ⟨yk,yc⟩:=y
       dsimp only at x0 x1 y0 y1
       go_wp2
       go_quiet (fail)
       go_wp2
       all_goals first
         | (go_ret
            have hh:¬ ((⟨xk,xc⟩:Ty)=⟨yk,yc⟩):=by simp only [Ty.mk.injEq];grind
            exact ret_ok (bool_eq (decide_eq_false (eqTyR_no (k:=k) (by rw [HX.out,HY.out];exact hh))).symm) (bdrewN HL.out _))
         | (go_roundw
            case rel=>
              refine ⟨k+1,by omega,by go_num,bdrewN HL.out _,Lib.hid fun i hi=>?_⟩
              by_cases hik:i<k
              · exact q1.out i hik
              · obtain rfl:i=k:=by omega
                rw [HX.out,HY.out,Ty.mk.injEq]
                grind
            case measure=>simp [intOf];omega)
     · go_wp2
       go_ret
       exact ret_ok (bool_eq (decide_eq_true (eqTyR_ok HLn.out fun i hi=>q1.out i (by omega))).symm) HL.out
 · have hb3:((a.length:Int) != b.length)=true:=by simp;omega
   go_enter Tryz.func62,Tryz.ntmps62
   go_wp2
   go_ret
   exact ret_ok (bool_eq (decide_eq_false fun e=>hlen (by rw [e])).symm) bE
theorem rAbove_any (m:Md) (h:Hd) (a b:Int) (w:World) (H:ModAt w h m) (ha:a<m.cl.length) (hd:Desc m (a.toNat+1)):Calls Tryz.prog 189 #[.agg #[.slice h.co m.cl.length h.cc,.slice h.so m.st.length h.sc,.slice h.eo m.me.length h.ec,.int .i64 m.sel],.int .i64 a,.int .i64 b] w (Ret w (.bool (aboveR m (m.cl.length+1) a b))):=by
 obtain ⟨q,hq⟩:∃ q,q=aboveR m (m.cl.length+1) a b:=⟨_,rfl⟩
 rw [←hq]
 have HQ:=Lib.hid hq
 have hbz:=H.bz
 clear hq
 have hbel:=(Below.refl w.heap.size w).alloc (Nat.le_refl _) (.cells #[.slice h.co m.cl.length h.cc,.slice h.so m.st.length h.sc,.slice h.eo m.me.length h.ec,.int .i64 m.sel] 26)
 have HM1:=Lib.hid (H.old hbel)
 have HD:=Lib.hid hd
 clear H hd
 obtain ⟨co,cc,so,sc,eo,ec,hc,he⟩:=h;dsimp only
 dsimp only at HM1 hbel
 go_enter Tryz.func189,Tryz.ntmps189
 go_wp2
 go_loop [1,7] (fun x i=>∃ (k:Int) (f:Nat),x=.int .i64 k∧i=.int .i64 f∧f≤m.cl.length+1∧k≤a∧aboveR m (m.cl.length+1-f) k b=q) (fun _ i=>m.cl.length+2-(intOf i).toNat)
 case atStart=>exact ⟨a,0,rfl,rfl,by omega,by omega,HQ.out.symm⟩
 case round=>
  obtain ⟨k,f,rfl,rfl,hf,hka,hkq⟩:=hrel
  have HK:=Lib.hid hkq
  clear hkq
  by_cases hfl:f≤m.cl.length
  ·have hfi:(f:Int)≤m.cl.length:=by omega
   by_cases hk0:0≤k
   ·have hk1:k ≥ 0:=hk0
    obtain ⟨c,rfl⟩:∃ c:Nat,k=c:=⟨k.toNat,by omega⟩
    have hwr:IntKind.i64.wrap ((f:Int)+1)=f+1:=IntWalk.i64_in _ (by omega)
    have hcl:(c:Int) < m.cl.length:=by omega
    obtain ⟨ad,hco,e0,e1,e2,e3⟩:=HM1.out.cls (i:=c) (by omega)
    dsimp only at hco
    subst hco
    clear e0 e2 e3
    have hs:=HD.out c (by omega) (by omega)
    have hs':m.sup c=(m.cl.getD c default).sup:=rfl
    generalize (m.cl.getD c default).sup=s at e1 hs'
    have HS:=Lib.hid hs'
    clear hs'
    rw [HS.out] at hs
    by_cases hcb:(c:Int)=b
    ·subst hcb
     go_wp2
     go_ret
     refine ret_ok (bool_eq ?_) bE
     have h1:=HK.out
     rw [show m.cl.length+1-f=(m.cl.length-f)+1 by omega,aboveR,if_neg (by omega),if_pos rfl] at h1
     exact h1
    ·have hcb2:((c:Int) == b)=false:=by simp;omega
     go_wp2
     go_round
     case rel=>
      refine ⟨s,f+1,rfl,by go_num,by omega,by omega,?_⟩
      have h1:=HK.out
      rw [show m.cl.length+1-f=(m.cl.length-f)+1 by omega,aboveR,if_neg (by omega),if_neg hcb,HS.out] at h1
      rw [←h1,show m.cl.length+1-(f+1)=m.cl.length-f by omega]
     case measure=>simp [intOf];omega
   ·have hk1:¬ k ≥ 0:=hk0
    go_wp2
    go_ret
    refine ret_ok (bool_eq ?_) bE
    have h1:=HK.out
    rw [show m.cl.length+1-f=(m.cl.length-f)+1 by omega,aboveR,if_pos (by omega)] at h1
    exact h1
  ·have hfi:¬ (f:Int)≤m.cl.length:=by omega
   go_wp2
   go_ret
   refine ret_ok (bool_eq ?_) bE
   have h1:=HK.out
   rw [show m.cl.length+1-f=0 by omega,aboveR] at h1
   exact h1
end
section
open Go.RowKit
attribute [local go_sem] World.cell?_alloc_some
def srtL (l:List Int) (k:Nat):List Int:=sortV (l.take k)
theorem srtL_len (l:List Int) (k:Nat):(srtL l k).length≤k:=by
 have:=sortV_len (l.take k)
 rw [List.length_take] at this
 unfold srtL;omega
theorem srtL_succ {l:List Int}{k:Nat} (h:k<l.length):srtL l (k+1)=insV1 (l.getD k 0) (srtL l k):=by
 have e:l.take (k+1)=l.take k++[l.getD k 0]:=by rw [List.take_succ_eq_append_getElem h];simp [h]
 unfold srtL sortV
 rw [e,List.foldl_append]
 rfl
theorem insV1_at (n:Int):∀ (zs:List Int) (a:Nat),a≤zs.length→(∀ j,j<a→zs.getD j 0<n)→(a<zs.length→¬ zs.getD a 0<n)→insV1 n zs=if a<zs.length∧zs.getD a 0=n then zs else zs.take a++n :: zs.drop a:=by
 intro zs
 induction zs with
 | nil=>
     intro a ha _ _
     obtain rfl:a=0:=by simpa using ha
     rfl
 | cons z r ih=>
  intro a ha h1 h2
  cases a with
  | zero=>
   have h3:¬ z<n:=by simpa using h2 (by simp)
   unfold insV1
   rw [if_neg h3]
   simp
  | succ a=>
   have h3:z<n:=by simpa using h1 0 (by omega)
   have h4:=ih a (by simpa using ha) (fun j hj=>by simpa using h1 (j+1) (by omega)) (fun h=>by simpa using h2 (by simpa using h))
   unfold insV1
   rw [if_pos h3,h4]
   simp only [List.length_cons,List.getD_cons_succ,List.take_succ_cons,List.drop_succ_cons,List.cons_append]
   by_cases hc:a<r.length∧r.getD a 0=n
   ·rw [if_pos hc,if_pos ⟨by omega,hc.2⟩]
   ·rw [if_neg hc,if_neg (fun h=>hc ⟨by omega,h.2⟩)]
def RetOwnI (W:World) (l:List Int):Ending→World→Prop:=fun e w'=>(∃ ao cap,e=.returned (.slice ao l.length cap)∧w'.ownsRow W.heap.size 3 1 (.slice ao l.length cap) l.length (l.map (Value.int .i64)))∧Below W.heap.size W w'
theorem own_grownV {w w':World}{base:Nat}{e:TypeId}{size:Nat}{v:Value}{n:Nat}{xs:List Value}{row:Option Nat} (h:w.ownsRow base e size v n xs) (hg:w.grownBy w' row) (hne:∀ b,v.ownBlock=some b→some b≠row):w'.ownsRow base e size v n xs:=by
 obtain ⟨h1,h2⟩:=h
 refine ⟨h1,?_⟩
 rcases h2 with h2|⟨g,cap,cur,hv,hb,hh,h3⟩
 ·exact .inl h2
 ·subst hv
  exact .inr ⟨g,cap,cur,rfl,hb,Blk.grownV (t:=e) hh hg (hne g rfl),h3⟩
theorem own_emptyV (w:World) (t:TypeId) (base b:Nat) (hb:base≤b) (h:Blk w b #[] t):w.ownsRow base t 1 (.slice (some ⟨b,0,none⟩) 0 0) 0 []:=
 ⟨rfl,.inr ⟨b,0,#[],rfl,hb,h,Nat.le_refl _,by unfold maxLen;omega,rfl,rfl⟩⟩
theorem own_baseV {w:World}{base base':Nat}{e:TypeId}{size:Nat}{v:Value}{n:Nat}{xs:List Value} (h:w.ownsRow base e size v n xs) (hb:base'≤base):w.ownsRow base' e size v n xs:=by
 obtain ⟨h1,h2⟩:=h
 refine ⟨h1,?_⟩
 rcases h2 with h2|⟨g,cap,cur,hv,hg,h3⟩
 ·exact .inl h2
 ·exact .inr ⟨g,cap,cur,hv,Nat.le_trans hb hg,h3⟩
theorem sla_headV {w:World}{base:Nat}{e:TypeId}{g n cap:Nat}{zs:List Int} (h:w.ownsRow base e 1 (.slice (some ⟨g,0,none⟩) n cap) n (zs.map (Value.int .i64))) {a:Nat} (ha:a≤n) (c:Nat):SlA w 1 (some ⟨g,0,none⟩) a c ((zs.take a).map (Value.int .i64)):=by
 have hz:zs.length=n:=by simpa using h.1
 refine ⟨by simp [hz,ha],(fun h=>by cases h),fun j u hu=>⟨_,rfl,?_⟩⟩
 have hadd:(⟨g,0,none⟩:Addr).add j=⟨g,j,none⟩:=by unfold Addr.add;split<;>simp_all
 rw [hadd]
 refine own_atV h (by simpa using hz) j ?_
 rw [List.getElem?_map,List.getElem?_take] at hu
 split at hu
 ·rw [List.getElem?_map];exact hu
 ·simp at hu
theorem wp_append_growx {P:Program}{w:World}{o:Oper}{a:Act}{K:Act→World→Prop}{Q:Exit→Act→World→Prop} (s x:Operand) (t:TypeId)
  (ho:o.op=.call { callee:=.builtin .append,args:=#[s,x],argTypes:=#[t,t] })
  (e:TypeId) (size bytes:Nat) (hel:El P t e size bytes)
  (ao:Option Addr) (n cap:Nat) (olds:List Value) (hs:a.eval s=.slice ao n cap) (hol:SlA w size ao n cap olds)
  (bo:Option Addr) (m c:Nat) (news:List Value) (hx:a.eval x=.slice bo m c) (hsl:SlA w size bo m c news) (h1:∀ u∈news,u.oneCell'=true) (hm:0<m) (hfull:cap<n+m)
  (hbytes:(n+m)*bytes≤140737488355328) (h63:n+m≤maxLen)
  (h:∀ ao' cap' w',w'.ownsRow w.heap.size e size (.slice ao' (n+m) cap') (n+m) (olds++news)→w.grownBy w' none→K (a.put o.dst (.slice ao' (n+m) cap')) w'):o.wp P a w K Q:=by
 obtain ⟨i,z,hi,hz,hsize,hby,hzs⟩:=hel.info
 have hK:∀ v' w',w'.ownsRow w.heap.size e size v' (n+m) (olds++news)→w.grownBy w' none→K (a.put o.dst v') w':=by
  intro v' w' hown' hg
  exact k99
 cases bo with
 | none=>have:=(hsl.2.1 rfl).1;omega
 | some ad=>
  have hc:∀ j u,news[j]?=some u→w.cell? (ad.add j)=some u:=fun j u hu=>by
   obtain ⟨a',ha',hc⟩:=hsl.2.2 j u hu
   obtain rfl:=Option.some.inj ha'
   exact hc
  cases ao with
  | some b=>
   obtain ⟨v',w',hrun,r1,r2⟩:=run_append_arg_grows (P:=P) w t o.type e i z size bytes hel.und hi hz hsize hby hzs hel.pos b n cap olds hol.1 (fun j u hu=>by
    obtain ⟨a',ha',hc⟩:=hol.2.2 j u hu
    obtain rfl:=Option.some.inj ha'
    exact hc) ad m c news hsl.1 hc hfull h63 hbytes
   unfold Oper.wp
   simp [execOp,ho,resolve,invoke,builtin,hs,hx,hrun,Result.andThen]
   exact hK v' w' r1 r2
  | none=>
   obtain ⟨rfl,rfl⟩:=hol.2.1 rfl
   obtain rfl:olds=[]:=List.eq_nil_of_length_eq_zero (by simpa using hol.1)
   obtain ⟨v',w',hrun,r1,r2,_⟩:=run_append_own (P:=P) w w.heap.size t o.type e i z size bytes hel.und hi hz hsize hby hzs hel.pos (.slice none 0 0) 0 [] (World.ownsRow_nil w _ e size) ad m c news hsl.1 hc h1 h63 hbytes (Nat.le_refl _)
   unfold Oper.wp
   simp [execOp,ho,resolve,invoke,builtin,hs,hx,hrun,Result.andThen]
   exact hK v' w' r1 r2
theorem sla_dropV {w:World}{base:Nat}{e:TypeId}{g n cap:Nat}{zs:List Int} (h:w.ownsRow base e 1 (.slice (some ⟨g,0,none⟩) n cap) n (zs.map (Value.int .i64))) {a:Nat} (ha:a≤n) (c:Nat):SlA w 1 (some ⟨g,a,none⟩) (n-a) c ((zs.drop a).map (Value.int .i64)):=by
 have hz:zs.length=n:=by simpa using h.1
 refine ⟨by simp [hz],(fun h=>by cases h),fun j u hu=>⟨_,rfl,?_⟩⟩
 have hadd:(⟨g,a,none⟩:Addr).add j=⟨g,a+j,none⟩:=by unfold Addr.add;split<;>simp_all
 rw [hadd]
 refine own_atV h (by simpa using hz) (a+j) ?_
 rw [List.getElem?_map,List.getElem?_drop] at hu
 rw [List.getElem?_map]
 exact hu
theorem sla_zeroV (w:World) (p:Addr) (c:Nat):SlA w 1 (some p) 0 c []:=⟨rfl,(fun h=>by cases h),fun j u hu=>by simp at hu⟩
theorem sla_nilV (w:World):SlA w 1 none 0 0 []:=⟨rfl,fun _=>⟨rfl,rfl⟩,fun j u hu=>by simp at hu⟩
theorem wp_append_slx {P:Program}{w:World}{o:Oper}{a:Act}{K:Act→World→Prop}{Q:Exit→Act→World→Prop} (s x:Operand) (t:TypeId)
  (ho:o.op=.call { callee:=.builtin .append,args:=#[s,x],argTypes:=#[t,t] })
  (base:Nat) (e:TypeId) (size bytes:Nat) (hel:El P t e size bytes)
  (v:Value) (n:Nat) (xs:List Value) (hs:a.eval s=v) (hown:w.ownsRow base e size v n xs)
  (bo:Option Addr) (m c:Nat) (news:List Value) (hx:a.eval x=.slice bo m c) (hsl:SlA w size bo m c news) (h1:∀ u∈news,u.oneCell'=true)
  (hbytes:(n+m)*bytes≤140737488355328) (h63:n+m≤maxLen) (hbase:base≤w.heap.size)
  (h:∀ ao' cap' w',w'.ownsRow base e size (.slice ao' (n+m) cap') (n+m) (xs++news)→w.grownBy w' v.ownBlock→K (a.put o.dst (.slice ao' (n+m) cap')) w'):o.wp P a w K Q:=by
 obtain ⟨i,z,hi,hz,hsize,hby,hzs⟩:=hel.info
 cases bo with
 | none=>
  obtain ⟨rfl,rfl⟩:=hsl.2.1 rfl
  have hn:news=[]:=by have:=hsl.1;simpa using this
  subst hn
  have hv:∃ ao cap,v=.slice ao n cap:=by
   rcases hown.2 with ⟨rfl,rfl⟩|⟨g,c,cur,rfl,_⟩
   ·exact ⟨_,_,rfl⟩
   ·exact ⟨_,_,rfl⟩
  obtain ⟨ao,cap,rfl⟩:=hv
  have hrun:=run_append_owned_none (P:=P) (w:=w) base t o.type e i size hel.und hi _ n xs hown
  unfold Oper.wp
  simp [execOp,ho,resolve,invoke,builtin,hs,hx,hrun,Result.andThen]
  exact h ao cap w (by simpa using hown) ⟨rfl,rfl,rfl,Nat.le_refl _,fun _ _ _=>rfl⟩
 | some ad=>
  refine wp_append_own _ s x t ho base e i z size bytes hel.und hi hz hsize hby hzs hel.pos v n xs hs hown ad m c news hx hsl.1 (fun j u hu=>?_) h1 h63 hbytes hbase ?_
  ·obtain ⟨a',ha',hc⟩:=hsl.2.2 j u hu
   obtain rfl:=Option.some.inj ha'
   exact hc
  ·intro v' w' hown' hg _
   rcases hown'.2 with ⟨rfl,hnm⟩|⟨g,c,cur,rfl,hr⟩
   ·have:=h none 0 w'
    rw [hnm] at this hown'
    exact this hown' hg
   ·exact h _ c w' hown' hg
theorem rSort_any (l:List Int) (ao:Option Addr) (cap:Nat) (w:World) (hl:RowAt w ao cap l) (hm:l.length≤1000000):Calls Tryz.prog 103 #[.slice ao l.length cap] w (RetOwnI w (sortV l)):=by
 have HL:=Lib.hid hl
 clear hl
 go_enter Tryz.func103,Tryz.ntmps103
 go_wp2_with fail
 go_loopw [3,4] (fun o i wr=>∃ (k:Nat) (oo:Option Addr) (oc:Nat),k≤l.length∧i=.int .i64 k∧o=.slice oo (srtL l k).length oc∧wr.ownsRow w.heap.size 3 1 (.slice oo (srtL l k).length oc) (srtL l k).length ((srtL l k).map (Value.int .i64))∧Below w.heap.size w wr) (fun _ i _=>l.length-(intOf i).toNat)
 case atStart=>exact ⟨0,none,0,by omega,rfl,rfl,World.ownsRow_nil _ _ _ _,Below.refl _ _⟩
 case round=>
  obtain ⟨k,oo,oc,hk,rfl,rfl,hown,hbl⟩:=hrel
  by_cases hkl:k<l.length
  ·obtain ⟨ad,rfl,t0⟩:=row_int (HL.out.old hbl) hkl
   have hzl:=srtL_len l k
   have hsu:=srtL_succ hkl
   generalize hx:l.getD k 0=x at t0 hsu
   generalize hzs:srtL l k=zs at hown hzl hsu ⊢
   have HX:=Lib.hid hx
   have HZ:=Lib.hid hzs
   have HSu:=Lib.hid hsu
   have HO:=Lib.hid hown
   have HB:=Lib.hid hbl
   clear hx hzs hsu hown hbl
   have hkl2:(k:Int) < l.length:=by omega
   have hwr:IntKind.i64.wrap ((k:Int)+1)=k+1:=IntWalk.i64_in _ (by omega)
   obtain ⟨wo,rfl⟩:∃ wo:World,wo=wr:=⟨_,rfl⟩
   go_wp2_with fail
   go_loopw [5] (fun at_ wi=>∃ a:Nat,a≤zs.length∧at_=.int .i64 a∧Hid (wi.ownsRow w.heap.size 3 1 (.slice oo zs.length oc) zs.length (zs.map (Value.int .i64)))∧Hid (Below w.heap.size w wi)∧Hid (∀ j,j<a→zs.getD j 0<x)) (fun at_ _=>zs.length-(intOf at_).toNat)
   case atStart=>exact ⟨0,by omega,rfl,HO,HB,Lib.hid (by omega)⟩
   case round=>
    obtain ⟨a,ha,rfl,HO2,HB2,q1⟩:=hrel
    clear HO HB t0
    obtain ⟨ad',hadd,t0⟩:=row_int (HL.out.old HB2.out) hkl
    obtain rfl:=Option.some.inj hadd
    rw [HX.out] at t0
    clear hadd
    have hwr2:IntKind.i64.wrap ((a:Int)+1)=a+1:=IntWalk.i64_in _ (by omega)
    by_cases haz:a<zs.length
    ·have haz2:(a:Int) < zs.length:=by omega
     have hazd:decide ((a:Int) < zs.length)=true:=by simpa using haz
     obtain ⟨g,rfl⟩:=ownsRow_some HO2.out (by omega)
     have hc:=own_atV HO2.out (by simp) a (v:=.int .i64 (zs.getD a 0)) (by rw [List.getElem?_map,List.getElem?_eq_getElem haz];simp [haz])
     generalize hy:zs.getD a 0=y at hc
     have HY:=Lib.hid hy
     clear hy
     by_cases hyx:y<x
     ·go_wp2
      go_quiet (fail)
      go_wp2
      go_roundw
      case rel=>
       refine ⟨a+1,by omega,by go_num,HO2,Lib.hid (bdrewN HB2.out _),Lib.hid fun j hj=>?_⟩
       by_cases hja:j<a
       ·exact q1.out j hja
       ·obtain rfl:j=a:=by omega
        rw [HY.out];exact hyx
      case measure=>simp [intOf];omega
     ·by_cases hyeq:y=x
      ·have hins:insV1 x zs=zs:=by rw [insV1_at x zs a ha q1.out (fun _=>by rw [HY.out];omega),if_pos ⟨haz,by rw [HY.out,hyeq]⟩]
       have HIns:=Lib.hid hins
       clear hins
       subst hyeq
       go_wp2
       go_quiet (fail)
       go_wp2
       go_quiet (fail)
       go_wp2
       go_roundw
       case rel=>exact ⟨k+1,_,oc,by omega,by go_num,by rw [HSu.out,HIns.out],by rw [HSu.out,HIns.out];exact HO2.out,bdrewN HB2.out _⟩
       case measure=>simp [intOf];omega
      ·have hyb:(y == x)=false:=by simpa using hyeq
       have hins:insV1 x zs=zs.take a++x :: zs.drop a:=by rw [insV1_at x zs a ha q1.out (fun _=>by rw [HY.out];exact hyx),if_neg (fun h=>hyeq (by rw [←HY.out];exact h.2))]
       have HIns:=Lib.hid hins
       clear hins
       go_wp2
       go_quiet (fail)
       go_wp2
       go_quiet (fail)
       have hoc:=own_capV HO2.out
       have hoa:¬ oc=a:=by omega
       have hao:a≤oc:=by omega
       have hao2:(a:Int)≤oc:=by omega
       go_wp2_with (at_builtin;refine wpList_append_sl rfl (.tmp 45) (.tmp 48) 29 rfl wr.heap.size 3 1 8 elIntV _ 0 [] rfl (own_emptyV _ _ _ _ (Nat.le_refl _) (Blk.new _ _ _)) _ _ _ ((zs.drop a).map (Value.int .i64)) rfl ((sla_dropV HO2.out ha _).alloc _) (by intro u hu;obtain ⟨y,_,rfl⟩:=List.mem_map.1 hu;rfl) (by omega) (by unfold maxLen;omega) (by simp) ?_;intro ao1 cap1 w5 hown5 hg5)
       have hb5:=bgrown (show Below w.heap.size w _ from bal (bdrewN HB2.out _) _) hg5 (fun j hj=>by cases hj;exact HB2.out.size)
       have hO5:=own_grownV ((show (wr.drewN _).ownsRow _ _ _ _ _ _ from HO2.out).alloc _) hg5 (fun b hb=>by cases hb;exact fun h=>absurd (Option.some.inj h) (Nat.ne_of_lt (own_ltV HO2.out)))
       simp only [Nat.zero_add,List.nil_append] at hown5
       have HO5:=Lib.hid hown5
       have HP5:=Lib.hid hO5
       have HB5:=Lib.hid hb5
       have hNw:=hg5.size
       clear hown5 hO5 hb5 hg5
       have hS:∀ w',Below w.heap.size w w'→w'.cell? (ad.add k)=some (.int .i64 x):=fun w' hb=>by obtain ⟨ad',hadd,t0⟩:=row_int (HL.out.old hb) hkl;obtain rfl:=Option.some.inj hadd;rw [HX.out] at t0;exact t0
       have HS:=Lib.hid hS
       have t5:=hS _ HB5.out
       clear hS
       refine rO (fun w'=>w'.cell? (ad.add k)=some (.int .i64 x)) (oL [0,1,2,3,4,5,6,7,10,108,109,111,12]) (HS.out w5.drew HB5.out.drew) ?_
       repeat refine pO ?_
       refine oO fun K hK=>?_
       go_simp
       refine hK _ _ ⟨HS.out _ (bal HB5.out.drew _),?_⟩
       clear hK K
       refine oO fun K hK=>?_
       refine wp_append_growx (.tmp 53) (.tmp 58) 29 rfl 3 1 8 elIntV _ a _ ((zs.take a).map (Value.int .i64)) rfl (SlA.alloc (w:=w5.drew) (sla_headV HP5.out ha _) _) _ 1 1 [.int .i64 x] rfl (sla_blkV (Blk.new w5.drew #[.int .i64 x] 3) rfl) (by intro u hu;rw [List.mem_singleton.1 hu];rfl) (by decide) (by omega) (by omega) (by unfold maxLen;omega) ?_
       intro ao2 cap2 w6 hown6 hg6
       have hb6:=bgrown (bal HB5.out.drew _) hg6 (fun j hj=>by cases hj)
       have hO6:=own_grownV (World.ownsRow.alloc (w:=w5.drew) HO5.out (.cells #[.int .i64 x] 3)) hg6 (fun b hb h=>by cases h)
       have hw6:=hg6.size
       have HO6:=Lib.hid hO6
       have HP6:=Lib.hid hown6
       have HB6:=Lib.hid hb6
       clear hO6 hown6 hb6 hg6
       refine hK _ _ ⟨HS.out _ HB6.out,?_⟩
       clear hK K
       refine oO fun K hK=>?_
       refine wp_append_slx (.tmp 59) (.tmp 60) 29 rfl _ 3 1 8 elIntV _ (a+1) _ rfl HP6.out _ _ _ _ rfl (ownsRow_slA HO6.out).2 (by intro u hu;obtain ⟨y,_,rfl⟩:=List.mem_map.1 hu;rfl) (by omega) (by unfold maxLen;omega) hw6 ?_
       intro ao3 cap3 w7 hown7 hg7
       have hsz:w.heap.size≤(w5.alloc (.cells #[.int .i64 x] 3)).drew.heap.size:=(bal HB5.out (.cells #[.int .i64 x] 3)).size
       have hb7:=bgrown HB6.out hg7 (fun j hj=>Nat.le_trans hsz (HP6.out.lt j hj).1)
       have hO7:=own_baseV hown7 hsz
       have HO7:=Lib.hid hO7
       have HB7:=Lib.hid hb7
       clear hO7 hown7 hb7 hg7
       refine hK _ _ ⟨HS.out _ HB7.out,?_⟩
       clear hK K
       repeat refine pO ?_
       refine wpMixO_done ?_
       go_wp2
       go_roundw
       case rel=>
        have hlen:(srtL l (k+1)).length=a+1+(zs.length-a):=by rw [HSu.out,HIns.out];simp;omega
        exact k53
       case measure=>simp [intOf];omega
    ·have haz2:¬ (a:Int) < zs.length:=by omega
     have hazd:decide ((a:Int) < zs.length)=false:=by simpa using haz
     have hins:insV1 x zs=zs.take a++x :: zs.drop a:=by rw [insV1_at x zs a ha q1.out (fun h=>by omega),if_neg (fun h=>haz h.1)]
     have HIns:=Lib.hid hins
     clear hins
     rcases HO2.out.2 with ⟨hv,-⟩|⟨g,cap',cur,hv,-⟩
     ·injection hv with h1 h2 h3
      subst h1 h3
      obtain rfl:zs=[]:=List.eq_nil_of_length_eq_zero h2
      obtain rfl:a=0:=by simpa using ha
      clear h2
      go_wp2
      go_quiet (fail)
      go_wp2
      go_quiet (fail)
      go_wp2_with (at_builtin;refine wpList_append_sl rfl (.tmp 45) (.tmp 48) 29 rfl wr.heap.size 3 1 8 elIntV _ 0 [] rfl (own_emptyV _ _ _ _ (Nat.le_refl _) (Blk.new _ _ _)) _ _ _ ([]) rfl (sla_nilV _) (by intro u hu;simp at hu) (by omega) (by unfold maxLen;omega) (by simp) ?_;intro ao1 cap1 w5 hown5 hg5)
      have hb5:=bgrown (show Below w.heap.size w _ from bal (bdrewN HB2.out _) _) hg5 (fun j hj=>by cases hj;exact HB2.out.size)
      have hO5:=World.ownsRow_nil w5 w.heap.size 3 1
      simp only [Nat.zero_add,List.nil_append] at hown5
      have HO5:=Lib.hid hown5
      have HP5:=Lib.hid hO5
      have HB5:=Lib.hid hb5
      have hNw:=hg5.size
      clear hown5 hO5 hb5 hg5
      have hS:∀ w',Below w.heap.size w w'→w'.cell? (ad.add k)=some (.int .i64 x):=fun w' hb=>by obtain ⟨ad',hadd,t0⟩:=row_int (HL.out.old hb) hkl;obtain rfl:=Option.some.inj hadd;rw [HX.out] at t0;exact t0
      have HS:=Lib.hid hS
      have t5:=hS _ HB5.out
      clear hS
      refine rO (fun w'=>w'.cell? (ad.add k)=some (.int .i64 x)) (oL [0,1,2,3,4,5,6,7,10,108,109,111,12]) (HS.out w5.drew HB5.out.drew) ?_
      repeat refine pO ?_
      refine oO fun K hK=>?_
      go_simp
      refine hK _ _ ⟨HS.out _ (bal HB5.out.drew _),?_⟩
      clear hK K
      refine oO fun K hK=>?_
      refine wp_append_growx (.tmp 53) (.tmp 58) 29 rfl 3 1 8 elIntV _ 0 _ ([]) rfl (SlA.alloc (w:=w5.drew) (sla_nilV _) _) _ 1 1 [.int .i64 x] rfl (sla_blkV (Blk.new w5.drew #[.int .i64 x] 3) rfl) (by intro u hu;rw [List.mem_singleton.1 hu];rfl) (by decide) (by omega) (by omega) (by unfold maxLen;omega) ?_
      intro ao2 cap2 w6 hown6 hg6
      have hb6:=bgrown (bal HB5.out.drew _) hg6 (fun j hj=>by cases hj)
      have hO6:=own_grownV (World.ownsRow.alloc (w:=w5.drew) HO5.out (.cells #[.int .i64 x] 3)) hg6 (fun b hb h=>by cases h)
      have hw6:=hg6.size
      have HO6:=Lib.hid hO6
      have HP6:=Lib.hid hown6
      have HB6:=Lib.hid hb6
      clear hO6 hown6 hb6 hg6
      refine hK _ _ ⟨HS.out _ HB6.out,?_⟩
      clear hK K
      refine oO fun K hK=>?_
      refine wp_append_slx (.tmp 59) (.tmp 60) 29 rfl _ 3 1 8 elIntV _ (0+1) _ rfl HP6.out _ _ _ _ rfl (ownsRow_slA HO6.out).2 (by intro u hu;simp at hu) (by omega) (by unfold maxLen;omega) hw6 ?_
      intro ao3 cap3 w7 hown7 hg7
      have hsz:w.heap.size≤(w5.alloc (.cells #[.int .i64 x] 3)).drew.heap.size:=(bal HB5.out (.cells #[.int .i64 x] 3)).size
      have hb7:=bgrown HB6.out hg7 (fun j hj=>Nat.le_trans hsz (HP6.out.lt j hj).1)
      have hO7:=own_baseV hown7 hsz
      have HO7:=Lib.hid hO7
      have HB7:=Lib.hid hb7
      clear hO7 hown7 hb7 hg7
      refine hK _ _ ⟨HS.out _ HB7.out,?_⟩
      clear hK K
      repeat refine pO ?_
      refine wpMixO_done ?_
      go_wp2
      go_roundw
      case rel=>
       have hlen:(srtL l (k+1)).length=1:=by rw [HSu.out,HIns.out];simp
       exact k53
      case measure=>simp [intOf];omega
     ·injection hv with h1 h2 h3
      subst h1 h3
      obtain rfl:a=zs.length:=by omega
      have hoc:=own_capV HO2.out
      have hao2:(zs.length:Int)≤oc:=by omega
      by_cases hoa:oc=zs.length
      ·subst hoa
       exact k5
      ·exact k5
  ·obtain rfl:k=l.length:=by omega
   have hall:srtL l l.length=sortV l:=by unfold srtL;rw [List.take_length]
   rw [hall] at hown ⊢
   have HO:=Lib.hid hown
   have HB:=Lib.hid hbl
   clear hown hbl hall
   go_wp2
   go_ret
   exact ⟨⟨_,_,rfl,HO.out⟩,HB.out⟩
end
section
def fitsV (m:Md) (t u:Ty):Bool:=if t.k=2∧u.k=2 then aboveV m (t.c.toNat+1) t.c u.c else decide (t=u)
def tInt:Ty:=⟨1,0⟩
structure Opn where
 op:Int
 beg:List Ty
 past:List Ty
 mid:Bool
instance:Inhabited Opn:=⟨⟨0,[],[],false⟩⟩
structure Ps where
 stk:List Ty
 opn:List Opn
def baseV (l:List Opn):Nat:=match l.reverse.find? fun o=>decide (o.op=33)&&!o.mid with
 | some o=>o.beg.length
 | none=>0
def calleeV (m:Md) (i:In3):Option Mth:=if i.op=25 then some (m.me.getD i.a.toNat default) else match tgtV m i.a with
 | []=>none
 | t :: _=>some (m.me.getD t.toNat default)
def cntV (m:Md) (i:In3):Nat × Nat:=
 if i.op=1∨i.op=2∨i.op=12∨i.op=14∨i.op=15∨i.op=16∨i.op=22 then (0,1)
 else if i.op=3∨i.op=4∨i.op=23∨i.op=27∨i.op=29∨i.op=30 then (1,0)
 else if i.op=5 then (1,2)
 else if i.op=6∨i.op=7∨i.op=8∨i.op=9∨i.op=10∨i.op=11∨i.op=19 then (2,1)
 else if i.op=13∨i.op=17∨i.op=21∨i.op=24 then (1,1)
 else if i.op=18 then (2,0) else if i.op=20 then (3,0)
 else if i.op=25∨i.op=26 then match calleeV m i with
  | none=>(0,0)
  | some x=>(x.p.length+(if i.op=26 then 1 else 0),if x.r.k=0 then 0 else 1)
 else (0,0)
def fldV (m:Md) (t:Ty) (a:Int):Option Ty:=if t.k=2 then (m.cl.getD t.c.toNat default).f[a.toNat]? else none
def elemV (t:Ty):Option Ty:=if t.k=3 then some tInt else if t.k=4 then some ⟨2,t.c⟩ else none
def fitsO (m:Md) (t:Ty):Option Ty→Bool
 | none=>false
 | some u=>fitsV m t u
def ty0:Ty:=⟨0,0⟩
def pushV (m:Md) (lo:List Ty) (i:In3) (l:List Ty):Option Ty:=
 let a:=l.getD 0 default
 let b:=l.getD 1 default
 let c:=l.getD 2 default
 let ok (x:Bool) (t:Ty):Option Ty:=if x then some t else none
 if i.op=1 then some tInt
 else if i.op=2 then lo[i.a.toNat]?
 else if i.op=3 then ok (fitsO m a lo[i.a.toNat]?) ty0
 else if i.op=5 then some a
 else if i.op=6∨i.op=7∨i.op=8∨i.op=9∨i.op=10∨i.op=11 then ok (decide (a=tInt)&&decide (b=tInt)) tInt
 else if i.op=12 then some ⟨i.a,i.b⟩
 else if i.op=13 then ok (decide (a≠tInt)) tInt
 else if i.op=14 then some ⟨2,i.a⟩
 else if i.op=15 then some ⟨3,0⟩
 else if i.op=16 then some ⟨4,i.b⟩
 else if i.op=17 then fldV m a i.a
 else if i.op=18 then ok (fitsO m b (fldV m a i.a)) ty0
 else if i.op=19 then (if b=tInt then elemV a else none)
 else if i.op=20 then ok (decide (b=tInt)&&fitsO m c (elemV a)) ty0
 else if i.op=21 then ok (elemV a).isSome tInt
 else if i.op=22 then some (m.st.getD i.a.toNat default)
 else if i.op=23 then ok (fitsV m a (m.st.getD i.a.toNat default)) ty0
 else if i.op=24 then ok (decide (a.k=2)&&(fitsV m a ⟨2,i.a⟩||fitsV m ⟨2,i.a⟩ a)) ⟨2,i.a⟩
 else if i.op=25 then ok ((List.range (m.me.getD i.a.toNat default).p.length).all fun k=>fitsV m (l.getD k default) ((m.me.getD i.a.toNat default).p.getD k default)) (m.me.getD i.a.toNat default).r
 else if i.op=26 then match calleeV m i with
  | none=>none
  | some x=>ok (decide (a.k=2)&&decide (0≤m.ent a.c i.a.toNat)&&(List.range x.p.length).all fun k=>fitsV m (l.getD (k+1) default) (x.p.getD k default)) x.r
 else if i.op=27∨i.op=29 then ok (decide (a=tInt)) ty0
 else if i.op=30 then ok (decide (a=tInt)&&decide (lo[i.b.toNat]?=some tInt)) ty0
 else some ty0
def stepV (m:Md) (lo:List Ty) (i:In3) (s:Ps):Int × Ps:=
 if i.op=34 then (0,⟨(s.opn.getLastD default).beg,s.opn.dropLast++[{ s.opn.getLastD default with past:=s.stk,mid:=true }]⟩)
 else if i.op=35 then
  let o:=s.opn.getLastD default
  let want:=if o.mid then o.past else o.beg
  if s.stk.length≠want.length then (12,s) else if s.stk=want then (0,⟨s.stk,s.opn.dropLast⟩) else (11,s)
 else
  let c:=cntV m i
  if s.stk.length<c.1+baseV s.opn∨12<s.stk.length-c.1+c.2 then (12,s)
  else match pushV m lo i (s.stk.drop (s.stk.length-c.1)) with
   | none=>(11,s)
   | some t=>
    let k:=s.stk.take (s.stk.length-c.1)++List.replicate c.2 t
    (0,⟨k,if opensV i.op then s.opn++[⟨i.op,k,[],false⟩] else s.opn⟩)
def endedV (m:Md) (r:Ty) (k:List Ty):Int:=
 if r.k=0 then (if k=[] then 0 else 12) else match k with
  | [t]=>if fitsV m t r then 0 else 11
  | _=>12
def passF (m:Md) (lo:List Ty) (r:Ty):Nat→List In3→Ps→List (List Ty) × Nat × Int
 | n,[],s=>if endedV m r s.stk=0 then ([s.stk],0,0) else ([],n,endedV m r s.stk)
 | n,i :: l,s=>if (stepV m lo i s).1=0 then
   let q:=passF m lo r (n+1) l (stepV m lo i s).2
   if q.2.2=0 then (s.stk :: q.1,0,0) else ([],q.2)
  else ([],n,(stepV m lo i s).1)
def localsV (x:Mth):List Ty:=(if 0≤x.c then [⟨2,x.c⟩] else [])++x.p++x.l
def passV (m:Md) (k:Nat):List (List Ty) × Nat × Int:=passF m (localsV (m.me.getD k default)) (m.me.getD k default).r 0 (m.me.getD k default).k ⟨[],[]⟩
def methodV (m:Md) (k:Int):List (List Ty) × Nat × Int:=if modV m∧0≤k∧k<m.me.length then passV m k.toNat else ([],0,1)
end
section
open Go.RowKit
attribute [local go_sem] World.cell?_alloc_some
theorem elTyV:El Tryz.prog 23 35 2 16:=El.mk' (z:=.agg #[.int .i64 0,.int .i64 0]) Tryz.underlying23 (by kernel_rfl) (by kernel_rfl) (by decide)
def RetOwn {α:Type} [Cells α] (e:TypeId) (W:World) (l:List α):Ending→World→Prop:=fun en w'=>(∃ ao cap,en=.returned (.slice ao l.length cap)∧w'.ownsRow W.heap.size e (Cells.n α) (.slice ao l.length cap) l.length (flatR l))∧Below W.heap.size W w'
theorem flat_oneTy (l:List Ty):∀ u∈flatR l,u.oneCell'=true:=flatR_oneC l
theorem locals_any (x:Mth) (y:MHd) (w:World) (hp:RowAt w y.po y.pc x.p) (hl:RowAt w y.lo y.lc x.l) (hb:x.p.length≤1000∧x.l.length≤1000):Calls Tryz.prog 170 #[.agg #[.string x.n,.int .i64 x.c,.slice y.po x.p.length y.pc,.slice y.lo x.l.length y.lc,.int .i64 x.r.k,.int .i64 x.r.c,.slice y.ko x.k.length y.kc]] w (RetOwn 35 w (localsV x)):=by
 obtain ⟨nm,c,pl,ll,⟨rk,rc⟩,kl⟩:=x
 obtain ⟨po,pc,lo,lc,ko,kc⟩:=y
 dsimp only at hp hl hb ⊢
 have hq:localsV ⟨nm,c,pl,ll,⟨rk,rc⟩,kl⟩=(if 0≤c then [⟨2,c⟩] else [])++pl++ll:=rfl
 generalize localsV ⟨nm,c,pl,ll,⟨rk,rc⟩,kl⟩=q at hq ⊢
 have HP:=Lib.hid hp
 have HL:=Lib.hid hl
 have HQ:=Lib.hid hq
 clear hp hl hq
 have hX:=Blk.new w #[.string nm,.int .i64 c,.slice po pl.length pc,.slice lo ll.length lc,.int .i64 rk,.int .i64 rc,.slice ko kl.length kc] 38
 have hb0:Below w.heap.size w (w.alloc (.cells #[.string nm,.int .i64 c,.slice po pl.length pc,.slice lo ll.length lc,.int .i64 rk,.int .i64 rc,.slice ko kl.length kc] 38)):=by exact bE
 have HX:=Lib.hid hX
 have HB0:=Lib.hid hb0
 have hw0:=hb0.size
 clear hX hb0
 by_cases hc:0≤c
 ·have hc2:c ≥ 0:=hc
  have HC:=Lib.hid hc
  clear hc
  go_enter Tryz.func170,Tryz.ntmps170
  go_wp2_with (at_builtin;refine wpList_append_sl rfl (.tmp 7) (.tmp 11) 23 rfl (w.heap.size+1) 35 2 16 elTyV _ 0 [] rfl (World.ownsRow_nil _ _ _ _) _ 1 1 [.int .i64 2,.int .i64 c] rfl (sla_blkV (Blk.new' #[.int .i64 2,.int .i64 c] 35 (by simp)) rfl) (by intro u hu;simp only [List.mem_cons,List.not_mem_nil,or_false] at hu;rcases hu with rfl|rfl<;>rfl) (by omega) (by unfold maxLen;omega) (by simp) ?_;intro oo oc wz hown hg)
  have HOw:=Lib.hid hown
  have HBz:=Lib.hid (bgrown (bal HB0.out _) hg (fun j hj=>by cases hj))
  have HBx:=Lib.hid (Blk.grownV (HX.out.alloc _) hg (fun h=>by cases h))
  have HBxl:=Lib.hid (Nat.le_refl w.heap.size)
  clear hown hg
  have x2:wz.cell? ⟨w.heap.size,2,none⟩=some (.slice po pl.length pc):=HBx.out.cell 2 rfl
  have x3:wz.cell? ⟨w.heap.size,3,none⟩=some (.slice lo ll.length lc):=HBx.out.cell 3 rfl
  refine rO (fun w':World=>w'.cell? ⟨w.heap.size,2,none⟩=some (.slice po pl.length pc)∧w'.cell? ⟨w.heap.size,3,none⟩=some (.slice lo ll.length lc)) (oL [0,1,2,4,5,103,106,7]) ⟨x2,x3⟩ ?_
  clear x2 x3
  repeat refine pO ?_
  refine oO fun K hK=>?_
  refine wp_append_slx (.tmp 13) (.tmp 15) 23 rfl (w.heap.size+1) 35 2 16 elTyV _ 1 _ rfl (own_drewV HOw.out) _ _ _ _ rfl (SlA.old (w:=wz) (RowAt.old HP.out HBz.out) (Below.refl _ _).drew) (flatR_oneC pl) (by omega) (by unfold maxLen;omega) (show w.heap.size+1≤wz.heap.size from HBx.out.lt) ?_
  intro ao2 cap2 w3 hown3 hg3
  have hb3:=bgrown HBz.out.drew hg3 (fun j hj=>by have:=(HOw.out.lt j hj).1;have:=HBxl.out;omega)
  have hx3:=Blk.grownV HBx.out.drew hg3 (own_neV HOw.out (Nat.lt_succ_self _))
  have HO3:=Lib.hid hown3
  have HB3:=Lib.hid hb3
  have HX3:=Lib.hid hx3
  clear hown3 hg3 hb3 hx3
  refine hK _ _ ⟨⟨HX3.out.cell 2 rfl,HX3.out.cell 3 rfl⟩,?_⟩
  clear hK K
  refine oO fun K hK=>?_
  refine wp_append_slx (.tmp 16) (.tmp 18) 23 rfl (w.heap.size+1) 35 2 16 elTyV _ (1+pl.length) _ rfl HO3.out _ _ _ _ rfl (SlA.old (w:=w) HL.out HB3.out) (flatR_oneC ll) (by omega) (by unfold maxLen;omega) (show w.heap.size+1≤w3.heap.size from HX3.out.lt) ?_
  intro ao4 cap4 w4 hown4 hg4
  have hb4:=bgrown HB3.out hg4 (fun j hj=>by have:=(HO3.out.lt j hj).1;have:=HBxl.out;omega)
  have hx4:=Blk.grownV HX3.out hg4 (own_neV HO3.out (Nat.lt_succ_self _))
  have HO4:=Lib.hid hown4
  have HB4:=Lib.hid hb4
  have HX4:=Lib.hid hx4
  clear hown4 hg4 hb4 hx4
  refine hK _ _ ⟨⟨HX4.out.cell 2 rfl,HX4.out.cell 3 rfl⟩,?_⟩
  clear hK K
  repeat refine pO ?_
  refine wpMixO_done ?_
  go_wp2
  go_ret
  exact k42
 ·have hc2:¬ c ≥ 0:=hc
  have HC:=Lib.hid hc
  clear hc
  go_enter Tryz.func170,Tryz.ntmps170
  go_wp2_with fail
  generalize w.alloc _=wz at HX HB0 ⊢
  have HOw:=Lib.hid (World.ownsRow_nil wz (w.heap.size+1) 35 2)
  have HBz:=HB0
  have HBx:=HX
  have HBxl:=Lib.hid (Nat.le_refl w.heap.size)
  have x2:wz.cell? ⟨w.heap.size,2,none⟩=some (.slice po pl.length pc):=HBx.out.cell 2 rfl
  have x3:wz.cell? ⟨w.heap.size,3,none⟩=some (.slice lo ll.length lc):=HBx.out.cell 3 rfl
  refine rO (fun w':World=>w'.cell? ⟨w.heap.size,2,none⟩=some (.slice po pl.length pc)∧w'.cell? ⟨w.heap.size,3,none⟩=some (.slice lo ll.length lc)) (oL [0,1,2,4,5,103,106,7]) ⟨x2,x3⟩ ?_
  clear x2 x3
  repeat refine pO ?_
  refine oO fun K hK=>?_
  refine wp_append_slx (.tmp 13) (.tmp 15) 23 rfl (w.heap.size+1) 35 2 16 elTyV _ 0 _ rfl (own_drewV HOw.out) _ _ _ _ rfl (SlA.old (w:=wz) (RowAt.old HP.out HBz.out) (Below.refl _ _).drew) (flatR_oneC pl) (by omega) (by unfold maxLen;omega) (show w.heap.size+1≤wz.heap.size from HBx.out.lt) ?_
  intro ao2 cap2 w3 hown3 hg3
  have hb3:=bgrown HBz.out.drew hg3 (fun j hj=>by have:=(HOw.out.lt j hj).1;have:=HBxl.out;omega)
  have hx3:=Blk.grownV HBx.out.drew hg3 (own_neV HOw.out (Nat.lt_succ_self _))
  have HO3:=Lib.hid hown3
  have HB3:=Lib.hid hb3
  have HX3:=Lib.hid hx3
  clear hown3 hg3 hb3 hx3
  refine hK _ _ ⟨⟨HX3.out.cell 2 rfl,HX3.out.cell 3 rfl⟩,?_⟩
  clear hK K
  refine oO fun K hK=>?_
  refine wp_append_slx (.tmp 16) (.tmp 18) 23 rfl (w.heap.size+1) 35 2 16 elTyV _ (0+pl.length) _ rfl HO3.out _ _ _ _ rfl (SlA.old (w:=w) HL.out HB3.out) (flatR_oneC ll) (by omega) (by unfold maxLen;omega) (show w.heap.size+1≤w3.heap.size from HX3.out.lt) ?_
  intro ao4 cap4 w4 hown4 hg4
  have hb4:=bgrown HB3.out hg4 (fun j hj=>by have:=(HO3.out.lt j hj).1;have:=HBxl.out;omega)
  have hx4:=Blk.grownV HX3.out hg4 (own_neV HO3.out (Nat.lt_succ_self _))
  have HO4:=Lib.hid hown4
  have HB4:=Lib.hid hb4
  have HX4:=Lib.hid hx4
  clear hown4 hg4 hb4 hx4
  refine hK _ _ ⟨⟨HX4.out.cell 2 rfl,HX4.out.cell 3 rfl⟩,?_⟩
  clear hK K
  repeat refine pO ?_
  refine wpMixO_done ?_
  go_wp2
  go_ret
  exact k38
end
section
open Go.RowKit
attribute [local go_sem] World.cell?_alloc_some
def RetOwn2 {α:Type} [Cells α] (e:TypeId) (W:World) (l:List α) (er:Int):Ending→World→Prop:=fun en w'=>(∃ ao cap,en=.returned (.tuple #[.slice ao l.length cap,.int .i64 er])∧w'.ownsRow W.heap.size e (Cells.n α) (.slice ao l.length cap) l.length (flatR l))∧Below W.heap.size W w'
def RetRow2 {α:Type} [Cells α] (W:World) (l:List α) (er:Int):Ending→World→Prop:=fun en w'=>(∃ ao cap,en=.returned (.tuple #[.slice ao l.length cap,.int .i64 er])∧RowAt w' ao cap l)∧Below W.heap.size W w'
def RetRow2N {α:Type} [Cells α] (W:World) (l:List α) (er:Int):Ending→World→Prop:=fun en w'=>(∃ ao cap,en=.returned (.tuple #[.slice ao l.length cap,.int .i64 er])∧RowAt w' ao cap l∧∀ a,ao=some a→W.heap.size≤a.block)∧Below W.heap.size W w'
theorem modV_cls {m:Md} (h:modV m=true):∀ k,k<m.cl.length→clsV m k=true:=by
 simp only [modV,Bool.and_eq_true] at h
 exact all_range_iff.1 h.1.1.2
theorem modV_mth {m:Md} (h:modV m=true):∀ k,k<m.me.length→mthV m k=true:=by
 simp only [modV,Bool.and_eq_true] at h
 exact all_range_iff.1 h.1.2
theorem modV_size {m:Md} (h:modV m=true):m.cl.length≤10∧m.me.length≤16∧0≤m.sel∧m.sel≤16∧m.st.length≤10:=by
 simp only [modV,sizesV,Bool.and_eq_true,decide_eq_true_eq] at h
 exact ⟨h.1.1.1.1.1.1.1.1.1,h.1.1.1.1.1.1.1.1.2,h.1.1.1.1.1.1.1.2,h.1.1.1.1.1.1.2,h.1.1.1.1.1.2⟩
theorem mthV_lens {m:Md}{k:Nat} (h:mthV m k=true):(m.me.getD k default).p.length≤4∧(m.me.getD k default).l.length≤10∧(m.me.getD k default).k.length≤120:=by
 simp only [mthV,Bool.and_eq_true,decide_eq_true_eq] at h
 have h1:=h.1.1.1.1.1.1.2
 have h2:=h.1.1.1.1.2
 have h3:=(codeE_all h.1.2).1
 refine ⟨h1,?_,h3⟩
 split at h2<;>omega
theorem lLocals_yes (m:Md) (h:Hd) (k:Nat) (w:World) (H:ModAt w h m) (hv:modV m=true) (hk:k<m.me.length):Calls Tryz.prog 126 #[.agg #[.slice h.co m.cl.length h.cc,.slice h.so m.st.length h.sc,.slice h.eo m.me.length h.ec,.int .i64 m.sel],.int .i64 k] w (RetOwn2 35 w (localsV (m.me.getD k default)) 0):=by
 have hX:Blk (w.alloc (.cells #[.slice h.co m.cl.length h.cc,.slice h.so m.st.length h.sc,.slice h.eo m.me.length h.ec,.int .i64 m.sel] 26)) w.heap.size #[.slice h.co m.cl.length h.cc,.slice h.so m.st.length h.sc,.slice h.eo m.me.length h.ec,.int .i64 m.sel] 26:=Blk.new w _ _
 have hR:Blk ((w.alloc (.cells #[.slice h.co m.cl.length h.cc,.slice h.so m.st.length h.sc,.slice h.eo m.me.length h.ec,.int .i64 m.sel] 26)).alloc (.cells #[.int .i64 k] 3)) (w.heap.size+1) #[.int .i64 k] 3:=Blk.new' (w:=w.alloc (.cells #[.slice h.co m.cl.length h.cc,.slice h.so m.st.length h.sc,.slice h.eo m.me.length h.ec,.int .i64 m.sel] 26)) #[.int .i64 k] 3 (by simp)
 have hb0:Below w.heap.size w ((w.alloc (.cells #[.slice h.co m.cl.length h.cc,.slice h.so m.st.length h.sc,.slice h.eo m.me.length h.ec,.int .i64 m.sel] 26)).alloc (.cells #[.int .i64 k] 3)):=by exact bE
 have hrow:RowAt ((w.alloc (.cells #[.slice h.co m.cl.length h.cc,.slice h.so m.st.length h.sc,.slice h.eo m.me.length h.ec,.int .i64 m.sel] 26)).alloc (.cells #[.int .i64 k] 3)) (some ⟨w.heap.size+1,0,none⟩) 1 [(k:Int)]:=by
  exact k100
 have hask:=asked_any m h m.me.length [(k:Int)] _ 1 _ (H.old hb0) hrow (by simp)
 have e:(modV m&&[(k:Int)].all (inV m.me.length))=true:=by rw [hv];simp [inV];omega
 rw [e] at hask
 have hlen:=mthV_lens (modV_mth hv k hk)
 generalize hxk:m.me.getD k default=x at hlen ⊢
 generalize hlq:localsV x=q
 have HA:=Lib.hid hask
 have HX:=Lib.hid (hX.alloc (.cells #[.int .i64 k] 3))
 have HM:=Lib.hid H
 have HB0:=Lib.hid hb0
 have HXk:=Lib.hid hxk
 have HLq:=Lib.hid hlq
 clear hask hX hR hb0 hrow e H hxk hlq hv
 have hk2:(k:Int) < m.me.length:=by omega
 go_enter Tryz.func126,Tryz.ntmps126
 go_wp2_with fail
 refine HA.out.mono ?_
 rintro e1 w1 ⟨rfl,hb1⟩
 have HB1:=Lib.hid (bthen HB0.out hb1)
 have hX1:=HX.out.old hb1
 have r2:w1.cell? ⟨w.heap.size,2,none⟩=some (.slice h.eo m.me.length h.ec):=hX1.cell 2 rfl
 have rl:=hX1.lt
 have hm1:=HM.out.old HB1.out
 obtain ⟨am,heo,c0,c1,c2,c3,c4,c5,c6⟩:=hm1.mth hk
 have hp:=hm1.p k hk
 have hl:=hm1.l k hk
 rw [HXk.out] at c0 c1 c2 c3 c4 c5 c6 hp hl
 rw [heo] at r2
 have hloc:=locals_any x (h.e k) w1 hp hl (by omega)
 rw [HLq.out] at hloc
 have HLo:=Lib.hid hloc
 have HEo:=Lib.hid heo
 have he0:¬ errV true=1:=by decide
 have he1:errV true=0:=rfl
 clear hX1 hm1 hp hl hloc heo hb1
 go_wp2_with fail
 refine HLo.out.mono ?_
 rintro e2 w2 ⟨⟨ao,cap,rfl,hown⟩,hb2⟩
 have HO:=Lib.hid hown
 clear hown
 go_wp2
 go_ret2
 exact ⟨⟨ao,cap,rfl,own_baseV HO.out HB1.out.size⟩,bthen HB1.out hb2⟩
theorem lTargets_new (m:Md) (h:Hd) (s:Nat) (w:World) (H:ModAt w h m) (hv:modV m=true) (hs:(s:Int) < m.sel):Calls Tryz.prog 123 #[.agg #[.slice h.co m.cl.length h.cc,.slice h.so m.st.length h.sc,.slice h.eo m.me.length h.ec,.int .i64 m.sel],.int .i64 s] w (RetRow2N w (tgtV m s) 0):=by
 have hX:Blk (w.alloc (.cells #[.slice h.co m.cl.length h.cc,.slice h.so m.st.length h.sc,.slice h.eo m.me.length h.ec,.int .i64 m.sel] 26)) w.heap.size #[.slice h.co m.cl.length h.cc,.slice h.so m.st.length h.sc,.slice h.eo m.me.length h.ec,.int .i64 m.sel] 26:=Blk.new w _ _
 have hR:Blk ((w.alloc (.cells #[.slice h.co m.cl.length h.cc,.slice h.so m.st.length h.sc,.slice h.eo m.me.length h.ec,.int .i64 m.sel] 26)).alloc (.cells #[.int .i64 s] 3)) (w.heap.size+1) #[.int .i64 s] 3:=Blk.new' (w:=w.alloc (.cells #[.slice h.co m.cl.length h.cc,.slice h.so m.st.length h.sc,.slice h.eo m.me.length h.ec,.int .i64 m.sel] 26)) #[.int .i64 s] 3 (by simp)
 have hb0:Below w.heap.size w ((w.alloc (.cells #[.slice h.co m.cl.length h.cc,.slice h.so m.st.length h.sc,.slice h.eo m.me.length h.ec,.int .i64 m.sel] 26)).alloc (.cells #[.int .i64 s] 3)):=by exact bE
 have hrow:RowAt ((w.alloc (.cells #[.slice h.co m.cl.length h.cc,.slice h.so m.st.length h.sc,.slice h.eo m.me.length h.ec,.int .i64 m.sel] 26)).alloc (.cells #[.int .i64 s] 3)) (some ⟨w.heap.size+1,0,none⟩) 1 [(s:Int)]:=by
  exact k100
 have hask:=asked_any m h m.sel [(s:Int)] _ 1 _ (H.old hb0) hrow (by simp)
 have e:(modV m&&[(s:Int)].all (inV m.sel))=true:=by rw [hv];simp [inV];omega
 rw [e] at hask
 have hsz:=modV_size hv
 have hcv:=modV_cls hv
 generalize hlq:tgtV m s=q
 have HA:=Lib.hid hask
 have HX:=Lib.hid (hX.alloc (.cells #[.int .i64 s] 3))
 have HM:=Lib.hid H
 have HB0:=Lib.hid hb0
 have HLq:=Lib.hid hlq
 have HCv:=Lib.hid hcv
 clear hask hX hR hb0 hrow e H hlq hv hcv
 go_enter Tryz.func123,Tryz.ntmps123
 go_wp2_with fail
 refine HA.out.mono ?_
 rintro e1 w1 ⟨rfl,hb1⟩
 have HB1:=Lib.hid (bthen HB0.out hb1)
 have hX1:=HX.out.old hb1
 have r0:w1.cell? ⟨w.heap.size,0,none⟩=some (.slice h.co m.cl.length h.cc):=hX1.cell 0 rfl
 have r1:w1.cell? ⟨w.heap.size,1,none⟩=some (.slice h.so m.st.length h.sc):=hX1.cell 1 rfl
 have r2:w1.cell? ⟨w.heap.size,2,none⟩=some (.slice h.eo m.me.length h.ec):=hX1.cell 2 rfl
 have r3:w1.cell? ⟨w.heap.size,3,none⟩=some (.int .i64 m.sel):=hX1.cell 3 rfl
 have rl:=hX1.lt
 have htg:=targets_new m h s w1 (HM.out.old HB1.out) ⟨by omega,hs⟩ hsz.1 (fun j hj=>clsV_len (HCv.out j hj))
 rw [HLq.out] at htg
 have HTg:=Lib.hid htg
 have he0:¬ errV true=1:=by decide
 have he1:errV true=0:=rfl
 clear hX1 htg hb1
 go_wp2_with fail
 refine HTg.out.mono ?_
 rintro e2 w2 ⟨⟨ao,cap,rfl,hr,hn⟩,hb2⟩
 have HO:=Lib.hid hr
 have HN:=Lib.hid hn
 clear hr hn
 go_wp2
 go_ret2
 exact ⟨⟨ao,cap,rfl,HO.out,fun a ha=>Nat.le_trans HB1.out.size (HN.out a ha)⟩,bthen HB1.out hb2⟩
theorem lTargets_yes (m:Md) (h:Hd) (s:Nat) (w:World) (H:ModAt w h m) (hv:modV m=true) (hs:(s:Int) < m.sel):Calls Tryz.prog 123 #[.agg #[.slice h.co m.cl.length h.cc,.slice h.so m.st.length h.sc,.slice h.eo m.me.length h.ec,.int .i64 m.sel],.int .i64 s] w (RetRow2 w (tgtV m s) 0):=
 (lTargets_new m h s w H hv hs).mono fun e w' ⟨⟨ao,cap,h1,h2,_⟩,h3⟩=>⟨⟨ao,cap,h1,h2⟩,h3⟩
end
section
open Go.RowKit
theorem number_any (w:World):Calls Tryz.prog 174 #[] w (Ret w (.agg #[.int .i64 1,.int .i64 0])):=by
 go_enter Tryz.func174,Tryz.ntmps174
 go_wp2
 exact bodyPost_ret (v:=.agg #[.int .i64 1,.int .i64 0]) (by simp [results,Tryz.results174,go_sem]) rfl ⟨rfl,by exact bE⟩
theorem numbers_any (w:World):Calls Tryz.prog 223 #[] w (Ret w (.agg #[.int .i64 3,.int .i64 0])):=by
 go_enter Tryz.func223,Tryz.ntmps223
 go_wp2
 exact bodyPost_ret (v:=.agg #[.int .i64 3,.int .i64 0]) (by simp [results,Tryz.results223,go_sem]) rfl ⟨rfl,by exact bE⟩
theorem object_any (c:Int) (w:World):Calls Tryz.prog 222 #[.int .i64 c] w (Ret w (.agg #[.int .i64 2,.int .i64 c])):=by
 go_enter Tryz.func222,Tryz.ntmps222
 go_wp2
 exact bodyPost_ret (v:=.agg #[.int .i64 2,.int .i64 c]) (by simp [results,Tryz.results222,go_sem]) rfl ⟨rfl,by exact bE⟩
def fitG (m:Md) (t u:Ty):Bool:=if t.k=2∧u.k=2 then modV m&&inV m.cl.length t.c&&inV m.cl.length u.c&&aboveV m (t.c.toNat+1) t.c u.c else decide (t=u)
theorem ty_eq (t u:Ty):decide (t=u)=(decide (t.k=u.k)&&decide (t.c=u.c)):=by
 cases t;cases u;simp
theorem fits_any (m:Md) (h:Hd) (t u:Ty) (w:World) (H:ModAt w h m):Calls Tryz.prog 133 #[.agg #[.slice h.co m.cl.length h.cc,.slice h.so m.st.length h.sc,.slice h.eo m.me.length h.ec,.int .i64 m.sel],.agg #[.int .i64 t.k,.int .i64 t.c],.agg #[.int .i64 u.k,.int .i64 u.c]] w (Ret w (.bool (fitG m t u))):=by
 obtain ⟨q,hq⟩:∃ q,q=fitG m t u:=⟨_,rfl⟩
 rw [←hq]
 unfold fitG at hq
 rw [ty_eq] at hq
 have hb:∀ w',Below w.heap.size w w'→_:=fun w' hb'=>lBelow_any m h t.c u.c w' (H.old hb')
 generalize hx:(modV m&&inV m.cl.length t.c&&inV m.cl.length u.c&&aboveV m (t.c.toNat+1) t.c u.c)=x at hb hq
 generalize hy:errV (modV m&&inV m.cl.length t.c&&inV m.cl.length u.c)=y at hb
 have HB:=Lib.hid hb
 have HQ:=Lib.hid hq
 clear hx hy hb hq H
 go_enter Tryz.func133,Tryz.ntmps133
 go_wp2_with (go_at_call 188;refine (HB.out _ bE).mono ?_;rintro e w1 ⟨rfl,hb1⟩)
 all_goals
  go_ret
  exact ret_ok (bool_eq (by rw [HQ.out];grind)) bE
end
section
open Go.RowKit
structure Upd (K B:Nat) (w w':World):Prop where
 os:w'.os=w.os
 tape:w'.tape=w.tape
 output:w'.output=w.output
 size:w.heap.size≤w'.heap.size
 block:∀ k,k<w.heap.size→k≠K→k≠B→w'.heap[k]?=w.heap[k]?
theorem Upd.refl (K B:Nat) (w:World):Upd K B w w:=⟨rfl,rfl,rfl,Nat.le_refl _,fun _ _ _ _=>rfl⟩
theorem Upd.trans {K B:Nat}{a b c:World} (h:Upd K B a b) (k:Upd K B b c):Upd K B a c:=
 ⟨k.os.trans h.os,k.tape.trans h.tape,k.output.trans h.output,Nat.le_trans h.size k.size,fun i hi h1 h2=>(k.block i (Nat.lt_of_lt_of_le hi h.size) h1 h2).trans (h.block i hi h1 h2)⟩
theorem Upd.of {K B:Nat}{a b:World} (h:Below a.heap.size a b):Upd K B a b:=⟨h.os,h.tape,h.output,h.size,fun k hk _ _=>h.block k hk⟩
theorem Upd.bel {K B:Nat}{a b c:World} (h:Upd K B a b) (k:Below b.heap.size b c):Upd K B a c:=h.trans (.of k)
section
variable {K B:Nat}{a b:World}(h:Upd K B a b)
include K B a b h
theorem Upd.alloc (o:Obj):Upd K B a (b.alloc o):=h.bel ((Below.refl _ _).alloc (Nat.le_refl _) o)
theorem Upd.drew:Upd K B a b.drew:=⟨h.os,h.tape,h.output,h.size,h.block⟩
theorem Upd.drewN (n:Nat):Upd K B a (b.drewN n):=⟨h.os,h.tape,h.output,h.size,h.block⟩
theorem Upd.set (j:Nat) (v:Value):Upd K B a (b.setCell ⟨K,j,none⟩ v):=
 h.trans ⟨rfl,rfl,rfl,by simp [World.setCell],fun k _ h1 _=>Below.heap_setCell _ _ _ _ h1⟩
end
theorem Upd.more {K B:Nat}{a b:World} (h:Upd K K a b):Upd K B a b:=⟨h.os,h.tape,h.output,h.size,fun k hk h1 _=>h.block k hk h1 h1⟩
theorem Upd.below {K B N:Nat}{w0 a b:World} (h:Upd K B a b) (hb:Below N w0 a) (hN:N≤w0.heap.size) (hK:N≤K) (hB:N≤B):Below N w0 b:=
 hb.trans ⟨h.os,h.tape,h.output,h.size,fun k hk=>h.block k (by have:=hb.size;omega) (by omega) (by omega)⟩
def TyAt (w:World) (ao:Option Addr) (cap:Nat) (l:List Ty):Prop:=RowAt w ao cap l∧l.length≤cap∧∀ a,ao=some a→∃ xs z,w.heap[a.block]?=some (.cells xs 35 z)
def NoTy (w:World) (b:Nat):Prop:=b<w.heap.size∧∀ xs z,w.heap[b]?≠some (.cells xs 35 z)
theorem TyAt.upd {w w':World}{ao:Option Addr}{cap:Nat}{l:List Ty}{K B:Nat} (H:TyAt w ao cap l) (h:Upd K B w w') (hK:NoTy w K) (hB:NoTy w B):TyAt w' ao cap l:=by
 obtain ⟨h1,h2,h3⟩:=H
 have e:∀ a,ao=some a→w'.heap[a.block]?=w.heap[a.block]?:=fun a ha=>by
  obtain ⟨xs,z,hx⟩:=h3 a ha
  have hl:=(Array.getElem?_eq_some_iff.1 hx).1
  exact h.block _ hl (fun q=>hK.2 xs z (q▸hx)) (fun q=>hB.2 xs z (q▸hx))
 refine ⟨⟨h1.1,h1.2.1,fun j u hu=>?_⟩,h2,fun a ha=>?_⟩
 ·obtain ⟨a,ha,hc⟩:=h1.2.2 j u hu
  refine ⟨a,ha,?_⟩
  have hb:(a.add j).block=a.block:=by unfold Addr.add;split<;>rfl
  rw [World.cell?_of_block (w:=w) (by rw [hb];exact e a ha)]
  exact hc
 ·obtain ⟨xs,z,hx⟩:=h3 a ha
  exact ⟨xs,z,(e a ha).trans hx⟩
def ckC (h:Hd) (m:Md) (L S O:Value) (e:Int):Array Value:=#[.slice h.co m.cl.length h.cc,.slice h.so m.st.length h.sc,.slice h.eo m.me.length h.ec,.int .i64 m.sel,L,S,O,.int .i64 e]
def Ck (w:World) (K:Nat) (h:Hd) (m:Md) (L S O:Value) (e:Int):Prop:=Blk w K (ckC h m L S O e) 151
section
variable {w w':World}{K:Nat}{h:Hd}{m:Md}{L S O:Value}{e:Int}
section
variable (H:Ck w K h m L S O e)
include H
theorem Ck.noTy:NoTy w K:=⟨Blk.lt H,fun xs z hx=>by
 rw [show w.heap[K]?=_ from H] at hx
 cases hx⟩
theorem Ck.cells:K<w.heap.size∧w.cell? ⟨K,0,none⟩=some (.slice h.co m.cl.length h.cc)∧w.cell? ⟨K,1,none⟩=some (.slice h.so m.st.length h.sc)∧w.cell? ⟨K,2,none⟩=some (.slice h.eo m.me.length h.ec)∧w.cell? ⟨K,3,none⟩=some (.int .i64 m.sel)∧w.cell? ⟨K,4,none⟩=some L∧w.cell? ⟨K,5,none⟩=some S∧w.cell? ⟨K,6,none⟩=some O∧w.cell? ⟨K,7,none⟩=some (.int .i64 e):=
 ⟨Blk.lt H,Blk.cell H 0 rfl,Blk.cell H 1 rfl,Blk.cell H 2 rfl,Blk.cell H 3 rfl,Blk.cell H 4 rfl,Blk.cell H 5 rfl,Blk.cell H 6 rfl,Blk.cell H 7 rfl⟩
theorem Ck.setE (e':Int):Ck (w.setCell ⟨K,7,none⟩ (.int .i64 e')) K h m L S O e':=Blk.set H 7 _
theorem Ck.setS (S':Value):Ck (w.setCell ⟨K,5,none⟩ S') K h m L S' O e:=Blk.set H 5 _
theorem Ck.setO (O':Value):Ck (w.setCell ⟨K,6,none⟩ O') K h m L S O' e:=Blk.set H 6 _
theorem Ck.old (hb:Below w.heap.size w w'):Ck w' K h m L S O e:=Blk.old H hb
end
end
def errC (e x:Int):Int:=if e=0 then x else e
theorem fail_any (K:Nat) (h:Hd) (m:Md) (L S O:Value) (e x:Int) (w:World) (H:Ck w K h m L S O e) :
  Calls Tryz.prog 219 #[.pointer (some ⟨K,0,none⟩),.int .i64 x] w fun r w'=>(∃ v,r=.returned v)∧Ck w' K h m L S O (errC e x)∧Upd K K w w':=by
 obtain ⟨kl,-,-,-,-,-,-,-,c7⟩:=H.cells
 have f7:w.frozen? ⟨K,7,none⟩=false:=Blk.frozen H 7
 have HH:=Lib.hid H
 clear H
 by_cases he:e=0
 ·subst he
  go_enter Tryz.func219,Tryz.ntmps219
  go_wp2
  go_end0
  exact ⟨⟨_,rfl⟩,HH.out.setE x,(Upd.refl K K w).set 7 _⟩
 ·have he2:(e == 0)=false:=by simpa using he
  have HE:=Lib.hid he
  clear he
  go_enter Tryz.func219,Tryz.ntmps219
  go_wp2
  go_end0
  exact ⟨⟨_,rfl⟩,by rw [show errC e x=e from if_neg HE.out];exact HH.out,Upd.refl K K w⟩
def wantC (e:Int) (so:Bool):Int:=if so then e else errC e 11
theorem want_any (K:Nat) (h:Hd) (m:Md) (L S O:Value) (e:Int) (so:Bool) (w:World) (H:Ck w K h m L S O e) :
  Calls Tryz.prog 173 #[.pointer (some ⟨K,0,none⟩),.bool so] w fun r w'=>(∃ v,r=.returned v)∧Ck w' K h m L S O (wantC e so)∧Upd K K w w':=by
 have HH:=Lib.hid H
 have HF:=Lib.hid (fail_any K h m L S O e 11 w H)
 clear H
 rcases so with _|_
 all_goals
  go_enter Tryz.func173,Tryz.ntmps173
  go_wp2_with (go_at_call 219;refine HF.out.mono ?_;rintro e w1 ⟨⟨v,rfl⟩,hc,hu⟩)
  go_end0
  first|exact ⟨⟨_,rfl⟩,HH.out,Upd.refl K K w⟩|exact ⟨⟨_,rfl⟩,hc,hu⟩
end
section
open Go.RowKit
def cntOk (n takes pushes base:Int):Bool:=decide (base≤n-takes)&&decide (n-takes+pushes≤12)
theorem counts_any (K:Nat) (h:Hd) (m:Md) (L:Value) (so:Option Addr) (sn sc:Nat) (oo:Option Addr) (oc:Nat) (bs:List VB) (e takes pushes:Int) (w:World) (H:Ck w K h m L (.slice so sn sc) (.slice oo bs.length oc) e)
  (ho:RowAt w oo oc bs) (hlen:bs.length≤1000000) (hs:sn≤1000000) (ht:0≤takes∧takes≤1000000000) (hp:0≤pushes∧pushes≤1000000000) :
  Calls Tryz.prog 180 #[.pointer (some ⟨K,0,none⟩),.int .i64 takes,.int .i64 pushes] w fun r w'=>r=.returned (.bool (cntOk sn takes pushes (baseB bs)))∧Ck w' K h m L (.slice so sn sc) (.slice oo bs.length oc) (if cntOk sn takes pushes (baseB bs) then e else errC e 12)∧Upd K K w w':=by
 obtain ⟨kl,-,-,-,-,-,c5,c6,-⟩:=H.cells
 have hfl:=floor_any K oo oc bs w c6 ho hlen
 generalize hbz:baseB bs=bz at hfl ⊢
 have HH:=Lib.hid H
 have HF:=Lib.hid hfl
 clear H hfl hbz c6
 have hw1:IntKind.i64.wrap ((sn:Int)-takes)=sn-takes:=IntWalk.i64_in _ (by omega)
 have hw2:IntKind.i64.wrap ((sn:Int)-takes+pushes)=sn-takes+pushes:=IntWalk.i64_in _ (by omega)
 by_cases h1:(sn:Int)-takes<bz
 ·exact k37
 ·by_cases h2:12<(sn:Int)-takes+pushes
  ·exact k37
  ·have hq:cntOk sn takes pushes bz=true:=by unfold cntOk;grind
   rw [hq]
   clear hq
   go_enter Tryz.func180,Tryz.ntmps180
   go_wp2_with (go_at_call 221;refine HF.out.mono ?_;rintro e w1 ⟨rfl,hb⟩)
   go_ret
   exact ⟨rfl,HH.out.old hb,Upd.of hb⟩
end
section
open Go.RowKit
theorem Blk.upd {w w':World}{b:Nat}{xs:Array Value}{t:TypeId}{K B:Nat} (H:Blk w b xs t) (h:Upd K B w w') (hK:b≠K) (hB:b≠B):Blk w' b xs t:=by
 unfold Blk;rw [h.block b H.lt hK hB];exact H
theorem Upd.setN {K B:Nat}{a b:World} (h:Upd K B a b) {c:Nat} (hc:a.heap.size≤c) (j:Nat) (v:Value):Upd K B a (b.setCell ⟨c,j,none⟩ v):=
 ⟨h.os,h.tape,h.output,by simpa [World.setCell] using h.size,fun k hk h1 h2=>(Below.heap_setCell _ _ _ _ (by show k≠c;omega)).trans (h.block k hk h1 h2)⟩
theorem Ck.other {w:World}{K:Nat}{h:Hd}{m:Md}{L S O:Value}{e:Int} (H:Ck w K h m L S O e) {c:Nat} (hc:K≠c) (j:Nat) (v:Value):Ck (w.setCell ⟨c,j,none⟩ v) K h m L S O e:=Blk.other H hc v
def tyA (t:Ty):Value:=.agg #[.int .i64 t.k,.int .i64 t.c]
theorem local_any (K:Nat) (h:Hd) (m:Md) (S O:Value) (lo:Option Addr) (lc:Nat) (ls:List Ty) (e a:Int) (w:World) (H:Ck w K h m (.slice lo ls.length lc) S O e)
  (hl:RowAt w lo lc ls) (ha:0≤a) :
  Calls Tryz.prog 176 #[.pointer (some ⟨K,0,none⟩),.int .i64 a] w fun r w'=>r=.returned (.agg #[.int .i64 (ls.getD a.toNat default).k,.int .i64 (ls.getD a.toNat default).c])∧Ck w' K h m (.slice lo ls.length lc) S O (wantC e (decide (a<ls.length)))∧Upd K K w w':=by
 have HH:=Lib.hid H
 by_cases h1:a<ls.length
 ·obtain ⟨c,rfl⟩:∃ c:Nat,a=c:=⟨a.toNat,by omega⟩
  have hc:c<ls.length:=by omega
  obtain ⟨ad,rfl,e0,e1⟩:=row_ty hl hc
  obtain ⟨kl,-,-,-,-,c4,-,-,-⟩:=H.cells
  rw [Int.toNat_natCast]
  generalize ls.getD c default=t at e0 e1 ⊢
  have hq:wantC e (decide ((c:Int) < ls.length))=e:=by simp [wantC,h1]
  rw [hq]
  have a0:=cell_lt e0
  clear hq H hl
  go_enter Tryz.func176,Tryz.ntmps176
  go_wp2
  refine bodyPost_ret (v:=.agg #[.int .i64 t.k,.int .i64 t.c]) (by simp [results,Tryz.results176,go_sem]) rfl ⟨rfl,?_,?_⟩
  ·exact HH.out.old bE
  ·exact Upd.of bE
 ·have hq:wantC e (decide (a<ls.length))=errC e 11:=by simp [wantC,h1]
  have hd:ls.getD a.toNat default=⟨0,0⟩:=by
   rw [List.getD_eq_getElem?_getD,List.getElem?_eq_none (by omega)]
   rfl
  obtain ⟨kl,-,-,-,-,c4,-,-,-⟩:=H.cells
  rw [hq,hd]
  clear hq hd H hl
  go_enter Tryz.func176,Tryz.ntmps176
  go_wp2_with (go_at_call 219;refine (fail_any K h m _ _ _ e 11 _ (HH.out.old bE)).mono ?_;rintro e w2 ⟨⟨v,rfl⟩,hc,hu⟩;have hx:=(Blk.new w #[.int .i64 0,.int .i64 0] 35).upd hu (by omega) (by omega);have x0:=hx.cell 0 (v:=.int .i64 0) rfl;have x1:=hx.cell 1 (v:=.int .i64 0) rfl;have g0:=hx.frozen 0;have g1:=hx.frozen 1)
  refine bodyPost_ret (v:=.agg #[.int .i64 0,.int .i64 0]) (by simp [results,Tryz.results176,go_sem,x0,x1]) rfl ⟨rfl,?_,?_⟩
  ·exact (hc.other (by omega) _ _).other (by omega) _ _
  ·exact (((Upd.of bE).trans hu).setN (Nat.le_refl _) _ _).setN (Nat.le_refl _) _ _
theorem element_any (K:Nat) (h:Hd) (m:Md) (L S O:Value) (e:Int) (t:Ty) (w:World) (H:Ck w K h m L S O e) :
  Calls Tryz.prog 228 #[.pointer (some ⟨K,0,none⟩),.agg #[.int .i64 t.k,.int .i64 t.c]] w fun r w'=>r=.returned (.agg #[.int .i64 ((elemV t).getD default).k,.int .i64 ((elemV t).getD default).c])∧Ck w' K h m L S O (wantC e (elemV t).isSome)∧Upd K K w w':=by
 have kl:=Blk.lt H
 have HH:=Lib.hid H
 clear H
 cases t with|mk k c=>
 by_cases h1:k=3
 ·subst h1
  have hv:elemV ⟨3,c⟩=some ⟨1,0⟩:=rfl
  rw [hv]
  clear hv
  go_enter Tryz.func228,Tryz.ntmps228
  go_wp2_with (go_at_call 174;refine (number_any _).mono ?_;rintro e w1 ⟨rfl,hb⟩;have hx:=(Blk.new' (w:=w.alloc (.cells #[.int .i64 3,.int .i64 c] 35)) (b:=w.heap.size+1) #[.int .i64 0,.int .i64 0] 35 (by simp)).old hb;have x0:=hx.cell 0 (v:=.int .i64 0) rfl;have x1:=hx.cell 1 (v:=.int .i64 0) rfl;have g0:=hx.frozen 0;have g1:=hx.frozen 1;clear hx)
  refine bodyPost_ret (v:=.agg #[.int .i64 1,.int .i64 0]) (by simp [results,Tryz.results228,go_sem,x0,x1]) rfl ⟨rfl,?_,?_⟩
  ·exact (Ck.other ((HH.out.old bE).old hb) (by omega) _ _).other (by omega) _ _
  ·exact (((Upd.of bE).bel hb).setN (by omega) _ _).setN (by omega) _ _
 ·by_cases h2:k=4
  ·subst h2
   have hv:elemV ⟨4,c⟩=some ⟨2,c⟩:=rfl
   rw [hv]
   clear hv
   go_enter Tryz.func228,Tryz.ntmps228
   go_wp2_with (go_at_call 222;refine (object_any _ _).mono ?_;rintro e w1 ⟨rfl,hb⟩;have hx:=(Blk.new' (w:=w.alloc (.cells #[.int .i64 4,.int .i64 c] 35)) (b:=w.heap.size+1) #[.int .i64 0,.int .i64 0] 35 (by simp)).old hb;have x0:=hx.cell 0 (v:=.int .i64 0) rfl;have x1:=hx.cell 1 (v:=.int .i64 0) rfl;have g0:=hx.frozen 0;have g1:=hx.frozen 1;clear hx)
   refine bodyPost_ret (v:=.agg #[.int .i64 2,.int .i64 c]) (by simp [results,Tryz.results228,go_sem,x0,x1]) rfl ⟨rfl,?_,?_⟩
   ·exact (Ck.other ((HH.out.old bE).old hb) (by omega) _ _).other (by omega) _ _
   ·exact (((Upd.of bE).bel hb).setN (by omega) _ _).setN (by omega) _ _
  ·have hv:elemV ⟨k,c⟩=none:=by simp [elemV,h1,h2]
   have q1:(k == 3)=false:=by simpa using h1
   have q2:(k == 4)=false:=by simpa using h2
   rw [hv]
   clear hv h1 h2
   go_enter Tryz.func228,Tryz.ntmps228
   go_wp2_with (go_at_call 219;refine (fail_any K h m _ _ _ e 11 _ (HH.out.old bE)).mono ?_;rintro e w2 ⟨⟨v,rfl⟩,hc,hu⟩;have hx:=(Blk.new' (w:=w.alloc (.cells #[.int .i64 k,.int .i64 c] 35)) (b:=w.heap.size+1) #[.int .i64 0,.int .i64 0] 35 (by simp)).upd hu (by omega) (by omega);have x0:=hx.cell 0 (v:=.int .i64 0) rfl;have x1:=hx.cell 1 (v:=.int .i64 0) rfl;have g0:=hx.frozen 0;have g1:=hx.frozen 1;clear hx)
   refine bodyPost_ret (v:=.agg #[.int .i64 0,.int .i64 0]) (by simp [results,Tryz.results228,go_sem,x0,x1]) rfl ⟨rfl,?_,?_⟩
   ·exact (Ck.other (hc) (by omega) _ _).other (by omega) _ _
   ·exact (((Upd.of bE).trans hu).setN (by omega) _ _).setN (by omega) _ _
end
section
open Go.RowKit
theorem wpOp_skip {P:Program}{ops:Array Oper}{Q:Exit→Act→World→Prop}{a:Act}{w:World}{k:Nat}{K:Act→World→Prop} (o:Oper) (ho:ops[k]?=some o) (hw:Region.wanted o (yielded ops a.tmps)=false) (h:K (a.put o.dst undef) w):wpOp P ops Q k K a w:=by
 unfold wpOp
 simp only [ho,hw,Bool.false_eq_true,if_false]
 exact h
theorem Upd.cell {K B:Nat}{w w':World} (h:Upd K B w w') {p:Addr}{v:Value} (hc:w.cell? p=some v) (hK:p.block≠K) (hB:p.block≠B):w'.cell? p=some v:=
 (World.cell?_of_block (w:=w) (h.block p.block (cell_lt hc) hK hB)).trans hc
theorem fit_any (K:Nat) (h:Hd) (m:Md) (L S O:Value) (e:Int) (t u:Ty) (w:World) (H:Ck w K h m L S O e) (HM:ModAt w h m) :
  Calls Tryz.prog 182 #[.pointer (some ⟨K,0,none⟩),.agg #[.int .i64 t.k,.int .i64 t.c],.agg #[.int .i64 u.k,.int .i64 u.c]] w fun r w'=>(∃ v,r=.returned v)∧Ck w' K h m L S O (wantC e (decide (e=0)&&fitG m t u))∧Upd K K w w':=by
 have hb0:Below w.heap.size w ((w.alloc (.cells #[.int .i64 t.k,.int .i64 t.c] 35)).alloc (.cells #[.int .i64 u.k,.int .i64 u.c] 35)).drew:=by exact bE
 have x0:Blk (w.alloc (.cells #[.int .i64 t.k,.int .i64 t.c] 35)) w.heap.size #[.int .i64 t.k,.int .i64 t.c] 35:=Blk.new w _ _
 have x0:=(x0.alloc (.cells #[.int .i64 u.k,.int .i64 u.c] 35)).drew
 have x1:Blk ((w.alloc (.cells #[.int .i64 t.k,.int .i64 t.c] 35)).alloc (.cells #[.int .i64 u.k,.int .i64 u.c] 35)).drew (w.heap.size+1) #[.int .i64 u.k,.int .i64 u.c] 35:=(Blk.new' (w:=(w.alloc (.cells #[.int .i64 t.k,.int .i64 t.c] 35))) _ _ (by simp)).drew
 have HM1:=Lib.hid (HM.old hb0)
 have HC1:=H.old hb0
 obtain ⟨kl,k0,k1,k2,k3,k4,k5,k6,k7⟩:=HC1.cells
 have HH1:=Lib.hid HC1
 have u0:=x0.cell 0 (v:=.int .i64 t.k) rfl
 have u1:=x0.cell 1 (v:=.int .i64 t.c) rfl
 have v0:=x1.cell 0 (v:=.int .i64 u.k) rfl
 have v1:=x1.cell 1 (v:=.int .i64 u.c) rfl
 have HB0:=Lib.hid hb0
 have kl':=Blk.lt H
 obtain ⟨W1,hW1⟩:∃ W1,W1=((w.alloc (.cells #[.int .i64 t.k,.int .i64 t.c] 35)).alloc (.cells #[.int .i64 u.k,.int .i64 u.c] 35)).drew:=⟨_,rfl⟩
 rw [←hW1] at HM1 HH1 HB0 k0 k1 k2 k3 k7 u0 u1 v0 v1
 have HW:=Lib.hid hW1
 clear hb0 x0 x1 HC1 H HM kl k4 k5 k6 hW1
 have hS:∀ w',Below W1.heap.size W1 w'→(fun w':World=>w'.cell? ⟨K,0,none⟩=some (.slice h.co m.cl.length h.cc)∧w'.cell? ⟨K,1,none⟩=some (.slice h.so m.st.length h.sc)∧w'.cell? ⟨K,2,none⟩=some (.slice h.eo m.me.length h.ec)∧w'.cell? ⟨K,3,none⟩=some (.int .i64 m.sel)∧w'.cell? ⟨w.heap.size,0,none⟩=some (.int .i64 t.k)∧w'.cell? ⟨w.heap.size,1,none⟩=some (.int .i64 t.c)∧w'.cell? ⟨w.heap.size+1,0,none⟩=some (.int .i64 u.k)∧w'.cell? ⟨w.heap.size+1,1,none⟩=some (.int .i64 u.c)) w':=
  fun w' hb=>⟨(hb.cell (cell_lt k0)).trans k0,(hb.cell (cell_lt k1)).trans k1,(hb.cell (cell_lt k2)).trans k2,(hb.cell (cell_lt k3)).trans k3,(hb.cell (cell_lt u0)).trans u0,(hb.cell (cell_lt u1)).trans u1,(hb.cell (cell_lt v0)).trans v0,(hb.cell (cell_lt v1)).trans v1⟩
 have HS:=Lib.hid hS
 clear hS k0 k1 k2 k3 u0 u1 v0 v1
 by_cases he:e=0
 ·subst he
  go_enter Tryz.func182,Tryz.ntmps182
  go_wp2_with fail
  refine rO (fun w':World=>w'.cell? ⟨K,0,none⟩=some (.slice h.co m.cl.length h.cc)∧w'.cell? ⟨K,1,none⟩=some (.slice h.so m.st.length h.sc)∧w'.cell? ⟨K,2,none⟩=some (.slice h.eo m.me.length h.ec)∧w'.cell? ⟨K,3,none⟩=some (.int .i64 m.sel)∧w'.cell? ⟨w.heap.size,0,none⟩=some (.int .i64 t.k)∧w'.cell? ⟨w.heap.size,1,none⟩=some (.int .i64 t.c)∧w'.cell? ⟨w.heap.size+1,0,none⟩=some (.int .i64 u.k)∧w'.cell? ⟨w.heap.size+1,1,none⟩=some (.int .i64 u.c)) (oL [0,1,2,3,104,5,6,7,8,9,10,11,12,113,14,115]) (HW.out▸HS.out _ (Below.refl _ _)) ?_
  rw [←HW.out]
  repeat refine pO ?_
  refine oO fun Kv hK=>?_
  go_simp
  refine hK _ _ ⟨HS.out _ (Below.refl _ _),?_⟩
  clear hK Kv
  repeat refine pO ?_
  refine oO fun Kv hK=>?_
  go_simp
  refine (fits_any m h t u _ HM1.out).mono ?_
  rintro r w2 ⟨rfl,hb2⟩
  refine hK _ _ ⟨HS.out _ hb2,?_⟩
  clear hK Kv
  repeat refine pO ?_
  refine oO fun Kv hK=>?_
  go_simp
  refine (want_any K h m L S O _ _ _ (HH1.out.old hb2)).mono ?_
  rintro r w3 ⟨⟨v,rfl⟩,hc,hu⟩
  obtain ⟨-,-,-,-,s0,s1,s2,s3⟩:=HS.out _ hb2
  obtain ⟨-,c0,c1,c2,c3,-,-,-,-⟩:=hc.cells
  refine hK _ _ ⟨⟨c0,c1,c2,c3,hu.cell s0 (by show w.heap.size≠K;omega) (by show w.heap.size≠K;omega),hu.cell s1 (by show w.heap.size≠K;omega) (by show w.heap.size≠K;omega),hu.cell s2 (by show w.heap.size+1≠K;omega) (by show w.heap.size+1≠K;omega),hu.cell s3 (by show w.heap.size+1≠K;omega) (by show w.heap.size+1≠K;omega)⟩,?_⟩
  clear hK Kv
  refine wpMixO_done ?_
  go_wp2
  go_end0
  exact ⟨⟨_,rfl⟩,by simpa using hc,(Upd.of (bthen HB0.out hb2)).trans hu⟩
 ·have he2:(e == 0)=false:=by simpa using he
  have HE:=Lib.hid he
  go_enter Tryz.func182,Tryz.ntmps182
  go_wp2_with fail
  refine rO (fun w':World=>w'.cell? ⟨K,0,none⟩=some (.slice h.co m.cl.length h.cc)∧w'.cell? ⟨K,1,none⟩=some (.slice h.so m.st.length h.sc)∧w'.cell? ⟨K,2,none⟩=some (.slice h.eo m.me.length h.ec)∧w'.cell? ⟨K,3,none⟩=some (.int .i64 m.sel)∧w'.cell? ⟨w.heap.size,0,none⟩=some (.int .i64 t.k)∧w'.cell? ⟨w.heap.size,1,none⟩=some (.int .i64 t.c)∧w'.cell? ⟨w.heap.size+1,0,none⟩=some (.int .i64 u.k)∧w'.cell? ⟨w.heap.size+1,1,none⟩=some (.int .i64 u.c)) (oL [0,1,2,3,104,5,6,7,8,9,10,11,12,113,14,115]) (HW.out▸HS.out _ (Below.refl _ _)) ?_
  rw [←HW.out]
  repeat refine pO ?_
  refine oO fun Kv hK=>?_
  go_simp
  refine hK _ _ ⟨HS.out _ (Below.refl _ _),?_⟩
  clear hK Kv
  repeat refine pO ?_
  refine wpMixO_one ?_
  refine wpOp_skip _ (by rfl) (by rfl) ?_
  refine ⟨HS.out _ (Below.refl _ _),?_⟩
  repeat refine pO ?_
  refine oO fun Kv hK=>?_
  go_simp
  refine (want_any K h m L S O _ _ _ (HH1.out.old (Below.refl _ _))).mono ?_
  rintro r w3 ⟨⟨v,rfl⟩,hc,hu⟩
  obtain ⟨-,-,-,-,s0,s1,s2,s3⟩:=HS.out _ (Below.refl _ _)
  obtain ⟨-,c0,c1,c2,c3,-,-,-,-⟩:=hc.cells
  refine hK _ _ ⟨⟨c0,c1,c2,c3,hu.cell s0 (by show w.heap.size≠K;omega) (by show w.heap.size≠K;omega),hu.cell s1 (by show w.heap.size≠K;omega) (by show w.heap.size≠K;omega),hu.cell s2 (by show w.heap.size+1≠K;omega) (by show w.heap.size+1≠K;omega),hu.cell s3 (by show w.heap.size+1≠K;omega) (by show w.heap.size+1≠K;omega)⟩,?_⟩
  clear hK Kv
  refine wpMixO_done ?_
  go_wp2
  go_end0
  exact ⟨⟨_,rfl⟩,by simpa [HE.out] using hc,(Upd.of HB0.out).trans hu⟩
end
section
open Go.RowKit
theorem field_any (K:Nat) (h:Hd) (m:Md) (L S O:Value) (e a:Int) (t:Ty) (w:World) (H:Ck w K h m L S O e) (HM:ModAt w h m) (ha:0≤a) (ht:t.k=2→0≤t.c∧t.c<m.cl.length) :
  Calls Tryz.prog 225 #[.pointer (some ⟨K,0,none⟩),.agg #[.int .i64 t.k,.int .i64 t.c],.int .i64 a] w fun r w'=>r=.returned (.agg #[.int .i64 ((fldV m t a).getD default).k,.int .i64 ((fldV m t a).getD default).c])∧Ck w' K h m L S O (wantC e (fldV m t a).isSome)∧Upd K K w w':=by
 have kl:=Blk.lt H
 cases t with|mk k c=>
 have hb0:Below w.heap.size w ((w.alloc (.cells #[.int .i64 k,.int .i64 c] 35)).alloc (.cells #[.int .i64 0,.int .i64 0] 35)):=by exact bE
 have x0:=(Blk.new w #[.int .i64 k,.int .i64 c] 35).alloc (.cells #[.int .i64 0,.int .i64 0] 35)
 have x1:Blk ((w.alloc (.cells #[.int .i64 k,.int .i64 c] 35)).alloc (.cells #[.int .i64 0,.int .i64 0] 35)) (w.heap.size+1) #[.int .i64 0,.int .i64 0] 35:=Blk.new' (w:=w.alloc (.cells #[.int .i64 k,.int .i64 c] 35)) _ _ (by simp)
 have HX1:=Lib.hid x1
 have HB0:=Lib.hid hb0
 have HC:=Lib.hid (H.old hb0)
 obtain ⟨W1,hW1⟩:∃ W1,W1=(w.alloc (.cells #[.int .i64 k,.int .i64 c] 35)).alloc (.cells #[.int .i64 0,.int .i64 0] 35):=⟨_,rfl⟩
 rw [←hW1] at HB0 HC x0 HX1
 have HW:=Lib.hid hW1
 clear hb0 x1 hW1
 obtain ⟨-,k0,-,-,-,-,-,-,-⟩:=HC.out.cells
 have u0:=x0.cell 0 (v:=.int .i64 k) rfl
 have u1:=x0.cell 1 (v:=.int .i64 c) rfl
 have hsz:w.heap.size+1<W1.heap.size:=HX1.out.lt
 clear x0
 by_cases h2:k=2
 ·subst h2
  obtain ⟨hc0,hcl⟩:=ht rfl
  dsimp only at hc0 hcl
  clear ht
  obtain ⟨c,rfl⟩:∃ d:Nat,c=d:=⟨c.toNat,by omega⟩
  have hcl':c<m.cl.length:=by omega
  obtain ⟨ad,hco,-,-,e2,-⟩:=HM.cls hcl'
  have hf:=HM.f c hcl'
  rw [hco] at k0
  have hfv:fldV m ⟨2,c⟩ a=(m.cl.getD c default).f[a.toNat]?:=by simp [fldV]
  rw [hfv]
  generalize (m.cl.getD c default).f=fs at e2 hf ⊢
  have a1:(ad.add (c*4)).block<w.heap.size:=cell_lt (a:=⟨(ad.add (c*4)).block,(ad.add (c*4)).off+2,none⟩) e2
  by_cases h3:a<fs.length
  ·obtain ⟨a,rfl⟩:∃ d:Nat,a=d:=⟨a.toNat,by omega⟩
   have h3':a<fs.length:=by omega
   obtain ⟨fa,hfo,f0,f1⟩:=row_ty hf h3'
   have hg:fs[(a:Int).toNat]?=some (fs.getD a default):=by simp [h3']
   rw [hg]
   generalize fs.getD a default=u at f0 f1 ⊢
   rw [hfo] at e2
   have a0:(fa.add (a*2)).block<w.heap.size:=cell_lt f0
   simp only [Option.getD_some,Option.isSome_some]
   have hS:∀ w',Upd (w.heap.size+1) (w.heap.size+1) W1 w'→(fun w':World=>w'.cell? ⟨K,0,none⟩=some (.slice (some ad) m.cl.length h.cc)∧w'.cell? ⟨w.heap.size,0,none⟩=some (.int .i64 2)∧w'.cell? ⟨w.heap.size,1,none⟩=some (.int .i64 c)∧w'.cell? ⟨(ad.add (c*4)).block,(ad.add (c*4)).off+2,none⟩=some (.slice (some fa) fs.length (h.c c).fc)∧w'.cell? (fa.add (a*2))=some (.int .i64 u.k)∧w'.cell? ⟨(fa.add (a*2)).block,(fa.add (a*2)).off+1,none⟩=some (.int .i64 u.c)) w':=by
    intro w' hb
    have q:∀ {p:Addr}{v:Value},W1.cell? p=some v→p.block<w.heap.size+1→w'.cell? p=some v:=fun hc hp=>hb.cell hc (by omega) (by omega)
    exact ⟨q k0 (by show K<_;omega),q u0 (by show w.heap.size<_;omega),q u1 (by show w.heap.size<_;omega),q (p:=⟨(ad.add (c*4)).block,(ad.add (c*4)).off+2,none⟩) ((HB0.out.cell (p:=⟨(ad.add (c*4)).block,(ad.add (c*4)).off+2,none⟩) a1).trans e2) (by show (ad.add (c*4)).block<_;omega),q ((HB0.out.cell a0).trans f0) (by omega),q (p:=⟨(fa.add (a*2)).block,(fa.add (a*2)).off+1,none⟩) ((HB0.out.cell (p:=⟨(fa.add (a*2)).block,(fa.add (a*2)).off+1,none⟩) a0).trans f1) (by show (fa.add (a*2)).block<_;omega)⟩
   have HS:=Lib.hid hS
   clear hf hg hS k0 u0 u1 e2 f0 f1 hfv
   go_enter Tryz.func225,Tryz.ntmps225
   go_wp2_with fail
   refine rO (fun w':World=>w'.cell? ⟨K,0,none⟩=some (.slice (some ad) m.cl.length h.cc)∧w'.cell? ⟨w.heap.size,0,none⟩=some (.int .i64 2)∧w'.cell? ⟨w.heap.size,1,none⟩=some (.int .i64 c)∧w'.cell? ⟨(ad.add (c*4)).block,(ad.add (c*4)).off+2,none⟩=some (.slice (some fa) fs.length (h.c c).fc)∧w'.cell? (fa.add (a*2))=some (.int .i64 u.k)∧w'.cell? ⟨(fa.add (a*2)).block,(fa.add (a*2)).off+1,none⟩=some (.int .i64 u.c)) (oL [0,1,2,3,4,5,6,7,8,9,10,11,12,13,14,15,16,17]) (HW.out▸HS.out _ (Upd.refl _ _ _).drew) ?_
   rw [←HW.out]
   repeat refine pO ?_
   refine wpMixO_done ?_
   go_wp2_with fail
   have y0:=HX1.out.cell 0 (v:=.int .i64 0) rfl
   have y1:=HX1.out.cell 1 (v:=.int .i64 0) rfl
   have g0:=HX1.out.frozen 0
   have g1:=HX1.out.frozen 1
   refine rO (fun w':World=>w'.cell? ⟨K,0,none⟩=some (.slice (some ad) m.cl.length h.cc)∧w'.cell? ⟨w.heap.size,0,none⟩=some (.int .i64 2)∧w'.cell? ⟨w.heap.size,1,none⟩=some (.int .i64 c)∧w'.cell? ⟨(ad.add (c*4)).block,(ad.add (c*4)).off+2,none⟩=some (.slice (some fa) fs.length (h.c c).fc)∧w'.cell? (fa.add (a*2))=some (.int .i64 u.k)∧w'.cell? ⟨(fa.add (a*2)).block,(fa.add (a*2)).off+1,none⟩=some (.int .i64 u.c)) (oL [0,1,2,3,4,5,6,7,8,9,10,11,12,113]) (HS.out _ (Upd.refl _ _ _).drew.drew) ?_
   repeat refine pO ?_
   refine oO fun Kv hK=>?_
   go_simp
   refine hK _ _ ⟨HS.out _ ((((Upd.refl _ _ _).drew.drew).set 0 _).set 1 _),?_⟩
   clear hK Kv
   refine wpMixO_done ?_
   go_wp2
   refine bodyPost_ret (v:=.agg #[.int .i64 u.k,.int .i64 u.c]) (by simp [results,Tryz.results225,go_sem,y0,y1]) rfl ⟨rfl,?_,?_⟩
   ·exact (Ck.other (Ck.other (HC.out) (by omega) 0 _) (by omega) 1 _)
   ·exact (((Upd.of HB0.out).setN (by omega) 0 _).setN (by omega) 1 _).drew.drew
  ·have hg:fs[a.toNat]?=none:=by rw [List.getElem?_eq_none];omega
   rw [hg]
   simp only [Option.getD_none,Option.isSome_none]
   have hS:∀ w',Upd (w.heap.size+1) (w.heap.size+1) W1 w'→(fun w':World=>w'.cell? ⟨K,0,none⟩=some (.slice (some ad) m.cl.length h.cc)∧w'.cell? ⟨w.heap.size,0,none⟩=some (.int .i64 2)∧w'.cell? ⟨w.heap.size,1,none⟩=some (.int .i64 c)∧w'.cell? ⟨(ad.add (c*4)).block,(ad.add (c*4)).off+2,none⟩=some (.slice (h.c c).fo fs.length (h.c c).fc)) w':=by
    intro w' hb
    have q:∀ {p:Addr}{v:Value},W1.cell? p=some v→p.block<w.heap.size+1→w'.cell? p=some v:=fun hc hp=>hb.cell hc (by omega) (by omega)
    exact ⟨q k0 (by show K<_;omega),q u0 (by show w.heap.size<_;omega),q u1 (by show w.heap.size<_;omega),q (p:=⟨(ad.add (c*4)).block,(ad.add (c*4)).off+2,none⟩) ((HB0.out.cell (p:=⟨(ad.add (c*4)).block,(ad.add (c*4)).off+2,none⟩) a1).trans e2) (by show (ad.add (c*4)).block<_;omega)⟩
   have HS:=Lib.hid hS
   have hlt:decide ((fs.length:Int)≤a)=true:=by simp;omega
   clear hf hg hS k0 u0 u1 e2 hfv
   go_enter Tryz.func225,Tryz.ntmps225
   go_wp2_with fail
   refine rO (fun w':World=>w'.cell? ⟨K,0,none⟩=some (.slice (some ad) m.cl.length h.cc)∧w'.cell? ⟨w.heap.size,0,none⟩=some (.int .i64 2)∧w'.cell? ⟨w.heap.size,1,none⟩=some (.int .i64 c)∧w'.cell? ⟨(ad.add (c*4)).block,(ad.add (c*4)).off+2,none⟩=some (.slice (h.c c).fo fs.length (h.c c).fc)) (oL [0,1,2,3,4,5,6,7,8,9,10,11,12,13,14,15,16,17]) (HW.out▸HS.out _ (Upd.refl _ _ _).drew) ?_
   exact k26
 ·have hfv:fldV m ⟨k,c⟩ a=none:=by simp [fldV,h2]
  rw [hfv]
  simp only [Option.getD_none,Option.isSome_none]
  have hS:∀ w',Upd (w.heap.size+1) (w.heap.size+1) W1 w'→(fun w':World=>w'.cell? ⟨w.heap.size,0,none⟩=some (.int .i64 k)) w':=by
   intro w' hb
   have q:∀ {p:Addr}{v:Value},W1.cell? p=some v→p.block<w.heap.size+1→w'.cell? p=some v:=fun hc hp=>hb.cell hc (by omega) (by omega)
   exact q u0 (by show w.heap.size<_;omega)
  have HS:=Lib.hid hS
  have hk2:(k != 2)=true:=by simpa using h2
  clear hS k0 u0 u1 hfv ht h2
  go_enter Tryz.func225,Tryz.ntmps225
  go_wp2_with fail
  refine rO (fun w':World=>w'.cell? ⟨w.heap.size,0,none⟩=some (.int .i64 k)) (oL [0,1,2,3,4,5,6,7,8,9,10,11,12,13,14,15,16,17]) (HW.out▸HS.out _ (Upd.refl _ _ _).drew) ?_
  exact k26
end
section
open Go.RowKit
def RetT (W:World) (l:List Ty):Ending→World→Prop:=fun e w'=>∃ ro rc,e=.returned (.slice ro l.length rc)∧TyAt w' ro rc l∧(∀ a,ro=some a→W.heap.size≤a.block)∧Below W.heap.size W w'
theorem TyAt.nil (w:World):TyAt w none 0 []:=⟨RowAt.nil w,Nat.le_refl _,fun a h=>by cases h⟩
theorem TyAt.one {w:World}{b:Nat}{t:Ty} (H:Blk w b #[.int .i64 t.k,.int .i64 t.c] 35):TyAt w (some ⟨b,0,none⟩) 1 [t]:=
 ⟨sla_blkV H rfl,Nat.le_refl _,fun a h=>by cases h;exact ⟨_,_,H⟩⟩
def resL (t:Ty):List Ty:=if t.k=0 then [] else [t]
theorem results_any (t:Ty) (w:World):Calls Tryz.prog 132 #[.agg #[.int .i64 t.k,.int .i64 t.c]] w (RetT w (resL t)):=by
 by_cases h0:t.k=0
 ·have hr:resL t=[]:=by simp [resL,h0]
  rw [hr]
  clear hr
  go_enter Tryz.func132,Tryz.ntmps132
  go_wp2
  go_ret
  exact ⟨none,0,rfl,TyAt.nil _,fun a h=>(by cases h),by exact bE⟩
 ·have hr:resL t=[t]:=by simp [resL,h0]
  have hk:(t.k == 0)=false:=by simpa using h0
  rw [hr]
  clear hr h0
  go_enter Tryz.func132,Tryz.ntmps132
  go_wp2
  go_ret
  exact ⟨some ⟨w.heap.size+1,0,none⟩,1,rfl,TyAt.one (Blk.new' (w:=w.alloc (.cells #[.int .i64 t.k,.int .i64 t.c] 35)) _ _ (by simp)),fun a h=>(by cases h;show _≤_+1;omega),by exact bE⟩
theorem push1_any (t:Ty) (B:Nat) (v:Value) (w:World) (hB:Blk w B #[.int .i64 t.k,.int .i64 t.c] 35):Calls Tryz.prog 220 #[v,.pointer (some ⟨B,0,none⟩)] w (RetT w [t]):=by
 have b0:=hB.cell 0 (v:=.int .i64 t.k) rfl
 have b1:=hB.cell 1 (v:=.int .i64 t.c) rfl
 have bl:=hB.lt
 clear hB
 go_enter Tryz.func220,Tryz.ntmps220
 go_wp2
 go_ret
 exact ⟨some ⟨w.heap.size,0,none⟩,1,rfl,TyAt.one (Blk.new w _ _),fun a h=>(by cases h;exact Nat.le_refl _),by exact bE⟩
end
section
open Go.RowKit
theorem clT_any (W:World) (ao:Option Addr) (cap:Nat) (l:List Ty) (h:RowAt W ao cap l) (hl:l.length≤1000000) :
    Calls Tryz.prog 127 #[.slice ao l.length cap] W (RetOwn 35 W l):=by
 cases ao with
 | none=>
   have hlz:l.length=0:=(h.2.1 rfl).1
   have hcz:cap=0:=(h.2.1 rfl).2
   have hl0:l=[]:=by cases l with|nil=>rfl|cons x r=>simp at hlz
   subst hl0
   subst hcz
   clear h
   have hnil:=fun w=>Lib.run_eql_slice_nil (P:=Tryz.prog) w 23 35 none 0 0 0 0 Tryz.underlying23
   simp only [List.length_nil] at *
   go_enter Tryz.func127,Tryz.ntmps127
   go_wp2
   go_ret
   exact ⟨⟨none,0,rfl,⟨rfl,.inl ⟨rfl,rfl⟩⟩⟩,Below.refl _ _⟩
 | some a=>
   have HH:=Lib.hid h
   clear h
   have HO:=Lib.hid (World.ownsRow_made (e:=35) (size:=2) W #[] 0 (Nat.le_refl _) (by decide) rfl)
   have hnil:=fun w=>Lib.run_eql_slice_nil (P:=Tryz.prog) w 23 35 (some a) l.length cap 0 0 Tryz.underlying23
   go_enter Tryz.func127,Tryz.ntmps127
   go_wp2_with (first
     | (at_builtin;refine wpList_append_sl rfl (.tmp 5) (.tmp 6) 23 rfl W.heap.size 35 2 16 elTyV (.slice (some ⟨W.heap.size,0,none⟩) 0 0) 0 [] rfl HO.out (some a) l.length cap (flatR l) rfl (SlA.alloc (w:=W) HH.out _) (flatR_oneC l) (by omega) (by unfold maxLen;omega) (by simp) ?_
        intro ao1 cap1 w1 hown hg
        simp only [Nat.zero_add,List.nil_append] at hown ⊢
        have hb:=((Below.refl W.heap.size W).alloc (Nat.le_refl _) (.cells #[] 35)).grown hg (by simp) (by intro k hk;simp [Value.ownBlock] at hk;omega)
        have HR:=Lib.hid (And.intro hown hb)
        clear hown hg hb))
   go_ret
   exact ⟨⟨ao1,cap1,rfl,HR.out.1⟩,HR.out.2⟩
theorem TyAt.own {w:World}{base:Nat}{ao:Option Addr}{cap:Nat}{l:List Ty} (h:w.ownsRow base 35 2 (.slice ao l.length cap) l.length (flatR l)):TyAt w ao cap l:=by
 refine ⟨RowAt.of_own h,?_,?_⟩
 ·rcases h.2 with ⟨hv,hn⟩|⟨g,c,cur,hv,_,_,hle,_⟩
  ·omega
  ·rw [(Value.slice.inj hv).2.2];exact hle
 ·intro a ha
  rcases h.2 with ⟨hv,hn⟩|⟨g,c,cur,hv,_,hg,_⟩
  ·rw [(Value.slice.inj hv).1] at ha;cases ha
  ·rw [(Value.slice.inj hv).1] at ha;cases ha;exact ⟨_,_,hg⟩
end
end Go.Proofs.YtfkbfjhocmbneaaGreat
