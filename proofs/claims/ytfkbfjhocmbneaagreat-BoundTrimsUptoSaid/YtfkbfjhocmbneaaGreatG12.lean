/- Joined texts. The first: ref06: what an instruction pushes, operation by operation. -/
import Derived.Test.YtfkbfjhocmbneaaGreatG11
import Derived.Test.YtfkbfjhocmbneaaGreatG10
import Derived.Test.YtfkbfjhocmbneaaGreatG5
import Derived.Test.YtfkbfjhocmbneaaGreatG4
set_option linter.all false
set_option linter.unusedVariables false
set_option linter.unusedSimpArgs false
set_option maxRecDepth 100000
set_option maxHeartbeats 8000000
namespace Go.Proofs.YtfkbfjhocmbneaaGreat
theorem k20{p:Prop}(h:p:=by
 go_enter Tryz.func254,Tryz.ntmps254
 go_upto_region 20 with (go_at_call 253;rw [←HW1.out];refine (integer_any _).mono ?_;rintro r w4 ⟨rfl,hb4⟩;have HB4:=Lib.hid hb4;have z0:=(HBt.out.old hb4).cell 0 (v:=.int .i64 3) rfl;have z1:=(HBt.out.old hb4).cell 1 (v:=.int .i64 ac) rfl;have zl:=hb4.size;have zt:=HBt.out.lt;have zz:w.heap.size+2<w4.heap.size:=(by omega);clear hb4)
 clear a0 a1 hal
 clear z0 z1
 have hw5:Below W1.heap.size W1 (w4.alloc (.cells #[.int .i64 1,.int .i64 0] 35)):=bal HB4.out _
 have hx5:=Blk.new w4 #[.int .i64 1,.int .i64 0] 35
 obtain ⟨W5,hW5⟩:∃ W5,W5=w4.alloc (.cells #[.int .i64 1,.int .i64 0] 35):=⟨_,rfl⟩
 rw [←hW5] at hw5 hx5 ⊢
 have HB1:=Lib.hid hw5
 have HX5:=Lib.hid (show Blk W5 w4.heap.size #[.int .i64 1,.int .i64 0] 35 from hx5)
 exact k6):p:=h
theorem k25{p:Prop}(h:p:=by
 have HB1:=Lib.hid HB0.out.drew
 repeat refine pO ?_
 refine oO fun Kv hK=>?_
 go_simp
 refine (HFi.out _ (bthen HBw.out HB1.out)).mono ?_
 rintro r w5 ⟨rfl,hb5⟩
 have HB2:=Lib.hid (bthen HB1.out hb5)
 refine hK _ _ ⟨HS.out _ (Upd.of HB2.out),?_⟩
 clear hK Kv hb5
 repeat refine pO ?_
 obtain ⟨y0,y1,g0,g1⟩:=blk00 (HX.out.old HB2.out)
 refine oO fun Kv hK=>?_
 go_simp
 refine hK _ _ ⟨HS.out _ (((Upd.of HB2.out).set 0 _).set 1 _),?_⟩
 clear hK Kv
 repeat refine pO ?_
 refine wpMixO_done ?_
 go_wp2
 refine bodyPost_ret (v:=.tuple #[.agg #[.int .i64 0,.int .i64 0],.bool ft]) (by simp [results,Tryz.results238,go_sem,y0,y1]) rfl ?_
 exact retI HPv.out Hft.out (bset2 HBw.out HB2.out)):p:=h
theorem k50{p:Prop}(h:p:=by
 go_enter Tryz.func136,Tryz.ntmps136
 go_wp2
 go_ret
 exact ret_ok (bool_eq HNo.out.symm) HB3.out):p:=h
section
open Go.RowKit
section
variable {w:World}{K:Nat}{h:Hd}{m:Md}{lo:Option Addr}{lc:Nat}{ls:List Ty}{S O:Value}(H:Pk w K h m (.slice lo ls.length lc) S O)(HM:ModAt w h m)(hd:Desc m m.cl.length)(ht:RowAt w lo lc ls){ia ib:Int}{la:Option Addr}{lcap:Nat}
include w K h m lo lc ls S O H HM hd ht ia ib la lcap
theorem p_2y (hr:RowAt w la lcap ([]:List Ty)) (hi0:0≤ia) (hlt:ia<ls.length):
  Calls Tryz.prog 238 #[.pointer (some ⟨K,0,none⟩),.agg #[.int .i64 2,.int .i64 ia,.int .i64 ib],.slice la 0 lcap] w (RetP w (pushV m ls ⟨2,ia,ib⟩ [])):=by
 obtain ⟨ia,rfl⟩:∃ d:Nat,ia=d:=⟨ia.toNat,by omega⟩
 have hlt':ia<ls.length:=by omega
 obtain ⟨la',hlo,u0,u1⟩:=row_ty ht hlt'
 obtain ⟨⟨uk,uc⟩,hu⟩:∃ u,u=ls.getD ia default:=⟨_,rfl⟩
 have hls:ls[((ia:Int)).toNat]?=some ⟨uk,uc⟩:=by rw [Int.toNat_natCast,hu];exact getD_some hlt'
 rw [←hu] at u0 u1
 dsimp only at u0 u1
 rw [hlo] at H
 clear hu hlo
 have HPv:=Lib.hid (show pushV m ls ⟨2,ia,ib⟩ []=some ⟨uk,uc⟩ from by rw [pv2 rfl];exact hls)
 have hge:decide ((ls.length:Int)≤(ia:Int))=false:=by simp;omega
 clear hls
 obtain ⟨kl,k0,k1,k2,k3,k4⟩:=H.cells
 obtain ⟨W1,HW1,HBw,HX,HS,hrl⟩:=boxP w 2 ia ib (l:=[(⟨K,4,none⟩,.slice (some la') ls.length lc),((la'.add (ia*2)),.int .i64 uk),(⟨(la'.add (ia*2)).block,(la'.add (ia*2)).off+1,none⟩,.int .i64 uc)]) ⟨k4,u0,u1,trivial⟩
 have HB0:=Lib.hid (Below.refl W1.heap.size W1)
 have hne:=neqTy
 have heq:=eqlTy
 have hgu:=guardTy
 clear H HM ht hr k0 k1 k2 k3 k4 u0 u1
 go_enter Tryz.func238,Tryz.ntmps238
 go_upto_region 5 with fail
 rw [←HW1.out]
 refine kO HS.out (oL [0,1,2,3,4,5,6,7]) (Upd.of HB0.out).drew ?_
 have HB1:=Lib.hid HB0.out.drew
 repeat refine pO ?_
 refine wpMixO_done ?_
 go_wp2_with fail
 refine kO HS.out (oL [0,1,2,3,4,5,6,7,108,9]) (Upd.of HB1.out).drew ?_
 have HB2:=Lib.hid HB1.out.drew
 repeat refine pO ?_
 obtain ⟨y0,y1,g0,g1⟩:=blk00 (HX.out.old HB0.out)
 refine oO fun Kv hK=>?_
 go_simp
 refine hK _ _ ⟨HS.out _ (((Upd.of HB2.out).set 0 _).set 1 _),?_⟩
 clear hK Kv
 repeat refine pO ?_
 refine wpMixO_done ?_
 go_wp2
 refine bodyPost_ret (v:=.tuple #[.agg #[.int .i64 uk,.int .i64 uc],.bool true]) (by simp [results,Tryz.results238,go_sem,y0,y1]) rfl ?_
 exact k89
theorem p_12s (hr:RowAt w la lcap ([]:List Ty)) (h1:ia=3) (h2:ib=0):
  Calls Tryz.prog 238 #[.pointer (some ⟨K,0,none⟩),.agg #[.int .i64 12,.int .i64 ia,.int .i64 ib],.slice la 0 lcap] w (RetP w (pushV m ls ⟨12,ia,ib⟩ [])):=by
 subst h1 h2
 have HPv:=Lib.hid (show pushV m ls ⟨12,3,0⟩ []=some ⟨3,0⟩ from pv12 rfl)
 exact k58
theorem p_23 {a:Ty} (hr:RowAt w la lcap ([a]:List Ty)) (hta:a.k=2→0≤a.c∧a.c<m.cl.length) (hi0:0≤ia) (hlt:ia<m.st.length) (hst:∀ t∈m.st,tyOk m t):
  Calls Tryz.prog 238 #[.pointer (some ⟨K,0,none⟩),.agg #[.int .i64 23,.int .i64 ia,.int .i64 ib],.slice la 1 lcap] w (RetP w (pushV m ls ⟨23,ia,ib⟩ [a])):=by
 obtain ⟨ia,rfl⟩:∃ d:Nat,ia=d:=⟨ia.toNat,by omega⟩
 have hlt':ia<m.st.length:=by omega
 have hlt2:(ia:Int) < m.st.length:=by omega
 obtain ⟨sa,hso,u0,u1⟩:=row_ty HM.st hlt'
 obtain ⟨⟨uk,uc⟩,hu⟩:∃ u,u=m.st.getD ia default:=⟨_,rfl⟩
 have hls:m.st.getD ((ia:Int)).toNat default=⟨uk,uc⟩:=by rw [Int.toNat_natCast,hu]
 rw [←hu] at u0 u1
 dsimp only at u0 u1
 have hut:(⟨uk,uc⟩:Ty).k=2→0≤(⟨uk,uc⟩:Ty).c:=fun hk=>(ty_cls (hst ⟨uk,uc⟩ (by rw [hu];exact getD_mem _ hlt')) (.inl hk)).1
 have HPv:=Lib.hid (show pushV m ls ⟨23,ia,ib⟩ [a]=if fitsV m a ⟨uk,uc⟩=true then some ty0 else none from by rw [pv23 rfl];dsimp only;rw [hls];rfl)
 clear hls hu hst
 obtain ⟨kl,k0,k1,k2,k3,k4⟩:=H.cells
 obtain ⟨ad,rfl,a0,a1⟩:=row1 hr
 obtain ⟨ak,ac⟩:=a
 dsimp only at a0 a1
 have k1':=k1
 rw [hso] at k1'
 have hso2:=hso
 obtain ⟨ft,hft⟩:∃ x,x=fitsV m ⟨ak,ac⟩ ⟨uk,uc⟩:=⟨_,rfl⟩
 have HFi:=Lib.hid (show ∀ w',Below w.heap.size w w'→Calls Tryz.prog 239 #[.agg #[.slice h.co m.cl.length h.cc,.slice h.so m.st.length h.sc,.slice h.eo m.me.length h.ec,.int .i64 m.sel],.agg #[.int .i64 ak,.int .i64 ac],.agg #[.int .i64 uk,.int .i64 uc]] w' (Ret w' (.bool ft)) from fun w' hb'=>by have:=r6Fits_any m h ⟨ak,ac⟩ ⟨uk,uc⟩ w' (HM.old hb') hta hut hd;rw [←hft] at this;exact this)
 have Hft:=Lib.hid hft
 clear hft
 rw [hso] at HFi
 obtain ⟨W1,HW1,HBw,HX,HS,hrl⟩:=boxP w 23 ia ib (l:=[(ad,.int .i64 ak),(⟨ad.block,ad.off+1,none⟩,.int .i64 ac),(⟨K,0,none⟩,.slice h.co m.cl.length h.cc),(⟨K,1,none⟩,.slice (some sa) m.st.length h.sc),(⟨K,2,none⟩,.slice h.eo m.me.length h.ec),(⟨K,3,none⟩,.int .i64 m.sel),((sa.add (ia*2)),.int .i64 uk),(⟨(sa.add (ia*2)).block,(sa.add (ia*2)).off+1,none⟩,.int .i64 uc)]) ⟨a0,a1,k0,k1',k2,k3,u0,u1,trivial⟩
 have HB0:=Lib.hid (Below.refl W1.heap.size W1)
 have hne:=neqTy
 have heq:=eqlTy
 have hgu:=guardTy
 clear hso hso2
 clear H HM ht hr k0 k1 k2 k3 k4 a0 a1 k1' u0 u1
 go_enter Tryz.func238,Tryz.ntmps238
 go_upto_region 34 with fail
 rw [←HW1.out]
 refine kO HS.out (oL [0,1,2,3,4,5,6,7,8,9,10,11,12,13,14,15,16,117,118,19]) (Upd.of HB0.out).drew ?_
 exact k25
theorem p_30y {a:Ty} (hr:RowAt w la lcap ([a]:List Ty)) (h1:a=tInt) (hi0:0≤ib) (hlt:ib<ls.length):
  Calls Tryz.prog 238 #[.pointer (some ⟨K,0,none⟩),.agg #[.int .i64 30,.int .i64 ia,.int .i64 ib],.slice la 1 lcap] w (RetP w (pushV m ls ⟨30,ia,ib⟩ [a])):=by
 obtain ⟨ib,rfl⟩:∃ d:Nat,ib=d:=⟨ib.toNat,by omega⟩
 have hlt':ib<ls.length:=by omega
 obtain ⟨la',hlo,u0,u1⟩:=row_ty ht hlt'
 obtain ⟨⟨uk,uc⟩,hu⟩:∃ u,u=ls.getD ib default:=⟨_,rfl⟩
 have hls:ls[((ib:Int)).toNat]?=some ⟨uk,uc⟩:=by rw [Int.toNat_natCast,hu];exact getD_some hlt'
 rw [←hu] at u0 u1
 dsimp only at u0 u1
 rw [hlo] at H
 clear hu hlo
 have HPv:=Lib.hid (show pushV m ls ⟨30,ia,ib⟩ [a]=if decide ((⟨uk,uc⟩:Ty)=tInt)=true then some ty0 else none from by rw [pv30 rfl];dsimp only;rw [hls,h1];simp)
 have hlt3:decide ((ib:Int) < (ls.length:Int))=true:=by simp;omega
 clear hls
 obtain ⟨kl,k0,k1,k2,k3,k4⟩:=H.cells
 obtain ⟨ad,rfl,a0,a1⟩:=row1 hr
 obtain ⟨ak,ac⟩:=a
 obtain ⟨rfl,rfl⟩:ak=1∧ac=0:=by cases h1;exact ⟨rfl,rfl⟩
 dsimp only at a0 a1
 obtain ⟨W1,HW1,HBw,HX,HS,hrl⟩:=boxP w 30 ia ib (l:=[(ad,.int .i64 1),(⟨ad.block,ad.off+1,none⟩,.int .i64 0),(⟨K,4,none⟩,.slice (some la') ls.length lc),((la'.add (ib*2)),.int .i64 uk),(⟨(la'.add (ib*2)).block,(la'.add (ib*2)).off+1,none⟩,.int .i64 uc)]) ⟨a0,a1,k4,u0,u1,trivial⟩
 have HB0:=Lib.hid (Below.refl W1.heap.size W1)
 have hne:=neqTy
 have heq:=eqlTy
 have hgu:=guardTy
 clear H HM ht hr k0 k1 k2 k3 k4 a0 a1 u0 u1
 go_enter Tryz.func238,Tryz.ntmps238
 go_upto_region 39 with fail
 rw [←HW1.out]
 refine kO HS.out (oL [0,1,2,3,104,5,6,7,8,9,10,11,12,13,14,15,16,17,18,19,20,21,22,23,24,125,26,27,128,29]) (Upd.of HB0.out).drew ?_
 have HB1:=Lib.hid HB0.out.drew
 repeat refine pO ?_
 refine oO fun Kv hK=>?_
 go_simp
 refine (integer_any _).mono ?_
 rintro r w5 ⟨rfl,hb5⟩
 have HB2:=Lib.hid (bthen HB1.out hb5)
 refine hK _ _ ⟨HS.out _ (Upd.of HB2.out),?_⟩
 clear hK Kv hb5
 repeat refine pO ?_
 refine oO fun Kv hK=>?_
 go_simp
 refine (integer_any _).mono ?_
 rintro r w6 ⟨rfl,hb6⟩
 have HB3:=Lib.hid (bthen HB2.out hb6)
 refine hK _ _ ⟨HS.out _ (Upd.of HB3.out),?_⟩
 clear hK Kv hb6
 repeat refine pO ?_
 obtain ⟨y0,y1,g0,g1⟩:=blk00 (HX.out.old HB3.out)
 refine oO fun Kv hK=>?_
 go_simp
 refine hK _ _ ⟨HS.out _ (((Upd.of HB3.out).set 0 _).set 1 _),?_⟩
 clear hK Kv
 repeat refine pO ?_
 refine wpMixO_done ?_
 go_wp2
 refine bodyPost_ret (v:=.tuple #[.agg #[.int .i64 0,.int .i64 0],.bool (decide ((⟨uk,uc⟩:Ty)=tInt))]) (by simp [results,Tryz.results238,go_sem,y0,y1]) rfl ?_
 exact retI HPv.out rfl (bset2 HBw.out HB3.out)
theorem p_32 (hr:RowAt w la lcap ([]:List Ty)):
  Calls Tryz.prog 238 #[.pointer (some ⟨K,0,none⟩),.agg #[.int .i64 32,.int .i64 ia,.int .i64 ib],.slice la 0 lcap] w (RetP w (pushV m ls ⟨32,ia,ib⟩ [])):=by
 have HPv:=Lib.hid (show pushV m ls ⟨32,ia,ib⟩ []=some ty0 from pvx (by simp))
 exact k12
theorem r_18a {a b:Ty} (hr:RowAt w la lcap ([a,b]:List Ty)) (h1:a.k≠2):
  Calls Tryz.prog 254 #[.pointer (some ⟨K,0,none⟩),.agg #[.int .i64 18,.int .i64 ia,.int .i64 ib],.slice la 2 lcap] w (RetP w (pushV m ls ⟨18,ia,ib⟩ [a,b])):=by
 have HPv:=Lib.hid (show pushV m ls ⟨18,ia,ib⟩ [a,b]=none from by rw [pv18 rfl];rw [show fldV m ([a,b].getD 0 default) ia=none from by show fldV m a ia=none;unfold fldV;rw [if_neg h1]];rfl)
 obtain ⟨ad,rfl,a0,a1,b0,b1⟩:=row2 hr
 obtain ⟨ak,ac⟩:=a
 obtain ⟨bk,bc⟩:=b
 dsimp only at a0 a1 b0 b1
 have hk:(ak != 2)=true:=by simpa using h1
 clear h1
 obtain ⟨W1,HW1,HBw,HX,HBt,HBi,HS,hrl⟩:=boxR w 18 ia ib ak ac (l:=[(ad,.int .i64 ak),(⟨ad.block,ad.off+1,none⟩,.int .i64 ac),(⟨ad.block,ad.off+2,none⟩,.int .i64 bk),(⟨ad.block,ad.off+3,none⟩,.int .i64 bc)]) ⟨a0,a1,b0,b1,trivial⟩
 have HB0:=Lib.hid (Below.refl W1.heap.size W1)
 have hne:=neqTy
 have heq:=eqlTy
 have hgu:=guardTy
 have hal:=cell_lt a0
 clear H HM ht hr b0 b1
 go_enter Tryz.func254,Tryz.ntmps254
 go_upto_region 8 with fail
 exact k8
theorem r_21c {a:Ty} (hr:RowAt w la lcap ([a]:List Ty)) (h1:a.k≠3) (h2:a.k≠4):
  Calls Tryz.prog 254 #[.pointer (some ⟨K,0,none⟩),.agg #[.int .i64 21,.int .i64 ia,.int .i64 ib],.slice la 1 lcap] w (RetP w (pushV m ls ⟨21,ia,ib⟩ [a])):=by
 have hel:elemV a=none:=by unfold elemV;rw [if_neg h1,if_neg h2]
 have HPv:=Lib.hid (show pushV m ls ⟨21,ia,ib⟩ [a]=none from by rw [pv21 rfl,show elemV ([a].getD 0 default)=none from hel];rfl)
 clear hel
 obtain ⟨ad,rfl,a0,a1⟩:=row1 hr
 obtain ⟨ak,ac⟩:=a
 dsimp only at a0 a1
 have hk3:(ak == 3)=false:=by simpa using h1
 have hk4:(ak == 4)=false:=by simpa using h2
 clear h1 h2
 obtain ⟨W1,HW1,HBw,HX,HBt,HBi,HS,hrl⟩:=boxR w 21 ia ib ak ac (l:=[(ad,.int .i64 ak),(⟨ad.block,ad.off+1,none⟩,.int .i64 ac)]) ⟨a0,a1,trivial⟩
 have HB0:=Lib.hid (Below.refl W1.heap.size W1)
 have hne:=neqTy
 have heq:=eqlTy
 have hgu:=guardTy
 have hal:=cell_lt a0
 clear H HM ht hr
 go_enter Tryz.func254,Tryz.ntmps254
 go_upto_region 12 with fail
 rw [←HW1.out]
 clear a0 a1 hal
 refine kO HS.out (oL [1,2,3,100,4,5,6,7,8,109,10]) (Upd.of HB0.out).drew ?_
 have HB1:=Lib.hid HB0.out.drew
 repeat refine pO ?_
 refine oO fun Kv hK=>?_
 go_simp
 refine (integer_any _).mono ?_
 rintro r w5 ⟨rfl,hb5⟩
 have HB2:=Lib.hid (bthen HB1.out hb5)
 refine hK _ _ ⟨HS.out _ (Upd.of HB2.out),?_⟩
 clear hK Kv hb5
 repeat refine pO ?_
 obtain ⟨y0,y1,g0,g1⟩:=blk00 (HX.out.old HB2.out)
 refine oO fun Kv hK=>?_
 go_simp
 refine hK _ _ ⟨HS.out _ (((Upd.of HB2.out).set 0 _).set 1 _),?_⟩
 clear hK Kv
 repeat refine pO ?_
 refine wpMixO_done ?_
 go_wp2
 refine bodyPost_ret (v:=.tuple #[.agg #[.int .i64 1,.int .i64 0],.bool false]) (by simp [results,Tryz.results254,go_sem,y0,y1]) rfl ?_
 exact retN HPv.out (bset2 HBw.out HB2.out)
theorem r_193n {a b:Ty} (hr:RowAt w la lcap ([a,b]:List Ty)) (h0:a.k=3) (h1:b≠tInt):
  Calls Tryz.prog 254 #[.pointer (some ⟨K,0,none⟩),.agg #[.int .i64 19,.int .i64 ia,.int .i64 ib],.slice la 2 lcap] w (RetP w (pushV m ls ⟨19,ia,ib⟩ [a,b])):=by
 have HPv:=Lib.hid (show pushV m ls ⟨19,ia,ib⟩ [a,b]=none from by rw [pv19 rfl];exact if_neg h1)
 obtain ⟨ad,rfl,a0,a1,b0,b1⟩:=row2 hr
 obtain ⟨ak,ac⟩:=a
 obtain ⟨bk,bc⟩:=b
 dsimp only at a0 a1 b0 b1
 obtain rfl:ak=3:=h0
 have hd0:(!decide (bk=1)||!decide (bc=0))=true:=by
  exact k29
 clear h1
 obtain ⟨W1,HW1,HBw,HX,HBt,HBi,HS,hrl⟩:=boxR w 19 ia ib 3 ac (l:=[(ad,.int .i64 3),(⟨ad.block,ad.off+1,none⟩,.int .i64 ac),(⟨ad.block,ad.off+2,none⟩,.int .i64 bk),(⟨ad.block,ad.off+3,none⟩,.int .i64 bc)]) ⟨a0,a1,b0,b1,trivial⟩
 have HB0:=Lib.hid (Below.refl W1.heap.size W1)
 have hne:=neqTy
 have heq:=eqlTy
 have hgu:=guardTy
 have hal:=cell_lt a0
 clear H HM ht hr b0 b1
 exact k20
theorem r_203n {a b d:Ty} (hr:RowAt w la lcap ([a,b,d]:List Ty)) (h0:a.k=3) (h1:b≠tInt):
  Calls Tryz.prog 254 #[.pointer (some ⟨K,0,none⟩),.agg #[.int .i64 20,.int .i64 ia,.int .i64 ib],.slice la 3 lcap] w (RetP w (pushV m ls ⟨20,ia,ib⟩ [a,b,d])):=by
 have HPv:=Lib.hid (show pushV m ls ⟨20,ia,ib⟩ [a,b,d]=none from by rw [pv20 rfl];rw [show (decide ([a,b,d].getD 1 default=tInt)&&fitsO m ([a,b,d].getD 2 default) (elemV ([a,b,d].getD 0 default)))=false from by rw [show [a,b,d].getD 1 default=b from rfl,decide_eq_false h1];rfl];rfl)
 obtain ⟨kl,k0,k1,k2,k3,k4⟩:=H.cells
 obtain ⟨ad,rfl,a0,a1,b0,b1,d0,d1⟩:=row3 hr
 obtain ⟨ak,ac⟩:=a
 obtain ⟨bk,bc⟩:=b
 obtain ⟨dk,dc⟩:=d
 dsimp only at a0 a1 b0 b1 d0 d1
 obtain rfl:ak=3:=h0
 have hd0:(!decide (bk=1)||!decide (bc=0))=true:=by
  exact k29
 clear h1
 obtain ⟨W1,HW1,HBw,HX,HBt,HBi,HS,hrl⟩:=boxR w 20 ia ib 3 ac (l:=[(ad,.int .i64 3),(⟨ad.block,ad.off+1,none⟩,.int .i64 ac),(⟨ad.block,ad.off+2,none⟩,.int .i64 bk),(⟨ad.block,ad.off+3,none⟩,.int .i64 bc),(⟨ad.block,ad.off+4,none⟩,.int .i64 dk),(⟨ad.block,ad.off+5,none⟩,.int .i64 dc),(⟨K,0,none⟩,.slice h.co m.cl.length h.cc),(⟨K,1,none⟩,.slice h.so m.st.length h.sc),(⟨K,2,none⟩,.slice h.eo m.me.length h.ec),(⟨K,3,none⟩,.int .i64 m.sel)]) ⟨a0,a1,b0,b1,d0,d1,k0,k1,k2,k3,trivial⟩
 have HB0:=Lib.hid (Below.refl W1.heap.size W1)
 have hne:=neqTy
 have heq:=eqlTy
 have hgu:=guardTy
 have hal:=cell_lt a0
 clear H HM ht hr k0 k1 k2 k3 k4 b0 b1 d0 d1
 exact k20
end
end
section
open Go.RowKit
section
variable {w:World}{K:Nat}{h:Hd}{m:Md}{lo:Option Addr}{lc:Nat}{ls:List Ty}{S O:Value}(H:Pk w K h m (.slice lo ls.length lc) S O)(HM:ModAt w h m)(hd:Desc m m.cl.length)(ht:RowAt w lo lc ls){ia ib:Int}{la:Option Addr}{lcap:Nat}
include w K h m lo lc ls S O H HM hd ht ia ib la lcap
theorem p_2n (hr:RowAt w la lcap ([]:List Ty)) (hi0:0≤ia) (hlt:¬ ia<ls.length):
  Calls Tryz.prog 238 #[.pointer (some ⟨K,0,none⟩),.agg #[.int .i64 2,.int .i64 ia,.int .i64 ib],.slice la 0 lcap] w (RetP w (pushV m ls ⟨2,ia,ib⟩ [])):=by
 have HPv:=Lib.hid (show pushV m ls ⟨2,ia,ib⟩ []=none from by rw [pv2 rfl];exact List.getElem?_eq_none (by dsimp only;omega))
 have hge:decide ((ls.length:Int)≤ia)=true:=by simp;omega
 obtain ⟨kl,k0,k1,k2,k3,k4⟩:=H.cells
 obtain ⟨W1,HW1,HBw,HX,HS,hrl⟩:=boxP w 2 ia ib (l:=[(⟨K,4,none⟩,.slice lo ls.length lc)]) ⟨k4,trivial⟩
 have HB0:=Lib.hid (Below.refl W1.heap.size W1)
 have hne:=neqTy
 have heq:=eqlTy
 have hgu:=guardTy
 clear H HM ht hr k0 k1 k2 k3 k4
 go_enter Tryz.func238,Tryz.ntmps238
 go_upto_region 5 with fail
 rw [←HW1.out]
 refine kO HS.out (oL [0,1,2,3,4,5,6,7]) (Upd.of HB0.out).drew ?_
 have HB1:=Lib.hid HB0.out.drew
 repeat refine pO ?_
 refine wpMixO_done ?_
 obtain ⟨y0,y1,g0,g1⟩:=blk00 (HX.out.old HB0.out)
 exact k66
theorem p_12o (hr:RowAt w la lcap ([]:List Ty)) (h1:ia≠3):
  Calls Tryz.prog 238 #[.pointer (some ⟨K,0,none⟩),.agg #[.int .i64 12,.int .i64 ia,.int .i64 ib],.slice la 0 lcap] w (RetP w (pushV m ls ⟨12,ia,ib⟩ [])):=by
 have h1':(ia == 3)=false:=by simpa using h1
 have HPv:=Lib.hid (show pushV m ls ⟨12,ia,ib⟩ []=some ⟨ia,ib⟩ from pv12 rfl)
 clear H HM ht hr h1
 go_enter Tryz.func238,Tryz.ntmps238
 go_wp2
 refine bodyPost_ret (v:=.tuple #[.agg #[.int .i64 ia,.int .i64 ib],.bool true]) (by simp [results,Tryz.results238,go_sem,Nat.add_zero]) rfl ?_
 exact retS HPv.out bE
theorem p_3y {a:Ty} (hr:RowAt w la lcap ([a]:List Ty)) (hta:a.k=2→0≤a.c∧a.c<m.cl.length) (hlo':∀ t∈ls,tyOk m t) (hi0:0≤ia) (hlt:ia<ls.length):
  Calls Tryz.prog 238 #[.pointer (some ⟨K,0,none⟩),.agg #[.int .i64 3,.int .i64 ia,.int .i64 ib],.slice la 1 lcap] w (RetP w (pushV m ls ⟨3,ia,ib⟩ [a])):=by
 obtain ⟨ia,rfl⟩:∃ d:Nat,ia=d:=⟨ia.toNat,by omega⟩
 have hlt':ia<ls.length:=by omega
 obtain ⟨la',hlo,u0,u1⟩:=row_ty ht hlt'
 obtain ⟨⟨uk,uc⟩,hu⟩:∃ u,u=ls.getD ia default:=⟨_,rfl⟩
 have hls:ls[((ia:Int)).toNat]?=some ⟨uk,uc⟩:=by rw [Int.toNat_natCast,hu];exact getD_some hlt'
 rw [←hu] at u0 u1
 dsimp only at u0 u1
 rw [hlo] at H
 have hut:(⟨uk,uc⟩:Ty).k=2→0≤(⟨uk,uc⟩:Ty).c:=fun hk=>(ty_cls (hlo' ⟨uk,uc⟩ (by rw [hu];exact getD_mem _ hlt')) (.inl hk)).1
 have HPv:=Lib.hid (show pushV m ls ⟨3,ia,ib⟩ [a]=if fitsV m a ⟨uk,uc⟩=true then some ty0 else none from by rw [pv3 rfl];dsimp only;rw [hls];rfl)
 have hlt3:decide ((ia:Int) < (ls.length:Int))=true:=by simp;omega
 clear hls hu hlo hlo'
 obtain ⟨kl,k0,k1,k2,k3,k4⟩:=H.cells
 obtain ⟨ad,rfl,a0,a1⟩:=row1 hr
 obtain ⟨ak,ac⟩:=a
 dsimp only at a0 a1
 obtain ⟨ft,hft⟩:∃ x,x=fitsV m ⟨ak,ac⟩ ⟨uk,uc⟩:=⟨_,rfl⟩
 have HFi:=Lib.hid (show ∀ w',Below w.heap.size w w'→Calls Tryz.prog 239 #[.agg #[.slice h.co m.cl.length h.cc,.slice h.so m.st.length h.sc,.slice h.eo m.me.length h.ec,.int .i64 m.sel],.agg #[.int .i64 ak,.int .i64 ac],.agg #[.int .i64 uk,.int .i64 uc]] w' (Ret w' (.bool ft)) from fun w' hb'=>by have:=r6Fits_any m h ⟨ak,ac⟩ ⟨uk,uc⟩ w' (HM.old hb') hta hut hd;rw [←hft] at this;exact this)
 have Hft:=Lib.hid hft
 clear hft
 obtain ⟨W1,HW1,HBw,HX,HS,hrl⟩:=boxP w 3 ia ib (l:=[(ad,.int .i64 ak),(⟨ad.block,ad.off+1,none⟩,.int .i64 ac),(⟨K,0,none⟩,.slice h.co m.cl.length h.cc),(⟨K,1,none⟩,.slice h.so m.st.length h.sc),(⟨K,2,none⟩,.slice h.eo m.me.length h.ec),(⟨K,3,none⟩,.int .i64 m.sel),(⟨K,4,none⟩,.slice (some la') ls.length lc),((la'.add (ia*2)),.int .i64 uk),(⟨(la'.add (ia*2)).block,(la'.add (ia*2)).off+1,none⟩,.int .i64 uc)]) ⟨a0,a1,k0,k1,k2,k3,k4,u0,u1,trivial⟩
 have HB0:=Lib.hid (Below.refl W1.heap.size W1)
 have hne:=neqTy
 have heq:=eqlTy
 have hgu:=guardTy
 clear H HM ht hr k0 k1 k2 k3 k4 a0 a1 u0 u1
 go_enter Tryz.func238,Tryz.ntmps238
 go_upto_region 9 with fail
 rw [←HW1.out]
 refine kO HS.out (oL [0,1,2,3,4,5,6,7,8,9,10,11,12,13,14,15,16,17,18,19,20,21,22,23,24,125,26,127,28]) (Upd.of HB0.out).drew ?_
 exact k25
theorem p_0 (hr:RowAt w la lcap ([]:List Ty)):
  Calls Tryz.prog 238 #[.pointer (some ⟨K,0,none⟩),.agg #[.int .i64 0,.int .i64 ia,.int .i64 ib],.slice la 0 lcap] w (RetP w (pushV m ls ⟨0,ia,ib⟩ [])):=by
 have HPv:=Lib.hid (show pushV m ls ⟨0,ia,ib⟩ []=some ty0 from pvx (by simp))
 exact k12
theorem p_33 (hr:RowAt w la lcap ([]:List Ty)):
  Calls Tryz.prog 238 #[.pointer (some ⟨K,0,none⟩),.agg #[.int .i64 33,.int .i64 ia,.int .i64 ib],.slice la 0 lcap] w (RetP w (pushV m ls ⟨33,ia,ib⟩ [])):=by
 have HPv:=Lib.hid (show pushV m ls ⟨33,ia,ib⟩ []=some ty0 from pvx (by simp))
 exact k12
theorem r_18b {a b:Ty} (hr:RowAt w la lcap ([a,b]:List Ty)) (hta:a.k=2→0≤a.c∧a.c<m.cl.length) (h1:a.k=2) (hi0:0≤ia) (hlt:¬ ia<(m.cl.getD a.c.toNat default).f.length):
  Calls Tryz.prog 254 #[.pointer (some ⟨K,0,none⟩),.agg #[.int .i64 18,.int .i64 ia,.int .i64 ib],.slice la 2 lcap] w (RetP w (pushV m ls ⟨18,ia,ib⟩ [a,b])):=by
 obtain ⟨kl,k0,k1,k2,k3,k4⟩:=H.cells
 obtain ⟨ad,rfl,a0,a1,b0,b1⟩:=row2 hr
 obtain ⟨ak,ac⟩:=a
 obtain ⟨bk,bc⟩:=b
 dsimp only at a0 a1 b0 b1
 dsimp only at hlt
 obtain rfl:ak=2:=h1
 obtain ⟨hc0,hcl⟩:=hta rfl
 dsimp only at hc0 hcl
 obtain ⟨c,rfl⟩:∃ d:Nat,ac=d:=⟨ac.toNat,by omega⟩
 have hcl':c<m.cl.length:=by omega
 have hcl2:(c:Int) < m.cl.length:=by omega
 obtain ⟨ca,hco,-,-,e2,-⟩:=HM.cls hcl'
 have hfr:=HM.f c hcl'
 obtain ⟨fs,hfs⟩:∃ l,l=(m.cl.getD c default).f:=⟨_,rfl⟩
 have hfld:fldV m ⟨2,(c:Int)⟩ ia=fs[ia.toNat]?:=by rw [hfs];show (if (2:Int)=2 then (m.cl.getD ((c:Int)).toNat default).f[ia.toNat]? else none)=_;rw [if_pos rfl,Int.toNat_natCast]
 rw [←hfs] at e2 hfr
 have k0':=k0
 rw [hco] at k0'
 rw [Int.toNat_natCast,←hfs] at hlt
 have HPv:=Lib.hid (show pushV m ls ⟨18,ia,ib⟩ [⟨2,(c:Int)⟩,⟨bk,bc⟩]=none from by rw [pv18 rfl];rw [show fldV m ([(⟨2,(c:Int)⟩:Ty),⟨bk,bc⟩].getD 0 default) ia=none from by show fldV m ⟨2,(c:Int)⟩ ia=none;rw [hfld];exact List.getElem?_eq_none (by omega)];rfl)
 have hge:decide ((fs.length:Int)≤ia)=true:=by simp;omega
 clear hfld hfs hfr hco
 obtain ⟨W1,HW1,HBw,HX,HBt,HBi,HS,hrl⟩:=boxR w 18 ia ib 2 c (l:=[(ad,.int .i64 2),(⟨ad.block,ad.off+1,none⟩,.int .i64 c),(⟨ad.block,ad.off+2,none⟩,.int .i64 bk),(⟨ad.block,ad.off+3,none⟩,.int .i64 bc),(⟨K,0,none⟩,.slice (some ca) m.cl.length h.cc),(⟨(ca.add (c*4)).block,(ca.add (c*4)).off+2,none⟩,.slice (h.c c).fo fs.length (h.c c).fc)]) ⟨a0,a1,b0,b1,k0',e2,trivial⟩
 have HB0:=Lib.hid (Below.refl W1.heap.size W1)
 have hne:=neqTy
 have heq:=eqlTy
 have hgu:=guardTy
 have hal:=cell_lt a0
 clear H HM ht hr k0 k1 k2 k3 k4 b0 b1 k0' e2
 go_enter Tryz.func254,Tryz.ntmps254
 go_upto_region 8 with fail
 exact k8
theorem r_24a {a:Ty} (hr:RowAt w la lcap ([a]:List Ty)) (h1:a.k≠2):
  Calls Tryz.prog 254 #[.pointer (some ⟨K,0,none⟩),.agg #[.int .i64 24,.int .i64 ia,.int .i64 ib],.slice la 1 lcap] w (RetP w (pushV m ls ⟨24,ia,ib⟩ [a])):=by
 have HPv:=Lib.hid (show pushV m ls ⟨24,ia,ib⟩ [a]=none from by rw [pv24 rfl];rw [show (decide (([a].getD 0 default).k=2)&&(fitsV m ([a].getD 0 default) ⟨2,ia⟩||fitsV m ⟨2,ia⟩ ([a].getD 0 default)))=false from by rw [show [a].getD 0 default=a from rfl,decide_eq_false h1];rfl];rfl)
 obtain ⟨ad,rfl,a0,a1⟩:=row1 hr
 obtain ⟨ak,ac⟩:=a
 dsimp only at a0 a1
 have hk:(ak != 2)=true:=by simpa using h1
 clear h1
 clear H HM ht hr
 have hal:=cell_lt a0
 go_enter Tryz.func254,Tryz.ntmps254
 go_wp2
 refine bodyPost_ret (v:=.tuple #[.agg #[.int .i64 0,.int .i64 0],.bool false]) (by simp [results,Tryz.results254,go_sem,Nat.add_zero]) rfl ?_
 exact retN HPv.out bE
theorem r_193y {a b:Ty} (hr:RowAt w la lcap ([a,b]:List Ty)) (h0:a.k=3) (h1:b=tInt):
  Calls Tryz.prog 254 #[.pointer (some ⟨K,0,none⟩),.agg #[.int .i64 19,.int .i64 ia,.int .i64 ib],.slice la 2 lcap] w (RetP w (pushV m ls ⟨19,ia,ib⟩ [a,b])):=by
 obtain ⟨ad,rfl,a0,a1,b0,b1⟩:=row2 hr
 obtain ⟨ak,ac⟩:=a
 obtain ⟨bk,bc⟩:=b
 obtain ⟨rfl,rfl⟩:bk=1∧bc=0:=by cases h1;exact ⟨rfl,rfl⟩
 dsimp only at a0 a1 b0 b1
 obtain rfl:ak=3:=h0
 have HPv:=Lib.hid (show pushV m ls ⟨19,ia,ib⟩ [⟨3,ac⟩,tInt]=some tInt from by rw [pv19 rfl];rfl)
 obtain ⟨W1,HW1,HBw,HX,HBt,HBi,HS,hrl⟩:=boxR w 19 ia ib 3 ac (l:=[(ad,.int .i64 3),(⟨ad.block,ad.off+1,none⟩,.int .i64 ac),(⟨ad.block,ad.off+2,none⟩,.int .i64 1),(⟨ad.block,ad.off+3,none⟩,.int .i64 0)]) ⟨a0,a1,b0,b1,trivial⟩
 have HB0:=Lib.hid (Below.refl W1.heap.size W1)
 have hne:=neqTy
 have heq:=eqlTy
 have hgu:=guardTy
 have hal:=cell_lt a0
 clear H HM ht hr b0 b1
 go_enter Tryz.func254,Tryz.ntmps254
 go_upto_region 20 with (go_at_call 253;rw [←HW1.out];refine (integer_any _).mono ?_;rintro r w4 ⟨rfl,hb4⟩;have HB4:=Lib.hid hb4;have z0:=(HBt.out.old hb4).cell 0 (v:=.int .i64 3) rfl;have z1:=(HBt.out.old hb4).cell 1 (v:=.int .i64 ac) rfl;have zl:=hb4.size;have zt:=HBt.out.lt;have zz:w.heap.size+2<w4.heap.size:=(by omega);clear hb4)
 clear a0 a1 hal
 clear z0 z1
 have hw5:Below W1.heap.size W1 (w4.alloc (.cells #[.int .i64 1,.int .i64 0] 35)):=bal HB4.out _
 have hx5:=Blk.new w4 #[.int .i64 1,.int .i64 0] 35
 obtain ⟨W5,hW5⟩:∃ W5,W5=w4.alloc (.cells #[.int .i64 1,.int .i64 0] 35):=⟨_,rfl⟩
 rw [←hW5] at hw5 hx5 ⊢
 have HB1:=Lib.hid hw5
 have HX5:=Lib.hid (show Blk W5 w4.heap.size #[.int .i64 1,.int .i64 0] 35 from hx5)
 clear hW5 hw5 hx5
 refine kO HS.out (oL [0,1,2,3,4,5,6,7,8,9,10,11,112,13,14]) (Upd.of HB1.out).drew ?_
 have HB2:=Lib.hid HB1.out.drew
 repeat refine pO ?_
 refine oO fun Kv hK=>?_
 go_simp
 refine (integer_any _).mono ?_
 rintro r w6 ⟨rfl,hb6⟩
 have HB56:=Lib.hid (bthen (show Below W5.heap.size W5 W5.drew by exact bE) hb6)
 have HB3:=Lib.hid (bthen HB2.out hb6)
 refine hK _ _ ⟨HS.out _ (Upd.of HB3.out),?_⟩
 clear hK Kv hb6
 repeat refine pO ?_
 refine wpMixO_done ?_
 have hx6:=HX5.out.old HB56.out
 have x0:=hx6.cell 0 (v:=.int .i64 1) rfl
 have x1:=hx6.cell 1 (v:=.int .i64 0) rfl
 have i0:=(HBi.out.old HB3.out).cell 0 (v:=.int .i64 19) rfl
 clear hx6
 obtain ⟨y0,y1,g0,g1⟩:=blk00 (HX.out.old HB3.out)
 go_wp2
 refine bodyPost_ret (v:=.tuple #[.agg #[.int .i64 1,.int .i64 0],.bool true]) (by simp [results,Tryz.results254,go_sem,y0,y1]) rfl ?_
 exact retS HPv.out (bset2 HBw.out HB3.out)
theorem r_203y {a b d:Ty} (hr:RowAt w la lcap ([a,b,d]:List Ty)) (h0:a.k=3) (h1:b=tInt) (htd:d.k=2→0≤d.c∧d.c<m.cl.length):
  Calls Tryz.prog 254 #[.pointer (some ⟨K,0,none⟩),.agg #[.int .i64 20,.int .i64 ia,.int .i64 ib],.slice la 3 lcap] w (RetP w (pushV m ls ⟨20,ia,ib⟩ [a,b,d])):=by
 obtain ⟨kl,k0,k1,k2,k3,k4⟩:=H.cells
 obtain ⟨ad,rfl,a0,a1,b0,b1,d0,d1⟩:=row3 hr
 obtain ⟨ak,ac⟩:=a
 obtain ⟨bk,bc⟩:=b
 obtain ⟨rfl,rfl⟩:bk=1∧bc=0:=by cases h1;exact ⟨rfl,rfl⟩
 obtain ⟨dk,dc⟩:=d
 dsimp only at a0 a1 b0 b1 d0 d1
 obtain rfl:ak=3:=h0
 have HPv:=Lib.hid (show pushV m ls ⟨20,ia,ib⟩ [⟨3,ac⟩,tInt,⟨dk,dc⟩]=if fitsV m ⟨dk,dc⟩ ⟨1,0⟩=true then some ty0 else none from by rw [pv20 rfl];rfl)
 have hut:(⟨1,0⟩:Ty).k=2→0≤(⟨1,0⟩:Ty).c:=fun hk=>by cases hk
 obtain ⟨ft,hft⟩:∃ x,x=fitsV m ⟨dk,dc⟩ ⟨1,0⟩:=⟨_,rfl⟩
 have HFi:=Lib.hid (show ∀ w',Below w.heap.size w w'→Calls Tryz.prog 239 #[.agg #[.slice h.co m.cl.length h.cc,.slice h.so m.st.length h.sc,.slice h.eo m.me.length h.ec,.int .i64 m.sel],.agg #[.int .i64 dk,.int .i64 dc],.agg #[.int .i64 1,.int .i64 0]] w' (Ret w' (.bool ft)) from fun w' hb'=>by have:=r6Fits_any m h ⟨dk,dc⟩ ⟨1,0⟩ w' (HM.old hb') htd hut hd;rw [←hft] at this;exact this)
 have Hft:=Lib.hid hft
 clear hft
 obtain ⟨W1,HW1,HBw,HX,HBt,HBi,HS,hrl⟩:=boxR w 20 ia ib 3 ac (l:=[(ad,.int .i64 3),(⟨ad.block,ad.off+1,none⟩,.int .i64 ac),(⟨ad.block,ad.off+2,none⟩,.int .i64 1),(⟨ad.block,ad.off+3,none⟩,.int .i64 0),(⟨ad.block,ad.off+4,none⟩,.int .i64 dk),(⟨ad.block,ad.off+5,none⟩,.int .i64 dc),(⟨K,0,none⟩,.slice h.co m.cl.length h.cc),(⟨K,1,none⟩,.slice h.so m.st.length h.sc),(⟨K,2,none⟩,.slice h.eo m.me.length h.ec),(⟨K,3,none⟩,.int .i64 m.sel)]) ⟨a0,a1,b0,b1,d0,d1,k0,k1,k2,k3,trivial⟩
 have HB0:=Lib.hid (Below.refl W1.heap.size W1)
 have hne:=neqTy
 have heq:=eqlTy
 have hgu:=guardTy
 have hal:=cell_lt a0
 clear H HM ht hr k0 k1 k2 k3 k4 b0 b1 d0 d1
 go_enter Tryz.func254,Tryz.ntmps254
 go_upto_region 20 with (go_at_call 253;rw [←HW1.out];refine (integer_any _).mono ?_;rintro r w4 ⟨rfl,hb4⟩;have HB4:=Lib.hid hb4;have z0:=(HBt.out.old hb4).cell 0 (v:=.int .i64 3) rfl;have z1:=(HBt.out.old hb4).cell 1 (v:=.int .i64 ac) rfl;have zl:=hb4.size;have zt:=HBt.out.lt;have zz:w.heap.size+2<w4.heap.size:=(by omega);clear hb4)
 clear a0 a1 hal
 clear z0 z1
 have hw5:Below W1.heap.size W1 (w4.alloc (.cells #[.int .i64 1,.int .i64 0] 35)):=bal HB4.out _
 have hx5:=Blk.new w4 #[.int .i64 1,.int .i64 0] 35
 obtain ⟨W5,hW5⟩:∃ W5,W5=w4.alloc (.cells #[.int .i64 1,.int .i64 0] 35):=⟨_,rfl⟩
 rw [←hW5] at hw5 hx5 ⊢
 have HB1:=Lib.hid hw5
 have HX5:=Lib.hid (show Blk W5 w4.heap.size #[.int .i64 1,.int .i64 0] 35 from hx5)
 clear hW5 hw5 hx5
 refine kO HS.out (oL [0,1,2,3,4,5,6,7,8,9,10,11,112,13,14]) (Upd.of HB1.out).drew ?_
 have HB2:=Lib.hid HB1.out.drew
 repeat refine pO ?_
 refine oO fun Kv hK=>?_
 go_simp
 refine (integer_any _).mono ?_
 rintro r w6 ⟨rfl,hb6⟩
 have HB56:=Lib.hid (bthen (show Below W5.heap.size W5 W5.drew by exact bE) hb6)
 have HB3:=Lib.hid (bthen HB2.out hb6)
 refine hK _ _ ⟨HS.out _ (Upd.of HB3.out),?_⟩
 clear hK Kv hb6
 repeat refine pO ?_
 refine wpMixO_done ?_
 have hx6:=HX5.out.old HB56.out
 have x0:=hx6.cell 0 (v:=.int .i64 1) rfl
 have x1:=hx6.cell 1 (v:=.int .i64 0) rfl
 exact k13
end
end
section
open Go.RowKit
attribute [local go_sem] World.cell?_alloc_some
theorem rTargets_any (m:Md) (h:Hd) (s:Int) (w:World) (H:ModAt w h m) (hs:0≤s∧s<m.sel) (hn:m.cl.length≤10) (hl:∀ j,j<m.cl.length→((m.cl.getD j default).m.length:Int)=m.sel) :
  Calls Tryz.prog 137 #[.agg #[.slice h.co m.cl.length h.cc,.slice h.so m.st.length h.sc,.slice h.eo m.me.length h.ec,.int .i64 m.sel],.int .i64 s] w (RetRow w (tgtV m s)):=by
 obtain ⟨hs0,hs1⟩:=hs
 obtain ⟨s,rfl⟩:∃ t:Nat,s=t:=⟨s.toNat,by omega⟩
 have hX:=Blk.new w #[.slice h.co m.cl.length h.cc,.slice h.so m.st.length h.sc,.slice h.eo m.me.length h.ec,.int .i64 m.sel] 26
 have hb0:Below w.heap.size w (w.alloc (.cells #[.slice h.co m.cl.length h.cc,.slice h.so m.st.length h.sc,.slice h.eo m.me.length h.ec,.int .i64 m.sel] 26)):=by exact bE
 have HX:=Lib.hid hX
 have HM:=Lib.hid (H.old hb0)
 have HL:=Lib.hid hl
 have HB0:=Lib.hid hb0
 clear hX H hl hb0
 obtain ⟨co,cc,so,sc,eo,ec,hc,he⟩:=h
 dsimp only at HX HM HB0 ⊢
 go_enter Tryz.func137,Tryz.ntmps137
 go_upto_region 1 with fail
 generalize w.alloc _=w0 at HX HM HB0 ⊢
 go_wp2_with fail
 go_loopw [5,6] (fun o i wr=>∃ (k:Nat) (ao:Option Addr) (cap:Nat),k≤m.cl.length∧i=.int .i64 k∧o=.slice ao (tgtL m s k).length cap∧wr.ownsRow w0.heap.size 3 1 (.slice ao (tgtL m s k).length cap) (tgtL m s k).length ((tgtL m s k).map (Value.int .i64))∧Below w0.heap.size w0 wr) (fun _ i _=>m.cl.length-(intOf i).toNat)
 case atStart=>exact ⟨0,none,0,by omega,rfl,rfl,World.ownsRow_nil _ _ _ _,Below.refl _ _⟩
 case round=>
  obtain ⟨k,ao,cap,hk,rfl,rfl,hown,hbl⟩:=hrel
  have r0:wr.cell? ⟨w.heap.size,0,none⟩=some (.slice co m.cl.length cc):=(HX.out.old hbl).cell 0 rfl
  have rl:=(HX.out.old hbl).lt
  have hlen:=tgtL_len m s k
  by_cases hkl:k<m.cl.length
  ·obtain ⟨ad,hco,c0,c1,c2,c3⟩:=(HM.out.old hbl).cls hkl
   obtain ⟨ad3,hmo,t0⟩:=row_int ((HM.out.old hbl).t k hkl) (i:=s) (by have:=HL.out k hkl;omega)
   have hst:s<(m.cl.getD k default).m.length:=by have:=HL.out k hkl;omega
   have hyes:=tgtL_yes (m:=m) (s:=s) hkl
   have hno:=tgtL_no (m:=m) (s:=s) hkl
   dsimp only at hco c2 c3 hmo
   subst hco
   rw [hmo] at c3
   have HMo:=Lib.hid hmo
   clear hmo c0 c1 c2
   generalize (m.cl.getD k default).m.getD s 0=n at t0 hyes hno
   generalize (m.cl.getD k default).m.length=tn at c3 hst
   generalize hzs:tgtL m s k=zs at hown hlen hyes hno ⊢
   have HZs:=Lib.hid hzs
   clear hzs
   have hkl2:(k:Int) < m.cl.length:=by omega
   have hst2:(s:Int) < tn:=by omega
   have hwr:IntKind.i64.wrap ((k:Int)+1)=k+1:=IntWalk.i64_in _ (by omega)
   by_cases hn0:0≤n
   ·have hy:=hyes hn0
    have hn1:n ≥ 0:=hn0
    have HY:=Lib.hid hy
    clear hyes hno hy
    go_wp2_with (at_builtin;refine wpList_append_sl rfl (.tmp 24) (.tmp 34) 29 rfl w0.heap.size 3 1 8 elIntV (.slice ao zs.length cap) zs.length (zs.map (Value.int .i64)) rfl (hown.alloc _) _ 1 1 [.int .i64 n] rfl (sla_blkV (Blk.new' #[.int .i64 n] 3 (by simp)) rfl) (by intro u hu;rw [List.mem_singleton.1 hu];rfl) (by omega) (by unfold maxLen;omega) (by have:=hbl.size;simp;omega) ?_;intro ao1 cap1 w10 hown9 hg9;have HO9:=Lib.hid hown9;have HB9:=Lib.hid (bgrown (bal hbl _) hg9 (fun j hj=>(hown.lt j hj).1));clear hown9 hg9)
    exact k56
   ·have hy:=hno hn0
    have hn1:¬ n ≥ 0:=hn0
    have HY:=Lib.hid hy
    have HO:=Lib.hid hown
    have HB:=Lib.hid hbl
    clear hyes hno hy hown hbl
    go_wp2
    go_roundw
    case rel=>exact ⟨k+1,ao,cap,by omega,by go_num,by rw [HY.out],by rw [HY.out];exact HO.out,HB.out⟩
    case measure=>simp [intOf];omega
  ·obtain rfl:k=m.cl.length:=by omega
   have hall:=tgtL_all m s
   generalize tgtL m s m.cl.length=zs at hown hlen hall ⊢
   have HAll:=Lib.hid hall
   have hr:RowAt wr ao cap zs:=RowAt.of_own (by rw [flatR_int];exact hown)
   have HR:=Lib.hid hr
   have HB:=Lib.hid hbl
   clear hall hown hbl hr
   go_wp2_with fail
   refine (rSort_any zs ao cap _ HR.out (by omega)).mono ?_
   rintro e1 w1 ⟨⟨ao1,cap1,rfl,hown1⟩,hb1⟩
   have HO1:=Lib.hid hown1
   have HB1:=Lib.hid hb1
   clear hown1 hb1
   go_wp2
   go_ret
   refine ⟨⟨ao1,cap1,by rw [HAll.out];rfl,?_⟩,?_⟩
   ·rw [HAll.out]
    exact RowAt.of_own (by rw [flatR_int];exact HO1.out)
   ·exact bthen HB0.out (bthen HB.out HB1.out)
end
section
open Go.RowKit
attribute [local go_sem] World.cell?_alloc_some
theorem insnV_nn {i:In3} (h:insnV false i=true):(i.op=14∨i.op=24∨i.op=25∨i.op=26→0≤i.a)∧(i.op=16∨i.op=12→0≤i.b):=by
 obtain ⟨op,a,b⟩:=i
 simp only [insnV,Bool.and_eq_true] at h
 have h1:=h.1.1.2
 have h2:=h.1.2
 dsimp only at h1 h2 ⊢
 constructor
 ·intro ho
  rcases ho with rfl|rfl|rfl|rfl
  all_goals (simp [opA,inR,inI] at h1;exact h1.1)
 ·intro ho
  rcases ho with rfl|rfl
  all_goals (simp [opB,inR,inI] at h2;exact h2.1)
theorem all_lastV {l:List Int} (h:Asc l) (k:Int):(l.all fun t=>decide (t<k))=(decide (l.length=0)||decide (l.getD (l.length-1) 0<k)):=by
 rcases List.eq_nil_or_concat l with rfl|⟨r,x,rfl⟩
 ·rfl
 ·rw [List.concat_eq_append] at h ⊢
  have h1:=(List.pairwise_append.1 h).2.2
  have e:(r++[x]).getD ((r++[x]).length-1) 0=x:=by simp
  rw [e,List.all_append]
  simp only [List.all_cons,List.all_nil,Bool.and_true,List.length_append,List.length_cons,List.length_nil]
  by_cases hx:x<k
  ·have:(r.all fun t=>decide (t<k))=true:=by
    rw [List.all_eq_true]
    intro t ht
    have:=h1 t ht x (by simp)
    simp;omega
   rw [this];simp [hx]
  ·simp [hx]
theorem rOperand_any (m:Md) (h:Hd) (k:Nat) (i:In3) (w:World) (H:ModAt w h m) (hk:k<m.me.length) (hn:m.cl.length≤10) (hl:∀ j,j<m.cl.length→((m.cl.getD j default).m.length:Int)=m.sel) (hv:insnV false i=true) (ho:∀ j:Nat,j<k→-1≤m.own j) :
  Calls Tryz.prog 191 #[.agg #[.slice h.co m.cl.length h.cc,.slice h.so m.st.length h.sc,.slice h.eo m.me.length h.ec,.int .i64 m.sel],.int .i64 k,.agg #[.int .i64 i.op,.int .i64 i.a,.int .i64 i.b]] w (Ret w (.bool (opdV m k i))):=by
 obtain ⟨ha,hb⟩:=insnV_nn hv
 obtain ⟨op,a,b⟩:=i
 dsimp only at ha hb ⊢
 have HM:=Lib.hid H
 have HL:=Lib.hid hl
 have HO:=Lib.hid ho
 have hbz:=H.bz
 clear H hl hv ho
 by_cases h26:op=26
 ·subst h26
  have ha:=ha (.inr (.inr (.inr rfl)))
  have hq:opdV m k ⟨26,a,b⟩=(decide (a<m.sel)&&(tgtV m a).all fun t=>decide (t<k)):=rfl
  rw [hq,all_lastV (show Asc (tgtV m a) from sortV_asc _)]
  by_cases hs:a<m.sel
  ·have hs2:¬ a ≥ m.sel:=by omega
   have htg:=fun w1 (hb:Below w.heap.size w w1)=>rTargets_any m h a w1 (HM.out.old hb) ⟨ha,hs⟩ hn HL.out
   have hlen:=tgtV_len m a
   generalize tgtV m a=l at htg hlen ⊢
   have HT:=Lib.hid htg
   clear htg hq hb
   go_enter Tryz.func191,Tryz.ntmps191
   go_wp2_with fail
   refine (HT.out _ bE).mono ?_
   rintro e1 w1 ⟨⟨ao,cap,rfl,hr⟩,hb1⟩
   have hbw:=bthen (show Below w.heap.size w _ by exact bE) hb1
   by_cases hl0:l.length=0
   ·have hl1:((l.length:Int) == 0)=true:=by simp [hl0]
    go_wp2
    go_ret
    exact ret_ok (bool_eq (by simp [hl0,hs])) hbw
   ·obtain ⟨ad,rfl,t0⟩:=row_int hr (i:=l.length-1) (by omega)
    have hl1:((l.length:Int) == 0)=false:=by simp [hl0]
    have hw1:IntKind.i64.wrap ((l.length:Int)-1)=((l.length-1:Nat):Int):=by rw [show ((l.length:Int)-1)=((l.length-1:Nat):Int) by omega];exact IntWalk.i64_in _ (by omega)
    have hlt:((l.length-1:Nat):Int) < l.length:=by omega
    generalize htq:l.getD (l.length-1) 0=t at t0
    have HTq:=Lib.hid htq
    clear htq
    generalize hnn:l.length-1=n1 at t0 hw1 hlt
    have HN:=Lib.hid hnn
    have HL0:=Lib.hid hl0
    clear hnn hl0 hr
    go_wp2
    go_ret
    exact ret_ok (bool_eq (by rw [HTq.out,decide_eq_true hs,decide_eq_false HL0.out];rfl)) hbw
  ·have hs2:a ≥ m.sel:=by omega
   go_enter Tryz.func191,Tryz.ntmps191
   exact k88
 ·by_cases h25:op=25
  ·subst h25
   have ha:=ha (.inr (.inr (.inl rfl)))
   have hq:opdV m k ⟨25,a,b⟩=(decide (a<k)&&decide (m.own a<0)):=rfl
   rw [hq]
   clear hq hb
   by_cases hs:a<k
   ·obtain ⟨c,rfl⟩:∃ c:Nat,a=c:=⟨a.toNat,by omega⟩
    obtain ⟨ad,heo,-,m1,-,-,-,-,-⟩:=HM.out.mth (i:=c) (by omega)
    have hown:m.own c=(m.me.getD c default).c:=rfl
    have how:=HO.out c (by omega)
    generalize (m.me.getD c default).c=own at m1 hown
    rw [hown] at how
    have HOw:=Lib.hid hown
    clear hown
    obtain ⟨co,cc,so,sc,eo,ec,hc,he⟩:=h
    dsimp only at *
    subst heo
    have hcm:(c:Int) < m.me.length:=by omega
    by_cases hm1:own=-1
    ·have hm2:(own == -1)=true:=by simp [hm1]
     have hm3:decide (m.own c<0)=true:=by rw [HOw.out];simp;omega
     have HM3:=Lib.hid hm3
     clear hm1 hm3
     go_enter Tryz.func191,Tryz.ntmps191
     go_wp2
     go_ret
     exact ret_ok (bool_eq (by rw [HM3.out];try simp [hs])) bE
    ·have hm2:(own == -1)=false:=by simp [hm1]
     have hm3:decide (m.own c<0)=false:=by rw [HOw.out];simp;omega
     have HM3:=Lib.hid hm3
     clear hm1 hm3
     go_enter Tryz.func191,Tryz.ntmps191
     go_wp2
     go_ret
     exact ret_ok (bool_eq (by rw [HM3.out];try simp)) bE
   ·go_enter Tryz.func191,Tryz.ntmps191
    exact k95
  ·have n26:(op == 26)=false:=by simp [h26]
   have n25:(op == 25)=false:=by simp [h25]
   have HA:=Lib.hid ha
   have HB:=Lib.hid hb
   clear ha hb
   go_enter Tryz.func191,Tryz.ntmps191
   go_wp2
   all_goals
    go_ret
    exact ret_ok (bool_eq (by have:=HA.out;have:=HB.out;grind [opdV])) bE
end
section
open Go.RowKit
attribute [local go_sem] World.cell?_alloc_some
theorem rMethod_any (m:Md) (h:Hd) (k:Nat) (w:World) (H:ModAt w h m) (hk:k<m.me.length) (hn:m.cl.length≤10) (hl:∀ j,j<m.cl.length→((m.cl.getD j default).m.length:Int)=m.sel) (ho:∀ j:Nat,j<k→-1≤m.own j) :
  Calls Tryz.prog 136 #[.agg #[.slice h.co m.cl.length h.cc,.slice h.so m.st.length h.sc,.slice h.eo m.me.length h.ec,.int .i64 m.sel],.int .i64 k] w (Ret w (.bool (mthV m k))):=by
 have hX0:Blk _ w.heap.size #[.slice h.co m.cl.length h.cc,.slice h.so m.st.length h.sc,.slice h.eo m.me.length h.ec,.int .i64 m.sel] 26:=Blk.new w #[.slice h.co m.cl.length h.cc,.slice h.so m.st.length h.sc,.slice h.eo m.me.length h.ec,.int .i64 m.sel] 26
 have hb0:Below w.heap.size w (w.alloc (.cells #[.slice h.co m.cl.length h.cc,.slice h.so m.st.length h.sc,.slice h.eo m.me.length h.ec,.int .i64 m.sel] 26)):=by exact bE
 obtain ⟨ad,heo,c0,c1,c2,c3,c4,c5,c6⟩:=(H.old hb0).mth hk
 have hmb:=H.bm k hk
 have hpp:=H.p k hk
 have hpl:=H.l k hk
 have hpk:=H.k k hk
 generalize hx:m.me.getD k default=x at c0 c1 c2 c3 c4 c5 c6 hmb hpp hpl hpk
 obtain ⟨nm,c,pl,ll,⟨rk,rc⟩,kl⟩:=x
 generalize hey:h.e k=y at c0 c1 c2 c3 c4 c5 c6 hmb hpp hpl hpk
 obtain ⟨po,pc,lo,lc,ko,kc⟩:=y
 dsimp only at c0 c1 c2 c3 c4 c5 c6 hmb hpp hpl hpk
 have hq:mthV m k=(decide (-1≤c)&&decide (c<m.cl.length)&&decide (pl.length≤4)&&tysV m.cl.length pl&&decide ((ll.length:Int)≤10-pl.length-(if 0≤c then 1 else 0))&&tysV m.cl.length ll&&isTy m.cl.length ⟨rk,rc⟩ 0&&decide (codeE false kl=0)&&kl.all (opdV m k)):=by simp only [mthV,hx]
 have hY0:Blk ((w.alloc (.cells #[.slice h.co m.cl.length h.cc,.slice h.so m.st.length h.sc,.slice h.eo m.me.length h.ec,.int .i64 m.sel] 26)).alloc (.cells #[.string nm,.int .i64 c,.slice po pl.length pc,.slice lo ll.length lc,.int .i64 rk,.int .i64 rc,.slice ko kl.length kc] 38)) (w.heap.size+1) #[.string nm,.int .i64 c,.slice po pl.length pc,.slice lo ll.length lc,.int .i64 rk,.int .i64 rc,.slice ko kl.length kc] 38:=Blk.new' (w:=w.alloc (.cells #[.slice h.co m.cl.length h.cc,.slice h.so m.st.length h.sc,.slice h.eo m.me.length h.ec,.int .i64 m.sel] 26)) _ _ (by simp)
 have hX:=hX0.alloc (.cells #[.string nm,.int .i64 c,.slice po pl.length pc,.slice lo ll.length lc,.int .i64 rk,.int .i64 rc,.slice ko kl.length kc] 38)
 have hb3:Below w.heap.size w ((w.alloc (.cells #[.slice h.co m.cl.length h.cc,.slice h.so m.st.length h.sc,.slice h.eo m.me.length h.ec,.int .i64 m.sel] 26)).alloc (.cells #[.string nm,.int .i64 c,.slice po pl.length pc,.slice lo ll.length lc,.int .i64 rk,.int .i64 rc,.slice ko kl.length kc] 38)):=by exact bE
 have HQ:=Lib.hid hq
 have HX:=Lib.hid hX
 have HY:=Lib.hid hY0
 have HM:=Lib.hid H
 have HL:=Lib.hid hl
 have HO:=Lib.hid ho
 have HPP:=Lib.hid hpp
 have HPL:=Lib.hid hpl
 have HPK:=Lib.hid hpk
 have HB3:=Lib.hid hb3
 clear hX hY0 H hl ho hpl hpk hpp hb3 hq hx hey hX0 hb0
 obtain ⟨co,cc,so,sc,eo,ec,hc,he⟩:=h
 dsimp only at *
 subst heo
 have hk2:(k:Int) < m.me.length:=by omega
 by_cases h1:-1≤c∧c<m.cl.length∧pl.length≤4∧((ll.length:Int)≤10-pl.length-(if 0≤c then 1 else 0))
 ·obtain ⟨h1,h2,h3,h4⟩:=h1
  have g1:¬ c < -1:=by omega
  have g2:¬ c ≥ m.cl.length:=by omega
  have g3:¬ (pl.length:Int) > 4:=by omega
  have hpt:=fun w' (hb:Below w.heap.size w w')=>rTypes_any m ⟨co,cc,so,sc,some ad,ec,hc,he⟩ pl po pc w' (HPP.out.old hb) (by omega)
  have hlt:=fun w' (hb:Below w.heap.size w w')=>rTypes_any m ⟨co,cc,so,sc,some ad,ec,hc,he⟩ ll lo lc w' (HPL.out.old hb) (by split at h4<;>omega)
  have hrt:=fun w'=>rIsType_any m ⟨co,cc,so,sc,some ad,ec,hc,he⟩ ⟨rk,rc⟩ 0 w' (by omega)
  generalize hq1:tysV m.cl.length pl=q1 at hpt
  generalize hq2:tysV m.cl.length ll=q2 at hlt
  generalize hq3:isTy m.cl.length ⟨rk,rc⟩ 0=q3 at hrt
  have HQ1:=Lib.hid hq1
  have HQ2:=Lib.hid hq2
  have HQ3:=Lib.hid hq3
  have HPT:=Lib.hid hpt
  have HLT:=Lib.hid hlt
  have HRT:=Lib.hid hrt
  have H4:=Lib.hid h4
  have HR:∀ w':World,q1=false∨q2=false∨q3=false→Below w.heap.size w w'→Ret w (.bool (mthV m k)) (.returned (.bool false)) w':=fun w' hf hb=>ret_ok (bool_eq (by rw [HQ.out,HQ1.out,HQ2.out,HQ3.out];rcases hf with rfl|rfl|rfl<;>simp)) hb
  have HRf:=Lib.hid HR
  clear hq1 hq2 hq3 hpt hlt hrt HR
  by_cases hc0:0≤c
  all_goals
   have hc1:(pl.length:Int)+ll.length+1≤11:=by have:=H4.out;split at this<;>omega
   have hc2:¬ (pl.length:Int)+ll.length > 10:=by have:=H4.out;split at this<;>omega
   first
    | have hc3:¬ (pl.length:Int)+ll.length+1 > 10:=by (have:=H4.out;rw [if_pos hc0] at this;omega)
    | have hc3:¬ c ≥ 0:=by omega
   clear h4
   go_enter Tryz.func136,Tryz.ntmps136
   go_wp2_with fail
   refine (HPT.out _ HB3.out).mono ?_
   rintro e1 w1 ⟨rfl,hb1⟩
   clear c0 c1 c2 c3 c4 c5 c6
   have HB1:=Lib.hid (bthen HB3.out hb1)
   have Hb1:=Lib.hid hb1
   have r0:w1.cell? ⟨w.heap.size,0,none⟩=some (.slice co m.cl.length cc):=(HX.out.old hb1).cell 0 rfl
   have r1:w1.cell? ⟨w.heap.size,1,none⟩=some (.slice so m.st.length sc):=(HX.out.old hb1).cell 1 rfl
   have r2:w1.cell? ⟨w.heap.size,2,none⟩=some (.slice (some ad) m.me.length ec):=(HX.out.old hb1).cell 2 rfl
   have r3:w1.cell? ⟨w.heap.size,3,none⟩=some (.int .i64 m.sel):=(HX.out.old hb1).cell 3 rfl
   have rl:=(HX.out.old hb1).lt
   have x3:w1.cell? ⟨w.heap.size+1,3,none⟩=some (.slice lo ll.length lc):=(HY.out.old hb1).cell 3 rfl
   clear hb1
   rcases q1 with _|_
   ·go_wp2
    go_ret
    exact HRf.out _ (by simp) HB1.out
   go_wp2_with fail
   refine (HLT.out _ HB1.out).mono ?_
   rintro e2 w2 ⟨rfl,hb2⟩
   have HB2:=Lib.hid (bthen HB1.out hb2)
   have Hb2:=Lib.hid (bthen Hb1.out hb2)
   have r0:=bcellV hb2 r0
   have r1:=bcellV hb2 r1
   have r2:=bcellV hb2 r2
   have r3:=bcellV hb2 r3
   have x4:w2.cell? ⟨w.heap.size+1,4,none⟩=some (.int .i64 rk):=(HY.out.old Hb2.out).cell 4 rfl
   have x5:w2.cell? ⟨w.heap.size+1,5,none⟩=some (.int .i64 rc):=(HY.out.old Hb2.out).cell 5 rfl
   clear hb2 x3
   rcases q2 with _|_
   ·go_wp2
    go_ret
    exact HRf.out _ (by simp) HB2.out
   go_wp2_with fail
   refine (HRT.out _).mono ?_
   rintro e3 w3 ⟨rfl,hb3⟩
   have HB3':=Lib.hid (bthen HB2.out hb3)
   have Hb3:=Lib.hid (bthen Hb2.out hb3)
   have x6:w3.cell? ⟨w.heap.size+1,6,none⟩=some (.slice ko kl.length kc):=(HY.out.old Hb3.out).cell 6 rfl
   clear hb3 x4 x5 r0 r1 r2 r3 rl
   rcases q3 with _|_
   ·go_wp2
    go_ret
    exact HRf.out _ (by simp) HB3'.out
   go_wp2_with fail
   refine (rCheck3_any kl ko kc false _ (HPK.out.old HB3'.out)).mono ?_
   rintro e4 w4 ⟨rfl,hb4⟩
   have HB4:=Lib.hid (bthen HB3'.out hb4)
   have Hb4:=Lib.hid (bthen Hb3.out hb4)
   clear hb4 x6
   by_cases hc4:codeE false kl=0
   ·obtain ⟨hk120,hins,-⟩:=codeE_all hc4
    have hc40:(codeE false kl != 0)=false:=by simp [hc4]
    have HE4:=Lib.hid hc4
    have HI:=Lib.hid hins
    clear hins hc4
    have hmq:mthV m k=kl.all (opdV m k):=by
     rw [HQ.out,HQ1.out,HQ2.out,HQ3.out,HE4.out,decide_eq_true H4.out,decide_eq_true h1,decide_eq_true h2,decide_eq_true h3]
     simp
    have HMq:=Lib.hid hmq
    clear hmq
    go_wp2_with fail
    go_loopw [7] (fun i wr=>∃ j:Nat,j≤kl.length∧i=.int .i64 j∧Below w4.heap.size w4 wr∧Hid (∀ i,i<j→opdV m k (kl.getD i default)=true)) (fun i _=>kl.length-(intOf i).toNat)
    case atStart=>exact ⟨0,by omega,rfl,Below.refl _ _,Lib.hid (by omega)⟩
    case round=>
     obtain ⟨j,hj,rfl,hbl,q1⟩:=hrel
     have HBl:=Lib.hid hbl
     have HBr:=Lib.hid (bthen HB4.out hbl)
     have Hbr:=Lib.hid (bthen Hb4.out hbl)
     clear hbl
     have x6:wr.cell? ⟨w.heap.size+1,6,none⟩=some (.slice ko kl.length kc):=(HY.out.old Hbr.out).cell 6 rfl
     by_cases hjl:j<kl.length
     ·obtain ⟨ak,rfl,e0,e1,e2⟩:=row_in (HPK.out.old HBr.out) hjl
      have r0:wr.cell? ⟨w.heap.size,0,none⟩=some (.slice co m.cl.length cc):=(HX.out.old Hbr.out).cell 0 rfl
      have r1:wr.cell? ⟨w.heap.size,1,none⟩=some (.slice so m.st.length sc):=(HX.out.old Hbr.out).cell 1 rfl
      have r2:wr.cell? ⟨w.heap.size,2,none⟩=some (.slice (some ad) m.me.length ec):=(HX.out.old Hbr.out).cell 2 rfl
      have r3:wr.cell? ⟨w.heap.size,3,none⟩=some (.int .i64 m.sel):=(HX.out.old Hbr.out).cell 3 rfl
      have hjl2:(j:Int) < kl.length:=by omega
      have hwr:IntKind.i64.wrap ((j:Int)+1)=j+1:=IntWalk.i64_in _ (by omega)
      have hop:=fun w' hb=>rOperand_any m ⟨co,cc,so,sc,some ad,ec,hc,he⟩ k (kl.getD j default) w' (HM.out.old hb) hk hn HL.out (HI.out j hjl) HO.out
      generalize hins:kl.getD j default=ins at e0 e1 e2 hop
      generalize hqo:opdV m k ins=qo at hop
      have HIns:=Lib.hid hins
      have HQo:=Lib.hid hqo
      have HOp:=Lib.hid hop
      clear hins hqo hop
      go_upto_region 12 with fail
      refine rO (fun w'=>w'.cell? ⟨w.heap.size,0,none⟩=some (.slice co m.cl.length cc)∧w'.cell? ⟨w.heap.size,1,none⟩=some (.slice so m.st.length sc)∧w'.cell? ⟨w.heap.size,2,none⟩=some (.slice (some ad) m.me.length ec)∧w'.cell? ⟨w.heap.size,3,none⟩=some (.int .i64 m.sel)∧w'.cell? ⟨w.heap.size+1,6,none⟩=some (.slice (some ak) kl.length kc)∧w'.cell? (ak.add (j*3))=some (.int .i64 ins.op)∧w'.cell? ⟨(ak.add (j*3)).block,(ak.add (j*3)).off+1,none⟩=some (.int .i64 ins.a)∧w'.cell? ⟨(ak.add (j*3)).block,(ak.add (j*3)).off+2,none⟩=some (.int .i64 ins.b)) (oL [0,1,2,3,4,5,6,107,8]) ⟨r0,r1,r2,r3,x6,e0,e1,e2⟩ ?_
      repeat refine pO ?_
      refine oO fun K hK=>?_
      go_simp
      refine (HOp.out _ HBr.out.drew).mono ?_
      rintro e5 w5 ⟨rfl,hb5'⟩
      have hb5:Below wr.heap.size wr w5:=bthen (Below.refl _ _).drew hb5'
      go_simp
      refine hK _ _ ⟨⟨bcellV hb5 r0,bcellV hb5 r1,bcellV hb5 r2,bcellV hb5 r3,bcellV hb5 x6,bcellV hb5 e0,bcellV hb5 e1,bcellV hb5 e2⟩,?_⟩
      clear hK K
      repeat refine pO ?_
      refine wpMixO_done ?_
      have HB5:=Lib.hid (bthen HBr.out hb5)
      have HB5l:=Lib.hid (bthen HBl.out hb5)
      clear hb5 hb5' r0 r1 r2 r3 x6 e0 e1 e2
      rcases qo with _|_
      ·go_wp2
       go_ret
       refine ret_ok (bool_eq ?_) HB5.out
       rw [HMq.out]
       exact (List.all_eq_false.2 ⟨ins,by rw [←HIns.out,List.getD_eq_getElem?_getD,List.getElem?_eq_getElem hjl];exact List.getElem_mem hjl,by rw [HQo.out];decide⟩).symm
      ·go_wp2
       go_roundw
       case rel=>
        refine ⟨j+1,by omega,by go_num,HB5l.out,Lib.hid fun i hi=>?_⟩
        by_cases hij:i<j
        ·exact q1.out i hij
        ·obtain rfl:i=j:=by omega
         rw [HIns.out];exact HQo.out
       case measure=>simp [intOf];omega
     ·go_wp2
      go_ret
      refine ret_ok (bool_eq ?_) HBr.out
      rw [HMq.out]
      refine (List.all_eq_true.2 fun x hx=>?_).symm
      obtain ⟨i,hi,rfl⟩:=List.getElem_of_mem hx
      have:=q1.out i (by omega)
      rwa [List.getD_eq_getElem?_getD,List.getElem?_eq_getElem hi] at this
   ·have hc40:(codeE false kl != 0)=true:=by simp [hc4]
    have HE4:=Lib.hid hc4
    clear hc4
    go_wp2
    go_ret
    exact ret_ok (bool_eq (by rw [HQ.out,decide_eq_false HE4.out];simp)) HB4.out
 ·have hno:mthV m k=false:=by rw [HQ.out];grind
  have HNo:=Lib.hid hno
  clear hno
  by_cases g1:c < -1
  ·by_cases hc0:0≤c
   ·omega
   ·have hc3:¬ c ≥ 0:=by omega
    exact k50
  by_cases g2:c ≥ m.cl.length
  ·have hc3:c ≥ 0:=by omega
   exact k50
  by_cases g3:(pl.length:Int) > 4
  ·by_cases hc3:c ≥ 0
   all_goals
    go_enter Tryz.func136,Tryz.ntmps136
    go_wp2
    go_ret
    exact ret_ok (bool_eq HNo.out.symm) HB3.out
  by_cases hc3:c ≥ 0
  ·rw [if_pos hc3] at h1
   have g4:(pl.length:Int)+ll.length+1 > 10:=by omega
   exact k50
  ·rw [if_neg hc3] at h1
   have g4:(pl.length:Int)+ll.length > 10:=by omega
   exact k50
end
end Go.Proofs.YtfkbfjhocmbneaaGreat
