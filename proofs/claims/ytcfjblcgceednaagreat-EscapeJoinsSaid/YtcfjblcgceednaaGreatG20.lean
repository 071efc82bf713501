/- Joined texts. The first: ref06: what an instruction pushes, operation by operation. -/
import Derived.Test.YtcfjblcgceednaaGreatG18
set_option linter.all false
set_option linter.unusedVariables false
set_option linter.unusedSimpArgs false
set_option maxRecDepth 100000
set_option maxHeartbeats 8000000
namespace Go.Proofs.YtcfjblcgceednaaGreat
theorem k6{p:Prop}(h:p:=by
 clear hW5 hw5 hx5
 refine kO HS.out (oL [0,1,2,3,4,5,6,7,8,9,10,11,112,13,14]) (Upd.of HB1.out).drew ?_
 have HB2:=Zh HB1.out.drew
 repeat refine pO ?_
 refine oO fun Kv hK=>?_
 go_simp
 refine (Zj9 _).mono ?_
 rintro r w6 ⟨rfl,hb6⟩
 have HB3:=Zh (Zaf HB2.out hb6)
 refine hK _ _ ⟨HS.out _ (Upd.of HB3.out),?_⟩
 clear hK Kv hb6
 repeat refine pO ?_
 refine Zd5 ?_
 obtain ⟨y0,y1,g0,g1⟩:=Zki (HX.out.old HB3.out)
 go_wp2
 refine bodyPost_ret (v:=.tuple #[.agg #[.int .i64 0,.int .i64 0],.bool false]) (by simp [results,Tryz.results338,go_sem,y0,y1]) rfl ?_
 exact Zkl HPv.out (Zkj HBw.out HB3.out)):p:=h
theorem k19{p:Prop}(h:p:=by
 go_enter Tryz.func338,Tryz.ntmps338
 go_upto_region 20 with (go_at_call 337;rw [←HW1.out];refine (Zj9 _).mono ?_;rintro r w4 ⟨rfl,hb4⟩;have HB4:=Zh hb4;have z0:=(HBt.out.old hb4).cell 0 (v:=.int .i64 4) rfl;have z1:=(HBt.out.old hb4).cell 1 (v:=.int .i64 ac) rfl;have zl:=hb4.size;have zt:=HBt.out.lt;have zz:w.heap.size+2<w4.heap.size:=(by omega);clear hb4)
 clear a0 a1 hal
 clear z0 z1
 have hw5:Below W1.heap.size W1 (w4.alloc (.cells #[.int .i64 2,.int .i64 ac] 76)):=bal HB4.out _
 have hx5:=Blk.new w4 #[.int .i64 2,.int .i64 ac] 76
 obtain ⟨W5,hW5⟩:∃ W5,W5=w4.alloc (.cells #[.int .i64 2,.int .i64 ac] 76):=⟨_,rfl⟩
 rw [←hW5] at hw5 hx5 ⊢
 have HB1:=Zh hw5
 have HX5:=Zh (show Blk W5 w4.heap.size #[.int .i64 2,.int .i64 ac] 76 from hx5)
 exact k6):p:=h
theorem k20{p:Prop}(h:p:=by
 go_enter Tryz.func338,Tryz.ntmps338
 go_upto_region 20 with (go_at_call 337;rw [←HW1.out];refine (Zj9 _).mono ?_;rintro r w4 ⟨rfl,hb4⟩;have HB4:=Zh hb4;have z0:=(HBt.out.old hb4).cell 0 (v:=.int .i64 3) rfl;have z1:=(HBt.out.old hb4).cell 1 (v:=.int .i64 ac) rfl;have zl:=hb4.size;have zt:=HBt.out.lt;have zz:w.heap.size+2<w4.heap.size:=(by omega);clear hb4)
 clear a0 a1 hal
 clear z0 z1
 have hw5:Below W1.heap.size W1 (w4.alloc (.cells #[.int .i64 1,.int .i64 0] 76)):=bal HB4.out _
 have hx5:=Blk.new w4 #[.int .i64 1,.int .i64 0] 76
 obtain ⟨W5,hW5⟩:∃ W5,W5=w4.alloc (.cells #[.int .i64 1,.int .i64 0] 76):=⟨_,rfl⟩
 rw [←hW5] at hw5 hx5 ⊢
 have HB1:=Zh hw5
 have HX5:=Zh (show Blk W5 w4.heap.size #[.int .i64 1,.int .i64 0] 76 from hx5)
 exact k6):p:=h
theorem k22{p:Prop}(h:p:=by
 rw [←HSn.out,←HWn.out,←hln2] at hST
 subst hln2
 by_cases hq:s.stk=want
 ·rw [decide_eq_true hq] at hST
  have HST:=Zh hST
  have HQ:=Zh hq
  clear hST hq
  go_wp2_with (go_at_call 334;refine HST.out.mono ?_;rintro r w3 ⟨rfl,hb3⟩;have HB3:=Zh hb3;clear hb3;have k63:=(HK.out _ HB3.out).2;have g6:=HF6.out w3 (Zaf HB1.out HB3.out))
  go_ret
  exact HEY.out _ (Zaf HB1.out HB3.out) (HQ.out.trans HWt.out)
 ·rw [decide_eq_false hq] at hST
  have HST:=Zh hST
  have HQ:=Zh hq
  clear hST hq
  go_wp2_with (go_at_call 334;refine HST.out.mono ?_;rintro r w3 ⟨rfl,hb3⟩;have HB3:=Zh hb3;clear hb3)
  go_ret
  have h9:=HEN.out _ (Zaf HB1.out HB3.out) HQ.out
  rwa [if_neg (by rw [←HSn.out,←HWn.out];simp)] at h9):p:=h
theorem k25{p:Prop}(h:p:=by
 have HB1:=Zh HB0.out.drew
 repeat refine pO ?_
 refine oO fun Kv hK=>?_
 go_simp
 refine (HFi.out _ (Zaf HBw.out HB1.out)).mono ?_
 rintro r w5 ⟨rfl,hb5⟩
 have HB2:=Zh (Zaf HB1.out hb5)
 refine hK _ _ ⟨HS.out _ (Upd.of HB2.out),?_⟩
 clear hK Kv hb5
 repeat refine pO ?_
 obtain ⟨y0,y1,g0,g1⟩:=Zki (HX.out.old HB2.out)
 refine oO fun Kv hK=>?_
 go_simp
 refine hK _ _ ⟨HS.out _ (((Upd.of HB2.out).set 0 _).set 1 _),?_⟩
 clear hK Kv
 repeat refine pO ?_
 refine Zd5 ?_
 go_wp2
 refine bodyPost_ret (v:=.tuple #[.agg #[.int .i64 0,.int .i64 0],.bool ft]) (by simp [results,Tryz.results273,go_sem,y0,y1]) rfl ?_
 exact Zko HPv.out Hft.out (Zkj HBw.out HB2.out)):p:=h
theorem k29{p:Prop}(h:p:=by
 cases hh:(!decide (bk=1)||!decide (bc=0))
 ·simp only [Bool.or_eq_false_iff,Bool.not_eq_false',decide_eq_true_eq] at hh;exact absurd (by rw [hh.1,hh.2];rfl) h1
 ·rfl):p:=h
theorem k55{p:Prop}(h:p:=by
 have hq:s.stk≠want:=fun e=>hln2 (by rw [HSn.out,HWn.out,e])
 have HQ:=Zh hq
 have HL2:=Zh hln2
 clear hq hln2
 go_wp2
 go_ret
 have h9:=HEN.out _ HB1.out HQ.out
 rwa [if_pos (by rw [←HSn.out,←HWn.out];exact HL2.out)] at h9):p:=h
theorem k65{p:Prop}(h:p:=by
 go_wp2
 refine bodyPost_ret (v:=.tuple #[.agg #[.int .i64 0,.int .i64 0],.bool false]) (by simp [results,Tryz.results273,go_sem,y0,y1]) rfl ?_
 exact Zkl HPv.out (Zkj HBw.out HB1.out)):p:=h
section
open Go.RowKit
section
variable {w:World}{K:Nat}{h:Hd}{m:Md}{lo:Option Addr}{lc:Nat}{ls:List Ty}{S O:Value}(H:Pk w K h m (.slice lo ls.length lc) S O)(HM:Zay w h m)(hd:Zc3 m m.cl.length)(ht:Zar w lo lc ls){ia ib:Int}{la:Option Addr}{lcap:Nat}
include w K h m lo lc ls S O H HM hd ht ia ib la lcap
theorem Zk6 (hr:Zar w la lcap ([]:List Ty)):
  Calls Tryz.prog 273 #[.pointer (some ⟨K,0,none⟩),.agg #[.int .i64 14,.int .i64 ia,.int .i64 ib],.slice la 0 lcap] w (Zj6 w (ZeB m ls ⟨14,ia,ib⟩ [])):=by
 have HPv:=Zh (show ZeB m ls ⟨14,ia,ib⟩ []=some ⟨2,ia⟩ from ZfY rfl)
 clear H HM ht hr
 go_enter Tryz.func273,Tryz.ntmps273
 go_wp2
 refine bodyPost_ret (v:=.tuple #[.agg #[.int .i64 2,.int .i64 ia],.bool true]) (by simp [results,Tryz.results273,go_sem,Nat.add_zero]) rfl ?_
 exact Zkk HPv.out bE
theorem p_5 {a:Ty} (hr:Zar w la lcap ([a]:List Ty)):
  Calls Tryz.prog 273 #[.pointer (some ⟨K,0,none⟩),.agg #[.int .i64 5,.int .i64 ia,.int .i64 ib],.slice la 1 lcap] w (Zj6 w (ZeB m ls ⟨5,ia,ib⟩ [a])):=by
 have HPv:=Zh (show ZeB m ls ⟨5,ia,ib⟩ [a]=some a from pv5 rfl)
 obtain ⟨ad,rfl,a0,a1⟩:=Zka hr
 obtain ⟨ak,ac⟩:=a
 dsimp only at a0 a1
 clear H HM ht hr
 have hal:=Zac a0
 go_enter Tryz.func273,Tryz.ntmps273
 go_wp2
 refine bodyPost_ret (v:=.tuple #[.agg #[.int .i64 ak,.int .i64 ac],.bool true]) (by simp [results,Tryz.results273,go_sem,Nat.add_zero]) rfl ?_
 exact Zkk HPv.out bE
theorem Zk7 {a:Ty} (hr:Zar w la lcap ([a]:List Ty)):
  Calls Tryz.prog 273 #[.pointer (some ⟨K,0,none⟩),.agg #[.int .i64 13,.int .i64 ia,.int .i64 ib],.slice la 1 lcap] w (Zj6 w (ZeB m ls ⟨13,ia,ib⟩ [a])):=by
 have HPv:=Zh (show ZeB m ls ⟨13,ia,ib⟩ [a]=if (!decide (a=Zeu))=true then some Zeu else none from by rw [ZfX rfl];show (if decide (a≠Zeu)=true then _ else _)=_;simp)
 obtain ⟨ad,rfl,a0,a1⟩:=Zka hr
 obtain ⟨ak,ac⟩:=a
 dsimp only at a0 a1
 obtain ⟨W1,HW1,HBw,HX,HS,hrl⟩:=Zkf w 13 ia ib (l:=[(ad,.int .i64 ak),(⟨ad.block,ad.off+1,none⟩,.int .i64 ac)]) ⟨a0,a1,trivial⟩
 have HB0:=Zh (Below.refl W1.heap.size W1)
 have hne:=ZdW
 have heq:=ZdV
 have hgu:=ZdX
 clear H HM ht hr a0 a1
 go_enter Tryz.func273,Tryz.ntmps273
 go_upto_region 24 with fail
 rw [←HW1.out]
 refine kO HS.out (oL [1,2,3,100,104,5,106,7]) (Upd.of HB0.out).drew ?_
 have HB1:=Zh HB0.out.drew
 repeat refine pO ?_
 refine oO fun Kv hK=>?_
 go_simp
 refine (Zj9 _).mono ?_
 rintro r w5 ⟨rfl,hb5⟩
 have HB2:=Zh (Zaf HB1.out hb5)
 refine hK _ _ ⟨HS.out _ (Upd.of HB2.out),?_⟩
 clear hK Kv hb5
 repeat refine pO ?_
 refine oO fun Kv hK=>?_
 go_simp
 refine (Zj9 _).mono ?_
 rintro r w6 ⟨rfl,hb6⟩
 have HB3:=Zh (Zaf HB2.out hb6)
 refine hK _ _ ⟨HS.out _ (Upd.of HB3.out),?_⟩
 clear hK Kv hb6
 repeat refine pO ?_
 obtain ⟨y0,y1,g0,g1⟩:=Zki (HX.out.old HB3.out)
 refine oO fun Kv hK=>?_
 go_simp
 refine hK _ _ ⟨HS.out _ (((Upd.of HB3.out).set 0 _).set 1 _),?_⟩
 clear hK Kv
 repeat refine pO ?_
 refine Zd5 ?_
 go_wp2
 refine bodyPost_ret (v:=.tuple #[.agg #[.int .i64 1,.int .i64 0],.bool (!decide (ak=1)||!decide (ac=0))]) (by simp [results,Tryz.results273,go_sem,y0,y1]) rfl ?_
 exact Zko HPv.out (by rw [Zhp,Bool.not_and];rfl) (Zkj HBw.out HB3.out)
theorem Zk8 {a:Ty} (hr:Zar w la lcap ([a]:List Ty)) (hi0:0≤ia) (hlt:¬ ia<ls.length):
  Calls Tryz.prog 273 #[.pointer (some ⟨K,0,none⟩),.agg #[.int .i64 3,.int .i64 ia,.int .i64 ib],.slice la 1 lcap] w (Zj6 w (ZeB m ls ⟨3,ia,ib⟩ [a])):=by
 have HPv:=Zh (show ZeB m ls ⟨3,ia,ib⟩ [a]=none from by rw [pv3 rfl,List.getElem?_eq_none (by dsimp only;omega)];rfl)
 have hlt3:decide (ia<(ls.length:Int))=false:=by simp;omega
 obtain ⟨kl,k0,k1,k2,k3,k4⟩:=H.cells
 obtain ⟨ad,rfl,a0,a1⟩:=Zka hr
 obtain ⟨ak,ac⟩:=a
 dsimp only at a0 a1
 obtain ⟨W1,HW1,HBw,HX,HS,hrl⟩:=Zkf w 3 ia ib (l:=[(ad,.int .i64 ak),(⟨ad.block,ad.off+1,none⟩,.int .i64 ac),(⟨K,4,none⟩,.slice lo ls.length lc)]) ⟨a0,a1,k4,trivial⟩
 have HB0:=Zh (Below.refl W1.heap.size W1)
 have hne:=ZdW
 have heq:=ZdV
 have hgu:=ZdX
 clear H HM ht hr k0 k1 k2 k3 k4 a0 a1
 go_enter Tryz.func273,Tryz.ntmps273
 go_upto_region 9 with fail
 rw [←HW1.out]
 refine kO HS.out (oL [0,1,2,3,4,5,6,7,8,9,10,11,12,13,14,15,16,17,18,19,20,21,22,23,24,125,26,127,28]) (Upd.of HB0.out).drew ?_
 have HB1:=Zh HB0.out.drew
 repeat refine pO ?_
 refine sO 59 (HS.out _ (Upd.of HB1.out)) ?_
 repeat refine pO ?_
 obtain ⟨y0,y1,g0,g1⟩:=Zki (HX.out.old HB0.out)
 refine oO fun Kv hK=>?_
 go_simp
 refine hK _ _ ⟨HS.out _ (((Upd.of HB1.out).set 0 _).set 1 _),?_⟩
 clear hK Kv
 repeat refine pO ?_
 refine Zd5 ?_
 exact k65
theorem p_4 {a:Ty} (hr:Zar w la lcap ([a]:List Ty)):
  Calls Tryz.prog 273 #[.pointer (some ⟨K,0,none⟩),.agg #[.int .i64 4,.int .i64 ia,.int .i64 ib],.slice la 1 lcap] w (Zj6 w (ZeB m ls ⟨4,ia,ib⟩ [a])):=by
 have HPv:=Zh (show ZeB m ls ⟨4,ia,ib⟩ [a]=some ty0 from pvx (by simp))
 obtain ⟨ad,rfl,a0,a1⟩:=Zka hr
 obtain ⟨ak,ac⟩:=a
 dsimp only at a0 a1
 exact k12
theorem Zk9 {a:Ty} (hr:Zar w la lcap ([a]:List Ty)) (h1:a.k≠2):
  Calls Tryz.prog 338 #[.pointer (some ⟨K,0,none⟩),.agg #[.int .i64 17,.int .i64 ia,.int .i64 ib],.slice la 1 lcap] w (Zj6 w (ZeB m ls ⟨17,ia,ib⟩ [a])):=by
 have HPv:=Zh (show ZeB m ls ⟨17,ia,ib⟩ [a]=none from by rw [Zf1 rfl];show Zey m a ia=none;unfold Zey;rw [if_neg h1])
 obtain ⟨ad,rfl,a0,a1⟩:=Zka hr
 obtain ⟨ak,ac⟩:=a
 dsimp only at a0 a1
 have hk:(ak != 2)=true:=by simpa using h1
 clear h1
 obtain ⟨W1,HW1,HBw,HX,HBt,HBi,HS,hrl⟩:=Zkg w 17 ia ib ak ac (l:=[(ad,.int .i64 ak),(⟨ad.block,ad.off+1,none⟩,.int .i64 ac)]) ⟨a0,a1,trivial⟩
 have HB0:=Zh (Below.refl W1.heap.size W1)
 have hne:=ZdW
 have heq:=ZdV
 have hgu:=ZdX
 have hal:=Zac a0
 clear H HM ht hr
 go_enter Tryz.func338,Tryz.ntmps338
 go_upto_region 4 with fail
 exact k8
theorem Zla {a b:Ty} (hr:Zar w la lcap ([a,b]:List Ty)) (hta:a.k=2→0≤a.c∧a.c<m.cl.length) (htb:b.k=2→0≤b.c∧b.c<m.cl.length) (hft:∀ t∈(m.cl.getD a.c.toNat default).f,Zfi m t) (h1:a.k=2) (hi0:0≤ia) (hlt:ia<(m.cl.getD a.c.toNat default).f.length):
  Calls Tryz.prog 338 #[.pointer (some ⟨K,0,none⟩),.agg #[.int .i64 18,.int .i64 ia,.int .i64 ib],.slice la 2 lcap] w (Zj6 w (ZeB m ls ⟨18,ia,ib⟩ [a,b])):=by
 obtain ⟨kl,k0,k1,k2,k3,k4⟩:=H.cells
 obtain ⟨ad,rfl,a0,a1,b0,b1⟩:=Zkb hr
 obtain ⟨ak,ac⟩:=a
 obtain ⟨bk,bc⟩:=b
 dsimp only at a0 a1 b0 b1
 dsimp only at hft htb
 dsimp only at hlt
 obtain rfl:ak=2:=h1
 obtain ⟨hc0,hcl⟩:=hta rfl
 dsimp only at hc0 hcl
 obtain ⟨c,rfl⟩:∃ d:Nat,ac=d:=⟨ac.toNat,by omega⟩
 have hcl':c<m.cl.length:=by omega
 have hcl2:(c:Int) < m.cl.length:=by omega
 obtain ⟨ca,hco,-,-,e2,-⟩:=HM.cls hcl'
 have hfr:=HM.f c hcl'
 obtain ⟨fs,hfs⟩:∃ l,l=(m.cl.getD c default).f:=⟨_,rfl⟩
 have hfld:Zey m ⟨2,(c:Int)⟩ ia=fs[ia.toNat]?:=by rw [hfs];show (if (2:Int)=2 then (m.cl.getD ((c:Int)).toNat default).f[ia.toNat]? else none)=_;rw [if_pos rfl,Int.toNat_natCast]
 rw [←hfs] at e2 hfr
 have k0':=k0
 rw [hco] at k0'
 rw [Int.toNat_natCast,←hfs] at hlt
 obtain ⟨ia,rfl⟩:∃ d:Nat,ia=d:=⟨ia.toNat,by omega⟩
 have hlt':ia<fs.length:=by omega
 obtain ⟨fa,hfo,u0,u1⟩:=Zaz hfr hlt'
 obtain ⟨⟨uk,uc⟩,hu⟩:∃ u,u=fs.getD ia default:=⟨_,rfl⟩
 have hfld2:Zey m ⟨2,(c:Int)⟩ (ia:Int)=some ⟨uk,uc⟩:=by rw [hfld,Int.toNat_natCast,hu];exact getD_some hlt'
 rw [hfo] at e2
 rw [←hu] at u0 u1
 dsimp only at u0 u1
 have hge:decide ((fs.length:Int)≤(ia:Int))=false:=by simp;omega
 rw [Int.toNat_natCast,←hfs] at hft
 have hut:(⟨uk,uc⟩:Ty).k=2→0≤(⟨uk,uc⟩:Ty).c:=fun hk=>(ZfF (hft ⟨uk,uc⟩ (by rw [hu];exact ZfU _ hlt')) (.inl hk)).1
 have HPv:=Zh (show ZeB m ls ⟨18,(ia:Int),ib⟩ [⟨2,(c:Int)⟩,⟨bk,bc⟩]=if Zet m ⟨bk,bc⟩ ⟨uk,uc⟩=true then some ty0 else none from by rw [Zf2 rfl];rw [show Zey m ([(⟨2,(c:Int)⟩:Ty),⟨bk,bc⟩].getD 0 default) (ia:Int)=some ⟨uk,uc⟩ from hfld2];rfl)
 obtain ⟨ft,hft⟩:∃ x,x=Zet m ⟨bk,bc⟩ ⟨uk,uc⟩:=⟨_,rfl⟩
 have HFi:=Zh (show ∀ w',Below w.heap.size w w'→Calls Tryz.prog 274 #[.agg #[.slice h.co m.cl.length h.cc,.slice h.so m.st.length h.sc,.slice h.eo m.me.length h.ec,.int .i64 m.sel],.agg #[.int .i64 bk,.int .i64 bc],.agg #[.int .i64 uk,.int .i64 uc]] w' (Ret w' (.bool ft)) from fun w' hb'=>by have:=ZjS m h ⟨bk,bc⟩ ⟨uk,uc⟩ w' (HM.old hb') htb hut hd;rw [←hft] at this;exact this)
 have Hft:=Zh hft
 clear hft
 rw [hco] at HFi
 clear hfld hfld2 hfs hfr hco hu hfo hft
 obtain ⟨W1,HW1,HBw,HX,HBt,HBi,HS,hrl⟩:=Zkg w 18 ia ib 2 c (l:=[(ad,.int .i64 2),(⟨ad.block,ad.off+1,none⟩,.int .i64 c),(⟨ad.block,ad.off+2,none⟩,.int .i64 bk),(⟨ad.block,ad.off+3,none⟩,.int .i64 bc),(⟨K,0,none⟩,.slice (some ca) m.cl.length h.cc),(⟨K,1,none⟩,.slice h.so m.st.length h.sc),(⟨K,2,none⟩,.slice h.eo m.me.length h.ec),(⟨K,3,none⟩,.int .i64 m.sel),(⟨(ca.add (c*4)).block,(ca.add (c*4)).off+2,none⟩,.slice (some fa) fs.length (h.c c).fc),((fa.add (ia*2)),.int .i64 uk),(⟨(fa.add (ia*2)).block,(fa.add (ia*2)).off+1,none⟩,.int .i64 uc)]) ⟨a0,a1,b0,b1,k0',k1,k2,k3,e2,u0,u1,trivial⟩
 have HB0:=Zh (Below.refl W1.heap.size W1)
 have hne:=ZdW
 have heq:=ZdV
 have hgu:=ZdX
 have hal:=Zac a0
 clear H HM ht hr k0 k1 k2 k3 k4 b0 b1 k0' e2 u0 u1
 go_enter Tryz.func338,Tryz.ntmps338
 go_upto_region 8 with fail
 rw [←HW1.out]
 clear a0 a1 hal
 refine kO HS.out (oL [0,1,2,3,4,5,6,7,8,9,10,11,12,13,14,15,16,17,18]) (Upd.of HB0.out).drew ?_
 have HB1:=Zh HB0.out.drew
 repeat refine pO ?_
 refine Zd5 ?_
 go_wp2_with fail
 refine kO HS.out (oL [0,1,2,3,4,5,6,7,8,9,10,11,12,13,14,15,16,17,18,19,20,21,122,123,24]) (Upd.of HB1.out).drew ?_
 have HB2:=Zh HB1.out.drew
 repeat refine pO ?_
 refine oO fun Kv hK=>?_
 go_simp
 refine (HFi.out _ (Zaf HBw.out HB2.out)).mono ?_
 rintro r w6 ⟨rfl,hb6⟩
 have HB3:=Zh (Zaf HB2.out hb6)
 refine hK _ _ ⟨HS.out _ (Upd.of HB3.out),?_⟩
 clear hK Kv hb6
 repeat refine pO ?_
 obtain ⟨y0,y1,g0,g1⟩:=Zki (HX.out.old HB3.out)
 refine oO fun Kv hK=>?_
 go_simp
 refine hK _ _ ⟨HS.out _ (((Upd.of HB3.out).set 0 _).set 1 _),?_⟩
 clear hK Kv
 repeat refine pO ?_
 refine Zd5 ?_
 go_wp2
 refine bodyPost_ret (v:=.tuple #[.agg #[.int .i64 0,.int .i64 0],.bool ft]) (by simp [results,Tryz.results338,go_sem,y0,y1]) rfl ?_
 exact Zko HPv.out Hft.out (Zkj HBw.out HB3.out)
theorem Zlb {a:Ty} (hr:Zar w la lcap ([a]:List Ty)) (hta:a.k=2→0≤a.c∧a.c<m.cl.length) (h1:a.k=2) (hi0:0≤ia) (hlt:ia<m.cl.length) (h2:Zet m ⟨2,ia⟩ a=true):
  Calls Tryz.prog 338 #[.pointer (some ⟨K,0,none⟩),.agg #[.int .i64 24,.int .i64 ia,.int .i64 ib],.slice la 1 lcap] w (Zj6 w (ZeB m ls ⟨24,ia,ib⟩ [a])):=by
 obtain ⟨kl,k0,k1,k2,k3,k4⟩:=H.cells
 obtain ⟨ad,rfl,a0,a1⟩:=Zka hr
 obtain ⟨ak,ac⟩:=a
 dsimp only at a0 a1
 obtain rfl:ak=2:=h1
 obtain ⟨hc0,hcl⟩:=hta rfl
 dsimp only at hc0 hcl
 obtain ⟨q2,hq2⟩:∃ x,x=Zet m ⟨2,ac⟩ ⟨2,ia⟩:=⟨_,rfl⟩
 have hf1:Zet m ⟨2,ia⟩ ⟨2,ac⟩=ZaH m (ia.toNat+1) ia ac:=by simp [Zet]
 have hf2:Zet m ⟨2,ac⟩ ⟨2,ia⟩=ZaH m (ac.toNat+1) ac ia:=by simp [Zet]
 have HA1:=Zh (show ∀ w',Below w.heap.size w w'→Calls Tryz.prog 340 #[.agg #[.slice h.co m.cl.length h.cc,.slice h.so m.st.length h.sc,.slice h.eo m.me.length h.ec,.int .i64 m.sel],.int .i64 ia,.int .i64 ac] w' (Ret w' (.bool true)) from fun w' hb'=>by have:=ZjR m h ia ac w' (HM.old hb') hlt hc0 hd;rw [←hf1,h2] at this;exact this)
 have HA2:=Zh (show ∀ w',Below w.heap.size w w'→Calls Tryz.prog 340 #[.agg #[.slice h.co m.cl.length h.cc,.slice h.so m.st.length h.sc,.slice h.eo m.me.length h.ec,.int .i64 m.sel],.int .i64 ac,.int .i64 ia] w' (Ret w' (.bool q2)) from fun w' hb'=>by have:=ZjR m h ac ia w' (HM.old hb') hcl hi0 hd;rw [←hf2,←hq2] at this;exact this)
 have HPv:=Zh (show ZeB m ls ⟨24,ia,ib⟩ [⟨2,ac⟩]=some ⟨2,ia⟩ from by rw [Zf8 rfl];rw [show (decide (([(⟨2,ac⟩:Ty)].getD 0 default).k=2)&&(Zet m ([(⟨2,ac⟩:Ty)].getD 0 default) ⟨2,ia⟩||Zet m ⟨2,ia⟩ ([(⟨2,ac⟩:Ty)].getD 0 default)))=true from by show (true&&(Zet m ⟨2,ac⟩ ⟨2,ia⟩||Zet m ⟨2,ia⟩ ⟨2,ac⟩))=_;rw [h2];simp];rfl)
 clear hf1 hf2 h2 hq2
 obtain ⟨W1,HW1,HBw,HX,HBt,HBi,HS,hrl⟩:=Zkg w 24 ia ib 2 ac (l:=[(ad,.int .i64 2),(⟨ad.block,ad.off+1,none⟩,.int .i64 ac),(⟨K,0,none⟩,.slice h.co m.cl.length h.cc),(⟨K,1,none⟩,.slice h.so m.st.length h.sc),(⟨K,2,none⟩,.slice h.eo m.me.length h.ec),(⟨K,3,none⟩,.int .i64 m.sel)]) ⟨a0,a1,k0,k1,k2,k3,trivial⟩
 have HB0:=Zh (Below.refl W1.heap.size W1)
 have hne:=ZdW
 have heq:=ZdV
 have hgu:=ZdX
 have hal:=Zac a0
 clear H HM ht hr k0 k1 k2 k3 k4
 go_enter Tryz.func338,Tryz.ntmps338
 go_upto_region 16 with fail
 rw [←HW1.out]
 clear a0 a1 hal
 refine kO HS.out (oL [0,1,2,3,4,5,6,7,8,9,10,111,12,13,14,15,16,17,18,19,20,121,22,123,24]) (Upd.of HB0.out).drew ?_
 have HB1:=Zh HB0.out.drew
 repeat refine pO ?_
 refine oO fun Kv hK=>?_
 go_simp
 refine (HA1.out _ (Zaf HBw.out HB1.out)).mono ?_
 rintro r w5 ⟨rfl,hb5⟩
 have HB2:=Zh (Zaf HB1.out hb5)
 refine hK _ _ ⟨HS.out _ (Upd.of HB2.out),?_⟩
 clear hK Kv hb5
 repeat refine pO ?_
 refine sO 134 (HS.out _ (Upd.of HB2.out)) ?_
 repeat refine pO ?_
 obtain ⟨y0,y1,g0,g1⟩:=Zki (HX.out.old HB2.out)
 refine oO fun Kv hK=>?_
 go_simp
 refine hK _ _ ⟨HS.out _ (((Upd.of HB2.out).set 0 _).set 1 _),?_⟩
 clear hK Kv
 repeat refine pO ?_
 refine Zd5 ?_
 go_wp2
 refine bodyPost_ret (v:=.tuple #[.agg #[.int .i64 2,.int .i64 ia],.bool true]) (by simp [results,Tryz.results338,go_sem,y0,y1]) rfl ?_
 exact k88
theorem Zlc {a b:Ty} (hr:Zar w la lcap ([a,b]:List Ty)) (h0:a.k=4) (h1:b≠Zeu):
  Calls Tryz.prog 338 #[.pointer (some ⟨K,0,none⟩),.agg #[.int .i64 19,.int .i64 ia,.int .i64 ib],.slice la 2 lcap] w (Zj6 w (ZeB m ls ⟨19,ia,ib⟩ [a,b])):=by
 have HPv:=Zh (show ZeB m ls ⟨19,ia,ib⟩ [a,b]=none from by rw [Zf3 rfl];exact if_neg h1)
 obtain ⟨ad,rfl,a0,a1,b0,b1⟩:=Zkb hr
 obtain ⟨ak,ac⟩:=a
 obtain ⟨bk,bc⟩:=b
 dsimp only at a0 a1 b0 b1
 obtain rfl:ak=4:=h0
 have hd0:(!decide (bk=1)||!decide (bc=0))=true:=by
  exact k29
 clear h1
 obtain ⟨W1,HW1,HBw,HX,HBt,HBi,HS,hrl⟩:=Zkg w 19 ia ib 4 ac (l:=[(ad,.int .i64 4),(⟨ad.block,ad.off+1,none⟩,.int .i64 ac),(⟨ad.block,ad.off+2,none⟩,.int .i64 bk),(⟨ad.block,ad.off+3,none⟩,.int .i64 bc)]) ⟨a0,a1,b0,b1,trivial⟩
 have HB0:=Zh (Below.refl W1.heap.size W1)
 have hne:=ZdW
 have heq:=ZdV
 have hgu:=ZdX
 have hal:=Zac a0
 clear H HM ht hr b0 b1
 exact k19
theorem Zld {a b d:Ty} (hr:Zar w la lcap ([a,b,d]:List Ty)) (h0:a.k=4) (h1:b≠Zeu):
  Calls Tryz.prog 338 #[.pointer (some ⟨K,0,none⟩),.agg #[.int .i64 20,.int .i64 ia,.int .i64 ib],.slice la 3 lcap] w (Zj6 w (ZeB m ls ⟨20,ia,ib⟩ [a,b,d])):=by
 have HPv:=Zh (show ZeB m ls ⟨20,ia,ib⟩ [a,b,d]=none from by rw [Zf4 rfl];rw [show (decide ([a,b,d].getD 1 default=Zeu)&&ZeA m ([a,b,d].getD 2 default) (Zez ([a,b,d].getD 0 default)))=false from by rw [show [a,b,d].getD 1 default=b from rfl,decide_eq_false h1];rfl];rfl)
 obtain ⟨kl,k0,k1,k2,k3,k4⟩:=H.cells
 obtain ⟨ad,rfl,a0,a1,b0,b1,d0,d1⟩:=Zkc hr
 obtain ⟨ak,ac⟩:=a
 obtain ⟨bk,bc⟩:=b
 obtain ⟨dk,dc⟩:=d
 dsimp only at a0 a1 b0 b1 d0 d1
 obtain rfl:ak=4:=h0
 have hd0:(!decide (bk=1)||!decide (bc=0))=true:=by
  exact k29
 clear h1
 obtain ⟨W1,HW1,HBw,HX,HBt,HBi,HS,hrl⟩:=Zkg w 20 ia ib 4 ac (l:=[(ad,.int .i64 4),(⟨ad.block,ad.off+1,none⟩,.int .i64 ac),(⟨ad.block,ad.off+2,none⟩,.int .i64 bk),(⟨ad.block,ad.off+3,none⟩,.int .i64 bc),(⟨ad.block,ad.off+4,none⟩,.int .i64 dk),(⟨ad.block,ad.off+5,none⟩,.int .i64 dc),(⟨K,0,none⟩,.slice h.co m.cl.length h.cc),(⟨K,1,none⟩,.slice h.so m.st.length h.sc),(⟨K,2,none⟩,.slice h.eo m.me.length h.ec),(⟨K,3,none⟩,.int .i64 m.sel)]) ⟨a0,a1,b0,b1,d0,d1,k0,k1,k2,k3,trivial⟩
 have HB0:=Zh (Below.refl W1.heap.size W1)
 have hne:=ZdW
 have heq:=ZdV
 have hgu:=ZdX
 have hal:=Zac a0
 clear H HM ht hr k0 k1 k2 k3 k4 b0 b1 d0 d1
 exact k19
end
end
section
open Go.RowKit
structure Op6 (w:World) (N:Nat) (oo:Option Addr) (oc:Nat) (bs:List VB) (os:List Opn):Prop where
 own:w.ownsRow N 285 4 (.slice oo bs.length oc) bs.length (Zak bs)
 len:bs.length=os.length
 at_:∀ i,i<bs.length→ZhF w (bs.getD i default) (os.getD i default)
theorem Pk.noTy {w:World}{K:Nat}{h:Hd}{m:Md}{L S O:Value} (H:Pk w K h m L S O):ZeQ w K:=⟨Blk.lt H,fun xs z hx=>by
 rw [show w.heap[K]?=_ from H] at hx
 cases hx⟩
section
variable {w:World}{N:Nat}{oo:Option Addr}{oc:Nat}{bs:List VB}{os:List Opn}(H:Op6 w N oo oc bs os)
include w N oo oc bs os H
theorem Op6.blk {a:Addr} (ha:oo=some a):∃ g cur,a=⟨g,0,none⟩∧N≤g∧w.heap[g]?=some (.cells cur 285 (0,0)):=by
 exact k75
theorem Op6.noTy {K:Nat} (hK:ZeQ w K):ZeQ w (ZhH K oo):=by
 exact k57
theorem Op6.ne {K:Nat} {h:Hd} {m:Md} {L S O:Value} (hc:Pk w K h m L S O) {a:Addr} (ha:oo=some a):a.block≠K:=by
 exact k86
end
theorem Op6.upd {w w':World}{N:Nat}{oo:Option Addr}{oc:Nat}{bs:List VB}{os:List Opn}{K:Nat} (H:Op6 w N oo oc bs os) (hu:Upd K K w w') (hK:ZeQ w K) (hne:∀ a,oo=some a→a.block≠K):Op6 w' N oo oc bs os:=by
 exact k51
theorem Zle {w:World}{N:Nat}{oo:Option Addr}{oc:Nat}{bs:List VB}{os:List Opn} (H:Op6 w N oo oc bs os):Ze4 bs=Zev os:=by
 exact k39
structure S6 (w0 w:World) (K:Nat) (h:Hd) (m:Md) (lo:Option Addr) (lc:Nat) (ls:List Ty) (s:Ps) (so:Option Addr) (sc:Nat) (oo:Option Addr) (oc:Nat) (bs:List VB):Prop where
 pk:Pk w K h m (.slice lo ls.length lc) (.slice so s.stk.length sc) (.slice oo bs.length oc)
 ts:ZeP w so sc s.stk
 op:Op6 w w0.heap.size oo oc bs s.opn
 tl:ZeP w lo lc ls
 hb:Below w0.heap.size w0 w
 hK:w0.heap.size≤K
def P6 (w0 w:World) (K:Nat) (h:Hd) (m:Md) (lo:Option Addr) (lc:Nat) (ls:List Ty) (oo:Option Addr) (q:Int × Ps) (r:Ending) (w':World):Prop:=
 r=.returned (.int .i64 q.1)∧Upd K (ZhH K oo) w w'∧(q.1=0→∃ so sc oo oc bs,S6 w0 w' K h m lo lc ls q.2 so sc oo oc bs)
section
variable {w0 w:World}{K:Nat}{h:Hd}{m:Md}{lo:Option Addr}{lc:Nat}{ls:List Ty}{s:Ps}{so:Option Addr}{sc:Nat}{oo:Option Addr}{oc:Nat}{bs:List VB}{i:In3}{r:List Opn}{o:Opn}{br:List VB}{b:VB}
section
variable (H:S6 w0 w K h m lo lc ls s so sc oo oc bs)
include H
theorem S6.ne:∀ a,oo=some a→a.block≠K:=fun _ ha=>H.op.ne H.pk ha
theorem S6.last (hs:s.opn=r++[o]):∃ br b,bs=br++[b]∧br.length=r.length:=by
 exact k52
theorem S6.top (hs:s.opn=r++[o]) (hb:bs=br++[b]) (hl:br.length=r.length):ZhF w b o∧∃ g,oo=some ⟨g,0,none⟩∧g≠K∧w0.heap.size≤g∧g<w.heap.size∧ZeQ w g∧bs.length≤oc∧w.ownsRow w0.heap.size 285 4 (.slice (some ⟨g,0,none⟩) bs.length oc) bs.length (Zak br++Cells.cells b):=by
 have h1:=H.op.at_ br.length (by rw [hb];simp)
 rw [hs,hb] at h1
 rw [show (br++[b]).getD br.length default=b by simp,hl,show (r++[o]).getD r.length default=o by simp] at h1
 refine ⟨h1,?_⟩
 have hown:=H.op.own
 rcases hown.2 with ⟨_,hn⟩|⟨g,c,cur,hv,hbb,hg,hle,_⟩
 ·rw [hb] at hn;simp at hn
 ·cases hv
  have hnt:=H.op.noTy H.pk.noTy
  exact k64
end
theorem Op6.at_upd {w':World}{B:Nat} (H:Op6 w w0.heap.size oo oc bs s.opn) (hu:Upd K B w w') (hK:ZeQ w K) (hB:ZeQ w B) (hs:s.opn=r++[o]) (hb:bs=br++[b]) (hl:br.length=r.length) {j:Nat} (hj:j<br.length):ZhF w' (br.getD j default) (r.getD j default):=by
 exact k48
theorem Zlf {base g oc n:Nat} (h:w.ownsRow base 285 4 (.slice (some ⟨g,0,none⟩) n oc) n (Zak br++Cells.cells b)):∃ ba,ba=(⟨g,0,none⟩:Addr).add (br.length*4)∧ba=⟨g,br.length*4,none⟩ ∧
  w.cell? ba=some (.int .i64 b.op)∧w.cell? ⟨ba.block,ba.off+1,none⟩=some (.slice b.bo b.bn b.bc)∧w.cell? ⟨ba.block,ba.off+2,none⟩=some (.slice b.fo b.fn b.fc)∧w.cell? ⟨ba.block,ba.off+3,none⟩=some (.bool b.mid)∧(∀ j,w.frozen? ⟨g,j,none⟩=false):=by
 have hf:(Zak br).length=br.length*4:=Zam br
 exact k27
section
variable (H:S6 w0 w K h m lo lc ls s so sc oo oc bs)
include H
theorem Zlg (hop:i.op=34) (hs:s.opn=r++[o]) (hb:bs=br++[b]) (hl:br.length=r.length) {g:Nat} (hoo:oo=some ⟨g,0,none⟩) {W3 W4 W5:World} (h3:Below w.heap.size w W3) {to1:Option Addr} {tc1:Nat} (ht1:ZeP W3 to1 tc1 s.stk) (hW4:W4=(((W3.drew.setCell ⟨g,br.length*4,none⟩ (.int .i64 b.op)).setCell ⟨g,br.length*4+1,none⟩ (.slice b.bo b.bn b.bc)).setCell ⟨g,br.length*4+2,none⟩ (.slice to1 s.stk.length tc1)).setCell ⟨g,br.length*4+3,none⟩ (.bool true)) (h5:Below W4.heap.size W4 W5) {to2:Option Addr} {tc2:Nat} (hcl:ZeP W5 to2 tc2 o.beg):
  P6 w0 w K h m lo lc ls oo (ZeC m ls i s) (.returned (.int .i64 0)) (W5.setCell ⟨K,5,none⟩ (.slice to2 o.beg.length tc2)):=by
 obtain ⟨hbr,g',hg',hgK,hgN,hgl,hgT,hoc,hown⟩:=H.top hs hb hl
 rw [hoo] at hg'
 cases hg'
 subst hoo
 have hu3:Upd K g w W3:=Upd.of h3
 have hu4:Upd K g w W4:=by rw [hW4];exact (((hu3.drew.setB _ _).setB _ _).setB _ _).setB _ _
 have hu34:Upd g g W3 W4:=by rw [hW4];exact ((((Upd.refl g g W3).drew.setB _ _).setB _ _).setB _ _).setB _ _
 have hu5:Upd K g w W5:=hu4.bel h5
 have hall:Upd K g w (W5.setCell ⟨K,5,none⟩ (.slice to2 o.beg.length tc2)):=hu5.set 5 _
 have hp3:=H.pk.old h3
 have hp4:Pk W4 K h m (.slice lo ls.length lc) (.slice so s.stk.length sc) (.slice (some ⟨g,0,none⟩) bs.length oc):=by
  rw [hW4]
  exact Blk.other (Blk.other (Blk.other (Blk.other (Blk.drew hp3) (by exact hgK.symm) _) (by exact hgK.symm) _) (by exact hgK.symm) _) (by exact hgK.symm) _
 have hp5:=hp4.old h5
 have hp6:Pk (W5.setCell ⟨K,5,none⟩ (.slice to2 o.beg.length tc2)) K h m (.slice lo ls.length lc) (.slice to2 o.beg.length tc2) (.slice (some ⟨g,0,none⟩) bs.length oc):=Blk.set hp5 5 _
 have hgT3:ZeQ W3 g:=⟨Nat.lt_of_lt_of_le hgl h3.size,fun xs z=>by rw [h3.block g hgl];exact hgT.2 xs z⟩
 have hK5:ZeQ W5 K:=Pk.noTy hp5
 have hgT5:ZeQ W4 g:=⟨Nat.lt_of_lt_of_le hgT3.1 hu34.size,fun xs z=>by
  intro hx
  have hsz:∃ cur,W4.heap[g]?=some (.cells cur 285 (0,0)):=by
   obtain ⟨g2,cur,e2,_,hg2⟩:=H.op.blk rfl
   cases e2
   have q3:Blk W3 g cur 285:=(show Blk w g cur 285 from hg2).old h3
   rw [hW4]
   exact ⟨_,Blk.set (Blk.set (Blk.set (Blk.set (Blk.drew q3) _ _) _ _) _ _) _ _⟩
  obtain ⟨cur,hc⟩:=hsz
  rw [hc] at hx
  cases hx⟩
 have ht4:ZeP W4 to1 tc1 s.stk:=ht1.upd hu34 hgT3 hgT3
 have hstep:ZeC m ls i s=(0,⟨o.beg,r++[{ o with past:=s.stk,mid:=true }]⟩):=by
  unfold ZeC
  rw [if_pos hop,hs]
  simp
 rw [hstep]
 refine ⟨rfl,hall,fun _=>?_⟩
 have hbl:bs.length=br.length+1:=by rw [hb];simp
 have hlen:(br++[({ b with fo:=to1,fn:=s.stk.length,fc:=tc1,mid:=true }:VB)]).length=bs.length:=by rw [hbl];simp
 have hsz5:Upd K K W4 (W5.setCell ⟨K,5,none⟩ (.slice to2 o.beg.length tc2)):=((Upd.of h5).set 5 _)
 refine ⟨to2,tc2,some ⟨g,0,none⟩,oc,br++[{ b with fo:=to1,fn:=s.stk.length,fc:=tc1,mid:=true }],?_⟩
 refine ⟨?_,hcl.upd ((Upd.refl K K W5).set 5 _) hK5 hK5,⟨?_,by simp [hl],fun j hj=>?_⟩,H.tl.upd hall H.pk.noTy hgT,hall.below H.hb (Nat.le_refl _) H.hK hgN,H.hK⟩
 ·rw [hlen];exact hp6
 ·rw [hlen,Zan,Zao]
  have h30:W3.drew.ownsRow w0.heap.size 285 4 (.slice (some ⟨g,0,none⟩) bs.length oc) bs.length (Zak br++Cells.cells b):=(ZhI hown fun k hk=>h3.block k (hown.lt k hk).2).drew
  have h31:=(h30.stored (br.length*4) (.int .i64 b.op)).1
  have h32:=(h31.stored (br.length*4+1) (.slice b.bo b.bn b.bc)).1
  have h33:=(h32.stored (br.length*4+2) (.slice to1 s.stk.length tc1)).1
  have h34:=(h33.stored (br.length*4+3) (.bool true)).1
  rw [←hW4] at h34
  have hf:(Zak br).length=br.length*4:=Zam br
  have e:((((Zak br++Cells.cells b).set (br.length*4) (.int .i64 b.op)).set (br.length*4+1) (.slice b.bo b.bn b.bc)).set (br.length*4+2) (Value.slice to1 s.stk.length tc1)).set (br.length*4+3) (.bool true)=Zak br++Cells.cells ({ b with fo:=to1,fn:=s.stk.length,fc:=tc1,mid:=true }:VB):=by
   rw [←hf,List.set_append_right (h:=by omega),List.set_append_right (h:=by omega),List.set_append_right (h:=by omega),List.set_append_right (h:=by omega)]
   congr 1
   rw [show (Zak br).length-(Zak br).length=0 by omega,show (Zak br).length+1-(Zak br).length=1 by omega,show (Zak br).length+2-(Zak br).length=2 by omega,show (Zak br).length+3-(Zak br).length=3 by omega]
   rfl
  rw [e] at h34
  have h6:W5.ownsRow w0.heap.size 285 4 (.slice (some ⟨g,0,none⟩) bs.length oc) bs.length (Zak br++Cells.cells ({ b with fo:=to1,fn:=s.stk.length,fc:=tc1,mid:=true }:VB)):=ZhI h34 fun k hk=>h5.block k (h34.lt k hk).2
  exact ownsRow_setCell_other h6 (by intro e;exact hgK (Option.some.inj e)) _
 ·rw [hlen,hbl] at hj
  by_cases hjl:j<br.length
  ·rw [show (br++[({ b with fo:=to1,fn:=s.stk.length,fc:=tc1,mid:=true }:VB)]).getD j default=br.getD j default by simp [List.getElem?_append_left hjl],show (r++[({ o with past:=s.stk,mid:=true }:Opn)]).getD j default=r.getD j default by simp [List.getElem?_append_left (show j<r.length by omega)]]
   exact H.op.at_upd hall H.pk.noTy hgT hs hb hl hjl
  ·obtain rfl:j=br.length:=by omega
   rw [show (br++[({ b with fo:=to1,fn:=s.stk.length,fc:=tc1,mid:=true }:VB)]).getD br.length default={ b with fo:=to1,fn:=s.stk.length,fc:=tc1,mid:=true } by simp,show (r++[({ o with past:=s.stk,mid:=true }:Opn)]).getD br.length default={ o with past:=s.stk,mid:=true } by rw [hl];simp]
   have hb2:=hbr.upd hall H.pk.noTy hgT
   exact ⟨hb2.op,rfl,hb2.bn,rfl,hb2.bg,ht4.upd hsz5 (Pk.noTy hp4) (Pk.noTy hp4)⟩
theorem Zlh (hop:i.op=35) (hs:s.opn=r++[o]) (hb:bs=br++[b]) (hl:br.length=r.length) {W3:World} (h3:Below w.heap.size w W3) (hw:s.stk=if o.mid then o.past else o.beg):
  P6 w0 w K h m lo lc ls oo (ZeC m ls i s) (.returned (.int .i64 0)) (W3.setCell ⟨K,6,none⟩ (.slice oo br.length oc)):=by
 obtain ⟨hbr,g,hoo,hgK,hgN,hgl,hgT,hoc,hown⟩:=H.top hs hb hl
 have hall:Upd K K w (W3.setCell ⟨K,6,none⟩ (.slice oo br.length oc)):=(Upd.of h3).set 6 _
 have hstep:ZeC m ls i s=(0,⟨s.stk,r⟩):=by
  unfold ZeC
  rw [if_neg (by omega),if_pos hop,hs]
  simp only [List.getLastD_concat,List.dropLast_concat,←hw]
  simp
 rw [hstep]
 refine ⟨rfl,hall.more,fun _=>⟨so,sc,oo,oc,br,Blk.set (H.pk.old h3) 6 _,H.ts.upd hall H.pk.noTy H.pk.noTy,⟨?_,hl,fun j hj=>H.op.at_upd hall H.pk.noTy H.pk.noTy hs hb hl hj⟩,H.tl.upd hall H.pk.noTy H.pk.noTy,hall.below H.hb (Nat.le_refl _) H.hK H.hK,H.hK⟩⟩
 subst hoo
 have h4:=ZjX hown (m:=br.length) (by rw [hb];simp)
 rw [show (Zak br++Cells.cells b).take (br.length*4)=Zak br from List.take_left' (Zam br)] at h4
 exact ZhI h4 fun k hk=>by
  cases hk
  exact hall.block g hgl hgK hgK
theorem Zli (hop:i.op=35) (hs:s.opn=r++[o]) {want:List Ty} (hw:want=if o.mid then o.past else o.beg) (hne:s.stk≠want) {W3:World} (h3:Below w.heap.size w W3):
  P6 w0 w K h m lo lc ls oo (ZeC m ls i s) (.returned (.int .i64 (if s.stk.length≠want.length then 12 else 11))) W3:=by
 have hstep:(ZeC m ls i s).1=if s.stk.length≠want.length then 12 else 11:=by
  unfold ZeC
  rw [if_neg (by omega),if_pos hop,hs]
  simp only [List.getLastD_concat,List.dropLast_concat,←hw]
  split
  ·rfl
  ·first|rfl|rw [if_neg hne]
 refine ⟨by rw [hstep],Upd.of h3,fun h0=>?_⟩
 rw [hstep] at h0
 split at h0<;>cases h0
end
end
section
variable {w0 w:World}{K:Nat}{h:Hd}{m:Md}{lo:Option Addr}{lc:Nat}{ls:List Ty}{s:Ps}{so:Option Addr}{sc:Nat}{oo:Option Addr}{oc:Nat}{bs:List VB}{i:In3}{r:List Opn}{o:Opn}(H:S6 w0 w K h m lo lc ls s so sc oo oc bs)
include w0 w K h m lo lc ls s so sc oo oc bs i r o H
theorem Zlj (hop:i.op=34) (hs:s.opn=r++[o]) (hd:s.opn.length≤6) (hbl:o.beg.length≤12) (hsl:s.stk.length≤12):
  Calls Tryz.prog 270 #[.pointer (some ⟨K,0,none⟩),.agg #[.int .i64 34,.int .i64 i.a,.int .i64 i.b]] w (P6 w0 w K h m lo lc ls oo (ZeC m ls i s)):=by
 obtain ⟨br,b,hb,hl⟩:=H.last hs
 obtain ⟨hbr,g,hoo,hgK,hgN,hgl,hgT,hoc,hown⟩:=H.top hs hb hl
 obtain ⟨ba,hba,hbv,x0,x1,x2,x3,hfz⟩:=Zlf hown
 have k5:w.cell? ⟨K,5,none⟩=some (.slice so s.stk.length sc):=Blk.cell H.pk 5 rfl
 have k6:w.cell? ⟨K,6,none⟩=some (.slice oo bs.length oc):=Blk.cell H.pk 6 rfl
 have kl:=Blk.lt H.pk
 obtain ⟨ad,had⟩:∃ a,a=(⟨g,0,none⟩:Addr):=⟨_,rfl⟩
 rw [hoo,←had] at k6
 rw [←had] at hba
 obtain ⟨n,hn⟩:∃ n,n=br.length:=⟨_,rfl⟩
 obtain ⟨ln,hln⟩:∃ n,n=bs.length:=⟨_,rfl⟩
 have hl1:ln=n+1:=by rw [hln,hn,hb];simp
 rw [←hln] at k6
 rw [←hn] at hba
 have hlt:n<ln:=by omega
 have hlt2:(n:Int) < ln:=by omega
 have hol:=H.op.len
 have hw1:IntKind.i64.wrap ((ln:Int)-1)=(n:Int):=by rw [show (ln:Int)-1=(n:Int) by omega];exact IntWalk.i64_in _ (by omega)
 have hw2:(ln:Int)-1=(n:Int):=by omega
 have hw3:IntKind.i64.wrap (n:Int)=(n:Int):=IntWalk.i64_in _ (by omega)
 obtain ⟨bn,hbn⟩:∃ n,n=b.bn:=⟨_,rfl⟩
 obtain ⟨fn,hfn⟩:∃ n,n=b.fn:=⟨_,rfl⟩
 obtain ⟨mid,hmid⟩:∃ n,n=b.mid:=⟨_,rfl⟩
 rw [←hbn] at x1
 rw [←hfn] at x2
 rw [←hmid] at x3
 have HBn:=Zh (hbn.trans hbr.bn)
 have HFn:=Zh (hfn.trans hbr.fn)
 have HMi:=Zh (hmid.trans hbr.mid)
 obtain ⟨sn,hsn⟩:∃ n,n=s.stk.length:=⟨_,rfl⟩
 rw [←hsn] at k5
 have HSn:=Zh hsn
 have HBa:=Zh hba
 have HBr:=Zh hbr
 have HH:=Zh H
 obtain ⟨W1,hW1⟩:∃ W1,W1=((w.alloc (.cells #[.int .i64 34,.int .i64 i.a,.int .i64 i.b] 78)).alloc (.cells #[.int .i64 b.op,.slice b.bo bn b.bc,.slice b.fo fn b.fc,.bool mid] 285)):=⟨_,rfl⟩
 have hb1:Below w.heap.size w W1:=by rw [hW1];exact bE
 have hbi:Blk W1 w.heap.size #[.int .i64 34,.int .i64 i.a,.int .i64 i.b] 78:=by rw [hW1];exact (Blk.new w _ _).alloc _
 have hbo:Blk W1 (w.heap.size+1) #[.int .i64 b.op,.slice b.bo bn b.bc,.slice b.fo fn b.fc,.bool mid] 285:=by rw [hW1];exact Blk.new' (w:=w.alloc _) _ _ (by simp)
 have HB1:=Zh hb1
 have HBi:=Zh hbi
 have HBo:=Zh hbo
 have HW1:=Zh hW1
 have h0a:=(Below.refl w.heap.size w).alloc (Nat.le_refl _) (.cells #[.int .i64 34,.int .i64 i.a,.int .i64 i.b] 78)
 have kk6:=Zj4 h0a k6
 have xx0:=Zj4 h0a x0
 have xx1:=Zj4 h0a x1
 have xx2:=Zj4 h0a x2
 have xx3:=Zj4 h0a x3
 have k61:=Zj4 hb1 k6
 have k51:=Zj4 hb1 k5
 have hfz1:∀ W3,Below w.heap.size w W3→∀ j,W3.frozen? ⟨g,j,none⟩=false:=fun W3 hb3 j=>by
  obtain ⟨g2,cur,e2,_,hg2⟩:=H.op.blk hoo
  cases e2
  exact Blk.frozen ((show Blk w g cur 285 from hg2).old hb3) j
 have HFz:=Zh hfz1
 have HBv:=Zh hbv
 have HEE:=Zh (fun (W3 W4 W5:World) (h3:Below w.heap.size w W3) (to1:Option Addr) (tc1:Nat) (ht1:ZeP W3 to1 tc1 s.stk) hW4 (h5:Below W4.heap.size W4 W5) (to2:Option Addr) (tc2:Nat) (hcl:ZeP W5 to2 tc2 o.beg)=>Zlg (i:=i) (W4:=W4) H hop hs hb hl hoo h3 ht1 hW4 h5 hcl)
 rw [hoo] at HEE
 rw [hoo]
 have hgl2:g<w.heap.size:=hgl
 clear hb1 hbi hbo hW1 hbn hfn hmid hbr hs hb hl hop H hown hfz hfz1 hoo had hn hln hl1 hol hsn h0a
 go_enter Tryz.func270,Tryz.ntmps270
 rw [hba] at xx0 xx1 xx2 xx3
 clear hba hbv
 go_upto_region 3 with fail
 rw [←HW1.out]
 clear kk6 xx0 xx1 xx2 xx3
 have i0:=HBi.out.cell 0 (v:=.int .i64 34) rfl
 have HK:=Zh (show ∀ w',Below W1.heap.size W1 w'→w'.cell? ⟨K,5,none⟩=some (.slice so sn sc)∧w'.cell? ⟨K,6,none⟩=some (.slice (some ad) ln oc) from fun w' hb=>⟨Zj4 hb k51,Zj4 hb k61⟩)
 go_upto_region 6 with (go_at_call 200;rw [HSn.out];refine (ZjT _ so sc s.stk (HH.out.ts.1.old HB1.out) (by omega)).mono ?_;rw [←HSn.out];rintro r w2 ⟨⟨to1,tc1,rfl,hown2⟩,hb2⟩;have HO2:=Zh hown2;have HB2:=Zh hb2;clear hown2 hb2;have f2:=(HBo.out.old HB2.out).frozen 2;have f3:=(HBo.out.old HB2.out).frozen 3;have c2:=(HBo.out.old HB2.out).cell 2 (v:=.slice b.fo fn b.fc) rfl;have c3:=(HBo.out.old HB2.out).cell 3 (v:=.bool mid) rfl)
 rw [←HSn.out]
 obtain ⟨W3,hW3⟩:∃ W3,W3=(w2.setCell ⟨w.heap.size+1,2,none⟩ (.slice to1 sn tc1)).setCell ⟨w.heap.size+1,3,none⟩ (.bool true):=⟨_,rfl⟩
 have hx3:Blk W3 (w.heap.size+1) #[.int .i64 b.op,.slice b.bo bn b.bc,.slice to1 sn tc1,.bool true] 285:=by rw [hW3];exact Blk.set (Blk.set (HBo.out.old HB2.out) 2 _) 3 _
 have hb3:Below w.heap.size w W3:=by rw [hW3];exact ZcW (ZcW (Zaf HB1.out HB2.out) (Nat.le_succ _) _) (Nat.le_succ _) _
 have hu3:Upd (w.heap.size+1) (w.heap.size+1) w2 W3:=by rw [hW3];exact ((Upd.refl _ _ w2).set 2 _).set 3 _
 have hn2:ZeQ w2 (w.heap.size+1):=⟨(HBo.out.old HB2.out).lt,fun xs z hx=>by
  rw [show w2.heap[w.heap.size+1]?=_ from HBo.out.old HB2.out] at hx
  cases hx⟩
 have ht3:ZeP W3 to1 tc1 s.stk:=(ZeP.own HO2.out).upd hu3 hn2 hn2
 rw [←hW3]
 have HX3:=Zh hx3
 have HB3:=Zh hb3
 have HT3:=Zh ht3
 have k63:=Zj4 hb3 k6
 have q0:=Zj4 hb3 x0
 have q1:=Zj4 hb3 x1
 have q2:=Zj4 hb3 x2
 have q3:=Zj4 hb3 x3
 have g0:=HFz.out W3 hb3 (br.length*4)
 have g1:=HFz.out W3 hb3 (br.length*4+1)
 have g2:=HFz.out W3 hb3 (br.length*4+2)
 have g3:=HFz.out W3 hb3 (br.length*4+3)
 have e1:(⟨g,br.length*4+1,none⟩:Addr)=⟨ba.block,ba.off+1,none⟩:=by rw [HBv.out]
 have e2:(⟨g,br.length*4+2,none⟩:Addr)=⟨ba.block,ba.off+2,none⟩:=by rw [HBv.out]
 have e3:(⟨g,br.length*4+3,none⟩:Addr)=⟨ba.block,ba.off+3,none⟩:=by rw [HBv.out]
 rw [←HBv.out] at g0
 rw [e1] at g1
 rw [e2] at g2
 rw [e3] at g3
 have q1':(W3.setCell ba (.int .i64 b.op)).cell? ⟨ba.block,ba.off+1,none⟩=some (.slice b.bo bn b.bc):=by
  rw [World.cell?_setCell_other (h:=by intro q;have:=congrArg Addr.off q;simp at this)]
  exact q1
 have q2':((W3.setCell ba (.int .i64 b.op)).setCell ⟨ba.block,ba.off+1,none⟩ (.slice b.bo bn b.bc)).cell? ⟨ba.block,ba.off+2,none⟩=some (.slice b.fo fn b.fc):=by
  rw [World.cell?_setCell_other (h:=by intro q;have:=congrArg Addr.off q;simp at this),World.cell?_setCell_other (h:=by intro q;have:=congrArg Addr.off q;simp at this)]
  exact q2
 have q3':(((W3.setCell ba (.int .i64 b.op)).setCell ⟨ba.block,ba.off+1,none⟩ (.slice b.bo bn b.bc)).setCell ⟨ba.block,ba.off+2,none⟩ (.slice to1 sn tc1)).cell? ⟨ba.block,ba.off+3,none⟩=some (.bool mid):=by
  rw [World.cell?_setCell_other (h:=by intro q;have:=congrArg Addr.off q;simp at this),World.cell?_setCell_other (h:=by intro q;have:=congrArg Addr.off q;simp at this),World.cell?_setCell_other (h:=by intro q;have:=congrArg Addr.off q;simp at this)]
  exact q3
 have hS:∀ w',Below W3.heap.size W3 w'→(fun w':World=>w'.cell? ⟨K,6,none⟩=some (.slice (some ad) ln oc)∧w'.cell? ⟨w.heap.size+1,0,none⟩=some (.int .i64 b.op)∧w'.cell? ⟨w.heap.size+1,1,none⟩=some (.slice b.bo bn b.bc)∧w'.cell? ⟨w.heap.size+1,2,none⟩=some (.slice to1 sn tc1)∧w'.cell? ⟨w.heap.size+1,3,none⟩=some (.bool true)) w':=fun w' hb=>⟨Zj4 hb k63,(HX3.out.old hb).cell 0 rfl,(HX3.out.old hb).cell 1 rfl,(HX3.out.old hb).cell 2 rfl,(HX3.out.old hb).cell 3 rfl⟩
 have HS:=Zh hS
 have HE1:=Zh e1
 have HE2:=Zh e2
 have HE3:=Zh e3
 clear hS hx3 hb3 hu3 hn2 ht3 hW3 k5 k6 x0 x1 x2 x3 k51 k61 i0 f2 f3 c2 c3 k63 e1 e2 e3
 refine rE (fun w':World=>w'.cell? ⟨K,6,none⟩=some (.slice (some ad) ln oc)∧w'.cell? ⟨w.heap.size+1,0,none⟩=some (.int .i64 b.op)∧w'.cell? ⟨w.heap.size+1,1,none⟩=some (.slice b.bo bn b.bc)∧w'.cell? ⟨w.heap.size+1,2,none⟩=some (.slice to1 sn tc1)∧w'.cell? ⟨w.heap.size+1,3,none⟩=some (.bool true)) 7 (oL [0,1,2,3,4,5,6]) (HS.out _ (Below.drew (Below.refl _ _))) ?_
 repeat refine pE ?_
 rw [←HBa.out]
 refine sE fun Kv hK=>?_
 go_simp
 refine hK _ _ ?_
 clear hK Kv
 obtain ⟨W4,hW4⟩:∃ W4,W4=(((W3.drew.setCell ba (.int .i64 b.op)).setCell ⟨ba.block,ba.off+1,none⟩ (.slice b.bo bn b.bc)).setCell ⟨ba.block,ba.off+2,none⟩ (.slice to1 sn tc1)).setCell ⟨ba.block,ba.off+3,none⟩ (.bool true):=⟨_,rfl⟩
 have HW4:=Zh (show W4=((((W3.setCell ba (.int .i64 b.op)).setCell ⟨ba.block,ba.off+1,none⟩ (.slice b.bo bn b.bc)).setCell ⟨ba.block,ba.off+2,none⟩ (.slice to1 sn tc1)).setCell ⟨ba.block,ba.off+3,none⟩ (.bool true)).drew from hW4.trans rfl)
 rw [HBv.out] at hW4
 have hgW3:g<W3.heap.size:=Nat.lt_of_lt_of_le hgl HB3.out.size
 have hu34:Upd g g W3 W4:=by rw [hW4];exact ((((Upd.refl g g W3).drew.setB _ _).setB _ _).setB _ _).setB _ _
 have hu4:Upd K g w W4:=(Upd.of HB3.out).trans ⟨hu34.os,hu34.tape,hu34.output,hu34.size,fun k h1 _ h3=>hu34.block k h1 h3 h3⟩
 have hbg:ZeP W4 b.bo b.bc o.beg:=HBr.out.bg.upd hu4 HH.out.pk.noTy hgT
 have hx4:W4.cell? ⟨w.heap.size+1,1,none⟩=some (.slice b.bo bn b.bc):=by
  rw [World.cell?_of_block (w:=W3) (hu34.block (w.heap.size+1) HX3.out.lt (by omega) (by omega))]
  exact HX3.out.cell 1 rfl
 have hp4:Pk W4 K h m (.slice lo ls.length lc) (.slice so s.stk.length sc) (.slice oo bs.length oc):=by
  have h9:=HH.out.pk.old HB3.out
  unfold Pk Blk
  rw [hu34.block K (Blk.lt h9) (by omega) (by omega)]
  exact h9
 have HP4:=Zh hp4
 have HBg:=Zh hbg
 have HEE4:=Zh (HEE.out W3 W4)
 have HWW:=Zh hW4
 clear hu34 hu4 hbg hp4 hW4 HEE q0 q1 q2 q3 q1' q2' q3' g0 g1 g2 g3
 rw [←HW4.out]
 go_wp2_with (go_at_call 200;rw [HBn.out];refine (ZjT _ b.bo b.bc o.beg HBg.out.1 (by omega)).mono ?_;rintro r w5 ⟨⟨to2,tc2,rfl,hown5⟩,hb5⟩;have HO5:=Zh hown5;have HB5:=Zh hb5;clear hown5 hb5;have f5:=(Blk.old HP4.out HB5.out).frozen 5;have c5:=(Blk.old HP4.out HB5.out).cell 5 (v:=.slice so s.stk.length sc) rfl)
 go_ret
 refine HEE4.out w5 HB3.out to1 tc1 HT3.out ?_ HB5.out to2 tc2 (ZeP.own HO5.out)
 rw [HWW.out,HSn.out,HBn.out,HBr.out.bn]
theorem Zlk (hop:i.op=35) (hs:s.opn=r++[o]) (hd:s.opn.length≤6) (hsl:s.stk.length≤12):
  Calls Tryz.prog 270 #[.pointer (some ⟨K,0,none⟩),.agg #[.int .i64 35,.int .i64 i.a,.int .i64 i.b]] w (P6 w0 w K h m lo lc ls oo (ZeC m ls i s)):=by
 obtain ⟨br,b,hb,hl⟩:=H.last hs
 obtain ⟨hbr,g,hoo,hgK,hgN,hgl,hgT,hoc,hown⟩:=H.top hs hb hl
 obtain ⟨ba,hba,hbv,x0,x1,x2,x3,hfz⟩:=Zlf hown
 have k5:w.cell? ⟨K,5,none⟩=some (.slice so s.stk.length sc):=Blk.cell H.pk 5 rfl
 have k6:w.cell? ⟨K,6,none⟩=some (.slice oo bs.length oc):=Blk.cell H.pk 6 rfl
 have kl:=Blk.lt H.pk
 obtain ⟨ad,had⟩:∃ a,a=(⟨g,0,none⟩:Addr):=⟨_,rfl⟩
 rw [hoo,←had] at k6
 rw [←had] at hba
 obtain ⟨n,hn⟩:∃ n,n=br.length:=⟨_,rfl⟩
 obtain ⟨ln,hln⟩:∃ n,n=bs.length:=⟨_,rfl⟩
 have hl1:ln=n+1:=by rw [hln,hn,hb];simp
 rw [←hln] at k6
 rw [←hn] at hba
 have hlt:n<ln:=by omega
 have hlt2:(n:Int) < ln:=by omega
 have hol:=H.op.len
 have hw1:IntKind.i64.wrap ((ln:Int)-1)=(n:Int):=by rw [show (ln:Int)-1=(n:Int) by omega];exact IntWalk.i64_in _ (by omega)
 have hw2:(ln:Int)-1=(n:Int):=by omega
 have hw3:IntKind.i64.wrap (n:Int)=(n:Int):=IntWalk.i64_in _ (by omega)
 obtain ⟨bn,hbn⟩:∃ n,n=b.bn:=⟨_,rfl⟩
 obtain ⟨fn,hfn⟩:∃ n,n=b.fn:=⟨_,rfl⟩
 obtain ⟨mid,hmid⟩:∃ n,n=b.mid:=⟨_,rfl⟩
 rw [←hbn] at x1
 rw [←hfn] at x2
 rw [←hmid] at x3
 have HBn:=Zh (hbn.trans hbr.bn)
 have HFn:=Zh (hfn.trans hbr.fn)
 have HMi:=Zh (hmid.trans hbr.mid)
 obtain ⟨sn,hsn⟩:∃ n,n=s.stk.length:=⟨_,rfl⟩
 rw [←hsn] at k5
 have HSn:=Zh hsn
 have HBa:=Zh hba
 have HBr:=Zh hbr
 have HH:=Zh H
 obtain ⟨W1,hW1⟩:∃ W1,W1=((w.alloc (.cells #[.int .i64 35,.int .i64 i.a,.int .i64 i.b] 78)).alloc (.cells #[.int .i64 b.op,.slice b.bo bn b.bc,.slice b.fo fn b.fc,.bool mid] 285)):=⟨_,rfl⟩
 have hb1:Below w.heap.size w W1:=by rw [hW1];exact bE
 have hbi:Blk W1 w.heap.size #[.int .i64 35,.int .i64 i.a,.int .i64 i.b] 78:=by rw [hW1];exact (Blk.new w _ _).alloc _
 have hbo:Blk W1 (w.heap.size+1) #[.int .i64 b.op,.slice b.bo bn b.bc,.slice b.fo fn b.fc,.bool mid] 285:=by rw [hW1];exact Blk.new' (w:=w.alloc _) _ _ (by simp)
 have HB1:=Zh hb1
 have HBi:=Zh hbi
 have HBo:=Zh hbo
 have HW1:=Zh hW1
 have h0a:=(Below.refl w.heap.size w).alloc (Nat.le_refl _) (.cells #[.int .i64 35,.int .i64 i.a,.int .i64 i.b] 78)
 have kk6:=Zj4 h0a k6
 have xx0:=Zj4 h0a x0
 have xx1:=Zj4 h0a x1
 have xx2:=Zj4 h0a x2
 have xx3:=Zj4 h0a x3
 have k61:=Zj4 hb1 k6
 have k51:=Zj4 hb1 k5
 obtain ⟨want,hwant⟩:∃ l,l=if o.mid then o.past else o.beg:=⟨_,rfl⟩
 have HEY:=Zh (fun (W3:World) (h3:Below w.heap.size w W3) (hw:s.stk=if o.mid then o.past else o.beg)=>Zlh (i:=i) H hop hs hb hl h3 hw)
 have HEN:=Zh (fun (W3:World) (h3:Below w.heap.size w W3) (hne:s.stk≠want)=>Zli (oo:=oo) (i:=i) (w0:=w0) (w:=w) (K:=K) (h:=h) (m:=m) (lo:=lo) (lc:=lc) (ls:=ls) H hop hs hwant hne h3)
 rw [←hn] at HEY
 have hoc2:ln≤oc:=by omega
 have hoc3:(n:Int)≤oc:=by omega
 have hoc4:¬ (oc:Int) < (n:Int):=by omega
 have HNt:=Zh (H.pk)
 have HWt:=Zh hwant
 have HTs:=Zh H.ts
 have f6:∀ w',Below w.heap.size w w'→w'.frozen? ⟨K,6,none⟩=false:=fun w' hb'=>(H.pk.old hb').frozen 6
 have HF6:=Zh f6
 have HK:=Zh (show ∀ w',Below W1.heap.size W1 w'→w'.cell? ⟨K,5,none⟩=some (.slice so sn sc)∧w'.cell? ⟨K,6,none⟩=some (.slice (some ad) ln oc) from fun w' hb=>⟨Zj4 hb k51,Zj4 hb k61⟩)
 rw [hba] at xx0 xx1 xx2 xx3
 rw [hoo,←had] at HEY HEN ⊢
 clear hb1 hbi hbo hW1 hbn hfn hmid hbr hs hb hl hop H hown hfz hoo had hn hln hl1 hol hsn h0a hba hbv hwant f6 hoc
 rcases mid with _|_
 ·have hwt:want=o.beg:=by
   exact k74
  have HWn:=Zh (show bn=want.length by rw [hwt];exact HBn.out)
  have HRw:=Zh (show ∀ w',Below w.heap.size w w'→Zar w' b.bo b.bc want from fun w' hb'=>by rw [hwt];exact HBr.out.bg.1.old hb')
  go_enter Tryz.func270,Tryz.ntmps270
  go_upto_region 3 with fail
  rw [←HW1.out]
  clear kk6 xx0 xx1 xx2 xx3
  have i0:=HBi.out.cell 0 (v:=.int .i64 35) rfl
  have o1:=HBo.out.cell 1 (v:=.slice b.bo bn b.bc) rfl
  have o2:=HBo.out.cell 2 (v:=.slice b.fo fn b.fc) rfl
  have o3:=HBo.out.cell 3 (v:=.bool false) rfl
  by_cases hln2:sn=bn
  ·have hbe:((sn:Int) != bn)=false:=by simp;omega
   have hST:=ZjQ s.stk want so b.bo sc b.bc W1 (HTs.out.1.old HB1.out) (HRw.out _ HB1.out) (by omega)
   exact k22
  ·have hbe:((sn:Int) != bn)=true:=by simp;omega
   exact k55
 ·have hwt:want=o.past:=by
   exact k74
  have HWn:=Zh (show fn=want.length by rw [hwt];exact HFn.out)
  have HRw:=Zh (show ∀ w',Below w.heap.size w w'→Zar w' b.fo b.fc want from fun w' hb'=>by rw [hwt];exact HBr.out.ps.1.old hb')
  go_enter Tryz.func270,Tryz.ntmps270
  go_upto_region 3 with fail
  rw [←HW1.out]
  clear kk6 xx0 xx1 xx2 xx3
  have i0:=HBi.out.cell 0 (v:=.int .i64 35) rfl
  have o1:=HBo.out.cell 1 (v:=.slice b.bo bn b.bc) rfl
  have o2:=HBo.out.cell 2 (v:=.slice b.fo fn b.fc) rfl
  have o3:=HBo.out.cell 3 (v:=.bool true) rfl
  by_cases hln2:sn=fn
  ·have hbe:((sn:Int) != fn)=false:=by simp;omega
   have hST:=ZjQ s.stk want so b.fo sc b.fc W1 (HTs.out.1.old HB1.out) (HRw.out _ HB1.out) (by omega)
   exact k22
  ·have hbe:((sn:Int) != fn)=true:=by simp;omega
   exact k55
end
end
section
open Go.RowKit
section
variable {w:World}{K:Nat}{h:Hd}{m:Md}{lo:Option Addr}{lc:Nat}{ls:List Ty}{S O:Value}(H:Pk w K h m (.slice lo ls.length lc) S O)(HM:Zay w h m)(hd:Zc3 m m.cl.length)(ht:Zar w lo lc ls){ia ib:Int}{la:Option Addr}{lcap:Nat}
include w K h m lo lc ls S O H HM hd ht ia ib la lcap
theorem Zll (hr:Zar w la lcap ([]:List Ty)) (hi0:0≤ia) (hlt:ia<ls.length):
  Calls Tryz.prog 273 #[.pointer (some ⟨K,0,none⟩),.agg #[.int .i64 2,.int .i64 ia,.int .i64 ib],.slice la 0 lcap] w (Zj6 w (ZeB m ls ⟨2,ia,ib⟩ [])):=by
 obtain ⟨ia,rfl⟩:∃ d:Nat,ia=d:=⟨ia.toNat,by omega⟩
 have hlt':ia<ls.length:=by omega
 obtain ⟨la',hlo,u0,u1⟩:=Zaz ht hlt'
 obtain ⟨⟨uk,uc⟩,hu⟩:∃ u,u=ls.getD ia default:=⟨_,rfl⟩
 have hls:ls[((ia:Int)).toNat]?=some ⟨uk,uc⟩:=by rw [Int.toNat_natCast,hu];exact getD_some hlt'
 rw [←hu] at u0 u1
 dsimp only at u0 u1
 rw [hlo] at H
 clear hu hlo
 have HPv:=Zh (show ZeB m ls ⟨2,ia,ib⟩ []=some ⟨uk,uc⟩ from by rw [pv2 rfl];exact hls)
 have hge:decide ((ls.length:Int)≤(ia:Int))=false:=by simp;omega
 clear hls
 obtain ⟨kl,k0,k1,k2,k3,k4⟩:=H.cells
 obtain ⟨W1,HW1,HBw,HX,HS,hrl⟩:=Zkf w 2 ia ib (l:=[(⟨K,4,none⟩,.slice (some la') ls.length lc),((la'.add (ia*2)),.int .i64 uk),(⟨(la'.add (ia*2)).block,(la'.add (ia*2)).off+1,none⟩,.int .i64 uc)]) ⟨k4,u0,u1,trivial⟩
 have HB0:=Zh (Below.refl W1.heap.size W1)
 have hne:=ZdW
 have heq:=ZdV
 have hgu:=ZdX
 clear H HM ht hr k0 k1 k2 k3 k4 u0 u1
 go_enter Tryz.func273,Tryz.ntmps273
 go_upto_region 5 with fail
 rw [←HW1.out]
 refine kO HS.out (oL [0,1,2,3,4,5,6,7]) (Upd.of HB0.out).drew ?_
 have HB1:=Zh HB0.out.drew
 repeat refine pO ?_
 refine Zd5 ?_
 go_wp2_with fail
 refine kO HS.out (oL [0,1,2,3,4,5,6,7,108,9]) (Upd.of HB1.out).drew ?_
 have HB2:=Zh HB1.out.drew
 repeat refine pO ?_
 obtain ⟨y0,y1,g0,g1⟩:=Zki (HX.out.old HB0.out)
 refine oO fun Kv hK=>?_
 go_simp
 refine hK _ _ ⟨HS.out _ (((Upd.of HB2.out).set 0 _).set 1 _),?_⟩
 clear hK Kv
 repeat refine pO ?_
 refine Zd5 ?_
 go_wp2
 refine bodyPost_ret (v:=.tuple #[.agg #[.int .i64 uk,.int .i64 uc],.bool true]) (by simp [results,Tryz.results273,go_sem,y0,y1]) rfl ?_
 exact k88
theorem Zlm (hr:Zar w la lcap ([]:List Ty)) (h1:ia=3) (h2:ib=0):
  Calls Tryz.prog 273 #[.pointer (some ⟨K,0,none⟩),.agg #[.int .i64 12,.int .i64 ia,.int .i64 ib],.slice la 0 lcap] w (Zj6 w (ZeB m ls ⟨12,ia,ib⟩ [])):=by
 subst h1 h2
 have HPv:=Zh (show ZeB m ls ⟨12,3,0⟩ []=some ⟨3,0⟩ from ZfW rfl)
 exact k58
theorem Zln {a:Ty} (hr:Zar w la lcap ([a]:List Ty)) (hta:a.k=2→0≤a.c∧a.c<m.cl.length) (hi0:0≤ia) (hlt:ia<m.st.length) (hst:∀ t∈m.st,Zfi m t):
  Calls Tryz.prog 273 #[.pointer (some ⟨K,0,none⟩),.agg #[.int .i64 23,.int .i64 ia,.int .i64 ib],.slice la 1 lcap] w (Zj6 w (ZeB m ls ⟨23,ia,ib⟩ [a])):=by
 obtain ⟨ia,rfl⟩:∃ d:Nat,ia=d:=⟨ia.toNat,by omega⟩
 have hlt':ia<m.st.length:=by omega
 have hlt2:(ia:Int) < m.st.length:=by omega
 obtain ⟨sa,hso,u0,u1⟩:=Zaz HM.st hlt'
 obtain ⟨⟨uk,uc⟩,hu⟩:∃ u,u=m.st.getD ia default:=⟨_,rfl⟩
 have hls:m.st.getD ((ia:Int)).toNat default=⟨uk,uc⟩:=by rw [Int.toNat_natCast,hu]
 rw [←hu] at u0 u1
 dsimp only at u0 u1
 have hut:(⟨uk,uc⟩:Ty).k=2→0≤(⟨uk,uc⟩:Ty).c:=fun hk=>(ZfF (hst ⟨uk,uc⟩ (by rw [hu];exact ZfU _ hlt')) (.inl hk)).1
 have HPv:=Zh (show ZeB m ls ⟨23,ia,ib⟩ [a]=if Zet m a ⟨uk,uc⟩=true then some ty0 else none from by rw [Zf7 rfl];dsimp only;rw [hls];rfl)
 clear hls hu hst
 obtain ⟨kl,k0,k1,k2,k3,k4⟩:=H.cells
 obtain ⟨ad,rfl,a0,a1⟩:=Zka hr
 obtain ⟨ak,ac⟩:=a
 dsimp only at a0 a1
 have k1':=k1
 rw [hso] at k1'
 have hso2:=hso
 obtain ⟨ft,hft⟩:∃ x,x=Zet m ⟨ak,ac⟩ ⟨uk,uc⟩:=⟨_,rfl⟩
 have HFi:=Zh (show ∀ w',Below w.heap.size w w'→Calls Tryz.prog 274 #[.agg #[.slice h.co m.cl.length h.cc,.slice h.so m.st.length h.sc,.slice h.eo m.me.length h.ec,.int .i64 m.sel],.agg #[.int .i64 ak,.int .i64 ac],.agg #[.int .i64 uk,.int .i64 uc]] w' (Ret w' (.bool ft)) from fun w' hb'=>by have:=ZjS m h ⟨ak,ac⟩ ⟨uk,uc⟩ w' (HM.old hb') hta hut hd;rw [←hft] at this;exact this)
 have Hft:=Zh hft
 clear hft
 rw [hso] at HFi
 obtain ⟨W1,HW1,HBw,HX,HS,hrl⟩:=Zkf w 23 ia ib (l:=[(ad,.int .i64 ak),(⟨ad.block,ad.off+1,none⟩,.int .i64 ac),(⟨K,0,none⟩,.slice h.co m.cl.length h.cc),(⟨K,1,none⟩,.slice (some sa) m.st.length h.sc),(⟨K,2,none⟩,.slice h.eo m.me.length h.ec),(⟨K,3,none⟩,.int .i64 m.sel),((sa.add (ia*2)),.int .i64 uk),(⟨(sa.add (ia*2)).block,(sa.add (ia*2)).off+1,none⟩,.int .i64 uc)]) ⟨a0,a1,k0,k1',k2,k3,u0,u1,trivial⟩
 have HB0:=Zh (Below.refl W1.heap.size W1)
 have hne:=ZdW
 have heq:=ZdV
 have hgu:=ZdX
 clear hso hso2
 clear H HM ht hr k0 k1 k2 k3 k4 a0 a1 k1' u0 u1
 go_enter Tryz.func273,Tryz.ntmps273
 go_upto_region 34 with fail
 rw [←HW1.out]
 refine kO HS.out (oL [0,1,2,3,4,5,6,7,8,9,10,11,12,13,14,15,16,117,118,19]) (Upd.of HB0.out).drew ?_
 exact k25
theorem Zlo {a:Ty} (hr:Zar w la lcap ([a]:List Ty)) (h1:a=Zeu) (hi0:0≤ib) (hlt:ib<ls.length):
  Calls Tryz.prog 273 #[.pointer (some ⟨K,0,none⟩),.agg #[.int .i64 30,.int .i64 ia,.int .i64 ib],.slice la 1 lcap] w (Zj6 w (ZeB m ls ⟨30,ia,ib⟩ [a])):=by
 obtain ⟨ib,rfl⟩:∃ d:Nat,ib=d:=⟨ib.toNat,by omega⟩
 have hlt':ib<ls.length:=by omega
 obtain ⟨la',hlo,u0,u1⟩:=Zaz ht hlt'
 obtain ⟨⟨uk,uc⟩,hu⟩:∃ u,u=ls.getD ib default:=⟨_,rfl⟩
 have hls:ls[((ib:Int)).toNat]?=some ⟨uk,uc⟩:=by rw [Int.toNat_natCast,hu];exact getD_some hlt'
 rw [←hu] at u0 u1
 dsimp only at u0 u1
 rw [hlo] at H
 clear hu hlo
 have HPv:=Zh (show ZeB m ls ⟨30,ia,ib⟩ [a]=if decide ((⟨uk,uc⟩:Ty)=Zeu)=true then some ty0 else none from by rw [Zgc rfl];dsimp only;rw [hls,h1];simp)
 have hlt3:decide ((ib:Int) < (ls.length:Int))=true:=by simp;omega
 clear hls
 obtain ⟨kl,k0,k1,k2,k3,k4⟩:=H.cells
 obtain ⟨ad,rfl,a0,a1⟩:=Zka hr
 obtain ⟨ak,ac⟩:=a
 obtain ⟨rfl,rfl⟩:ak=1∧ac=0:=by cases h1;exact ⟨rfl,rfl⟩
 dsimp only at a0 a1
 obtain ⟨W1,HW1,HBw,HX,HS,hrl⟩:=Zkf w 30 ia ib (l:=[(ad,.int .i64 1),(⟨ad.block,ad.off+1,none⟩,.int .i64 0),(⟨K,4,none⟩,.slice (some la') ls.length lc),((la'.add (ib*2)),.int .i64 uk),(⟨(la'.add (ib*2)).block,(la'.add (ib*2)).off+1,none⟩,.int .i64 uc)]) ⟨a0,a1,k4,u0,u1,trivial⟩
 have HB0:=Zh (Below.refl W1.heap.size W1)
 have hne:=ZdW
 have heq:=ZdV
 have hgu:=ZdX
 clear H HM ht hr k0 k1 k2 k3 k4 a0 a1 u0 u1
 go_enter Tryz.func273,Tryz.ntmps273
 go_upto_region 39 with fail
 rw [←HW1.out]
 refine kO HS.out (oL [0,1,2,3,104,5,6,7,8,9,10,11,12,13,14,15,16,17,18,19,20,21,22,23,24,125,26,27,128,29]) (Upd.of HB0.out).drew ?_
 have HB1:=Zh HB0.out.drew
 repeat refine pO ?_
 refine oO fun Kv hK=>?_
 go_simp
 refine (Zj9 _).mono ?_
 rintro r w5 ⟨rfl,hb5⟩
 have HB2:=Zh (Zaf HB1.out hb5)
 refine hK _ _ ⟨HS.out _ (Upd.of HB2.out),?_⟩
 clear hK Kv hb5
 repeat refine pO ?_
 refine oO fun Kv hK=>?_
 go_simp
 refine (Zj9 _).mono ?_
 rintro r w6 ⟨rfl,hb6⟩
 have HB3:=Zh (Zaf HB2.out hb6)
 refine hK _ _ ⟨HS.out _ (Upd.of HB3.out),?_⟩
 clear hK Kv hb6
 repeat refine pO ?_
 obtain ⟨y0,y1,g0,g1⟩:=Zki (HX.out.old HB3.out)
 refine oO fun Kv hK=>?_
 go_simp
 refine hK _ _ ⟨HS.out _ (((Upd.of HB3.out).set 0 _).set 1 _),?_⟩
 clear hK Kv
 repeat refine pO ?_
 refine Zd5 ?_
 go_wp2
 refine bodyPost_ret (v:=.tuple #[.agg #[.int .i64 0,.int .i64 0],.bool (decide ((⟨uk,uc⟩:Ty)=Zeu))]) (by simp [results,Tryz.results273,go_sem,y0,y1]) rfl ?_
 exact Zko HPv.out rfl (Zkj HBw.out HB3.out)
theorem Zlp (hr:Zar w la lcap ([]:List Ty)):
  Calls Tryz.prog 273 #[.pointer (some ⟨K,0,none⟩),.agg #[.int .i64 32,.int .i64 ia,.int .i64 ib],.slice la 0 lcap] w (Zj6 w (ZeB m ls ⟨32,ia,ib⟩ [])):=by
 have HPv:=Zh (show ZeB m ls ⟨32,ia,ib⟩ []=some ty0 from pvx (by simp))
 exact k12
theorem Zlq {a b:Ty} (hr:Zar w la lcap ([a,b]:List Ty)) (h1:a.k≠2):
  Calls Tryz.prog 338 #[.pointer (some ⟨K,0,none⟩),.agg #[.int .i64 18,.int .i64 ia,.int .i64 ib],.slice la 2 lcap] w (Zj6 w (ZeB m ls ⟨18,ia,ib⟩ [a,b])):=by
 have HPv:=Zh (show ZeB m ls ⟨18,ia,ib⟩ [a,b]=none from by rw [Zf2 rfl];rw [show Zey m ([a,b].getD 0 default) ia=none from by show Zey m a ia=none;unfold Zey;rw [if_neg h1]];rfl)
 obtain ⟨ad,rfl,a0,a1,b0,b1⟩:=Zkb hr
 obtain ⟨ak,ac⟩:=a
 obtain ⟨bk,bc⟩:=b
 dsimp only at a0 a1 b0 b1
 have hk:(ak != 2)=true:=by simpa using h1
 clear h1
 obtain ⟨W1,HW1,HBw,HX,HBt,HBi,HS,hrl⟩:=Zkg w 18 ia ib ak ac (l:=[(ad,.int .i64 ak),(⟨ad.block,ad.off+1,none⟩,.int .i64 ac),(⟨ad.block,ad.off+2,none⟩,.int .i64 bk),(⟨ad.block,ad.off+3,none⟩,.int .i64 bc)]) ⟨a0,a1,b0,b1,trivial⟩
 have HB0:=Zh (Below.refl W1.heap.size W1)
 have hne:=ZdW
 have heq:=ZdV
 have hgu:=ZdX
 have hal:=Zac a0
 clear H HM ht hr b0 b1
 go_enter Tryz.func338,Tryz.ntmps338
 go_upto_region 8 with fail
 exact k8
theorem Zlr {a:Ty} (hr:Zar w la lcap ([a]:List Ty)) (h1:a.k≠3) (h2:a.k≠4):
  Calls Tryz.prog 338 #[.pointer (some ⟨K,0,none⟩),.agg #[.int .i64 21,.int .i64 ia,.int .i64 ib],.slice la 1 lcap] w (Zj6 w (ZeB m ls ⟨21,ia,ib⟩ [a])):=by
 have hel:Zez a=none:=by unfold Zez;rw [if_neg h1,if_neg h2]
 have HPv:=Zh (show ZeB m ls ⟨21,ia,ib⟩ [a]=none from by rw [Zf5 rfl,show Zez ([a].getD 0 default)=none from hel];rfl)
 clear hel
 obtain ⟨ad,rfl,a0,a1⟩:=Zka hr
 obtain ⟨ak,ac⟩:=a
 dsimp only at a0 a1
 have hk3:(ak == 3)=false:=by simpa using h1
 have hk4:(ak == 4)=false:=by simpa using h2
 clear h1 h2
 obtain ⟨W1,HW1,HBw,HX,HBt,HBi,HS,hrl⟩:=Zkg w 21 ia ib ak ac (l:=[(ad,.int .i64 ak),(⟨ad.block,ad.off+1,none⟩,.int .i64 ac)]) ⟨a0,a1,trivial⟩
 have HB0:=Zh (Below.refl W1.heap.size W1)
 have hne:=ZdW
 have heq:=ZdV
 have hgu:=ZdX
 have hal:=Zac a0
 clear H HM ht hr
 go_enter Tryz.func338,Tryz.ntmps338
 go_upto_region 12 with fail
 rw [←HW1.out]
 clear a0 a1 hal
 refine kO HS.out (oL [1,2,3,100,4,5,6,7,8,109,10]) (Upd.of HB0.out).drew ?_
 have HB1:=Zh HB0.out.drew
 repeat refine pO ?_
 refine oO fun Kv hK=>?_
 go_simp
 refine (Zj9 _).mono ?_
 rintro r w5 ⟨rfl,hb5⟩
 have HB2:=Zh (Zaf HB1.out hb5)
 refine hK _ _ ⟨HS.out _ (Upd.of HB2.out),?_⟩
 clear hK Kv hb5
 repeat refine pO ?_
 obtain ⟨y0,y1,g0,g1⟩:=Zki (HX.out.old HB2.out)
 refine oO fun Kv hK=>?_
 go_simp
 refine hK _ _ ⟨HS.out _ (((Upd.of HB2.out).set 0 _).set 1 _),?_⟩
 clear hK Kv
 repeat refine pO ?_
 refine Zd5 ?_
 go_wp2
 refine bodyPost_ret (v:=.tuple #[.agg #[.int .i64 1,.int .i64 0],.bool false]) (by simp [results,Tryz.results338,go_sem,y0,y1]) rfl ?_
 exact Zkl HPv.out (Zkj HBw.out HB2.out)
theorem Zls {a b:Ty} (hr:Zar w la lcap ([a,b]:List Ty)) (h0:a.k=3) (h1:b≠Zeu):
  Calls Tryz.prog 338 #[.pointer (some ⟨K,0,none⟩),.agg #[.int .i64 19,.int .i64 ia,.int .i64 ib],.slice la 2 lcap] w (Zj6 w (ZeB m ls ⟨19,ia,ib⟩ [a,b])):=by
 have HPv:=Zh (show ZeB m ls ⟨19,ia,ib⟩ [a,b]=none from by rw [Zf3 rfl];exact if_neg h1)
 obtain ⟨ad,rfl,a0,a1,b0,b1⟩:=Zkb hr
 obtain ⟨ak,ac⟩:=a
 obtain ⟨bk,bc⟩:=b
 dsimp only at a0 a1 b0 b1
 obtain rfl:ak=3:=h0
 have hd0:(!decide (bk=1)||!decide (bc=0))=true:=by
  exact k29
 clear h1
 obtain ⟨W1,HW1,HBw,HX,HBt,HBi,HS,hrl⟩:=Zkg w 19 ia ib 3 ac (l:=[(ad,.int .i64 3),(⟨ad.block,ad.off+1,none⟩,.int .i64 ac),(⟨ad.block,ad.off+2,none⟩,.int .i64 bk),(⟨ad.block,ad.off+3,none⟩,.int .i64 bc)]) ⟨a0,a1,b0,b1,trivial⟩
 have HB0:=Zh (Below.refl W1.heap.size W1)
 have hne:=ZdW
 have heq:=ZdV
 have hgu:=ZdX
 have hal:=Zac a0
 clear H HM ht hr b0 b1
 exact k20
theorem Zlt {a b d:Ty} (hr:Zar w la lcap ([a,b,d]:List Ty)) (h0:a.k=3) (h1:b≠Zeu):
  Calls Tryz.prog 338 #[.pointer (some ⟨K,0,none⟩),.agg #[.int .i64 20,.int .i64 ia,.int .i64 ib],.slice la 3 lcap] w (Zj6 w (ZeB m ls ⟨20,ia,ib⟩ [a,b,d])):=by
 have HPv:=Zh (show ZeB m ls ⟨20,ia,ib⟩ [a,b,d]=none from by rw [Zf4 rfl];rw [show (decide ([a,b,d].getD 1 default=Zeu)&&ZeA m ([a,b,d].getD 2 default) (Zez ([a,b,d].getD 0 default)))=false from by rw [show [a,b,d].getD 1 default=b from rfl,decide_eq_false h1];rfl];rfl)
 obtain ⟨kl,k0,k1,k2,k3,k4⟩:=H.cells
 obtain ⟨ad,rfl,a0,a1,b0,b1,d0,d1⟩:=Zkc hr
 obtain ⟨ak,ac⟩:=a
 obtain ⟨bk,bc⟩:=b
 obtain ⟨dk,dc⟩:=d
 dsimp only at a0 a1 b0 b1 d0 d1
 obtain rfl:ak=3:=h0
 have hd0:(!decide (bk=1)||!decide (bc=0))=true:=by
  exact k29
 clear h1
 obtain ⟨W1,HW1,HBw,HX,HBt,HBi,HS,hrl⟩:=Zkg w 20 ia ib 3 ac (l:=[(ad,.int .i64 3),(⟨ad.block,ad.off+1,none⟩,.int .i64 ac),(⟨ad.block,ad.off+2,none⟩,.int .i64 bk),(⟨ad.block,ad.off+3,none⟩,.int .i64 bc),(⟨ad.block,ad.off+4,none⟩,.int .i64 dk),(⟨ad.block,ad.off+5,none⟩,.int .i64 dc),(⟨K,0,none⟩,.slice h.co m.cl.length h.cc),(⟨K,1,none⟩,.slice h.so m.st.length h.sc),(⟨K,2,none⟩,.slice h.eo m.me.length h.ec),(⟨K,3,none⟩,.int .i64 m.sel)]) ⟨a0,a1,b0,b1,d0,d1,k0,k1,k2,k3,trivial⟩
 have HB0:=Zh (Below.refl W1.heap.size W1)
 have hne:=ZdW
 have heq:=ZdV
 have hgu:=ZdX
 have hal:=Zac a0
 clear H HM ht hr k0 k1 k2 k3 k4 b0 b1 d0 d1
 exact k20
end
end
end Go.Proofs.YtcfjblcgceednaaGreat
