/- Joined texts. The first: ref06: what an instruction pushes, operation by operation. -/
import Derived.Test.YtcfjblcgceednaaGreatG18
set_option linter.all false
set_option linter.unusedVariables false
set_option linter.unusedSimpArgs false
set_option maxRecDepth 100000
set_option maxHeartbeats 4000000
namespace Go.Proofs.YtcfjblcgceednaaGreat
theorem k9{p:Prop}(h:p:=by
 go_enter Tryz.func338,Tryz.ntmps338
 go_upto_region 20 with (go_at_call 337;rw [←HW1.out];refine (Zj9 _).mono ?_;rintro r w4 ⟨rfl,hb4⟩;have HB4:=Zh hb4;have z0:=(HBt.out.old hb4).cell 0 (v:=.int .i64 ak) rfl;have z1:=(HBt.out.old hb4).cell 1 (v:=.int .i64 ac) rfl;have zl:=hb4.size;have zt:=HBt.out.lt;have zz:w.heap.size+2<w4.heap.size:=(by omega);clear hb4)
 clear a0 a1 hal
 clear z0 z1
 have hw5:Below W1.heap.size W1 (w4.alloc (.cells #[.int .i64 1,.int .i64 0] 76)):=bal HB4.out _
 have hx5:=Blk.new w4 #[.int .i64 1,.int .i64 0] 76
 obtain ⟨W5,hW5⟩:∃ W5,W5=w4.alloc (.cells #[.int .i64 1,.int .i64 0] 76):=⟨_,rfl⟩
 rw [←hW5] at hw5 hx5 ⊢
 have HB1:=Zh hw5
 have HX5:=Zh (show Blk W5 w4.heap.size #[.int .i64 1,.int .i64 0] 76 from hx5)
 clear hW5 hw5 hx5
 refine kO HS.out (oL [0,1,2,3,4,5,6,7,8,9,10,11,112,13,14]) (Upd.of HB1.out).drew ?_
 have HB2:=Zh HB1.out.drew
 repeat refine pO ?_
 refine sO 155 (HS.out _ (Upd.of HB2.out)) ?_
 repeat refine pO ?_
 refine Zd5 ?_
 obtain ⟨y0,y1,g0,g1⟩:=Zki (HX.out.old HB1.out)
 go_wp2
 refine bodyPost_ret (v:=.tuple #[.agg #[.int .i64 0,.int .i64 0],.bool false]) (by simp [results,Tryz.results338,go_sem,y0,y1]) rfl ?_
 exact Zkl HPv.out (Zkj HBw.out HB2.out)):p:=h
theorem Zlu{p:Prop}(h:p:=by
 have HB1:=Zh HB0.out.drew
 repeat refine pO ?_
 refine oO fun Kv hK=>?_
 go_simp
 refine (HFi.out _ (Zaf HBw.out HB1.out)).mono ?_
 rintro r w5 ⟨rfl,hb5⟩
 have HB2:=Zh (Zaf HB1.out hb5)
 refine hK _ _ ⟨HS.out _ (Upd.of HB2.out),?_⟩
 clear hK Kv hb5
 repeat refine pO ?_
 obtain ⟨y0,y1,g0,g1⟩:=Zki (HX.out.old HB2.out)
 refine oO fun Kv hK=>?_
 go_simp
 refine hK _ _ ⟨HS.out _ (((Upd.of HB2.out).set 0 _).set 1 _),?_⟩
 clear hK Kv
 repeat refine pO ?_
 refine Zd5 ?_
 go_wp2
 refine bodyPost_ret (v:=.tuple #[.agg #[.int .i64 0,.int .i64 0],.bool ft]) (by simp [results,Tryz.results273,go_sem,y0,y1]) rfl ?_
 exact Zko HPv.out Hft.out (Zkj HBw.out HB2.out)):p:=h
theorem Zlv{p:Prop}(h:p:=by
 go_wp2
 refine bodyPost_ret (v:=.tuple #[.agg #[.int .i64 0,.int .i64 0],.bool false]) (by simp [results,Tryz.results273,go_sem,y0,y1]) rfl ?_
 exact Zkl HPv.out (Zkj HBw.out HB1.out)):p:=h
section
open Go.RowKit
section
variable {w:World}{K:Nat}{h:Hd}{m:Md}{lo:Option Addr}{lc:Nat}{ls:List Ty}{S O:Value}(H:Pk w K h m (.slice lo ls.length lc) S O)(HM:Zay w h m)(hd:Zc3 m m.cl.length)(ht:Zar w lo lc ls)
include w K h m lo lc ls S O H HM hd ht
theorem Zlw {ia ib:Int} {la:Option Addr} {lcap:Nat} (hr:Zar w la lcap ([]:List Ty)):
  Calls Tryz.prog 273 #[.pointer (some ⟨K,0,none⟩),.agg #[.int .i64 16,.int .i64 ia,.int .i64 ib],.slice la 0 lcap] w (Zj6 w (ZeB m ls ⟨16,ia,ib⟩ [])):=by
 have HPv:=Zh (show ZeB m ls ⟨16,ia,ib⟩ []=some ⟨4,ib⟩ from Zf0 rfl)
 clear H HM ht hr
 go_enter Tryz.func273,Tryz.ntmps273
 go_wp2
 refine bodyPost_ret (v:=.tuple #[.agg #[.int .i64 4,.int .i64 ib],.bool true]) (by simp [results,Tryz.results273,go_sem,Nat.add_zero]) rfl ?_
 exact Zkk HPv.out bE
theorem Zlx {op:Int} (hop:op=6∨op=7∨op=8∨op=9∨op=10∨op=11) {ia ib:Int} {la:Option Addr} {lcap:Nat} {a b:Ty} (hr:Zar w la lcap ([a,b]:List Ty)) (h1:a=Zeu):
  Calls Tryz.prog 273 #[.pointer (some ⟨K,0,none⟩),.agg #[.int .i64 op,.int .i64 ia,.int .i64 ib],.slice la 2 lcap] w (Zj6 w (ZeB m ls ⟨op,ia,ib⟩ [a,b])):=by
 have HPv:=Zh (show ZeB m ls ⟨op,ia,ib⟩ [a,b]=if decide (b=Zeu)=true then some Zeu else none from by rw [pv6 hop,h1];rfl)
 obtain ⟨ad,rfl,a0,a1,b0,b1⟩:=Zkb hr
 obtain ⟨ak,ac⟩:=a
 obtain ⟨rfl,rfl⟩:ak=1∧ac=0:=by cases h1;exact ⟨rfl,rfl⟩
 obtain ⟨bk,bc⟩:=b
 dsimp only at a0 a1 b0 b1
 obtain ⟨W1,HW1,HBw,HX,HS,hrl⟩:=Zkf w op ia ib (l:=[(ad,.int .i64 1),(⟨ad.block,ad.off+1,none⟩,.int .i64 0),(⟨ad.block,ad.off+2,none⟩,.int .i64 bk),(⟨ad.block,ad.off+3,none⟩,.int .i64 bc)]) ⟨a0,a1,b0,b1,trivial⟩
 have HB0:=Zh (Below.refl W1.heap.size W1)
 have hne:=ZdW
 have heq:=ZdV
 have hgu:=ZdX
 clear H HM ht hr a0 a1 b0 b1
 rcases hop with rfl|rfl|rfl|rfl|rfl|rfl
 all_goals
  go_enter Tryz.func273,Tryz.ntmps273
  go_upto_region 18 with fail
  rw [←HW1.out]
  refine kO HS.out (oL [1,2,3,100,104,5,6,7,8,9,110,11,12,113,14]) (Upd.of HB0.out).drew ?_
  have HB1:=Zh HB0.out.drew
  repeat refine pO ?_
  refine oO fun Kv hK=>?_
  go_simp
  refine (Zj9 _).mono ?_
  rintro r w5 ⟨rfl,hb5⟩
  have HB2:=Zh (Zaf HB1.out hb5)
  refine hK _ _ ⟨HS.out _ (Upd.of HB2.out),?_⟩
  clear hK Kv hb5
  repeat refine pO ?_
  refine oO fun Kv hK=>?_
  go_simp
  refine (Zj9 _).mono ?_
  rintro r w6 ⟨rfl,hb6⟩
  have HB3:=Zh (Zaf HB2.out hb6)
  refine hK _ _ ⟨HS.out _ (Upd.of HB3.out),?_⟩
  clear hK Kv hb6
  repeat refine pO ?_
  refine oO fun Kv hK=>?_
  go_simp
  refine (Zj9 _).mono ?_
  rintro r w7 ⟨rfl,hb7⟩
  have HB4:=Zh (Zaf HB3.out hb7)
  refine hK _ _ ⟨HS.out _ (Upd.of HB4.out),?_⟩
  clear hK Kv hb7
  repeat refine pO ?_
  obtain ⟨y0,y1,g0,g1⟩:=Zki (HX.out.old HB4.out)
  refine oO fun Kv hK=>?_
  go_simp
  refine hK _ _ ⟨HS.out _ (((Upd.of HB4.out).set 0 _).set 1 _),?_⟩
  clear hK Kv
  repeat refine pO ?_
  refine Zd5 ?_
  go_wp2
  refine bodyPost_ret (v:=.tuple #[.agg #[.int .i64 1,.int .i64 0],.bool (decide ((⟨bk,bc⟩:Ty)=Zeu))]) (by simp [results,Tryz.results273,go_sem,y0,y1]) rfl ?_
  exact Zko HPv.out rfl (Zkj HBw.out HB4.out)
theorem Zly {ia ib:Int} {la:Option Addr} {lcap:Nat} (hr:Zar w la lcap ([]:List Ty)) (hi0:0≤ia) (hlt:ia<m.st.length):
  Calls Tryz.prog 273 #[.pointer (some ⟨K,0,none⟩),.agg #[.int .i64 22,.int .i64 ia,.int .i64 ib],.slice la 0 lcap] w (Zj6 w (ZeB m ls ⟨22,ia,ib⟩ [])):=by
 obtain ⟨ia,rfl⟩:∃ d:Nat,ia=d:=⟨ia.toNat,by omega⟩
 have hlt':ia<m.st.length:=by omega
 have hlt2:(ia:Int) < m.st.length:=by omega
 obtain ⟨sa,hso,u0,u1⟩:=Zaz HM.st hlt'
 obtain ⟨⟨uk,uc⟩,hu⟩:∃ u,u=m.st.getD ia default:=⟨_,rfl⟩
 have hls:m.st.getD ((ia:Int)).toNat default=⟨uk,uc⟩:=by rw [Int.toNat_natCast,hu]
 rw [←hu] at u0 u1
 dsimp only at u0 u1
 have HPv:=Zh (show ZeB m ls ⟨22,ia,ib⟩ []=some ⟨uk,uc⟩ from by rw [Zf6 rfl];exact congrArg some hls)
 clear hls hu
 obtain ⟨kl,k0,k1,k2,k3,k4⟩:=H.cells
 have k1':=k1
 rw [hso] at k1'
 obtain ⟨W1,HW1,HBw,HX,HS,hrl⟩:=Zkf w 22 ia ib (l:=[(⟨K,1,none⟩,.slice (some sa) m.st.length h.sc),((sa.add (ia*2)),.int .i64 uk),(⟨(sa.add (ia*2)).block,(sa.add (ia*2)).off+1,none⟩,.int .i64 uc)]) ⟨k1',u0,u1,trivial⟩
 have HB0:=Zh (Below.refl W1.heap.size W1)
 have hne:=ZdW
 have heq:=ZdV
 have hgu:=ZdX
 clear hso
 clear H HM ht hr k0 k1 k2 k3 k4 k1' u0 u1
 go_enter Tryz.func273,Tryz.ntmps273
 go_upto_region 32 with fail
 rw [←HW1.out]
 refine kO HS.out (oL [0,1,2,3,4,5,6,7,8,109,10]) (Upd.of HB0.out).drew ?_
 have HB1:=Zh HB0.out.drew
 repeat refine pO ?_
 obtain ⟨y0,y1,g0,g1⟩:=Zki (HX.out.old HB0.out)
 refine oO fun Kv hK=>?_
 go_simp
 refine hK _ _ ⟨HS.out _ (((Upd.of HB1.out).set 0 _).set 1 _),?_⟩
 clear hK Kv
 repeat refine pO ?_
 refine Zd5 ?_
 go_wp2
 refine bodyPost_ret (v:=.tuple #[.agg #[.int .i64 uk,.int .i64 uc],.bool true]) (by simp [results,Tryz.results273,go_sem,y0,y1]) rfl ?_
 exact Zkk HPv.out (Zkj HBw.out HB1.out)
theorem Zlz {ia ib:Int} {la:Option Addr} {lcap:Nat} {a:Ty} (hr:Zar w la lcap ([a]:List Ty)) (h1:a=Zeu) (hi0:0≤ib) (hlt:¬ ib<ls.length):
  Calls Tryz.prog 273 #[.pointer (some ⟨K,0,none⟩),.agg #[.int .i64 30,.int .i64 ia,.int .i64 ib],.slice la 1 lcap] w (Zj6 w (ZeB m ls ⟨30,ia,ib⟩ [a])):=by
 have HPv:=Zh (show ZeB m ls ⟨30,ia,ib⟩ [a]=none from by rw [Zgc rfl,List.getElem?_eq_none (by dsimp only;omega)];rw [show (decide ([a].getD 0 default=Zeu)&&decide ((none:Option Ty)=some Zeu))=false from by rw [decide_eq_false (by simp:¬ (none:Option Ty)=some Zeu),Bool.and_false]];rfl)
 have hlt3:decide (ib<(ls.length:Int))=false:=by simp;omega
 obtain ⟨kl,k0,k1,k2,k3,k4⟩:=H.cells
 obtain ⟨ad,rfl,a0,a1⟩:=Zka hr
 obtain ⟨ak,ac⟩:=a
 obtain ⟨rfl,rfl⟩:ak=1∧ac=0:=by cases h1;exact ⟨rfl,rfl⟩
 dsimp only at a0 a1
 obtain ⟨W1,HW1,HBw,HX,HS,hrl⟩:=Zkf w 30 ia ib (l:=[(ad,.int .i64 1),(⟨ad.block,ad.off+1,none⟩,.int .i64 0),(⟨K,4,none⟩,.slice lo ls.length lc)]) ⟨a0,a1,k4,trivial⟩
 have HB0:=Zh (Below.refl W1.heap.size W1)
 have hne:=ZdW
 have heq:=ZdV
 have hgu:=ZdX
 clear H HM ht hr k0 k1 k2 k3 k4 a0 a1
 exact k17
theorem ZlA {ia ib:Int} {la:Option Addr} {lcap:Nat} (hr:Zar w la lcap ([]:List Ty)):
  Calls Tryz.prog 273 #[.pointer (some ⟨K,0,none⟩),.agg #[.int .i64 31,.int .i64 ia,.int .i64 ib],.slice la 0 lcap] w (Zj6 w (ZeB m ls ⟨31,ia,ib⟩ [])):=by
 have HPv:=Zh (show ZeB m ls ⟨31,ia,ib⟩ []=some ty0 from pvx (by simp))
 exact k12
theorem ZlB {ia ib:Int} {la:Option Addr} {lcap:Nat} {a:Ty} (hr:Zar w la lcap ([a]:List Ty)) (hta:a.k=2→0≤a.c∧a.c<m.cl.length) (h1:a.k=2) (hi0:0≤ia) (hlt:ia<(m.cl.getD a.c.toNat default).f.length):
  Calls Tryz.prog 338 #[.pointer (some ⟨K,0,none⟩),.agg #[.int .i64 17,.int .i64 ia,.int .i64 ib],.slice la 1 lcap] w (Zj6 w (ZeB m ls ⟨17,ia,ib⟩ [a])):=by
 obtain ⟨kl,k0,k1,k2,k3,k4⟩:=H.cells
 obtain ⟨ad,rfl,a0,a1⟩:=Zka hr
 obtain ⟨ak,ac⟩:=a
 dsimp only at a0 a1
 dsimp only at hlt
 obtain rfl:ak=2:=h1
 obtain ⟨hc0,hcl⟩:=hta rfl
 dsimp only at hc0 hcl
 obtain ⟨c,rfl⟩:∃ d:Nat,ac=d:=⟨ac.toNat,by omega⟩
 have hcl':c<m.cl.length:=by omega
 have hcl2:(c:Int) < m.cl.length:=by omega
 obtain ⟨ca,hco,-,-,e2,-⟩:=HM.cls hcl'
 have hfr:=HM.f c hcl'
 obtain ⟨fs,hfs⟩:∃ l,l=(m.cl.getD c default).f:=⟨_,rfl⟩
 have hfld:Zey m ⟨2,(c:Int)⟩ ia=fs[ia.toNat]?:=by rw [hfs];show (if (2:Int)=2 then (m.cl.getD ((c:Int)).toNat default).f[ia.toNat]? else none)=_;rw [if_pos rfl,Int.toNat_natCast]
 rw [←hfs] at e2 hfr
 have k0':=k0
 rw [hco] at k0'
 rw [Int.toNat_natCast,←hfs] at hlt
 obtain ⟨ia,rfl⟩:∃ d:Nat,ia=d:=⟨ia.toNat,by omega⟩
 have hlt':ia<fs.length:=by omega
 obtain ⟨fa,hfo,u0,u1⟩:=Zaz hfr hlt'
 obtain ⟨⟨uk,uc⟩,hu⟩:∃ u,u=fs.getD ia default:=⟨_,rfl⟩
 have hfld2:Zey m ⟨2,(c:Int)⟩ (ia:Int)=some ⟨uk,uc⟩:=by rw [hfld,Int.toNat_natCast,hu];exact getD_some hlt'
 rw [hfo] at e2
 rw [←hu] at u0 u1
 dsimp only at u0 u1
 have hge:decide ((fs.length:Int)≤(ia:Int))=false:=by simp;omega
 have HPv:=Zh (show ZeB m ls ⟨17,(ia:Int),ib⟩ [⟨2,(c:Int)⟩]=some ⟨uk,uc⟩ from by rw [Zf1 rfl];exact hfld2)
 clear hfld hfld2 hfs hfr hco hu hfo
 obtain ⟨W1,HW1,HBw,HX,HBt,HBi,HS,hrl⟩:=Zkg w 17 ia ib 2 c (l:=[(ad,.int .i64 2),(⟨ad.block,ad.off+1,none⟩,.int .i64 c),(⟨K,0,none⟩,.slice (some ca) m.cl.length h.cc),(⟨(ca.add (c*4)).block,(ca.add (c*4)).off+2,none⟩,.slice (some fa) fs.length (h.c c).fc),((fa.add (ia*2)),.int .i64 uk),(⟨(fa.add (ia*2)).block,(fa.add (ia*2)).off+1,none⟩,.int .i64 uc)]) ⟨a0,a1,k0',e2,u0,u1,trivial⟩
 have HB0:=Zh (Below.refl W1.heap.size W1)
 have hne:=ZdW
 have heq:=ZdV
 have hgu:=ZdX
 have hal:=Zac a0
 clear H HM ht hr k0 k1 k2 k3 k4 k0' e2 u0 u1
 go_enter Tryz.func338,Tryz.ntmps338
 go_upto_region 4 with fail
 rw [←HW1.out]
 clear a0 a1 hal
 refine kO HS.out (oL [0,1,2,3,4,5,6,7,8,9,10,11,12,13,14,15,16,17,18]) (Upd.of HB0.out).drew ?_
 have HB1:=Zh HB0.out.drew
 repeat refine pO ?_
 refine Zd5 ?_
 go_wp2_with fail
 refine kO HS.out (oL [0,1,2,3,4,5,6,7,8,9,10,11,12,13,114,15]) (Upd.of HB1.out).drew ?_
 have HB2:=Zh HB1.out.drew
 repeat refine pO ?_
 obtain ⟨y0,y1,g0,g1⟩:=Zki (HX.out.old HB0.out)
 refine oO fun Kv hK=>?_
 go_simp
 refine hK _ _ ⟨HS.out _ (((Upd.of HB2.out).set 0 _).set 1 _),?_⟩
 clear hK Kv
 repeat refine pO ?_
 refine Zd5 ?_
 go_wp2
 refine bodyPost_ret (v:=.tuple #[.agg #[.int .i64 uk,.int .i64 uc],.bool true]) (by simp [results,Tryz.results338,go_sem,y0,y1]) rfl ?_
 exact k88
theorem ZlC {ia ib:Int} {la:Option Addr} {lcap:Nat} {a:Ty} (hr:Zar w la lcap ([a]:List Ty)) (h1:a.k=4):
  Calls Tryz.prog 338 #[.pointer (some ⟨K,0,none⟩),.agg #[.int .i64 21,.int .i64 ia,.int .i64 ib],.slice la 1 lcap] w (Zj6 w (ZeB m ls ⟨21,ia,ib⟩ [a])):=by
 obtain ⟨ad,rfl,a0,a1⟩:=Zka hr
 obtain ⟨ak,ac⟩:=a
 dsimp only at a0 a1
 obtain rfl:ak=4:=h1
 have HPv:=Zh (show ZeB m ls ⟨21,ia,ib⟩ [⟨4,ac⟩]=some Zeu from by rw [Zf5 rfl];rfl)
 obtain ⟨W1,HW1,HBw,HX,HBt,HBi,HS,hrl⟩:=Zkg w 21 ia ib 4 ac (l:=[(ad,.int .i64 4),(⟨ad.block,ad.off+1,none⟩,.int .i64 ac)]) ⟨a0,a1,trivial⟩
 exact k15
theorem ZlD {ia ib:Int} {la:Option Addr} {lcap:Nat} {a b:Ty} (hr:Zar w la lcap ([a,b]:List Ty)) (h1:a.k≠3) (h2:a.k≠4):
  Calls Tryz.prog 338 #[.pointer (some ⟨K,0,none⟩),.agg #[.int .i64 19,.int .i64 ia,.int .i64 ib],.slice la 2 lcap] w (Zj6 w (ZeB m ls ⟨19,ia,ib⟩ [a,b])):=by
 have hel:Zez a=none:=by unfold Zez;rw [if_neg h1,if_neg h2]
 have HPv:=Zh (show ZeB m ls ⟨19,ia,ib⟩ [a,b]=none from by rw [Zf3 rfl,show Zez ([a,b].getD 0 default)=none from hel];split<;>rfl)
 clear hel
 obtain ⟨ad,rfl,a0,a1,b0,b1⟩:=Zkb hr
 obtain ⟨ak,ac⟩:=a
 obtain ⟨bk,bc⟩:=b
 dsimp only at a0 a1 b0 b1
 have hk3:(ak != 3)=true:=by simpa using h1
 have hk4:(ak != 4)=true:=by simpa using h2
 have hk5:(ak == 4)=false:=by simpa using h2
 clear h1 h2
 obtain ⟨W1,HW1,HBw,HX,HBt,HBi,HS,hrl⟩:=Zkg w 19 ia ib ak ac (l:=[(ad,.int .i64 ak),(⟨ad.block,ad.off+1,none⟩,.int .i64 ac),(⟨ad.block,ad.off+2,none⟩,.int .i64 bk),(⟨ad.block,ad.off+3,none⟩,.int .i64 bc)]) ⟨a0,a1,b0,b1,trivial⟩
 have HB0:=Zh (Below.refl W1.heap.size W1)
 have hne:=ZdW
 have heq:=ZdV
 have hgu:=ZdX
 have hal:=Zac a0
 clear H HM ht hr b0 b1
 exact k9
theorem ZlE {ia ib:Int} {la:Option Addr} {lcap:Nat} {a b d:Ty} (hr:Zar w la lcap ([a,b,d]:List Ty)) (h1:a.k≠3) (h2:a.k≠4):
  Calls Tryz.prog 338 #[.pointer (some ⟨K,0,none⟩),.agg #[.int .i64 20,.int .i64 ia,.int .i64 ib],.slice la 3 lcap] w (Zj6 w (ZeB m ls ⟨20,ia,ib⟩ [a,b,d])):=by
 have hel:Zez a=none:=by unfold Zez;rw [if_neg h1,if_neg h2]
 have HPv:=Zh (show ZeB m ls ⟨20,ia,ib⟩ [a,b,d]=none from by rw [Zf4 rfl,show Zez ([a,b,d].getD 0 default)=none from hel];rw [show ZeA m ([a,b,d].getD 2 default) none=false from rfl,Bool.and_false];rfl)
 clear hel
 obtain ⟨kl,k0,k1,k2,k3,k4⟩:=H.cells
 obtain ⟨ad,rfl,a0,a1,b0,b1,d0,d1⟩:=Zkc hr
 obtain ⟨ak,ac⟩:=a
 obtain ⟨bk,bc⟩:=b
 obtain ⟨dk,dc⟩:=d
 dsimp only at a0 a1 b0 b1 d0 d1
 have hk3:(ak != 3)=true:=by simpa using h1
 have hk4:(ak != 4)=true:=by simpa using h2
 have hk5:(ak == 4)=false:=by simpa using h2
 clear h1 h2
 obtain ⟨W1,HW1,HBw,HX,HBt,HBi,HS,hrl⟩:=Zkg w 20 ia ib ak ac (l:=[(ad,.int .i64 ak),(⟨ad.block,ad.off+1,none⟩,.int .i64 ac),(⟨ad.block,ad.off+2,none⟩,.int .i64 bk),(⟨ad.block,ad.off+3,none⟩,.int .i64 bc),(⟨ad.block,ad.off+4,none⟩,.int .i64 dk),(⟨ad.block,ad.off+5,none⟩,.int .i64 dc),(⟨K,0,none⟩,.slice h.co m.cl.length h.cc),(⟨K,1,none⟩,.slice h.so m.st.length h.sc),(⟨K,2,none⟩,.slice h.eo m.me.length h.ec),(⟨K,3,none⟩,.int .i64 m.sel)]) ⟨a0,a1,b0,b1,d0,d1,k0,k1,k2,k3,trivial⟩
 have HB0:=Zh (Below.refl W1.heap.size W1)
 have hne:=ZdW
 have heq:=ZdV
 have hgu:=ZdX
 have hal:=Zac a0
 clear H HM ht hr k0 k1 k2 k3 k4 b0 b1 d0 d1
 exact k9
end
end
section
open Go.RowKit
section
variable {w:World}{K:Nat}{h:Hd}{m:Md}{lo:Option Addr}{lc:Nat}{ls:List Ty}{S O:Value}(H:Pk w K h m (.slice lo ls.length lc) S O)(HM:Zay w h m)(hd:Zc3 m m.cl.length)(ht:Zar w lo lc ls){ia ib:Int}{la:Option Addr}{lcap:Nat}
include w K h m lo lc ls S O H HM hd ht ia ib la lcap
theorem ZlF (hr:Zar w la lcap ([]:List Ty)) (hi0:0≤ia) (hlt:¬ ia<ls.length):
  Calls Tryz.prog 273 #[.pointer (some ⟨K,0,none⟩),.agg #[.int .i64 2,.int .i64 ia,.int .i64 ib],.slice la 0 lcap] w (Zj6 w (ZeB m ls ⟨2,ia,ib⟩ [])):=by
 have HPv:=Zh (show ZeB m ls ⟨2,ia,ib⟩ []=none from by rw [pv2 rfl];exact List.getElem?_eq_none (by dsimp only;omega))
 have hge:decide ((ls.length:Int)≤ia)=true:=by simp;omega
 obtain ⟨kl,k0,k1,k2,k3,k4⟩:=H.cells
 obtain ⟨W1,HW1,HBw,HX,HS,hrl⟩:=Zkf w 2 ia ib (l:=[(⟨K,4,none⟩,.slice lo ls.length lc)]) ⟨k4,trivial⟩
 have HB0:=Zh (Below.refl W1.heap.size W1)
 have hne:=ZdW
 have heq:=ZdV
 have hgu:=ZdX
 clear H HM ht hr k0 k1 k2 k3 k4
 go_enter Tryz.func273,Tryz.ntmps273
 go_upto_region 5 with fail
 rw [←HW1.out]
 refine kO HS.out (oL [0,1,2,3,4,5,6,7]) (Upd.of HB0.out).drew ?_
 have HB1:=Zh HB0.out.drew
 repeat refine pO ?_
 refine Zd5 ?_
 obtain ⟨y0,y1,g0,g1⟩:=Zki (HX.out.old HB0.out)
 exact Zlv
theorem ZlG (hr:Zar w la lcap ([]:List Ty)) (h1:ia≠3):
  Calls Tryz.prog 273 #[.pointer (some ⟨K,0,none⟩),.agg #[.int .i64 12,.int .i64 ia,.int .i64 ib],.slice la 0 lcap] w (Zj6 w (ZeB m ls ⟨12,ia,ib⟩ [])):=by
 have h1':(ia == 3)=false:=by simpa using h1
 have HPv:=Zh (show ZeB m ls ⟨12,ia,ib⟩ []=some ⟨ia,ib⟩ from ZfW rfl)
 clear H HM ht hr h1
 go_enter Tryz.func273,Tryz.ntmps273
 go_wp2
 refine bodyPost_ret (v:=.tuple #[.agg #[.int .i64 ia,.int .i64 ib],.bool true]) (by simp [results,Tryz.results273,go_sem,Nat.add_zero]) rfl ?_
 exact Zkk HPv.out bE
theorem ZlH {a:Ty} (hr:Zar w la lcap ([a]:List Ty)) (hta:a.k=2→0≤a.c∧a.c<m.cl.length) (hlo':∀ t∈ls,Zfi m t) (hi0:0≤ia) (hlt:ia<ls.length):
  Calls Tryz.prog 273 #[.pointer (some ⟨K,0,none⟩),.agg #[.int .i64 3,.int .i64 ia,.int .i64 ib],.slice la 1 lcap] w (Zj6 w (ZeB m ls ⟨3,ia,ib⟩ [a])):=by
 obtain ⟨ia,rfl⟩:∃ d:Nat,ia=d:=⟨ia.toNat,by omega⟩
 have hlt':ia<ls.length:=by omega
 obtain ⟨la',hlo,u0,u1⟩:=Zaz ht hlt'
 obtain ⟨⟨uk,uc⟩,hu⟩:∃ u,u=ls.getD ia default:=⟨_,rfl⟩
 have hls:ls[((ia:Int)).toNat]?=some ⟨uk,uc⟩:=by rw [Int.toNat_natCast,hu];exact getD_some hlt'
 rw [←hu] at u0 u1
 dsimp only at u0 u1
 rw [hlo] at H
 have hut:(⟨uk,uc⟩:Ty).k=2→0≤(⟨uk,uc⟩:Ty).c:=fun hk=>(ZfF (hlo' ⟨uk,uc⟩ (by rw [hu];exact ZfU _ hlt')) (.inl hk)).1
 have HPv:=Zh (show ZeB m ls ⟨3,ia,ib⟩ [a]=if Zet m a ⟨uk,uc⟩=true then some ty0 else none from by rw [pv3 rfl];dsimp only;rw [hls];rfl)
 have hlt3:decide ((ia:Int) < (ls.length:Int))=true:=by simp;omega
 clear hls hu hlo hlo'
 obtain ⟨kl,k0,k1,k2,k3,k4⟩:=H.cells
 obtain ⟨ad,rfl,a0,a1⟩:=Zka hr
 obtain ⟨ak,ac⟩:=a
 dsimp only at a0 a1
 obtain ⟨ft,hft⟩:∃ x,x=Zet m ⟨ak,ac⟩ ⟨uk,uc⟩:=⟨_,rfl⟩
 have HFi:=Zh (show ∀ w',Below w.heap.size w w'→Calls Tryz.prog 274 #[.agg #[.slice h.co m.cl.length h.cc,.slice h.so m.st.length h.sc,.slice h.eo m.me.length h.ec,.int .i64 m.sel],.agg #[.int .i64 ak,.int .i64 ac],.agg #[.int .i64 uk,.int .i64 uc]] w' (Ret w' (.bool ft)) from fun w' hb'=>by have:=ZjS m h ⟨ak,ac⟩ ⟨uk,uc⟩ w' (HM.old hb') hta hut hd;rw [←hft] at this;exact this)
 have Hft:=Zh hft
 clear hft
 obtain ⟨W1,HW1,HBw,HX,HS,hrl⟩:=Zkf w 3 ia ib (l:=[(ad,.int .i64 ak),(⟨ad.block,ad.off+1,none⟩,.int .i64 ac),(⟨K,0,none⟩,.slice h.co m.cl.length h.cc),(⟨K,1,none⟩,.slice h.so m.st.length h.sc),(⟨K,2,none⟩,.slice h.eo m.me.length h.ec),(⟨K,3,none⟩,.int .i64 m.sel),(⟨K,4,none⟩,.slice (some la') ls.length lc),((la'.add (ia*2)),.int .i64 uk),(⟨(la'.add (ia*2)).block,(la'.add (ia*2)).off+1,none⟩,.int .i64 uc)]) ⟨a0,a1,k0,k1,k2,k3,k4,u0,u1,trivial⟩
 have HB0:=Zh (Below.refl W1.heap.size W1)
 have hne:=ZdW
 have heq:=ZdV
 have hgu:=ZdX
 clear H HM ht hr k0 k1 k2 k3 k4 a0 a1 u0 u1
 go_enter Tryz.func273,Tryz.ntmps273
 go_upto_region 9 with fail
 rw [←HW1.out]
 refine kO HS.out (oL [0,1,2,3,4,5,6,7,8,9,10,11,12,13,14,15,16,17,18,19,20,21,22,23,24,125,26,127,28]) (Upd.of HB0.out).drew ?_
 exact Zlu
theorem p_0 (hr:Zar w la lcap ([]:List Ty)):
  Calls Tryz.prog 273 #[.pointer (some ⟨K,0,none⟩),.agg #[.int .i64 0,.int .i64 ia,.int .i64 ib],.slice la 0 lcap] w (Zj6 w (ZeB m ls ⟨0,ia,ib⟩ [])):=by
 have HPv:=Zh (show ZeB m ls ⟨0,ia,ib⟩ []=some ty0 from pvx (by simp))
 exact k12
theorem ZlI (hr:Zar w la lcap ([]:List Ty)):
  Calls Tryz.prog 273 #[.pointer (some ⟨K,0,none⟩),.agg #[.int .i64 33,.int .i64 ia,.int .i64 ib],.slice la 0 lcap] w (Zj6 w (ZeB m ls ⟨33,ia,ib⟩ [])):=by
 have HPv:=Zh (show ZeB m ls ⟨33,ia,ib⟩ []=some ty0 from pvx (by simp))
 exact k12
theorem ZlJ {a b:Ty} (hr:Zar w la lcap ([a,b]:List Ty)) (hta:a.k=2→0≤a.c∧a.c<m.cl.length) (h1:a.k=2) (hi0:0≤ia) (hlt:¬ ia<(m.cl.getD a.c.toNat default).f.length):
  Calls Tryz.prog 338 #[.pointer (some ⟨K,0,none⟩),.agg #[.int .i64 18,.int .i64 ia,.int .i64 ib],.slice la 2 lcap] w (Zj6 w (ZeB m ls ⟨18,ia,ib⟩ [a,b])):=by
 obtain ⟨kl,k0,k1,k2,k3,k4⟩:=H.cells
 obtain ⟨ad,rfl,a0,a1,b0,b1⟩:=Zkb hr
 obtain ⟨ak,ac⟩:=a
 obtain ⟨bk,bc⟩:=b
 dsimp only at a0 a1 b0 b1
 dsimp only at hlt
 obtain rfl:ak=2:=h1
 obtain ⟨hc0,hcl⟩:=hta rfl
 dsimp only at hc0 hcl
 obtain ⟨c,rfl⟩:∃ d:Nat,ac=d:=⟨ac.toNat,by omega⟩
 have hcl':c<m.cl.length:=by omega
 have hcl2:(c:Int) < m.cl.length:=by omega
 obtain ⟨ca,hco,-,-,e2,-⟩:=HM.cls hcl'
 have hfr:=HM.f c hcl'
 obtain ⟨fs,hfs⟩:∃ l,l=(m.cl.getD c default).f:=⟨_,rfl⟩
 have hfld:Zey m ⟨2,(c:Int)⟩ ia=fs[ia.toNat]?:=by rw [hfs];show (if (2:Int)=2 then (m.cl.getD ((c:Int)).toNat default).f[ia.toNat]? else none)=_;rw [if_pos rfl,Int.toNat_natCast]
 rw [←hfs] at e2 hfr
 have k0':=k0
 rw [hco] at k0'
 rw [Int.toNat_natCast,←hfs] at hlt
 have HPv:=Zh (show ZeB m ls ⟨18,ia,ib⟩ [⟨2,(c:Int)⟩,⟨bk,bc⟩]=none from by rw [Zf2 rfl];rw [show Zey m ([(⟨2,(c:Int)⟩:Ty),⟨bk,bc⟩].getD 0 default) ia=none from by show Zey m ⟨2,(c:Int)⟩ ia=none;rw [hfld];exact List.getElem?_eq_none (by omega)];rfl)
 have hge:decide ((fs.length:Int)≤ia)=true:=by simp;omega
 clear hfld hfs hfr hco
 obtain ⟨W1,HW1,HBw,HX,HBt,HBi,HS,hrl⟩:=Zkg w 18 ia ib 2 c (l:=[(ad,.int .i64 2),(⟨ad.block,ad.off+1,none⟩,.int .i64 c),(⟨ad.block,ad.off+2,none⟩,.int .i64 bk),(⟨ad.block,ad.off+3,none⟩,.int .i64 bc),(⟨K,0,none⟩,.slice (some ca) m.cl.length h.cc),(⟨(ca.add (c*4)).block,(ca.add (c*4)).off+2,none⟩,.slice (h.c c).fo fs.length (h.c c).fc)]) ⟨a0,a1,b0,b1,k0',e2,trivial⟩
 have HB0:=Zh (Below.refl W1.heap.size W1)
 have hne:=ZdW
 have heq:=ZdV
 have hgu:=ZdX
 have hal:=Zac a0
 clear H HM ht hr k0 k1 k2 k3 k4 b0 b1 k0' e2
 go_enter Tryz.func338,Tryz.ntmps338
 go_upto_region 8 with fail
 exact k8
theorem ZlK {a:Ty} (hr:Zar w la lcap ([a]:List Ty)) (h1:a.k≠2):
  Calls Tryz.prog 338 #[.pointer (some ⟨K,0,none⟩),.agg #[.int .i64 24,.int .i64 ia,.int .i64 ib],.slice la 1 lcap] w (Zj6 w (ZeB m ls ⟨24,ia,ib⟩ [a])):=by
 have HPv:=Zh (show ZeB m ls ⟨24,ia,ib⟩ [a]=none from by rw [Zf8 rfl];rw [show (decide (([a].getD 0 default).k=2)&&(Zet m ([a].getD 0 default) ⟨2,ia⟩||Zet m ⟨2,ia⟩ ([a].getD 0 default)))=false from by rw [show [a].getD 0 default=a from rfl,decide_eq_false h1];rfl];rfl)
 obtain ⟨ad,rfl,a0,a1⟩:=Zka hr
 obtain ⟨ak,ac⟩:=a
 dsimp only at a0 a1
 have hk:(ak != 2)=true:=by simpa using h1
 clear h1
 clear H HM ht hr
 have hal:=Zac a0
 go_enter Tryz.func338,Tryz.ntmps338
 go_wp2
 refine bodyPost_ret (v:=.tuple #[.agg #[.int .i64 0,.int .i64 0],.bool false]) (by simp [results,Tryz.results338,go_sem,Nat.add_zero]) rfl ?_
 exact Zkl HPv.out bE
theorem ZlL {a b:Ty} (hr:Zar w la lcap ([a,b]:List Ty)) (h0:a.k=3) (h1:b=Zeu):
  Calls Tryz.prog 338 #[.pointer (some ⟨K,0,none⟩),.agg #[.int .i64 19,.int .i64 ia,.int .i64 ib],.slice la 2 lcap] w (Zj6 w (ZeB m ls ⟨19,ia,ib⟩ [a,b])):=by
 obtain ⟨ad,rfl,a0,a1,b0,b1⟩:=Zkb hr
 obtain ⟨ak,ac⟩:=a
 obtain ⟨bk,bc⟩:=b
 obtain ⟨rfl,rfl⟩:bk=1∧bc=0:=by cases h1;exact ⟨rfl,rfl⟩
 dsimp only at a0 a1 b0 b1
 obtain rfl:ak=3:=h0
 have HPv:=Zh (show ZeB m ls ⟨19,ia,ib⟩ [⟨3,ac⟩,Zeu]=some Zeu from by rw [Zf3 rfl];rfl)
 obtain ⟨W1,HW1,HBw,HX,HBt,HBi,HS,hrl⟩:=Zkg w 19 ia ib 3 ac (l:=[(ad,.int .i64 3),(⟨ad.block,ad.off+1,none⟩,.int .i64 ac),(⟨ad.block,ad.off+2,none⟩,.int .i64 1),(⟨ad.block,ad.off+3,none⟩,.int .i64 0)]) ⟨a0,a1,b0,b1,trivial⟩
 have HB0:=Zh (Below.refl W1.heap.size W1)
 have hne:=ZdW
 have heq:=ZdV
 have hgu:=ZdX
 have hal:=Zac a0
 clear H HM ht hr b0 b1
 go_enter Tryz.func338,Tryz.ntmps338
 go_upto_region 20 with (go_at_call 337;rw [←HW1.out];refine (Zj9 _).mono ?_;rintro r w4 ⟨rfl,hb4⟩;have HB4:=Zh hb4;have z0:=(HBt.out.old hb4).cell 0 (v:=.int .i64 3) rfl;have z1:=(HBt.out.old hb4).cell 1 (v:=.int .i64 ac) rfl;have zl:=hb4.size;have zt:=HBt.out.lt;have zz:w.heap.size+2<w4.heap.size:=(by omega);clear hb4)
 clear a0 a1 hal
 clear z0 z1
 have hw5:Below W1.heap.size W1 (w4.alloc (.cells #[.int .i64 1,.int .i64 0] 76)):=bal HB4.out _
 have hx5:=Blk.new w4 #[.int .i64 1,.int .i64 0] 76
 obtain ⟨W5,hW5⟩:∃ W5,W5=w4.alloc (.cells #[.int .i64 1,.int .i64 0] 76):=⟨_,rfl⟩
 rw [←hW5] at hw5 hx5 ⊢
 have HB1:=Zh hw5
 have HX5:=Zh (show Blk W5 w4.heap.size #[.int .i64 1,.int .i64 0] 76 from hx5)
 clear hW5 hw5 hx5
 refine kO HS.out (oL [0,1,2,3,4,5,6,7,8,9,10,11,112,13,14]) (Upd.of HB1.out).drew ?_
 have HB2:=Zh HB1.out.drew
 repeat refine pO ?_
 refine oO fun Kv hK=>?_
 go_simp
 refine (Zj9 _).mono ?_
 rintro r w6 ⟨rfl,hb6⟩
 have HB56:=Zh (Zaf (show Below W5.heap.size W5 W5.drew by exact bE) hb6)
 have HB3:=Zh (Zaf HB2.out hb6)
 refine hK _ _ ⟨HS.out _ (Upd.of HB3.out),?_⟩
 clear hK Kv hb6
 repeat refine pO ?_
 refine Zd5 ?_
 have hx6:=HX5.out.old HB56.out
 have x0:=hx6.cell 0 (v:=.int .i64 1) rfl
 have x1:=hx6.cell 1 (v:=.int .i64 0) rfl
 have i0:=(HBi.out.old HB3.out).cell 0 (v:=.int .i64 19) rfl
 clear hx6
 obtain ⟨y0,y1,g0,g1⟩:=Zki (HX.out.old HB3.out)
 go_wp2
 refine bodyPost_ret (v:=.tuple #[.agg #[.int .i64 1,.int .i64 0],.bool true]) (by simp [results,Tryz.results338,go_sem,y0,y1]) rfl ?_
 exact Zkk HPv.out (Zkj HBw.out HB3.out)
theorem ZlM {a b d:Ty} (hr:Zar w la lcap ([a,b,d]:List Ty)) (h0:a.k=3) (h1:b=Zeu) (htd:d.k=2→0≤d.c∧d.c<m.cl.length):
  Calls Tryz.prog 338 #[.pointer (some ⟨K,0,none⟩),.agg #[.int .i64 20,.int .i64 ia,.int .i64 ib],.slice la 3 lcap] w (Zj6 w (ZeB m ls ⟨20,ia,ib⟩ [a,b,d])):=by
 obtain ⟨kl,k0,k1,k2,k3,k4⟩:=H.cells
 obtain ⟨ad,rfl,a0,a1,b0,b1,d0,d1⟩:=Zkc hr
 obtain ⟨ak,ac⟩:=a
 obtain ⟨bk,bc⟩:=b
 obtain ⟨rfl,rfl⟩:bk=1∧bc=0:=by cases h1;exact ⟨rfl,rfl⟩
 obtain ⟨dk,dc⟩:=d
 dsimp only at a0 a1 b0 b1 d0 d1
 obtain rfl:ak=3:=h0
 have HPv:=Zh (show ZeB m ls ⟨20,ia,ib⟩ [⟨3,ac⟩,Zeu,⟨dk,dc⟩]=if Zet m ⟨dk,dc⟩ ⟨1,0⟩=true then some ty0 else none from by rw [Zf4 rfl];rfl)
 have hut:(⟨1,0⟩:Ty).k=2→0≤(⟨1,0⟩:Ty).c:=fun hk=>by cases hk
 obtain ⟨ft,hft⟩:∃ x,x=Zet m ⟨dk,dc⟩ ⟨1,0⟩:=⟨_,rfl⟩
 have HFi:=Zh (show ∀ w',Below w.heap.size w w'→Calls Tryz.prog 274 #[.agg #[.slice h.co m.cl.length h.cc,.slice h.so m.st.length h.sc,.slice h.eo m.me.length h.ec,.int .i64 m.sel],.agg #[.int .i64 dk,.int .i64 dc],.agg #[.int .i64 1,.int .i64 0]] w' (Ret w' (.bool ft)) from fun w' hb'=>by have:=ZjS m h ⟨dk,dc⟩ ⟨1,0⟩ w' (HM.old hb') htd hut hd;rw [←hft] at this;exact this)
 have Hft:=Zh hft
 clear hft
 obtain ⟨W1,HW1,HBw,HX,HBt,HBi,HS,hrl⟩:=Zkg w 20 ia ib 3 ac (l:=[(ad,.int .i64 3),(⟨ad.block,ad.off+1,none⟩,.int .i64 ac),(⟨ad.block,ad.off+2,none⟩,.int .i64 1),(⟨ad.block,ad.off+3,none⟩,.int .i64 0),(⟨ad.block,ad.off+4,none⟩,.int .i64 dk),(⟨ad.block,ad.off+5,none⟩,.int .i64 dc),(⟨K,0,none⟩,.slice h.co m.cl.length h.cc),(⟨K,1,none⟩,.slice h.so m.st.length h.sc),(⟨K,2,none⟩,.slice h.eo m.me.length h.ec),(⟨K,3,none⟩,.int .i64 m.sel)]) ⟨a0,a1,b0,b1,d0,d1,k0,k1,k2,k3,trivial⟩
 have HB0:=Zh (Below.refl W1.heap.size W1)
 have hne:=ZdW
 have heq:=ZdV
 have hgu:=ZdX
 have hal:=Zac a0
 clear H HM ht hr k0 k1 k2 k3 k4 b0 b1 d0 d1
 go_enter Tryz.func338,Tryz.ntmps338
 go_upto_region 20 with (go_at_call 337;rw [←HW1.out];refine (Zj9 _).mono ?_;rintro r w4 ⟨rfl,hb4⟩;have HB4:=Zh hb4;have z0:=(HBt.out.old hb4).cell 0 (v:=.int .i64 3) rfl;have z1:=(HBt.out.old hb4).cell 1 (v:=.int .i64 ac) rfl;have zl:=hb4.size;have zt:=HBt.out.lt;have zz:w.heap.size+2<w4.heap.size:=(by omega);clear hb4)
 clear a0 a1 hal
 clear z0 z1
 have hw5:Below W1.heap.size W1 (w4.alloc (.cells #[.int .i64 1,.int .i64 0] 76)):=bal HB4.out _
 have hx5:=Blk.new w4 #[.int .i64 1,.int .i64 0] 76
 obtain ⟨W5,hW5⟩:∃ W5,W5=w4.alloc (.cells #[.int .i64 1,.int .i64 0] 76):=⟨_,rfl⟩
 rw [←hW5] at hw5 hx5 ⊢
 have HB1:=Zh hw5
 have HX5:=Zh (show Blk W5 w4.heap.size #[.int .i64 1,.int .i64 0] 76 from hx5)
 clear hW5 hw5 hx5
 refine kO HS.out (oL [0,1,2,3,4,5,6,7,8,9,10,11,112,13,14]) (Upd.of HB1.out).drew ?_
 have HB2:=Zh HB1.out.drew
 repeat refine pO ?_
 refine oO fun Kv hK=>?_
 go_simp
 refine (Zj9 _).mono ?_
 rintro r w6 ⟨rfl,hb6⟩
 have HB56:=Zh (Zaf (show Below W5.heap.size W5 W5.drew by exact bE) hb6)
 have HB3:=Zh (Zaf HB2.out hb6)
 refine hK _ _ ⟨HS.out _ (Upd.of HB3.out),?_⟩
 clear hK Kv hb6
 repeat refine pO ?_
 refine Zd5 ?_
 have hx6:=HX5.out.old HB56.out
 have x0:=hx6.cell 0 (v:=.int .i64 1) rfl
 have x1:=hx6.cell 1 (v:=.int .i64 0) rfl
 exact k13
end
end
end Go.Proofs.YtcfjblcgceednaaGreat
