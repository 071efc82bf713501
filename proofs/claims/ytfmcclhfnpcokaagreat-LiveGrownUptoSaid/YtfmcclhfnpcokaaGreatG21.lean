import Derived.Test.YtfmcclhfnpcokaaGreatG18
set_option linter.all false
set_option maxRecDepth 100000
set_option maxHeartbeats 4000000
namespace Go.Proofs.YtfmcclhfnpcokaaGreat
theorem k9{p:Prop}(h:p:=by
 go_enter Tryz.func229,Tryz.ntmps229
 go_upto_region 20 with (go_at_call 228;rw [←HW1.out];refine (Zkd _).mono ?_;rintro r w4 ⟨rfl,hb4⟩;have HB4:=Zh hb4;have z0:=(HBt.out.old hb4).cell 0 (v:=.int .i64 ak) rfl;have z1:=(HBt.out.old hb4).cell 1 (v:=.int .i64 ac) rfl;have zl:=hb4.size;have zt:=HBt.out.lt;have zz:w.heap.size+2<w4.heap.size:=(by omega);clear hb4)
 clear a0 a1 hal;clear z0 z1;have hw5:Below W1.heap.size W1 (w4.alloc (.cells #[.int .i64 1,.int .i64 0] 38)):=bal HB4.out _;have hx5:=Blk.new w4 #[.int .i64 1,.int .i64 0] 38;obtain ⟨W5,hW5⟩:∃ W5,W5=w4.alloc (.cells #[.int .i64 1,.int .i64 0] 38):=⟨_,rfl⟩;rw [←hW5] at hw5 hx5 ⊢;have HB1:=Zh hw5;have HX5:=Zh (show Blk W5 w4.heap.size #[.int .i64 1,.int .i64 0] 38 from hx5);clear hW5 hw5 hx5;refine kO HS.out (oL [0,1,2,3,4,5,6,7,8,9,10,11,112,13,14]) (Upd.of HB1.out).drew ?_;have HB2:=Zh HB1.out.drew
 repeat refine pO ?_
 refine sO 155 (HS.out _ (Upd.of HB2.out)) ?_
 repeat refine pO ?_
 refine Zd7 ?_;obtain ⟨y0,y1,g0,g1⟩:=Zkm (HX.out.old HB1.out);go_wp2;refine bodyPost_ret (v:=.tuple #[.agg #[.int .i64 0,.int .i64 0],.bool false]) (by simp [results,Tryz.results229,go_sem,y0,y1]) rfl ?_;exact Zkp HPv.out (Zkn HBw.out HB2.out)):p:=h
theorem Zly{p:Prop}(h:p:=by
 have HB1:=Zh HB0.out.drew
 repeat refine pO ?_
 refine oO fun Kv hK=>?_;go_simp;refine (HFi.out _ (Zag HBw.out HB1.out)).mono ?_;rintro r w5 ⟨rfl,hb5⟩;have HB2:=Zh (Zag HB1.out hb5);refine hK _ _ ⟨HS.out _ (Upd.of HB2.out),?_⟩;clear hK Kv hb5
 repeat refine pO ?_
 obtain ⟨y0,y1,g0,g1⟩:=Zkm (HX.out.old HB2.out);refine oO fun Kv hK=>?_;go_simp;refine hK _ _ ⟨HS.out _ (((Upd.of HB2.out).set 0 _).set 1 _),?_⟩;clear hK Kv
 repeat refine pO ?_
 refine Zd7 ?_;go_wp2;refine bodyPost_ret (v:=.tuple #[.agg #[.int .i64 0,.int .i64 0],.bool ft]) (by simp [results,Tryz.results167,go_sem,y0,y1]) rfl ?_;exact Zks HPv.out Hft.out (Zkn HBw.out HB2.out)):p:=h
theorem Zlz{p:Prop}(h:p:=by
 go_wp2;refine bodyPost_ret (v:=.tuple #[.agg #[.int .i64 0,.int .i64 0],.bool false]) (by simp [results,Tryz.results167,go_sem,y0,y1]) rfl ?_;exact Zkp HPv.out (Zkn HBw.out HB1.out)):p:=h
section
open Go.RowKit
section
variable {w:World}{K:Nat}{h:Hd}{m:Md}{lo:Option Addr}{lc:Nat}{ls:List Ty}{S O:Value}(H:Pk w K h m (.slice lo ls.length lc) S O)(Hj:Zaz w h m)(hd:ZcZ m m.cl.length)(ht:Zas w lo lc ls)
include w K h m lo lc ls S O H Hj hd ht
theorem ZlA {ia ib:Int} {la:Option Addr} {lcap:Nat} (b:Zas w la lcap ([]:List Ty)):
  Calls Tryz.prog 167 #[ZQ.p K,.agg #[.int .i64 16,.int .i64 ia,.int .i64 ib],.slice la 0 lcap] w (Zka w (ZeD m ls ⟨16,ia,ib⟩ [])):=by
 have a:=Zh (show ZeD m ls ⟨16,ia,ib⟩ []=some ⟨4,ib⟩ from Zf3 rfl);clear H Hj ht b;go_enter Tryz.func167,Tryz.ntmps167;go_wp2;refine bodyPost_ret (v:=.tuple #[.agg #[.int .i64 4,.int .i64 ib],.bool true]) (by simp [results,Tryz.results167,go_sem,Nat.add_zero]) rfl ?_;exact Zko a.out bE
theorem ZlB {op:Int} (y:op=6∨op=7∨op=8∨op=9∨op=10∨op=11) {ia ib:Int} {la:Option Addr} {lcap:Nat} {a b:Ty} (N:Zas w la lcap ([a,b]:List Ty)) (M:a=Zew):
  Calls Tryz.prog 167 #[ZQ.p K,.agg #[.int .i64 op,.int .i64 ia,.int .i64 ib],.slice la 2 lcap] w (Zka w (ZeD m ls ⟨op,ia,ib⟩ [a,b])):=by
 have B:=Zh (show ZeD m ls ⟨op,ia,ib⟩ [a,b]=if decide (b=Zew)=true then some Zew else none from by rw [pv6 y,M];rfl);obtain ⟨i,rfl,D,E,F,G⟩:=Zkf N;obtain ⟨U,T⟩:=a;obtain ⟨rfl,rfl⟩:U=1∧T=0:=by cases M;exact ⟨rfl,rfl⟩
 obtain ⟨L,J⟩:=b;dsimp only at D E F G;obtain ⟨I,C,A,R,q,Y⟩:=Zkj w op ia ib (l:=[(i,.int .i64 1),(⟨i.block,i.off+1,none⟩,.int .i64 0),(⟨i.block,i.off+2,none⟩,.int .i64 L),(⟨i.block,i.off+3,none⟩,.int .i64 J)]) ⟨D,E,F,G,trivial⟩;have j:=Zh (Below.refl I.heap.size I);have X:=ZdY;have V:=ZdX;have W:=ZdZ;clear H Hj ht N D E F G;rcases y with rfl|rfl|rfl|rfl|rfl|rfl
 all_goals
  go_enter Tryz.func167,Tryz.ntmps167
  go_upto_region 18 with fail
  rw [←C.out];refine kO q.out (oL [1,2,3,100,104,5,6,7,8,9,110,11,12,113,14]) (Upd.of j.out).drew ?_;have z:=Zh j.out.drew
  repeat refine pO ?_
  refine oO fun g e=>?_;go_simp;refine (Zkd _).mono ?_;rintro r w5 ⟨rfl,s⟩;have n:=Zh (Zag z.out s);refine e _ _ ⟨q.out _ (Upd.of n.out),?_⟩;clear e g s
  repeat refine pO ?_
  refine oO fun g e=>?_;go_simp;refine (Zkd _).mono ?_;rintro r w6 ⟨rfl,u⟩;have p:=Zh (Zag n.out u);refine e _ _ ⟨q.out _ (Upd.of p.out),?_⟩;clear e g u
  repeat refine pO ?_
  refine oO fun g e=>?_;go_simp;refine (Zkd _).mono ?_;rintro r w7 ⟨rfl,x⟩;have f:=Zh (Zag p.out x);refine e _ _ ⟨q.out _ (Upd.of f.out),?_⟩;clear e g x
  repeat refine pO ?_
  obtain ⟨Z,y1,g0,g1⟩:=Zkm (R.out.old f.out);refine oO fun g e=>?_;go_simp;refine e _ _ ⟨q.out _ (((Upd.of f.out).set 0 _).set 1 _),?_⟩;clear e g
  repeat refine pO ?_
  refine Zd7 ?_;go_wp2;refine bodyPost_ret (v:=.tuple #[.agg #[.int .i64 1,.int .i64 0],.bool (decide ((⟨L,J⟩:Ty)=Zew))]) (by simp [results,Tryz.results167,go_sem,Z,y1]) rfl ?_;exact Zks B.out rfl (Zkn A.out f.out)
theorem ZlC {ia ib:Int} {la:Option Addr} {lcap:Nat} (V:Zas w la lcap ([]:List Ty)) (R:0≤ia) (T:ia<m.st.length):
  Calls Tryz.prog 167 #[ZQ.p K,.agg #[.int .i64 22,.int .i64 ia,.int .i64 ib],.slice la 0 lcap] w (Zka w (ZeD m ls ⟨22,ia,ib⟩ [])):=by
 obtain ⟨ia,rfl⟩:∃ d:Nat,ia=d:=⟨ia.toNat,by omega⟩;have A:ia<m.st.length:=by omega
 have J:(ia:Int) < m.st.length:=by omega
 obtain ⟨D,C,u0,u1⟩:=ZaA Hj.st A;obtain ⟨⟨F,E⟩,hu⟩:∃ u,u=m.st.getD ia default:=⟨_,rfl⟩;have z:m.st.getD ((ia:Int)).toNat default=⟨F,E⟩:=by rw [Int.toNat_natCast,hu]
 rw [←hu] at u0 u1;dsimp only at u0 u1;have HPv:=Zh (show ZeD m ls ⟨22,ia,ib⟩ []=some ⟨F,E⟩ from by rw [Zf9 rfl];exact congrArg some z);clear z hu;obtain ⟨Y,k0,k1,k2,k3,k4⟩:=H.cells;have y:=k1;rw [C] at y;obtain ⟨I,G,HBw,HX,HS,X⟩:=Zkj w 22 ia ib (l:=[(⟨K,1,none⟩,.slice (some D) m.st.length h.sc),((D.add (ia*2)),.int .i64 F),(⟨(D.add (ia*2)).block,(D.add (ia*2)).off+1,none⟩,.int .i64 E)]) ⟨y,u0,u1,trivial⟩;have f:=Zh (Below.refl I.heap.size I);have U:=ZdY;have M:=ZdX;have N:=ZdZ;clear C;clear H Hj ht V k0 k1 k2 k3 k4 y u0 u1;go_enter Tryz.func167,Tryz.ntmps167
 go_upto_region 32 with fail
 rw [←G.out];refine kO HS.out (oL [0,1,2,3,4,5,6,7,8,109,10]) (Upd.of f.out).drew ?_;have HB1:=Zh f.out.drew
 repeat refine pO ?_
 obtain ⟨y0,y1,g0,g1⟩:=Zkm (HX.out.old f.out);refine oO fun Kv hK=>?_;go_simp;refine hK _ _ ⟨HS.out _ (((Upd.of HB1.out).set 0 _).set 1 _),?_⟩;clear hK Kv
 repeat refine pO ?_
 refine Zd7 ?_;go_wp2;refine bodyPost_ret (v:=.tuple #[.agg #[.int .i64 F,.int .i64 E],.bool true]) (by simp [results,Tryz.results167,go_sem,y0,y1]) rfl ?_;exact Zko HPv.out (Zkn HBw.out HB1.out)
theorem ZlD {ia ib:Int} {la:Option Addr} {lcap:Nat} {a:Ty} (C:Zas w la lcap ([a]:List Ty)) (h1:a=Zew) (I:0≤ib) (J:¬ ib<ls.length):
  Calls Tryz.prog 167 #[ZQ.p K,.agg #[.int .i64 30,.int .i64 ia,.int .i64 ib],.slice la 1 lcap] w (Zka w (ZeD m ls ⟨30,ia,ib⟩ [a])):=by
 have HPv:=Zh (show ZeD m ls ⟨30,ia,ib⟩ [a]=none from by rw [Zgf rfl,List.getElem?_eq_none (by dsimp only;omega)];rw [show (decide ([a].getD 0 default=Zew)&&decide ((none:Option Ty)=some Zew))=false from by rw [decide_eq_false (by simp:¬ (none:Option Ty)=some Zew),Bool.and_false]];rfl);have A:decide (ib<(ls.length:Int))=false:=by simp;omega
 obtain ⟨R,k0,k1,k2,k3,k4⟩:=H.cells;obtain ⟨ad,rfl,f,y⟩:=Zke C;obtain ⟨E,D⟩:=a;obtain ⟨rfl,rfl⟩:E=1∧D=0:=by cases h1;exact ⟨rfl,rfl⟩
 dsimp only at f y;obtain ⟨z,HW1,HBw,HX,HS,N⟩:=Zkj w 30 ia ib (l:=[(ad,.int .i64 1),(⟨ad.block,ad.off+1,none⟩,.int .i64 0),(⟨K,4,none⟩,.slice lo ls.length lc)]) ⟨f,y,k4,trivial⟩;have HB0:=Zh (Below.refl z.heap.size z);have M:=ZdY;have F:=ZdX;have G:=ZdZ;clear H Hj ht C k0 k1 k2 k3 k4 f y;exact k17
theorem ZlE {ia ib:Int} {la:Option Addr} {lcap:Nat} (hr:Zas w la lcap ([]:List Ty)):
  Calls Tryz.prog 167 #[ZQ.p K,.agg #[.int .i64 31,.int .i64 ia,.int .i64 ib],.slice la 0 lcap] w (Zka w (ZeD m ls ⟨31,ia,ib⟩ [])):=by
 have HPv:=Zh (show ZeD m ls ⟨31,ia,ib⟩ []=some ty0 from pvx (by simp));exact k12
theorem ZlF {ia ib:Int} {la:Option Addr} {lcap:Nat} {a:Ty} (hr:Zas w la lcap ([a]:List Ty)) (af:a.k=2→0≤a.c∧a.c<m.cl.length) (h1:a.k=2) (au:0≤ia) (M:ia<(m.cl.getD a.c.toNat default).f.length):
  Calls Tryz.prog 229 #[ZQ.p K,.agg #[.int .i64 17,.int .i64 ia,.int .i64 ib],.slice la 1 lcap] w (Zka w (ZeD m ls ⟨17,ia,ib⟩ [a])):=by
 obtain ⟨kl,k0,k1,k2,k3,k4⟩:=H.cells;obtain ⟨ad,rfl,N,Y⟩:=Zke hr;obtain ⟨ak,ac⟩:=a;dsimp only at N Y;dsimp only at M;obtain rfl:ak=2:=h1;obtain ⟨ab,ae⟩:=af rfl;dsimp only at ab ae;obtain ⟨c,rfl⟩:∃ d:Nat,ac=d:=⟨ac.toNat,by omega⟩;have z:c<m.cl.length:=by omega
 have ai:(c:Int) < m.cl.length:=by omega
 obtain ⟨Z,I,-,-,R,-⟩:=Hj.cls z;have E:=Hj.f c z;obtain ⟨G,y⟩:∃ l,l=(m.cl.getD c default).f:=⟨_,rfl⟩;have A:ZeA m ⟨2,(c:Int)⟩ ia=G[ia.toNat]?:=by rw [y];show (if (2:Int)=2 then (m.cl.getD ((c:Int)).toNat default).f[ia.toNat]? else none)=_;rw [if_pos rfl,Int.toNat_natCast]
 rw [←y] at R E;have F:=k0;rw [I] at F;rw [Int.toNat_natCast,←y] at M;obtain ⟨ia,rfl⟩:∃ d:Nat,ia=d:=⟨ia.toNat,by omega⟩;have C:ia<G.length:=by omega
 obtain ⟨T,J,u0,u1⟩:=ZaA E C;obtain ⟨⟨V,U⟩,hu⟩:∃ u,u=G.getD ia default:=⟨_,rfl⟩;have f:ZeA m ⟨2,(c:Int)⟩ (ia:Int)=some ⟨V,U⟩:=by rw [A,Int.toNat_natCast,hu];exact getD_some C
 rw [J] at R;rw [←hu] at u0 u1;dsimp only at u0 u1;have aq:decide ((G.length:Int)≤(ia:Int))=false:=by simp;omega
 have HPv:=Zh (show ZeD m ls ⟨17,(ia:Int),ib⟩ [⟨2,(c:Int)⟩]=some ⟨V,U⟩ from by rw [Zf4 rfl];exact f);clear A f y E I hu J;obtain ⟨W1,X,HBw,HX,an,al,HS,aw⟩:=Zkk w 17 ia ib 2 c (l:=[(ad,.int .i64 2),(⟨ad.block,ad.off+1,none⟩,.int .i64 c),(⟨K,0,none⟩,.slice (some Z) m.cl.length h.cc),(⟨(Z.add (c*4)).block,(Z.add (c*4)).off+2,none⟩,.slice (some T) G.length (h.c c).fc),((T.add (ia*2)),.int .i64 V),(⟨(T.add (ia*2)).block,(T.add (ia*2)).off+1,none⟩,.int .i64 U)]) ⟨N,Y,F,R,u0,u1,trivial⟩;have D:=Zh (Below.refl W1.heap.size W1);have av:=ZdY;have ap:=ZdX;have ar:=ZdZ;have aa:=Zad N;clear H Hj ht hr k0 k1 k2 k3 k4 F R u0 u1;go_enter Tryz.func229,Tryz.ntmps229
 go_upto_region 4 with fail
 rw [←X.out];clear N Y aa;refine kO HS.out (oL [0,1,2,3,4,5,6,7,8,9,10,11,12,13,14,15,16,17,18]) (Upd.of D.out).drew ?_;have HB1:=Zh D.out.drew
 repeat refine pO ?_
 refine Zd7 ?_
 go_wp2_with fail
 refine kO HS.out (oL [0,1,2,3,4,5,6,7,8,9,10,11,12,13,114,15]) (Upd.of HB1.out).drew ?_;have HB2:=Zh HB1.out.drew
 repeat refine pO ?_
 obtain ⟨y0,y1,g0,g1⟩:=Zkm (HX.out.old D.out);refine oO fun Kv hK=>?_;go_simp;refine hK _ _ ⟨HS.out _ (((Upd.of HB2.out).set 0 _).set 1 _),?_⟩;clear hK Kv
 repeat refine pO ?_
 refine Zd7 ?_;go_wp2;refine bodyPost_ret (v:=.tuple #[.agg #[.int .i64 V,.int .i64 U],.bool true]) (by simp [results,Tryz.results229,go_sem,y0,y1]) rfl ?_;exact k88
theorem ZlG {ia ib:Int} {la:Option Addr} {lcap:Nat} {a:Ty} (hr:Zas w la lcap ([a]:List Ty)) (j:a.k=4):
  Calls Tryz.prog 229 #[ZQ.p K,.agg #[.int .i64 21,.int .i64 ia,.int .i64 ib],.slice la 1 lcap] w (Zka w (ZeD m ls ⟨21,ia,ib⟩ [a])):=by
 obtain ⟨e,rfl,a0,a1⟩:=Zke hr;obtain ⟨i,b⟩:=a;dsimp only at a0 a1;obtain rfl:i=4:=j;have HPv:=Zh (show ZeD m ls ⟨21,ia,ib⟩ [⟨4,b⟩]=some Zew from by rw [Zf8 rfl];rfl);obtain ⟨W1,HW1,HBw,HX,g,f,HS,n⟩:=Zkk w 21 ia ib 4 b (l:=[(e,.int .i64 4),(⟨e.block,e.off+1,none⟩,.int .i64 b)]) ⟨a0,a1,trivial⟩;exact k15
theorem ZlH {ia ib:Int} {la:Option Addr} {lcap:Nat} {a b:Ty} (q:Zas w la lcap ([a,b]:List Ty)) (n:a.k≠3) (g:a.k≠4):
  Calls Tryz.prog 229 #[ZQ.p K,.agg #[.int .i64 19,.int .i64 ia,.int .i64 ib],.slice la 2 lcap] w (Zka w (ZeD m ls ⟨19,ia,ib⟩ [a,b])):=by
 have f:ZeB a=none:=by unfold ZeB;rw [if_neg n,if_neg g]
 have HPv:=Zh (show ZeD m ls ⟨19,ia,ib⟩ [a,b]=none from by rw [Zf6 rfl,show ZeB ([a,b].getD 0 default)=none from f];split<;>rfl);clear f;obtain ⟨e,rfl,a0,a1,i,j⟩:=Zkf q;obtain ⟨ak,ac⟩:=a;obtain ⟨y,x⟩:=b;dsimp only at a0 a1 i j;have B:(ak != 3)=true:=by simpa using n
 have C:(ak != 4)=true:=by simpa using g
 have D:(ak == 4)=false:=by simpa using g
 clear n g;obtain ⟨W1,HW1,HBw,HX,HBt,u,HS,F⟩:=Zkk w 19 ia ib ak ac (l:=[(e,.int .i64 ak),(⟨e.block,e.off+1,none⟩,.int .i64 ac),(⟨e.block,e.off+2,none⟩,.int .i64 y),(⟨e.block,e.off+3,none⟩,.int .i64 x)]) ⟨a0,a1,i,j,trivial⟩;have s:=Zh (Below.refl W1.heap.size W1);have E:=ZdY;have z:=ZdX;have A:=ZdZ;have hal:=Zad a0;clear H Hj ht q i j;exact k9
theorem ZlI {ia ib:Int} {la:Option Addr} {lcap:Nat} {a b d:Ty} (E:Zas w la lcap ([a,b,d]:List Ty)) (h1:a.k≠3) (y:a.k≠4):
  Calls Tryz.prog 229 #[ZQ.p K,.agg #[.int .i64 20,.int .i64 ia,.int .i64 ib],.slice la 3 lcap] w (Zka w (ZeD m ls ⟨20,ia,ib⟩ [a,b,d])):=by
 have f:ZeB a=none:=by unfold ZeB;rw [if_neg h1,if_neg y]
 have HPv:=Zh (show ZeD m ls ⟨20,ia,ib⟩ [a,b,d]=none from by rw [Zf7 rfl,show ZeB ([a,b,d].getD 0 default)=none from f];rw [show ZeC m ([a,b,d].getD 2 default) none=false from rfl,Bool.and_false];rfl);clear f;obtain ⟨kl,k0,k1,k2,k3,k4⟩:=H.cells;obtain ⟨ad,rfl,a0,a1,z,A,C,D⟩:=Zkg E;obtain ⟨ak,ac⟩:=a;obtain ⟨J,I⟩:=b;obtain ⟨N,M⟩:=d;dsimp only at a0 a1 z A C D;have U:(ak != 3)=true:=by simpa using h1
 have V:(ak != 4)=true:=by simpa using y
 have X:(ak == 4)=false:=by simpa using y
 clear h1 y;obtain ⟨W1,HW1,HBw,HX,HBt,G,HS,Z⟩:=Zkk w 20 ia ib ak ac (l:=[(ad,.int .i64 ak),(⟨ad.block,ad.off+1,none⟩,.int .i64 ac),(⟨ad.block,ad.off+2,none⟩,.int .i64 J),(⟨ad.block,ad.off+3,none⟩,.int .i64 I),(⟨ad.block,ad.off+4,none⟩,.int .i64 N),(⟨ad.block,ad.off+5,none⟩,.int .i64 M),(⟨K,0,none⟩,.slice h.co m.cl.length h.cc),(⟨K,1,none⟩,.slice h.so m.st.length h.sc),(⟨K,2,none⟩,.slice h.eo m.me.length h.ec),(⟨K,3,none⟩,.int .i64 m.sel)]) ⟨a0,a1,z,A,C,D,k0,k1,k2,k3,trivial⟩;have F:=Zh (Below.refl W1.heap.size W1);have Y:=ZdY;have R:=ZdX;have T:=ZdZ;have hal:=Zad a0;clear H Hj ht E k0 k1 k2 k3 k4 z A C D;exact k9
end
end
section
open Go.RowKit
section
variable {w:World}{K:Nat}{h:Hd}{m:Md}{lo:Option Addr}{lc:Nat}{ls:List Ty}{S O:Value}(H:Pk w K h m (.slice lo ls.length lc) S O)(Hj:Zaz w h m)(hd:ZcZ m m.cl.length)(ht:Zas w lo lc ls){ia ib:Int}{la:Option Addr}{lcap:Nat}
include w K h m lo lc ls S O H Hj hd ht ia ib la lcap
theorem ZlJ (I:Zas w la lcap ([]:List Ty)) (E:0≤ia) (F:¬ ia<ls.length):
  Calls Tryz.prog 167 #[ZQ.p K,.agg #[.int .i64 2,.int .i64 ia,.int .i64 ib],.slice la 0 lcap] w (Zka w (ZeD m ls ⟨2,ia,ib⟩ [])):=by
 have HPv:=Zh (show ZeD m ls ⟨2,ia,ib⟩ []=none from by rw [pv2 rfl];exact List.getElem?_eq_none (by dsimp only;omega));have C:decide ((ls.length:Int)≤ia)=true:=by simp;omega
 obtain ⟨M,k0,k1,k2,k3,k4⟩:=H.cells;obtain ⟨z,y,HBw,HX,HS,J⟩:=Zkj w 2 ia ib (l:=[(⟨K,4,none⟩,.slice lo ls.length lc)]) ⟨k4,trivial⟩;have f:=Zh (Below.refl z.heap.size z);have G:=ZdY;have A:=ZdX;have D:=ZdZ;clear H Hj ht I k0 k1 k2 k3 k4;go_enter Tryz.func167,Tryz.ntmps167
 go_upto_region 5 with fail
 rw [←y.out];refine kO HS.out (oL [0,1,2,3,4,5,6,7]) (Upd.of f.out).drew ?_;have HB1:=Zh f.out.drew
 repeat refine pO ?_
 refine Zd7 ?_;obtain ⟨y0,y1,g0,g1⟩:=Zkm (HX.out.old f.out);exact Zlz
theorem ZlK (d:Zas w la lcap ([]:List Ty)) (b:ia≠3):
  Calls Tryz.prog 167 #[ZQ.p K,.agg #[.int .i64 12,.int .i64 ia,.int .i64 ib],.slice la 0 lcap] w (Zka w (ZeD m ls ⟨12,ia,ib⟩ [])):=by
 have c:(ia == 3)=false:=by simpa using b
 have a:=Zh (show ZeD m ls ⟨12,ia,ib⟩ []=some ⟨ia,ib⟩ from ZfZ rfl);clear H Hj ht d b;go_enter Tryz.func167,Tryz.ntmps167;go_wp2;refine bodyPost_ret (v:=.tuple #[.agg #[.int .i64 ia,.int .i64 ib],.bool true]) (by simp [results,Tryz.results167,go_sem,Nat.add_zero]) rfl ?_;exact Zko a.out bE
theorem ZlL {a:Ty} (V:Zas w la lcap ([a]:List Ty)) (N:a.k=2→0≤a.c∧a.c<m.cl.length) (C:∀ t∈ls,Zfk m t) (Z:0≤ia) (aa:ia<ls.length):
  Calls Tryz.prog 167 #[ZQ.p K,.agg #[.int .i64 3,.int .i64 ia,.int .i64 ib],.slice la 1 lcap] w (Zka w (ZeD m ls ⟨3,ia,ib⟩ [a])):=by
 obtain ⟨ia,rfl⟩:∃ d:Nat,ia=d:=⟨ia.toNat,by omega⟩;have f:ia<ls.length:=by omega
 obtain ⟨y,hlo,u0,u1⟩:=ZaA ht f;obtain ⟨⟨A,z⟩,hu⟩:∃ u,u=ls.getD ia default:=⟨_,rfl⟩;have D:ls[((ia:Int)).toNat]?=some ⟨A,z⟩:=by rw [Int.toNat_natCast,hu];exact getD_some f
 rw [←hu] at u0 u1;dsimp only at u0 u1;rw [hlo] at H;have R:(⟨A,z⟩:Ty).k=2→0≤(⟨A,z⟩:Ty).c:=fun hk=>(ZfH (C ⟨A,z⟩ (by rw [hu];exact ZfX _ f)) (.inl hk)).1;have HPv:=Zh (show ZeD m ls ⟨3,ia,ib⟩ [a]=if Zev m a ⟨A,z⟩=true then some ty0 else none from by rw [pv3 rfl];dsimp only;rw [D];rfl);have U:decide ((ia:Int) < (ls.length:Int))=true:=by simp;omega
 clear D hu hlo C;obtain ⟨kl,k0,k1,k2,k3,k4⟩:=H.cells;obtain ⟨ad,rfl,I,J⟩:=Zke V;obtain ⟨F,E⟩:=a;dsimp only at I J;obtain ⟨ft,hft⟩:∃ x,x=Zev m ⟨F,E⟩ ⟨A,z⟩:=⟨_,rfl⟩;have HFi:=Zh (show ∀ w',Below w.heap.size w w'→Calls Tryz.prog 168 #[.agg (HM.mk h m),.agg #[.int .i64 F,.int .i64 E],.agg #[.int .i64 A,.int .i64 z]] w' (Ret w' (.bool ft)) from fun w' M=>by have:=ZjV m h ⟨F,E⟩ ⟨A,z⟩ w' (Hj.old M) N R hd;rw [←hft] at this;exact this);have Hft:=Zh hft;clear hft;obtain ⟨T,G,HBw,HX,HS,ae⟩:=Zkj w 3 ia ib (l:=[(ad,.int .i64 F),(⟨ad.block,ad.off+1,none⟩,.int .i64 E),(⟨K,0,none⟩,.slice h.co m.cl.length h.cc),(⟨K,1,none⟩,.slice h.so m.st.length h.sc),(⟨K,2,none⟩,.slice h.eo m.me.length h.ec),(⟨K,3,none⟩,.int .i64 m.sel),(⟨K,4,none⟩,.slice (some y) ls.length lc),((y.add (ia*2)),.int .i64 A),(⟨(y.add (ia*2)).block,(y.add (ia*2)).off+1,none⟩,.int .i64 z)]) ⟨I,J,k0,k1,k2,k3,k4,u0,u1,trivial⟩;have HB0:=Zh (Below.refl T.heap.size T);have ab:=ZdY;have X:=ZdX;have Y:=ZdZ;clear H Hj ht V k0 k1 k2 k3 k4 I J u0 u1;go_enter Tryz.func167,Tryz.ntmps167
 go_upto_region 9 with fail
 rw [←G.out];refine kO HS.out (oL [0,1,2,3,4,5,6,7,8,9,10,11,12,13,14,15,16,17,18,19,20,21,22,23,24,125,26,127,28]) (Upd.of HB0.out).drew ?_;exact Zly
theorem p_0 (hr:Zas w la lcap ([]:List Ty)):
  Calls Tryz.prog 167 #[ZQ.p K,.agg #[.int .i64 0,.int .i64 ia,.int .i64 ib],.slice la 0 lcap] w (Zka w (ZeD m ls ⟨0,ia,ib⟩ [])):=by
 have HPv:=Zh (show ZeD m ls ⟨0,ia,ib⟩ []=some ty0 from pvx (by simp));exact k12
theorem ZlM (hr:Zas w la lcap ([]:List Ty)):
  Calls Tryz.prog 167 #[ZQ.p K,.agg #[.int .i64 33,.int .i64 ia,.int .i64 ib],.slice la 0 lcap] w (Zka w (ZeD m ls ⟨33,ia,ib⟩ [])):=by
 have HPv:=Zh (show ZeD m ls ⟨33,ia,ib⟩ []=some ty0 from pvx (by simp));exact k12
theorem ZlN {a b:Ty} (hr:Zas w la lcap ([a,b]:List Ty)) (V:a.k=2→0≤a.c∧a.c<m.cl.length) (h1:a.k=2) (aj:0≤ia) (E:¬ ia<(m.cl.getD a.c.toNat default).f.length):
  Calls Tryz.prog 229 #[ZQ.p K,.agg #[.int .i64 18,.int .i64 ia,.int .i64 ib],.slice la 2 lcap] w (Zka w (ZeD m ls ⟨18,ia,ib⟩ [a,b])):=by
 obtain ⟨kl,k0,k1,k2,k3,k4⟩:=H.cells;obtain ⟨ad,rfl,a0,a1,F,G⟩:=Zkf hr;obtain ⟨ak,Y⟩:=a;obtain ⟨J,I⟩:=b;dsimp only at a0 a1 F G;dsimp only at E;obtain rfl:ak=2:=h1;obtain ⟨T,U⟩:=V rfl;dsimp only at T U;obtain ⟨c,rfl⟩:∃ d:Nat,Y=d:=⟨Y.toNat,by omega⟩;have y:c<m.cl.length:=by omega
 have Z:(c:Int) < m.cl.length:=by omega
 obtain ⟨M,C,-,-,N,-⟩:=Hj.cls y;have D:=Hj.f c y;obtain ⟨R,f⟩:∃ l,l=(m.cl.getD c default).f:=⟨_,rfl⟩;have z:ZeA m ⟨2,(c:Int)⟩ ia=R[ia.toNat]?:=by rw [f];show (if (2:Int)=2 then (m.cl.getD ((c:Int)).toNat default).f[ia.toNat]? else none)=_;rw [if_pos rfl,Int.toNat_natCast]
 rw [←f] at N D;have A:=k0;rw [C] at A;rw [Int.toNat_natCast,←f] at E;have HPv:=Zh (show ZeD m ls ⟨18,ia,ib⟩ [⟨2,(c:Int)⟩,⟨J,I⟩]=none from by rw [Zf5 rfl];rw [show ZeA m ([(⟨2,(c:Int)⟩:Ty),⟨J,I⟩].getD 0 default) ia=none from by show ZeA m ⟨2,(c:Int)⟩ ia=none;rw [z];exact List.getElem?_eq_none (by omega)];rfl);have ah:decide ((R.length:Int)≤ia)=true:=by simp;omega
 clear z f D C;obtain ⟨X,HW1,HBw,HX,ae,ab,HS,an⟩:=Zkk w 18 ia ib 2 c (l:=[(ad,.int .i64 2),(⟨ad.block,ad.off+1,none⟩,.int .i64 c),(⟨ad.block,ad.off+2,none⟩,.int .i64 J),(⟨ad.block,ad.off+3,none⟩,.int .i64 I),(⟨K,0,none⟩,.slice (some M) m.cl.length h.cc),(⟨(M.add (c*4)).block,(M.add (c*4)).off+2,none⟩,.slice (h.c c).fo R.length (h.c c).fc)]) ⟨a0,a1,F,G,A,N,trivial⟩;have HB0:=Zh (Below.refl X.heap.size X);have al:=ZdY;have ag:=ZdX;have ai:=ZdZ;have hal:=Zad a0;clear H Hj ht hr k0 k1 k2 k3 k4 F G A N;go_enter Tryz.func229,Tryz.ntmps229
 go_upto_region 8 with fail
 exact k8
theorem ZlO {a:Ty} (e:Zas w la lcap ([a]:List Ty)) (c:a.k≠2):
  Calls Tryz.prog 229 #[ZQ.p K,.agg #[.int .i64 24,.int .i64 ia,.int .i64 ib],.slice la 1 lcap] w (Zka w (ZeD m ls ⟨24,ia,ib⟩ [a])):=by
 have b:=Zh (show ZeD m ls ⟨24,ia,ib⟩ [a]=none from by rw [Zgb rfl];rw [show (decide (([a].getD 0 default).k=2)&&(Zev m ([a].getD 0 default) ⟨2,ia⟩||Zev m ⟨2,ia⟩ ([a].getD 0 default)))=false from by rw [show [a].getD 0 default=a from rfl,decide_eq_false c];rfl];rfl);obtain ⟨k,rfl,d,f⟩:=Zke e;obtain ⟨g,j⟩:=a;dsimp only at d f;have l:(g != 2)=true:=by simpa using c
 clear c;clear H Hj ht e;have i:=Zad d;go_enter Tryz.func229,Tryz.ntmps229;go_wp2;refine bodyPost_ret (v:=.tuple #[.agg #[.int .i64 0,.int .i64 0],.bool false]) (by simp [results,Tryz.results229,go_sem,Nat.add_zero]) rfl ?_;exact Zkp b.out bE
theorem ZlP {a b:Ty} (X:Zas w la lcap ([a,b]:List Ty)) (h0:a.k=3) (h1:b=Zew):
  Calls Tryz.prog 229 #[ZQ.p K,.agg #[.int .i64 19,.int .i64 ia,.int .i64 ib],.slice la 2 lcap] w (Zka w (ZeD m ls ⟨19,ia,ib⟩ [a,b])):=by
 obtain ⟨i,rfl,C,N,R,T⟩:=Zkf X;obtain ⟨ak,D⟩:=a;obtain ⟨bk,bc⟩:=b;obtain ⟨rfl,rfl⟩:bk=1∧bc=0:=by cases h1;exact ⟨rfl,rfl⟩
 dsimp only at C N R T;obtain rfl:ak=3:=h0;have J:=Zh (show ZeD m ls ⟨19,ia,ib⟩ [⟨3,D⟩,Zew]=some Zew from by rw [Zf6 rfl];rfl);obtain ⟨B,L,I,Z,g,G,V,am⟩:=Zkk w 19 ia ib 3 D (l:=[(i,.int .i64 3),(⟨i.block,i.off+1,none⟩,.int .i64 D),(⟨i.block,i.off+2,none⟩,.int .i64 1),(⟨i.block,i.off+3,none⟩,.int .i64 0)]) ⟨C,N,R,T,trivial⟩;have Y:=Zh (Below.refl B.heap.size B);have al:=ZdY;have ai:=ZdX;have aj:=ZdZ;have U:=Zad C;clear H Hj ht X R T;go_enter Tryz.func229,Tryz.ntmps229
 go_upto_region 20 with (go_at_call 228;rw [←L.out];refine (Zkd _).mono ?_;rintro r A ⟨rfl,e⟩;have F:=Zh e;have z0:=(g.out.old e).cell 0 (v:=.int .i64 3) rfl;have z1:=(g.out.old e).cell 1 (v:=.int .i64 D) rfl;have zl:=e.size;have zt:=g.out.lt;have zz:w.heap.size+2<A.heap.size:=(by omega);clear e)
 clear C N U;clear z0 z1;have n:Below B.heap.size B (A.alloc (.cells #[.int .i64 1,.int .i64 0] 38)):=bal F.out _;have q:=Blk.new A #[.int .i64 1,.int .i64 0] 38;obtain ⟨u,z⟩:∃ u,u=A.alloc (.cells #[.int .i64 1,.int .i64 0] 38):=⟨_,rfl⟩;rw [←z] at n q ⊢;have x:=Zh n;have M:=Zh (show Blk u A.heap.size #[.int .i64 1,.int .i64 0] 38 from q);clear z n q;refine kO V.out (oL [0,1,2,3,4,5,6,7,8,9,10,11,112,13,14]) (Upd.of x.out).drew ?_;have E:=Zh x.out.drew
 repeat refine pO ?_
 refine oO fun Kv W=>?_;go_simp;refine (Zkd _).mono ?_;rintro r w6 ⟨rfl,j⟩;have y:=Zh (Zag (show Below u.heap.size u u.drew by exact bE) j);have f:=Zh (Zag E.out j);refine W _ _ ⟨V.out _ (Upd.of f.out),?_⟩;clear W Kv j
 repeat refine pO ?_
 refine Zd7 ?_;have s:=M.out.old y.out;have x0:=s.cell 0 (v:=.int .i64 1) rfl;have x1:=s.cell 1 (v:=.int .i64 0) rfl;have i0:=(G.out.old f.out).cell 0 (v:=.int .i64 19) rfl;clear s;obtain ⟨y0,y1,g0,g1⟩:=Zkm (Z.out.old f.out);go_wp2;refine bodyPost_ret (v:=.tuple #[.agg #[.int .i64 1,.int .i64 0],.bool true]) (by simp [results,Tryz.results229,go_sem,y0,y1]) rfl ?_;exact Zko J.out (Zkn I.out f.out)
theorem ZlQ {a b d:Ty} (Z:Zas w la lcap ([a,b,d]:List Ty)) (h0:a.k=3) (h1:b=Zew) (X:d.k=2→0≤d.c∧d.c<m.cl.length):
  Calls Tryz.prog 229 #[ZQ.p K,.agg #[.int .i64 20,.int .i64 ia,.int .i64 ib],.slice la 3 lcap] w (Zka w (ZeD m ls ⟨20,ia,ib⟩ [a,b,d])):=by
 obtain ⟨kl,k0,k1,k2,k3,k4⟩:=H.cells;obtain ⟨ad,rfl,F,J,M,N,R,T⟩:=Zkg Z;obtain ⟨ak,G⟩:=a;obtain ⟨bk,bc⟩:=b;obtain ⟨rfl,rfl⟩:bk=1∧bc=0:=by cases h1;exact ⟨rfl,rfl⟩
 obtain ⟨C,A⟩:=d;dsimp only at F J M N R T;obtain rfl:ak=3:=h0;have HPv:=Zh (show ZeD m ls ⟨20,ia,ib⟩ [⟨3,G⟩,Zew,⟨C,A⟩]=if Zev m ⟨C,A⟩ ⟨1,0⟩=true then some ty0 else none from by rw [Zf7 rfl];rfl);have Y:(⟨1,0⟩:Ty).k=2→0≤(⟨1,0⟩:Ty).c:=fun hk=>by cases hk
 obtain ⟨ft,hft⟩:∃ x,x=Zev m ⟨C,A⟩ ⟨1,0⟩:=⟨_,rfl⟩;have HFi:=Zh (show ∀ w',Below w.heap.size w w'→Calls Tryz.prog 168 #[.agg (HM.mk h m),.agg #[.int .i64 C,.int .i64 A],.agg #[.int .i64 1,.int .i64 0]] w' (Ret w' (.bool ft)) from fun w' V=>by have:=ZjV m h ⟨C,A⟩ ⟨1,0⟩ w' (Hj.old V) X Y hd;rw [←hft] at this;exact this);have Hft:=Zh hft;clear hft;obtain ⟨E,I,HBw,HX,y,HBi,HS,aj⟩:=Zkk w 20 ia ib 3 G (l:=[(ad,.int .i64 3),(⟨ad.block,ad.off+1,none⟩,.int .i64 G),(⟨ad.block,ad.off+2,none⟩,.int .i64 1),(⟨ad.block,ad.off+3,none⟩,.int .i64 0),(⟨ad.block,ad.off+4,none⟩,.int .i64 C),(⟨ad.block,ad.off+5,none⟩,.int .i64 A),(⟨K,0,none⟩,.slice h.co m.cl.length h.cc),(⟨K,1,none⟩,.slice h.so m.st.length h.sc),(⟨K,2,none⟩,.slice h.eo m.me.length h.ec),(⟨K,3,none⟩,.int .i64 m.sel)]) ⟨F,J,M,N,R,T,k0,k1,k2,k3,trivial⟩;have aa:=Zh (Below.refl E.heap.size E);have ai:=ZdY;have ag:=ZdX;have ah:=ZdZ;have U:=Zad F;clear H Hj ht Z k0 k1 k2 k3 k4 M N R T;go_enter Tryz.func229,Tryz.ntmps229
 go_upto_region 20 with (go_at_call 228;rw [←I.out];refine (Zkd _).mono ?_;rintro r w4 ⟨rfl,f⟩;have HB4:=Zh f;have z0:=(y.out.old f).cell 0 (v:=.int .i64 3) rfl;have z1:=(y.out.old f).cell 1 (v:=.int .i64 G) rfl;have zl:=f.size;have zt:=y.out.lt;have zz:w.heap.size+2<w4.heap.size:=(by omega);clear f)
 clear F J U;clear z0 z1;have hw5:Below E.heap.size E (w4.alloc (.cells #[.int .i64 1,.int .i64 0] 38)):=bal HB4.out _;have hx5:=Blk.new w4 #[.int .i64 1,.int .i64 0] 38;obtain ⟨z,hW5⟩:∃ z,z=w4.alloc (.cells #[.int .i64 1,.int .i64 0] 38):=⟨_,rfl⟩;rw [←hW5] at hw5 hx5 ⊢;have HB1:=Zh hw5;have HX5:=Zh (show Blk z w4.heap.size #[.int .i64 1,.int .i64 0] 38 from hx5);clear hW5 hw5 hx5;refine kO HS.out (oL [0,1,2,3,4,5,6,7,8,9,10,11,112,13,14]) (Upd.of HB1.out).drew ?_;have HB2:=Zh HB1.out.drew
 repeat refine pO ?_
 refine oO fun Kv hK=>?_;go_simp;refine (Zkd _).mono ?_;rintro r w6 ⟨rfl,hb6⟩;have D:=Zh (Zag (show Below z.heap.size z z.drew by exact bE) hb6);have HB3:=Zh (Zag HB2.out hb6);refine hK _ _ ⟨HS.out _ (Upd.of HB3.out),?_⟩;clear hK Kv hb6
 repeat refine pO ?_
 refine Zd7 ?_;have hx6:=HX5.out.old D.out;have x0:=hx6.cell 0 (v:=.int .i64 1) rfl;have x1:=hx6.cell 1 (v:=.int .i64 0) rfl;exact k13
end
end
