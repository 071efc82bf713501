import Derived.Test.YtfmcclhfnpcokaaGreatG18
set_option linter.all false
set_option maxRecDepth 100000
set_option maxHeartbeats 8000000
namespace Go.Proofs.YtfmcclhfnpcokaaGreat
theorem k6{p:Prop}(h:p:=by
 clear hW5 hw5 hx5;refine kO HS.out (oL [0,1,2,3,4,5,6,7,8,9,10,11,112,13,14]) (Upd.of HB1.out).drew ?_;have HB2:=Zh HB1.out.drew
 repeat refine pO ?_
 refine oO fun Kv hK=>?_;go_simp;refine (Zkd _).mono ?_;rintro r w6 ⟨rfl,hb6⟩;have HB3:=Zh (Zag HB2.out hb6);refine hK _ _ ⟨HS.out _ (Upd.of HB3.out),?_⟩;clear hK Kv hb6
 repeat refine pO ?_
 refine Zd7 ?_;obtain ⟨y0,y1,g0,g1⟩:=Zkm (HX.out.old HB3.out);go_wp2;refine bodyPost_ret (v:=.tuple #[.agg #[.int .i64 0,.int .i64 0],.bool false]) (by simp [results,Tryz.results229,go_sem,y0,y1]) rfl ?_;exact Zkp HPv.out (Zkn HBw.out HB3.out)):p:=h
theorem k19{p:Prop}(h:p:=by
 go_enter Tryz.func229,Tryz.ntmps229
 go_upto_region 20 with (go_at_call 228;rw [←HW1.out];refine (Zkd _).mono ?_;rintro r w4 ⟨rfl,hb4⟩;have HB4:=Zh hb4;have z0:=(HBt.out.old hb4).cell 0 (v:=.int .i64 4) rfl;have z1:=(HBt.out.old hb4).cell 1 (v:=.int .i64 ac) rfl;have zl:=hb4.size;have zt:=HBt.out.lt;have zz:w.heap.size+2<w4.heap.size:=(by omega);clear hb4)
 clear a0 a1 hal;clear z0 z1;have hw5:Below W1.heap.size W1 (w4.alloc (.cells #[.int .i64 2,.int .i64 ac] 38)):=bal HB4.out _;have hx5:=Blk.new w4 #[.int .i64 2,.int .i64 ac] 38;obtain ⟨W5,hW5⟩:∃ W5,W5=w4.alloc (.cells #[.int .i64 2,.int .i64 ac] 38):=⟨_,rfl⟩;rw [←hW5] at hw5 hx5 ⊢;have HB1:=Zh hw5;have HX5:=Zh (show Blk W5 w4.heap.size #[.int .i64 2,.int .i64 ac] 38 from hx5);exact k6):p:=h
theorem k20{p:Prop}(h:p:=by
 go_enter Tryz.func229,Tryz.ntmps229
 go_upto_region 20 with (go_at_call 228;rw [←HW1.out];refine (Zkd _).mono ?_;rintro r w4 ⟨rfl,hb4⟩;have HB4:=Zh hb4;have z0:=(HBt.out.old hb4).cell 0 (v:=.int .i64 3) rfl;have z1:=(HBt.out.old hb4).cell 1 (v:=.int .i64 ac) rfl;have zl:=hb4.size;have zt:=HBt.out.lt;have zz:w.heap.size+2<w4.heap.size:=(by omega);clear hb4)
 clear a0 a1 hal;clear z0 z1;have hw5:Below W1.heap.size W1 (w4.alloc (.cells #[.int .i64 1,.int .i64 0] 38)):=bal HB4.out _;have hx5:=Blk.new w4 #[.int .i64 1,.int .i64 0] 38;obtain ⟨W5,hW5⟩:∃ W5,W5=w4.alloc (.cells #[.int .i64 1,.int .i64 0] 38):=⟨_,rfl⟩;rw [←hW5] at hw5 hx5 ⊢;have HB1:=Zh hw5;have HX5:=Zh (show Blk W5 w4.heap.size #[.int .i64 1,.int .i64 0] 38 from hx5);exact k6):p:=h
theorem k22{p:Prop}(h:p:=by
 rw [←HSn.out,←HWn.out,←hln2] at hST;subst hln2;by_cases hq:s.stk=want
 ·rw [decide_eq_true hq] at hST;have HST:=Zh hST;have HQ:=Zh hq;clear hST hq
  go_wp2_with (go_at_call 225;refine HST.out.mono ?_;rintro r w3 ⟨rfl,hb3⟩;have HB3:=Zh hb3;clear hb3;have k63:=(HK.out _ HB3.out).2;have g6:=HF6.out w3 (Zag HB1.out HB3.out))
  go_ret;exact HEY.out _ (Zag HB1.out HB3.out) (HQ.out.trans HWt.out)
 ·rw [decide_eq_false hq] at hST;have HST:=Zh hST;have HQ:=Zh hq;clear hST hq
  go_wp2_with (go_at_call 225;refine HST.out.mono ?_;rintro r w3 ⟨rfl,hb3⟩;have HB3:=Zh hb3;clear hb3)
  go_ret;have h9:=HEN.out _ (Zag HB1.out HB3.out) HQ.out;rwa [if_neg (by rw [←HSn.out,←HWn.out];simp)] at h9):p:=h
theorem k25{p:Prop}(h:p:=by
 have HB1:=Zh HB0.out.drew
 repeat refine pO ?_
 refine oO fun Kv hK=>?_;go_simp;refine (HFi.out _ (Zag HBw.out HB1.out)).mono ?_;rintro r w5 ⟨rfl,hb5⟩;have HB2:=Zh (Zag HB1.out hb5);refine hK _ _ ⟨HS.out _ (Upd.of HB2.out),?_⟩;clear hK Kv hb5
 repeat refine pO ?_
 obtain ⟨y0,y1,g0,g1⟩:=Zkm (HX.out.old HB2.out);refine oO fun Kv hK=>?_;go_simp;refine hK _ _ ⟨HS.out _ (((Upd.of HB2.out).set 0 _).set 1 _),?_⟩;clear hK Kv
 repeat refine pO ?_
 refine Zd7 ?_;go_wp2;refine bodyPost_ret (v:=.tuple #[.agg #[.int .i64 0,.int .i64 0],.bool ft]) (by simp [results,Tryz.results167,go_sem,y0,y1]) rfl ?_;exact Zks HPv.out Hft.out (Zkn HBw.out HB2.out)):p:=h
theorem k29{p:Prop}(h:p:=by
 cases hh:(!decide (bk=1)||!decide (bc=0))
 ·simp only [Bool.or_eq_false_iff,Bool.not_eq_false',decide_eq_true_eq] at hh;exact absurd (by rw [hh.1,hh.2];rfl) h1
 ·rfl):p:=h
theorem k55{p:Prop}(h:p:=by
 have hq:s.stk≠want:=fun e=>hln2 (by rw [HSn.out,HWn.out,e]);have HQ:=Zh hq;have HL2:=Zh hln2;clear hq hln2;go_wp2;go_ret;have h9:=HEN.out _ HB1.out HQ.out;rwa [if_pos (by rw [←HSn.out,←HWn.out];exact HL2.out)] at h9):p:=h
theorem k65{p:Prop}(h:p:=by
 go_wp2;refine bodyPost_ret (v:=.tuple #[.agg #[.int .i64 0,.int .i64 0],.bool false]) (by simp [results,Tryz.results167,go_sem,y0,y1]) rfl ?_;exact Zkp HPv.out (Zkn HBw.out HB1.out)):p:=h
section
open Go.RowKit
section
variable {w:World}{K:Nat}{h:Hd}{m:Md}{lo:Option Addr}{lc:Nat}{ls:List Ty}{S O:Value}(H:Pk w K h m (.slice lo ls.length lc) S O)(Hj:Zaz w h m)(hd:ZcZ m m.cl.length)(ht:Zas w lo lc ls){ia ib:Int}{la:Option Addr}{lcap:Nat}
include w K h m lo lc ls S O H Hj hd ht ia ib la lcap
theorem Zla (c:Zas w la lcap ([]:List Ty)):
  Calls Tryz.prog 167 #[ZQ.p K,.agg #[.int .i64 14,.int .i64 ia,.int .i64 ib],.slice la 0 lcap] w (Zka w (ZeD m ls ⟨14,ia,ib⟩ [])):=by
 have a:=Zh (show ZeD m ls ⟨14,ia,ib⟩ []=some ⟨2,ia⟩ from Zf1 rfl);clear H Hj ht c;go_enter Tryz.func167,Tryz.ntmps167;go_wp2;refine bodyPost_ret (v:=.tuple #[.agg #[.int .i64 2,.int .i64 ia],.bool true]) (by simp [results,Tryz.results167,go_sem,Nat.add_zero]) rfl ?_;exact Zko a.out bE
theorem p_5 {a:Ty} (e:Zas w la lcap ([a]:List Ty)):
  Calls Tryz.prog 167 #[ZQ.p K,.agg #[.int .i64 5,.int .i64 ia,.int .i64 ib],.slice la 1 lcap] w (Zka w (ZeD m ls ⟨5,ia,ib⟩ [a])):=by
 have c:=Zh (show ZeD m ls ⟨5,ia,ib⟩ [a]=some a from pv5 rfl);obtain ⟨l,rfl,d,f⟩:=Zke e;obtain ⟨j,g⟩:=a;dsimp only at d f;clear H Hj ht e;have k:=Zad d;go_enter Tryz.func167,Tryz.ntmps167;go_wp2;refine bodyPost_ret (v:=.tuple #[.agg #[.int .i64 j,.int .i64 g],.bool true]) (by simp [results,Tryz.results167,go_sem,Nat.add_zero]) rfl ?_;exact Zko c.out bE
theorem Zlb {a:Ty} (I:Zas w la lcap ([a]:List Ty)):
  Calls Tryz.prog 167 #[ZQ.p K,.agg #[.int .i64 13,.int .i64 ia,.int .i64 ib],.slice la 1 lcap] w (Zka w (ZeD m ls ⟨13,ia,ib⟩ [a])):=by
 have z:=Zh (show ZeD m ls ⟨13,ia,ib⟩ [a]=if (!decide (a=Zew))=true then some Zew else none from by rw [Zf0 rfl];show (if decide (a≠Zew)=true then _ else _)=_;simp);obtain ⟨D,rfl,B,C⟩:=Zke I;obtain ⟨G,F⟩:=a;dsimp only at B C;obtain ⟨E,A,y,J,u,T⟩:=Zkj w 13 ia ib (l:=[(D,.int .i64 G),(⟨D.block,D.off+1,none⟩,.int .i64 F)]) ⟨B,C,trivial⟩;have g:=Zh (Below.refl E.heap.size E);have R:=ZdY;have L:=ZdX;have M:=ZdZ;clear H Hj ht I B C;go_enter Tryz.func167,Tryz.ntmps167
 go_upto_region 24 with fail
 rw [←A.out];refine kO u.out (oL [1,2,3,100,104,5,106,7]) (Upd.of g.out).drew ?_;have x:=Zh g.out.drew
 repeat refine pO ?_
 refine oO fun n f=>?_;go_simp;refine (Zkd _).mono ?_;rintro r Y ⟨rfl,p⟩;have j:=Zh (Zag x.out p);refine f _ _ ⟨u.out _ (Upd.of j.out),?_⟩;clear f n p
 repeat refine pO ?_
 refine oO fun n f=>?_;go_simp;refine (Zkd _).mono ?_;rintro r Z ⟨rfl,q⟩;have e:=Zh (Zag j.out q);refine f _ _ ⟨u.out _ (Upd.of e.out),?_⟩;clear f n q
 repeat refine pO ?_
 obtain ⟨U,V,W,X⟩:=Zkm (J.out.old e.out);refine oO fun n f=>?_;go_simp;refine f _ _ ⟨u.out _ (((Upd.of e.out).set 0 _).set 1 _),?_⟩;clear f n
 repeat refine pO ?_
 refine Zd7 ?_;go_wp2;refine bodyPost_ret (v:=.tuple #[.agg #[.int .i64 1,.int .i64 0],.bool (!decide (G=1)||!decide (F=0))]) (by simp [results,Tryz.results167,go_sem,U,V]) rfl ?_;exact Zks z.out (by rw [Zhs,Bool.not_and];rfl) (Zkn y.out e.out)
theorem Zlc {a:Ty} (E:Zas w la lcap ([a]:List Ty)) (M:0≤ia) (R:¬ ia<ls.length):
  Calls Tryz.prog 167 #[ZQ.p K,.agg #[.int .i64 3,.int .i64 ia,.int .i64 ib],.slice la 1 lcap] w (Zka w (ZeD m ls ⟨3,ia,ib⟩ [a])):=by
 have HPv:=Zh (show ZeD m ls ⟨3,ia,ib⟩ [a]=none from by rw [pv3 rfl,List.getElem?_eq_none (by dsimp only;omega)];rfl);have D:decide (ia<(ls.length:Int))=false:=by simp;omega
 obtain ⟨V,k0,k1,k2,k3,k4⟩:=H.cells;obtain ⟨ad,rfl,z,A⟩:=Zke E;obtain ⟨G,F⟩:=a;dsimp only at z A;obtain ⟨C,y,HBw,HX,HS,U⟩:=Zkj w 3 ia ib (l:=[(ad,.int .i64 G),(⟨ad.block,ad.off+1,none⟩,.int .i64 F),(⟨K,4,none⟩,.slice lo ls.length lc)]) ⟨z,A,k4,trivial⟩;have f:=Zh (Below.refl C.heap.size C);have T:=ZdY;have I:=ZdX;have J:=ZdZ;clear H Hj ht E k0 k1 k2 k3 k4 z A;go_enter Tryz.func167,Tryz.ntmps167
 go_upto_region 9 with fail
 rw [←y.out];refine kO HS.out (oL [0,1,2,3,4,5,6,7,8,9,10,11,12,13,14,15,16,17,18,19,20,21,22,23,24,125,26,127,28]) (Upd.of f.out).drew ?_;have HB1:=Zh f.out.drew
 repeat refine pO ?_
 refine sO 59 (HS.out _ (Upd.of HB1.out)) ?_
 repeat refine pO ?_
 obtain ⟨y0,y1,g0,g1⟩:=Zkm (HX.out.old f.out);refine oO fun Kv hK=>?_;go_simp;refine hK _ _ ⟨HS.out _ (((Upd.of HB1.out).set 0 _).set 1 _),?_⟩;clear hK Kv
 repeat refine pO ?_
 refine Zd7 ?_;exact k65
theorem p_4 {a:Ty} (hr:Zas w la lcap ([a]:List Ty)):
  Calls Tryz.prog 167 #[ZQ.p K,.agg #[.int .i64 4,.int .i64 ia,.int .i64 ib],.slice la 1 lcap] w (Zka w (ZeD m ls ⟨4,ia,ib⟩ [a])):=by
 have HPv:=Zh (show ZeD m ls ⟨4,ia,ib⟩ [a]=some ty0 from pvx (by simp));obtain ⟨f,rfl,c,d⟩:=Zke hr;obtain ⟨g,e⟩:=a;dsimp only at c d;exact k12
theorem Zld {a:Ty} (q:Zas w la lcap ([a]:List Ty)) (g:a.k≠2):
  Calls Tryz.prog 229 #[ZQ.p K,.agg #[.int .i64 17,.int .i64 ia,.int .i64 ib],.slice la 1 lcap] w (Zka w (ZeD m ls ⟨17,ia,ib⟩ [a])):=by
 have HPv:=Zh (show ZeD m ls ⟨17,ia,ib⟩ [a]=none from by rw [Zf4 rfl];show ZeA m a ia=none;unfold ZeA;rw [if_neg g]);obtain ⟨e,rfl,a0,a1⟩:=Zke q;obtain ⟨f,n⟩:=a;dsimp only at a0 a1;have C:(f != 2)=true:=by simpa using g
 clear g;obtain ⟨j,HW1,HBw,HX,x,u,HS,B⟩:=Zkk w 17 ia ib f n (l:=[(e,.int .i64 f),(⟨e.block,e.off+1,none⟩,.int .i64 n)]) ⟨a0,a1,trivial⟩;have HB0:=Zh (Below.refl j.heap.size j);have A:=ZdY;have y:=ZdX;have z:=ZdZ;have hal:=Zad a0;clear H Hj ht q;go_enter Tryz.func229,Tryz.ntmps229
 go_upto_region 4 with fail
 exact k8
theorem Zle {a b:Ty} (hr:Zas w la lcap ([a,b]:List Ty)) (ao:a.k=2→0≤a.c∧a.c<m.cl.length) (X:b.k=2→0≤b.c∧b.c<m.cl.length) (hft:∀ t∈(m.cl.getD a.c.toNat default).f,Zfk m t) (h1:a.k=2) (aC:0≤ia) (V:ia<(m.cl.getD a.c.toNat default).f.length):
  Calls Tryz.prog 229 #[ZQ.p K,.agg #[.int .i64 18,.int .i64 ia,.int .i64 ib],.slice la 2 lcap] w (Zka w (ZeD m ls ⟨18,ia,ib⟩ [a,b])):=by
 obtain ⟨kl,k0,k1,k2,k3,k4⟩:=H.cells;obtain ⟨ad,rfl,Y,a1,b0,b1⟩:=Zkf hr;obtain ⟨ak,ac⟩:=a;obtain ⟨G,F⟩:=b;dsimp only at Y a1 b0 b1;dsimp only at hft X;dsimp only at V;obtain rfl:ak=2:=h1;obtain ⟨al,an⟩:=ao rfl;dsimp only at al an;obtain ⟨c,rfl⟩:∃ d:Nat,ac=d:=⟨ac.toNat,by omega⟩;have D:c<m.cl.length:=by omega
 have au:(c:Int) < m.cl.length:=by omega
 obtain ⟨ca,I,-,-,Z,-⟩:=Hj.cls D;have J:=Hj.f c D;obtain ⟨T,y⟩:∃ l,l=(m.cl.getD c default).f:=⟨_,rfl⟩;have E:ZeA m ⟨2,(c:Int)⟩ ia=T[ia.toNat]?:=by rw [y];show (if (2:Int)=2 then (m.cl.getD ((c:Int)).toNat default).f[ia.toNat]? else none)=_;rw [if_pos rfl,Int.toNat_natCast]
 rw [←y] at Z J;have M:=k0;rw [I] at M;rw [Int.toNat_natCast,←y] at V;obtain ⟨ia,rfl⟩:∃ d:Nat,ia=d:=⟨ia.toNat,by omega⟩;have z:ia<T.length:=by omega
 obtain ⟨fa,U,u0,u1⟩:=ZaA J z;obtain ⟨⟨C,A⟩,hu⟩:∃ u,u=T.getD ia default:=⟨_,rfl⟩;have f:ZeA m ⟨2,(c:Int)⟩ (ia:Int)=some ⟨C,A⟩:=by rw [E,Int.toNat_natCast,hu];exact getD_some z
 rw [U] at Z;rw [←hu] at u0 u1;dsimp only at u0 u1;have aA:decide ((T.length:Int)≤(ia:Int))=false:=by simp;omega
 rw [Int.toNat_natCast,←y] at hft;have ap:(⟨C,A⟩:Ty).k=2→0≤(⟨C,A⟩:Ty).c:=fun hk=>(ZfH (hft ⟨C,A⟩ (by rw [hu];exact ZfX _ z)) (.inl hk)).1;have HPv:=Zh (show ZeD m ls ⟨18,(ia:Int),ib⟩ [⟨2,(c:Int)⟩,⟨G,F⟩]=if Zev m ⟨G,F⟩ ⟨C,A⟩=true then some ty0 else none from by rw [Zf5 rfl];rw [show ZeA m ([(⟨2,(c:Int)⟩:Ty),⟨G,F⟩].getD 0 default) (ia:Int)=some ⟨C,A⟩ from f];rfl);obtain ⟨ft,hft⟩:∃ x,x=Zev m ⟨G,F⟩ ⟨C,A⟩:=⟨_,rfl⟩;have HFi:=Zh (show ∀ w',Below w.heap.size w w'→Calls Tryz.prog 168 #[.agg (HM.mk h m),.agg #[.int .i64 G,.int .i64 F],.agg #[.int .i64 C,.int .i64 A]] w' (Ret w' (.bool ft)) from fun w' aj=>by have:=ZjV m h ⟨G,F⟩ ⟨C,A⟩ w' (Hj.old aj) X ap hd;rw [←hft] at this;exact this);have Hft:=Zh hft;clear hft;rw [I] at HFi;clear E f y J I hu U hft;obtain ⟨W1,ab,HBw,HX,ax,aw,HS,aE⟩:=Zkk w 18 ia ib 2 c (l:=[(ad,.int .i64 2),(⟨ad.block,ad.off+1,none⟩,.int .i64 c),(⟨ad.block,ad.off+2,none⟩,.int .i64 G),(⟨ad.block,ad.off+3,none⟩,.int .i64 F),(⟨K,0,none⟩,.slice (some ca) m.cl.length h.cc),(⟨K,1,none⟩,.slice h.so m.st.length h.sc),(⟨K,2,none⟩,.slice h.eo m.me.length h.ec),(⟨K,3,none⟩,.int .i64 m.sel),(⟨(ca.add (c*4)).block,(ca.add (c*4)).off+2,none⟩,.slice (some fa) T.length (h.c c).fc),((fa.add (ia*2)),.int .i64 C),(⟨(fa.add (ia*2)).block,(fa.add (ia*2)).off+1,none⟩,.int .i64 A)]) ⟨Y,a1,b0,b1,M,k1,k2,k3,Z,u0,u1,trivial⟩;have R:=Zh (Below.refl W1.heap.size W1);have aD:=ZdY;have az:=ZdX;have aB:=ZdZ;have ai:=Zad Y;clear H Hj ht hr k0 k1 k2 k3 k4 b0 b1 M Z u0 u1
 go_enter Tryz.func229,Tryz.ntmps229
 go_upto_region 8 with fail
 rw [←ab.out];clear Y a1 ai;refine kO HS.out (oL [0,1,2,3,4,5,6,7,8,9,10,11,12,13,14,15,16,17,18]) (Upd.of R.out).drew ?_;have HB1:=Zh R.out.drew
 repeat refine pO ?_
 refine Zd7 ?_
 go_wp2_with fail
 refine kO HS.out (oL [0,1,2,3,4,5,6,7,8,9,10,11,12,13,14,15,16,17,18,19,20,21,122,123,24]) (Upd.of HB1.out).drew ?_;have HB2:=Zh HB1.out.drew
 repeat refine pO ?_
 refine oO fun Kv hK=>?_;go_simp;refine (HFi.out _ (Zag HBw.out HB2.out)).mono ?_;rintro r w6 ⟨rfl,hb6⟩;have HB3:=Zh (Zag HB2.out hb6);refine hK _ _ ⟨HS.out _ (Upd.of HB3.out),?_⟩;clear hK Kv hb6
 repeat refine pO ?_
 obtain ⟨y0,y1,g0,g1⟩:=Zkm (HX.out.old HB3.out);refine oO fun Kv hK=>?_;go_simp;refine hK _ _ ⟨HS.out _ (((Upd.of HB3.out).set 0 _).set 1 _),?_⟩;clear hK Kv
 repeat refine pO ?_
 refine Zd7 ?_;go_wp2;refine bodyPost_ret (v:=.tuple #[.agg #[.int .i64 0,.int .i64 0],.bool ft]) (by simp [results,Tryz.results229,go_sem,y0,y1]) rfl ?_;exact Zks HPv.out Hft.out (Zkn HBw.out HB3.out)
theorem Zlf {a:Ty} (Z:Zas w la lcap ([a]:List Ty)) (X:a.k=2→0≤a.c∧a.c<m.cl.length) (h1:a.k=2) (U:0≤ia) (V:ia<m.cl.length) (R:Zev m ⟨2,ia⟩ a=true):
  Calls Tryz.prog 229 #[ZQ.p K,.agg #[.int .i64 24,.int .i64 ia,.int .i64 ib],.slice la 1 lcap] w (Zka w (ZeD m ls ⟨24,ia,ib⟩ [a])):=by
 obtain ⟨kl,k0,k1,k2,k3,k4⟩:=H.cells;obtain ⟨ad,rfl,G,M⟩:=Zke Z;obtain ⟨ak,f⟩:=a;dsimp only at G M;obtain rfl:ak=2:=h1;obtain ⟨A,C⟩:=X rfl;dsimp only at A C;obtain ⟨q2,F⟩:∃ x,x=Zev m ⟨2,f⟩ ⟨2,ia⟩:=⟨_,rfl⟩;have D:Zev m ⟨2,ia⟩ ⟨2,f⟩=ZaI m (ia.toNat+1) ia f:=by simp [Zev]
 have E:Zev m ⟨2,f⟩ ⟨2,ia⟩=ZaI m (f.toNat+1) f ia:=by simp [Zev]
 have I:=Zh (show ∀ w',Below w.heap.size w w'→Calls Tryz.prog 231 #[.agg (HM.mk h m),.int .i64 ia,.int .i64 f] w' (Ret w' (.bool true)) from fun w' y=>by have:=ZjU m h ia f w' (Hj.old y) V A hd;rw [←D,R] at this;exact this);have aa:=Zh (show ∀ w',Below w.heap.size w w'→Calls Tryz.prog 231 #[.agg (HM.mk h m),.int .i64 f,.int .i64 ia] w' (Ret w' (.bool q2)) from fun w' y=>by have:=ZjU m h f ia w' (Hj.old y) C U hd;rw [←E,←F] at this;exact this);have HPv:=Zh (show ZeD m ls ⟨24,ia,ib⟩ [⟨2,f⟩]=some ⟨2,ia⟩ from by rw [Zgb rfl];rw [show (decide (([(⟨2,f⟩:Ty)].getD 0 default).k=2)&&(Zev m ([(⟨2,f⟩:Ty)].getD 0 default) ⟨2,ia⟩||Zev m ⟨2,ia⟩ ([(⟨2,f⟩:Ty)].getD 0 default)))=true from by show (true&&(Zev m ⟨2,f⟩ ⟨2,ia⟩||Zev m ⟨2,ia⟩ ⟨2,f⟩))=_;rw [R];simp];rfl);clear D E R F;obtain ⟨Y,J,HBw,HX,ae,ab,HS,aj⟩:=Zkk w 24 ia ib 2 f (l:=[(ad,.int .i64 2),(⟨ad.block,ad.off+1,none⟩,.int .i64 f),(⟨K,0,none⟩,.slice h.co m.cl.length h.cc),(⟨K,1,none⟩,.slice h.so m.st.length h.sc),(⟨K,2,none⟩,.slice h.eo m.me.length h.ec),(⟨K,3,none⟩,.int .i64 m.sel)]) ⟨G,M,k0,k1,k2,k3,trivial⟩;have z:=Zh (Below.refl Y.heap.size Y);have ai:=ZdY;have ag:=ZdX;have ah:=ZdZ;have T:=Zad G;clear H Hj ht Z k0 k1 k2 k3 k4;go_enter Tryz.func229,Tryz.ntmps229
 go_upto_region 16 with fail
 rw [←J.out];clear G M T;refine kO HS.out (oL [0,1,2,3,4,5,6,7,8,9,10,111,12,13,14,15,16,17,18,19,20,121,22,123,24]) (Upd.of z.out).drew ?_;have HB1:=Zh z.out.drew
 repeat refine pO ?_
 refine oO fun Kv hK=>?_;go_simp;refine (I.out _ (Zag HBw.out HB1.out)).mono ?_;rintro r w5 ⟨rfl,hb5⟩;have HB2:=Zh (Zag HB1.out hb5);refine hK _ _ ⟨HS.out _ (Upd.of HB2.out),?_⟩;clear hK Kv hb5
 repeat refine pO ?_
 refine sO 134 (HS.out _ (Upd.of HB2.out)) ?_
 repeat refine pO ?_
 obtain ⟨y0,y1,g0,g1⟩:=Zkm (HX.out.old HB2.out);refine oO fun Kv hK=>?_;go_simp;refine hK _ _ ⟨HS.out _ (((Upd.of HB2.out).set 0 _).set 1 _),?_⟩;clear hK Kv
 repeat refine pO ?_
 refine Zd7 ?_;go_wp2;refine bodyPost_ret (v:=.tuple #[.agg #[.int .i64 2,.int .i64 ia],.bool true]) (by simp [results,Tryz.results229,go_sem,y0,y1]) rfl ?_;exact k88
theorem Zlg {a b:Ty} (j:Zas w la lcap ([a,b]:List Ty)) (x:a.k=4) (h1:b≠Zew):
  Calls Tryz.prog 229 #[ZQ.p K,.agg #[.int .i64 19,.int .i64 ia,.int .i64 ib],.slice la 2 lcap] w (Zka w (ZeD m ls ⟨19,ia,ib⟩ [a,b])):=by
 have HPv:=Zh (show ZeD m ls ⟨19,ia,ib⟩ [a,b]=none from by rw [Zf6 rfl];exact if_neg h1);obtain ⟨e,rfl,a0,a1,f,g⟩:=Zkf j;obtain ⟨u,ac⟩:=a;obtain ⟨bk,bc⟩:=b;dsimp only at a0 a1 f g;obtain rfl:u=4:=x;have y:(!decide (bk=1)||!decide (bc=0))=true:=by exact k29
 clear h1;obtain ⟨W1,HW1,HBw,HX,HBt,q,HS,C⟩:=Zkk w 19 ia ib 4 ac (l:=[(e,.int .i64 4),(⟨e.block,e.off+1,none⟩,.int .i64 ac),(⟨e.block,e.off+2,none⟩,.int .i64 bk),(⟨e.block,e.off+3,none⟩,.int .i64 bc)]) ⟨a0,a1,f,g,trivial⟩;have n:=Zh (Below.refl W1.heap.size W1);have B:=ZdY;have z:=ZdX;have A:=ZdZ;have hal:=Zad a0;clear H Hj ht j f g;exact k19
theorem Zlh {a b d:Ty} (C:Zas w la lcap ([a,b,d]:List Ty)) (h0:a.k=4) (h1:b≠Zew):
  Calls Tryz.prog 229 #[ZQ.p K,.agg #[.int .i64 20,.int .i64 ia,.int .i64 ib],.slice la 3 lcap] w (Zka w (ZeD m ls ⟨20,ia,ib⟩ [a,b,d])):=by
 have HPv:=Zh (show ZeD m ls ⟨20,ia,ib⟩ [a,b,d]=none from by rw [Zf7 rfl];rw [show (decide ([a,b,d].getD 1 default=Zew)&&ZeC m ([a,b,d].getD 2 default) (ZeB ([a,b,d].getD 0 default)))=false from by rw [show [a,b,d].getD 1 default=b from rfl,decide_eq_false h1];rfl];rfl);obtain ⟨V,k0,k1,k2,k3,k4⟩:=H.cells;obtain ⟨ad,rfl,a0,a1,f,y,z,A⟩:=Zkg C;obtain ⟨F,ac⟩:=a;obtain ⟨bk,bc⟩:=b;obtain ⟨I,G⟩:=d;dsimp only at a0 a1 f y z A;obtain rfl:F=4:=h0;have J:(!decide (bk=1)||!decide (bc=0))=true:=by exact k29
 clear h1;obtain ⟨W1,HW1,HBw,HX,HBt,E,HS,U⟩:=Zkk w 20 ia ib 4 ac (l:=[(ad,.int .i64 4),(⟨ad.block,ad.off+1,none⟩,.int .i64 ac),(⟨ad.block,ad.off+2,none⟩,.int .i64 bk),(⟨ad.block,ad.off+3,none⟩,.int .i64 bc),(⟨ad.block,ad.off+4,none⟩,.int .i64 I),(⟨ad.block,ad.off+5,none⟩,.int .i64 G),(⟨K,0,none⟩,.slice h.co m.cl.length h.cc),(⟨K,1,none⟩,.slice h.so m.st.length h.sc),(⟨K,2,none⟩,.slice h.eo m.me.length h.ec),(⟨K,3,none⟩,.int .i64 m.sel)]) ⟨a0,a1,f,y,z,A,k0,k1,k2,k3,trivial⟩;have D:=Zh (Below.refl W1.heap.size W1);have T:=ZdY;have M:=ZdX;have R:=ZdZ;have hal:=Zad a0;clear H Hj ht C k0 k1 k2 k3 k4 f y z A;exact k19
end
end
section
open Go.RowKit
structure Op6 (w:World) (N:Nat) (oo:Option Addr) (oc:Nat) (bs:List VB) (os:List Opn):Prop where
 own:w.ownsRow N 213 4 (.slice oo bs.length oc) bs.length (Zal bs)
 len:bs.length=os.length
 at_:∀ i,i<bs.length→ZhJ w (bs.getD i default) (os.getD i default)
theorem Pk.noTy {w:World}{K:Nat}{h:Hd}{m:Md}{L S O:Value} (H:Pk w K h m L S O):ZeS w K:=⟨Blk.lt H,fun c z a=>by
 rw [show w.heap[K]?=_ from H] at a
 cases a⟩
section
variable {w:World}{N:Nat}{oo:Option Addr}{oc:Nat}{bs:List VB}{os:List Opn}(H:Op6 w N oo oc bs os)
include w N oo oc bs os H
theorem Op6.blk {a:Addr} (ha:oo=some a):∃ g cur,a=⟨g,0,none⟩∧N≤g∧w.heap[g]?=some (.cells cur 213 (0,0)):=by exact k75
theorem Op6.noTy {K:Nat} (hK:ZeS w K):ZeS w (ZhL K oo):=by exact k57
theorem Op6.ne {K:Nat} {h:Hd} {m:Md} {L S O:Value} (hc:Pk w K h m L S O) {a:Addr} (ha:oo=some a):a.block≠K:=by exact k86
end
theorem Op6.upd {w w':World}{N:Nat}{oo:Option Addr}{oc:Nat}{bs:List VB}{os:List Opn}{K:Nat} (H:Op6 w N oo oc bs os) (hu:Upd K K w w') (hK:ZeS w K) (hne:∀ a,oo=some a→a.block≠K):Op6 w' N oo oc bs os:=by exact k51
theorem Zli {w:World}{N:Nat}{oo:Option Addr}{oc:Nat}{bs:List VB}{os:List Opn} (H:Op6 w N oo oc bs os):Ze6 bs=Zex os:=by exact k39
structure S6 (w0 w:World) (K:Nat) (h:Hd) (m:Md) (lo:Option Addr) (lc:Nat) (ls:List Ty) (s:Ps) (so:Option Addr) (sc:Nat) (oo:Option Addr) (oc:Nat) (bs:List VB):Prop where
 pk:Pk w K h m (.slice lo ls.length lc) (.slice so s.stk.length sc) (.slice oo bs.length oc)
 ts:ZeR w so sc s.stk
 op:Op6 w w0.heap.size oo oc bs s.opn
 tl:ZeR w lo lc ls
 hb:Below w0.heap.size w0 w
 hK:w0.heap.size≤K
def P6 (w0 w:World) (K:Nat) (h:Hd) (m:Md) (lo:Option Addr) (lc:Nat) (ls:List Ty) (oo:Option Addr) (q:Int × Ps) (r:Ending) (w':World):Prop:=
 r=.returned (.int .i64 q.1)∧Upd K (ZhL K oo) w w'∧(q.1=0→∃ so sc oo oc bs,S6 w0 w' K h m lo lc ls q.2 so sc oo oc bs)
section
variable {w0 w:World}{K:Nat}{h:Hd}{m:Md}{lo:Option Addr}{lc:Nat}{ls:List Ty}{s:Ps}{so:Option Addr}{sc:Nat}{oo:Option Addr}{oc:Nat}{bs:List VB}{i:In3}{r:List Opn}{o:Opn}{br:List VB}{b:VB}
section
variable (H:S6 w0 w K h m lo lc ls s so sc oo oc bs)
include H
theorem S6.ne:∀ a,oo=some a→a.block≠K:=fun _ c=>H.op.ne H.pk c
theorem S6.last (hs:s.opn=r++[o]):∃ br b,bs=br++[b]∧br.length=r.length:=by exact k52
theorem S6.top (hs:s.opn=r++[o]) (hb:bs=br++[b]) (hl:br.length=r.length):ZhJ w b o∧∃ g,oo=some ⟨g,0,none⟩∧g≠K∧w0.heap.size≤g∧g<w.heap.size∧ZeS w g∧bs.length≤oc∧w.ownsRow w0.heap.size 213 4 (.slice (some ⟨g,0,none⟩) bs.length oc) bs.length (Zal br++Cells.cells b):=by
 have a:=H.op.at_ br.length (by rw [hb];simp);rw [hs,hb] at a;rw [show (br++[b]).getD br.length default=b by simp,hl,show (r++[o]).getD r.length default=o by simp] at a;refine ⟨a,?_⟩;have hown:=H.op.own;rcases hown.2 with ⟨_,d⟩|⟨g,c,e,f,hbb,hg,hle,_⟩
 ·rw [hb] at d;simp at d
 ·cases f;have hnt:=H.op.noTy H.pk.noTy;exact k64
end
theorem Op6.at_upd {w':World}{B:Nat} (H:Op6 w w0.heap.size oo oc bs s.opn) (hu:Upd K B w w') (hK:ZeS w K) (hB:ZeS w B) (hs:s.opn=r++[o]) (hb:bs=br++[b]) (hl:br.length=r.length) {j:Nat} (hj:j<br.length):ZhJ w' (br.getD j default) (r.getD j default):=by exact k48
theorem Zlj {base g oc n:Nat} (h:w.ownsRow base 213 4 (.slice (some ⟨g,0,none⟩) n oc) n (Zal br++Cells.cells b)):∃ a,a=(⟨g,0,none⟩:Addr).add (br.length*4)∧a=⟨g,br.length*4,none⟩ ∧
  w.cell? a=some (.int .i64 b.op)∧w.cell? ⟨a.block,a.off+1,none⟩=some (.slice b.bo b.bn b.bc)∧w.cell? ⟨a.block,a.off+2,none⟩=some (.slice b.fo b.fn b.fc)∧w.cell? ⟨a.block,a.off+3,none⟩=some (.bool b.mid)∧(∀ j,w.frozen? ⟨g,j,none⟩=false):=by
 have hf:(Zal br).length=br.length*4:=Zan br;exact k27
section
variable (H:S6 w0 w K h m lo lc ls s so sc oo oc bs)
include H
theorem Zlk (ae:i.op=34) (hs:s.opn=r++[o]) (Y:bs=br++[b]) (T:br.length=r.length) {g:Nat} (M:oo=some ⟨g,0,none⟩) {W3 W4 v:World} (F:Below w.heap.size w W3) {c:Option Addr} {a:Nat} (aj:ZeR W3 c a s.stk) (p:W4=(((W3.drew.setCell ⟨g,br.length*4,none⟩ (.int .i64 b.op)).setCell ⟨g,br.length*4+1,none⟩ (.slice b.bo b.bn b.bc)).setCell ⟨g,br.length*4+2,none⟩ (.slice c s.stk.length a)).setCell ⟨g,br.length*4+3,none⟩ (.bool true)) (R:Below W4.heap.size W4 v) {l:Option Addr} {f:Nat} (aa:ZeR v l f o.beg):
  P6 w0 w K h m lo lc ls oo (ZeE m ls i s) (.returned (.int .i64 0)) (v.setCell ⟨K,5,none⟩ (.slice l o.beg.length f)):=by
 obtain ⟨Z,g',J,q,ac,L,y,ay,A⟩:=H.top hs Y T;rw [M] at J;cases J;subst M;have al:Upd K g w W3:=Upd.of F;have am:Upd K g w W4:=by rw [p];exact (((al.drew.setB _ _).setB _ _).setB _ _).setB _ _
 have B:Upd g g W3 W4:=by rw [p];exact ((((Upd.refl g g W3).drew.setB _ _).setB _ _).setB _ _).setB _ _
 have an:Upd K g w v:=am.bel R;have d:Upd K g w (v.setCell ⟨K,5,none⟩ (.slice l o.beg.length f)):=an.set 5 _;have af:=H.pk.old F;have D:Pk W4 K h m (.slice lo ls.length lc) (.slice so s.stk.length sc) (.slice (some ⟨g,0,none⟩) bs.length oc):=by rw [p];exact Blk.other (Blk.other (Blk.other (Blk.other (Blk.drew af) (by exact q.symm) _) (by exact q.symm) _) (by exact q.symm) _) (by exact q.symm) _
 have P:=D.old R;have ag:Pk (v.setCell ⟨K,5,none⟩ (.slice l o.beg.length f)) K h m (.slice lo ls.length lc) (.slice l o.beg.length f) (.slice (some ⟨g,0,none⟩) bs.length oc):=Blk.set P 5 _;have t:ZeS W3 g:=⟨Nat.lt_of_lt_of_le L F.size,fun xs z=>by rw [F.block g L];exact y.2 xs z⟩;have G:ZeS v K:=Pk.noTy P;have ao:ZeS W4 g:=⟨Nat.lt_of_lt_of_le t.1 B.size,fun xs z=>by
  intro hx;have ai:∃ n,W4.heap[g]?=some (.cells n 213 (0,0)):=by obtain ⟨g2,n,e2,_,ab⟩:=H.op.blk rfl;cases e2;have q3:Blk W3 g n 213:=(show Blk w g n 213 from ab).old F;rw [p];exact ⟨_,Blk.set (Blk.set (Blk.set (Blk.set (Blk.drew q3) _ _) _ _) _ _) _ _⟩
  obtain ⟨n,hc⟩:=ai;rw [hc] at hx;cases hx⟩
 have ak:ZeR W4 c a s.stk:=aj.upd B t t;have E:ZeE m ls i s=(0,⟨o.beg,r++[{ o with past:=s.stk,mid:=true }]⟩):=by unfold ZeE;rw [if_pos ae,hs];simp
 rw [E];refine ⟨rfl,d,fun _=>?_⟩;have I:bs.length=br.length+1:=by rw [Y];simp
 have u:(br++[({ b with fo:=c,fn:=s.stk.length,fc:=a,mid:=true }:VB)]).length=bs.length:=by rw [I];simp
 have Q:Upd K K W4 (v.setCell ⟨K,5,none⟩ (.slice l o.beg.length f)):=((Upd.of R).set 5 _);refine ⟨l,f,some ⟨g,0,none⟩,oc,br++[{ b with fo:=c,fn:=s.stk.length,fc:=a,mid:=true }],?_⟩;refine ⟨?_,aa.upd ((Upd.refl K K v).set 5 _) G G,⟨?_,by simp [T],fun j hj=>?_⟩,H.tl.upd d H.pk.noTy y,d.below H.hb (Nat.le_refl _) H.hK ac,H.hK⟩
 ·rw [u];exact ag
 ·rw [u,Zao,Zap];have U:W3.drew.ownsRow w0.heap.size 213 4 (.slice (some ⟨g,0,none⟩) bs.length oc) bs.length (Zal br++Cells.cells b):=(ZhM A fun k hk=>F.block k (A.lt k hk).2).drew;have V:=(U.stored (br.length*4) (.int .i64 b.op)).1;have W:=(V.stored (br.length*4+1) (.slice b.bo b.bn b.bc)).1;have X:=(W.stored (br.length*4+2) (.slice c s.stk.length a)).1;have x:=(X.stored (br.length*4+3) (.bool true)).1;rw [←p] at x;have hf:(Zal br).length=br.length*4:=Zan br;have e:((((Zal br++Cells.cells b).set (br.length*4) (.int .i64 b.op)).set (br.length*4+1) (.slice b.bo b.bn b.bc)).set (br.length*4+2) (Value.slice c s.stk.length a)).set (br.length*4+3) (.bool true)=Zal br++Cells.cells ({ b with fo:=c,fn:=s.stk.length,fc:=a,mid:=true }:VB):=by rw [←hf,List.set_append_right (h:=by omega),List.set_append_right (h:=by omega),List.set_append_right (h:=by omega),List.set_append_right (h:=by omega)];congr 1;rw [show (Zal br).length-(Zal br).length=0 by omega,show (Zal br).length+1-(Zal br).length=1 by omega,show (Zal br).length+2-(Zal br).length=2 by omega,show (Zal br).length+3-(Zal br).length=3 by omega];rfl
  rw [e] at x;have h6:v.ownsRow w0.heap.size 213 4 (.slice (some ⟨g,0,none⟩) bs.length oc) bs.length (Zal br++Cells.cells ({ b with fo:=c,fn:=s.stk.length,fc:=a,mid:=true }:VB)):=ZhM x fun k hk=>R.block k (x.lt k hk).2;exact ownsRow_setCell_other h6 (by intro e;exact q (Option.some.inj e)) _
 ·rw [u,I] at hj;by_cases hjl:j<br.length
  ·rw [show (br++[({ b with fo:=c,fn:=s.stk.length,fc:=a,mid:=true }:VB)]).getD j default=br.getD j default by simp [List.getElem?_append_left hjl],show (r++[({ o with past:=s.stk,mid:=true }:Opn)]).getD j default=r.getD j default by simp [List.getElem?_append_left (show j<r.length by omega)]];exact H.op.at_upd d H.pk.noTy y hs Y T hjl
  ·obtain rfl:j=br.length:=by omega
   rw [show (br++[({ b with fo:=c,fn:=s.stk.length,fc:=a,mid:=true }:VB)]).getD br.length default={ b with fo:=c,fn:=s.stk.length,fc:=a,mid:=true } by simp,show (r++[({ o with past:=s.stk,mid:=true }:Opn)]).getD br.length default={ o with past:=s.stk,mid:=true } by rw [T];simp];have C:=Z.upd d H.pk.noTy y;exact ⟨C.op,rfl,C.bn,rfl,C.bg,ak.upd Q (Pk.noTy D) (Pk.noTy D)⟩
theorem Zll (q:i.op=35) (t:s.opn=r++[o]) (f:bs=br++[b]) (n:br.length=r.length) {W3:World} (u:Below w.heap.size w W3) (D:s.stk=if o.mid then o.past else o.beg):
  P6 w0 w K h m lo lc ls oo (ZeE m ls i s) (.returned (.int .i64 0)) (W3.setCell ⟨K,6,none⟩ (.slice oo br.length oc)):=by
 obtain ⟨x,g,p,d,y,l,z,C,e⟩:=H.top t f n;have a:Upd K K w (W3.setCell ⟨K,6,none⟩ (.slice oo br.length oc)):=(Upd.of u).set 6 _;have c:ZeE m ls i s=(0,⟨s.stk,r⟩):=by unfold ZeE;rw [if_neg (by omega),if_pos q,t];simp only [List.getLastD_concat,List.dropLast_concat,←D];simp
 rw [c];refine ⟨rfl,a.more,fun _=>⟨so,sc,oo,oc,br,Blk.set (H.pk.old u) 6 _,H.ts.upd a H.pk.noTy H.pk.noTy,⟨?_,n,fun j A=>H.op.at_upd a H.pk.noTy H.pk.noTy t f n A⟩,H.tl.upd a H.pk.noTy H.pk.noTy,a.below H.hb (Nat.le_refl _) H.hK H.hK,H.hK⟩⟩;subst p;have v:=Zj0 e (m:=br.length) (by rw [f];simp);rw [show (Zal br++Cells.cells b).take (br.length*4)=Zal br from List.take_left' (Zan br)] at v;exact ZhM v fun k B=>by cases B;exact a.block g l d d
theorem Zlm (f:i.op=35) (j:s.opn=r++[o]) {a:List Ty} (k:a=if o.mid then o.past else o.beg) (e:s.stk≠a) {W3:World} (g:Below w.heap.size w W3):
  P6 w0 w K h m lo lc ls oo (ZeE m ls i s) (.returned (.int .i64 (if s.stk.length≠a.length then 12 else 11))) W3:=by
 have c:(ZeE m ls i s).1=if s.stk.length≠a.length then 12 else 11:=by
  unfold ZeE;rw [if_neg (by omega),if_pos f,j];simp only [List.getLastD_concat,List.dropLast_concat,←k];split
  ·rfl
  ·first|rfl|rw [if_neg e]
 refine ⟨by rw [c],Upd.of g,fun d=>?_⟩;rw [c] at d;split at d<;>cases d
end
end
section
variable {w0 w:World}{K:Nat}{h:Hd}{m:Md}{lo:Option Addr}{lc:Nat}{ls:List Ty}{s:Ps}{so:Option Addr}{sc:Nat}{oo:Option Addr}{oc:Nat}{bs:List VB}{i:In3}{r:List Opn}{o:Opn}(H:S6 w0 w K h m lo lc ls s so sc oo oc bs)
include w0 w K h m lo lc ls s so sc oo oc bs i r o H
theorem Zln (aB:i.op=34) (hs:s.opn=r++[o]) (hd:s.opn.length≤6) (bB:o.beg.length≤12) (bH:s.stk.length≤12):
  Calls Tryz.prog 164 #[ZQ.p K,.agg #[.int .i64 34,.int .i64 i.a,.int .i64 i.b]] w (P6 w0 w K h m lo lc ls oo (ZeE m ls i s)):=by
 obtain ⟨br,b,hb,hl⟩:=H.last hs;obtain ⟨T,g,G,bC,bD,aA,a5,bG,ac⟩:=H.top hs hb hl;obtain ⟨e,R,az,x0,x1,x2,x3,a3⟩:=Zlj ac;have k5:w.cell? ⟨K,5,none⟩=some (.slice so s.stk.length sc):=Blk.cell H.pk 5 rfl;have k6:w.cell? ⟨K,6,none⟩=some (.slice oo bs.length oc):=Blk.cell H.pk 6 rfl;have kl:=Blk.lt H.pk;obtain ⟨ad,ah⟩:∃ a,a=(⟨g,0,none⟩:Addr):=⟨_,rfl⟩;rw [G,←ah] at k6;rw [←ah] at R;obtain ⟨n,hn⟩:∃ n,n=br.length:=⟨_,rfl⟩;obtain ⟨Z,ak⟩:∃ n,n=bs.length:=⟨_,rfl⟩;have a7:Z=n+1:=by rw [ak,hn,hb];simp
 rw [←ak] at k6;rw [←hn] at R;have bF:n<Z:=by omega
 have bj:(n:Int) < Z:=by omega
 have a8:=H.op.len;have bI:IntKind.i64.wrap ((Z:Int)-1)=(n:Int):=by rw [show (Z:Int)-1=(n:Int) by omega];exact IntWalk.i64_in _ (by omega)
 have bJ:(Z:Int)-1=(n:Int):=by omega
 have bK:IntKind.i64.wrap (n:Int)=(n:Int):=IntWalk.i64_in _ (by omega);obtain ⟨J,ai⟩:∃ n,n=b.bn:=⟨_,rfl⟩;obtain ⟨fn,aj⟩:∃ n,n=b.fn:=⟨_,rfl⟩;obtain ⟨aa,U⟩:∃ n,n=b.mid:=⟨_,rfl⟩;rw [←ai] at x1;rw [←aj] at x2;rw [←U] at x3;have ao:=Zh (ai.trans T.bn);have bt:=Zh (aj.trans T.fn);have bu:=Zh (U.trans T.mid);obtain ⟨sn,al⟩:∃ n,n=s.stk.length:=⟨_,rfl⟩;rw [←al] at k5;have X:=Zh al;have aS:=Zh R;have ap:=Zh T;have HH:=Zh H;obtain ⟨W1,L⟩:∃ W1,W1=((w.alloc (.cells #[.int .i64 34,.int .i64 i.a,.int .i64 i.b] 72)).alloc (.cells #[.int .i64 b.op,.slice b.bo J b.bc,.slice b.fo fn b.fc,.bool aa] 213)):=⟨_,rfl⟩;have Y:Below w.heap.size w W1:=by rw [L];exact bE
 have ax:Blk W1 w.heap.size #[.int .i64 34,.int .i64 i.a,.int .i64 i.b] 72:=by rw [L];exact (Blk.new w _ _).alloc _
 have ay:Blk W1 (w.heap.size+1) #[.int .i64 b.op,.slice b.bo J b.bc,.slice b.fo fn b.fc,.bool aa] 213:=by rw [L];exact Blk.new' (w:=w.alloc _) _ _ (by simp)
 have HB1:=Zh Y;have aU:=Zh ax;have C:=Zh ay;have aX:=Zh L;have F:=(Below.refl w.heap.size w).alloc (Nat.le_refl _) (.cells #[.int .i64 34,.int .i64 i.a,.int .i64 i.b] 72);have a9:=Zj7 F k6;have aI:=Zj7 F x0;have aJ:=Zj7 F x1;have aK:=Zj7 F x2;have aL:=Zj7 F x3;have k61:=Zj7 Y k6;have k51:=Zj7 Y k5;have ab:∀ f,Below w.heap.size w f→∀ j,f.frozen? ⟨g,j,none⟩=false:=fun f hb3 j=>by obtain ⟨g2,cur,e2,_,a4⟩:=H.op.blk G;cases e2;exact Blk.frozen ((show Blk w g cur 213 from a4).old hb3) j
 have W:=Zh ab;have I:=Zh az;have af:=Zh (fun (f W4 W5:World) (h3:Below w.heap.size w f) (B:Option Addr) (A:Nat) (ht1:ZeR f B A s.stk) D (h5:Below W4.heap.size W4 W5) (an:Option Addr) (am:Nat) (hcl:ZeR W5 an am o.beg)=>Zlk (i:=i) (W4:=W4) H aB hs hb hl G h3 ht1 D h5 hcl);rw [G] at af;rw [G];have bi:g<w.heap.size:=aA;clear Y ax ay L ai aj U T hs hb hl aB H ac a3 ab G ah hn ak a7 a8 al F;go_enter Tryz.func164,Tryz.ntmps164;rw [R] at aI aJ aK aL;clear R az
 go_upto_region 3 with fail
 rw [←aX.out];clear a9 aI aJ aK aL;have i0:=aU.out.cell 0 (v:=.int .i64 34) rfl;have HK:=Zh (show ∀ w',Below W1.heap.size W1 w'→w'.cell? ⟨K,5,none⟩=some (.slice so sn sc)∧w'.cell? ⟨K,6,none⟩=some (.slice (some ad) Z oc) from fun w' hb=>⟨Zj7 hb k51,Zj7 hb k61⟩)
 go_upto_region 6 with (go_at_call 103;rw [X.out];refine (ZjW _ so sc s.stk (HH.out.ts.1.old HB1.out) (by omega)).mono ?_;rw [←X.out];rintro r w2 ⟨⟨B,A,rfl,V⟩,av⟩;have HO2:=Zh V;have HB2:=Zh av;clear V av;have f2:=(C.out.old HB2.out).frozen 2;have f3:=(C.out.old HB2.out).frozen 3;have c2:=(C.out.old HB2.out).cell 2 (v:=.slice b.fo fn b.fc) rfl;have c3:=(C.out.old HB2.out).cell 3 (v:=.bool aa) rfl)
 rw [←X.out];obtain ⟨f,M⟩:∃ f,f=(w2.setCell ⟨w.heap.size+1,2,none⟩ (.slice B sn A)).setCell ⟨w.heap.size+1,3,none⟩ (.bool true):=⟨_,rfl⟩;have aG:Blk f (w.heap.size+1) #[.int .i64 b.op,.slice b.bo J b.bc,.slice B sn A,.bool true] 213:=by rw [M];exact Blk.set (Blk.set (C.out.old HB2.out) 2 _) 3 _
 have hb3:Below w.heap.size w f:=by rw [M];exact ZcS (ZcS (Zag HB1.out HB2.out) (Nat.le_succ _) _) (Nat.le_succ _) _
 have aE:Upd (w.heap.size+1) (w.heap.size+1) w2 f:=by rw [M];exact ((Upd.refl _ _ w2).set 2 _).set 3 _
 have hn2:ZeS w2 (w.heap.size+1):=⟨(C.out.old HB2.out).lt,fun xs z hx=>by
  rw [show w2.heap[w.heap.size+1]?=_ from C.out.old HB2.out] at hx;cases hx⟩
 have aD:ZeR f B A s.stk:=(ZeR.own HO2.out).upd aE hn2 hn2;rw [←M];have E:=Zh aG;have HB3:=Zh hb3;have aW:=Zh aD;have k63:=Zj7 hb3 k6;have q0:=Zj7 hb3 x0;have q1:=Zj7 hb3 x1;have q2:=Zj7 hb3 x2;have q3:=Zj7 hb3 x3;have g0:=W.out f hb3 (br.length*4);have g1:=W.out f hb3 (br.length*4+1);have g2:=W.out f hb3 (br.length*4+2);have g3:=W.out f hb3 (br.length*4+3);have e1:(⟨g,br.length*4+1,none⟩:Addr)=⟨e.block,e.off+1,none⟩:=by rw [I.out]
 have e2:(⟨g,br.length*4+2,none⟩:Addr)=⟨e.block,e.off+2,none⟩:=by rw [I.out]
 have e3:(⟨g,br.length*4+3,none⟩:Addr)=⟨e.block,e.off+3,none⟩:=by rw [I.out]
 rw [←I.out] at g0;rw [e1] at g1;rw [e2] at g2;rw [e3] at g3;have bb:(f.setCell e (.int .i64 b.op)).cell? ⟨e.block,e.off+1,none⟩=some (.slice b.bo J b.bc):=by rw [World.cell?_setCell_other (h:=by intro q;have:=congrArg Addr.off q;simp at this)];exact q1
 have bc:((f.setCell e (.int .i64 b.op)).setCell ⟨e.block,e.off+1,none⟩ (.slice b.bo J b.bc)).cell? ⟨e.block,e.off+2,none⟩=some (.slice b.fo fn b.fc):=by rw [World.cell?_setCell_other (h:=by intro q;have:=congrArg Addr.off q;simp at this),World.cell?_setCell_other (h:=by intro q;have:=congrArg Addr.off q;simp at this)];exact q2
 have bd:(((f.setCell e (.int .i64 b.op)).setCell ⟨e.block,e.off+1,none⟩ (.slice b.bo J b.bc)).setCell ⟨e.block,e.off+2,none⟩ (.slice B sn A)).cell? ⟨e.block,e.off+3,none⟩=some (.bool aa):=by rw [World.cell?_setCell_other (h:=by intro q;have:=congrArg Addr.off q;simp at this),World.cell?_setCell_other (h:=by intro q;have:=congrArg Addr.off q;simp at this),World.cell?_setCell_other (h:=by intro q;have:=congrArg Addr.off q;simp at this)];exact q3
 have hS:∀ w',Below f.heap.size f w'→(fun w':World=>w'.cell? ⟨K,6,none⟩=some (.slice (some ad) Z oc)∧w'.cell? ⟨w.heap.size+1,0,none⟩=some (.int .i64 b.op)∧w'.cell? ⟨w.heap.size+1,1,none⟩=some (.slice b.bo J b.bc)∧w'.cell? ⟨w.heap.size+1,2,none⟩=some (.slice B sn A)∧w'.cell? ⟨w.heap.size+1,3,none⟩=some (.bool true)) w':=fun w' hb=>⟨Zj7 hb k63,(E.out.old hb).cell 0 rfl,(E.out.old hb).cell 1 rfl,(E.out.old hb).cell 2 rfl,(E.out.old hb).cell 3 rfl⟩;have HS:=Zh hS;have bo:=Zh e1;have bp:=Zh e2;have bq:=Zh e3;clear hS aG hb3 aE hn2 aD M k5 k6 x0 x1 x2 x3 k51 k61 i0 f2 f3 c2 c3 k63 e1 e2 e3;refine rE (fun w':World=>w'.cell? ⟨K,6,none⟩=some (.slice (some ad) Z oc)∧w'.cell? ⟨w.heap.size+1,0,none⟩=some (.int .i64 b.op)∧w'.cell? ⟨w.heap.size+1,1,none⟩=some (.slice b.bo J b.bc)∧w'.cell? ⟨w.heap.size+1,2,none⟩=some (.slice B sn A)∧w'.cell? ⟨w.heap.size+1,3,none⟩=some (.bool true)) 7 (oL [0,1,2,3,4,5,6]) (HS.out _ (Below.drew (Below.refl _ _))) ?_
 repeat refine pE ?_
 rw [←aS.out];refine sE fun Kv hK=>?_;go_simp;refine hK _ _ ?_;clear hK Kv;obtain ⟨W4,D⟩:∃ W4,W4=(((f.drew.setCell e (.int .i64 b.op)).setCell ⟨e.block,e.off+1,none⟩ (.slice b.bo J b.bc)).setCell ⟨e.block,e.off+2,none⟩ (.slice B sn A)).setCell ⟨e.block,e.off+3,none⟩ (.bool true):=⟨_,rfl⟩;have aY:=Zh (show W4=((((f.setCell e (.int .i64 b.op)).setCell ⟨e.block,e.off+1,none⟩ (.slice b.bo J b.bc)).setCell ⟨e.block,e.off+2,none⟩ (.slice B sn A)).setCell ⟨e.block,e.off+3,none⟩ (.bool true)).drew from D.trans rfl);rw [I.out] at D;have bh:g<f.heap.size:=Nat.lt_of_lt_of_le aA HB3.out.size;have y:Upd g g f W4:=by rw [D];exact ((((Upd.refl g g f).drew.setB _ _).setB _ _).setB _ _).setB _ _
 have aF:Upd K g w W4:=(Upd.of HB3.out).trans ⟨y.os,y.tape,y.output,y.size,fun k h1 _ h3=>y.block k h1 h3 h3⟩;have aw:ZeR W4 b.bo b.bc o.beg:=ap.out.bg.upd aF HH.out.pk.noTy a5;have bL:W4.cell? ⟨w.heap.size+1,1,none⟩=some (.slice b.bo J b.bc):=by rw [World.cell?_of_block (w:=f) (y.block (w.heap.size+1) E.out.lt (by omega) (by omega))];exact E.out.cell 1 rfl
 have aC:Pk W4 K h m (.slice lo ls.length lc) (.slice so s.stk.length sc) (.slice oo bs.length oc):=by have h9:=HH.out.pk.old HB3.out;unfold Pk Blk;rw [y.block K (Blk.lt h9) (by omega) (by omega)];exact h9
 have ar:=Zh aC;have aT:=Zh aw;have aq:=Zh (af.out f W4);have aZ:=Zh D;clear y aF aw aC D af q0 q1 q2 q3 bb bc bd g0 g1 g2 g3;rw [←aY.out]
 go_wp2_with (go_at_call 103;rw [ao.out];refine (ZjW _ b.bo b.bc o.beg aT.out.1 (by omega)).mono ?_;rintro r w5 ⟨⟨an,am,rfl,hown5⟩,hb5⟩;have HO5:=Zh hown5;have HB5:=Zh hb5;clear hown5 hb5;have f5:=(Blk.old ar.out HB5.out).frozen 5;have c5:=(Blk.old ar.out HB5.out).cell 5 (v:=.slice so s.stk.length sc) rfl)
 go_ret;refine aq.out w5 HB3.out B A aW.out ?_ HB5.out an am (ZeR.own HO5.out);rw [aZ.out,X.out,ao.out,ap.out.bn]
theorem Zlo (Z:i.op=35) (hs:s.opn=r++[o]) (hd:s.opn.length≤6) (aP:s.stk.length≤12):
  Calls Tryz.prog 164 #[ZQ.p K,.agg #[.int .i64 35,.int .i64 i.a,.int .i64 i.b]] w (P6 w0 w K h m lo lc ls oo (ZeE m ls i s)):=by
 obtain ⟨br,b,hb,hl⟩:=H.last hs;obtain ⟨C,g,Y,aK,aL,aN,aM,ay,M⟩:=H.top hs hb hl;obtain ⟨ba,B,au,x0,x1,x2,x3,av⟩:=Zlj M;have k5:w.cell? ⟨K,5,none⟩=some (.slice so s.stk.length sc):=Blk.cell H.pk 5 rfl;have k6:w.cell? ⟨K,6,none⟩=some (.slice oo bs.length oc):=Blk.cell H.pk 6 rfl;have kl:=Blk.lt H.pk;obtain ⟨ad,G⟩:∃ a,a=(⟨g,0,none⟩:Addr):=⟨_,rfl⟩;rw [Y,←G] at k6;rw [←G] at B;obtain ⟨n,hn⟩:∃ n,n=br.length:=⟨_,rfl⟩;obtain ⟨R,X⟩:∃ n,n=bs.length:=⟨_,rfl⟩;have ax:R=n+1:=by rw [X,hn,hb];simp
 rw [←X] at k6;rw [←hn] at B;have aO:n<R:=by omega
 have aB:(n:Int) < R:=by omega
 have az:=H.op.len;have aQ:IntKind.i64.wrap ((R:Int)-1)=(n:Int):=by rw [show (R:Int)-1=(n:Int) by omega];exact IntWalk.i64_in _ (by omega)
 have aR:(R:Int)-1=(n:Int):=by omega
 have aS:IntKind.i64.wrap (n:Int)=(n:Int):=IntWalk.i64_in _ (by omega);obtain ⟨J,V⟩:∃ n,n=b.bn:=⟨_,rfl⟩;obtain ⟨L,W⟩:∃ n,n=b.fn:=⟨_,rfl⟩;obtain ⟨ab,D⟩:∃ n,n=b.mid:=⟨_,rfl⟩;rw [←V] at x1;rw [←W] at x2;rw [←D] at x3;have aq:=Zh (V.trans C.bn);have ar:=Zh (W.trans C.fn);have HMi:=Zh (D.trans C.mid);obtain ⟨sn,aa⟩:∃ n,n=s.stk.length:=⟨_,rfl⟩;rw [←aa] at k5;have HSn:=Zh aa;have aI:=Zh B;have aj:=Zh C;have HH:=Zh H;obtain ⟨F,z⟩:∃ F,F=((w.alloc (.cells #[.int .i64 35,.int .i64 i.a,.int .i64 i.b] 72)).alloc (.cells #[.int .i64 b.op,.slice b.bo J b.bc,.slice b.fo L b.fc,.bool ab] 213)):=⟨_,rfl⟩;have I:Below w.heap.size w F:=by rw [z];exact bE
 have am:Blk F w.heap.size #[.int .i64 35,.int .i64 i.a,.int .i64 i.b] 72:=by rw [z];exact (Blk.new w _ _).alloc _
 have an:Blk F (w.heap.size+1) #[.int .i64 b.op,.slice b.bo J b.bc,.slice b.fo L b.fc,.bool ab] 213:=by rw [z];exact Blk.new' (w:=w.alloc _) _ _ (by simp)
 have HB1:=Zh I;have ai:=Zh am;have q:=Zh an;have al:=Zh z;have y:=(Below.refl w.heap.size w).alloc (Nat.le_refl _) (.cells #[.int .i64 35,.int .i64 i.a,.int .i64 i.b] 72);have ap:=Zj7 y k6;have ae:=Zj7 y x0;have af:=Zj7 y x1;have ag:=Zj7 y x2;have ah:=Zj7 y x3;have k61:=Zj7 I k6;have k51:=Zj7 I k5;obtain ⟨want,f⟩:∃ l,l=if o.mid then o.past else o.beg:=⟨_,rfl⟩;have HEY:=Zh (fun (W3:World) (h3:Below w.heap.size w W3) (hw:s.stk=if o.mid then o.past else o.beg)=>Zll (i:=i) H Z hs hb hl h3 hw);have HEN:=Zh (fun (W3:World) (h3:Below w.heap.size w W3) (hne:s.stk≠want)=>Zlm (oo:=oo) (i:=i) (w0:=w0) (w:=w) (K:=K) (h:=h) (m:=m) (lo:=lo) (lc:=lc) (ls:=ls) H Z hs f hne h3);rw [←hn] at HEY;have aC:R≤oc:=by omega
 have aD:(n:Int)≤oc:=by omega
 have aE:¬ (oc:Int) < (n:Int):=by omega
 have aJ:=Zh (H.pk);have HWt:=Zh f;have ak:=Zh H.ts;have f6:∀ w',Below w.heap.size w w'→w'.frozen? ⟨K,6,none⟩=false:=fun w' A=>(H.pk.old A).frozen 6;have HF6:=Zh f6;have HK:=Zh (show ∀ w',Below F.heap.size F w'→w'.cell? ⟨K,5,none⟩=some (.slice so sn sc)∧w'.cell? ⟨K,6,none⟩=some (.slice (some ad) R oc) from fun w' hb=>⟨Zj7 hb k51,Zj7 hb k61⟩);rw [B] at ae af ag ah;rw [Y,←G] at HEY HEN ⊢;clear I am an z V W D C hs hb hl Z H M av Y G hn X ax az aa y B au f f6 ay;rcases ab with _|_
 ·have E:want=o.beg:=by exact k74
  have HWn:=Zh (show J=want.length by rw [E];exact aq.out);have T:=Zh (show ∀ w',Below w.heap.size w w'→Zas w' b.bo b.bc want from fun w' A=>by rw [E];exact aj.out.bg.1.old A);go_enter Tryz.func164,Tryz.ntmps164
  go_upto_region 3 with fail
  rw [←al.out];clear ap ae af ag ah;have i0:=ai.out.cell 0 (v:=.int .i64 35) rfl;have o1:=q.out.cell 1 (v:=.slice b.bo J b.bc) rfl;have o2:=q.out.cell 2 (v:=.slice b.fo L b.fc) rfl;have o3:=q.out.cell 3 (v:=.bool false) rfl;by_cases hln2:sn=J
  ·have U:((sn:Int) != J)=false:=by simp;omega
   have hST:=ZjT s.stk want so b.bo sc b.bc F (ak.out.1.old HB1.out) (T.out _ HB1.out) (by omega);exact k22
  ·have U:((sn:Int) != J)=true:=by simp;omega
   exact k55
 ·have E:want=o.past:=by exact k74
  have HWn:=Zh (show L=want.length by rw [E];exact ar.out);have T:=Zh (show ∀ w',Below w.heap.size w w'→Zas w' b.fo b.fc want from fun w' A=>by rw [E];exact aj.out.ps.1.old A);go_enter Tryz.func164,Tryz.ntmps164
  go_upto_region 3 with fail
  rw [←al.out];clear ap ae af ag ah;have i0:=ai.out.cell 0 (v:=.int .i64 35) rfl;have o1:=q.out.cell 1 (v:=.slice b.bo J b.bc) rfl;have o2:=q.out.cell 2 (v:=.slice b.fo L b.fc) rfl;have o3:=q.out.cell 3 (v:=.bool true) rfl;by_cases hln2:sn=L
  ·have U:((sn:Int) != L)=false:=by simp;omega
   have hST:=ZjT s.stk want so b.fo sc b.fc F (ak.out.1.old HB1.out) (T.out _ HB1.out) (by omega);exact k22
  ·have U:((sn:Int) != L)=true:=by simp;omega
   exact k55
end
end
section
open Go.RowKit
section
variable {w:World}{K:Nat}{h:Hd}{m:Md}{lo:Option Addr}{lc:Nat}{ls:List Ty}{S O:Value}(H:Pk w K h m (.slice lo ls.length lc) S O)(Hj:Zaz w h m)(hd:ZcZ m m.cl.length)(ht:Zas w lo lc ls){ia ib:Int}{la:Option Addr}{lcap:Nat}
include w K h m lo lc ls S O H Hj hd ht ia ib la lcap
theorem Zlp (U:Zas w la lcap ([]:List Ty)) (M:0≤ia) (R:ia<ls.length):
  Calls Tryz.prog 167 #[ZQ.p K,.agg #[.int .i64 2,.int .i64 ia,.int .i64 ib],.slice la 0 lcap] w (Zka w (ZeD m ls ⟨2,ia,ib⟩ [])):=by
 obtain ⟨ia,rfl⟩:∃ d:Nat,ia=d:=⟨ia.toNat,by omega⟩;have y:ia<ls.length:=by omega
 obtain ⟨f,hlo,u0,u1⟩:=ZaA ht y;obtain ⟨⟨D,C⟩,hu⟩:∃ u,u=ls.getD ia default:=⟨_,rfl⟩;have A:ls[((ia:Int)).toNat]?=some ⟨D,C⟩:=by rw [Int.toNat_natCast,hu];exact getD_some y
 rw [←hu] at u0 u1;dsimp only at u0 u1;rw [hlo] at H;clear hu hlo;have HPv:=Zh (show ZeD m ls ⟨2,ia,ib⟩ []=some ⟨D,C⟩ from by rw [pv2 rfl];exact A);have I:decide ((ls.length:Int)≤(ia:Int))=false:=by simp;omega
 clear A;obtain ⟨X,k0,k1,k2,k3,k4⟩:=H.cells;obtain ⟨F,E,HBw,HX,HS,V⟩:=Zkj w 2 ia ib (l:=[(⟨K,4,none⟩,.slice (some f) ls.length lc),((f.add (ia*2)),.int .i64 D),(⟨(f.add (ia*2)).block,(f.add (ia*2)).off+1,none⟩,.int .i64 C)]) ⟨k4,u0,u1,trivial⟩;have z:=Zh (Below.refl F.heap.size F);have T:=ZdY;have G:=ZdX;have J:=ZdZ;clear H Hj ht U k0 k1 k2 k3 k4 u0 u1;go_enter Tryz.func167,Tryz.ntmps167
 go_upto_region 5 with fail
 rw [←E.out];refine kO HS.out (oL [0,1,2,3,4,5,6,7]) (Upd.of z.out).drew ?_;have HB1:=Zh z.out.drew
 repeat refine pO ?_
 refine Zd7 ?_
 go_wp2_with fail
 refine kO HS.out (oL [0,1,2,3,4,5,6,7,108,9]) (Upd.of HB1.out).drew ?_;have HB2:=Zh HB1.out.drew
 repeat refine pO ?_
 obtain ⟨y0,y1,g0,g1⟩:=Zkm (HX.out.old z.out);refine oO fun Kv hK=>?_;go_simp;refine hK _ _ ⟨HS.out _ (((Upd.of HB2.out).set 0 _).set 1 _),?_⟩;clear hK Kv
 repeat refine pO ?_
 refine Zd7 ?_;go_wp2;refine bodyPost_ret (v:=.tuple #[.agg #[.int .i64 D,.int .i64 C],.bool true]) (by simp [results,Tryz.results167,go_sem,y0,y1]) rfl ?_;exact k88
theorem Zlq (hr:Zas w la lcap ([]:List Ty)) (a:ia=3) (c:ib=0):
  Calls Tryz.prog 167 #[ZQ.p K,.agg #[.int .i64 12,.int .i64 ia,.int .i64 ib],.slice la 0 lcap] w (Zka w (ZeD m ls ⟨12,ia,ib⟩ [])):=by
 subst a c;have HPv:=Zh (show ZeD m ls ⟨12,3,0⟩ []=some ⟨3,0⟩ from ZfZ rfl);exact k58
theorem Zlr {a:Ty} (hr:Zas w la lcap ([a]:List Ty)) (V:a.k=2→0≤a.c∧a.c<m.cl.length) (af:0≤ia) (ag:ia<m.st.length) (F:∀ t∈m.st,Zfk m t):
  Calls Tryz.prog 167 #[ZQ.p K,.agg #[.int .i64 23,.int .i64 ia,.int .i64 ib],.slice la 1 lcap] w (Zka w (ZeD m ls ⟨23,ia,ib⟩ [a])):=by
 obtain ⟨ia,rfl⟩:∃ d:Nat,ia=d:=⟨ia.toNat,by omega⟩;have A:ia<m.st.length:=by omega
 have Z:(ia:Int) < m.st.length:=by omega
 obtain ⟨J,f,u0,u1⟩:=ZaA Hj.st A;obtain ⟨⟨z,y⟩,hu⟩:∃ u,u=m.st.getD ia default:=⟨_,rfl⟩;have D:m.st.getD ((ia:Int)).toNat default=⟨z,y⟩:=by rw [Int.toNat_natCast,hu]
 rw [←hu] at u0 u1;dsimp only at u0 u1;have X:(⟨z,y⟩:Ty).k=2→0≤(⟨z,y⟩:Ty).c:=fun hk=>(ZfH (F ⟨z,y⟩ (by rw [hu];exact ZfX _ A)) (.inl hk)).1;have HPv:=Zh (show ZeD m ls ⟨23,ia,ib⟩ [a]=if Zev m a ⟨z,y⟩=true then some ty0 else none from by rw [Zga rfl];dsimp only;rw [D];rfl);clear D hu F;obtain ⟨kl,k0,k1,k2,k3,k4⟩:=H.cells;obtain ⟨ad,rfl,R,T⟩:=Zke hr;obtain ⟨I,G⟩:=a;dsimp only at R T;have C:=k1;rw [f] at C;have E:=f;obtain ⟨ft,hft⟩:∃ x,x=Zev m ⟨I,G⟩ ⟨z,y⟩:=⟨_,rfl⟩;have HFi:=Zh (show ∀ w',Below w.heap.size w w'→Calls Tryz.prog 168 #[.agg (HM.mk h m),.agg #[.int .i64 I,.int .i64 G],.agg #[.int .i64 z,.int .i64 y]] w' (Ret w' (.bool ft)) from fun w' U=>by have:=ZjV m h ⟨I,G⟩ ⟨z,y⟩ w' (Hj.old U) V X hd;rw [←hft] at this;exact this);have Hft:=Zh hft;clear hft;rw [f] at HFi;obtain ⟨Y,M,HBw,HX,HS,ai⟩:=Zkj w 23 ia ib (l:=[(ad,.int .i64 I),(⟨ad.block,ad.off+1,none⟩,.int .i64 G),(⟨K,0,none⟩,.slice h.co m.cl.length h.cc),(⟨K,1,none⟩,.slice (some J) m.st.length h.sc),(⟨K,2,none⟩,.slice h.eo m.me.length h.ec),(⟨K,3,none⟩,.int .i64 m.sel),((J.add (ia*2)),.int .i64 z),(⟨(J.add (ia*2)).block,(J.add (ia*2)).off+1,none⟩,.int .i64 y)]) ⟨R,T,k0,C,k2,k3,u0,u1,trivial⟩;have HB0:=Zh (Below.refl Y.heap.size Y);have ah:=ZdY;have ab:=ZdX;have ae:=ZdZ;clear f E;clear H Hj ht hr k0 k1 k2 k3 k4 R T C u0 u1;go_enter Tryz.func167,Tryz.ntmps167
 go_upto_region 34 with fail
 rw [←M.out];refine kO HS.out (oL [0,1,2,3,4,5,6,7,8,9,10,11,12,13,14,15,16,117,118,19]) (Upd.of HB0.out).drew ?_;exact k25
theorem Zls {a:Ty} (M:Zas w la lcap ([a]:List Ty)) (h1:a=Zew) (X:0≤ib) (Y:ib<ls.length):
  Calls Tryz.prog 167 #[ZQ.p K,.agg #[.int .i64 30,.int .i64 ia,.int .i64 ib],.slice la 1 lcap] w (Zka w (ZeD m ls ⟨30,ia,ib⟩ [a])):=by
 obtain ⟨ib,rfl⟩:∃ d:Nat,ib=d:=⟨ib.toNat,by omega⟩;have y:ib<ls.length:=by omega
 obtain ⟨f,hlo,u0,u1⟩:=ZaA ht y;obtain ⟨⟨D,C⟩,hu⟩:∃ u,u=ls.getD ib default:=⟨_,rfl⟩;have A:ls[((ib:Int)).toNat]?=some ⟨D,C⟩:=by rw [Int.toNat_natCast,hu];exact getD_some y
 rw [←hu] at u0 u1;dsimp only at u0 u1;rw [hlo] at H;clear hu hlo;have HPv:=Zh (show ZeD m ls ⟨30,ia,ib⟩ [a]=if decide ((⟨D,C⟩:Ty)=Zew)=true then some ty0 else none from by rw [Zgf rfl];dsimp only;rw [A,h1];simp);have J:decide ((ib:Int) < (ls.length:Int))=true:=by simp;omega
 clear A;obtain ⟨kl,k0,k1,k2,k3,k4⟩:=H.cells;obtain ⟨ad,rfl,F,G⟩:=Zke M;obtain ⟨T,R⟩:=a;obtain ⟨rfl,rfl⟩:T=1∧R=0:=by cases h1;exact ⟨rfl,rfl⟩
 dsimp only at F G;obtain ⟨I,E,HBw,HX,HS,aa⟩:=Zkj w 30 ia ib (l:=[(ad,.int .i64 1),(⟨ad.block,ad.off+1,none⟩,.int .i64 0),(⟨K,4,none⟩,.slice (some f) ls.length lc),((f.add (ib*2)),.int .i64 D),(⟨(f.add (ib*2)).block,(f.add (ib*2)).off+1,none⟩,.int .i64 C)]) ⟨F,G,k4,u0,u1,trivial⟩;have z:=Zh (Below.refl I.heap.size I);have Z:=ZdY;have U:=ZdX;have V:=ZdZ;clear H Hj ht M k0 k1 k2 k3 k4 F G u0 u1;go_enter Tryz.func167,Tryz.ntmps167
 go_upto_region 39 with fail
 rw [←E.out];refine kO HS.out (oL [0,1,2,3,104,5,6,7,8,9,10,11,12,13,14,15,16,17,18,19,20,21,22,23,24,125,26,27,128,29]) (Upd.of z.out).drew ?_;have HB1:=Zh z.out.drew
 repeat refine pO ?_
 refine oO fun Kv hK=>?_;go_simp;refine (Zkd _).mono ?_;rintro r w5 ⟨rfl,hb5⟩;have HB2:=Zh (Zag HB1.out hb5);refine hK _ _ ⟨HS.out _ (Upd.of HB2.out),?_⟩;clear hK Kv hb5
 repeat refine pO ?_
 refine oO fun Kv hK=>?_;go_simp;refine (Zkd _).mono ?_;rintro r w6 ⟨rfl,hb6⟩;have HB3:=Zh (Zag HB2.out hb6);refine hK _ _ ⟨HS.out _ (Upd.of HB3.out),?_⟩;clear hK Kv hb6
 repeat refine pO ?_
 obtain ⟨y0,y1,g0,g1⟩:=Zkm (HX.out.old HB3.out);refine oO fun Kv hK=>?_;go_simp;refine hK _ _ ⟨HS.out _ (((Upd.of HB3.out).set 0 _).set 1 _),?_⟩;clear hK Kv
 repeat refine pO ?_
 refine Zd7 ?_;go_wp2;refine bodyPost_ret (v:=.tuple #[.agg #[.int .i64 0,.int .i64 0],.bool (decide ((⟨D,C⟩:Ty)=Zew))]) (by simp [results,Tryz.results167,go_sem,y0,y1]) rfl ?_;exact Zks HPv.out rfl (Zkn HBw.out HB3.out)
theorem Zlt (hr:Zas w la lcap ([]:List Ty)):
  Calls Tryz.prog 167 #[ZQ.p K,.agg #[.int .i64 32,.int .i64 ia,.int .i64 ib],.slice la 0 lcap] w (Zka w (ZeD m ls ⟨32,ia,ib⟩ [])):=by
 have HPv:=Zh (show ZeD m ls ⟨32,ia,ib⟩ []=some ty0 from pvx (by simp));exact k12
theorem Zlu {a b:Ty} (x:Zas w la lcap ([a,b]:List Ty)) (n:a.k≠2):
  Calls Tryz.prog 229 #[ZQ.p K,.agg #[.int .i64 18,.int .i64 ia,.int .i64 ib],.slice la 2 lcap] w (Zka w (ZeD m ls ⟨18,ia,ib⟩ [a,b])):=by
 have HPv:=Zh (show ZeD m ls ⟨18,ia,ib⟩ [a,b]=none from by rw [Zf5 rfl];rw [show ZeA m ([a,b].getD 0 default) ia=none from by show ZeA m a ia=none;unfold ZeA;rw [if_neg n]];rfl);obtain ⟨e,rfl,a0,a1,g,j⟩:=Zkf x;obtain ⟨f,u⟩:=a;obtain ⟨B,A⟩:=b;dsimp only at a0 a1 g j;have G:(f != 2)=true:=by simpa using n
 clear n;obtain ⟨q,HW1,HBw,HX,z,y,HS,F⟩:=Zkk w 18 ia ib f u (l:=[(e,.int .i64 f),(⟨e.block,e.off+1,none⟩,.int .i64 u),(⟨e.block,e.off+2,none⟩,.int .i64 B),(⟨e.block,e.off+3,none⟩,.int .i64 A)]) ⟨a0,a1,g,j,trivial⟩;have HB0:=Zh (Below.refl q.heap.size q);have E:=ZdY;have C:=ZdX;have D:=ZdZ;have hal:=Zad a0;clear H Hj ht x g j;go_enter Tryz.func229,Tryz.ntmps229
 go_upto_region 8 with fail
 exact k8
theorem Zlv {a:Ty} (L:Zas w la lcap ([a]:List Ty)) (E:a.k≠3) (F:a.k≠4):
  Calls Tryz.prog 229 #[ZQ.p K,.agg #[.int .i64 21,.int .i64 ia,.int .i64 ib],.slice la 1 lcap] w (Zka w (ZeD m ls ⟨21,ia,ib⟩ [a])):=by
 have n:ZeB a=none:=by unfold ZeB;rw [if_neg E,if_neg F]
 have y:=Zh (show ZeD m ls ⟨21,ia,ib⟩ [a]=none from by rw [Zf8 rfl,show ZeB ([a].getD 0 default)=none from n];rfl);clear n;obtain ⟨D,rfl,p,C⟩:=Zke L;obtain ⟨q,J⟩:=a;dsimp only at p C;have W:(q == 3)=false:=by simpa using E
 have X:(q == 4)=false:=by simpa using F
 clear E F;obtain ⟨I,A,x,T,R,M,z,Z⟩:=Zkk w 21 ia ib q J (l:=[(D,.int .i64 q),(⟨D.block,D.off+1,none⟩,.int .i64 J)]) ⟨p,C,trivial⟩;have f:=Zh (Below.refl I.heap.size I);have Y:=ZdY;have U:=ZdX;have V:=ZdZ;have G:=Zad p;clear H Hj ht L;go_enter Tryz.func229,Tryz.ntmps229
 go_upto_region 12 with fail
 rw [←A.out];clear p C G;refine kO z.out (oL [1,2,3,100,4,5,6,7,8,109,10]) (Upd.of f.out).drew ?_;have u:=Zh f.out.drew
 repeat refine pO ?_
 refine oO fun B g=>?_;go_simp;refine (Zkd _).mono ?_;rintro r w5 ⟨rfl,j⟩;have e:=Zh (Zag u.out j);refine g _ _ ⟨z.out _ (Upd.of e.out),?_⟩;clear g B j
 repeat refine pO ?_
 obtain ⟨y0,y1,g0,g1⟩:=Zkm (T.out.old e.out);refine oO fun B g=>?_;go_simp;refine g _ _ ⟨z.out _ (((Upd.of e.out).set 0 _).set 1 _),?_⟩;clear g B
 repeat refine pO ?_
 refine Zd7 ?_;go_wp2;refine bodyPost_ret (v:=.tuple #[.agg #[.int .i64 1,.int .i64 0],.bool false]) (by simp [results,Tryz.results229,go_sem,y0,y1]) rfl ?_;exact Zkp y.out (Zkn x.out e.out)
theorem Zlw {a b:Ty} (j:Zas w la lcap ([a,b]:List Ty)) (x:a.k=3) (h1:b≠Zew):
  Calls Tryz.prog 229 #[ZQ.p K,.agg #[.int .i64 19,.int .i64 ia,.int .i64 ib],.slice la 2 lcap] w (Zka w (ZeD m ls ⟨19,ia,ib⟩ [a,b])):=by
 have HPv:=Zh (show ZeD m ls ⟨19,ia,ib⟩ [a,b]=none from by rw [Zf6 rfl];exact if_neg h1);obtain ⟨e,rfl,a0,a1,f,g⟩:=Zkf j;obtain ⟨u,ac⟩:=a;obtain ⟨bk,bc⟩:=b;dsimp only at a0 a1 f g;obtain rfl:u=3:=x;have y:(!decide (bk=1)||!decide (bc=0))=true:=by exact k29
 clear h1;obtain ⟨W1,HW1,HBw,HX,HBt,q,HS,C⟩:=Zkk w 19 ia ib 3 ac (l:=[(e,.int .i64 3),(⟨e.block,e.off+1,none⟩,.int .i64 ac),(⟨e.block,e.off+2,none⟩,.int .i64 bk),(⟨e.block,e.off+3,none⟩,.int .i64 bc)]) ⟨a0,a1,f,g,trivial⟩;have n:=Zh (Below.refl W1.heap.size W1);have B:=ZdY;have z:=ZdX;have A:=ZdZ;have hal:=Zad a0;clear H Hj ht j f g;exact k20
theorem Zlx {a b d:Ty} (C:Zas w la lcap ([a,b,d]:List Ty)) (h0:a.k=3) (h1:b≠Zew):
  Calls Tryz.prog 229 #[ZQ.p K,.agg #[.int .i64 20,.int .i64 ia,.int .i64 ib],.slice la 3 lcap] w (Zka w (ZeD m ls ⟨20,ia,ib⟩ [a,b,d])):=by
 have HPv:=Zh (show ZeD m ls ⟨20,ia,ib⟩ [a,b,d]=none from by rw [Zf7 rfl];rw [show (decide ([a,b,d].getD 1 default=Zew)&&ZeC m ([a,b,d].getD 2 default) (ZeB ([a,b,d].getD 0 default)))=false from by rw [show [a,b,d].getD 1 default=b from rfl,decide_eq_false h1];rfl];rfl);obtain ⟨V,k0,k1,k2,k3,k4⟩:=H.cells;obtain ⟨ad,rfl,a0,a1,f,y,z,A⟩:=Zkg C;obtain ⟨F,ac⟩:=a;obtain ⟨bk,bc⟩:=b;obtain ⟨I,G⟩:=d;dsimp only at a0 a1 f y z A;obtain rfl:F=3:=h0;have J:(!decide (bk=1)||!decide (bc=0))=true:=by exact k29
 clear h1;obtain ⟨W1,HW1,HBw,HX,HBt,E,HS,U⟩:=Zkk w 20 ia ib 3 ac (l:=[(ad,.int .i64 3),(⟨ad.block,ad.off+1,none⟩,.int .i64 ac),(⟨ad.block,ad.off+2,none⟩,.int .i64 bk),(⟨ad.block,ad.off+3,none⟩,.int .i64 bc),(⟨ad.block,ad.off+4,none⟩,.int .i64 I),(⟨ad.block,ad.off+5,none⟩,.int .i64 G),(⟨K,0,none⟩,.slice h.co m.cl.length h.cc),(⟨K,1,none⟩,.slice h.so m.st.length h.sc),(⟨K,2,none⟩,.slice h.eo m.me.length h.ec),(⟨K,3,none⟩,.int .i64 m.sel)]) ⟨a0,a1,f,y,z,A,k0,k1,k2,k3,trivial⟩;have D:=Zh (Below.refl W1.heap.size W1);have T:=ZdY;have M:=ZdX;have R:=ZdZ;have hal:=Zad a0;clear H Hj ht C k0 k1 k2 k3 k4 f y z A;exact k20
end
end
