/- Joined texts. The first: verify: call. -/
import Derived.Test.YtcfjblcgceednaaGreatG13
set_option linter.all false
set_option linter.unusedVariables false
set_option linter.unusedSimpArgs false
set_option maxRecDepth 100000
set_option maxHeartbeats 4000000
namespace Go.Proofs.YtcfjblcgceednaaGreat
theorem k21{p:Prop}(h:p:=by
 have HB1:=Zh hb1
 clear hW1 hb1 hX hwt
 go_wp2_with (go_at_call 252;refine HEq.out.mono ?_;rintro r w3 ⟨⟨v,rfl⟩,hc3,hu3⟩;have HC3:=Zh hc3;have HU3:=Zh hu3;clear hc3 hu3)
 have k6:=HC3.out.cells.2.2.2.2.2.2.2.1
 have f6:w3.frozen? ⟨K,6,none⟩=false:=Blk.frozen HC3.out 6
 have hlo3:¬ ((oc:Int) < (n:Int)):=by omega
 refine rE (fun w':World=>w'.cell? ⟨K,6,none⟩=some (.slice (some ad) ln oc)) 14 (oL [0,1,2,3,4,5,6,7,8,9,10,11,112,113]) k6 ?_
 repeat refine pE ?_
 refine oE fun Kv hK=>?_
 go_simp
 refine hK _ _ ⟨k6,?_⟩
 clear hK Kv
 refine oE fun Kv hK=>?_
 go_simp
 refine hK _ _ ⟨k6,?_⟩
 clear hK Kv
 refine sE fun Kv hK=>?_
 go_simp
 refine hK _ _ ?_
 clear hK Kv
 go_wp2
 go_end0
 exact HEE.out _ ((Upd.of HB1.out).trans HU3.out).drew (Ck.drew HC3.out) _):p:=h
theorem k27{p:Prop}(h:p:=by
 have hba:(⟨g,0,none⟩:Addr).add (br.length*4)=⟨g,br.length*4,none⟩:=by
  unfold Addr.add
  split
  ·rename_i q;rw [q]
  ·simp
 have hlen:=h.1
 rw [List.length_append,hf] at hlen
 have hl4:(Cells.cells b).length=4:=rfl
 have hn:n=br.length+1:=by omega
 have hc:∀ j,j<4→w.cell? ⟨g,br.length*4+j,none⟩=(Cells.cells b)[j]?:=fun j hj=>by
  rw [h.cellAt (br.length*4+j) (by omega),List.getElem?_append_right (by omega),hf]
  congr 1
  omega
 refine ⟨_,rfl,hba,?_,?_,?_,?_,fun j=>h.frozenAt j⟩
 ·rw [hba];exact hc 0 (by omega)
 ·rw [hba];exact hc 1 (by omega)
 ·rw [hba];exact hc 2 (by omega)
 ·rw [hba];exact hc 3 (by omega)):p:=h
theorem k40{p:Prop}(h:p:=by
 repeat refine pO ?_
 refine oO fun Kv hK=>?_
 go_simp
 refine HD.out.mono ?_
 rintro r w4 ⟨⟨v4,rfl⟩,hu4,hd4⟩
 have HU4:=Zh ((Upd.refl K K W2).drew.trans hu4)
 have HD4:=Zh hd4
 refine hK _ _ ⟨HS.out _ HU4.out,?_⟩
 clear hK Kv hu4 hd4
 refine Zd5 ?_
 go_wp2
 go_end0
 exact ⟨⟨_,rfl⟩,HU2.out.trans HU4.out,HD4.out⟩):p:=h
theorem k48{p:Prop}(h:p:=by
 have h1:=(H.at_ j (by rw [hb];simp;omega)).upd hu hK hB
 rw [hs,hb] at h1
 rwa [show (br++[b]).getD j default=br.getD j default by simp [List.getElem?_append_left hj],show (r++[o]).getD j default=r.getD j default by simp [List.getElem?_append_left (show j<r.length by omega)]] at h1):p:=h
theorem k52{p:Prop}(h:p:=by
 have hl:=H.op.len
 rw [hs] at hl
 simp only [List.length_append,List.length_cons,List.length_nil] at hl
 have hne:bs≠[]:=by intro h;rw [h] at hl;simp at hl
 refine ⟨bs.dropLast,bs.getLast hne,(List.dropLast_concat_getLast hne).symm,by simp;omega⟩):p:=h
theorem k59{p:Prop}(h:p:=by
 have hM:=HM.old (hu.below H.hb (Nat.le_refl _) H.hK H.hK)
 obtain ⟨ad,h1,-,-,h2,-,h3,h4,-⟩:=hM.mth hj
 have h5:=hM.p j hj
 rw [heo] at h1
 cases h1
 rw [←hma,←hx] at h2 h3 h4
 rw [←hx] at h5
 exact ⟨h2,h3,h4,h5⟩):p:=h
theorem k64{p:Prop}(h:p:=by
 refine ⟨g,rfl,H.ne _ rfl,hbb,(Array.getElem?_eq_some_iff.1 hg).1,hnt,hle,?_⟩
 have h2:=hown
 rw [show Zak bs=Zak br++Cells.cells b by rw [hb,Zan,Zao]] at h2
 exact h2):p:=h
theorem k74{p:Prop}(h:p:=by
 have h1:=HWt.out
 rw [←HMi.out] at h1
 simpa using h1):p:=h
section
open Go.RowKit
theorem ZjU (r:Ty):(Zhx r).length=if r.k=0 then 0 else 1:=by unfold Zhx;split<;>rfl
section
variable {w0 w:World}{K:Nat}{h:Hd}{m:Md}{lo:Option Addr}{lc:Nat}{ls:List Ty}{s:Ps}{so:Option Addr}{sc:Nat}{oo:Option Addr}{oc:Nat}{bs:List VB}{i:In3}(hm:Za1 m=true)(HW:Zfj m s.stk)(H:St w0 w K h m lo lc ls s so sc oo oc bs)(HM:Zay w0 h m)(hd:s.opn.length≤6){j:Nat}(hj:j<m.me.length){ea:Addr}(heo:h.eo=some ea)
include w0 w K h m lo lc ls s so sc oo oc bs i hm HW H HM hd j hj ea heo
theorem ZjV (hop:i.op=25) (hji:j=i.a.toNat):
  Calls Tryz.prog 331 #[.pointer (some ⟨K,0,none⟩),.pointer (some (ea.add (j*7))),.int .i64 (-1)] w (ZhR w K h m lo lc ls oo oc bs (ZhO m ls i s)):=by
 obtain ⟨x,hx⟩:∃ x,x=m.me.getD j default:=⟨_,rfl⟩
 obtain ⟨ma,hma⟩:∃ a,a=ea.add (j*7):=⟨_,rfl⟩
 have hmt:=ZfN hm hj
 rw [←hma]
 have hpl:x.p.length≤4:=by rw [hx];exact hmt.z.1
 have hpt:∀ t∈x.p,Zfi m t:=by rw [hx];exact hmt.p
 have hmc:∀ w',Upd K K w w'→w'.cell? ⟨ma.block,ma.off+2,none⟩=some (.slice (h.e j).po x.p.length (h.e j).pc)∧w'.cell? ⟨ma.block,ma.off+4,none⟩=some (.int .i64 x.r.k)∧w'.cell? ⟨ma.block,ma.off+5,none⟩=some (.int .i64 x.r.c)∧Zar w' (h.e j).po (h.e j).pc x.p:=fun w' hu=>by
  exact k59
 have hHM:∀ w',Upd K K w w'→Zay w' h m:=fun w' hu=>HM.old (hu.below H.hb (Nat.le_refl _) H.hK H.hK)
 have kl:=Blk.lt H.ck
 obtain ⟨W1,hW1⟩:∃ W1,W1=((((w.alloc (.cells #[.pointer (some ⟨K,0,none⟩)] 211)).alloc (.cells #[.pointer (some ma)] 158)).alloc (.cells #[.int .i64 (-1)] 3)).alloc (.cells #[.int .i64 0] 3)):=⟨_,rfl⟩
 have hb1:Below w.heap.size w W1:=by rw [hW1];exact bE
 have hz1:W1.heap.size=w.heap.size+4:=by rw [hW1];simp
 have b0:Blk W1 w.heap.size #[.pointer (some ⟨K,0,none⟩)] 211:=by rw [hW1];exact (((Blk.new w _ _).alloc _).alloc _).alloc _
 have b1:Blk W1 (w.heap.size+1) #[.pointer (some ma)] 158:=by rw [hW1];exact ((Blk.new' (w:=w.alloc (.cells #[.pointer (some ⟨K,0,none⟩)] 211)) _ _ (by simp)).alloc _).alloc _
 have b2:Blk W1 (w.heap.size+2) #[.int .i64 (-1)] 3:=by rw [hW1];exact (Blk.new' (w:=(w.alloc (.cells #[.pointer (some ⟨K,0,none⟩)] 211)).alloc (.cells #[.pointer (some ma)] 158)) _ _ (by simp)).alloc _
 have b3:Blk W1 (w.heap.size+3) #[.int .i64 0] 3:=by rw [hW1];exact Blk.new' (w:=((w.alloc (.cells #[.pointer (some ⟨K,0,none⟩)] 211)).alloc (.cells #[.pointer (some ma)] 158)).alloc (.cells #[.int .i64 (-1)] 3)) _ _ (by simp)
 have HB:=Zh (And.intro b0 (And.intro b1 (And.intro b2 b3)))
 have m1:=(hmc W1 (Upd.of hb1))
 obtain ⟨m2,m4,m5,-⟩:=m1
 have HMc:=Zh hmc
 have HHM:=Zh hHM
 have HH:=Zh (H.old hb1)
 have HB1:=Zh hb1
 have HX:=Zh hx
 have HW1:=Zh hW1
 have HPt:=Zh hpt
 have HNo:=Zh H.ck.noTy
 have HHW:=Zh HW
 have c1:=b1.cell 0 (v:=.pointer (some ma)) rfl
 have c2:=b2.cell 0 (v:=.int .i64 (-1)) rfl
 obtain ⟨rk,hrk⟩:∃ k,k=x.r.k:=⟨_,rfl⟩
 obtain ⟨rq,hrq⟩:∃ k,k=x.r.c:=⟨_,rfl⟩
 have hxr:x.r=⟨rk,rq⟩:=by rw [hrk,hrq]
 rw [←hrk] at m4
 rw [←hrq] at m5
 have HR:=Zh hxr
 obtain ⟨np,hnp⟩:∃ n,n=x.p.length:=⟨_,rfl⟩
 rw [←hnp] at m2
 have HN:=Zh hnp
 have hpl2:np≤4:=by omega
 obtain ⟨tk,htk⟩:∃ t,t=np:=⟨_,rfl⟩
 have HTk:=Zh htk
 clear htk
 clear hx hmt hmc hHM H HM HW hb1 hW1 hpt b0 b1 b2 b3 hma hrk hrq hxr hnp hpl
 go_enter Tryz.func331,Tryz.ntmps331
 go_upto_region 4 with fail
 rw [←HW1.out]
 go_wp2_with (go_at_call 188;refine (Zhy ⟨rk,rq⟩ _).mono ?_;rintro r w1 ⟨ro,rc,rfl,hrl,-,hb2⟩;have HRl:=Zh hrl;have HB2:=Zh hb2;clear hrl hb2)
 obtain ⟨nr,hnr⟩:∃ n,n=(Zhx (⟨rk,rq⟩:Ty)).length:=⟨_,rfl⟩
 rw [←hnr]
 have HNr:=Zh hnr
 clear hnr m2 m4 m5 c1 c2
 have b4:=Blk.new w1 #[.slice ro nr rc] 23
 have hb3:Below W1.heap.size W1 (w1.alloc (.cells #[.slice ro nr rc] 23)):=bal HB2.out _
 have hz2:=HB2.out.size
 obtain ⟨W2,hW2⟩:∃ W2,W2=w1.alloc (.cells #[.slice ro nr rc] 23):=⟨_,rfl⟩
 rw [←hW2] at b4 hb3 ⊢
 have HRl2:=Zh (show ZeP W2 ro rc (Zhx ⟨rk,rq⟩) from by
  have h0:=HRl.out
  rw [hW2]
  exact h0.upd (K:=K) (B:=K) (Upd.of bE) ⟨by have:=HB1.out.size;omega,fun xs z hx=>by
   have hk:=(Ck.old HH.out.ck HB2.out)
   rw [show w1.heap[K]?=_ from hk] at hx
   cases hx⟩ ⟨by have:=HB1.out.size;omega,fun xs z hx=>by
   have hk:=(Ck.old HH.out.ck HB2.out)
   rw [show w1.heap[K]?=_ from hk] at hx
   cases hx⟩)
 have HB3:=Zh hb3
 have HB4:=Zh b4
 have hU2:=(Upd.of (K:=K) (B:=K) HB1.out).bel HB3.out
 have HU2:=Zh hU2
 have s0:=(HB.out.1.old HB3.out).cell 0 (v:=.pointer (some ⟨K,0,none⟩)) rfl
 have s1:=(HB.out.2.1.old HB3.out).cell 0 (v:=.pointer (some ma)) rfl
 have s3:=(HB.out.2.2.2.old HB3.out).cell 0 (v:=.int .i64 0) rfl
 have s4:=b4.cell 0 (v:=.slice ro nr rc) rfl
 have hS:∀ w',Upd K K W2 w'→(fun w':World=>w'.cell? ⟨w.heap.size,0,none⟩=some (.pointer (some ⟨K,0,none⟩))∧w'.cell? ⟨w.heap.size+1,0,none⟩=some (.pointer (some ma))∧w'.cell? ⟨w.heap.size+3,0,none⟩=some (.int .i64 0)∧w'.cell? ⟨w1.heap.size,0,none⟩=some (.slice ro nr rc)∧w'.cell? ⟨ma.block,ma.off+2,none⟩=some (.slice (h.e j).po np (h.e j).pc)) w':=fun w' hu=>⟨hu.cell s0 (by show w.heap.size≠K;omega) (by show w.heap.size≠K;omega),hu.cell s1 (by show w.heap.size+1≠K;omega) (by show w.heap.size+1≠K;omega),hu.cell s3 (by show w.heap.size+3≠K;omega) (by show w.heap.size+3≠K;omega),hu.cell s4 (by show w1.heap.size≠K;omega) (by show w1.heap.size≠K;omega),by rw [HN.out];exact (HMc.out _ (HU2.out.trans hu)).1⟩
 have HS:=Zh hS
 have HD:=Zh (show Calls Tryz.prog 246 #[.pointer (some ⟨K,0,none⟩),.int .i64 tk,.int .i64 nr,.func (Fn.func 361) #[] #[.pointer (some ⟨w.heap.size+2,0,none⟩),.pointer (some ⟨w.heap.size,0,none⟩),.pointer (some ⟨w.heap.size+1,0,none⟩),.pointer (some ⟨w.heap.size+3,0,none⟩),.pointer (some ⟨w1.heap.size,0,none⟩)]] W2.drew (ZhR W2.drew K h m lo lc ls oo oc bs (ZhO m ls i s)) from
  ZhX HHW.out ((HH.out.old HB3.out).old bE) hd tk nr 361 _ (by rw [Zgk hop,←hji,←HX.out,←HN.out,HNr.out,ZjU,←HR.out,HTk.out]) (by have:=HTk.out;omega) (by rw [HNr.out];have:=ZiU ⟨rk,rq⟩;omega) (fun _ _=>rfl) (fun l hl hdr w3 to' tc hu hck hown=>by
   have hu':Upd K K W2 w3:=(Upd.refl K K W2).drew.trans hu
   have huw:=HU2.out.trans hu'
   have hlt:∀ t∈l,Zfi m t:=fun t ht=>HHW.out.2 t (List.mem_of_mem_drop (by rw [hdr];exact ht))
   have hsb:=(HB.out.2.2.1.old HB3.out).upd hu' (by omega) (by omega)
   have hcb:=(HB.out.1.old HB3.out).upd hu' (by omega) (by omega)
   have hmb:=(HB.out.2.1.old HB3.out).upd hu' (by omega) (by omega)
   have hvb:=(HB.out.2.2.2.old HB3.out).upd hu' (by omega) (by omega)
   have hob:=HB4.out.upd hu' (by omega) (by omega)
   have hrl:=HRl2.out.upd hu' (Ck.noTy (HH.out.ck.old HB3.out)) (Ck.noTy (HH.out.ck.old HB3.out))
   rw [HNr.out] at hob
   have hlen:l.length=0+x.p.length:=by rw [hl];have:=HTk.out;have:=HN.out;omega
   have hown':=hown
   rw [←hl] at hown' ⊢
   refine (Ziu K h m _ _ _ l x.p (h.e j).po (h.e j).pc ma (-1) 0 ro rc (Zhx ⟨rk,rq⟩) (w.heap.size+2) w.heap.size (w.heap.size+1) (w.heap.size+3) w1.heap.size to' tc _ w3 hck (fun w' hu2=>HHM.out w' (huw.trans hu2)) hsb hcb hmb hvb hob hrl (fun w' hu2=>⟨(HMc.out w' (huw.trans hu2)).1,(HMc.out w' (huw.trans hu2)).2.2.2⟩) hown' hlen (by have:=HN.out;omega) (by decide) (by decide)).mono ?_
   exact fun r w2 hp=>hp.imp fun out e' hq=>by obtain ⟨h1,h2⟩:=hq;rw [h1,h2,HNr.out,ZjU];have hr:=ZiW (ls:=ls) hm hop (x:=x) (by rw [HX.out,hji]) (by rw [hlen,Nat.zero_add]) hlt HPt.out;rw [HR.out] at hr;exact hr))
 clear b4 hb3 hW2 hU2 s0 s1 s3 s4 hS
 have htk:=HTk.out.symm
 subst htk
 have hwt:IntKind.i64.wrap ((np:Nat):Int)=((np:Nat):Int):=IntWalk.i64_in _ (by omega)
 refine rO (fun w':World=>w'.cell? ⟨w.heap.size,0,none⟩=some (.pointer (some ⟨K,0,none⟩))∧w'.cell? ⟨w.heap.size+1,0,none⟩=some (.pointer (some ma))∧w'.cell? ⟨w.heap.size+3,0,none⟩=some (.int .i64 0)∧w'.cell? ⟨w1.heap.size,0,none⟩=some (.slice ro nr rc)∧w'.cell? ⟨ma.block,ma.off+2,none⟩=some (.slice (h.e j).po np (h.e j).pc)) (oL [0,1,2,3,4,5,6,7,8,9,10,111]) (HS.out _ (Upd.refl K K W2).drew) ?_
 exact k40
theorem ZjW (hop:i.op=26) {sl:Nat} (hia:i.a=sl) (hcal:Zew m i=some (m.me.getD j default)) (hsm:∀ c:Int,0≤c→c<m.cl.length→sl<(m.cl.getD c.toNat default).m.length) (hsl:sl≤1000):
  Calls Tryz.prog 331 #[.pointer (some ⟨K,0,none⟩),.pointer (some (ea.add (j*7))),.int .i64 sl] w (ZhR w K h m lo lc ls oo oc bs (ZhO m ls i s)):=by
 obtain ⟨x,hx⟩:∃ x,x=m.me.getD j default:=⟨_,rfl⟩
 obtain ⟨ma,hma⟩:∃ a,a=ea.add (j*7):=⟨_,rfl⟩
 have hmt:=ZfN hm hj
 rw [←hma]
 have hpl:x.p.length≤4:=by rw [hx];exact hmt.z.1
 have hpt:∀ t∈x.p,Zfi m t:=by rw [hx];exact hmt.p
 have hmc:∀ w',Upd K K w w'→w'.cell? ⟨ma.block,ma.off+2,none⟩=some (.slice (h.e j).po x.p.length (h.e j).pc)∧w'.cell? ⟨ma.block,ma.off+4,none⟩=some (.int .i64 x.r.k)∧w'.cell? ⟨ma.block,ma.off+5,none⟩=some (.int .i64 x.r.c)∧Zar w' (h.e j).po (h.e j).pc x.p:=fun w' hu=>by
  exact k59
 have hHM:∀ w',Upd K K w w'→Zay w' h m:=fun w' hu=>HM.old (hu.below H.hb (Nat.le_refl _) H.hK H.hK)
 have kl:=Blk.lt H.ck
 obtain ⟨W1,hW1⟩:∃ W1,W1=((((w.alloc (.cells #[.pointer (some ⟨K,0,none⟩)] 211)).alloc (.cells #[.pointer (some ma)] 158)).alloc (.cells #[.int .i64 sl] 3)).alloc (.cells #[.int .i64 1] 3)):=⟨_,rfl⟩
 have hb1:Below w.heap.size w W1:=by rw [hW1];exact bE
 have hz1:W1.heap.size=w.heap.size+4:=by rw [hW1];simp
 have b0:Blk W1 w.heap.size #[.pointer (some ⟨K,0,none⟩)] 211:=by rw [hW1];exact (((Blk.new w _ _).alloc _).alloc _).alloc _
 have b1:Blk W1 (w.heap.size+1) #[.pointer (some ma)] 158:=by rw [hW1];exact ((Blk.new' (w:=w.alloc (.cells #[.pointer (some ⟨K,0,none⟩)] 211)) _ _ (by simp)).alloc _).alloc _
 have b2:Blk W1 (w.heap.size+2) #[.int .i64 sl] 3:=by rw [hW1];exact (Blk.new' (w:=(w.alloc (.cells #[.pointer (some ⟨K,0,none⟩)] 211)).alloc (.cells #[.pointer (some ma)] 158)) _ _ (by simp)).alloc _
 have b3:Blk W1 (w.heap.size+3) #[.int .i64 1] 3:=by rw [hW1];exact Blk.new' (w:=((w.alloc (.cells #[.pointer (some ⟨K,0,none⟩)] 211)).alloc (.cells #[.pointer (some ma)] 158)).alloc (.cells #[.int .i64 sl] 3)) _ _ (by simp)
 have HB:=Zh (And.intro b0 (And.intro b1 (And.intro b2 b3)))
 have m1:=(hmc W1 (Upd.of hb1))
 obtain ⟨m2,m4,m5,-⟩:=m1
 have HMc:=Zh hmc
 have HHM:=Zh hHM
 have HH:=Zh (H.old hb1)
 have HB1:=Zh hb1
 have HX:=Zh hx
 have HW1:=Zh hW1
 have HPt:=Zh hpt
 have HNo:=Zh H.ck.noTy
 have HHW:=Zh HW
 have c1:=b1.cell 0 (v:=.pointer (some ma)) rfl
 have c2:=b2.cell 0 (v:=.int .i64 sl) rfl
 obtain ⟨rk,hrk⟩:∃ k,k=x.r.k:=⟨_,rfl⟩
 obtain ⟨rq,hrq⟩:∃ k,k=x.r.c:=⟨_,rfl⟩
 have hxr:x.r=⟨rk,rq⟩:=by rw [hrk,hrq]
 rw [←hrk] at m4
 rw [←hrq] at m5
 have HR:=Zh hxr
 obtain ⟨np,hnp⟩:∃ n,n=x.p.length:=⟨_,rfl⟩
 rw [←hnp] at m2
 have HN:=Zh hnp
 have hpl2:np≤4:=by omega
 obtain ⟨tk,htk⟩:∃ t,t=np+1:=⟨_,rfl⟩
 have HTk:=Zh htk
 clear htk
 clear hx hmt hmc hHM H HM HW hb1 hW1 hpt b0 b1 b2 b3 hma hrk hrq hxr hnp hpl
 go_enter Tryz.func331,Tryz.ntmps331
 go_upto_region 4 with fail
 rw [←HW1.out]
 go_wp2_with (go_at_call 188;refine (Zhy ⟨rk,rq⟩ _).mono ?_;rintro r w1 ⟨ro,rc,rfl,hrl,-,hb2⟩;have HRl:=Zh hrl;have HB2:=Zh hb2;clear hrl hb2)
 obtain ⟨nr,hnr⟩:∃ n,n=(Zhx (⟨rk,rq⟩:Ty)).length:=⟨_,rfl⟩
 rw [←hnr]
 have HNr:=Zh hnr
 clear hnr m2 m4 m5 c1 c2
 have b4:=Blk.new w1 #[.slice ro nr rc] 23
 have hb3:Below W1.heap.size W1 (w1.alloc (.cells #[.slice ro nr rc] 23)):=bal HB2.out _
 have hz2:=HB2.out.size
 obtain ⟨W2,hW2⟩:∃ W2,W2=w1.alloc (.cells #[.slice ro nr rc] 23):=⟨_,rfl⟩
 rw [←hW2] at b4 hb3 ⊢
 have HRl2:=Zh (show ZeP W2 ro rc (Zhx ⟨rk,rq⟩) from by
  have h0:=HRl.out
  rw [hW2]
  exact h0.upd (K:=K) (B:=K) (Upd.of bE) ⟨by have:=HB1.out.size;omega,fun xs z hx=>by
   have hk:=(Ck.old HH.out.ck HB2.out)
   rw [show w1.heap[K]?=_ from hk] at hx
   cases hx⟩ ⟨by have:=HB1.out.size;omega,fun xs z hx=>by
   have hk:=(Ck.old HH.out.ck HB2.out)
   rw [show w1.heap[K]?=_ from hk] at hx
   cases hx⟩)
 have HB3:=Zh hb3
 have HB4:=Zh b4
 have hU2:=(Upd.of (K:=K) (B:=K) HB1.out).bel HB3.out
 have HU2:=Zh hU2
 have s0:=(HB.out.1.old HB3.out).cell 0 (v:=.pointer (some ⟨K,0,none⟩)) rfl
 have s1:=(HB.out.2.1.old HB3.out).cell 0 (v:=.pointer (some ma)) rfl
 have s3:=(HB.out.2.2.2.old HB3.out).cell 0 (v:=.int .i64 1) rfl
 have s4:=b4.cell 0 (v:=.slice ro nr rc) rfl
 have hS:∀ w',Upd K K W2 w'→(fun w':World=>w'.cell? ⟨w.heap.size,0,none⟩=some (.pointer (some ⟨K,0,none⟩))∧w'.cell? ⟨w.heap.size+1,0,none⟩=some (.pointer (some ma))∧w'.cell? ⟨w.heap.size+3,0,none⟩=some (.int .i64 1)∧w'.cell? ⟨w1.heap.size,0,none⟩=some (.slice ro nr rc)∧w'.cell? ⟨ma.block,ma.off+2,none⟩=some (.slice (h.e j).po np (h.e j).pc)) w':=fun w' hu=>⟨hu.cell s0 (by show w.heap.size≠K;omega) (by show w.heap.size≠K;omega),hu.cell s1 (by show w.heap.size+1≠K;omega) (by show w.heap.size+1≠K;omega),hu.cell s3 (by show w.heap.size+3≠K;omega) (by show w.heap.size+3≠K;omega),hu.cell s4 (by show w1.heap.size≠K;omega) (by show w1.heap.size≠K;omega),by rw [HN.out];exact (HMc.out _ (HU2.out.trans hu)).1⟩
 have HS:=Zh hS
 have HD:=Zh (show Calls Tryz.prog 246 #[.pointer (some ⟨K,0,none⟩),.int .i64 tk,.int .i64 nr,.func (Fn.func 361) #[] #[.pointer (some ⟨w.heap.size+2,0,none⟩),.pointer (some ⟨w.heap.size,0,none⟩),.pointer (some ⟨w.heap.size+1,0,none⟩),.pointer (some ⟨w.heap.size+3,0,none⟩),.pointer (some ⟨w1.heap.size,0,none⟩)]] W2.drew (ZhR W2.drew K h m lo lc ls oo oc bs (ZhO m ls i s)) from
  ZhX HHW.out ((HH.out.old HB3.out).old bE) hd tk nr 361 _ (by rw [Zgl hop,hcal,←HX.out];show (x.p.length+1,if x.r.k=0 then 0 else 1)=_;rw [HTk.out,HN.out,HNr.out,ZjU,←HR.out]) (by have:=HTk.out;omega) (by rw [HNr.out];have:=ZiU ⟨rk,rq⟩;omega) (fun _ _=>rfl) (fun l hl hdr w3 to' tc hu hck hown=>by
   have hu':Upd K K W2 w3:=(Upd.refl K K W2).drew.trans hu
   have huw:=HU2.out.trans hu'
   have hlt:∀ t∈l,Zfi m t:=fun t ht=>HHW.out.2 t (List.mem_of_mem_drop (by rw [hdr];exact ht))
   have hsb:=(HB.out.2.2.1.old HB3.out).upd hu' (by omega) (by omega)
   have hcb:=(HB.out.1.old HB3.out).upd hu' (by omega) (by omega)
   have hmb:=(HB.out.2.1.old HB3.out).upd hu' (by omega) (by omega)
   have hvb:=(HB.out.2.2.2.old HB3.out).upd hu' (by omega) (by omega)
   have hob:=HB4.out.upd hu' (by omega) (by omega)
   have hrl:=HRl2.out.upd hu' (Ck.noTy (HH.out.ck.old HB3.out)) (Ck.noTy (HH.out.ck.old HB3.out))
   rw [HNr.out] at hob
   have hlen:l.length=1+x.p.length:=by rw [hl];have:=HTk.out;have:=HN.out;omega
   have hown':=hown
   rw [←hl] at hown' ⊢
   have hr:=fun (e0:Int) he=>ZiX (ls:=ls) (e0:=e0) hm hop (x:=x) (by rw [HX.out];exact hcal) hlen hlt HPt.out he
   rw [HR.out] at hr
   have hsel:i.a.toNat=sl:=by rw [hia];exact Int.toNat_natCast _
   by_cases hk:(l.getD 0 default).k=2
   ·have hty:=ZfF (hlt _ (ZfU _ (by omega))) (.inl hk)
    have hmm:=hsm _ hty.1 hty.2
    refine (Ziw K h m _ _ _ l x.p (h.e j).po (h.e j).pc ma sl 1 ro rc (Zhx ⟨rk,rq⟩) (w.heap.size+2) w.heap.size (w.heap.size+1) (w.heap.size+3) w1.heap.size to' tc _ w3 hck (fun w' hu2=>HHM.out w' (huw.trans hu2)) hsb hcb hmb hvb hob hrl (fun w' hu2=>⟨(HMc.out w' (huw.trans hu2)).1,(HMc.out w' (huw.trans hu2)).2.2.2⟩) hown' hlen (by have:=HN.out;omega) (by decide) (by omega) rfl hk ⟨hty.1,hty.2,by rw [Int.toNat_natCast];exact hmm⟩).mono ?_
    exact fun r w2 hp=>hp.imp fun out e' hq=>by obtain ⟨h1,h2⟩:=hq;rw [h1,h2,HNr.out,ZjU];exact hr _ (by rw [Ziy,hsel,Int.toNat_natCast])
   ·refine (Ziv K h m _ _ _ l x.p (h.e j).po (h.e j).pc ma sl 1 ro rc (Zhx ⟨rk,rq⟩) (w.heap.size+2) w.heap.size (w.heap.size+1) (w.heap.size+3) w1.heap.size to' tc _ w3 hck (fun w' hu2=>HHM.out w' (huw.trans hu2)) hsb hcb hmb hvb hob hrl (fun w' hu2=>⟨(HMc.out w' (huw.trans hu2)).1,(HMc.out w' (huw.trans hu2)).2.2.2⟩) hown' hlen (by have:=HN.out;omega) (by decide) (by omega) rfl hk).mono ?_
    exact fun r w2 hp=>hp.imp fun out e' hq=>by obtain ⟨h1,h2⟩:=hq;rw [h1,h2,HNr.out,ZjU];exact hr _ (by rw [decide_eq_false hk];rfl)))
 clear b4 hb3 hW2 hU2 s0 s1 s3 s4 hS
 have hsum:(1:Int)+(np:Int)=(tk:Int):=by have:=HTk.out;omega
 have hwt:IntKind.i64.wrap ((tk:Nat):Int)=((tk:Nat):Int):=IntWalk.i64_in _ (by have:=HTk.out;omega)
 refine rO (fun w':World=>w'.cell? ⟨w.heap.size,0,none⟩=some (.pointer (some ⟨K,0,none⟩))∧w'.cell? ⟨w.heap.size+1,0,none⟩=some (.pointer (some ma))∧w'.cell? ⟨w.heap.size+3,0,none⟩=some (.int .i64 1)∧w'.cell? ⟨w1.heap.size,0,none⟩=some (.slice ro nr rc)∧w'.cell? ⟨ma.block,ma.off+2,none⟩=some (.slice (h.e j).po np (h.e j).pc)) (oL [0,1,2,3,4,5,6,7,8,9,10,111]) (HS.out _ (Upd.refl K K W2).drew) ?_
 exact k40
end
end
section
open Go.RowKit
theorem ZjX {w:World}{base:Nat}{e:TypeId}{size g cap n:Nat}{xs:List Value} (h:w.ownsRow base e size (.slice (some ⟨g,0,none⟩) n cap) n xs) {m:Nat} (hm:m≤n):w.ownsRow base e size (.slice (some ⟨g,0,none⟩) m cap) m (xs.take (m*size)):=by
 obtain ⟨h1,h2⟩:=h
 have hms:m*size≤n*size:=Nat.mul_le_mul_right _ hm
 rcases h2 with ⟨h0,_⟩|⟨g',cap',cur,hv,hg,hh,hn,hcap,hsz,htake⟩
 ·cases h0
 ·cases hv
  refine ⟨by rw [List.length_take,h1];exact Nat.min_eq_left hms,.inr ⟨g,cap,cur,rfl,hg,hh,by omega,hcap,hsz,?_⟩⟩
  rw [←htake,List.take_take,Nat.min_eq_left hms]
theorem Upd.setB {K B:Nat}{a b:World} (h:Upd K B a b) (j:Nat) (v:Value):Upd K B a (b.setCell ⟨B,j,none⟩ v):=
 h.trans ⟨rfl,rfl,rfl,by simp [World.setCell],fun k _ _ h2=>Below.heap_setCell _ _ _ _ h2⟩
section
variable {w0 w:World}{K:Nat}{h:Hd}{m:Md}{lo:Option Addr}{lc:Nat}{ls:List Ty}{s:Ps}{so:Option Addr}{sc:Nat}{oo:Option Addr}{oc:Nat}{bs:List VB}{i:In3}{r:List Opn}{o:Opn}{br:List VB}{b:VB}
theorem St.last (H:St w0 w K h m lo lc ls s so sc oo oc bs) (hs:s.opn=r++[o]):∃ br b,bs=br++[b]∧br.length=r.length:=by
 exact k52
theorem St.top (H:St w0 w K h m lo lc ls s so sc oo oc bs) (hs:s.opn=r++[o]) (hb:bs=br++[b]) (hl:br.length=r.length):ZhF w b o∧∃ g,oo=some ⟨g,0,none⟩∧g≠K∧w0.heap.size≤g∧g<w.heap.size∧ZeQ w g∧bs.length≤oc∧w.ownsRow w0.heap.size 269 4 (.slice (some ⟨g,0,none⟩) bs.length oc) bs.length (Zak br++Cells.cells b):=by
 have h1:=H.op.at_ br.length (by rw [hb];simp)
 rw [hs,hb] at h1
 rw [show (br++[b]).getD br.length default=b by simp,hl,show (r++[o]).getD r.length default=o by simp] at h1
 refine ⟨h1,?_⟩
 have hown:=H.op.own
 rcases hown.2 with ⟨_,hn⟩|⟨g,c,cur,hv,hbb,hg,hle,_⟩
 ·rw [hb] at hn;simp at hn
 ·cases hv
  have hnt:=H.op.noTy H.ck.noTy
  exact k64
theorem ZhF.of_upd {w':World}{B:Nat} (H:ZhG w w0.heap.size oo oc bs s.opn) (hu:Upd K B w w') (hK:ZeQ w K) (hB:ZeQ w B) (hs:s.opn=r++[o]) (hb:bs=br++[b]) (hl:br.length=r.length) {j:Nat} (hj:j<br.length):ZhF w' (br.getD j default) (r.getD j default):=by
 exact k48
theorem ZjY (H:St w0 w K h m lo lc ls s so sc oo oc bs) (hop:i.op=34) (hs:s.opn=r++[o]) (hb:bs=br++[b]) (hl:br.length=r.length) {g:Nat} (hoo:oo=some ⟨g,0,none⟩) {wd W2 W3:World} (hd:wd=w.drew)
  (hW2:W2=(wd.setCell ⟨g,br.length*4+2,none⟩ (.slice so s.stk.length sc)).setCell ⟨g,br.length*4+3,none⟩ (.bool true)) (h3:Below W2.heap.size W2 W3) {to':Option Addr}{tc:Nat} (hcl:ZeP W3 to' tc o.beg) (v:Value) :
  ZhT w0 w K h m lo lc ls oo (ZeC m ls i s) (.returned v) (W3.setCell ⟨K,5,none⟩ (.slice to' o.beg.length tc)):=by
 obtain ⟨hbr,g',hg',hgK,hgN,hgl,hgT,hoc,hown⟩:=H.top hs hb hl
 rw [hoo] at hg'
 cases hg'
 subst hoo
 have hu2:Upd K g w W2:=by rw [hW2,hd];exact ((Upd.refl K g w).drew.setB _ _).setB _ _
 have hu3:Upd K g w W3:=hu2.bel h3
 have hall:Upd K g w (W3.setCell ⟨K,5,none⟩ (.slice to' o.beg.length tc)):=hu3.set 5 _
 have hc2:Ck W2 K h m (.slice lo ls.length lc) (.slice so s.stk.length sc) (.slice (some ⟨g,0,none⟩) bs.length oc) 0:=by
  rw [hW2,hd]
  exact Ck.other (Ck.other (Ck.drew H.ck) hgK.symm _ _) hgK.symm _ _
 have hc3:=hc2.old h3
 have hstep:ZeC m ls i s=(0,⟨o.beg,r++[{ o with past:=s.stk,mid:=true }]⟩):=by
  unfold ZeC
  rw [if_pos hop,hs]
  simp
 refine ⟨⟨v,rfl⟩,hall,?_⟩
 rw [hstep]
 have hbl:bs.length=br.length+1:=by rw [hb];simp
 have hlen:(br++[({ b with fo:=so,fn:=s.stk.length,fc:=sc,mid:=true }:VB)]).length=bs.length:=by rw [hbl];simp
 refine .inl ⟨rfl,to',tc,some ⟨g,0,none⟩,oc,br++[{ b with fo:=so,fn:=s.stk.length,fc:=sc,mid:=true }],?_⟩
 refine ⟨?_,hcl.upd ((Upd.refl K K W3).set 5 _) hc3.noTy hc3.noTy,⟨?_,by simp [hl],fun j hj=>?_⟩,H.tl.upd hall H.ck.noTy hgT,hall.below H.hb (Nat.le_refl _) H.hK hgN,H.hK⟩
 ·rw [hlen];exact hc3.setS _
 ·rw [hlen,Zan,Zao]
  have h4:=((show wd.ownsRow w0.heap.size 269 4 (.slice (some ⟨g,0,none⟩) bs.length oc) bs.length (Zak br++Cells.cells b) by rw [hd];exact hown).stored (br.length*4+2) (.slice so s.stk.length sc)).1
  have h5:=(h4.stored (br.length*4+3) (.bool true)).1
  rw [←hW2] at h5
  have hf:(Zak br).length=br.length*4:=Zam br
  have e:((Zak br++Cells.cells b).set (br.length*4+2) (Value.slice so s.stk.length sc)).set (br.length*4+3) (.bool true)=Zak br++Cells.cells ({ b with fo:=so,fn:=s.stk.length,fc:=sc,mid:=true }:VB):=by
   rw [←hf,List.set_append_right (h:=by omega),List.set_append_right (h:=by omega)]
   congr 1
   rw [show (Zak br).length+2-(Zak br).length=2 by omega,show (Zak br).length+3-(Zak br).length=3 by omega]
   rfl
  rw [e] at h5
  have h6:W3.ownsRow w0.heap.size 269 4 (.slice (some ⟨g,0,none⟩) bs.length oc) bs.length (Zak br++Cells.cells ({ b with fo:=so,fn:=s.stk.length,fc:=sc,mid:=true }:VB)):=ZhI h5 fun k hk=>h3.block k (h5.lt k hk).2
  exact ownsRow_setCell_other h6 (by intro e;exact hgK (Option.some.inj e)) _
 ·rw [hlen,hbl] at hj
  by_cases hjl:j<br.length
  ·rw [show (br++[({ b with fo:=so,fn:=s.stk.length,fc:=sc,mid:=true }:VB)]).getD j default=br.getD j default by simp [List.getElem?_append_left hjl],show (r++[({ o with past:=s.stk,mid:=true }:Opn)]).getD j default=r.getD j default by simp [List.getElem?_append_left (show j<r.length by omega)]]
   exact ZhF.of_upd H.op hall H.ck.noTy hgT hs hb hl hjl
  ·obtain rfl:j=br.length:=by omega
   rw [show (br++[({ b with fo:=so,fn:=s.stk.length,fc:=sc,mid:=true }:VB)]).getD br.length default={ b with fo:=so,fn:=s.stk.length,fc:=sc,mid:=true } by simp,show (r++[({ o with past:=s.stk,mid:=true }:Opn)]).getD br.length default={ o with past:=s.stk,mid:=true } by rw [hl];simp]
   have hb2:=hbr.upd hall H.ck.noTy hgT
   exact ⟨hb2.op,rfl,hb2.bn,rfl,hb2.bg,H.ts.upd hall H.ck.noTy hgT⟩
def eqE (st want:List Ty):Int:=if st.length≠want.length then 12 else if st=want then 0 else 11
theorem ZjZ (H:St w0 w K h m lo lc ls s so sc oo oc bs) (hop:i.op=35) (hs:s.opn=r++[o]) (hb:bs=br++[b]) (hl:br.length=r.length) {g:Nat} (hoo:oo=some ⟨g,0,none⟩) {W3:World} (hu:Upd K K w W3) {want:List Ty} (hw:want=if o.mid then o.past else o.beg)
  (hc:Ck W3 K h m (.slice lo ls.length lc) (.slice so s.stk.length sc) (.slice oo bs.length oc) (eqE s.stk want)) (v:Value) :
  ZhT w0 w K h m lo lc ls oo (ZeC m ls i s) (.returned v) (W3.setCell ⟨K,6,none⟩ (.slice oo br.length oc)):=by
 obtain ⟨hbr,g',hg',hgK,hgN,hgl,hgT,hoc,hown⟩:=H.top hs hb hl
 rw [hoo] at hg'
 cases hg'
 have hall:Upd K K w (W3.setCell ⟨K,6,none⟩ (.slice oo br.length oc)):=hu.set 6 _
 refine ⟨⟨v,rfl⟩,hall.more,?_⟩
 unfold eqE at hc
 have hstep:ZeC m ls i s=if s.stk.length≠want.length then (12,s) else if s.stk=want then (0,⟨s.stk,r⟩) else (11,s):=by
  unfold ZeC
  rw [if_neg (by omega),if_pos hop,hs,hw]
  simp
 rw [hstep]
 by_cases h1:s.stk.length≠want.length
 ·rw [if_pos h1] at hc ⊢
  exact .inr ⟨(by intro q;cases q),_,_,hc.setO _⟩
 ·rw [if_neg h1] at hc ⊢
  by_cases h2:s.stk=want
  ·rw [if_pos h2] at hc ⊢
   refine .inl ⟨rfl,so,sc,oo,oc,br,hc.setO _,H.ts.upd hall H.ck.noTy H.ck.noTy,⟨?_,hl,fun j hj=>ZhF.of_upd H.op hall H.ck.noTy H.ck.noTy hs hb hl hj⟩,H.tl.upd hall H.ck.noTy H.ck.noTy,hall.below H.hb (Nat.le_refl _) H.hK H.hK,H.hK⟩
   subst hoo
   have h3:=ZjX hown (m:=br.length) (by rw [hb];simp)
   rw [show (Zak br++Cells.cells b).take (br.length*4)=Zak br from List.take_left' (Zam br)] at h3
   exact ZhI h3 fun k hk=>by
    cases hk
    exact hall.block g hgl hgK hgK
  ·rw [if_neg h2] at hc ⊢
   exact .inr ⟨(by intro q;cases q),_,_,hc.setO _⟩
end
theorem Zj0 (K:Nat) (h:Hd) (m:Md) (L O:Value) (so:Option Addr) (sc:Nat) (st:List Ty) (wo:Option Addr) (wc:Nat) (want:List Ty) (w:World) (H:Ck w K h m L (.slice so st.length sc) O 0) (hs:Zar w so sc st) (hw:Zar w wo wc want) (hl:st.length≤1000) :
  Calls Tryz.prog 252 #[.pointer (some ⟨K,0,none⟩),.slice wo want.length wc] w fun r w'=>(∃ v,r=.returned v)∧Ck w' K h m L (.slice so st.length sc) O (eqE st want)∧Upd K K w w':=by
 have k5:=H.cells.2.2.2.2.2.2.1
 have HH:=Zh H
 have HE:=Zh (ZgY st want so wo sc wc w hs hw (by omega))
 clear H hs hw
 by_cases h1:st.length=want.length
 ·have HL:=Zh h1
  obtain ⟨n,hn⟩:∃ n,n=st.length:=⟨_,rfl⟩
  obtain ⟨q,hq⟩:∃ q,q=decide (st=want):=⟨_,rfl⟩
  rw [←hq] at HE
  have HQ:=Zh hq
  rw [←h1,←hn] at HE ⊢
  rw [←hn] at k5 HH
  have HN:=Zh hn
  clear h1 hn hq
  have HW:=Zh (show ∀ w',Below w.heap.size w w'→Calls Tryz.prog 248 #[.pointer (some ⟨K,0,none⟩),.bool q] w' fun r w''=>(∃ v,r=.returned v)∧Ck w'' K h m L (.slice so n sc) O (ZeT 0 q)∧Upd K K w' w'' from fun w' hb=>ZeU K h m L _ O 0 q w' (HH.out.old hb))
  have he:eqE st want=ZeT 0 q:=by
   unfold eqE
   rw [if_neg (by rw [HL.out];simp),Ziy,HQ.out]
   simp
  have HEq:=Zh he
  clear he
  obtain ⟨e',he'⟩:∃ e',e'=eqE st want:=⟨_,rfl⟩
  rw [←he']
  have HE':=Zh he'
  clear he'
  go_enter Tryz.func252,Tryz.ntmps252
  go_wp2_with (first|(go_at_call 311;refine HE.out.mono ?_;rintro r w2 ⟨rfl,hb2⟩)|(go_at_call 248;refine (HW.out _ hb2).mono ?_;rintro r w3 ⟨⟨v,rfl⟩,hc3,hu3⟩;have HC3:=Zh hc3;have HU3:=Zh hu3;clear hc3 hu3))
  go_end0
  refine ⟨⟨_,rfl⟩,?_,(Upd.of hb2).trans HU3.out⟩
  rw [HE'.out,HEq.out]
  exact HC3.out
 ·have HL:=Zh h1
  obtain ⟨n,hn⟩:∃ n,n=st.length:=⟨_,rfl⟩
  obtain ⟨n2,hn2⟩:∃ n,n=want.length:=⟨_,rfl⟩
  rw [←hn,←hn2] at h1
  rw [show eqE st want=12 from if_pos (by rw [←hn,←hn2];exact h1),←hn,←hn2]
  rw [←hn] at k5 HH
  have hne:((n:Int) == (n2:Int))=false:=by simp;omega
  have HF:=Zh (ZeS K h m L (.slice so n sc) O 0 12 w HH.out)
  clear hn hn2 h1
  go_enter Tryz.func252,Tryz.ntmps252
  go_wp2_with (go_at_call 318;refine HF.out.mono ?_;rintro r w3 ⟨⟨v,rfl⟩,hc3,hu3⟩)
  refine bodyPost_ret (results_none rfl _ _ _) rfl ?_
  exact ⟨⟨_,rfl⟩,hc3,hu3⟩
end
section
open Go.RowKit
theorem Zj1 {w:World}{base g oc n:Nat}{br:List VB}{b:VB} (h:w.ownsRow base 269 4 (.slice (some ⟨g,0,none⟩) n oc) n (Zak br++Cells.cells b)):∃ ba,ba=(⟨g,0,none⟩:Addr).add (br.length*4)∧ba=⟨g,br.length*4,none⟩ ∧
  w.cell? ba=some (.int .i64 b.op)∧w.cell? ⟨ba.block,ba.off+1,none⟩=some (.slice b.bo b.bn b.bc)∧w.cell? ⟨ba.block,ba.off+2,none⟩=some (.slice b.fo b.fn b.fc)∧w.cell? ⟨ba.block,ba.off+3,none⟩=some (.bool b.mid)∧(∀ j,w.frozen? ⟨g,j,none⟩=false):=by
 have hf:(Zak br).length=br.length*4:=Zam br
 have hx:h.1=h.1:=rfl
 exact k27
section
variable {w0 w:World}{K:Nat}{h:Hd}{m:Md}{lo:Option Addr}{lc:Nat}{ls:List Ty}{s:Ps}{so:Option Addr}{sc:Nat}{oo:Option Addr}{oc:Nat}{bs:List VB}{i:In3}{r:List Opn}{o:Opn}(H:St w0 w K h m lo lc ls s so sc oo oc bs)
include w0 w K h m lo lc ls s so sc oo oc bs i r o H
theorem Zj2 (hop:i.op=34) (hs:s.opn=r++[o]) (hd:s.opn.length≤6) (hbl:o.beg.length≤12):
  Calls Tryz.prog 185 #[.pointer (some ⟨K,0,none⟩)] w (ZhT w0 w K h m lo lc ls oo (ZeC m ls i s)):=by
 obtain ⟨br,b,hb,hl⟩:=H.last hs
 obtain ⟨hbr,g,hoo,hgK,hgN,hgl,hgT,hoc,hown⟩:=H.top hs hb hl
 obtain ⟨ba,hba,hbv,x0,x1,x2,x3,hfz⟩:=Zj1 hown
 have hbb:ba.block=g:=by rw [hbv]
 have k5:=H.ck.cells.2.2.2.2.2.2.1
 have k6:=H.ck.cells.2.2.2.2.2.2.2.1
 have kl:=Blk.lt H.ck
 obtain ⟨ad,had⟩:∃ a,a=(⟨g,0,none⟩:Addr):=⟨_,rfl⟩
 rw [hoo,←had] at k6
 rw [←had] at hba
 obtain ⟨n,hn⟩:∃ n,n=br.length:=⟨_,rfl⟩
 obtain ⟨ln,hln⟩:∃ n,n=bs.length:=⟨_,rfl⟩
 have hl1:ln=n+1:=by rw [hln,hn,hb];simp
 rw [←hln] at k6
 rw [←hn] at hba
 have hlt:n<ln:=by omega
 have hlt2:(n:Int) < ln:=by omega
 have hol:=H.op.len
 have hw1:IntKind.i64.wrap ((ln:Int)-1)=(n:Int):=by rw [show (ln:Int)-1=(n:Int) by omega];exact IntWalk.i64_in _ (by omega)
 have hw2:(ln:Int)-1=(n:Int):=by omega
 have hw3:IntKind.i64.wrap (n:Int)=(n:Int):=IntWalk.i64_in _ (by omega)
 have f2:=hfz (br.length*4+2)
 have f3:=hfz (br.length*4+3)
 have e2:(⟨ba.block,ba.off+2,none⟩:Addr)=⟨g,br.length*4+2,none⟩:=by rw [hbv]
 have e3:(⟨ba.block,ba.off+3,none⟩:Addr)=⟨g,br.length*4+3,none⟩:=by rw [hbv]
 rw [←e2] at f2
 rw [←e3] at f3
 have HME:=Zh (fun (W3:World) (h3:Below ((w.drew.setCell ⟨g,br.length*4+2,none⟩ (.slice so s.stk.length sc)).setCell ⟨g,br.length*4+3,none⟩ (.bool true)).heap.size ((w.drew.setCell ⟨g,br.length*4+2,none⟩ (.slice so s.stk.length sc)).setCell ⟨g,br.length*4+3,none⟩ (.bool true)) W3) (to':Option Addr) (tc:Nat) (hcl:ZeP W3 to' tc o.beg) (v:Value)=>ZjY H hop hs hb hl hoo rfl rfl h3 hcl v)
 rw [←e2,←e3] at HME
 have hbg:ZeP ((w.drew.setCell ⟨ba.block,ba.off+2,none⟩ (.slice so s.stk.length sc)).setCell ⟨ba.block,ba.off+3,none⟩ (.bool true)) b.bo b.bc o.beg:=by
  rw [e2,e3]
  exact hbr.bg.upd (((Upd.refl K g w).drew.setB _ _).setB _ _) H.ck.noTy hgT
 have hx1:((w.drew.setCell ⟨ba.block,ba.off+2,none⟩ (.slice so s.stk.length sc)).setCell ⟨ba.block,ba.off+3,none⟩ (.bool true)).cell? ⟨ba.block,ba.off+1,none⟩=some (.slice b.bo b.bn b.bc):=by
  rw [World.cell?_setCell_other (h:=by intro q;have:=congrArg Addr.off q;simp at this),World.cell?_setCell_other (h:=by intro q;have:=congrArg Addr.off q;simp at this)]
  exact x1
 have hk5:((w.drew.setCell ⟨ba.block,ba.off+2,none⟩ (.slice so s.stk.length sc)).setCell ⟨ba.block,ba.off+3,none⟩ (.bool true)).cell? ⟨K,5,none⟩=some (.slice so s.stk.length sc):=by
  rw [World.cell?_setCell_other (h:=by intro q;have:=congrArg Addr.block q;simp at this;omega),World.cell?_setCell_other (h:=by intro q;have:=congrArg Addr.block q;simp at this;omega)]
  exact k5
 have hf5:Blk ((w.drew.setCell ⟨ba.block,ba.off+2,none⟩ (.slice so s.stk.length sc)).setCell ⟨ba.block,ba.off+3,none⟩ (.bool true)) K (ckC h m (.slice lo ls.length lc) (.slice so s.stk.length sc) (.slice oo bs.length oc) 0) 214:=Ck.other (Ck.other (Ck.drew H.ck) (by omega) _ _) (by omega) _ _
 obtain ⟨bn,hbn⟩:∃ n,n=b.bn:=⟨_,rfl⟩
 rw [←hbn] at x1 hx1
 have HBn:=Zh (hbn.trans hbr.bn)
 obtain ⟨W2,hW2⟩:∃ W2,W2=(w.drew.setCell ⟨ba.block,ba.off+2,none⟩ (.slice so s.stk.length sc)).setCell ⟨ba.block,ba.off+3,none⟩ (.bool true):=⟨_,rfl⟩
 rw [←hW2] at HME hbg hx1 hk5 hf5
 have HW2:=Zh (show W2=((w.setCell ⟨ba.block,ba.off+2,none⟩ (.slice so s.stk.length sc)).setCell ⟨ba.block,ba.off+3,none⟩ (.bool true)).drew from hW2.trans rfl)
 have HBg:=Zh hbg
 have HF5:=Zh hf5
 have HX1:=Zh hx1
 have HK5:=Zh hk5
 have HBa:=Zh hba
 have HLn:=Zh hln
 clear hbb hba hW2 hbg hf5 hx1 hk5 hbn hs hb hl hop H hown hbv hbr e2 e3 hfz hoo had hn hln hl1 hol x0 x1
 go_enter Tryz.func185,Tryz.ntmps185
 go_wp2_with fail
 refine rO (fun w':World=>w'.cell? ⟨K,6,none⟩=some (.slice (some ad) ln oc)) (oL [0,1,2,3,4,5,6,7,8,9,10,11]) k6 ?_
 repeat refine pO ?_
 refine Zd5 ?_
 rw [←HBa.out]
 go_upto_region 2 with fail
 rw [←HW2.out]
 have y1:=HX1.out
 have y5:=HK5.out
 go_wp2_with (go_at_call 183;rw [HBn.out];refine (ZhA _ b.bo b.bc o.beg HBg.out.1 (by omega)).mono ?_;rintro r w3 ⟨⟨to',tc,rfl,hown3⟩,hb3⟩;have z5:=(Blk.old HF5.out hb3).frozen 5;have z6:=(Blk.old HF5.out hb3).cell 5 (v:=.slice so s.stk.length sc) rfl;have HO3:=Zh hown3;have HB3:=Zh hb3;clear hown3 hb3)
 go_end0
 exact HME.out _ HB3.out to' tc (ZeP.own HO3.out) _
theorem Zj3 (hop:i.op=35) (hs:s.opn=r++[o]) (hd:s.opn.length≤6) (hsl:s.stk.length≤12):
  Calls Tryz.prog 186 #[.pointer (some ⟨K,0,none⟩)] w (ZhT w0 w K h m lo lc ls oo (ZeC m ls i s)):=by
 obtain ⟨br,b,hb,hl⟩:=H.last hs
 obtain ⟨hbr,g,hoo,hgK,hgN,hgl,hgT,hoc,hown⟩:=H.top hs hb hl
 obtain ⟨ba,hba,hbv,x0,x1,x2,x3,hfz⟩:=Zj1 hown
 have hbb:ba.block=g:=by rw [hbv]
 have k5:=H.ck.cells.2.2.2.2.2.2.1
 have k6:=H.ck.cells.2.2.2.2.2.2.2.1
 have kl:=Blk.lt H.ck
 obtain ⟨ad,had⟩:∃ a,a=(⟨g,0,none⟩:Addr):=⟨_,rfl⟩
 rw [hoo,←had] at k6
 rw [←had] at hba
 obtain ⟨n,hn⟩:∃ n,n=br.length:=⟨_,rfl⟩
 obtain ⟨ln,hln⟩:∃ n,n=bs.length:=⟨_,rfl⟩
 have hl1:ln=n+1:=by rw [hln,hn,hb];simp
 rw [←hln] at k6
 rw [←hn] at hba
 have hlt:n<ln:=by omega
 have hlt2:(n:Int) < ln:=by omega
 have hol:=H.op.len
 have hw1:IntKind.i64.wrap ((ln:Int)-1)=(n:Int):=by rw [show (ln:Int)-1=(n:Int) by omega];exact IntWalk.i64_in _ (by omega)
 have hw2:(ln:Int)-1=(n:Int):=by omega
 have hw3:IntKind.i64.wrap (n:Int)=(n:Int):=IntWalk.i64_in _ (by omega)
 obtain ⟨want,hwant⟩:∃ l,l=if o.mid then o.past else o.beg:=⟨_,rfl⟩
 have HEE:=Zh (fun (W3:World) (hu:Upd K K w W3) hc (v:Value)=>ZjZ (i:=i) (W3:=W3) H hop hs hb hl hoo hu hwant hc v)
 rw [←hln,←hn,hoo,←had] at HEE
 have hck:=H.ck
 rw [hoo,←had,←hln] at hck
 obtain ⟨bn,hbn⟩:∃ n,n=b.bn:=⟨_,rfl⟩
 obtain ⟨fn,hfn⟩:∃ n,n=b.fn:=⟨_,rfl⟩
 obtain ⟨mid,hmid⟩:∃ n,n=b.mid:=⟨_,rfl⟩
 rw [←hbn] at x1
 rw [←hfn] at x2
 rw [←hmid] at x3
 have HBr:=Zh hbr
 have HBn:=Zh (hbn.trans hbr.bn)
 have HFn:=Zh (hfn.trans hbr.fn)
 have HMi:=Zh (hmid.trans hbr.mid)
 have hS:∀ w',Below w.heap.size w w'→(fun w':World=>w'.cell? ⟨K,6,none⟩=some (.slice (some ad) ln oc)∧w'.cell? ba=some (.int .i64 b.op)∧w'.cell? ⟨ba.block,ba.off+1,none⟩=some (.slice b.bo bn b.bc)∧w'.cell? ⟨ba.block,ba.off+2,none⟩=some (.slice b.fo fn b.fc)∧w'.cell? ⟨ba.block,ba.off+3,none⟩=some (.bool mid)) w':=fun w' hb'=>⟨(hb'.cell (Zac k6)).trans k6,(hb'.cell (Zac x0)).trans x0,(hb'.cell (Zac x1)).trans x1,(hb'.cell (Zac x2)).trans x2,(hb'.cell (Zac x3)).trans x3⟩
 have HS:=Zh hS
 have HC:=Zh hck
 have HTs:=Zh H.ts
 have HNo:=Zh H.ck.noTy
 have HBa:=Zh hba
 have HWt:=Zh hwant
 have hoc2:ln≤oc:=by omega
 have hoc3:n≤oc:=by omega
 rw [hoo,←had]
 clear hbb hba hS hck hbn hfn hmid hbr hs hb hl hop H hown hbv hfz hoo had hn hln hl1 hol x0 x1 x2 x3 k5 k6 hwant hoc
 rcases mid with _|_
 ·go_enter Tryz.func186,Tryz.ntmps186
  go_wp2_with fail
  refine rO (fun w':World=>w'.cell? ⟨K,6,none⟩=some (.slice (some ad) ln oc)∧w'.cell? ba=some (.int .i64 b.op)∧w'.cell? ⟨ba.block,ba.off+1,none⟩=some (.slice b.bo bn b.bc)∧w'.cell? ⟨ba.block,ba.off+2,none⟩=some (.slice b.fo fn b.fc)∧w'.cell? ⟨ba.block,ba.off+3,none⟩=some (.bool false)) (oL [0,1,2,3,4,5,6,7,8,9,10,11,112,113]) (HS.out _ bE) ?_
  iterate 11 (refine pO ?_)
  rw [←HBa.out]
  repeat refine pO ?_
  refine oO fun Kv hK=>?_
  go_simp
  refine hK _ _ ⟨HS.out _ bE,?_⟩
  clear hK Kv
  refine oO fun Kv hK=>?_
  go_simp
  refine hK _ _ ⟨HS.out _ bE,?_⟩
  clear hK Kv
  refine Zd5 ?_
  obtain ⟨W1,hW1⟩:∃ W1,W1=(w.alloc (.cells #[.int .i64 b.op,.slice b.bo bn b.bc,.slice b.fo fn b.fc,.bool false] 269)).drew:=⟨_,rfl⟩
  have hb1:Below w.heap.size w W1:=by rw [hW1];exact bE
  have hX:Blk W1 w.heap.size #[.int .i64 b.op,.slice b.bo bn b.bc,.slice b.fo fn b.fc,.bool false] 269:=by rw [hW1];exact Blk.drew (Blk.new w _ _)
  rw [←hW1]
  have y1:=hX.cell 1 (v:=.slice b.bo bn b.bc) rfl
  have y2:=hX.cell 2 (v:=.slice b.fo fn b.fc) rfl
  have y3:=hX.cell 3 (v:=.bool false) rfl
  have hwt:want=o.beg:=by
   exact k74
  have HEq:=Zh (show Calls Tryz.prog 252 #[.pointer (some ⟨K,0,none⟩),.slice b.bo bn b.bc] W1 fun r w'=>(∃ v,r=.returned v)∧Ck w' K h m (.slice lo ls.length lc) (.slice so s.stk.length sc) (.slice (some ad) ln oc) (eqE s.stk want)∧Upd K K W1 w' from by
   have h1:=Zj0 K h m (.slice lo ls.length lc) (.slice (some ad) ln oc) so sc s.stk b.bo b.bc want W1 (HC.out.old hb1) (HTs.out.1.old hb1) (by rw [hwt];exact HBr.out.bg.1.old hb1) (by omega)
   rw [show bn=want.length by rw [hwt];exact HBn.out]
   exact h1)
  exact k21
 ·go_enter Tryz.func186,Tryz.ntmps186
  go_wp2_with fail
  refine rO (fun w':World=>w'.cell? ⟨K,6,none⟩=some (.slice (some ad) ln oc)∧w'.cell? ba=some (.int .i64 b.op)∧w'.cell? ⟨ba.block,ba.off+1,none⟩=some (.slice b.bo bn b.bc)∧w'.cell? ⟨ba.block,ba.off+2,none⟩=some (.slice b.fo fn b.fc)∧w'.cell? ⟨ba.block,ba.off+3,none⟩=some (.bool true)) (oL [0,1,2,3,4,5,6,7,8,9,10,11,112,113]) (HS.out _ bE) ?_
  iterate 11 (refine pO ?_)
  rw [←HBa.out]
  repeat refine pO ?_
  refine oO fun Kv hK=>?_
  go_simp
  refine hK _ _ ⟨HS.out _ bE,?_⟩
  clear hK Kv
  refine oO fun Kv hK=>?_
  go_simp
  refine hK _ _ ⟨HS.out _ bE,?_⟩
  clear hK Kv
  refine Zd5 ?_
  obtain ⟨W1,hW1⟩:∃ W1,W1=(w.alloc (.cells #[.int .i64 b.op,.slice b.bo bn b.bc,.slice b.fo fn b.fc,.bool true] 269)).drew:=⟨_,rfl⟩
  have hb1:Below w.heap.size w W1:=by rw [hW1];exact bE
  have hX:Blk W1 w.heap.size #[.int .i64 b.op,.slice b.bo bn b.bc,.slice b.fo fn b.fc,.bool true] 269:=by rw [hW1];exact Blk.drew (Blk.new w _ _)
  rw [←hW1]
  have y1:=hX.cell 1 (v:=.slice b.bo bn b.bc) rfl
  have y2:=hX.cell 2 (v:=.slice b.fo fn b.fc) rfl
  have y3:=hX.cell 3 (v:=.bool true) rfl
  have hwt:want=o.past:=by
   exact k74
  have HEq:=Zh (show Calls Tryz.prog 252 #[.pointer (some ⟨K,0,none⟩),.slice b.fo fn b.fc] W1 fun r w'=>(∃ v,r=.returned v)∧Ck w' K h m (.slice lo ls.length lc) (.slice so s.stk.length sc) (.slice (some ad) ln oc) (eqE s.stk want)∧Upd K K W1 w' from by
   have h1:=Zj0 K h m (.slice lo ls.length lc) (.slice (some ad) ln oc) so sc s.stk b.fo b.fc want W1 (HC.out.old hb1) (HTs.out.1.old hb1) (by rw [hwt];exact HBr.out.ps.1.old hb1) (by omega)
   rw [show fn=want.length by rw [hwt];exact HFn.out]
   exact h1)
  exact k21
end
end
end Go.Proofs.YtcfjblcgceednaaGreat
