/- Joined texts. The first: verify: more closures: those of dup, setstatic and cast. -/
import Derived.Test.YtfkbfjhocmbneaaGreatG6
set_option linter.all false
set_option linter.unusedVariables false
set_option linter.unusedSimpArgs false
set_option maxRecDepth 100000
set_option maxHeartbeats 4000000
namespace Go.Proofs.YtfkbfjhocmbneaaGreat
theorem k0{p:Prop}(h:p:=by
 have mb0:=(Blk.upd HB.out.2.2.1 HU1.out mne mne).cell 0 (v:=.pointer (some ma)) rfl
 have mp:=(HMa.out _ HU1.out).1
 clear hsb hcb hmb hvb hob hown
 go_wp2_with fail
 go_loopw [42] (fun i wr=>∃ k:Nat,k≤ps.length∧i=.int .i64 k∧Hid (Upd K K W wr)∧Hid (Ck wr K h m L S O (errF m l ps more e0 k))) (fun i _=>ps.length-(intOf i).toNat)
 case atStart=>exact ⟨0,by omega,rfl,HU1,HC1⟩
 case round=>
  obtain ⟨k,hk,rfl,HU2,HC2⟩:=hrel
  by_cases hkl:k<ps.length
  ·obtain ⟨pa,hpo,p0,p1⟩:=row_ty (HMa.out _ HU2.out).2 hkl
   obtain ⟨ta,hto,t0,t1⟩:=row_ty (HT.out.upd HU2.out HNo.out HNo.out).1 (i:=more+k) (by have:=HLen.out;omega)
   have tne:=HNe.out _ hto
   cases hto
   cases hpo
   have hkl2:(k:Int) < ps.length:=by omega
   have hml2:((more+k:Nat):Int) < l.length:=by have:=HLen.out;omega
   have hwr:IntKind.i64.wrap ((k:Int)+1)=k+1:=IntWalk.i64_in _ (by omega)
   have hwm:IntKind.i64.wrap ((more:Int)+k)=((more+k:Nat):Int):=by rw [show (more:Int)+k=((more+k:Nat):Int) by omega];exact IntWalk.i64_in _ (by omega)
   have pl:=cell_lt p0
   have tl:=cell_lt t0
   have v0:=(Blk.upd HB.out.2.2.2.1 HU2.out vne vne).cell 0 (v:=.int .i64 more) rfl
   have c0:=(Blk.upd HB.out.2.1 HU2.out cne cne).cell 0 (v:=.pointer (some ⟨K,0,none⟩)) rfl
   have vl:=cell_lt v0
   have cl:=cell_lt c0
   have kl2:=Blk.lt HC2.out
   have hwn:IntKind.i64.wrap (((more+k:Nat):Int))=((more+k:Nat):Int):=IntWalk.i64_in _ (by omega)
   have hsum:(more:Int)+(k:Int)=((more+k:Nat):Int):=by omega
   generalize hn:more+k=n at t0 t1 hwm hml2 tl hsum hwn
   have tadd:(ta.add (n*2)).block=ta.block:=by unfold Addr.add;split<;>rfl
   have padd:(pa.add (k*2)).block=pa.block:=by unfold Addr.add;split<;>rfl
   obtain ⟨⟨pk,pq⟩,hp⟩:∃ x,x=ps.getD k default:=⟨_,rfl⟩
   obtain ⟨⟨tk,tq⟩,ht⟩:∃ x,x=l.getD n default:=⟨_,rfl⟩
   rw [←hp] at p0 p1
   rw [←ht] at t0 t1
   dsimp only at p0 p1 t0 t1
   obtain ⟨ft,hft⟩:∃ x,x=fitG m ⟨tk,tq⟩ ⟨pk,pq⟩:=⟨_,rfl⟩
   obtain ⟨ek,hek⟩:∃ x,x=errF m l ps more e0 k:=⟨_,rfl⟩
   rw [←hek] at HC2
   have HFi:=Lib.hid (show ∀ w':World,Upd K K W w'→Ck w' K h m L S O ek→Calls Tryz.prog 182 #[.pointer (some ⟨K,0,none⟩),.agg #[.int .i64 tk,.int .i64 tq],.agg #[.int .i64 pk,.int .i64 pq]] w' fun r w''=>(∃ v,r=.returned v)∧Ck w'' K h m L S O (wantC ek (decide (ek=0)&&ft))∧Upd K K w' w'' from fun w' hu hc=>by have:=fit_any K h m L S O ek ⟨tk,tq⟩ ⟨pk,pq⟩ w' hc (HMo'.out w' hu);rw [←hft] at this;exact this)
   have HE:=Lib.hid (show errF m l ps more e0 (k+1)=wantC ek (decide (ek=0)&&ft) from by rw [hft,ht,hp,←hn,hek];rfl)
   have HU3:=Lib.hid (HU2.out.alloc (.cells #[.int .i64 pk,.int .i64 pq] 35))
   have HC3:=Lib.hid (Ck.old (w':=wr.alloc (.cells #[.int .i64 pk,.int .i64 pq] 35)) HC2.out bE)
   have hx:=Blk.new wr #[.int .i64 pk,.int .i64 pq] 35
   have x0:=hx.cell 0 (v:=.int .i64 pk) rfl
   have x1:=hx.cell 1 (v:=.int .i64 pq) rfl
   have hS:∀ w',Upd K K (wr.alloc (.cells #[.int .i64 pk,.int .i64 pq] 35)) w'→(fun w':World=>w'.cell? ⟨cb,0,none⟩=some (.pointer (some ⟨K,0,none⟩))∧w'.cell? ⟨vb,0,none⟩=some (.int .i64 more)∧w'.cell? (ta.add (n*2))=some (.int .i64 tk)∧w'.cell? ⟨(ta.add (n*2)).block,(ta.add (n*2)).off+1,none⟩=some (.int .i64 tq)∧w'.cell? ⟨wr.heap.size,0,none⟩=some (.int .i64 pk)∧w'.cell? ⟨wr.heap.size,1,none⟩=some (.int .i64 pq)) w':=by
    intro w' hu
    have ha:∀ {p:Addr}{v:Value},wr.cell? p=some v→(wr.alloc (.cells #[.int .i64 pk,.int .i64 pq] 35)).cell? p=some v:=fun {p v} hc=>((Below.refl wr.heap.size wr).alloc (Nat.le_refl _) _).cell (cell_lt hc) |>.trans hc
    have q:∀ {p:Addr}{v:Value},wr.cell? p=some v→p.block≠K→w'.cell? p=some v:=fun hc hp=>hu.cell (ha hc) hp hp
    exact ⟨q c0 cne,q v0 vne,q t0 (by rw [tadd];exact tne),q (p:=⟨(ta.add (n*2)).block,(ta.add (n*2)).off+1,none⟩) t1 (by show (ta.add (n*2)).block≠K;rw [tadd];exact tne),hu.cell x0 (by show wr.heap.size≠K;omega) (by show wr.heap.size≠K;omega),hu.cell x1 (by show wr.heap.size≠K;omega) (by show wr.heap.size≠K;omega)⟩
   have HS:=Lib.hid hS
   have HK:=Lib.hid hkl
   have HN:=Lib.hid hn
   clear hS x0 x1 hx v0 c0 t0 t1 hp ht hft hek hn hkl tadd padd mb0 mp
   go_upto_region 6 with fail
   refine rO (fun w':World=>w'.cell? ⟨cb,0,none⟩=some (.pointer (some ⟨K,0,none⟩))∧w'.cell? ⟨vb,0,none⟩=some (.int .i64 more)∧w'.cell? (ta.add (n*2))=some (.int .i64 tk)∧w'.cell? ⟨(ta.add (n*2)).block,(ta.add (n*2)).off+1,none⟩=some (.int .i64 tq)∧w'.cell? ⟨wr.heap.size,0,none⟩=some (.int .i64 pk)∧w'.cell? ⟨wr.heap.size,1,none⟩=some (.int .i64 pq)) (oL [0,1,2,3,4,5,6,7,108]) (HS.out _ (Upd.refl K K _).drew) ?_
   repeat refine pO ?_
   refine oO fun Kv hK=>?_
   go_simp
   refine (HFi.out _ HU3.out.drew (Ck.drew HC3.out)).mono ?_
   rintro r w4 ⟨⟨v4,rfl⟩,hc4,hu4⟩
   have HU4:=Lib.hid (HU3.out.drew.trans hu4)
   have HC4:=Lib.hid hc4
   have HV4:=Lib.hid ((Upd.refl K K (wr.alloc (.cells #[.int .i64 pk,.int .i64 pq] 35))).drew.trans hu4)
   clear hc4 hu4
   refine hK _ _ ⟨HS.out _ HV4.out,?_⟩
   clear hK Kv
   repeat refine pO ?_
   refine wpMixO_done ?_
   go_wp2_with fail
   go_roundw
   case rel=>exact ⟨k+1,HK.out,rfl,HU4,by rw [HE.out];exact HC4⟩
   case measure=>simp [intOf];have:=HK.out;omega
  ·obtain rfl:k=ps.length:=by omega
   have o0:=(Blk.upd HB.out.2.2.2.2 HU2.out one one).cell 0 (v:=.slice ro rl.length rc) rfl
   go_wp2_with fail
   go_ret
   exact ⟨ro,rc,rl,_,rfl,HR.out.upd HU2.out HNo.out HNo.out,HC2.out,HU2.out,rfl,rfl⟩):p:=h
theorem k4{p:Prop}(h:p:=by
 go_wp2_with (go_at_call 171;refine HD.out.mono ?_;rintro r w2 ⟨⟨v,rfl⟩,hu2,hd2⟩;have HU2:=Lib.hid hu2;have HD2:=Lib.hid hd2;clear hu2 hd2)
 go_end0
 exact DoPost.bel ⟨⟨_,rfl⟩,HU2.out,HD2.out⟩ HB1.out):p:=h
theorem k11{p:Prop}(h:p:=by
 have HD4:=Lib.hid hd4
 have hck:∃ L S O e,Ck w4 K h m L S O e:=by obtain ⟨so2,sc2,st2,h1,-⟩:=HD4.out;exact ⟨_,_,_,_,h1⟩
 refine hK _ _ ⟨HS.out _ HU4.out hck,?_⟩
 clear hK Kv hu4 hd4 hck
 refine wpMixO_done ?_
 go_wp2
 go_end0
 exact DoPost.bel ⟨⟨_,rfl⟩,HU4.out,HD4.out⟩ HB1.out):p:=h
theorem k16{p:Prop}(h:p:=by
 have HB1:=Lib.hid hb1
 clear hb1 hbx hbi H1 H HM hlo HW hi hm
 go_enter Tryz.func131,Tryz.ntmps131
 exact k4):p:=h
theorem k60{p:Prop}(h:p:=by
 go_wp2_with (go_at_call 179;refine HD.out.mono ?_;rintro r w2 ⟨⟨v,rfl⟩,hu2,hd2⟩;have HU2:=Lib.hid hu2;have HD2:=Lib.hid hd2;clear hu2 hd2)
 go_end0
 exact DoPost.bel ⟨⟨_,rfl⟩,HU2.out,HD2.out⟩ HB1.out):p:=h
theorem k68{p:Prop}(h:p:=by
 rintro r w4 ⟨⟨v4,rfl⟩,hu4,hd4⟩
 have HU4:=Lib.hid ((Upd.of HB3.out).trans hu4)
 exact k11):p:=h
theorem k79{p:Prop}(h:p:=by
 obtain ⟨xs,z,hx⟩:=HT.out.2.2 a ha
 exact HNo.out.2 xs z (q▸hx)):p:=h
theorem k93{p:Prop}(h:p:=by
 refine res_ite (by simp) (fun _=>rfl) ?_
 rw [wantC0];rfl):p:=h
section
open Go.RowKit
section
variable (K:Nat)(h:Hd)(m:Md)(L S O:Value)(a:Ty)
include K h m L S O a
theorem simple3_any (to':Option Addr) (tc:Nat) (w W:World) (H:Ck W K h m L S O 0) (hu:Upd K K w W) (hown:W.ownsRow w.heap.size 35 2 (.slice to' 1 tc) 1 (flatR [a])):
  Calls Tryz.prog 183 #[.slice to' 1 tc] W (ClPost w K h m L S O fun out e'=>out=[a,a]∧e'=0):=by
 obtain ⟨g,rfl,hgK,hgl,htc,hcl⟩:=own_ty hown H
 have hb:=hown.lt g rfl
 obtain ⟨ak,ac⟩:=a
 have a0:=hcl 0 (.int .i64 ak) rfl
 have a1:=hcl 1 (.int .i64 ac) rfl
 have hz:=hu.size
 have HO:=Lib.hid (World.ownsRow.alloc hown (.cells #[.int .i64 ak,.int .i64 ac] 35))
 have HX:=Lib.hid (sla_blkV (n:=1) (size:=2) (Blk.new W #[.int .i64 ak,.int .i64 ac] 35) rfl)
 have HC:=Lib.hid H
 have HU:=Lib.hid hu
 clear H hu hown hcl
 go_enter Tryz.func183,Tryz.ntmps183
 go_wp2_with (at_builtin;refine wpList_wp rfl ?_;refine wp_append_slx (.tmp 3) (.tmp 7) 23 rfl w.heap.size 35 2 16 elTyV _ 1 _ rfl HO.out _ 1 1 [.int .i64 ak,.int .i64 ac] rfl HX.out (by intro u hu;simp only [List.mem_cons,List.not_mem_nil,or_false] at hu;rcases hu with rfl|rfl<;>rfl) (by decide) (by decide) (by simp;omega) ?_;intro ao2 cap2 w4 hown4 hg4;have HO4:=Lib.hid hown4;have HG4:=Lib.hid hg4;clear hown4 hg4)
 go_ret
 have hK:=Blk.lt HC.out
 have hkg:some K≠(Value.slice (some ⟨g,0,none⟩) 1 tc).ownBlock:=fun e=>hgK (Option.some.inj e).symm
 refine ⟨ao2,cap2,[⟨ak,ac⟩,⟨ak,ac⟩],0,rfl,TyAt.own HO4.out,?_,?_,rfl,rfl⟩
 ·unfold Ck Blk
  rw [HG4.out.block K (by simp;omega) hkg]
  exact Ck.old (w':=W.alloc (.cells #[.int .i64 ak,.int .i64 ac] 35)) HC.out bE
 ·have h1:=HU.out.alloc (.cells #[.int .i64 ak,.int .i64 ac] 35)
  refine ⟨HG4.out.os.trans h1.os,HG4.out.tape.trans h1.tape,HG4.out.output.trans h1.output,Nat.le_trans h1.size HG4.out.size,fun k hk hne _=>?_⟩
  rw [HG4.out.block k (Nat.lt_of_lt_of_le hk h1.size) (fun e=>by have:=(Option.some.inj e:k=g);omega)]
  exact h1.block k hk hne hne
theorem memory6_any (op ia ib:Int) (to':Option Addr) (tc base cb ib0:Nat) (W:World) (H:Ck W K h m L S O 0) (HMo:∀ w',Upd K K W w'→ModAt w' h m) (hcb:Blk W cb #[.pointer (some ⟨K,0,none⟩)] 148) (hib:Blk W ib0 #[.int .i64 op,.int .i64 ia,.int .i64 ib] 42) (hown:W.ownsRow base 35 2 (.slice to' 1 tc) 1 (flatR [a])) (ha:0≤ia) (hi:ia<m.st.length):
  Calls Tryz.prog 231 #[.slice to' 1 tc,.pointer (some ⟨cb,0,none⟩),.pointer (some ⟨ib0,0,none⟩)] W (ClPost W K h m L S O fun out e'=>out=[]∧e'=wantC 0 (fitG m a (m.st.getD ia.toNat default))):=by
 obtain ⟨ia,rfl⟩:∃ d:Nat,ia=d:=⟨ia.toNat,by omega⟩
 have hi':ia<m.st.length:=by omega
 rw [Int.toNat_natCast]
 obtain ⟨⟨uk,uc⟩,HLu'⟩:∃ x:Ty,x=m.st.getD ia default:=⟨_,rfl⟩
 rw [←HLu']
 obtain ⟨sa,hso,-,-⟩:=row_ty (HMo W (Upd.refl K K W)).st hi'
 have hst:∀ w',Upd K K W w'→w'.cell? (sa.add (ia*2))=some (.int .i64 uk)∧w'.cell? ⟨(sa.add (ia*2)).block,(sa.add (ia*2)).off+1,none⟩=some (.int .i64 uc):=fun w' hu=>by
  obtain ⟨ad,h1,h2,h3⟩:=row_ty (HMo w' hu).st hi'
  rw [hso] at h1
  cases h1
  rw [←HLu'] at h2 h3
  exact ⟨h2,h3⟩
 have hk1:∀ w' e',Ck w' K h m L S O e'→w'.cell? ⟨K,1,none⟩=some (.slice (some sa) m.st.length h.sc):=fun w' e' hc=>by have:=hc.cells.2.2.1;rwa [hso] at this
 obtain ⟨g,rfl,hgK,hgl,htc,hcl⟩:=own_ty hown H
 obtain ⟨ak,ac⟩:=a
 have kl:=Blk.lt H
 have a0:=hcl 0 (.int .i64 ak) rfl
 have a1:=hcl 1 (.int .i64 ac) rfl
 have c0:=hcb.cell 0 (v:=.pointer (some ⟨K,0,none⟩)) rfl
 have cne:cb≠K:=blk_ne hcb H (by decide)
 have cl:=hcb.lt
 have i0:=hib.cell 0 (v:=.int .i64 op) rfl
 have i1:=hib.cell 1 (v:=.int .i64 ia) rfl
 have i2:=hib.cell 2 (v:=.int .i64 ib) rfl
 have ine:ib0≠K:=blk_ne hib H (by decide)
 have il:=hib.lt
 have hS:∀ w' e',Upd K K W w'→Ck w' K h m L S O e'→(fun w':World=>w'.cell? ⟨cb,0,none⟩=some (.pointer (some ⟨K,0,none⟩))∧w'.cell? ⟨g,0,none⟩=some (.int .i64 ak)∧w'.cell? ⟨g,1,none⟩=some (.int .i64 ac)∧w'.cell? ⟨ib0,0,none⟩=some (.int .i64 op)∧w'.cell? ⟨ib0,1,none⟩=some (.int .i64 ia)∧w'.cell? ⟨ib0,2,none⟩=some (.int .i64 ib)∧w'.cell? ⟨K,1,none⟩=some (.slice (some sa) m.st.length h.sc)∧w'.cell? (sa.add (ia*2))=some (.int .i64 uk)∧w'.cell? ⟨(sa.add (ia*2)).block,(sa.add (ia*2)).off+1,none⟩=some (.int .i64 uc)) w':=fun w' e' hu hc'=>⟨hu.cell c0 cne cne,hu.cell a0 hgK hgK,hu.cell a1 hgK hgK,hu.cell i0 ine ine,hu.cell i1 ine ine,hu.cell i2 ine ine,hk1 _ _ hc',(hst _ hu).1,(hst _ hu).2⟩
 have HS:=Lib.hid hS
 have HU0:=Lib.hid (Upd.refl K K W)
 have HC0:=Lib.hid H
 have HO:=Lib.hid hown
 have HM0:=Lib.hid HMo
 clear hS H hcb hib c0 a0 a1 i0 i1 i2
 obtain ⟨ft,HFt'⟩:∃ x:Bool,x=fitG m ⟨ak,ac⟩ ⟨uk,uc⟩:=⟨_,rfl⟩
 have HFi:=Lib.hid (show ∀ e w',Ck w' K h m L S O e→Upd K K W w'→Calls Tryz.prog 182 #[.pointer (some ⟨K,0,none⟩),.agg #[.int .i64 ak,.int .i64 ac],.agg #[.int .i64 uk,.int .i64 uc]] w' fun r w''=>(∃ v,r=.returned v)∧Ck w'' K h m L S O (wantC e (decide (e=0)&&ft))∧Upd K K w' w'' from fun e w' hc hu=>by have:=fit_any K h m L S O e ⟨ak,ac⟩ ⟨uk,uc⟩ w' hc (HMo w' hu);rw [←HFt'] at this;exact this)
 have HFt:=Lib.hid HFt'
 clear HFt'
 clear hown hcl HMo
 have hne:=neqTy
 have heq:=eqlTy
 have hgu:=guardTy
 have HLu:=Lib.hid HLu'
 clear HLu' hst hk1 hso
 go_enter Tryz.func231,Tryz.ntmps231
 go_wp2_with fail
 refine rO (fun w':World=>w'.cell? ⟨cb,0,none⟩=some (.pointer (some ⟨K,0,none⟩))∧w'.cell? ⟨g,0,none⟩=some (.int .i64 ak)∧w'.cell? ⟨g,1,none⟩=some (.int .i64 ac)∧w'.cell? ⟨ib0,0,none⟩=some (.int .i64 op)∧w'.cell? ⟨ib0,1,none⟩=some (.int .i64 ia)∧w'.cell? ⟨ib0,2,none⟩=some (.int .i64 ib)∧w'.cell? ⟨K,1,none⟩=some (.slice (some sa) m.st.length h.sc)∧w'.cell? (sa.add (ia*2))=some (.int .i64 uk)∧w'.cell? ⟨(sa.add (ia*2)).block,(sa.add (ia*2)).off+1,none⟩=some (.int .i64 uc)) (oL [0,1,2,3,4,5,6,7,8,9,10,11,12,113]) (HS.out _ _ HU0.out.drew (Ck.drew HC0.out)) ?_
 have HU1:=Lib.hid HU0.out.drew
 have HC1:=Lib.hid (Ck.drew HC0.out)
 repeat refine pO ?_
 refine oO fun Kv hK=>?_
 go_simp
 refine (HFi.out _ _ HC1.out HU1.out).mono ?_
 rintro r w2 ⟨⟨v2,rfl⟩,hc2,hu2⟩
 have HU2:=Lib.hid (HU1.out.trans hu2)
 have HC2:=Lib.hid hc2
 clear hc2 hu2
 refine hK _ _ ⟨HS.out _ _ HU2.out HC2.out,?_⟩
 clear hK Kv
 repeat refine pO ?_
 refine wpMixO_done ?_
 go_wp2
 go_ret
 refine ⟨none,0,[],_,rfl,TyAt.nil _,HC2.out,HU2.out,rfl,?_⟩
 rw [HFt.out];simp [wantC]
theorem cast_a (op ia ib:Int) (to':Option Addr) (tc base cb ib0:Nat) (W:World) (H:Ck W K h m L S O 0) (HMo:∀ w',Upd K K W w'→ModAt w' h m) (hcb:Blk W cb #[.pointer (some ⟨K,0,none⟩)] 148) (hib:Blk W ib0 #[.int .i64 op,.int .i64 ia,.int .i64 ib] 42) (hown:W.ownsRow base 35 2 (.slice to' 1 tc) 1 (flatR [a])) (h1:a.k≠2):
  Calls Tryz.prog 232 #[.slice to' 1 tc,.pointer (some ⟨ib0,0,none⟩),.pointer (some ⟨cb,0,none⟩)] W (ClPost W K h m L S O fun out e'=>out=[⟨2,ia⟩]∧e'=11):=by
 obtain ⟨g,rfl,hgK,hgl,htc,hcl⟩:=own_ty hown H
 obtain ⟨ak,ac⟩:=a
 have kl:=Blk.lt H
 have a0:=hcl 0 (.int .i64 ak) rfl
 have a1:=hcl 1 (.int .i64 ac) rfl
 have c0:=hcb.cell 0 (v:=.pointer (some ⟨K,0,none⟩)) rfl
 have cne:cb≠K:=blk_ne hcb H (by decide)
 have cl:=hcb.lt
 have i0:=hib.cell 0 (v:=.int .i64 op) rfl
 have i1:=hib.cell 1 (v:=.int .i64 ia) rfl
 have i2:=hib.cell 2 (v:=.int .i64 ib) rfl
 have ine:ib0≠K:=blk_ne hib H (by decide)
 have il:=hib.lt
 have HC0:=Lib.hid H
 have HU0:=Lib.hid (Upd.refl K K W)
 have HM0:=Lib.hid HMo
 clear H
 have hk:(ak == 2)=false:=by simpa using h1
 clear h1
 clear hown hcl HMo
 have hne:=neqTy
 have heq:=eqlTy
 have hgu:=guardTy
 go_enter Tryz.func232,Tryz.ntmps232
 go_wp2_with (go_at_call 222;refine (object_any _ _).mono ?_;rintro r w1 ⟨rfl,hb1⟩)
 have HU1:=Lib.hid ((HU0.out.bel hb1).alloc (.cells #[.int .i64 2,.int .i64 ia] 35))
 have HC1:=Lib.hid (Ck.old (w':=w1.alloc (.cells #[.int .i64 2,.int .i64 ia] 35)) (HC0.out.old hb1) bE)
 have hx:=Blk.new w1 #[.int .i64 2,.int .i64 ia] 35
 have hsz:=HU0.out.bel hb1
 have hsz:=hsz.size
 obtain ⟨W1,hW1⟩:∃ W1,W1=w1.alloc (.cells #[.int .i64 2,.int .i64 ia] 35):=⟨_,rfl⟩
 rw [←hW1] at HU1 HC1 hx ⊢
 have t0:=hx.cell 0 (v:=.int .i64 2) rfl
 have t1:=hx.cell 1 (v:=.int .i64 ia) rfl
 have tne:w1.heap.size≠K:=by omega
 have c0:=HU1.out.cell c0 cne cne
 have a0:=HU1.out.cell a0 hgK hgK
 have a1:=HU1.out.cell a1 hgK hgK
 have i0:=HU1.out.cell i0 ine ine
 have i1:=HU1.out.cell i1 ine ine
 have i2:=HU1.out.cell i2 ine ine
 clear hb1 hW1 hx
 have hS:∀ w' e',Upd K K W1 w'→Ck w' K h m L S O e'→(fun w':World=>w'.cell? ⟨cb,0,none⟩=some (.pointer (some ⟨K,0,none⟩))∧w'.cell? ⟨g,0,none⟩=some (.int .i64 ak)∧w'.cell? ⟨g,1,none⟩=some (.int .i64 ac)∧w'.cell? ⟨ib0,0,none⟩=some (.int .i64 op)∧w'.cell? ⟨ib0,1,none⟩=some (.int .i64 ia)∧w'.cell? ⟨ib0,2,none⟩=some (.int .i64 ib)∧w'.cell? ⟨w1.heap.size,0,none⟩=some (.int .i64 2)∧w'.cell? ⟨w1.heap.size,1,none⟩=some (.int .i64 ia)∧w'.cell? ⟨K,0,none⟩=some (.slice h.co m.cl.length h.cc)∧w'.cell? ⟨K,1,none⟩=some (.slice h.so m.st.length h.sc)∧w'.cell? ⟨K,2,none⟩=some (.slice h.eo m.me.length h.ec)∧w'.cell? ⟨K,3,none⟩=some (.int .i64 m.sel)) w':=fun w' e' hu hc'=>⟨hu.cell c0 cne cne,hu.cell a0 hgK hgK,hu.cell a1 hgK hgK,hu.cell i0 ine ine,hu.cell i1 ine ine,hu.cell i2 ine ine,hu.cell t0 tne tne,hu.cell t1 tne tne,hc'.cells.2.1,hc'.cells.2.2.1,hc'.cells.2.2.2.1,hc'.cells.2.2.2.2.1⟩
 have HS:=Lib.hid hS
 clear hS
 clear c0 a0 a1 i0 i1 i2 t0 t1
 have HV1:=Lib.hid (Upd.refl K K W1)
 go_wp2_with fail
 refine rO (fun w':World=>w'.cell? ⟨cb,0,none⟩=some (.pointer (some ⟨K,0,none⟩))∧w'.cell? ⟨g,0,none⟩=some (.int .i64 ak)∧w'.cell? ⟨g,1,none⟩=some (.int .i64 ac)∧w'.cell? ⟨ib0,0,none⟩=some (.int .i64 op)∧w'.cell? ⟨ib0,1,none⟩=some (.int .i64 ia)∧w'.cell? ⟨ib0,2,none⟩=some (.int .i64 ib)∧w'.cell? ⟨w1.heap.size,0,none⟩=some (.int .i64 2)∧w'.cell? ⟨w1.heap.size,1,none⟩=some (.int .i64 ia)∧w'.cell? ⟨K,0,none⟩=some (.slice h.co m.cl.length h.cc)∧w'.cell? ⟨K,1,none⟩=some (.slice h.so m.st.length h.sc)∧w'.cell? ⟨K,2,none⟩=some (.slice h.eo m.me.length h.ec)∧w'.cell? ⟨K,3,none⟩=some (.int .i64 m.sel)) (oL [0,1,2,3,4,5,6,7,8,9,10,11,12,13,14,115,16,17,18,19,20,21,22,23,24,125,26,27,128]) (HS.out _ _ HV1.out.drew (Ck.drew HC1.out)) ?_
 have HU2:=Lib.hid HU1.out.drew
 have HV2:=Lib.hid HV1.out.drew
 have HC2:=Lib.hid (Ck.drew HC1.out)
 repeat refine pO ?_
 refine wpMixO_one ?_
 refine wpOp_skipD 24 (by rfl) ?_
 refine ⟨HS.out _ _ HV2.out HC2.out,?_⟩
 simp only [List.setIfInBounds_toArray,List.set_cons_zero,List.set_cons_succ]
 repeat refine pO ?_
 refine wpMixO_one ?_
 refine wpOp_skipD 34 (by rfl) ?_
 refine ⟨HS.out _ _ HV2.out HC2.out,?_⟩
 simp only [List.setIfInBounds_toArray,List.set_cons_zero,List.set_cons_succ]
 repeat refine pO ?_
 refine oO fun Kv hK=>?_
 go_simp
 refine (want_any K h m L S O _ _ _ HC2.out).mono ?_
 rintro r w3 ⟨⟨v3,rfl⟩,hc3,hu3⟩
 have HU3:=Lib.hid (HU2.out.trans hu3)
 have HV3:=Lib.hid (HV2.out.trans hu3)
 have HC3:=Lib.hid hc3
 clear hc3 hu3
 refine hK _ _ ⟨HS.out _ _ HV3.out HC3.out,?_⟩
 clear hK Kv
 repeat refine pO ?_
 refine wpMixO_done ?_
 have u0:=(HS.out _ _ HV3.out HC3.out)
 obtain ⟨-,-,-,-,-,-,v0,v1,-⟩:=u0
 go_wp2
 go_ret
 refine ⟨some ⟨w3.heap.size,0,none⟩,1,[_],_,rfl,TyAt.one (t:=⟨2,ia⟩) (Blk.new w3 _ _),Ck.old HC3.out bE,HU3.out.alloc _,rfl,?_⟩
 rfl
theorem cast_b (op ia ib:Int) (to':Option Addr) (tc base cb ib0:Nat) (W:World) (H:Ck W K h m L S O 0) (HMo:∀ w',Upd K K W w'→ModAt w' h m) (hcb:Blk W cb #[.pointer (some ⟨K,0,none⟩)] 148) (hib:Blk W ib0 #[.int .i64 op,.int .i64 ia,.int .i64 ib] 42) (hown:W.ownsRow base 35 2 (.slice to' 1 tc) 1 (flatR [a])) (h1:a.k=2) (hf1:fitG m a ⟨2,ia⟩=true):
  Calls Tryz.prog 232 #[.slice to' 1 tc,.pointer (some ⟨ib0,0,none⟩),.pointer (some ⟨cb,0,none⟩)] W (ClPost W K h m L S O fun out e'=>out=[⟨2,ia⟩]∧e'=0):=by
 obtain ⟨g,rfl,hgK,hgl,htc,hcl⟩:=own_ty hown H
 obtain ⟨ak,ac⟩:=a
 obtain rfl:ak=2:=h1
 have kl:=Blk.lt H
 have a0:=hcl 0 (.int .i64 2) rfl
 have a1:=hcl 1 (.int .i64 ac) rfl
 have c0:=hcb.cell 0 (v:=.pointer (some ⟨K,0,none⟩)) rfl
 have cne:cb≠K:=blk_ne hcb H (by decide)
 have cl:=hcb.lt
 have i0:=hib.cell 0 (v:=.int .i64 op) rfl
 have i1:=hib.cell 1 (v:=.int .i64 ia) rfl
 have i2:=hib.cell 2 (v:=.int .i64 ib) rfl
 have ine:ib0≠K:=blk_ne hib H (by decide)
 have il:=hib.lt
 have HC0:=Lib.hid H
 have HU0:=Lib.hid (Upd.refl K K W)
 have HM0:=Lib.hid HMo
 clear H
 have HF1:=Lib.hid (show ∀ w',Upd K K W w'→Calls Tryz.prog 133 #[.agg #[.slice h.co m.cl.length h.cc,.slice h.so m.st.length h.sc,.slice h.eo m.me.length h.ec,.int .i64 m.sel],.agg #[.int .i64 2,.int .i64 ac],.agg #[.int .i64 2,.int .i64 ia]] w' (Ret w' (.bool true)) from fun w' hu=>by have:=fits_any m h ⟨2,ac⟩ ⟨2,ia⟩ w' (HMo w' hu);rw [hf1] at this;exact this)
 clear hf1
 clear hown hcl HMo
 have hne:=neqTy
 have heq:=eqlTy
 have hgu:=guardTy
 go_enter Tryz.func232,Tryz.ntmps232
 go_wp2_with (go_at_call 222;refine (object_any _ _).mono ?_;rintro r w1 ⟨rfl,hb1⟩)
 have HU1:=Lib.hid ((HU0.out.bel hb1).alloc (.cells #[.int .i64 2,.int .i64 ia] 35))
 have HC1:=Lib.hid (Ck.old (w':=w1.alloc (.cells #[.int .i64 2,.int .i64 ia] 35)) (HC0.out.old hb1) bE)
 have hx:=Blk.new w1 #[.int .i64 2,.int .i64 ia] 35
 have hsz:=HU0.out.bel hb1
 have hsz:=hsz.size
 obtain ⟨W1,hW1⟩:∃ W1,W1=w1.alloc (.cells #[.int .i64 2,.int .i64 ia] 35):=⟨_,rfl⟩
 rw [←hW1] at HU1 HC1 hx ⊢
 have t0:=hx.cell 0 (v:=.int .i64 2) rfl
 have t1:=hx.cell 1 (v:=.int .i64 ia) rfl
 have tne:w1.heap.size≠K:=by omega
 have c0:=HU1.out.cell c0 cne cne
 have a0:=HU1.out.cell a0 hgK hgK
 have a1:=HU1.out.cell a1 hgK hgK
 have i0:=HU1.out.cell i0 ine ine
 have i1:=HU1.out.cell i1 ine ine
 have i2:=HU1.out.cell i2 ine ine
 clear hb1 hW1 hx
 have hS:∀ w' e',Upd K K W1 w'→Ck w' K h m L S O e'→(fun w':World=>w'.cell? ⟨cb,0,none⟩=some (.pointer (some ⟨K,0,none⟩))∧w'.cell? ⟨g,0,none⟩=some (.int .i64 2)∧w'.cell? ⟨g,1,none⟩=some (.int .i64 ac)∧w'.cell? ⟨ib0,0,none⟩=some (.int .i64 op)∧w'.cell? ⟨ib0,1,none⟩=some (.int .i64 ia)∧w'.cell? ⟨ib0,2,none⟩=some (.int .i64 ib)∧w'.cell? ⟨w1.heap.size,0,none⟩=some (.int .i64 2)∧w'.cell? ⟨w1.heap.size,1,none⟩=some (.int .i64 ia)∧w'.cell? ⟨K,0,none⟩=some (.slice h.co m.cl.length h.cc)∧w'.cell? ⟨K,1,none⟩=some (.slice h.so m.st.length h.sc)∧w'.cell? ⟨K,2,none⟩=some (.slice h.eo m.me.length h.ec)∧w'.cell? ⟨K,3,none⟩=some (.int .i64 m.sel)) w':=fun w' e' hu hc'=>⟨hu.cell c0 cne cne,hu.cell a0 hgK hgK,hu.cell a1 hgK hgK,hu.cell i0 ine ine,hu.cell i1 ine ine,hu.cell i2 ine ine,hu.cell t0 tne tne,hu.cell t1 tne tne,hc'.cells.2.1,hc'.cells.2.2.1,hc'.cells.2.2.2.1,hc'.cells.2.2.2.2.1⟩
 have HS:=Lib.hid hS
 clear hS
 clear c0 a0 a1 i0 i1 i2 t0 t1
 have HV1:=Lib.hid (Upd.refl K K W1)
 go_wp2_with fail
 refine rO (fun w':World=>w'.cell? ⟨cb,0,none⟩=some (.pointer (some ⟨K,0,none⟩))∧w'.cell? ⟨g,0,none⟩=some (.int .i64 2)∧w'.cell? ⟨g,1,none⟩=some (.int .i64 ac)∧w'.cell? ⟨ib0,0,none⟩=some (.int .i64 op)∧w'.cell? ⟨ib0,1,none⟩=some (.int .i64 ia)∧w'.cell? ⟨ib0,2,none⟩=some (.int .i64 ib)∧w'.cell? ⟨w1.heap.size,0,none⟩=some (.int .i64 2)∧w'.cell? ⟨w1.heap.size,1,none⟩=some (.int .i64 ia)∧w'.cell? ⟨K,0,none⟩=some (.slice h.co m.cl.length h.cc)∧w'.cell? ⟨K,1,none⟩=some (.slice h.so m.st.length h.sc)∧w'.cell? ⟨K,2,none⟩=some (.slice h.eo m.me.length h.ec)∧w'.cell? ⟨K,3,none⟩=some (.int .i64 m.sel)) (oL [0,1,2,3,4,5,6,7,8,9,10,11,12,13,14,115,16,17,18,19,20,21,22,23,24,125,26,27,128]) (HS.out _ _ HV1.out.drew (Ck.drew HC1.out)) ?_
 have HU2:=Lib.hid HU1.out.drew
 have HV2:=Lib.hid HV1.out.drew
 have HC2:=Lib.hid (Ck.drew HC1.out)
 repeat refine pO ?_
 refine oO fun Kv hK=>?_
 go_simp
 refine (HF1.out _ HU2.out).mono ?_
 rintro r w3 ⟨rfl,hb3⟩
 have HU3:=Lib.hid (HU2.out.bel hb3)
 have HV3:=Lib.hid (HV2.out.bel hb3)
 have HC3:=Lib.hid (HC2.out.old hb3)
 clear hb3
 refine hK _ _ ⟨HS.out _ _ HV3.out HC3.out,?_⟩
 clear hK Kv
 repeat refine pO ?_
 refine wpMixO_one ?_
 refine wpOp_skipD 34 (by rfl) ?_
 refine ⟨HS.out _ _ HV3.out HC3.out,?_⟩
 simp only [List.setIfInBounds_toArray,List.set_cons_zero,List.set_cons_succ]
 repeat refine pO ?_
 refine oO fun Kv hK=>?_
 go_simp
 refine (want_any K h m L S O _ _ _ HC3.out).mono ?_
 rintro r w4 ⟨⟨v4,rfl⟩,hc4,hu4⟩
 have HU4:=Lib.hid (HU3.out.trans hu4)
 have HV4:=Lib.hid (HV3.out.trans hu4)
 have HC4:=Lib.hid hc4
 clear hc4 hu4
 refine hK _ _ ⟨HS.out _ _ HV4.out HC4.out,?_⟩
 clear hK Kv
 repeat refine pO ?_
 refine wpMixO_done ?_
 have u0:=(HS.out _ _ HV4.out HC4.out)
 obtain ⟨-,-,-,-,-,-,v0,v1,-⟩:=u0
 go_wp2
 go_ret
 refine ⟨some ⟨w4.heap.size,0,none⟩,1,[_],_,rfl,TyAt.one (t:=⟨2,ia⟩) (Blk.new w4 _ _),Ck.old HC4.out bE,HU4.out.alloc _,rfl,?_⟩
 rfl
theorem cast_c (op ia ib:Int) (to':Option Addr) (tc base cb ib0:Nat) (W:World) (H:Ck W K h m L S O 0) (HMo:∀ w',Upd K K W w'→ModAt w' h m) (hcb:Blk W cb #[.pointer (some ⟨K,0,none⟩)] 148) (hib:Blk W ib0 #[.int .i64 op,.int .i64 ia,.int .i64 ib] 42) (hown:W.ownsRow base 35 2 (.slice to' 1 tc) 1 (flatR [a])) (h1:a.k=2) (hf1:fitG m a ⟨2,ia⟩=false):
  Calls Tryz.prog 232 #[.slice to' 1 tc,.pointer (some ⟨ib0,0,none⟩),.pointer (some ⟨cb,0,none⟩)] W (ClPost W K h m L S O fun out e'=>out=[⟨2,ia⟩]∧e'=wantC 0 (fitG m ⟨2,ia⟩ a)):=by
 obtain ⟨g,rfl,hgK,hgl,htc,hcl⟩:=own_ty hown H
 obtain ⟨ak,ac⟩:=a
 obtain rfl:ak=2:=h1
 have kl:=Blk.lt H
 have a0:=hcl 0 (.int .i64 2) rfl
 have a1:=hcl 1 (.int .i64 ac) rfl
 have c0:=hcb.cell 0 (v:=.pointer (some ⟨K,0,none⟩)) rfl
 have cne:cb≠K:=blk_ne hcb H (by decide)
 have cl:=hcb.lt
 have i0:=hib.cell 0 (v:=.int .i64 op) rfl
 have i1:=hib.cell 1 (v:=.int .i64 ia) rfl
 have i2:=hib.cell 2 (v:=.int .i64 ib) rfl
 have ine:ib0≠K:=blk_ne hib H (by decide)
 have il:=hib.lt
 have HC0:=Lib.hid H
 have HU0:=Lib.hid (Upd.refl K K W)
 have HM0:=Lib.hid HMo
 clear H
 have HF1:=Lib.hid (show ∀ w',Upd K K W w'→Calls Tryz.prog 133 #[.agg #[.slice h.co m.cl.length h.cc,.slice h.so m.st.length h.sc,.slice h.eo m.me.length h.ec,.int .i64 m.sel],.agg #[.int .i64 2,.int .i64 ac],.agg #[.int .i64 2,.int .i64 ia]] w' (Ret w' (.bool false)) from fun w' hu=>by have:=fits_any m h ⟨2,ac⟩ ⟨2,ia⟩ w' (HMo w' hu);rw [hf1] at this;exact this)
 clear hf1
 obtain ⟨f2,HF2'⟩:∃ x:Bool,x=fitG m ⟨2,ia⟩ ⟨2,ac⟩:=⟨_,rfl⟩
 have HF3:=Lib.hid (show ∀ w',Upd K K W w'→Calls Tryz.prog 133 #[.agg #[.slice h.co m.cl.length h.cc,.slice h.so m.st.length h.sc,.slice h.eo m.me.length h.ec,.int .i64 m.sel],.agg #[.int .i64 2,.int .i64 ia],.agg #[.int .i64 2,.int .i64 ac]] w' (Ret w' (.bool f2)) from fun w' hu=>by have:=fits_any m h ⟨2,ia⟩ ⟨2,ac⟩ w' (HMo w' hu);rw [←HF2'] at this;exact this)
 have HF2:=Lib.hid HF2'
 clear HF2'
 clear hown hcl HMo
 have hne:=neqTy
 have heq:=eqlTy
 have hgu:=guardTy
 go_enter Tryz.func232,Tryz.ntmps232
 go_wp2_with (go_at_call 222;refine (object_any _ _).mono ?_;rintro r w1 ⟨rfl,hb1⟩)
 have HU1:=Lib.hid ((HU0.out.bel hb1).alloc (.cells #[.int .i64 2,.int .i64 ia] 35))
 have HC1:=Lib.hid (Ck.old (w':=w1.alloc (.cells #[.int .i64 2,.int .i64 ia] 35)) (HC0.out.old hb1) bE)
 have hx:=Blk.new w1 #[.int .i64 2,.int .i64 ia] 35
 have hsz:=HU0.out.bel hb1
 have hsz:=hsz.size
 obtain ⟨W1,hW1⟩:∃ W1,W1=w1.alloc (.cells #[.int .i64 2,.int .i64 ia] 35):=⟨_,rfl⟩
 rw [←hW1] at HU1 HC1 hx ⊢
 have t0:=hx.cell 0 (v:=.int .i64 2) rfl
 have t1:=hx.cell 1 (v:=.int .i64 ia) rfl
 have tne:w1.heap.size≠K:=by omega
 have c0:=HU1.out.cell c0 cne cne
 have a0:=HU1.out.cell a0 hgK hgK
 have a1:=HU1.out.cell a1 hgK hgK
 have i0:=HU1.out.cell i0 ine ine
 have i1:=HU1.out.cell i1 ine ine
 have i2:=HU1.out.cell i2 ine ine
 clear hb1 hW1 hx
 have hS:∀ w' e',Upd K K W1 w'→Ck w' K h m L S O e'→(fun w':World=>w'.cell? ⟨cb,0,none⟩=some (.pointer (some ⟨K,0,none⟩))∧w'.cell? ⟨g,0,none⟩=some (.int .i64 2)∧w'.cell? ⟨g,1,none⟩=some (.int .i64 ac)∧w'.cell? ⟨ib0,0,none⟩=some (.int .i64 op)∧w'.cell? ⟨ib0,1,none⟩=some (.int .i64 ia)∧w'.cell? ⟨ib0,2,none⟩=some (.int .i64 ib)∧w'.cell? ⟨w1.heap.size,0,none⟩=some (.int .i64 2)∧w'.cell? ⟨w1.heap.size,1,none⟩=some (.int .i64 ia)∧w'.cell? ⟨K,0,none⟩=some (.slice h.co m.cl.length h.cc)∧w'.cell? ⟨K,1,none⟩=some (.slice h.so m.st.length h.sc)∧w'.cell? ⟨K,2,none⟩=some (.slice h.eo m.me.length h.ec)∧w'.cell? ⟨K,3,none⟩=some (.int .i64 m.sel)) w':=fun w' e' hu hc'=>⟨hu.cell c0 cne cne,hu.cell a0 hgK hgK,hu.cell a1 hgK hgK,hu.cell i0 ine ine,hu.cell i1 ine ine,hu.cell i2 ine ine,hu.cell t0 tne tne,hu.cell t1 tne tne,hc'.cells.2.1,hc'.cells.2.2.1,hc'.cells.2.2.2.1,hc'.cells.2.2.2.2.1⟩
 have HS:=Lib.hid hS
 clear hS
 clear c0 a0 a1 i0 i1 i2 t0 t1
 have HV1:=Lib.hid (Upd.refl K K W1)
 go_wp2_with fail
 refine rO (fun w':World=>w'.cell? ⟨cb,0,none⟩=some (.pointer (some ⟨K,0,none⟩))∧w'.cell? ⟨g,0,none⟩=some (.int .i64 2)∧w'.cell? ⟨g,1,none⟩=some (.int .i64 ac)∧w'.cell? ⟨ib0,0,none⟩=some (.int .i64 op)∧w'.cell? ⟨ib0,1,none⟩=some (.int .i64 ia)∧w'.cell? ⟨ib0,2,none⟩=some (.int .i64 ib)∧w'.cell? ⟨w1.heap.size,0,none⟩=some (.int .i64 2)∧w'.cell? ⟨w1.heap.size,1,none⟩=some (.int .i64 ia)∧w'.cell? ⟨K,0,none⟩=some (.slice h.co m.cl.length h.cc)∧w'.cell? ⟨K,1,none⟩=some (.slice h.so m.st.length h.sc)∧w'.cell? ⟨K,2,none⟩=some (.slice h.eo m.me.length h.ec)∧w'.cell? ⟨K,3,none⟩=some (.int .i64 m.sel)) (oL [0,1,2,3,4,5,6,7,8,9,10,11,12,13,14,115,16,17,18,19,20,21,22,23,24,125,26,27,128]) (HS.out _ _ HV1.out.drew (Ck.drew HC1.out)) ?_
 have HU2:=Lib.hid HU1.out.drew
 have HV2:=Lib.hid HV1.out.drew
 have HC2:=Lib.hid (Ck.drew HC1.out)
 repeat refine pO ?_
 refine oO fun Kv hK=>?_
 go_simp
 refine (HF1.out _ HU2.out).mono ?_
 rintro r w3 ⟨rfl,hb3⟩
 have HU3:=Lib.hid (HU2.out.bel hb3)
 have HV3:=Lib.hid (HV2.out.bel hb3)
 have HC3:=Lib.hid (HC2.out.old hb3)
 clear hb3
 refine hK _ _ ⟨HS.out _ _ HV3.out HC3.out,?_⟩
 clear hK Kv
 repeat refine pO ?_
 refine oO fun Kv hK=>?_
 go_simp
 refine (HF3.out _ HU3.out).mono ?_
 rintro r w4 ⟨rfl,hb4⟩
 have HU4:=Lib.hid (HU3.out.bel hb4)
 have HV4:=Lib.hid (HV3.out.bel hb4)
 have HC4:=Lib.hid (HC3.out.old hb4)
 clear hb4
 refine hK _ _ ⟨HS.out _ _ HV4.out HC4.out,?_⟩
 clear hK Kv
 repeat refine pO ?_
 refine oO fun Kv hK=>?_
 go_simp
 refine (want_any K h m L S O _ _ _ HC4.out).mono ?_
 rintro r w5 ⟨⟨v5,rfl⟩,hc5,hu5⟩
 have HU5:=Lib.hid (HU4.out.trans hu5)
 have HV5:=Lib.hid (HV4.out.trans hu5)
 have HC5:=Lib.hid hc5
 clear hc5 hu5
 refine hK _ _ ⟨HS.out _ _ HV5.out HC5.out,?_⟩
 clear hK Kv
 repeat refine pO ?_
 refine wpMixO_done ?_
 have u0:=(HS.out _ _ HV5.out HC5.out)
 obtain ⟨-,-,-,-,-,-,v0,v1,-⟩:=u0
 go_wp2
 go_ret
 refine ⟨some ⟨w5.heap.size,0,none⟩,1,[_],_,rfl,TyAt.one (t:=⟨2,ia⟩) (Blk.new w5 _ _),Ck.old HC5.out bE,HU5.out.alloc _,rfl,?_⟩
 rw [HF2.out]
end
end
section
open Go.RowKit
def errF (m:Md) (l ps:List Ty) (more:Nat) (e0:Int):Nat→Int
 | 0=>e0
 | k+1=>wantC (errF m l ps more e0 k) (decide (errF m l ps more e0 k=0)&&fitG m (l.getD (more+k) default) (ps.getD k default))
theorem errF_val (m:Md) (l ps:List Ty) (more:Nat) (e0:Int) (h:e0=0∨e0=11):∀ k,errF m l ps more e0 k=if e0=0∧(List.range k).all (fun j=>fitG m (l.getD (more+j) default) (ps.getD j default))=true then 0 else 11
 | 0=>by rcases h with h|h<;>simp [errF,h]
 | k+1=>by
  unfold errF
  rw [errF_val m l ps more e0 h k,List.range_succ,List.all_append]
  by_cases h1:e0=0∧(List.range k).all (fun j=>fitG m (l.getD (more+j) default) (ps.getD j default))=true
  ·rw [if_pos h1]
   cases hq:fitG m (l.getD (more+k) default) (ps.getD k default)
   ·rw [if_neg (fun h2=>by have:=h2.2;simp only [List.all_cons,List.all_nil,hq,Bool.false_and,Bool.and_false,Bool.false_eq_true] at this)];rfl
   ·rw [if_pos ⟨h1.1,by simp only [List.all_cons,List.all_nil,hq,h1.2];rfl⟩];rfl
  ·rw [if_neg h1,if_neg (fun h2=>h1 ⟨h2.1,by have:=h2.2;simp only [Bool.and_eq_true] at this;exact this.1⟩)];rfl
section
variable (K:Nat)(h:Hd)(m:Md)(L S O:Value)(l ps:List Ty)(po:Option Addr)(pc:Nat)(ma:Addr)(sel:Int)(more:Nat)(ro:Option Addr)(rc:Nat)(rl:List Ty)(sb cb mb vb ob:Nat)(to':Option Addr)(tc base:Nat)(W:World)(H:Ck W K h m L S O 0)(HMo:∀ w',Upd K K W w'→ModAt w' h m)(hsb:Blk W sb #[.int .i64 sel] 3)(hcb:Blk W cb #[.pointer (some ⟨K,0,none⟩)] 148)(hmb:Blk W mb #[.pointer (some ma)] 152)(hvb:Blk W vb #[.int .i64 more] 3)(hob:Blk W ob #[.slice ro rl.length rc] 23)(hrl:TyAt W ro rc rl)(hma:∀ w',Upd K K W w'→w'.cell? ⟨ma.block,ma.off+2,none⟩=some (.slice po ps.length pc)∧RowAt w' po pc ps)(hown:W.ownsRow base 35 2 (.slice to' l.length tc) l.length (flatR l))(hlen:l.length=more+ps.length)(hps:ps.length≤1000)(hmo:more≤1)
include K h m L S O l ps po pc ma sel more ro rc rl sb cb mb vb ob to' tc base W H HMo hsb hcb hmb hvb hob hrl hma hown hlen hps hmo
theorem call1_none (hsel:sel<0):
  Calls Tryz.prog 249 #[.slice to' l.length tc,.pointer (some ⟨sb,0,none⟩),.pointer (some ⟨cb,0,none⟩),.pointer (some ⟨mb,0,none⟩),.pointer (some ⟨vb,0,none⟩),.pointer (some ⟨ob,0,none⟩)] W (ClPost W K h m L S O fun out e'=>out=rl∧e'=errF m l ps more (0) ps.length):=by
 obtain ⟨e0,HE0'⟩:∃ x:Int,x=0:=⟨_,rfl⟩
 rw [←HE0']
 have HE0:=Lib.hid HE0'
 clear HE0'
 have HLen:=Lib.hid hlen
 clear hlen
 have kl:=Blk.lt H
 have sne:sb≠K:=blk_ne hsb H (by decide)
 have cne:cb≠K:=blk_ne hcb H (by decide)
 have mne:mb≠K:=blk_ne hmb H (by decide)
 have vne:vb≠K:=blk_ne hvb H (by decide)
 have one:ob≠K:=blk_ne hob H (by decide)
 have HT:=Lib.hid (TyAt.own hown)
 have HNo:=Lib.hid H.noTy
 have HR:=Lib.hid hrl
 have HMa:=Lib.hid hma
 have HMo':=Lib.hid HMo
 have HB:=Lib.hid (And.intro hsb (And.intro hcb (And.intro hmb (And.intro hvb hob))))
 have HU0:=Lib.hid (Upd.refl K K W)
 have HC0:=Lib.hid H
 have hne:∀ a,to'=some a→a.block≠K:=fun a ha q=>by
  exact k79
 have HNe:=Lib.hid hne
 clear hrl hma HMo hne H
 have s0:=hsb.cell 0 (v:=.int .i64 sel) rfl
 have HU1:=HU0
 have HC1:=Lib.hid (show Ck W K h m L S O e0 from by rw [HE0.out];exact HC0.out)
 have m00:=hmb.cell 0 (v:=.pointer (some ma)) rfl
 have mp0:=(HMa.out _ HU0.out).1
 have HX:=Lib.hid mp0
 clear mp0 m00
 go_enter Tryz.func249,Tryz.ntmps249
 go_upto_region 3 with fail
 exact k0
theorem call1_no (hsel:0≤sel) (hm1:more=1) (hk:(l.getD 0 default).k≠2):
  Calls Tryz.prog 249 #[.slice to' l.length tc,.pointer (some ⟨sb,0,none⟩),.pointer (some ⟨cb,0,none⟩),.pointer (some ⟨mb,0,none⟩),.pointer (some ⟨vb,0,none⟩),.pointer (some ⟨ob,0,none⟩)] W (ClPost W K h m L S O fun out e'=>out=rl∧e'=errF m l ps more (11) ps.length):=by
 obtain ⟨e0,HE0'⟩:∃ x:Int,x=11:=⟨_,rfl⟩
 rw [←HE0']
 have HE0:=Lib.hid HE0'
 clear HE0'
 have HLen:=Lib.hid hlen
 have HM1:=Lib.hid hm1
 have hl0:0<l.length:=by omega
 clear hm1
 clear hlen
 have kl:=Blk.lt H
 have sne:sb≠K:=blk_ne hsb H (by decide)
 have cne:cb≠K:=blk_ne hcb H (by decide)
 have mne:mb≠K:=blk_ne hmb H (by decide)
 have vne:vb≠K:=blk_ne hvb H (by decide)
 have one:ob≠K:=blk_ne hob H (by decide)
 have HT:=Lib.hid (TyAt.own hown)
 have HNo:=Lib.hid H.noTy
 have HR:=Lib.hid hrl
 have HMa:=Lib.hid hma
 have HMo':=Lib.hid HMo
 have HB:=Lib.hid (And.intro hsb (And.intro hcb (And.intro hmb (And.intro hvb hob))))
 have HU0:=Lib.hid (Upd.refl K K W)
 have HC0:=Lib.hid H
 have hne:∀ a,to'=some a→a.block≠K:=fun a ha q=>by
  exact k79
 have HNe:=Lib.hid hne
 clear hrl hma HMo hne H
 obtain ⟨sl,rfl⟩:∃ d:Nat,sel=d:=⟨sel.toNat,by omega⟩
 obtain ⟨ta,hto,t0,t1⟩:=row_ty HT.out.1 (i:=0) (by omega)
 have tne:=HNe.out _ hto
 cases hto
 rw [Nat.zero_mul,show ta.add 0=ta from by simp [Addr.add]] at t0 t1
 obtain ⟨⟨ak,ac⟩,hA⟩:∃ x,x=l.getD 0 default:=⟨_,rfl⟩
 rw [←hA] at t0 t1 hk
 dsimp only at t0 t1 hk
 have c0:=hcb.cell 0 (v:=.pointer (some ⟨K,0,none⟩)) rfl
 have s0:=hsb.cell 0 (v:=.int .i64 sl) rfl
 have hk2:(ak == 2)=false:=by simpa using hk
 have hq:(decide (ak=2)&&decide (0≤m.ent ac sl))=false:=by simp [hk]
 have hS:∀ w',Upd K K W w'→(fun w':World=>w'.cell? ⟨cb,0,none⟩=some (.pointer (some ⟨K,0,none⟩))∧w'.cell? ⟨sb,0,none⟩=some (.int .i64 sl)∧w'.cell? ta=some (.int .i64 ak)) w':=fun w' hu=>⟨hu.cell c0 cne cne,hu.cell s0 sne sne,hu.cell t0 tne tne⟩
 have HS:=Lib.hid hS
 have HQ:=Lib.hid hq
 clear hS c0 s0 t0 t1 hq hk
 go_enter Tryz.func249,Tryz.ntmps249
 have s0:=hsb.cell 0 (v:=.int .i64 sl) rfl
 go_upto_region 2 with fail
 clear s0
 refine rO (fun w':World=>w'.cell? ⟨cb,0,none⟩=some (.pointer (some ⟨K,0,none⟩))∧w'.cell? ⟨sb,0,none⟩=some (.int .i64 sl)∧w'.cell? ta=some (.int .i64 ak)) (oL [0,1,2,3,4,5,6,7,8,9,10,11,12,13,14,15,16,17,18,19,20,21,22,23,124]) (HS.out _ (Upd.refl K K _).drew) ?_
 repeat refine pO ?_
 refine oO fun Kv hK=>?_
 go_simp
 refine (want_any K h m L S O _ _ _ (Ck.drew HC0.out)).mono ?_
 rintro r w3 ⟨⟨v3,rfl⟩,hc3,hu3⟩
 have HU1:=Lib.hid (HU0.out.drew.trans hu3)
 have HC1:=Lib.hid hc3
 clear hc3 hu3
 refine hK _ _ ⟨HS.out _ HU1.out,?_⟩
 clear hK Kv
 repeat refine pO ?_
 refine wpMixO_done ?_
 rw [show wantC 0 false=e0 from HE0.out.symm] at HC1
 exact k0
theorem call1_yes (hsel:0≤sel) (hm1:more=1) (hk:(l.getD 0 default).k=2) (ht:0≤(l.getD 0 default).c∧(l.getD 0 default).c<m.cl.length∧sel.toNat<(m.cl.getD (l.getD 0 default).c.toNat default).m.length):
  Calls Tryz.prog 249 #[.slice to' l.length tc,.pointer (some ⟨sb,0,none⟩),.pointer (some ⟨cb,0,none⟩),.pointer (some ⟨mb,0,none⟩),.pointer (some ⟨vb,0,none⟩),.pointer (some ⟨ob,0,none⟩)] W (ClPost W K h m L S O fun out e'=>out=rl∧e'=errF m l ps more (wantC 0 (decide ((l.getD 0 default).k=2)&&decide (0≤m.ent (l.getD 0 default).c sel.toNat))) ps.length):=by
 obtain ⟨e0,HE0'⟩:∃ x:Int,x=wantC 0 (decide ((l.getD 0 default).k=2)&&decide (0≤m.ent (l.getD 0 default).c sel.toNat)):=⟨_,rfl⟩
 rw [←HE0']
 have HE0:=Lib.hid HE0'
 clear HE0'
 have HLen:=Lib.hid hlen
 have HM1:=Lib.hid hm1
 have hl0:0<l.length:=by omega
 clear hm1
 clear hlen
 have kl:=Blk.lt H
 have sne:sb≠K:=blk_ne hsb H (by decide)
 have cne:cb≠K:=blk_ne hcb H (by decide)
 have mne:mb≠K:=blk_ne hmb H (by decide)
 have vne:vb≠K:=blk_ne hvb H (by decide)
 have one:ob≠K:=blk_ne hob H (by decide)
 have HT:=Lib.hid (TyAt.own hown)
 have HNo:=Lib.hid H.noTy
 have HR:=Lib.hid hrl
 have HMa:=Lib.hid hma
 have HMo':=Lib.hid HMo
 have HB:=Lib.hid (And.intro hsb (And.intro hcb (And.intro hmb (And.intro hvb hob))))
 have HU0:=Lib.hid (Upd.refl K K W)
 have HC0:=Lib.hid H
 have hne:∀ a,to'=some a→a.block≠K:=fun a ha q=>by
  exact k79
 have HNe:=Lib.hid hne
 clear hrl hma HMo hne H
 obtain ⟨sl,rfl⟩:∃ d:Nat,sel=d:=⟨sel.toNat,by omega⟩
 obtain ⟨ta,hto,t0,t1⟩:=row_ty HT.out.1 (i:=0) (by omega)
 have tne:=HNe.out _ hto
 cases hto
 rw [Nat.zero_mul,show ta.add 0=ta from by simp [Addr.add]] at t0 t1
 obtain ⟨⟨ak,ac⟩,hA⟩:∃ x,x=l.getD 0 default:=⟨_,rfl⟩
 rw [←hA] at t0 t1 hk ht
 dsimp only at t0 t1 hk
 have c0:=hcb.cell 0 (v:=.pointer (some ⟨K,0,none⟩)) rfl
 have s0:=hsb.cell 0 (v:=.int .i64 sl) rfl
 obtain rfl:ak=2:=hk
 obtain ⟨hc0,hcl,hsm⟩:=ht
 dsimp only at hc0 hcl hsm
 obtain ⟨ac,rfl⟩:∃ d:Nat,ac=d:=⟨ac.toNat,by omega⟩
 have hcl':ac<m.cl.length:=by omega
 rw [Int.toNat_natCast,Int.toNat_natCast] at hsm
 obtain ⟨ca,hco,-,-,-,-⟩:=(HMo'.out W HU0.out).cls hcl'
 obtain ⟨na,hno,-⟩:=row_int ((HMo'.out W HU0.out).t ac hcl') hsm
 obtain ⟨en,hen⟩:∃ x,x=(m.cl.getD ac default).m.getD sl 0:=⟨_,rfl⟩
 have hee:m.ent (ac:Int) sl=en:=by rw [hen];rfl
 have hent:∀ w',Upd K K W w'→w'.cell? ⟨(ca.add (ac*4)).block,(ca.add (ac*4)).off+3,none⟩=some (.slice (some na) (m.cl.getD ac default).m.length (h.c ac).mc)∧w'.cell? (na.add sl)=some (.int .i64 en):=fun w' hu=>by
  obtain ⟨ad,h1,-,-,-,h2⟩:=(HMo'.out w' hu).cls hcl'
  obtain ⟨nd,h3,h4⟩:=row_int ((HMo'.out w' hu).t ac hcl') hsm
  rw [hco] at h1;cases h1
  rw [hno] at h3;cases h3
  rw [hno] at h2
  rw [←hen] at h4
  exact ⟨h2,h4⟩
 have hk0:∀ w' e',Ck w' K h m L S O e'→w'.cell? ⟨K,0,none⟩=some (.slice (some ca) m.cl.length h.cc):=fun w' e' hc=>by have:=hc.cells.2.1;rwa [hco] at this
 obtain ⟨ml,hml⟩:∃ x,x=(m.cl.getD ac default).m.length:=⟨_,rfl⟩
 rw [←hml] at hsm
 rw [←hml] at hent
 have hsm2:(sl:Int) < ml:=by omega
 have HE1:=Lib.hid (show e0=wantC 0 (decide (0≤en)) from by rw [HE0.out,←hA];show wantC 0 (decide ((2:Int)=2)&&decide (0≤m.ent (ac:Int) ((sl:Int).toNat)))=_;rw [Int.toNat_natCast,hee];rfl)
 have hS:∀ w' e',Upd K K W w'→Ck w' K h m L S O e'→(fun w':World=>w'.cell? ⟨cb,0,none⟩=some (.pointer (some ⟨K,0,none⟩))∧w'.cell? ⟨sb,0,none⟩=some (.int .i64 sl)∧w'.cell? ta=some (.int .i64 2)∧w'.cell? ⟨ta.block,ta.off+1,none⟩=some (.int .i64 ac)∧w'.cell? ⟨K,0,none⟩=some (.slice (some ca) m.cl.length h.cc)∧w'.cell? ⟨(ca.add (ac*4)).block,(ca.add (ac*4)).off+3,none⟩=some (.slice (some na) ml (h.c ac).mc)∧w'.cell? (na.add sl)=some (.int .i64 en)) w':=fun w' e' hu hc'=>⟨hu.cell c0 cne cne,hu.cell s0 sne sne,hu.cell t0 tne tne,hu.cell (p:=⟨ta.block,ta.off+1,none⟩) t1 tne tne,hk0 _ _ hc',(hent _ hu).1,(hent _ hu).2⟩
 have HS:=Lib.hid hS
 clear hS c0 s0 t0 t1 hA hent hk0 hen hee hml hco hno
 go_enter Tryz.func249,Tryz.ntmps249
 have s0:=hsb.cell 0 (v:=.int .i64 sl) rfl
 go_upto_region 2 with fail
 clear s0
 refine rO (fun w':World=>w'.cell? ⟨cb,0,none⟩=some (.pointer (some ⟨K,0,none⟩))∧w'.cell? ⟨sb,0,none⟩=some (.int .i64 sl)∧w'.cell? ta=some (.int .i64 2)∧w'.cell? ⟨ta.block,ta.off+1,none⟩=some (.int .i64 ac)∧w'.cell? ⟨K,0,none⟩=some (.slice (some ca) m.cl.length h.cc)∧w'.cell? ⟨(ca.add (ac*4)).block,(ca.add (ac*4)).off+3,none⟩=some (.slice (some na) ml (h.c ac).mc)∧w'.cell? (na.add sl)=some (.int .i64 en)) (oL [0,1,2,3,4,5,6,7,8,9,10,11,12,13,14,15,16,17,18,19,20,21,22,23,124]) (HS.out _ _ (Upd.refl K K _).drew (Ck.drew HC0.out)) ?_
 repeat refine pO ?_
 refine oO fun Kv hK=>?_
 go_simp
 refine (want_any K h m L S O _ _ _ (Ck.drew HC0.out)).mono ?_
 rintro r w3 ⟨⟨v3,rfl⟩,hc3,hu3⟩
 have HU1:=Lib.hid (HU0.out.drew.trans hu3)
 have HC1:=Lib.hid hc3
 clear hc3 hu3
 refine hK _ _ ⟨HS.out _ _ HU1.out HC1.out,?_⟩
 clear hK Kv
 repeat refine pO ?_
 refine wpMixO_done ?_
 rw [←HE1.out] at HC1
 exact k0
end
end
section
open Go.RowKit
theorem fitG_eq {m:Md} (hm:modV m=true) {t u:Ty} (ht:tyOk m t) (hu:tyOk m u):fitG m t u=fitsV m t u:=by
 unfold fitG fitsV
 by_cases h:t.k=2∧u.k=2
 ·rw [if_pos h,if_pos h]
  obtain ⟨a1,a2⟩:=ty_cls ht (.inl h.1)
  obtain ⟨b1,b2⟩:=ty_cls hu (.inl h.2)
  have i1:inV m.cl.length t.c=true:=by simp [inV,a1,a2]
  have i2:inV m.cl.length u.c=true:=by simp [inV,b1,b2]
  rw [hm,i1,i2]
  simp
 ·rw [if_neg h,if_neg h]
theorem wantC0 (b:Bool):wantC 0 b=if b then 0 else 11:=by cases b<;>rfl
theorem wantC11 (b:Bool):wantC 11 b=11:=by cases b<;>rfl
theorem ClPost.imp {W:World}{K:Nat}{h:Hd}{m:Md}{L S O:Value}{P Q:List Ty→Int→Prop}{r:Ending}{w':World} (H:ClPost W K h m L S O P r w') (hq:∀ out e',P out e'→Q out e'):ClPost W K h m L S O Q r w':=by
 obtain ⟨ro,rc,out,e',h1,h2,h3,h4,h5⟩:=H
 exact ⟨ro,rc,out,e',h1,h2,h3,h4,hq _ _ h5⟩
section
variable {m:Md}{ls:List Ty}{i:In3}{a b d:Ty}
theorem res_ite {n:Nat}{c:Bool}{t:Ty}{out:List Ty}{e':Int} (hl:out.length≤1000) (ho:c=true→out=List.replicate n t) (he:e'=if c then 0 else 11):ResP n (if c then some t else none) out e':=by
 cases c
 ·exact ⟨hl,he⟩
 ·exact ⟨hl,he,ho rfl⟩
theorem getD_some {l:List Ty}{n:Nat} (h:n<l.length):l[n]?=some (l.getD n default):=by simp [h]
theorem res_3 (hm:modV m=true) (hlo:∀ t∈ls,tyOk m t) (h:i.op=3) (h0:0≤i.a) (ha:tyOk m a):ResP 0 (pushV m ls i [a]) [] (wantC (wantC 0 (decide (i.a<ls.length))) (decide (wantC 0 (decide (i.a<ls.length))=0)&&fitG m a (ls.getD i.a.toNat default))):=by
 rw [pv3 h]
 refine res_ite (by simp) (fun _=>rfl) ?_
 by_cases hq:i.a<ls.length
 ·have hq':i.a.toNat<ls.length:=by omega
  rw [getD_some hq',decide_eq_true hq]
  show wantC 0 (decide (wantC 0 true=0)&&_)=if fitsV m a _=true then 0 else 11
  rw [fitG_eq hm ha (hlo _ (getD_mem _ hq')),show (decide (wantC 0 true=0)&&fitsV m a (ls.getD i.a.toNat default))=fitsV m a (ls.getD i.a.toNat default) from rfl,wantC0]
 ·rw [decide_eq_false hq,List.getElem?_eq_none (by omega)]
  rfl
theorem res_4 (h:i.op=4):ResP 0 (pushV m ls i [a]) [] 0:=by rw [pvx (by omega)];exact ⟨by simp,rfl,rfl⟩
theorem res_5 (h:i.op=5):ResP 2 (pushV m ls i [a]) [a,a] 0:=by rw [pv5 h];exact ⟨by simp,rfl,rfl⟩
theorem res_6y (h:i.op=6∨i.op=7∨i.op=8∨i.op=9∨i.op=10∨i.op=11) (ha:a=tInt):ResP 1 (pushV m ls i [a,b]) [a] (wantC 0 (decide (b=tInt))):=by
 rw [pv6 h]
 subst ha
 exact k93
theorem res_6n (h:i.op=6∨i.op=7∨i.op=8∨i.op=9∨i.op=10∨i.op=11) (ha:a≠tInt):ResP 1 (pushV m ls i [a,b]) [a] 11:=by
 rw [pv6 h]
 have hc:(decide ([a,b].getD 0 default=tInt)&&decide ([a,b].getD 1 default=tInt))=false:=by
  rw [show [a,b].getD 0 default=a from rfl,decide_eq_false ha];rfl
 rw [hc]
 exact ⟨by simp,rfl⟩
theorem res_13 (h:i.op=13):ResP 1 (pushV m ls i [a]) [tInt] (wantC 0 (!decide (a=tInt))):=by
 rw [pv13 h]
 refine res_ite (by simp) (fun _=>rfl) ?_
 rw [wantC0]
 show (if (!decide (a=tInt))=true then (0:Int) else 11)=if decide (a≠tInt)=true then 0 else 11
 simp
theorem res_27 (h:i.op=27∨i.op=29):ResP 0 (pushV m ls i [a]) [] (wantC 0 (decide (a=tInt))):=by
 rw [pv27 h]
 exact k93
theorem res_17 (h:i.op=17):ResP 1 (pushV m ls i [a]) [(fldV m a i.a).getD default] (wantC 0 (fldV m a i.a).isSome):=by
 rw [pv17 h]
 show ResP 1 (fldV m a i.a) _ _
 cases fldV m a i.a with
 | none=>exact ⟨by simp,rfl⟩
 | some t=>exact ⟨by simp,rfl,rfl⟩
theorem fld_ty (hm:modV m=true) (ha:tyOk m a) {n:Int}{t:Ty} (h:fldV m a n=some t):tyOk m t:=by
 unfold fldV at h
 split at h
 ·rename_i q
  obtain ⟨c0,c1⟩:=ty_cls ha (.inl q)
  exact fields_ty hm c0 c1 t (List.mem_of_getElem? h)
 ·cases h
theorem elem_ty (ha:tyOk m a) {t:Ty} (h:elemV a=some t):tyOk m t:=by
 unfold elemV at h
 split at h
 ·cases h;exact ty_int m
 ·split at h
  ·rename_i q
   obtain ⟨c0,c1⟩:=ty_cls ha (.inr q)
   cases h
   exact ty_mk (.inl rfl) c0 c1
  ·cases h
theorem res_18 (hm:modV m=true) (ha:tyOk m a) (hb:tyOk m b) (h:i.op=18):ResP 0 (pushV m ls i [a,b]) [] (wantC (wantC 0 (fldV m a i.a).isSome) (decide (wantC 0 (fldV m a i.a).isSome=0)&&fitG m b ((fldV m a i.a).getD default))):=by
 rw [pv18 h]
 refine res_ite (by simp) (fun _=>rfl) ?_
 show _=if fitsO m b (fldV m a i.a)=true then 0 else 11
 cases hf:fldV m a i.a with
 | none=>rfl
 | some t=>
  show wantC 0 (fitG m b t)=if fitsV m b t=true then 0 else 11
  rw [fitG_eq hm hb (fld_ty hm ha hf),wantC0]
theorem res_19 (h:i.op=19):ResP 1 (pushV m ls i [a,b]) [(elemV a).getD default] (wantC (wantC 0 (decide (b=tInt))) (elemV a).isSome):=by
 rw [pv19 h]
 show ResP 1 (if b=tInt then elemV a else none) _ _
 by_cases hb:b=tInt
 ·rw [if_pos hb,decide_eq_true hb]
  cases elemV a with
  | none=>exact ⟨by simp,rfl⟩
  | some t=>exact ⟨by simp,rfl,rfl⟩
 ·rw [if_neg hb,decide_eq_false hb]
  exact ⟨by simp,wantC11 _⟩
theorem res_20 (hm:modV m=true) (ha:tyOk m a) (hd:tyOk m d) (h:i.op=20):ResP 0 (pushV m ls i [a,b,d]) [] (wantC (wantC (wantC 0 (decide (b=tInt))) (elemV a).isSome) (decide (wantC (wantC 0 (decide (b=tInt))) (elemV a).isSome=0)&&fitG m d ((elemV a).getD default))):=by
 rw [pv20 h]
 refine res_ite (by simp) (fun _=>rfl) ?_
 show _=if (decide (b=tInt)&&fitsO m d (elemV a))=true then 0 else 11
 by_cases hb:b=tInt
 ·rw [decide_eq_true hb]
  cases he:elemV a with
  | none=>rfl
  | some t=>
   show wantC 0 (fitG m d t)=if fitsV m d t=true then 0 else 11
   rw [fitG_eq hm hd (elem_ty ha he),wantC0]
 ·rw [decide_eq_false hb,show wantC 0 false=11 from rfl,wantC11,wantC11];rfl
theorem res_21 (h:i.op=21):ResP 1 (pushV m ls i [a]) [tInt] (wantC 0 (elemV a).isSome):=by
 rw [pv21 h]
 exact k93
theorem res_23 (hm:modV m=true) (ha:tyOk m a) (h:i.op=23) (h0:0≤i.a) (h1:i.a<m.st.length):ResP 0 (pushV m ls i [a]) [] (wantC 0 (fitG m a (m.st.getD i.a.toNat default))):=by
 rw [pv23 h]
 refine res_ite (by simp) (fun _=>rfl) ?_
 rw [fitG_eq hm ha (statics_ty hm _ (getD_mem _ (by omega))),wantC0];rfl
theorem res_24 (hm:modV m=true) (ha:tyOk m a) (h:i.op=24) (h0:0≤i.a) (h1:i.a<m.cl.length) {e':Int} (he:e'=if a.k=2 then (if fitG m a ⟨2,i.a⟩=true then 0 else wantC 0 (fitG m ⟨2,i.a⟩ a)) else 11):ResP 1 (pushV m ls i [a]) [⟨2,i.a⟩] e':=by
 rw [pv24 h]
 refine res_ite (by simp) (fun _=>rfl) ?_
 subst he
 show _=if (decide (a.k=2)&&(fitsV m a ⟨2,i.a⟩||fitsV m ⟨2,i.a⟩ a))=true then 0 else 11
 have ht:tyOk m ⟨2,i.a⟩:=ty_mk (.inl rfl) h0 h1
 rw [fitG_eq hm ha ht,fitG_eq hm ht ha,wantC0]
 by_cases hk:a.k=2
 ·rw [if_pos hk,decide_eq_true hk]
  cases fitsV m a ⟨2,i.a⟩<;>cases fitsV m ⟨2,i.a⟩ a<;>rfl
 ·rw [if_neg hk,decide_eq_false hk];rfl
theorem res_30y (h0:0≤i.b) (h:i.op=30) (ha:a=tInt):ResP 0 (pushV m ls i [a]) [] (wantC (wantC 0 (decide (i.b<ls.length))) (decide (ls.getD i.b.toNat default=tInt))):=by
 rw [pv30 h]
 refine res_ite (by simp) (fun _=>rfl) ?_
 subst ha
 show _=if (decide (tInt=tInt)&&decide (ls[i.b.toNat]?=some tInt))=true then 0 else 11
 rw [decide_eq_true rfl,Bool.true_and]
 by_cases hq:i.b<ls.length
 ·rw [getD_some (by omega),decide_eq_true hq,show wantC 0 true=0 from rfl,wantC0]
  simp
 ·rw [decide_eq_false hq,List.getElem?_eq_none (by omega),show wantC 0 false=11 from rfl,wantC11];rfl
theorem res_30n (h:i.op=30) (ha:a≠tInt):ResP 0 (pushV m ls i [a]) [] 11:=by
 rw [pv30 h]
 have hc:(decide ([a].getD 0 default=tInt)&&decide (ls[i.b.toNat]?=some tInt))=false:=by
  rw [show [a].getD 0 default=a from rfl,decide_eq_false ha];rfl
 rw [hc]
 exact ⟨by simp,rfl⟩
theorem rep_res (r:Ty):resL r=List.replicate (if r.k=0 then 0 else 1) r:=by
 unfold resL;split<;>rfl
theorem resL_len (r:Ty):(resL r).length≤1:=by unfold resL;split<;>simp
theorem all_congr {n:Nat}{p q:Nat→Bool} (h:∀ k,k<n→p k=q k):(List.range n).all p=(List.range n).all q:=by
 apply Bool.eq_iff_iff.2
 rw [all_range_iff,all_range_iff]
 exact ⟨fun h1 k hk=>(h k hk)▸h1 k hk,fun h1 k hk=>(h k hk).symm▸h1 k hk⟩
theorem res_25 (hm:modV m=true) (h:i.op=25) {x:Mth} (hx:x=m.me.getD i.a.toNat default) {l:List Ty} (hlen:l.length=x.p.length) (hl:∀ t∈l,tyOk m t) (hp:∀ t∈x.p,tyOk m t) :
  ResP (if x.r.k=0 then 0 else 1) (pushV m ls i l) (resL x.r) (errF m l x.p 0 0 x.p.length):=by
 rw [pv25 h,←hx]
 refine res_ite (by have:=resL_len x.r;omega) (fun _=>rep_res _) ?_
 rw [errF_val _ _ _ _ _ (.inl rfl)]
 rw [all_congr (q:=fun k=>fitsV m (l.getD k default) (x.p.getD k default)) (fun k hk=>by rw [Nat.zero_add];exact fitG_eq hm (hl _ (getD_mem _ (by omega))) (hp _ (getD_mem _ hk)))]
 cases (List.range x.p.length).all fun k=>fitsV m (l.getD k default) (x.p.getD k default)<;>rfl
theorem res_26 (hm:modV m=true) (h:i.op=26) {x:Mth} (hx:calleeV m i=some x) {l:List Ty} (hlen:l.length=1+x.p.length) (hl:∀ t∈l,tyOk m t) (hp:∀ t∈x.p,tyOk m t) {e0:Int}
  (he:e0=if (decide ((l.getD 0 default).k=2)&&decide (0≤m.ent (l.getD 0 default).c i.a.toNat))=true then 0 else 11) :
  ResP (if x.r.k=0 then 0 else 1) (pushV m ls i l) (resL x.r) (errF m l x.p 1 e0 x.p.length):=by
 rw [pv26 h,hx]
 dsimp only
 refine res_ite (by have:=resL_len x.r;omega) (fun _=>rep_res _) ?_
 generalize (decide ((l.getD 0 default).k=2)&&decide (0≤m.ent (l.getD 0 default).c i.a.toNat))=c at he ⊢
 rw [errF_val _ _ _ _ _ (by subst he;split<;>simp)]
 rw [all_congr (q:=fun k=>fitsV m (l.getD (k+1) default) (x.p.getD k default)) (fun k hk=>by rw [Nat.add_comm];exact fitG_eq hm (hl _ (getD_mem _ (by omega))) (hp _ (getD_mem _ hk)))]
 subst he
 cases c<;>cases (List.range x.p.length).all fun k=>fitsV m (l.getD (k+1) default) (x.p.getD k default)<;>rfl
end
section
variable {w0 w:World}{K:Nat}{h:Hd}{m:Md}{lo:Option Addr}{lc:Nat}{ls:List Ty}{s:Ps}{so:Option Addr}{sc:Nat}{oo:Option Addr}{oc:Nat}{bs:List VB}{i:In3}
theorem St.old {w':World} (H:St w0 w K h m lo lc ls s so sc oo oc bs) (hb:Below w.heap.size w w'):St w0 w' K h m lo lc ls s so sc oo oc bs:=
 H.next (Upd.of hb) (H.ck.old hb) (H.ts.upd (Upd.of (K:=K) (B:=K) hb) H.ck.noTy H.ck.noTy)
theorem DoPost.bel {w1:World}{q:Int × List Ty}{r:Ending}{w':World} (H:DoPost w1 K h m lo lc ls oo oc bs q r w') (hb:Below w.heap.size w w1):DoPost w K h m lo lc ls oo oc bs q r w':=
 ⟨H.1,(Upd.of hb).trans H.2.1,H.2.2⟩
theorem one_of {l:List Ty} (h:l.length=1):∃ a,l=[a]:=by
 cases l with
 | nil=>cases h
 | cons a r=>cases r with
  | nil=>exact ⟨a,rfl⟩
  | cons b r=>simp at h
theorem two_of {l:List Ty} (h:l.length=2):∃ a b,l=[a,b]:=by
 cases l with
 | nil=>cases h
 | cons a r=>
  obtain ⟨b,rfl⟩:=one_of (l:=r) (by simpa using h)
  exact ⟨a,b,rfl⟩
theorem three_of {l:List Ty} (h:l.length=3):∃ a b c,l=[a,b,c]:=by
 cases l with
 | nil=>cases h
 | cons a r=>
  obtain ⟨b,c,rfl⟩:=two_of (l:=r) (by simpa using h)
  exact ⟨a,b,c,rfl⟩
end
end
section
open Go.RowKit
theorem push_gen (K:Nat) (h:Hd) (m:Md) (L:Value) (so:Option Addr) (sc:Nat) (st:List Ty) (oo:Option Addr) (oc:Nat) (bs:List VB) (e:Int) (tv:Ty) (w:World)
    (H:Ck w K h m L (.slice so st.length sc) (.slice oo bs.length oc) e) (hs:TyAt w so sc st) (hst:st.length≤1000) (ho:RowAt w oo oc bs) (hlen:bs.length≤1000000) :
    Calls Tryz.prog 179 #[.pointer (some ⟨K,0,none⟩),.agg #[.int .i64 tv.k,.int .i64 tv.c]] w fun r w'=>(∃ v,r=.returned v)∧Upd K K w w' ∧
      ((cntOk st.length 0 1 (baseB bs)=false∧Ck w' K h m L (.slice so st.length sc) (.slice oo bs.length oc) (errC e 12)) ∨
       (cntOk st.length 0 1 (baseB bs)=true∧∃ so' sc',TyAt w' so' sc' (st++[tv])∧Ck w' K h m L (.slice so' (st++[tv]).length sc') (.slice oo bs.length oc) e)):=by
 have hb1:Below w.heap.size w (w.alloc (.cells #[.int .i64 tv.k,.int .i64 tv.c] 35)):=by exact bE
 have hbx:=Blk.new w #[.int .i64 tv.k,.int .i64 tv.c] 35
 have kl:=Blk.lt H
 have HD:=Lib.hid (do_any K h m L so sc st oo oc bs e 0 1 220 #[.pointer (some ⟨w.heap.size,0,none⟩)] (fun out e'=>out=[tv]∧e'=e) _ (H.old hb1) (hs.upd (Upd.of (K:=K) (B:=K) hb1) H.noTy H.noTy) hst (ho.old hb1) hlen (by decide) ⟨by decide,by decide⟩ (fun _ _=>rfl) (fun out e' hp=>by rw [hp.1];simp)
   (fun _ w1 to' tc hu hck hown=>by
     refine (push1_any tv w.heap.size (.slice to' 0 tc) w1 (Blk.upd hbx hu (by omega) (by omega))).mono ?_
     rintro r w2 ⟨ro,rc,rfl,ht,_,hb⟩
     exact ⟨ro,rc,[tv],e,rfl,ht,hck.old hb,hu.bel hb,rfl,rfl⟩))
 have HB1:=Lib.hid hb1
 clear hb1 hbx H hs ho
 go_enter Tryz.func179,Tryz.ntmps179
 go_wp2_with (go_at_call 171;refine HD.out.mono ?_;rintro r w2 ⟨⟨v,rfl⟩,hu2,hd2⟩;have HU2:=Lib.hid hu2;have HD2:=Lib.hid hd2;clear hu2 hd2)
 go_end0
 refine ⟨⟨_,rfl⟩,(Upd.of HB1.out).trans HU2.out,?_⟩
 rcases HD2.out with ⟨h1,h2⟩|⟨h1,so',sc',out,e',⟨rfl,rfl⟩,h3,h4⟩
 · exact .inl ⟨h1,h2⟩
 · rw [Nat.sub_zero,List.take_length] at h3 h4
   exact .inr ⟨h1,so',sc',h3,h4⟩
section
variable {w0 w:World}{K:Nat}{h:Hd}{m:Md}{lo:Option Addr}{lc:Nat}{ls:List Ty}{s:Ps}{so:Option Addr}{sc:Nat}{oo:Option Addr}{oc:Nat}{bs:List VB}{i:In3}(HW:stkOk m s.stk)(H:St w0 w K h m lo lc ls s so sc oo oc bs)(hd:s.opn.length≤6)
include w0 w K h m lo lc ls s so sc oo oc bs i HW H hd
theorem push_mid (tv:Ty) (hcn:cntV m i=(0,1)) (hpv:pushV m ls i []=some tv):
  Calls Tryz.prog 179 #[.pointer (some ⟨K,0,none⟩),.agg #[.int .i64 tv.k,.int .i64 tv.c]] w (DoPost w K h m lo lc ls oo oc bs (midV m ls i s)):=by
 have hl:=HW.1
 have hlen:=H.op.len
 refine (push_gen K h m (.slice lo ls.length lc) so sc s.stk oo oc bs 0 tv w H.ck H.ts (by omega) (RowAt.of_own H.op.own) (by omega)).mono ?_
 rintro r w' ⟨hv,hu,hq⟩
 refine ⟨hv,hu,?_⟩
 rw [baseB_eq H.op] at hq
 unfold midV
 rw [hcn]
 dsimp only
 rw [Nat.sub_zero,List.drop_length,List.take_length,hpv]
 rcases hq with ⟨hq,hc⟩|⟨hq,so',sc',ht,hc⟩
 ·exact k67
 ·rw [if_neg (by simp only [cntOk,Bool.and_eq_true,decide_eq_true_eq] at hq;omega)]
  exact ⟨so',sc',_,hc,ht,by simp;omega,fun _=>rfl⟩
theorem do_mid0 (tk ps g:Nat) (caps:Array Value) (hcn:cntV m i=(tk,ps)) (htk:tk≤1000) (hps:ps≤1000) (cf:∀ A W,(callFunc g (A++caps)).run Tryz.prog W=.ok (.enter g (A++caps)) W) (hg:∀ l,l.length=tk→s.stk.drop (s.stk.length-tk)=l→∀ w1 to' tc,Upd K K w w1→Ck w1 K h m (.slice lo ls.length lc) (.slice so s.stk.length sc) (.slice oo bs.length oc) 0→w1.ownsRow w.heap.size 35 2 (.slice to' tk tc) tk (flatR l) →
   Calls Tryz.prog g (#[.slice to' tk tc]++caps) w1 (ClPost w K h m (.slice lo ls.length lc) (.slice so s.stk.length sc) (.slice oo bs.length oc) (ResP ps (pushV m ls i l)))):
  Calls Tryz.prog 171 #[.pointer (some ⟨K,0,none⟩),.int .i64 tk,.int .i64 ps,.func (Fn.func g) #[] caps] w (DoPost w K h m lo lc ls oo oc bs (midV m ls i s)):=by
 have hb:=baseB_eq H.op
 have hlen:=H.op.len
 have hstk:=HW.1
 refine (do_any K h m (.slice lo ls.length lc) so sc s.stk oo oc bs 0 tk ps g caps (ResP ps (pushV m ls i (s.stk.drop (s.stk.length-tk)))) w H.ck H.ts (by omega) (RowAt.of_own H.op.own) (by omega) (by omega) ⟨by omega,by omega⟩ cf (fun out e' h=>h.1) ?_).mono ?_
 ·intro hle w1 to' tc hu hck hown
  refine (hg _ (by simp;omega) rfl w1 to' tc hu hck hown).mono ?_
  rintro r w2 ⟨ro,rc,out,e',hr,h1,h2,h3,h4⟩
  exact ⟨ro,rc,out,e',hr,h1,h2,h3,h4⟩
 ·exact k24
end
end
section
open Go.RowKit
section
variable {w0 w:World}{K:Nat}{h:Hd}{m:Md}{lo:Option Addr}{lc:Nat}{ls:List Ty}{s:Ps}{so:Option Addr}{sc:Nat}{oo:Option Addr}{oc:Nat}{bs:List VB}{i:In3}{k:Nat}(hm:modV m=true)(hlo:∀ t∈ls,tyOk m t)(HW:stkOk m s.stk)(H:St w0 w K h m lo lc ls s so sc oo oc bs)(HM:ModAt w0 h m)(hd:s.opn.length≤6)(hi:OpdOk m k i)
include w0 w K h m lo lc ls s so sc oo oc bs i k hm hlo HW H HM hd hi
theorem s_3 (hop:i.op=3):
  Calls Tryz.prog 131 #[.pointer (some ⟨K,0,none⟩),.agg #[.int .i64 i.op,.int .i64 i.a,.int .i64 i.b]] w (DoPost w K h m lo lc ls oo oc bs (midV m ls i s)):=by
 obtain ⟨op,ia,ib⟩:=i
 dsimp only at hop
 subst hop
 have hb1:Below w.heap.size w ((w.alloc (.cells #[.pointer (some ⟨K,0,none⟩)] 148)).alloc (.cells #[.int .i64 3,.int .i64 ia,.int .i64 ib] 42)):=by exact bE
 have hbx:=(Blk.new w #[.pointer (some ⟨K,0,none⟩)] 148).alloc (.cells #[.int .i64 3,.int .i64 ia,.int .i64 ib] 42)
 have hbi:Blk ((w.alloc (.cells #[.pointer (some ⟨K,0,none⟩)] 148)).alloc (.cells #[.int .i64 3,.int .i64 ia,.int .i64 ib] 42)) (w.heap.size+1) #[.int .i64 3,.int .i64 ia,.int .i64 ib] 42:=Blk.new' (w:=w.alloc (.cells #[.pointer (some ⟨K,0,none⟩)] 148)) _ _ (by simp)
 have kl:=Blk.lt H.ck
 have H1:=H.old hb1
 have HD:=Lib.hid (do_mid (i:=⟨3,ia,ib⟩) HW H1 hd 1 0 181 #[.pointer (some ⟨w.heap.size,0,none⟩),.pointer (some ⟨w.heap.size+1,0,none⟩)] (cv10 (.inl rfl)) (by decide) (by decide) (fun _ _=>rfl) (fun l hl hdr w1 to' tc hu hck hown=>by
  obtain ⟨a,rfl⟩:=one_of hl
  have ha:=HW.2 a (List.mem_of_mem_drop (by rw [hdr];simp))
  have hHM:∀ w',Upd K K w1 w'→ModAt w' h m:=fun w' hu'=>HM.old ((hu.trans hu').below H1.hb (Nat.le_refl _) H1.hK H1.hK)
  have hx1:=Blk.upd hbx hu (by omega) (by omega)
  have hi1:=Blk.upd hbi hu (by omega) (by omega)
  have hT:=H1.tl.upd hu H1.ck.noTy H1.ck.noTy
  refine (simple2_any K h m _ _ _ a 3 ia ib to' tc _ w.heap.size (w.heap.size+1) w1 hck hHM hx1 hi1 hown lo lc ls rfl hT (hi.a0 (by simp))).mono ?_
  exact fun r w2 hp=>hp.imp fun out e' hq=>by obtain ⟨h1,h2⟩:=hq;rw [h1,h2];exact res_3 hm hlo rfl (hi.a0 (by simp)) ha))
 exact k16
theorem s_4 (hop:i.op=4):
  Calls Tryz.prog 131 #[.pointer (some ⟨K,0,none⟩),.agg #[.int .i64 i.op,.int .i64 i.a,.int .i64 i.b]] w (DoPost w K h m lo lc ls oo oc bs (midV m ls i s)):=by
 obtain ⟨op,ia,ib⟩:=i
 dsimp only at hop
 subst hop
 have hb1:Below w.heap.size w ((w.alloc (.cells #[.pointer (some ⟨K,0,none⟩)] 148)).alloc (.cells #[.int .i64 4,.int .i64 ia,.int .i64 ib] 42)):=by exact bE
 have hbx:=(Blk.new w #[.pointer (some ⟨K,0,none⟩)] 148).alloc (.cells #[.int .i64 4,.int .i64 ia,.int .i64 ib] 42)
 have hbi:Blk ((w.alloc (.cells #[.pointer (some ⟨K,0,none⟩)] 148)).alloc (.cells #[.int .i64 4,.int .i64 ia,.int .i64 ib] 42)) (w.heap.size+1) #[.int .i64 4,.int .i64 ia,.int .i64 ib] 42:=Blk.new' (w:=w.alloc (.cells #[.pointer (some ⟨K,0,none⟩)] 148)) _ _ (by simp)
 have kl:=Blk.lt H.ck
 have H1:=H.old hb1
 have HD:=Lib.hid (do_mid (i:=⟨4,ia,ib⟩) HW H1 hd 1 0 178 #[] (cv10 (.inr (.inl rfl))) (by decide) (by decide) (fun _ _=>rfl) (fun l hl hdr w1 to' tc hu hck hown=>by
  obtain ⟨a,rfl⟩:=one_of hl
  have ha:=HW.2 a (List.mem_of_mem_drop (by rw [hdr];simp))
  have hHM:∀ w',Upd K K w1 w'→ModAt w' h m:=fun w' hu'=>HM.old ((hu.trans hu').below H1.hb (Nat.le_refl _) H1.hK H1.hK)
  have hx1:=Blk.upd hbx hu (by omega) (by omega)
  have hi1:=Blk.upd hbi hu (by omega) (by omega)
  have hT:=H1.tl.upd hu H1.ck.noTy H1.ck.noTy
  refine (none_any K h m _ _ _ (.slice to' 1 tc) w1 hck).mono ?_
  exact fun r w2 hp=>hp.imp fun out e' hq=>by obtain ⟨h1,h2⟩:=hq;rw [h1,h2];exact res_4 rfl))
 exact k16
theorem s_5 (hop:i.op=5):
  Calls Tryz.prog 131 #[.pointer (some ⟨K,0,none⟩),.agg #[.int .i64 i.op,.int .i64 i.a,.int .i64 i.b]] w (DoPost w K h m lo lc ls oo oc bs (midV m ls i s)):=by
 obtain ⟨op,ia,ib⟩:=i
 dsimp only at hop
 subst hop
 have hb1:Below w.heap.size w ((w.alloc (.cells #[.pointer (some ⟨K,0,none⟩)] 148)).alloc (.cells #[.int .i64 5,.int .i64 ia,.int .i64 ib] 42)):=by exact bE
 have hbx:=(Blk.new w #[.pointer (some ⟨K,0,none⟩)] 148).alloc (.cells #[.int .i64 5,.int .i64 ia,.int .i64 ib] 42)
 have hbi:Blk ((w.alloc (.cells #[.pointer (some ⟨K,0,none⟩)] 148)).alloc (.cells #[.int .i64 5,.int .i64 ia,.int .i64 ib] 42)) (w.heap.size+1) #[.int .i64 5,.int .i64 ia,.int .i64 ib] 42:=Blk.new' (w:=w.alloc (.cells #[.pointer (some ⟨K,0,none⟩)] 148)) _ _ (by simp)
 have kl:=Blk.lt H.ck
 have H1:=H.old hb1
 have HD:=Lib.hid (do_mid0 (i:=⟨5,ia,ib⟩) HW H1 hd 1 2 183 #[] (cv12 rfl) (by decide) (by decide) (fun _ _=>rfl) (fun l hl hdr w1 to' tc hu hck hown=>by
  obtain ⟨a,rfl⟩:=one_of hl
  refine (simple3_any K h m _ _ _ a to' tc _ w1 hck hu hown).mono ?_
  exact fun r w2 hp=>hp.imp fun out e' hq=>by obtain ⟨h1,h2⟩:=hq;rw [h1,h2];exact res_5 rfl))
 exact k16
theorem s_6 (hop:i.op=6):
  Calls Tryz.prog 131 #[.pointer (some ⟨K,0,none⟩),.agg #[.int .i64 i.op,.int .i64 i.a,.int .i64 i.b]] w (DoPost w K h m lo lc ls oo oc bs (midV m ls i s)):=by
 obtain ⟨op,ia,ib⟩:=i
 dsimp only at hop
 subst hop
 have hb1:Below w.heap.size w ((w.alloc (.cells #[.pointer (some ⟨K,0,none⟩)] 148)).alloc (.cells #[.int .i64 6,.int .i64 ia,.int .i64 ib] 42)):=by exact bE
 have hbx:=(Blk.new w #[.pointer (some ⟨K,0,none⟩)] 148).alloc (.cells #[.int .i64 6,.int .i64 ia,.int .i64 ib] 42)
 have hbi:Blk ((w.alloc (.cells #[.pointer (some ⟨K,0,none⟩)] 148)).alloc (.cells #[.int .i64 6,.int .i64 ia,.int .i64 ib] 42)) (w.heap.size+1) #[.int .i64 6,.int .i64 ia,.int .i64 ib] 42:=Blk.new' (w:=w.alloc (.cells #[.pointer (some ⟨K,0,none⟩)] 148)) _ _ (by simp)
 have kl:=Blk.lt H.ck
 have H1:=H.old hb1
 have HD:=Lib.hid (do_mid (i:=⟨6,ia,ib⟩) HW H1 hd 2 1 184 #[.pointer (some ⟨w.heap.size,0,none⟩)] (cv21 (by simp)) (by decide) (by decide) (fun _ _=>rfl) (fun l hl hdr w1 to' tc hu hck hown=>by
  obtain ⟨a,b,rfl⟩:=two_of hl
  have hx1:=Blk.upd hbx hu (by omega) (by omega)
  by_cases hA:a=tInt
  ·refine (simple4_yes K h m _ _ _ a b 0 0 0 to' tc _ w.heap.size 0 w1 hck hx1 hown hA).mono ?_
   exact fun r w2 hp=>hp.imp fun out e' hq=>by obtain ⟨h1,h2⟩:=hq;rw [h1,h2];exact res_6y (by simp) hA
  ·refine (simple4_no K h m _ _ _ a b 0 0 0 to' tc _ w.heap.size 0 w1 hck hx1 hown hA).mono ?_
   exact fun r w2 hp=>hp.imp fun out e' hq=>by obtain ⟨h1,h2⟩:=hq;rw [h1,h2];exact res_6n (by simp) hA))
 exact k16
theorem s_7 (hop:i.op=7):
  Calls Tryz.prog 131 #[.pointer (some ⟨K,0,none⟩),.agg #[.int .i64 i.op,.int .i64 i.a,.int .i64 i.b]] w (DoPost w K h m lo lc ls oo oc bs (midV m ls i s)):=by
 obtain ⟨op,ia,ib⟩:=i
 dsimp only at hop
 subst hop
 have hb1:Below w.heap.size w ((w.alloc (.cells #[.pointer (some ⟨K,0,none⟩)] 148)).alloc (.cells #[.int .i64 7,.int .i64 ia,.int .i64 ib] 42)):=by exact bE
 have hbx:=(Blk.new w #[.pointer (some ⟨K,0,none⟩)] 148).alloc (.cells #[.int .i64 7,.int .i64 ia,.int .i64 ib] 42)
 have hbi:Blk ((w.alloc (.cells #[.pointer (some ⟨K,0,none⟩)] 148)).alloc (.cells #[.int .i64 7,.int .i64 ia,.int .i64 ib] 42)) (w.heap.size+1) #[.int .i64 7,.int .i64 ia,.int .i64 ib] 42:=Blk.new' (w:=w.alloc (.cells #[.pointer (some ⟨K,0,none⟩)] 148)) _ _ (by simp)
 have kl:=Blk.lt H.ck
 have H1:=H.old hb1
 have HD:=Lib.hid (do_mid (i:=⟨7,ia,ib⟩) HW H1 hd 2 1 184 #[.pointer (some ⟨w.heap.size,0,none⟩)] (cv21 (by simp)) (by decide) (by decide) (fun _ _=>rfl) (fun l hl hdr w1 to' tc hu hck hown=>by
  obtain ⟨a,b,rfl⟩:=two_of hl
  have hx1:=Blk.upd hbx hu (by omega) (by omega)
  by_cases hA:a=tInt
  ·refine (simple4_yes K h m _ _ _ a b 0 0 0 to' tc _ w.heap.size 0 w1 hck hx1 hown hA).mono ?_
   exact fun r w2 hp=>hp.imp fun out e' hq=>by obtain ⟨h1,h2⟩:=hq;rw [h1,h2];exact res_6y (by simp) hA
  ·refine (simple4_no K h m _ _ _ a b 0 0 0 to' tc _ w.heap.size 0 w1 hck hx1 hown hA).mono ?_
   exact fun r w2 hp=>hp.imp fun out e' hq=>by obtain ⟨h1,h2⟩:=hq;rw [h1,h2];exact res_6n (by simp) hA))
 exact k16
theorem s_8 (hop:i.op=8):
  Calls Tryz.prog 131 #[.pointer (some ⟨K,0,none⟩),.agg #[.int .i64 i.op,.int .i64 i.a,.int .i64 i.b]] w (DoPost w K h m lo lc ls oo oc bs (midV m ls i s)):=by
 obtain ⟨op,ia,ib⟩:=i
 dsimp only at hop
 subst hop
 have hb1:Below w.heap.size w ((w.alloc (.cells #[.pointer (some ⟨K,0,none⟩)] 148)).alloc (.cells #[.int .i64 8,.int .i64 ia,.int .i64 ib] 42)):=by exact bE
 have hbx:=(Blk.new w #[.pointer (some ⟨K,0,none⟩)] 148).alloc (.cells #[.int .i64 8,.int .i64 ia,.int .i64 ib] 42)
 have hbi:Blk ((w.alloc (.cells #[.pointer (some ⟨K,0,none⟩)] 148)).alloc (.cells #[.int .i64 8,.int .i64 ia,.int .i64 ib] 42)) (w.heap.size+1) #[.int .i64 8,.int .i64 ia,.int .i64 ib] 42:=Blk.new' (w:=w.alloc (.cells #[.pointer (some ⟨K,0,none⟩)] 148)) _ _ (by simp)
 have kl:=Blk.lt H.ck
 have H1:=H.old hb1
 have HD:=Lib.hid (do_mid (i:=⟨8,ia,ib⟩) HW H1 hd 2 1 184 #[.pointer (some ⟨w.heap.size,0,none⟩)] (cv21 (by simp)) (by decide) (by decide) (fun _ _=>rfl) (fun l hl hdr w1 to' tc hu hck hown=>by
  obtain ⟨a,b,rfl⟩:=two_of hl
  have hx1:=Blk.upd hbx hu (by omega) (by omega)
  by_cases hA:a=tInt
  ·refine (simple4_yes K h m _ _ _ a b 0 0 0 to' tc _ w.heap.size 0 w1 hck hx1 hown hA).mono ?_
   exact fun r w2 hp=>hp.imp fun out e' hq=>by obtain ⟨h1,h2⟩:=hq;rw [h1,h2];exact res_6y (by simp) hA
  ·refine (simple4_no K h m _ _ _ a b 0 0 0 to' tc _ w.heap.size 0 w1 hck hx1 hown hA).mono ?_
   exact fun r w2 hp=>hp.imp fun out e' hq=>by obtain ⟨h1,h2⟩:=hq;rw [h1,h2];exact res_6n (by simp) hA))
 exact k16
theorem s_9 (hop:i.op=9):
  Calls Tryz.prog 131 #[.pointer (some ⟨K,0,none⟩),.agg #[.int .i64 i.op,.int .i64 i.a,.int .i64 i.b]] w (DoPost w K h m lo lc ls oo oc bs (midV m ls i s)):=by
 obtain ⟨op,ia,ib⟩:=i
 dsimp only at hop
 subst hop
 have hb1:Below w.heap.size w ((w.alloc (.cells #[.pointer (some ⟨K,0,none⟩)] 148)).alloc (.cells #[.int .i64 9,.int .i64 ia,.int .i64 ib] 42)):=by exact bE
 have hbx:=(Blk.new w #[.pointer (some ⟨K,0,none⟩)] 148).alloc (.cells #[.int .i64 9,.int .i64 ia,.int .i64 ib] 42)
 have hbi:Blk ((w.alloc (.cells #[.pointer (some ⟨K,0,none⟩)] 148)).alloc (.cells #[.int .i64 9,.int .i64 ia,.int .i64 ib] 42)) (w.heap.size+1) #[.int .i64 9,.int .i64 ia,.int .i64 ib] 42:=Blk.new' (w:=w.alloc (.cells #[.pointer (some ⟨K,0,none⟩)] 148)) _ _ (by simp)
 have kl:=Blk.lt H.ck
 have H1:=H.old hb1
 have HD:=Lib.hid (do_mid (i:=⟨9,ia,ib⟩) HW H1 hd 2 1 184 #[.pointer (some ⟨w.heap.size,0,none⟩)] (cv21 (by simp)) (by decide) (by decide) (fun _ _=>rfl) (fun l hl hdr w1 to' tc hu hck hown=>by
  obtain ⟨a,b,rfl⟩:=two_of hl
  have hx1:=Blk.upd hbx hu (by omega) (by omega)
  by_cases hA:a=tInt
  ·refine (simple4_yes K h m _ _ _ a b 0 0 0 to' tc _ w.heap.size 0 w1 hck hx1 hown hA).mono ?_
   exact fun r w2 hp=>hp.imp fun out e' hq=>by obtain ⟨h1,h2⟩:=hq;rw [h1,h2];exact res_6y (by simp) hA
  ·refine (simple4_no K h m _ _ _ a b 0 0 0 to' tc _ w.heap.size 0 w1 hck hx1 hown hA).mono ?_
   exact fun r w2 hp=>hp.imp fun out e' hq=>by obtain ⟨h1,h2⟩:=hq;rw [h1,h2];exact res_6n (by simp) hA))
 exact k16
theorem s_10 (hop:i.op=10):
  Calls Tryz.prog 131 #[.pointer (some ⟨K,0,none⟩),.agg #[.int .i64 i.op,.int .i64 i.a,.int .i64 i.b]] w (DoPost w K h m lo lc ls oo oc bs (midV m ls i s)):=by
 obtain ⟨op,ia,ib⟩:=i
 dsimp only at hop
 subst hop
 have hb1:Below w.heap.size w ((w.alloc (.cells #[.pointer (some ⟨K,0,none⟩)] 148)).alloc (.cells #[.int .i64 10,.int .i64 ia,.int .i64 ib] 42)):=by exact bE
 have hbx:=(Blk.new w #[.pointer (some ⟨K,0,none⟩)] 148).alloc (.cells #[.int .i64 10,.int .i64 ia,.int .i64 ib] 42)
 have hbi:Blk ((w.alloc (.cells #[.pointer (some ⟨K,0,none⟩)] 148)).alloc (.cells #[.int .i64 10,.int .i64 ia,.int .i64 ib] 42)) (w.heap.size+1) #[.int .i64 10,.int .i64 ia,.int .i64 ib] 42:=Blk.new' (w:=w.alloc (.cells #[.pointer (some ⟨K,0,none⟩)] 148)) _ _ (by simp)
 have kl:=Blk.lt H.ck
 have H1:=H.old hb1
 have HD:=Lib.hid (do_mid (i:=⟨10,ia,ib⟩) HW H1 hd 2 1 184 #[.pointer (some ⟨w.heap.size,0,none⟩)] (cv21 (by simp)) (by decide) (by decide) (fun _ _=>rfl) (fun l hl hdr w1 to' tc hu hck hown=>by
  obtain ⟨a,b,rfl⟩:=two_of hl
  have hx1:=Blk.upd hbx hu (by omega) (by omega)
  by_cases hA:a=tInt
  ·refine (simple4_yes K h m _ _ _ a b 0 0 0 to' tc _ w.heap.size 0 w1 hck hx1 hown hA).mono ?_
   exact fun r w2 hp=>hp.imp fun out e' hq=>by obtain ⟨h1,h2⟩:=hq;rw [h1,h2];exact res_6y (by simp) hA
  ·refine (simple4_no K h m _ _ _ a b 0 0 0 to' tc _ w.heap.size 0 w1 hck hx1 hown hA).mono ?_
   exact fun r w2 hp=>hp.imp fun out e' hq=>by obtain ⟨h1,h2⟩:=hq;rw [h1,h2];exact res_6n (by simp) hA))
 exact k16
theorem s_11 (hop:i.op=11):
  Calls Tryz.prog 131 #[.pointer (some ⟨K,0,none⟩),.agg #[.int .i64 i.op,.int .i64 i.a,.int .i64 i.b]] w (DoPost w K h m lo lc ls oo oc bs (midV m ls i s)):=by
 obtain ⟨op,ia,ib⟩:=i
 dsimp only at hop
 subst hop
 have hb1:Below w.heap.size w ((w.alloc (.cells #[.pointer (some ⟨K,0,none⟩)] 148)).alloc (.cells #[.int .i64 11,.int .i64 ia,.int .i64 ib] 42)):=by exact bE
 have hbx:=(Blk.new w #[.pointer (some ⟨K,0,none⟩)] 148).alloc (.cells #[.int .i64 11,.int .i64 ia,.int .i64 ib] 42)
 have hbi:Blk ((w.alloc (.cells #[.pointer (some ⟨K,0,none⟩)] 148)).alloc (.cells #[.int .i64 11,.int .i64 ia,.int .i64 ib] 42)) (w.heap.size+1) #[.int .i64 11,.int .i64 ia,.int .i64 ib] 42:=Blk.new' (w:=w.alloc (.cells #[.pointer (some ⟨K,0,none⟩)] 148)) _ _ (by simp)
 have kl:=Blk.lt H.ck
 have H1:=H.old hb1
 have HD:=Lib.hid (do_mid (i:=⟨11,ia,ib⟩) HW H1 hd 2 1 184 #[.pointer (some ⟨w.heap.size,0,none⟩)] (cv21 (by simp)) (by decide) (by decide) (fun _ _=>rfl) (fun l hl hdr w1 to' tc hu hck hown=>by
  obtain ⟨a,b,rfl⟩:=two_of hl
  have hx1:=Blk.upd hbx hu (by omega) (by omega)
  by_cases hA:a=tInt
  ·refine (simple4_yes K h m _ _ _ a b 0 0 0 to' tc _ w.heap.size 0 w1 hck hx1 hown hA).mono ?_
   exact fun r w2 hp=>hp.imp fun out e' hq=>by obtain ⟨h1,h2⟩:=hq;rw [h1,h2];exact res_6y (by simp) hA
  ·refine (simple4_no K h m _ _ _ a b 0 0 0 to' tc _ w.heap.size 0 w1 hck hx1 hown hA).mono ?_
   exact fun r w2 hp=>hp.imp fun out e' hq=>by obtain ⟨h1,h2⟩:=hq;rw [h1,h2];exact res_6n (by simp) hA))
 exact k16
theorem s_13 (hop:i.op=13):
  Calls Tryz.prog 131 #[.pointer (some ⟨K,0,none⟩),.agg #[.int .i64 i.op,.int .i64 i.a,.int .i64 i.b]] w (DoPost w K h m lo lc ls oo oc bs (midV m ls i s)):=by
 obtain ⟨op,ia,ib⟩:=i
 dsimp only at hop
 subst hop
 have hb1:Below w.heap.size w ((w.alloc (.cells #[.pointer (some ⟨K,0,none⟩)] 148)).alloc (.cells #[.int .i64 13,.int .i64 ia,.int .i64 ib] 42)):=by exact bE
 have hbx:=(Blk.new w #[.pointer (some ⟨K,0,none⟩)] 148).alloc (.cells #[.int .i64 13,.int .i64 ia,.int .i64 ib] 42)
 have hbi:Blk ((w.alloc (.cells #[.pointer (some ⟨K,0,none⟩)] 148)).alloc (.cells #[.int .i64 13,.int .i64 ia,.int .i64 ib] 42)) (w.heap.size+1) #[.int .i64 13,.int .i64 ia,.int .i64 ib] 42:=Blk.new' (w:=w.alloc (.cells #[.pointer (some ⟨K,0,none⟩)] 148)) _ _ (by simp)
 have kl:=Blk.lt H.ck
 have H1:=H.old hb1
 have HD:=Lib.hid (do_mid (i:=⟨13,ia,ib⟩) HW H1 hd 1 1 185 #[.pointer (some ⟨w.heap.size,0,none⟩)] (cv11 (.inl rfl)) (by decide) (by decide) (fun _ _=>rfl) (fun l hl hdr w1 to' tc hu hck hown=>by
  obtain ⟨a,rfl⟩:=one_of hl
  have ha:=HW.2 a (List.mem_of_mem_drop (by rw [hdr];simp))
  have hHM:∀ w',Upd K K w1 w'→ModAt w' h m:=fun w' hu'=>HM.old ((hu.trans hu').below H1.hb (Nat.le_refl _) H1.hK H1.hK)
  have hx1:=Blk.upd hbx hu (by omega) (by omega)
  have hi1:=Blk.upd hbi hu (by omega) (by omega)
  have hT:=H1.tl.upd hu H1.ck.noTy H1.ck.noTy
  refine (simple5_any K h m _ _ _ a 0 0 0 to' tc _ w.heap.size 0 w1 hck hx1 hown).mono ?_
  exact fun r w2 hp=>hp.imp fun out e' hq=>by obtain ⟨h1,h2⟩:=hq;rw [h1,h2];exact res_13 rfl))
 exact k16
theorem s_27 (hop:i.op=27):
  Calls Tryz.prog 131 #[.pointer (some ⟨K,0,none⟩),.agg #[.int .i64 i.op,.int .i64 i.a,.int .i64 i.b]] w (DoPost w K h m lo lc ls oo oc bs (midV m ls i s)):=by
 obtain ⟨op,ia,ib⟩:=i
 dsimp only at hop
 subst hop
 have hb1:Below w.heap.size w ((w.alloc (.cells #[.pointer (some ⟨K,0,none⟩)] 148)).alloc (.cells #[.int .i64 27,.int .i64 ia,.int .i64 ib] 42)):=by exact bE
 have hbx:=(Blk.new w #[.pointer (some ⟨K,0,none⟩)] 148).alloc (.cells #[.int .i64 27,.int .i64 ia,.int .i64 ib] 42)
 have hbi:Blk ((w.alloc (.cells #[.pointer (some ⟨K,0,none⟩)] 148)).alloc (.cells #[.int .i64 27,.int .i64 ia,.int .i64 ib] 42)) (w.heap.size+1) #[.int .i64 27,.int .i64 ia,.int .i64 ib] 42:=Blk.new' (w:=w.alloc (.cells #[.pointer (some ⟨K,0,none⟩)] 148)) _ _ (by simp)
 have kl:=Blk.lt H.ck
 have H1:=H.old hb1
 have HD:=Lib.hid (do_mid (i:=⟨27,ia,ib⟩) HW H1 hd 1 0 186 #[.pointer (some ⟨w.heap.size,0,none⟩)] (cv10 (by simp)) (by decide) (by decide) (fun _ _=>rfl) (fun l hl hdr w1 to' tc hu hck hown=>by
  obtain ⟨a,rfl⟩:=one_of hl
  have ha:=HW.2 a (List.mem_of_mem_drop (by rw [hdr];simp))
  have hHM:∀ w',Upd K K w1 w'→ModAt w' h m:=fun w' hu'=>HM.old ((hu.trans hu').below H1.hb (Nat.le_refl _) H1.hK H1.hK)
  have hx1:=Blk.upd hbx hu (by omega) (by omega)
  have hi1:=Blk.upd hbi hu (by omega) (by omega)
  have hT:=H1.tl.upd hu H1.ck.noTy H1.ck.noTy
  refine (simple6_any K h m _ _ _ a 0 0 0 to' tc _ w.heap.size 0 w1 hck hx1 hown).mono ?_
  exact fun r w2 hp=>hp.imp fun out e' hq=>by obtain ⟨h1,h2⟩:=hq;rw [h1,h2];exact res_27 (.inl rfl)))
 exact k16
theorem s_1 (hop:i.op=1):
  Calls Tryz.prog 131 #[.pointer (some ⟨K,0,none⟩),.agg #[.int .i64 i.op,.int .i64 i.a,.int .i64 i.b]] w (DoPost w K h m lo lc ls oo oc bs (midV m ls i s)):=by
 obtain ⟨op,ia,ib⟩:=i
 dsimp only at hop
 subst hop
 have hb1:Below w.heap.size w ((w.alloc (.cells #[.pointer (some ⟨K,0,none⟩)] 148)).alloc (.cells #[.int .i64 1,.int .i64 ia,.int .i64 ib] 42)):=by exact bE
 have hbx:=(Blk.new w #[.pointer (some ⟨K,0,none⟩)] 148).alloc (.cells #[.int .i64 1,.int .i64 ia,.int .i64 ib] 42)
 have hbi:Blk ((w.alloc (.cells #[.pointer (some ⟨K,0,none⟩)] 148)).alloc (.cells #[.int .i64 1,.int .i64 ia,.int .i64 ib] 42)) (w.heap.size+1) #[.int .i64 1,.int .i64 ia,.int .i64 ib] 42:=Blk.new' (w:=w.alloc (.cells #[.pointer (some ⟨K,0,none⟩)] 148)) _ _ (by simp)
 have kl:=Blk.lt H.ck
 have H1:=H.old hb1
 have HB1:=Lib.hid hb1
 have HH:=Lib.hid H1
 have cc:=hbx.cell 0 (v:=.pointer (some ⟨K,0,none⟩)) rfl
 have i1:=hbi.cell 1 (v:=.int .i64 ia) rfl
 have hS:∀ w',Upd K K ((w.alloc (.cells #[.pointer (some ⟨K,0,none⟩)] 148)).alloc (.cells #[.int .i64 1,.int .i64 ia,.int .i64 ib] 42)) w'→(∃ L S O e,Ck w' K h m L S O e)→(fun w':World=>w'.cell? ⟨w.heap.size,0,none⟩=some (.pointer (some ⟨K,0,none⟩))) w':=fun w' hu hc=>hu.cell cc (by show w.heap.size≠K;omega) (by show w.heap.size≠K;omega)
 have HS:=Lib.hid hS
 have HHM:=Lib.hid HM
 obtain ⟨W1,hW1⟩:∃ W1,W1=((w.alloc (.cells #[.pointer (some ⟨K,0,none⟩)] 148)).alloc (.cells #[.int .i64 1,.int .i64 ia,.int .i64 ib] 42)):=⟨_,rfl⟩
 rw [←hW1] at HS HH HB1
 have HW1:=Lib.hid hW1
 have HHW:=Lib.hid HW
 have HI:=Lib.hid hi
 have HHm:=Lib.hid hm
 have HLo:=Lib.hid hlo
 clear hb1 hbx hbi H1 H HM hlo HW hi hm cc i1 hS hW1
 go_enter Tryz.func131,Tryz.ntmps131
 go_wp2_with fail
 refine rO (fun w':World=>w'.cell? ⟨w.heap.size,0,none⟩=some (.pointer (some ⟨K,0,none⟩))) (oL [0,101,102]) (HW1.out▸HS.out _ (Upd.refl K K W1).drew ⟨_,_,_,_,Ck.drew HH.out.ck⟩) ?_
 rw [←HW1.out]
 have HB2:=Lib.hid (show Below W1.heap.size W1 W1.drew by exact bE)
 repeat refine pO ?_
 refine oO fun Kv hK=>?_
 go_simp
 refine (number_any _).mono ?_
 rintro r w3 ⟨rfl,hb3⟩
 have HB3:=Lib.hid (bthen HB2.out hb3)
 refine hK _ _ ⟨HS.out _ (Upd.of HB3.out) ⟨_,_,_,_,HH.out.ck.old HB3.out⟩,?_⟩
 clear hK Kv hb3
 repeat refine pO ?_
 refine oO fun Kv hK=>?_
 go_simp
 refine (push_mid (i:=⟨1,ia,ib⟩) HHW.out (HH.out.old HB3.out) hd (tInt) (cv01 (by simp)) (pv1 rfl)).mono ?_
 exact k68
theorem s_12 (hop:i.op=12):
  Calls Tryz.prog 131 #[.pointer (some ⟨K,0,none⟩),.agg #[.int .i64 i.op,.int .i64 i.a,.int .i64 i.b]] w (DoPost w K h m lo lc ls oo oc bs (midV m ls i s)):=by
 obtain ⟨op,ia,ib⟩:=i
 dsimp only at hop
 subst hop
 have hb1:Below w.heap.size w ((w.alloc (.cells #[.pointer (some ⟨K,0,none⟩)] 148)).alloc (.cells #[.int .i64 12,.int .i64 ia,.int .i64 ib] 42)):=by exact bE
 have hbx:=(Blk.new w #[.pointer (some ⟨K,0,none⟩)] 148).alloc (.cells #[.int .i64 12,.int .i64 ia,.int .i64 ib] 42)
 have hbi:Blk ((w.alloc (.cells #[.pointer (some ⟨K,0,none⟩)] 148)).alloc (.cells #[.int .i64 12,.int .i64 ia,.int .i64 ib] 42)) (w.heap.size+1) #[.int .i64 12,.int .i64 ia,.int .i64 ib] 42:=Blk.new' (w:=w.alloc (.cells #[.pointer (some ⟨K,0,none⟩)] 148)) _ _ (by simp)
 have kl:=Blk.lt H.ck
 have H1:=H.old hb1
 have HD:=Lib.hid (push_mid (i:=⟨12,ia,ib⟩) HW H1 hd ⟨ia,ib⟩ (cv01 (by simp)) (pv12 rfl))
 have HB1:=Lib.hid hb1
 clear hb1 hbx hbi H1 H HM hlo HW hi hm
 go_enter Tryz.func131,Tryz.ntmps131
 exact k60
theorem s_2 (hop:i.op=2):
  Calls Tryz.prog 131 #[.pointer (some ⟨K,0,none⟩),.agg #[.int .i64 i.op,.int .i64 i.a,.int .i64 i.b]] w (DoPost w K h m lo lc ls oo oc bs (midV m ls i s)):=by
 obtain ⟨op,ia,ib⟩:=i
 dsimp only at hop
 subst hop
 have hb1:Below w.heap.size w ((w.alloc (.cells #[.pointer (some ⟨K,0,none⟩)] 148)).alloc (.cells #[.int .i64 2,.int .i64 ia,.int .i64 ib] 42)):=by exact bE
 have hbx:=(Blk.new w #[.pointer (some ⟨K,0,none⟩)] 148).alloc (.cells #[.int .i64 2,.int .i64 ia,.int .i64 ib] 42)
 have hbi:Blk ((w.alloc (.cells #[.pointer (some ⟨K,0,none⟩)] 148)).alloc (.cells #[.int .i64 2,.int .i64 ia,.int .i64 ib] 42)) (w.heap.size+1) #[.int .i64 2,.int .i64 ia,.int .i64 ib] 42:=Blk.new' (w:=w.alloc (.cells #[.pointer (some ⟨K,0,none⟩)] 148)) _ _ (by simp)
 have kl:=Blk.lt H.ck
 have H1:=H.old hb1
 have ha:=hi.a0 (by simp)
 dsimp only at ha
 have hl:=HW.1
 have hlen:=H.op.len
 have HCn:=Lib.hid (counts_any K h m (.slice lo ls.length lc) so s.stk.length sc oo oc bs 0 0 1 _ H1.ck (RowAt.of_own H1.op.own) (by omega) (by omega) (by omega) (by omega))
 have HB1:=Lib.hid hb1
 have HH:=Lib.hid H1
 have hbb:=baseB_eq H.op
 obtain ⟨q,hq⟩:∃ q,q=cntOk s.stk.length 0 1 (baseB bs):=⟨_,rfl⟩
 rw [←hq] at HCn
 have HQ:=Lib.hid hq
 have HBB:=Lib.hid hbb
 have HX:=Lib.hid (And.intro hbx hbi)
 have HNT:=Lib.hid H1.ck.noTy
 clear hb1 H HM hlo HW hi hm hbb hq hbx hbi H1
 rcases q with _|_
 ·go_enter Tryz.func131,Tryz.ntmps131
  go_wp2_with (go_at_call 180;refine HCn.out.mono ?_;rintro r w2 ⟨rfl,hc2,hu2⟩;have HU2:=Lib.hid hu2;have HC2:=Lib.hid hc2;clear hu2 hc2)
  go_end0
  refine DoPost.bel ⟨⟨_,rfl⟩,HU2.out,?_⟩ HB1.out
  have hm2:midV m ls ⟨2,ia,ib⟩ s=(12,s.stk):=by
   have h1:=HQ.out
   rw [HBB.out] at h1
   unfold midV
   rw [cv01 (by simp)]
   rw [if_pos (by
    have h2:=h1.symm
    simp only [cntOk,Bool.and_eq_false_iff,decide_eq_false_iff_not] at h2
    omega)]
  rw [hm2]
  exact ⟨so,sc,s.stk,HC2.out,HH.out.ts.upd HU2.out HNT.out HNT.out,by omega,fun h0=>by cases h0⟩
 ·go_enter Tryz.func131,Tryz.ntmps131
  go_upto_region 7 with fail
  go_wp2_with (go_at_call 180;refine HCn.out.mono ?_;rintro r w2 ⟨rfl,hc2,hu2⟩;have HU2:=Lib.hid hu2;have HC2:=Lib.hid (show Ck w2 K h m (.slice lo ls.length lc) (.slice so s.stk.length sc) (.slice oo bs.length oc) 0 from hc2);clear hu2 hc2;have cc:=(Blk.upd HX.out.1 HU2.out (by omega) (by omega)).cell 0 (v:=.pointer (some ⟨K,0,none⟩)) rfl;have i1:=(Blk.upd HX.out.2 HU2.out (by omega) (by omega)).cell 1 (v:=.int .i64 ia) rfl)
  have hsz:w.heap.size+1<w2.heap.size:=cell_lt i1
  have hS:∀ w',Upd K K w2 w'→(fun w':World=>w'.cell? ⟨w.heap.size,0,none⟩=some (.pointer (some ⟨K,0,none⟩))∧w'.cell? ⟨w.heap.size+1,1,none⟩=some (.int .i64 ia)) w':=fun w' hu=>⟨hu.cell cc (by show w.heap.size≠K;omega) (by show w.heap.size≠K;omega),hu.cell i1 (by show w.heap.size+1≠K;omega) (by show w.heap.size+1≠K;omega)⟩
  have HS:=Lib.hid hS
  obtain ⟨⟨uk,uc⟩,hu⟩:∃ x:Ty,x=ls.getD ia.toNat default:=⟨_,rfl⟩
  obtain ⟨lb,hlb⟩:∃ x:Bool,x=decide (ia<ls.length):=⟨_,rfl⟩
  have HLo:=Lib.hid (show ∀ w':World,Upd K K w2 w'→Ck w' K h m (.slice lo ls.length lc) (.slice so s.stk.length sc) (.slice oo bs.length oc) 0→Calls Tryz.prog 176 #[.pointer (some ⟨K,0,none⟩),.int .i64 ia] w' fun r w''=>r=.returned (.agg #[.int .i64 uk,.int .i64 uc])∧Ck w'' K h m (.slice lo ls.length lc) (.slice so s.stk.length sc) (.slice oo bs.length oc) (wantC 0 lb)∧Upd K K w' w'' from fun w' hu' hc=>by
   have:=local_any K h m (.slice so s.stk.length sc) (.slice oo bs.length oc) lo lc ls 0 ia w' hc ((HH.out.tl.upd HU2.out HNT.out HNT.out).upd hu' HC2.out.noTy HC2.out.noTy).1 ha
   rw [←hu,←hlb] at this
   exact this)
  have HPu:=Lib.hid (show ∀ w':World,Upd K K w2 w'→Ck w' K h m (.slice lo ls.length lc) (.slice so s.stk.length sc) (.slice oo bs.length oc) (wantC 0 lb)→Calls Tryz.prog 179 #[.pointer (some ⟨K,0,none⟩),.agg #[.int .i64 uk,.int .i64 uc]] w' fun r w''=>(∃ v,r=.returned v)∧Upd K K w' w''∧∃ so' sc',TyAt w'' so' sc' (s.stk++[⟨uk,uc⟩])∧Ck w'' K h m (.slice lo ls.length lc) (.slice so' (s.stk++[(⟨uk,uc⟩:Ty)]).length sc') (.slice oo bs.length oc) (wantC 0 lb) from fun w' hu' hc=>by
   have hop':=(HH.out.op.upd HU2.out HNT.out HH.out.ne).upd hu' HC2.out.noTy HH.out.ne
   refine (push_gen K h m (.slice lo ls.length lc) so sc s.stk oo oc bs (wantC 0 lb) ⟨uk,uc⟩ w' hc ((HH.out.ts.upd HU2.out HNT.out HNT.out).upd hu' HC2.out.noTy HC2.out.noTy) (by omega) (RowAt.of_own hop'.own) (by omega)).mono ?_
   rintro r w'' ⟨h1,h2,h3⟩
   refine ⟨h1,h2,?_⟩
   rcases h3 with ⟨h3,_⟩|⟨_,h3⟩
   ·have h9:=HQ.out;rw [h3] at h9;cases h9
   ·exact h3)
  have HLu:=Lib.hid hu
  have HLb:=Lib.hid hlb
  clear hS cc i1 hu hlb
  refine rO (fun w':World=>w'.cell? ⟨w.heap.size,0,none⟩=some (.pointer (some ⟨K,0,none⟩))∧w'.cell? ⟨w.heap.size+1,1,none⟩=some (.int .i64 ia)) (oL [0,1,2,3,104,105]) (HS.out _ (Upd.refl K K w2).drew) ?_
  repeat refine pO ?_
  refine oO fun Kv hK=>?_
  go_simp
  refine (HLo.out _ (Upd.refl K K w2).drew (Ck.drew HC2.out)).mono ?_
  rintro r w3 ⟨rfl,hc3,hu3⟩
  have HU3:=Lib.hid ((Upd.refl K K w2).drew.trans hu3)
  have HC3:=Lib.hid hc3
  refine hK _ _ ⟨HS.out _ HU3.out,?_⟩
  clear hK Kv hc3 hu3
  repeat refine pO ?_
  refine oO fun Kv hK=>?_
  go_simp
  refine (HPu.out _ HU3.out HC3.out).mono ?_
  rintro r w4 ⟨⟨v4,rfl⟩,hu4,hd4⟩
  have HU4:=Lib.hid (HU3.out.trans hu4)
  have HD4:=Lib.hid hd4
  refine hK _ _ ⟨HS.out _ HU4.out,?_⟩
  clear hK Kv hu4 hd4
  refine wpMixO_done ?_
  go_wp2
  go_end0
  refine DoPost.bel ⟨⟨_,rfl⟩,HU2.out.trans HU4.out,?_⟩ HB1.out
  obtain ⟨so',sc',ht,hc⟩:=HD4.out
  have hm2:midV m ls ⟨2,ia,ib⟩ s=if ia<ls.length then (0,s.stk++[⟨uk,uc⟩]) else (11,s.stk):=by
   have h1:=HQ.out
   rw [HBB.out] at h1
   unfold midV
   rw [cv01 (by simp),pv2 (by rfl)]
   rw [if_neg (by
    have h2:=h1.symm
    simp only [cntOk,Bool.and_eq_true,decide_eq_true_eq] at h2
    omega)]
   dsimp only
   by_cases hlt:ia<ls.length
   ·rw [if_pos hlt,getD_some (by omega),←HLu.out]
    simp
   ·rw [if_neg hlt,List.getElem?_eq_none (by omega)]
  rw [hm2]
  have hlb:=HLb.out
  by_cases hlt:ia<ls.length
  ·rw [if_pos hlt]
   rw [decide_eq_true hlt] at hlb
   subst hlb
   exact ⟨so',sc',_,hc,ht,by simp;omega,fun _=>rfl⟩
  ·rw [if_neg hlt]
   rw [decide_eq_false hlt] at hlb
   subst hlb
   exact ⟨so',sc',_,hc,ht,by simp;omega,fun h0=>by cases h0⟩
end
end
end Go.Proofs.YtfkbfjhocmbneaaGreat
