/- Joined texts. The first: verify: opening. -/
import Derived.Test.YtfkbfjhocmbneaaGreatG5
import Derived.Test.YtfkbfjhocmbneaaGreatG8
set_option linter.all false
set_option linter.unusedVariables false
set_option linter.unusedSimpArgs false
set_option maxRecDepth 100000
set_option maxHeartbeats 4000000
namespace Go.Proofs.YtfkbfjhocmbneaaGreat
theorem k3{p:Prop}(h:p:=by
 have q:∀ {p:Addr}{v:Value},w1.cell? p=some v→some p.block≠(Value.slice oo bs.length oc).ownBlock→w'.cell? p=some v:=fun hc hp=>(World.cell?_of_block (w:=w1) (hk _ (cell_lt hc) hp)).trans hc
 have nk:some K≠(Value.slice oo bs.length oc).ownBlock:=fun e=>by
  exact k91
 have nb:∀ b (t:TypeId) xs,Blk w1 b xs t→t≠190→some b≠(Value.slice oo bs.length oc).ownBlock:=fun b t xs hb ht e=>by
  cases oo with
  | none=>cases e
  | some a=>
   obtain ⟨g,cur,rfl,-,hg⟩:=HO1.out.blk rfl
   have e':b=g:=Option.some.inj e
   rw [←e',show w1.heap[b]?=_ from hb] at hg
   cases hg
   exact ht rfl
 have k5:=HC1.out.cells.2.2.2.2.2.2.1
 have k6:=HC1.out.cells.2.2.2.2.2.2.2.1
 exact ⟨q (HB.out.1.cell 0 rfl) (nb _ _ _ HB.out.1 (by decide)),q (HB.out.2.cell 0 rfl) (nb _ _ _ HB.out.2 (by decide)),q k6 nk,q k5 nk⟩):p:=h
theorem k10{p:Prop}(h:p:=by
 have hnk:some K≠(Value.slice oo bs.length oc).ownBlock:=fun e=>by
  exact k91
 have hc4:Blk w4 K _ 151:=(HG4.out.block K (Nat.lt_of_lt_of_le (Blk.lt HC1.out) HB4.out.size) hnk).trans (HC1.out.old HB4.out)
 exact hc4.frozen 6):p:=h
theorem k21{p:Prop}(h:p:=by
 have HB1:=Lib.hid hb1
 clear hW1 hb1 hX hwt
 go_wp2_with (go_at_call 177;refine HEq.out.mono ?_;rintro r w3 ⟨⟨v,rfl⟩,hc3,hu3⟩;have HC3:=Lib.hid hc3;have HU3:=Lib.hid hu3;clear hc3 hu3)
 have k6:=HC3.out.cells.2.2.2.2.2.2.2.1
 have f6:w3.frozen? ⟨K,6,none⟩=false:=Blk.frozen HC3.out 6
 have hlo3:¬ ((oc:Int) < (n:Int)):=by omega
 refine rE (fun w':World=>w'.cell? ⟨K,6,none⟩=some (.slice (some ad) ln oc)) 14 (oL [0,1,2,3,4,5,6,7,8,9,10,11,112,113]) k6 ?_
 repeat refine pE ?_
 refine oE fun Kv hK=>?_
 go_simp
 refine hK _ _ ⟨k6,?_⟩
 clear hK Kv
 refine oE fun Kv hK=>?_
 go_simp
 refine hK _ _ ⟨k6,?_⟩
 clear hK Kv
 refine sE fun Kv hK=>?_
 go_simp
 refine hK _ _ ?_
 clear hK Kv
 go_wp2
 go_end0
 exact HEE.out _ ((Upd.of HB1.out).trans HU3.out).drew (Ck.drew HC3.out) _):p:=h
theorem k27{p:Prop}(h:p:=by
 have hba:(⟨g,0,none⟩:Addr).add (br.length*4)=⟨g,br.length*4,none⟩:=by
  unfold Addr.add
  split
  ·rename_i q;rw [q]
  ·simp
 have hlen:=h.1
 rw [List.length_append,hf] at hlen
 have hl4:(Cells.cells b).length=4:=rfl
 have hn:n=br.length+1:=by omega
 have hc:∀ j,j<4→w.cell? ⟨g,br.length*4+j,none⟩=(Cells.cells b)[j]?:=fun j hj=>by
  rw [h.cellAt (br.length*4+j) (by omega),List.getElem?_append_right (by omega),hf]
  congr 1
  omega
 refine ⟨_,rfl,hba,?_,?_,?_,?_,fun j=>h.frozenAt j⟩
 ·rw [hba];exact hc 0 (by omega)
 ·rw [hba];exact hc 1 (by omega)
 ·rw [hba];exact hc 2 (by omega)
 ·rw [hba];exact hc 3 (by omega)):p:=h
theorem k36{p:Prop}(h:p:=by
 obtain rfl:j=bs.length:=by omega
 rw [show (bs++[(⟨i.op,bo,st.length,bc,none,0,0,false⟩:VB)]).getD bs.length default=⟨i.op,bo,st.length,bc,none,0,0,false⟩ by simp,show (s.opn++[(⟨i.op,st,[],false⟩:Opn)]).getD bs.length default=⟨i.op,st,[],false⟩ by rw [H.op.len];simp]
 exact ⟨rfl,rfl,rfl,rfl,hcl.upd (hu4.trans hu5) hc2.noTy hno2,TyAt.nil _⟩):p:=h
theorem k48{p:Prop}(h:p:=by
 have h1:=(H.at_ j (by rw [hb];simp;omega)).upd hu hK hB
 rw [hs,hb] at h1
 rwa [show (br++[b]).getD j default=br.getD j default by simp [List.getElem?_append_left hj],show (r++[o]).getD j default=r.getD j default by simp [List.getElem?_append_left (show j<r.length by omega)]] at h1):p:=h
theorem k49{p:Prop}(h:p:=by
 cases oo with
 | none=>exact H.hK
 | some a=>obtain ⟨g,cur,rfl,hb,_⟩:=H.op.blk rfl;exact hb):p:=h
theorem k52{p:Prop}(h:p:=by
 have hl:=H.op.len
 rw [hs] at hl
 simp only [List.length_append,List.length_cons,List.length_nil] at hl
 have hne:bs≠[]:=by intro h;rw [h] at hl;simp at hl
 refine ⟨bs.dropLast,bs.getLast hne,(List.dropLast_concat_getLast hne).symm,by simp;omega⟩):p:=h
theorem k54{p:Prop}(h:p:=by
 rw [hlen,flatR_append,flatR_one]
 refine ownsRow_setCell_other hown4 ?_ _
 intro e
 rcases hown4.2 with ⟨_,hn⟩|⟨g,c,cur,hv,hb,hg,_⟩
 ·omega
 ·cases hv
  have e':g=K:=Option.some.inj e
  rw [e',show w4.heap[K]?=_ from hc4] at hg
  cases hg):p:=h
theorem k65{p:Prop}(h:p:=by
 refine ⟨g,rfl,H.ne _ rfl,hbb,(Array.getElem?_eq_some_iff.1 hg).1,hnt,hle,?_⟩
 have h2:=hown
 rw [show flatR bs=flatR br++Cells.cells b by rw [hb,flatR_append,flatR_one]] at h2
 exact h2):p:=h
theorem k72{p:Prop}(h:p:=by
 unfold midV
 rw [cvx (by simp),pvx (by simp),if_neg (by dsimp only;omega)]
 simp):p:=h
theorem k73{p:Prop}(h:p:=by
 refine ⟨h1.old hb,h2,fun a hx=>?_⟩
 obtain ⟨xs,z,hz⟩:=h3 a hx
 exact ⟨xs,z,(hb.block _ (Array.getElem?_eq_some_iff.1 hz).1).trans hz⟩):p:=h
theorem k75{p:Prop}(h:p:=by
 have h1:=HWt.out
 rw [←HMi.out] at h1
 simpa using h1):p:=h
theorem k80{p:Prop}(h:p:=by
 rw [hg4.block K hKw (fun e=>by
  rcases hneK with q|q
  ·exact q (row_own K oo _ _ K e.symm)
  ·subst q;cases e)]
 exact hc2):p:=h
theorem k91{p:Prop}(h:p:=by
 have h1:=row_own K oo _ _ K e.symm
 cases oo with
 | none=>cases e
 | some a=>exact HH.out.ne a rfl h1.symm):p:=h
section
open Go.RowKit
theorem elVb:El Tryz.prog 149 190 4 64:=El.mk' (z:=.agg #[.int .i64 0,.slice none 0 0,.slice none 0 0,.bool false]) Tryz.underlying149 (by kernel_rfl) (by kernel_rfl) (by decide)
theorem Upd.grown {K B:Nat}{a b c:World}{row:Option Nat} (h:Upd K B a b) (hg:b.grownBy c row) (hr:∀ k,row=some k→k=B∨a.heap.size≤k):Upd K B a c:=
 ⟨hg.os.trans h.os,hg.tape.trans h.tape,hg.output.trans h.output,Nat.le_trans h.size hg.size,fun k hk h1 h2=>(hg.block k (Nat.lt_of_lt_of_le hk h.size) (fun e=>by rcases hr k e.symm with q|q<;>omega)).trans (h.block k hk h1 h2)⟩
def vbL (op:Int) (bo:Option Addr) (n bc:Nat):List Value:=[.int .i64 op,.slice bo n bc,.slice none 0 0,.bool false]
theorem row_own (K:Nat) (oo:Option Addr) (n c:Nat):∀ k,(Value.slice oo n c).ownBlock=some k→k=oblk K oo:=by
 intro k hk
 cases oo with
 | none=>cases hk
 | some a=>cases hk;rfl
section
variable {w0 w:World}{K:Nat}{h:Hd}{m:Md}{lo:Option Addr}{lc:Nat}{ls:List Ty}{s:Ps}{so:Option Addr}{sc:Nat}{oo:Option Addr}{oc:Nat}{bs:List VB}{i:In3}
include w0 w K h m lo lc ls s so sc oo oc bs i
theorem open_end (H:St w0 w K h m lo lc ls s so sc oo oc bs) (h1:i.op≠34) (h2:i.op≠35) (h3:opensV i.op=true) {w1 w2 w4:World} {so':Option Addr} {sc':Nat} {st:List Ty} (hu:Upd K K w w1) (hc:Ck w1 K h m (.slice lo ls.length lc) (.slice so' st.length sc') (.slice oo bs.length oc) (midV m ls i s).1) (ht:TyAt w1 so' sc' st) (he:(midV m ls i s).1=0→st=(midV m ls i s).2) (hb2:Below w1.heap.size w1 w2) {bo:Option Addr} {bc:Nat} (hcl:TyAt w2 bo bc st) {ao2:Option Addr} {cap2:Nat} (hown4:w4.ownsRow w0.heap.size 190 4 (.slice ao2 (bs.length+1) cap2) (bs.length+1) (flatR bs++vbL i.op bo st.length bc)) (hg4:w2.grownBy w4 (Value.slice oo bs.length oc).ownBlock) (v:Value):
  StepPost w0 w K h m lo lc ls oo (stepV m ls i s) (.returned v) (w4.setCell ⟨K,6,none⟩ (.slice ao2 (bs.length+1) cap2)):=by
 have hu2:Upd K K w w2:=hu.bel hb2
 have hO2:=H.op.upd hu2 H.ck.noTy H.ne
 have hc2:=hc.old hb2
 have hno2:=hO2.noTy hc2.noTy
 have hneK:K≠oblk K oo∨oo=none:=by
  cases oo with
  | none=>exact .inr rfl
  | some a=>exact .inl (fun q=>H.ne a rfl q.symm)
 have hu4:Upd K (oblk K oo) w2 w4:=(Upd.refl K (oblk K oo) w2).grown hg4 (fun k hk=>.inl (row_own K oo _ _ k hk))
 have hKw:K<w2.heap.size:=Blk.lt hc2
 have hc4:Ck w4 K h m (.slice lo ls.length lc) (.slice so' st.length sc') (.slice oo bs.length oc) (midV m ls i s).1:=by
  unfold Ck Blk
  exact k80
 have hu5:Upd K (oblk K oo) w4 (w4.setCell ⟨K,6,none⟩ (.slice ao2 (bs.length+1) cap2)):=(Upd.refl K _ w4).set 6 _
 have hall:Upd K (oblk K oo) w (w4.setCell ⟨K,6,none⟩ (.slice ao2 (bs.length+1) cap2)):=(hu2.more.trans hu4).trans hu5
 have hnoO:=H.op.noTy H.ck.noTy
 have hN:w0.heap.size≤oblk K oo:=by
  exact k49
 refine ⟨⟨v,rfl⟩,hall,?_⟩
 rw [stepV_mid h1 h2,h3]
 by_cases h0:(midV m ls i s).1=0
 ·refine .inl ⟨h0,so',sc',ao2,cap2,bs++[⟨i.op,bo,st.length,bc,none,0,0,false⟩],?_⟩
  simp only [if_pos h0,if_true]
  have hst:=he h0
  rw [←hst]
  have hlen:(bs++[(⟨i.op,bo,st.length,bc,none,0,0,false⟩:VB)]).length=bs.length+1:=by simp
  refine ⟨?_,?_,⟨?_,by simp [H.op.len],fun j hj=>?_⟩,H.tl.upd hall H.ck.noTy hnoO,hall.below H.hb (Nat.le_refl _) H.hK hN,H.hK⟩
  ·rw [hlen]
   rw [h0] at hc4
   exact hc4.setO _
  ·exact (ht.upd (Upd.of (K:=K) (B:=K) hb2) hc.noTy hc.noTy).upd (hu4.trans hu5) hc2.noTy hno2
  ·exact k54
  ·rw [hlen] at hj
   by_cases hjl:j<bs.length
   ·have hb:=H.op.at_ j hjl
    have hjo:j<s.opn.length:=by rw [←H.op.len];exact hjl
    rw [show (bs++[(⟨i.op,bo,st.length,bc,none,0,0,false⟩:VB)]).getD j default=bs.getD j default by simp [List.getElem?_append_left hjl],show (s.opn++[(⟨i.op,st,[],false⟩:Opn)]).getD j default=s.opn.getD j default by simp [List.getElem?_append_left hjo]]
    exact hb.upd hall H.ck.noTy hnoO
   ·exact k36
 ·exact .inr ⟨h0,_,_,hc4.setO _⟩
theorem o_29 {k:Nat} (hm:modV m=true) (hlo:∀ t∈ls,tyOk m t) (HW:stkOk m s.stk) (H:St w0 w K h m lo lc ls s so sc oo oc bs) (HM:ModAt w0 h m) (hd:s.opn.length≤6) (hi:OpdOk m k i) (hb:baseV s.opn≤s.stk.length) (hop:i.op=29):
  Calls Tryz.prog 128 #[.pointer (some ⟨K,0,none⟩),.agg #[.int .i64 i.op,.int .i64 i.a,.int .i64 i.b]] w (StepPost w0 w K h m lo lc ls oo (stepV m ls i s)):=by
 obtain ⟨op,ia,ib⟩:=i
 dsimp only at hop
 subst hop
 have hb1:Below w.heap.size w ((w.alloc (.cells #[.pointer (some ⟨K,0,none⟩)] 148)).alloc (.cells #[.int .i64 29,.int .i64 ia,.int .i64 ib] 42)):=by exact bE
 have hbx:=(Blk.new w #[.pointer (some ⟨K,0,none⟩)] 148).alloc (.cells #[.int .i64 29,.int .i64 ia,.int .i64 ib] 42)
 have hbi:Blk ((w.alloc (.cells #[.pointer (some ⟨K,0,none⟩)] 148)).alloc (.cells #[.int .i64 29,.int .i64 ia,.int .i64 ib] 42)) (w.heap.size+1) #[.int .i64 29,.int .i64 ia,.int .i64 ib] 42:=Blk.new' (w:=w.alloc (.cells #[.pointer (some ⟨K,0,none⟩)] 148)) _ _ (by simp)
 have kl:=Blk.lt H.ck
 have H1:=H.old hb1
 have hst:=HW.1
 have HD:=Lib.hid (do_mid (i:=⟨29,ia,ib⟩) HW H1 hd 1 0 172 #[.pointer (some ⟨w.heap.size,0,none⟩)] (cv10 (by simp)) (by decide) (by decide) (fun _ _=>rfl) (fun l hl hdr w1 to' tc hu hck hown=>by
  obtain ⟨a,rfl⟩:=one_of hl
  have ha:=HW.2 a (List.mem_of_mem_drop (by rw [hdr];simp))
  have hHM:∀ w',Upd K K w1 w'→ModAt w' h m:=fun w' hu'=>HM.old ((hu.trans hu').below H1.hb (Nat.le_refl _) H1.hK H1.hK)
  have hx1:=Blk.upd hbx hu (by omega) (by omega)
  have hi1:=Blk.upd hbi hu (by omega) (by omega)
  have hT:=H1.tl.upd hu H1.ck.noTy H1.ck.noTy
  refine (opening1_any K h m _ _ _ a 0 0 0 to' tc _ w.heap.size 0 w1 hck hx1 hown).mono ?_
  exact fun r w2 hp=>hp.imp fun out e' hq=>by obtain ⟨h1,h2⟩:=hq;rw [h1,h2];exact res_27 (.inr rfl)))
 have HB1:=Lib.hid hb1
 have HH:=Lib.hid H
 have HH1:=Lib.hid H1
 have HBx:=Lib.hid (And.intro hbx hbi)
 clear hb1 hbx hbi H1 H HM hlo HW hi hm hb
 go_enter Tryz.func128,Tryz.ntmps128
 go_upto_region 6 with (go_at_call 171;refine HD.out.mono ?_;rintro r w1 ⟨⟨v,rfl⟩,hu2,so',sc',st,hc1,ht1,hl1,he1⟩;have HU2:=Lib.hid hu2;have HC1:=Lib.hid hc1;have HT1:=Lib.hid ht1;have HL1:=Lib.hid hl1;have HE1:=Lib.hid he1;clear hu2 hc1 ht1 hl1 he1)
 have HU1:=Lib.hid ((Upd.of (K:=K) (B:=K) HB1.out).trans HU2.out)
 have HB:=Lib.hid (And.intro (HBx.out.1.upd HU2.out (by omega) (by omega)) (HBx.out.2.upd HU2.out (by omega) (by omega)))
 have HO1:=Lib.hid (HH.out.op.upd HU1.out HH.out.ck.noTy HH.out.ne)
 have hS:∀ w',w1.heap.size≤w'.heap.size→(∀ k,k<w1.heap.size→some k≠(Value.slice oo bs.length oc).ownBlock→w'.heap[k]?=w1.heap[k]?)→(fun w':World=>w'.cell? ⟨w.heap.size,0,none⟩=some (.pointer (some ⟨K,0,none⟩))∧w'.cell? ⟨w.heap.size+1,0,none⟩=some (.int .i64 29)∧w'.cell? ⟨K,6,none⟩=some (.slice oo bs.length oc)∧w'.cell? ⟨K,5,none⟩=some (.slice so' st.length sc')) w':=fun w' hz hk=>by
  exact k3
 have HS:=Lib.hid hS
 clear hS
 have HClo:=Lib.hid (show ∀ w',Below w1.heap.size w1 w'→Calls Tryz.prog 127 #[.slice so' st.length sc'] w' (RetOwn 35 w' st) from fun w' hb'=>clT_any w' so' sc' st (HT1.out.1.old hb') (by have:=HL1.out;omega))
 have hbs:bs.length≤6:=by have:=HH.out.op.len;omega
 go_wp2_with fail
 refine rE (fun w':World=>w'.cell? ⟨w.heap.size,0,none⟩=some (.pointer (some ⟨K,0,none⟩))∧w'.cell? ⟨w.heap.size+1,0,none⟩=some (.int .i64 29)∧w'.cell? ⟨K,6,none⟩=some (.slice oo bs.length oc)∧w'.cell? ⟨K,5,none⟩=some (.slice so' st.length sc')) 17 (oL [0,1,2,3,4,5,6,7,8,9,10,111,12,113,114,115,116]) (HS.out _ (Nat.le_refl _) (fun _ _ _=>rfl)) ?_
 have HB2:=Lib.hid (show Below w1.heap.size w1 w1.drew by exact bE)
 repeat refine pE ?_
 refine oE fun Kv hK=>?_
 go_simp
 refine (HClo.out _ HB2.out).mono ?_
 rintro r w2 ⟨⟨bo,bc,rfl,hown2⟩,hb2⟩
 have HB3:=Lib.hid (bthen HB2.out hb2)
 have HCl2:=Lib.hid (TyAt.own hown2)
 refine hK _ _ ⟨HS.out _ HB3.out.size (fun k hk _=>HB3.out.block k hk),?_⟩
 clear hK Kv hb2 hown2
 repeat refine pE ?_
 refine oE fun Kv hK=>?_
 go_simp
 have HB4:=Lib.hid (show Below w1.heap.size w1 (w2.alloc (.cells #[.int .i64 29,.slice bo st.length bc,.slice none 0 0,.bool false] 190)) from bal HB3.out _)
 refine hK _ _ ⟨HS.out _ HB4.out.size (fun k hk _=>HB4.out.block k hk),?_⟩
 clear hK Kv
 repeat refine pE ?_
 have HOw:=Lib.hid (show (w2.alloc (.cells #[.int .i64 29,.slice bo st.length bc,.slice none 0 0,.bool false] 190)).ownsRow w0.heap.size 190 4 (.slice oo bs.length oc) bs.length (flatR bs) from own_eqV HO1.out.own fun k hk=>HB4.out.block k (HO1.out.own.lt k hk).2)
 have HX:=Lib.hid (sla_blkV (n:=1) (size:=4) (Blk.new w2 #[.int .i64 29,.slice bo st.length bc,.slice none 0 0,.bool false] 190) rfl)
 have HZ:=Lib.hid (show w0.heap.size≤(w2.alloc (.cells #[.int .i64 29,.slice bo st.length bc,.slice none 0 0,.bool false] 190)).heap.size from by have:=HH.out.hb.size;have:=HU1.out.size;have:=HB4.out.size;omega)
 refine oE fun Kv hK=>?_
 refine wp_append_slx (.tmp 20) (.tmp 29) 149 rfl w0.heap.size 190 4 64 elVb _ bs.length _ rfl HOw.out _ 1 1 (vbL 29 bo st.length bc) rfl HX.out (by intro u hu;simp only [vbL,List.mem_cons,List.not_mem_nil,or_false] at hu;rcases hu with rfl|rfl|rfl|rfl<;>rfl) (by omega) (by unfold maxLen;omega) HZ.out ?_
 intro ao2 cap2 w4 hown4 hg4
 have HO4:=Lib.hid hown4
 have HG4:=Lib.hid hg4
 have hz4:=HG4.out.size
 refine hK _ _ ⟨HS.out _ (Nat.le_trans HB4.out.size hz4) (fun k hk hne=>(HG4.out.block k (Nat.lt_of_lt_of_le hk HB4.out.size) hne).trans (HB4.out.block k hk)),?_⟩
 clear hK Kv hown4 hg4
 have HS4:=Lib.hid (HS.out w4 (Nat.le_trans HB4.out.size hz4) (fun k hk hne=>(HG4.out.block k (Nat.lt_of_lt_of_le hk HB4.out.size) hne).trans (HB4.out.block k hk)))
 refine oE fun Kv hK=>?_
 go_simp
 refine hK _ _ ⟨HS4.out,?_⟩
 clear hK Kv
 refine oE fun Kv hK=>?_
 go_simp
 refine hK _ _ ⟨HS4.out,?_⟩
 clear hK Kv
 have k6:w4.cell? ⟨K,6,none⟩=some (.slice oo bs.length oc):=(HS.out w4 (Nat.le_trans HB4.out.size hz4) (fun k hk hne=>(HG4.out.block k (Nat.lt_of_lt_of_le hk HB4.out.size) hne).trans (HB4.out.block k hk))).2.2.1
 have f6:w4.frozen? ⟨K,6,none⟩=false:=by
  exact k10
 refine sE fun Kv hK=>?_
 go_simp
 refine hK _ _ ?_
 clear hK Kv
 go_wp2
 go_end0
 exact open_end HH.out (by simp) (by simp) (by rfl) HU1.out HC1.out HT1.out HE1.out HB4.out (HCl2.out.upd (Upd.of (K:=K) (B:=K) (show Below w2.heap.size w2 (w2.alloc (.cells #[.int .i64 29,.slice bo st.length bc,.slice none 0 0,.bool false] 190)) by exact bE)) (HC1.out.old HB3.out).noTy (HC1.out.old HB3.out).noTy) HO4.out HG4.out _
theorem o_30 {k:Nat} (hm:modV m=true) (hlo:∀ t∈ls,tyOk m t) (HW:stkOk m s.stk) (H:St w0 w K h m lo lc ls s so sc oo oc bs) (HM:ModAt w0 h m) (hd:s.opn.length≤6) (hi:OpdOk m k i) (hb:baseV s.opn≤s.stk.length) (hop:i.op=30):
  Calls Tryz.prog 128 #[.pointer (some ⟨K,0,none⟩),.agg #[.int .i64 i.op,.int .i64 i.a,.int .i64 i.b]] w (StepPost w0 w K h m lo lc ls oo (stepV m ls i s)):=by
 obtain ⟨op,ia,ib⟩:=i
 dsimp only at hop
 subst hop
 have hb1:Below w.heap.size w ((w.alloc (.cells #[.pointer (some ⟨K,0,none⟩)] 148)).alloc (.cells #[.int .i64 30,.int .i64 ia,.int .i64 ib] 42)):=by exact bE
 have hbx:=(Blk.new w #[.pointer (some ⟨K,0,none⟩)] 148).alloc (.cells #[.int .i64 30,.int .i64 ia,.int .i64 ib] 42)
 have hbi:Blk ((w.alloc (.cells #[.pointer (some ⟨K,0,none⟩)] 148)).alloc (.cells #[.int .i64 30,.int .i64 ia,.int .i64 ib] 42)) (w.heap.size+1) #[.int .i64 30,.int .i64 ia,.int .i64 ib] 42:=Blk.new' (w:=w.alloc (.cells #[.pointer (some ⟨K,0,none⟩)] 148)) _ _ (by simp)
 have kl:=Blk.lt H.ck
 have H1:=H.old hb1
 have hst:=HW.1
 have HD:=Lib.hid (do_mid (i:=⟨30,ia,ib⟩) HW H1 hd 1 0 175 #[.pointer (some ⟨w.heap.size,0,none⟩),.pointer (some ⟨w.heap.size+1,0,none⟩)] (cv10 (by simp)) (by decide) (by decide) (fun _ _=>rfl) (fun l hl hdr w1 to' tc hu hck hown=>by
  obtain ⟨a,rfl⟩:=one_of hl
  have ha:=HW.2 a (List.mem_of_mem_drop (by rw [hdr];simp))
  have hHM:∀ w',Upd K K w1 w'→ModAt w' h m:=fun w' hu'=>HM.old ((hu.trans hu').below H1.hb (Nat.le_refl _) H1.hK H1.hK)
  have hx1:=Blk.upd hbx hu (by omega) (by omega)
  have hi1:=Blk.upd hbi hu (by omega) (by omega)
  have hT:=H1.tl.upd hu H1.ck.noTy H1.ck.noTy
  by_cases hA:a=tInt
  ·refine (opening2_yes K h m _ _ _ a 30 ia ib to' tc _ w.heap.size (w.heap.size+1) w1 hck hx1 hi1 hown lo lc ls rfl hT hi.b0 hA).mono ?_
   exact fun r w2 hp=>hp.imp fun out e' hq=>by obtain ⟨h1,h2⟩:=hq;rw [h1,h2];exact res_30y hi.b0 rfl hA
  ·refine (opening2_no K h m _ _ _ a 30 ia ib to' tc _ w.heap.size (w.heap.size+1) w1 hck hx1 hi1 hown hA).mono ?_
   exact fun r w2 hp=>hp.imp fun out e' hq=>by obtain ⟨h1,h2⟩:=hq;rw [h1,h2];exact res_30n rfl hA))
 have HB1:=Lib.hid hb1
 have HH:=Lib.hid H
 have HH1:=Lib.hid H1
 have HBx:=Lib.hid (And.intro hbx hbi)
 clear hb1 hbx hbi H1 H HM hlo HW hi hm hb
 go_enter Tryz.func128,Tryz.ntmps128
 go_upto_region 6 with (go_at_call 171;refine HD.out.mono ?_;rintro r w1 ⟨⟨v,rfl⟩,hu2,so',sc',st,hc1,ht1,hl1,he1⟩;have HU2:=Lib.hid hu2;have HC1:=Lib.hid hc1;have HT1:=Lib.hid ht1;have HL1:=Lib.hid hl1;have HE1:=Lib.hid he1;clear hu2 hc1 ht1 hl1 he1)
 have HU1:=Lib.hid ((Upd.of (K:=K) (B:=K) HB1.out).trans HU2.out)
 have HB:=Lib.hid (And.intro (HBx.out.1.upd HU2.out (by omega) (by omega)) (HBx.out.2.upd HU2.out (by omega) (by omega)))
 have HO1:=Lib.hid (HH.out.op.upd HU1.out HH.out.ck.noTy HH.out.ne)
 have hS:∀ w',w1.heap.size≤w'.heap.size→(∀ k,k<w1.heap.size→some k≠(Value.slice oo bs.length oc).ownBlock→w'.heap[k]?=w1.heap[k]?)→(fun w':World=>w'.cell? ⟨w.heap.size,0,none⟩=some (.pointer (some ⟨K,0,none⟩))∧w'.cell? ⟨w.heap.size+1,0,none⟩=some (.int .i64 30)∧w'.cell? ⟨K,6,none⟩=some (.slice oo bs.length oc)∧w'.cell? ⟨K,5,none⟩=some (.slice so' st.length sc')) w':=fun w' hz hk=>by
  exact k3
 have HS:=Lib.hid hS
 clear hS
 have HClo:=Lib.hid (show ∀ w',Below w1.heap.size w1 w'→Calls Tryz.prog 127 #[.slice so' st.length sc'] w' (RetOwn 35 w' st) from fun w' hb'=>clT_any w' so' sc' st (HT1.out.1.old hb') (by have:=HL1.out;omega))
 have hbs:bs.length≤6:=by have:=HH.out.op.len;omega
 go_wp2_with fail
 refine rE (fun w':World=>w'.cell? ⟨w.heap.size,0,none⟩=some (.pointer (some ⟨K,0,none⟩))∧w'.cell? ⟨w.heap.size+1,0,none⟩=some (.int .i64 30)∧w'.cell? ⟨K,6,none⟩=some (.slice oo bs.length oc)∧w'.cell? ⟨K,5,none⟩=some (.slice so' st.length sc')) 17 (oL [0,1,2,3,4,5,6,7,8,9,10,111,12,113,114,115,116]) (HS.out _ (Nat.le_refl _) (fun _ _ _=>rfl)) ?_
 have HB2:=Lib.hid (show Below w1.heap.size w1 w1.drew by exact bE)
 repeat refine pE ?_
 refine oE fun Kv hK=>?_
 go_simp
 refine (HClo.out _ HB2.out).mono ?_
 rintro r w2 ⟨⟨bo,bc,rfl,hown2⟩,hb2⟩
 have HB3:=Lib.hid (bthen HB2.out hb2)
 have HCl2:=Lib.hid (TyAt.own hown2)
 refine hK _ _ ⟨HS.out _ HB3.out.size (fun k hk _=>HB3.out.block k hk),?_⟩
 clear hK Kv hb2 hown2
 repeat refine pE ?_
 refine oE fun Kv hK=>?_
 go_simp
 have HB4:=Lib.hid (show Below w1.heap.size w1 (w2.alloc (.cells #[.int .i64 30,.slice bo st.length bc,.slice none 0 0,.bool false] 190)) from bal HB3.out _)
 refine hK _ _ ⟨HS.out _ HB4.out.size (fun k hk _=>HB4.out.block k hk),?_⟩
 clear hK Kv
 repeat refine pE ?_
 have HOw:=Lib.hid (show (w2.alloc (.cells #[.int .i64 30,.slice bo st.length bc,.slice none 0 0,.bool false] 190)).ownsRow w0.heap.size 190 4 (.slice oo bs.length oc) bs.length (flatR bs) from own_eqV HO1.out.own fun k hk=>HB4.out.block k (HO1.out.own.lt k hk).2)
 have HX:=Lib.hid (sla_blkV (n:=1) (size:=4) (Blk.new w2 #[.int .i64 30,.slice bo st.length bc,.slice none 0 0,.bool false] 190) rfl)
 have HZ:=Lib.hid (show w0.heap.size≤(w2.alloc (.cells #[.int .i64 30,.slice bo st.length bc,.slice none 0 0,.bool false] 190)).heap.size from by have:=HH.out.hb.size;have:=HU1.out.size;have:=HB4.out.size;omega)
 refine oE fun Kv hK=>?_
 refine wp_append_slx (.tmp 20) (.tmp 29) 149 rfl w0.heap.size 190 4 64 elVb _ bs.length _ rfl HOw.out _ 1 1 (vbL 30 bo st.length bc) rfl HX.out (by intro u hu;simp only [vbL,List.mem_cons,List.not_mem_nil,or_false] at hu;rcases hu with rfl|rfl|rfl|rfl<;>rfl) (by omega) (by unfold maxLen;omega) HZ.out ?_
 intro ao2 cap2 w4 hown4 hg4
 have HO4:=Lib.hid hown4
 have HG4:=Lib.hid hg4
 have hz4:=HG4.out.size
 refine hK _ _ ⟨HS.out _ (Nat.le_trans HB4.out.size hz4) (fun k hk hne=>(HG4.out.block k (Nat.lt_of_lt_of_le hk HB4.out.size) hne).trans (HB4.out.block k hk)),?_⟩
 clear hK Kv hown4 hg4
 have HS4:=Lib.hid (HS.out w4 (Nat.le_trans HB4.out.size hz4) (fun k hk hne=>(HG4.out.block k (Nat.lt_of_lt_of_le hk HB4.out.size) hne).trans (HB4.out.block k hk)))
 refine oE fun Kv hK=>?_
 go_simp
 refine hK _ _ ⟨HS4.out,?_⟩
 clear hK Kv
 refine oE fun Kv hK=>?_
 go_simp
 refine hK _ _ ⟨HS4.out,?_⟩
 clear hK Kv
 have k6:w4.cell? ⟨K,6,none⟩=some (.slice oo bs.length oc):=(HS.out w4 (Nat.le_trans HB4.out.size hz4) (fun k hk hne=>(HG4.out.block k (Nat.lt_of_lt_of_le hk HB4.out.size) hne).trans (HB4.out.block k hk))).2.2.1
 have f6:w4.frozen? ⟨K,6,none⟩=false:=by
  exact k10
 refine sE fun Kv hK=>?_
 go_simp
 refine hK _ _ ?_
 clear hK Kv
 go_wp2
 go_end0
 exact open_end HH.out (by simp) (by simp) (by rfl) HU1.out HC1.out HT1.out HE1.out HB4.out (HCl2.out.upd (Upd.of (K:=K) (B:=K) (show Below w2.heap.size w2 (w2.alloc (.cells #[.int .i64 30,.slice bo st.length bc,.slice none 0 0,.bool false] 190)) by exact bE)) (HC1.out.old HB3.out).noTy (HC1.out.old HB3.out).noTy) HO4.out HG4.out _
theorem o_31 {k:Nat} (hm:modV m=true) (hlo:∀ t∈ls,tyOk m t) (HW:stkOk m s.stk) (H:St w0 w K h m lo lc ls s so sc oo oc bs) (HM:ModAt w0 h m) (hd:s.opn.length≤6) (hi:OpdOk m k i) (hb:baseV s.opn≤s.stk.length) (hop:i.op=31):
  Calls Tryz.prog 128 #[.pointer (some ⟨K,0,none⟩),.agg #[.int .i64 i.op,.int .i64 i.a,.int .i64 i.b]] w (StepPost w0 w K h m lo lc ls oo (stepV m ls i s)):=by
 obtain ⟨op,ia,ib⟩:=i
 dsimp only at hop
 subst hop
 have hb1:Below w.heap.size w ((w.alloc (.cells #[.pointer (some ⟨K,0,none⟩)] 148)).alloc (.cells #[.int .i64 31,.int .i64 ia,.int .i64 ib] 42)):=by exact bE
 have hbx:=(Blk.new w #[.pointer (some ⟨K,0,none⟩)] 148).alloc (.cells #[.int .i64 31,.int .i64 ia,.int .i64 ib] 42)
 have hbi:Blk ((w.alloc (.cells #[.pointer (some ⟨K,0,none⟩)] 148)).alloc (.cells #[.int .i64 31,.int .i64 ia,.int .i64 ib] 42)) (w.heap.size+1) #[.int .i64 31,.int .i64 ia,.int .i64 ib] 42:=Blk.new' (w:=w.alloc (.cells #[.pointer (some ⟨K,0,none⟩)] 148)) _ _ (by simp)
 have kl:=Blk.lt H.ck
 have H1:=H.old hb1
 have hst:=HW.1
 have hm2:midV m ls ⟨31,ia,ib⟩ s=(0,s.stk):=by
  exact k72
 have HB1:=Lib.hid hb1
 have HH:=Lib.hid H
 have HH1:=Lib.hid H1
 have HBx:=Lib.hid (And.intro hbx hbi)
 have HM2:=Lib.hid hm2
 clear hm2
 clear hb1 hbx hbi H1 H HM hlo HW hi hm hb
 go_enter Tryz.func128,Tryz.ntmps128
 go_upto_region 6 with fail
 obtain ⟨w1,hw1⟩:∃ w1,w1=((w.alloc (.cells #[.pointer (some ⟨K,0,none⟩)] 148)).alloc (.cells #[.int .i64 31,.int .i64 ia,.int .i64 ib] 42)):=⟨_,rfl⟩
 rw [←hw1] at HB1 HH1 HBx ⊢
 have HU1:=Lib.hid (Upd.of (K:=K) (B:=K) HB1.out)
 have HB:=HBx
 obtain ⟨so',hso⟩:∃ x,x=so:=⟨_,rfl⟩
 obtain ⟨sc',hsc⟩:∃ x,x=sc:=⟨_,rfl⟩
 obtain ⟨st,hst2⟩:∃ x,x=s.stk:=⟨_,rfl⟩
 have HC1:=Lib.hid (show Ck w1 K h m (.slice lo ls.length lc) (.slice so' st.length sc') (.slice oo bs.length oc) (midV m ls ⟨31,ia,ib⟩ s).1 from by rw [HM2.out,hso,hsc,hst2];exact HH1.out.ck)
 have HT1:=Lib.hid (show TyAt w1 so' sc' st from by rw [hso,hsc,hst2];exact HH1.out.ts)
 have HL1:=Lib.hid (show st.length≤2000 from by rw [hst2];omega)
 have HE1:=Lib.hid (show (midV m ls ⟨31,ia,ib⟩ s).1=0→st=(midV m ls ⟨31,ia,ib⟩ s).2 from fun _=>by rw [HM2.out,hst2])
 clear hso hsc hst2 hw1
 have HO1:=Lib.hid (HH.out.op.upd HU1.out HH.out.ck.noTy HH.out.ne)
 have hS:∀ w',w1.heap.size≤w'.heap.size→(∀ k,k<w1.heap.size→some k≠(Value.slice oo bs.length oc).ownBlock→w'.heap[k]?=w1.heap[k]?)→(fun w':World=>w'.cell? ⟨w.heap.size,0,none⟩=some (.pointer (some ⟨K,0,none⟩))∧w'.cell? ⟨w.heap.size+1,0,none⟩=some (.int .i64 31)∧w'.cell? ⟨K,6,none⟩=some (.slice oo bs.length oc)∧w'.cell? ⟨K,5,none⟩=some (.slice so' st.length sc')) w':=fun w' hz hk=>by
  exact k3
 have HS:=Lib.hid hS
 clear hS
 have HClo:=Lib.hid (show ∀ w',Below w1.heap.size w1 w'→Calls Tryz.prog 127 #[.slice so' st.length sc'] w' (RetOwn 35 w' st) from fun w' hb'=>clT_any w' so' sc' st (HT1.out.1.old hb') (by have:=HL1.out;omega))
 have hbs:bs.length≤6:=by have:=HH.out.op.len;omega
 go_wp2_with fail
 refine rE (fun w':World=>w'.cell? ⟨w.heap.size,0,none⟩=some (.pointer (some ⟨K,0,none⟩))∧w'.cell? ⟨w.heap.size+1,0,none⟩=some (.int .i64 31)∧w'.cell? ⟨K,6,none⟩=some (.slice oo bs.length oc)∧w'.cell? ⟨K,5,none⟩=some (.slice so' st.length sc')) 17 (oL [0,1,2,3,4,5,6,7,8,9,10,111,12,113,114,115,116]) (HS.out _ (Nat.le_refl _) (fun _ _ _=>rfl)) ?_
 have HB2:=Lib.hid (show Below w1.heap.size w1 w1.drew by exact bE)
 repeat refine pE ?_
 refine oE fun Kv hK=>?_
 go_simp
 refine (HClo.out _ HB2.out).mono ?_
 rintro r w2 ⟨⟨bo,bc,rfl,hown2⟩,hb2⟩
 have HB3:=Lib.hid (bthen HB2.out hb2)
 have HCl2:=Lib.hid (TyAt.own hown2)
 refine hK _ _ ⟨HS.out _ HB3.out.size (fun k hk _=>HB3.out.block k hk),?_⟩
 clear hK Kv hb2 hown2
 repeat refine pE ?_
 refine oE fun Kv hK=>?_
 go_simp
 have HB4:=Lib.hid (show Below w1.heap.size w1 (w2.alloc (.cells #[.int .i64 31,.slice bo st.length bc,.slice none 0 0,.bool false] 190)) from bal HB3.out _)
 refine hK _ _ ⟨HS.out _ HB4.out.size (fun k hk _=>HB4.out.block k hk),?_⟩
 clear hK Kv
 repeat refine pE ?_
 have HOw:=Lib.hid (show (w2.alloc (.cells #[.int .i64 31,.slice bo st.length bc,.slice none 0 0,.bool false] 190)).ownsRow w0.heap.size 190 4 (.slice oo bs.length oc) bs.length (flatR bs) from own_eqV HO1.out.own fun k hk=>HB4.out.block k (HO1.out.own.lt k hk).2)
 have HX:=Lib.hid (sla_blkV (n:=1) (size:=4) (Blk.new w2 #[.int .i64 31,.slice bo st.length bc,.slice none 0 0,.bool false] 190) rfl)
 have HZ:=Lib.hid (show w0.heap.size≤(w2.alloc (.cells #[.int .i64 31,.slice bo st.length bc,.slice none 0 0,.bool false] 190)).heap.size from by have:=HH.out.hb.size;have:=HU1.out.size;have:=HB4.out.size;omega)
 refine oE fun Kv hK=>?_
 refine wp_append_slx (.tmp 20) (.tmp 29) 149 rfl w0.heap.size 190 4 64 elVb _ bs.length _ rfl HOw.out _ 1 1 (vbL 31 bo st.length bc) rfl HX.out (by intro u hu;simp only [vbL,List.mem_cons,List.not_mem_nil,or_false] at hu;rcases hu with rfl|rfl|rfl|rfl<;>rfl) (by omega) (by unfold maxLen;omega) HZ.out ?_
 intro ao2 cap2 w4 hown4 hg4
 have HO4:=Lib.hid hown4
 have HG4:=Lib.hid hg4
 have hz4:=HG4.out.size
 refine hK _ _ ⟨HS.out _ (Nat.le_trans HB4.out.size hz4) (fun k hk hne=>(HG4.out.block k (Nat.lt_of_lt_of_le hk HB4.out.size) hne).trans (HB4.out.block k hk)),?_⟩
 clear hK Kv hown4 hg4
 have HS4:=Lib.hid (HS.out w4 (Nat.le_trans HB4.out.size hz4) (fun k hk hne=>(HG4.out.block k (Nat.lt_of_lt_of_le hk HB4.out.size) hne).trans (HB4.out.block k hk)))
 refine oE fun Kv hK=>?_
 go_simp
 refine hK _ _ ⟨HS4.out,?_⟩
 clear hK Kv
 refine oE fun Kv hK=>?_
 go_simp
 refine hK _ _ ⟨HS4.out,?_⟩
 clear hK Kv
 have k6:w4.cell? ⟨K,6,none⟩=some (.slice oo bs.length oc):=(HS.out w4 (Nat.le_trans HB4.out.size hz4) (fun k hk hne=>(HG4.out.block k (Nat.lt_of_lt_of_le hk HB4.out.size) hne).trans (HB4.out.block k hk))).2.2.1
 have f6:w4.frozen? ⟨K,6,none⟩=false:=by
  exact k10
 refine sE fun Kv hK=>?_
 go_simp
 refine hK _ _ ?_
 clear hK Kv
 go_wp2
 go_end0
 exact open_end HH.out (by simp) (by simp) (by rfl) HU1.out HC1.out HT1.out HE1.out HB4.out (HCl2.out.upd (Upd.of (K:=K) (B:=K) (show Below w2.heap.size w2 (w2.alloc (.cells #[.int .i64 31,.slice bo st.length bc,.slice none 0 0,.bool false] 190)) by exact bE)) (HC1.out.old HB3.out).noTy (HC1.out.old HB3.out).noTy) HO4.out HG4.out _
theorem o_32 {k:Nat} (hm:modV m=true) (hlo:∀ t∈ls,tyOk m t) (HW:stkOk m s.stk) (H:St w0 w K h m lo lc ls s so sc oo oc bs) (HM:ModAt w0 h m) (hd:s.opn.length≤6) (hi:OpdOk m k i) (hb:baseV s.opn≤s.stk.length) (hop:i.op=32):
  Calls Tryz.prog 128 #[.pointer (some ⟨K,0,none⟩),.agg #[.int .i64 i.op,.int .i64 i.a,.int .i64 i.b]] w (StepPost w0 w K h m lo lc ls oo (stepV m ls i s)):=by
 obtain ⟨op,ia,ib⟩:=i
 dsimp only at hop
 subst hop
 have hb1:Below w.heap.size w ((w.alloc (.cells #[.pointer (some ⟨K,0,none⟩)] 148)).alloc (.cells #[.int .i64 32,.int .i64 ia,.int .i64 ib] 42)):=by exact bE
 have hbx:=(Blk.new w #[.pointer (some ⟨K,0,none⟩)] 148).alloc (.cells #[.int .i64 32,.int .i64 ia,.int .i64 ib] 42)
 have hbi:Blk ((w.alloc (.cells #[.pointer (some ⟨K,0,none⟩)] 148)).alloc (.cells #[.int .i64 32,.int .i64 ia,.int .i64 ib] 42)) (w.heap.size+1) #[.int .i64 32,.int .i64 ia,.int .i64 ib] 42:=Blk.new' (w:=w.alloc (.cells #[.pointer (some ⟨K,0,none⟩)] 148)) _ _ (by simp)
 have kl:=Blk.lt H.ck
 have H1:=H.old hb1
 have hst:=HW.1
 have hm2:midV m ls ⟨32,ia,ib⟩ s=(0,s.stk):=by
  exact k72
 have HB1:=Lib.hid hb1
 have HH:=Lib.hid H
 have HH1:=Lib.hid H1
 have HBx:=Lib.hid (And.intro hbx hbi)
 have HM2:=Lib.hid hm2
 clear hm2
 clear hb1 hbx hbi H1 H HM hlo HW hi hm hb
 go_enter Tryz.func128,Tryz.ntmps128
 go_upto_region 6 with fail
 obtain ⟨w1,hw1⟩:∃ w1,w1=((w.alloc (.cells #[.pointer (some ⟨K,0,none⟩)] 148)).alloc (.cells #[.int .i64 32,.int .i64 ia,.int .i64 ib] 42)):=⟨_,rfl⟩
 rw [←hw1] at HB1 HH1 HBx ⊢
 have HU1:=Lib.hid (Upd.of (K:=K) (B:=K) HB1.out)
 have HB:=HBx
 obtain ⟨so',hso⟩:∃ x,x=so:=⟨_,rfl⟩
 obtain ⟨sc',hsc⟩:∃ x,x=sc:=⟨_,rfl⟩
 obtain ⟨st,hst2⟩:∃ x,x=s.stk:=⟨_,rfl⟩
 have HC1:=Lib.hid (show Ck w1 K h m (.slice lo ls.length lc) (.slice so' st.length sc') (.slice oo bs.length oc) (midV m ls ⟨32,ia,ib⟩ s).1 from by rw [HM2.out,hso,hsc,hst2];exact HH1.out.ck)
 have HT1:=Lib.hid (show TyAt w1 so' sc' st from by rw [hso,hsc,hst2];exact HH1.out.ts)
 have HL1:=Lib.hid (show st.length≤2000 from by rw [hst2];omega)
 have HE1:=Lib.hid (show (midV m ls ⟨32,ia,ib⟩ s).1=0→st=(midV m ls ⟨32,ia,ib⟩ s).2 from fun _=>by rw [HM2.out,hst2])
 clear hso hsc hst2 hw1
 have HO1:=Lib.hid (HH.out.op.upd HU1.out HH.out.ck.noTy HH.out.ne)
 have hS:∀ w',w1.heap.size≤w'.heap.size→(∀ k,k<w1.heap.size→some k≠(Value.slice oo bs.length oc).ownBlock→w'.heap[k]?=w1.heap[k]?)→(fun w':World=>w'.cell? ⟨w.heap.size,0,none⟩=some (.pointer (some ⟨K,0,none⟩))∧w'.cell? ⟨w.heap.size+1,0,none⟩=some (.int .i64 32)∧w'.cell? ⟨K,6,none⟩=some (.slice oo bs.length oc)∧w'.cell? ⟨K,5,none⟩=some (.slice so' st.length sc')) w':=fun w' hz hk=>by
  exact k3
 have HS:=Lib.hid hS
 clear hS
 have HClo:=Lib.hid (show ∀ w',Below w1.heap.size w1 w'→Calls Tryz.prog 127 #[.slice so' st.length sc'] w' (RetOwn 35 w' st) from fun w' hb'=>clT_any w' so' sc' st (HT1.out.1.old hb') (by have:=HL1.out;omega))
 have hbs:bs.length≤6:=by have:=HH.out.op.len;omega
 go_wp2_with fail
 refine rE (fun w':World=>w'.cell? ⟨w.heap.size,0,none⟩=some (.pointer (some ⟨K,0,none⟩))∧w'.cell? ⟨w.heap.size+1,0,none⟩=some (.int .i64 32)∧w'.cell? ⟨K,6,none⟩=some (.slice oo bs.length oc)∧w'.cell? ⟨K,5,none⟩=some (.slice so' st.length sc')) 17 (oL [0,1,2,3,4,5,6,7,8,9,10,111,12,113,114,115,116]) (HS.out _ (Nat.le_refl _) (fun _ _ _=>rfl)) ?_
 have HB2:=Lib.hid (show Below w1.heap.size w1 w1.drew by exact bE)
 repeat refine pE ?_
 refine oE fun Kv hK=>?_
 go_simp
 refine (HClo.out _ HB2.out).mono ?_
 rintro r w2 ⟨⟨bo,bc,rfl,hown2⟩,hb2⟩
 have HB3:=Lib.hid (bthen HB2.out hb2)
 have HCl2:=Lib.hid (TyAt.own hown2)
 refine hK _ _ ⟨HS.out _ HB3.out.size (fun k hk _=>HB3.out.block k hk),?_⟩
 clear hK Kv hb2 hown2
 repeat refine pE ?_
 refine oE fun Kv hK=>?_
 go_simp
 have HB4:=Lib.hid (show Below w1.heap.size w1 (w2.alloc (.cells #[.int .i64 32,.slice bo st.length bc,.slice none 0 0,.bool false] 190)) from bal HB3.out _)
 refine hK _ _ ⟨HS.out _ HB4.out.size (fun k hk _=>HB4.out.block k hk),?_⟩
 clear hK Kv
 repeat refine pE ?_
 have HOw:=Lib.hid (show (w2.alloc (.cells #[.int .i64 32,.slice bo st.length bc,.slice none 0 0,.bool false] 190)).ownsRow w0.heap.size 190 4 (.slice oo bs.length oc) bs.length (flatR bs) from own_eqV HO1.out.own fun k hk=>HB4.out.block k (HO1.out.own.lt k hk).2)
 have HX:=Lib.hid (sla_blkV (n:=1) (size:=4) (Blk.new w2 #[.int .i64 32,.slice bo st.length bc,.slice none 0 0,.bool false] 190) rfl)
 have HZ:=Lib.hid (show w0.heap.size≤(w2.alloc (.cells #[.int .i64 32,.slice bo st.length bc,.slice none 0 0,.bool false] 190)).heap.size from by have:=HH.out.hb.size;have:=HU1.out.size;have:=HB4.out.size;omega)
 refine oE fun Kv hK=>?_
 refine wp_append_slx (.tmp 20) (.tmp 29) 149 rfl w0.heap.size 190 4 64 elVb _ bs.length _ rfl HOw.out _ 1 1 (vbL 32 bo st.length bc) rfl HX.out (by intro u hu;simp only [vbL,List.mem_cons,List.not_mem_nil,or_false] at hu;rcases hu with rfl|rfl|rfl|rfl<;>rfl) (by omega) (by unfold maxLen;omega) HZ.out ?_
 intro ao2 cap2 w4 hown4 hg4
 have HO4:=Lib.hid hown4
 have HG4:=Lib.hid hg4
 have hz4:=HG4.out.size
 refine hK _ _ ⟨HS.out _ (Nat.le_trans HB4.out.size hz4) (fun k hk hne=>(HG4.out.block k (Nat.lt_of_lt_of_le hk HB4.out.size) hne).trans (HB4.out.block k hk)),?_⟩
 clear hK Kv hown4 hg4
 have HS4:=Lib.hid (HS.out w4 (Nat.le_trans HB4.out.size hz4) (fun k hk hne=>(HG4.out.block k (Nat.lt_of_lt_of_le hk HB4.out.size) hne).trans (HB4.out.block k hk)))
 refine oE fun Kv hK=>?_
 go_simp
 refine hK _ _ ⟨HS4.out,?_⟩
 clear hK Kv
 refine oE fun Kv hK=>?_
 go_simp
 refine hK _ _ ⟨HS4.out,?_⟩
 clear hK Kv
 have k6:w4.cell? ⟨K,6,none⟩=some (.slice oo bs.length oc):=(HS.out w4 (Nat.le_trans HB4.out.size hz4) (fun k hk hne=>(HG4.out.block k (Nat.lt_of_lt_of_le hk HB4.out.size) hne).trans (HB4.out.block k hk))).2.2.1
 have f6:w4.frozen? ⟨K,6,none⟩=false:=by
  exact k10
 refine sE fun Kv hK=>?_
 go_simp
 refine hK _ _ ?_
 clear hK Kv
 go_wp2
 go_end0
 exact open_end HH.out (by simp) (by simp) (by rfl) HU1.out HC1.out HT1.out HE1.out HB4.out (HCl2.out.upd (Upd.of (K:=K) (B:=K) (show Below w2.heap.size w2 (w2.alloc (.cells #[.int .i64 32,.slice bo st.length bc,.slice none 0 0,.bool false] 190)) by exact bE)) (HC1.out.old HB3.out).noTy (HC1.out.old HB3.out).noTy) HO4.out HG4.out _
theorem o_33 {k:Nat} (hm:modV m=true) (hlo:∀ t∈ls,tyOk m t) (HW:stkOk m s.stk) (H:St w0 w K h m lo lc ls s so sc oo oc bs) (HM:ModAt w0 h m) (hd:s.opn.length≤6) (hi:OpdOk m k i) (hb:baseV s.opn≤s.stk.length) (hop:i.op=33):
  Calls Tryz.prog 128 #[.pointer (some ⟨K,0,none⟩),.agg #[.int .i64 i.op,.int .i64 i.a,.int .i64 i.b]] w (StepPost w0 w K h m lo lc ls oo (stepV m ls i s)):=by
 obtain ⟨op,ia,ib⟩:=i
 dsimp only at hop
 subst hop
 have hb1:Below w.heap.size w ((w.alloc (.cells #[.pointer (some ⟨K,0,none⟩)] 148)).alloc (.cells #[.int .i64 33,.int .i64 ia,.int .i64 ib] 42)):=by exact bE
 have hbx:=(Blk.new w #[.pointer (some ⟨K,0,none⟩)] 148).alloc (.cells #[.int .i64 33,.int .i64 ia,.int .i64 ib] 42)
 have hbi:Blk ((w.alloc (.cells #[.pointer (some ⟨K,0,none⟩)] 148)).alloc (.cells #[.int .i64 33,.int .i64 ia,.int .i64 ib] 42)) (w.heap.size+1) #[.int .i64 33,.int .i64 ia,.int .i64 ib] 42:=Blk.new' (w:=w.alloc (.cells #[.pointer (some ⟨K,0,none⟩)] 148)) _ _ (by simp)
 have kl:=Blk.lt H.ck
 have H1:=H.old hb1
 have hst:=HW.1
 have hm2:midV m ls ⟨33,ia,ib⟩ s=(0,s.stk):=by
  exact k72
 have HB1:=Lib.hid hb1
 have HH:=Lib.hid H
 have HH1:=Lib.hid H1
 have HBx:=Lib.hid (And.intro hbx hbi)
 have HM2:=Lib.hid hm2
 clear hm2
 clear hb1 hbx hbi H1 H HM hlo HW hi hm hb
 go_enter Tryz.func128,Tryz.ntmps128
 go_upto_region 6 with fail
 obtain ⟨w1,hw1⟩:∃ w1,w1=((w.alloc (.cells #[.pointer (some ⟨K,0,none⟩)] 148)).alloc (.cells #[.int .i64 33,.int .i64 ia,.int .i64 ib] 42)):=⟨_,rfl⟩
 rw [←hw1] at HB1 HH1 HBx ⊢
 have HU1:=Lib.hid (Upd.of (K:=K) (B:=K) HB1.out)
 have HB:=HBx
 obtain ⟨so',hso⟩:∃ x,x=so:=⟨_,rfl⟩
 obtain ⟨sc',hsc⟩:∃ x,x=sc:=⟨_,rfl⟩
 obtain ⟨st,hst2⟩:∃ x,x=s.stk:=⟨_,rfl⟩
 have HC1:=Lib.hid (show Ck w1 K h m (.slice lo ls.length lc) (.slice so' st.length sc') (.slice oo bs.length oc) (midV m ls ⟨33,ia,ib⟩ s).1 from by rw [HM2.out,hso,hsc,hst2];exact HH1.out.ck)
 have HT1:=Lib.hid (show TyAt w1 so' sc' st from by rw [hso,hsc,hst2];exact HH1.out.ts)
 have HL1:=Lib.hid (show st.length≤2000 from by rw [hst2];omega)
 have HE1:=Lib.hid (show (midV m ls ⟨33,ia,ib⟩ s).1=0→st=(midV m ls ⟨33,ia,ib⟩ s).2 from fun _=>by rw [HM2.out,hst2])
 clear hso hsc hst2 hw1
 have HO1:=Lib.hid (HH.out.op.upd HU1.out HH.out.ck.noTy HH.out.ne)
 have hS:∀ w',w1.heap.size≤w'.heap.size→(∀ k,k<w1.heap.size→some k≠(Value.slice oo bs.length oc).ownBlock→w'.heap[k]?=w1.heap[k]?)→(fun w':World=>w'.cell? ⟨w.heap.size,0,none⟩=some (.pointer (some ⟨K,0,none⟩))∧w'.cell? ⟨w.heap.size+1,0,none⟩=some (.int .i64 33)∧w'.cell? ⟨K,6,none⟩=some (.slice oo bs.length oc)∧w'.cell? ⟨K,5,none⟩=some (.slice so' st.length sc')) w':=fun w' hz hk=>by
  exact k3
 have HS:=Lib.hid hS
 clear hS
 have HClo:=Lib.hid (show ∀ w',Below w1.heap.size w1 w'→Calls Tryz.prog 127 #[.slice so' st.length sc'] w' (RetOwn 35 w' st) from fun w' hb'=>clT_any w' so' sc' st (HT1.out.1.old hb') (by have:=HL1.out;omega))
 have hbs:bs.length≤6:=by have:=HH.out.op.len;omega
 go_wp2_with fail
 refine rE (fun w':World=>w'.cell? ⟨w.heap.size,0,none⟩=some (.pointer (some ⟨K,0,none⟩))∧w'.cell? ⟨w.heap.size+1,0,none⟩=some (.int .i64 33)∧w'.cell? ⟨K,6,none⟩=some (.slice oo bs.length oc)∧w'.cell? ⟨K,5,none⟩=some (.slice so' st.length sc')) 17 (oL [0,1,2,3,4,5,6,7,8,9,10,111,12,113,114,115,116]) (HS.out _ (Nat.le_refl _) (fun _ _ _=>rfl)) ?_
 have HB2:=Lib.hid (show Below w1.heap.size w1 w1.drew by exact bE)
 repeat refine pE ?_
 refine oE fun Kv hK=>?_
 go_simp
 refine (HClo.out _ HB2.out).mono ?_
 rintro r w2 ⟨⟨bo,bc,rfl,hown2⟩,hb2⟩
 have HB3:=Lib.hid (bthen HB2.out hb2)
 have HCl2:=Lib.hid (TyAt.own hown2)
 refine hK _ _ ⟨HS.out _ HB3.out.size (fun k hk _=>HB3.out.block k hk),?_⟩
 clear hK Kv hb2 hown2
 repeat refine pE ?_
 refine oE fun Kv hK=>?_
 go_simp
 have HB4:=Lib.hid (show Below w1.heap.size w1 (w2.alloc (.cells #[.int .i64 33,.slice bo st.length bc,.slice none 0 0,.bool false] 190)) from bal HB3.out _)
 refine hK _ _ ⟨HS.out _ HB4.out.size (fun k hk _=>HB4.out.block k hk),?_⟩
 clear hK Kv
 repeat refine pE ?_
 have HOw:=Lib.hid (show (w2.alloc (.cells #[.int .i64 33,.slice bo st.length bc,.slice none 0 0,.bool false] 190)).ownsRow w0.heap.size 190 4 (.slice oo bs.length oc) bs.length (flatR bs) from own_eqV HO1.out.own fun k hk=>HB4.out.block k (HO1.out.own.lt k hk).2)
 have HX:=Lib.hid (sla_blkV (n:=1) (size:=4) (Blk.new w2 #[.int .i64 33,.slice bo st.length bc,.slice none 0 0,.bool false] 190) rfl)
 have HZ:=Lib.hid (show w0.heap.size≤(w2.alloc (.cells #[.int .i64 33,.slice bo st.length bc,.slice none 0 0,.bool false] 190)).heap.size from by have:=HH.out.hb.size;have:=HU1.out.size;have:=HB4.out.size;omega)
 refine oE fun Kv hK=>?_
 refine wp_append_slx (.tmp 20) (.tmp 29) 149 rfl w0.heap.size 190 4 64 elVb _ bs.length _ rfl HOw.out _ 1 1 (vbL 33 bo st.length bc) rfl HX.out (by intro u hu;simp only [vbL,List.mem_cons,List.not_mem_nil,or_false] at hu;rcases hu with rfl|rfl|rfl|rfl<;>rfl) (by omega) (by unfold maxLen;omega) HZ.out ?_
 intro ao2 cap2 w4 hown4 hg4
 have HO4:=Lib.hid hown4
 have HG4:=Lib.hid hg4
 have hz4:=HG4.out.size
 refine hK _ _ ⟨HS.out _ (Nat.le_trans HB4.out.size hz4) (fun k hk hne=>(HG4.out.block k (Nat.lt_of_lt_of_le hk HB4.out.size) hne).trans (HB4.out.block k hk)),?_⟩
 clear hK Kv hown4 hg4
 have HS4:=Lib.hid (HS.out w4 (Nat.le_trans HB4.out.size hz4) (fun k hk hne=>(HG4.out.block k (Nat.lt_of_lt_of_le hk HB4.out.size) hne).trans (HB4.out.block k hk)))
 refine oE fun Kv hK=>?_
 go_simp
 refine hK _ _ ⟨HS4.out,?_⟩
 clear hK Kv
 refine oE fun Kv hK=>?_
 go_simp
 refine hK _ _ ⟨HS4.out,?_⟩
 clear hK Kv
 have k6:w4.cell? ⟨K,6,none⟩=some (.slice oo bs.length oc):=(HS.out w4 (Nat.le_trans HB4.out.size hz4) (fun k hk hne=>(HG4.out.block k (Nat.lt_of_lt_of_le hk HB4.out.size) hne).trans (HB4.out.block k hk))).2.2.1
 have f6:w4.frozen? ⟨K,6,none⟩=false:=by
  exact k10
 refine sE fun Kv hK=>?_
 go_simp
 refine hK _ _ ?_
 clear hK Kv
 go_wp2
 go_end0
 exact open_end HH.out (by simp) (by simp) (by rfl) HU1.out HC1.out HT1.out HE1.out HB4.out (HCl2.out.upd (Upd.of (K:=K) (B:=K) (show Below w2.heap.size w2 (w2.alloc (.cells #[.int .i64 33,.slice bo st.length bc,.slice none 0 0,.bool false] 190)) by exact bE)) (HC1.out.old HB3.out).noTy (HC1.out.old HB3.out).noTy) HO4.out HG4.out _
theorem opening_any {k:Nat} (hm:modV m=true) (hlo:∀ t∈ls,tyOk m t) (HW:stkOk m s.stk) (H:St w0 w K h m lo lc ls s so sc oo oc bs) (HM:ModAt w0 h m) (hd:s.opn.length≤6) (hi:OpdOk m k i) (hb:baseV s.opn≤s.stk.length) (hop:29≤i.op∧i.op≤33):
  Calls Tryz.prog 128 #[.pointer (some ⟨K,0,none⟩),.agg #[.int .i64 i.op,.int .i64 i.a,.int .i64 i.b]] w (StepPost w0 w K h m lo lc ls oo (stepV m ls i s)):=by
 have cls:i.op=29∨i.op=30∨i.op=31∨i.op=32∨i.op=33:=by omega
 rcases cls with q|q|q|q|q
 ·exact o_29 hm hlo HW H HM hd hi hb q
 ·exact o_30 hm hlo HW H HM hd hi hb q
 ·exact o_31 hm hlo HW H HM hd hi hb q
 ·exact o_32 hm hlo HW H HM hd hi hb q
 ·exact o_33 hm hlo HW H HM hd hi hb q
end
end
section
open Go.RowKit
theorem own_takeV {w:World}{base:Nat}{e:TypeId}{size g cap n:Nat}{xs:List Value} (h:w.ownsRow base e size (.slice (some ⟨g,0,none⟩) n cap) n xs) {m:Nat} (hm:m≤n):w.ownsRow base e size (.slice (some ⟨g,0,none⟩) m cap) m (xs.take (m*size)):=by
 obtain ⟨h1,h2⟩:=h
 have hms:m*size≤n*size:=Nat.mul_le_mul_right _ hm
 rcases h2 with ⟨h0,_⟩|⟨g',cap',cur,hv,hg,hh,hn,hcap,hsz,htake⟩
 ·cases h0
 ·cases hv
  refine ⟨by rw [List.length_take,h1];exact Nat.min_eq_left hms,.inr ⟨g,cap,cur,rfl,hg,hh,by omega,hcap,hsz,?_⟩⟩
  rw [←htake,List.take_take,Nat.min_eq_left hms]
theorem Upd.setB {K B:Nat}{a b:World} (h:Upd K B a b) (j:Nat) (v:Value):Upd K B a (b.setCell ⟨B,j,none⟩ v):=
 h.trans ⟨rfl,rfl,rfl,by simp [World.setCell],fun k _ _ h2=>Below.heap_setCell _ _ _ _ h2⟩
section
variable {w0 w:World}{K:Nat}{h:Hd}{m:Md}{lo:Option Addr}{lc:Nat}{ls:List Ty}{s:Ps}{so:Option Addr}{sc:Nat}{oo:Option Addr}{oc:Nat}{bs:List VB}{i:In3}{r:List Opn}{o:Opn}{br:List VB}{b:VB}
theorem St.last (H:St w0 w K h m lo lc ls s so sc oo oc bs) (hs:s.opn=r++[o]):∃ br b,bs=br++[b]∧br.length=r.length:=by
 exact k52
theorem St.top (H:St w0 w K h m lo lc ls s so sc oo oc bs) (hs:s.opn=r++[o]) (hb:bs=br++[b]) (hl:br.length=r.length):BrAt w b o∧∃ g,oo=some ⟨g,0,none⟩∧g≠K∧w0.heap.size≤g∧g<w.heap.size∧NoTy w g∧bs.length≤oc∧w.ownsRow w0.heap.size 190 4 (.slice (some ⟨g,0,none⟩) bs.length oc) bs.length (flatR br++Cells.cells b):=by
 have h1:=H.op.at_ br.length (by rw [hb];simp)
 rw [hs,hb] at h1
 rw [show (br++[b]).getD br.length default=b by simp,hl,show (r++[o]).getD r.length default=o by simp] at h1
 refine ⟨h1,?_⟩
 have hown:=H.op.own
 rcases hown.2 with ⟨_,hn⟩|⟨g,c,cur,hv,hbb,hg,hle,_⟩
 ·rw [hb] at hn;simp at hn
 ·cases hv
  have hnt:=H.op.noTy H.ck.noTy
  exact k65
theorem BrAt.of_upd {w':World}{B:Nat} (H:OpnAt w w0.heap.size oo oc bs s.opn) (hu:Upd K B w w') (hK:NoTy w K) (hB:NoTy w B) (hs:s.opn=r++[o]) (hb:bs=br++[b]) (hl:br.length=r.length) {j:Nat} (hj:j<br.length):BrAt w' (br.getD j default) (r.getD j default):=by
 exact k48
theorem mid_end (H:St w0 w K h m lo lc ls s so sc oo oc bs) (hop:i.op=34) (hs:s.opn=r++[o]) (hb:bs=br++[b]) (hl:br.length=r.length) {g:Nat} (hoo:oo=some ⟨g,0,none⟩) {wd W2 W3:World} (hd:wd=w.drew)
  (hW2:W2=(wd.setCell ⟨g,br.length*4+2,none⟩ (.slice so s.stk.length sc)).setCell ⟨g,br.length*4+3,none⟩ (.bool true)) (h3:Below W2.heap.size W2 W3) {to':Option Addr}{tc:Nat} (hcl:TyAt W3 to' tc o.beg) (v:Value) :
  StepPost w0 w K h m lo lc ls oo (stepV m ls i s) (.returned v) (W3.setCell ⟨K,5,none⟩ (.slice to' o.beg.length tc)):=by
 obtain ⟨hbr,g',hg',hgK,hgN,hgl,hgT,hoc,hown⟩:=H.top hs hb hl
 rw [hoo] at hg'
 cases hg'
 subst hoo
 have hu2:Upd K g w W2:=by rw [hW2,hd];exact ((Upd.refl K g w).drew.setB _ _).setB _ _
 have hu3:Upd K g w W3:=hu2.bel h3
 have hall:Upd K g w (W3.setCell ⟨K,5,none⟩ (.slice to' o.beg.length tc)):=hu3.set 5 _
 have hc2:Ck W2 K h m (.slice lo ls.length lc) (.slice so s.stk.length sc) (.slice (some ⟨g,0,none⟩) bs.length oc) 0:=by
  rw [hW2,hd]
  exact Ck.other (Ck.other (Ck.drew H.ck) hgK.symm _ _) hgK.symm _ _
 have hc3:=hc2.old h3
 have hstep:stepV m ls i s=(0,⟨o.beg,r++[{ o with past:=s.stk,mid:=true }]⟩):=by
  unfold stepV
  rw [if_pos hop,hs]
  simp
 refine ⟨⟨v,rfl⟩,hall,?_⟩
 rw [hstep]
 have hbl:bs.length=br.length+1:=by rw [hb];simp
 have hlen:(br++[({ b with fo:=so,fn:=s.stk.length,fc:=sc,mid:=true }:VB)]).length=bs.length:=by rw [hbl];simp
 refine .inl ⟨rfl,to',tc,some ⟨g,0,none⟩,oc,br++[{ b with fo:=so,fn:=s.stk.length,fc:=sc,mid:=true }],?_⟩
 refine ⟨?_,hcl.upd ((Upd.refl K K W3).set 5 _) hc3.noTy hc3.noTy,⟨?_,by simp [hl],fun j hj=>?_⟩,H.tl.upd hall H.ck.noTy hgT,hall.below H.hb (Nat.le_refl _) H.hK hgN,H.hK⟩
 ·rw [hlen];exact hc3.setS _
 ·rw [hlen,flatR_append,flatR_one]
  have h4:=((show wd.ownsRow w0.heap.size 190 4 (.slice (some ⟨g,0,none⟩) bs.length oc) bs.length (flatR br++Cells.cells b) by rw [hd];exact hown).stored (br.length*4+2) (.slice so s.stk.length sc)).1
  have h5:=(h4.stored (br.length*4+3) (.bool true)).1
  rw [←hW2] at h5
  have hf:(flatR br).length=br.length*4:=flatR_length br
  have e:((flatR br++Cells.cells b).set (br.length*4+2) (Value.slice so s.stk.length sc)).set (br.length*4+3) (.bool true)=flatR br++Cells.cells ({ b with fo:=so,fn:=s.stk.length,fc:=sc,mid:=true }:VB):=by
   rw [←hf,List.set_append_right (h:=by omega),List.set_append_right (h:=by omega)]
   congr 1
   rw [show (flatR br).length+2-(flatR br).length=2 by omega,show (flatR br).length+3-(flatR br).length=3 by omega]
   rfl
  rw [e] at h5
  have h6:W3.ownsRow w0.heap.size 190 4 (.slice (some ⟨g,0,none⟩) bs.length oc) bs.length (flatR br++Cells.cells ({ b with fo:=so,fn:=s.stk.length,fc:=sc,mid:=true }:VB)):=own_eqV h5 fun k hk=>h3.block k (h5.lt k hk).2
  exact ownsRow_setCell_other h6 (by intro e;exact hgK (Option.some.inj e)) _
 ·rw [hlen,hbl] at hj
  by_cases hjl:j<br.length
  ·rw [show (br++[({ b with fo:=so,fn:=s.stk.length,fc:=sc,mid:=true }:VB)]).getD j default=br.getD j default by simp [List.getElem?_append_left hjl],show (r++[({ o with past:=s.stk,mid:=true }:Opn)]).getD j default=r.getD j default by simp [List.getElem?_append_left (show j<r.length by omega)]]
   exact BrAt.of_upd H.op hall H.ck.noTy hgT hs hb hl hjl
  ·obtain rfl:j=br.length:=by omega
   rw [show (br++[({ b with fo:=so,fn:=s.stk.length,fc:=sc,mid:=true }:VB)]).getD br.length default={ b with fo:=so,fn:=s.stk.length,fc:=sc,mid:=true } by simp,show (r++[({ o with past:=s.stk,mid:=true }:Opn)]).getD br.length default={ o with past:=s.stk,mid:=true } by rw [hl];simp]
   have hb2:=hbr.upd hall H.ck.noTy hgT
   exact ⟨hb2.op,rfl,hb2.bn,rfl,hb2.bg,H.ts.upd hall H.ck.noTy hgT⟩
def eqE (st want:List Ty):Int:=if st.length≠want.length then 12 else if st=want then 0 else 11
theorem end_end (H:St w0 w K h m lo lc ls s so sc oo oc bs) (hop:i.op=35) (hs:s.opn=r++[o]) (hb:bs=br++[b]) (hl:br.length=r.length) {g:Nat} (hoo:oo=some ⟨g,0,none⟩) {W3:World} (hu:Upd K K w W3) {want:List Ty} (hw:want=if o.mid then o.past else o.beg)
  (hc:Ck W3 K h m (.slice lo ls.length lc) (.slice so s.stk.length sc) (.slice oo bs.length oc) (eqE s.stk want)) (v:Value) :
  StepPost w0 w K h m lo lc ls oo (stepV m ls i s) (.returned v) (W3.setCell ⟨K,6,none⟩ (.slice oo br.length oc)):=by
 obtain ⟨hbr,g',hg',hgK,hgN,hgl,hgT,hoc,hown⟩:=H.top hs hb hl
 rw [hoo] at hg'
 cases hg'
 have hall:Upd K K w (W3.setCell ⟨K,6,none⟩ (.slice oo br.length oc)):=hu.set 6 _
 refine ⟨⟨v,rfl⟩,hall.more,?_⟩
 unfold eqE at hc
 have hstep:stepV m ls i s=if s.stk.length≠want.length then (12,s) else if s.stk=want then (0,⟨s.stk,r⟩) else (11,s):=by
  unfold stepV
  rw [if_neg (by omega),if_pos hop,hs,hw]
  simp
 rw [hstep]
 by_cases h1:s.stk.length≠want.length
 ·rw [if_pos h1] at hc ⊢
  exact .inr ⟨(by intro q;cases q),_,_,hc.setO _⟩
 ·rw [if_neg h1] at hc ⊢
  by_cases h2:s.stk=want
  ·rw [if_pos h2] at hc ⊢
   refine .inl ⟨rfl,so,sc,oo,oc,br,hc.setO _,H.ts.upd hall H.ck.noTy H.ck.noTy,⟨?_,hl,fun j hj=>BrAt.of_upd H.op hall H.ck.noTy H.ck.noTy hs hb hl hj⟩,H.tl.upd hall H.ck.noTy H.ck.noTy,hall.below H.hb (Nat.le_refl _) H.hK H.hK,H.hK⟩
   subst hoo
   have h3:=own_takeV hown (m:=br.length) (by rw [hb];simp)
   rw [show (flatR br++Cells.cells b).take (br.length*4)=flatR br from List.take_left' (flatR_length br)] at h3
   exact own_eqV h3 fun k hk=>by
    cases hk
    exact hall.block g hgl hgK hgK
  ·rw [if_neg h2] at hc ⊢
   exact .inr ⟨(by intro q;cases q),_,_,hc.setO _⟩
end
theorem equal_any (K:Nat) (h:Hd) (m:Md) (L O:Value) (so:Option Addr) (sc:Nat) (st:List Ty) (wo:Option Addr) (wc:Nat) (want:List Ty) (w:World) (H:Ck w K h m L (.slice so st.length sc) O 0) (hs:RowAt w so sc st) (hw:RowAt w wo wc want) (hl:st.length≤1000) :
  Calls Tryz.prog 177 #[.pointer (some ⟨K,0,none⟩),.slice wo want.length wc] w fun r w'=>(∃ v,r=.returned v)∧Ck w' K h m L (.slice so st.length sc) O (eqE st want)∧Upd K K w w':=by
 have k5:=H.cells.2.2.2.2.2.2.1
 have HH:=Lib.hid H
 have HE:=Lib.hid (eqTy_any st want so wo sc wc w hs hw (by omega))
 clear H hs hw
 by_cases h1:st.length=want.length
 ·have HL:=Lib.hid h1
  obtain ⟨n,hn⟩:∃ n,n=st.length:=⟨_,rfl⟩
  obtain ⟨q,hq⟩:∃ q,q=decide (st=want):=⟨_,rfl⟩
  rw [←hq] at HE
  have HQ:=Lib.hid hq
  rw [←h1,←hn] at HE ⊢
  rw [←hn] at k5 HH
  have HN:=Lib.hid hn
  clear h1 hn hq
  have HW:=Lib.hid (show ∀ w',Below w.heap.size w w'→Calls Tryz.prog 173 #[.pointer (some ⟨K,0,none⟩),.bool q] w' fun r w''=>(∃ v,r=.returned v)∧Ck w'' K h m L (.slice so n sc) O (wantC 0 q)∧Upd K K w' w'' from fun w' hb=>want_any K h m L _ O 0 q w' (HH.out.old hb))
  have he:eqE st want=wantC 0 q:=by
   unfold eqE
   rw [if_neg (by rw [HL.out];simp),wantC0,HQ.out]
   simp
  have HEq:=Lib.hid he
  clear he
  obtain ⟨e',he'⟩:∃ e',e'=eqE st want:=⟨_,rfl⟩
  rw [←he']
  have HE':=Lib.hid he'
  clear he'
  go_enter Tryz.func177,Tryz.ntmps177
  go_wp2_with (first|(go_at_call 215;refine HE.out.mono ?_;rintro r w2 ⟨rfl,hb2⟩)|(go_at_call 173;refine (HW.out _ hb2).mono ?_;rintro r w3 ⟨⟨v,rfl⟩,hc3,hu3⟩;have HC3:=Lib.hid hc3;have HU3:=Lib.hid hu3;clear hc3 hu3))
  go_end0
  refine ⟨⟨_,rfl⟩,?_,(Upd.of hb2).trans HU3.out⟩
  rw [HE'.out,HEq.out]
  exact HC3.out
 ·have HL:=Lib.hid h1
  obtain ⟨n,hn⟩:∃ n,n=st.length:=⟨_,rfl⟩
  obtain ⟨n2,hn2⟩:∃ n,n=want.length:=⟨_,rfl⟩
  rw [←hn,←hn2] at h1
  rw [show eqE st want=12 from if_pos (by rw [←hn,←hn2];exact h1),←hn,←hn2]
  rw [←hn] at k5 HH
  have hne:((n:Int) == (n2:Int))=false:=by simp;omega
  have HF:=Lib.hid (fail_any K h m L (.slice so n sc) O 0 12 w HH.out)
  clear hn hn2 h1
  go_enter Tryz.func177,Tryz.ntmps177
  go_wp2_with (go_at_call 219;refine HF.out.mono ?_;rintro r w3 ⟨⟨v,rfl⟩,hc3,hu3⟩)
  refine bodyPost_ret (results_none rfl _ _ _) rfl ?_
  exact ⟨⟨_,rfl⟩,hc3,hu3⟩
end
section
open Go.RowKit
theorem top_cells {w:World}{base g oc n:Nat}{br:List VB}{b:VB} (h:w.ownsRow base 190 4 (.slice (some ⟨g,0,none⟩) n oc) n (flatR br++Cells.cells b)):∃ ba,ba=(⟨g,0,none⟩:Addr).add (br.length*4)∧ba=⟨g,br.length*4,none⟩ ∧
  w.cell? ba=some (.int .i64 b.op)∧w.cell? ⟨ba.block,ba.off+1,none⟩=some (.slice b.bo b.bn b.bc)∧w.cell? ⟨ba.block,ba.off+2,none⟩=some (.slice b.fo b.fn b.fc)∧w.cell? ⟨ba.block,ba.off+3,none⟩=some (.bool b.mid)∧(∀ j,w.frozen? ⟨g,j,none⟩=false):=by
 have hf:(flatR br).length=br.length*4:=flatR_length br
 have hx:h.1=h.1:=rfl
 exact k27
section
variable {w0 w:World}{K:Nat}{h:Hd}{m:Md}{lo:Option Addr}{lc:Nat}{ls:List Ty}{s:Ps}{so:Option Addr}{sc:Nat}{oo:Option Addr}{oc:Nat}{bs:List VB}{i:In3}{r:List Opn}{o:Opn}(H:St w0 w K h m lo lc ls s so sc oo oc bs)
include w0 w K h m lo lc ls s so sc oo oc bs i r o H
theorem middle_any (hop:i.op=34) (hs:s.opn=r++[o]) (hd:s.opn.length≤6) (hbl:o.beg.length≤12):
  Calls Tryz.prog 129 #[.pointer (some ⟨K,0,none⟩)] w (StepPost w0 w K h m lo lc ls oo (stepV m ls i s)):=by
 obtain ⟨br,b,hb,hl⟩:=H.last hs
 obtain ⟨hbr,g,hoo,hgK,hgN,hgl,hgT,hoc,hown⟩:=H.top hs hb hl
 obtain ⟨ba,hba,hbv,x0,x1,x2,x3,hfz⟩:=top_cells hown
 have hbb:ba.block=g:=by rw [hbv]
 have k5:=H.ck.cells.2.2.2.2.2.2.1
 have k6:=H.ck.cells.2.2.2.2.2.2.2.1
 have kl:=Blk.lt H.ck
 obtain ⟨ad,had⟩:∃ a,a=(⟨g,0,none⟩:Addr):=⟨_,rfl⟩
 rw [hoo,←had] at k6
 rw [←had] at hba
 obtain ⟨n,hn⟩:∃ n,n=br.length:=⟨_,rfl⟩
 obtain ⟨ln,hln⟩:∃ n,n=bs.length:=⟨_,rfl⟩
 have hl1:ln=n+1:=by rw [hln,hn,hb];simp
 rw [←hln] at k6
 rw [←hn] at hba
 have hlt:n<ln:=by omega
 have hlt2:(n:Int) < ln:=by omega
 have hol:=H.op.len
 have hw1:IntKind.i64.wrap ((ln:Int)-1)=(n:Int):=by rw [show (ln:Int)-1=(n:Int) by omega];exact IntWalk.i64_in _ (by omega)
 have hw2:(ln:Int)-1=(n:Int):=by omega
 have hw3:IntKind.i64.wrap (n:Int)=(n:Int):=IntWalk.i64_in _ (by omega)
 have f2:=hfz (br.length*4+2)
 have f3:=hfz (br.length*4+3)
 have e2:(⟨ba.block,ba.off+2,none⟩:Addr)=⟨g,br.length*4+2,none⟩:=by rw [hbv]
 have e3:(⟨ba.block,ba.off+3,none⟩:Addr)=⟨g,br.length*4+3,none⟩:=by rw [hbv]
 rw [←e2] at f2
 rw [←e3] at f3
 have HME:=Lib.hid (fun (W3:World) (h3:Below ((w.drew.setCell ⟨g,br.length*4+2,none⟩ (.slice so s.stk.length sc)).setCell ⟨g,br.length*4+3,none⟩ (.bool true)).heap.size ((w.drew.setCell ⟨g,br.length*4+2,none⟩ (.slice so s.stk.length sc)).setCell ⟨g,br.length*4+3,none⟩ (.bool true)) W3) (to':Option Addr) (tc:Nat) (hcl:TyAt W3 to' tc o.beg) (v:Value)=>mid_end H hop hs hb hl hoo rfl rfl h3 hcl v)
 rw [←e2,←e3] at HME
 have hbg:TyAt ((w.drew.setCell ⟨ba.block,ba.off+2,none⟩ (.slice so s.stk.length sc)).setCell ⟨ba.block,ba.off+3,none⟩ (.bool true)) b.bo b.bc o.beg:=by
  rw [e2,e3]
  exact hbr.bg.upd (((Upd.refl K g w).drew.setB _ _).setB _ _) H.ck.noTy hgT
 have hx1:((w.drew.setCell ⟨ba.block,ba.off+2,none⟩ (.slice so s.stk.length sc)).setCell ⟨ba.block,ba.off+3,none⟩ (.bool true)).cell? ⟨ba.block,ba.off+1,none⟩=some (.slice b.bo b.bn b.bc):=by
  rw [World.cell?_setCell_other (h:=by intro q;have:=congrArg Addr.off q;simp at this),World.cell?_setCell_other (h:=by intro q;have:=congrArg Addr.off q;simp at this)]
  exact x1
 have hk5:((w.drew.setCell ⟨ba.block,ba.off+2,none⟩ (.slice so s.stk.length sc)).setCell ⟨ba.block,ba.off+3,none⟩ (.bool true)).cell? ⟨K,5,none⟩=some (.slice so s.stk.length sc):=by
  rw [World.cell?_setCell_other (h:=by intro q;have:=congrArg Addr.block q;simp at this;omega),World.cell?_setCell_other (h:=by intro q;have:=congrArg Addr.block q;simp at this;omega)]
  exact k5
 have hf5:Blk ((w.drew.setCell ⟨ba.block,ba.off+2,none⟩ (.slice so s.stk.length sc)).setCell ⟨ba.block,ba.off+3,none⟩ (.bool true)) K (ckC h m (.slice lo ls.length lc) (.slice so s.stk.length sc) (.slice oo bs.length oc) 0) 151:=Ck.other (Ck.other (Ck.drew H.ck) (by omega) _ _) (by omega) _ _
 obtain ⟨bn,hbn⟩:∃ n,n=b.bn:=⟨_,rfl⟩
 rw [←hbn] at x1 hx1
 have HBn:=Lib.hid (hbn.trans hbr.bn)
 obtain ⟨W2,hW2⟩:∃ W2,W2=(w.drew.setCell ⟨ba.block,ba.off+2,none⟩ (.slice so s.stk.length sc)).setCell ⟨ba.block,ba.off+3,none⟩ (.bool true):=⟨_,rfl⟩
 rw [←hW2] at HME hbg hx1 hk5 hf5
 have HW2:=Lib.hid (show W2=((w.setCell ⟨ba.block,ba.off+2,none⟩ (.slice so s.stk.length sc)).setCell ⟨ba.block,ba.off+3,none⟩ (.bool true)).drew from hW2.trans rfl)
 have HBg:=Lib.hid hbg
 have HF5:=Lib.hid hf5
 have HX1:=Lib.hid hx1
 have HK5:=Lib.hid hk5
 have HBa:=Lib.hid hba
 have HLn:=Lib.hid hln
 clear hbb hba hW2 hbg hf5 hx1 hk5 hbn hs hb hl hop H hown hbv hbr e2 e3 hfz hoo had hn hln hl1 hol x0 x1
 go_enter Tryz.func129,Tryz.ntmps129
 go_wp2_with fail
 refine rO (fun w':World=>w'.cell? ⟨K,6,none⟩=some (.slice (some ad) ln oc)) (oL [0,1,2,3,4,5,6,7,8,9,10,11]) k6 ?_
 repeat refine pO ?_
 refine wpMixO_done ?_
 rw [←HBa.out]
 go_upto_region 2 with fail
 rw [←HW2.out]
 have y1:=HX1.out
 have y5:=HK5.out
 go_wp2_with (go_at_call 127;rw [HBn.out];refine (clT_any _ b.bo b.bc o.beg HBg.out.1 (by omega)).mono ?_;rintro r w3 ⟨⟨to',tc,rfl,hown3⟩,hb3⟩;have z5:=(Blk.old HF5.out hb3).frozen 5;have z6:=(Blk.old HF5.out hb3).cell 5 (v:=.slice so s.stk.length sc) rfl;have HO3:=Lib.hid hown3;have HB3:=Lib.hid hb3;clear hown3 hb3)
 go_end0
 exact HME.out _ HB3.out to' tc (TyAt.own HO3.out) _
theorem end_any (hop:i.op=35) (hs:s.opn=r++[o]) (hd:s.opn.length≤6) (hsl:s.stk.length≤12):
  Calls Tryz.prog 130 #[.pointer (some ⟨K,0,none⟩)] w (StepPost w0 w K h m lo lc ls oo (stepV m ls i s)):=by
 obtain ⟨br,b,hb,hl⟩:=H.last hs
 obtain ⟨hbr,g,hoo,hgK,hgN,hgl,hgT,hoc,hown⟩:=H.top hs hb hl
 obtain ⟨ba,hba,hbv,x0,x1,x2,x3,hfz⟩:=top_cells hown
 have hbb:ba.block=g:=by rw [hbv]
 have k5:=H.ck.cells.2.2.2.2.2.2.1
 have k6:=H.ck.cells.2.2.2.2.2.2.2.1
 have kl:=Blk.lt H.ck
 obtain ⟨ad,had⟩:∃ a,a=(⟨g,0,none⟩:Addr):=⟨_,rfl⟩
 rw [hoo,←had] at k6
 rw [←had] at hba
 obtain ⟨n,hn⟩:∃ n,n=br.length:=⟨_,rfl⟩
 obtain ⟨ln,hln⟩:∃ n,n=bs.length:=⟨_,rfl⟩
 have hl1:ln=n+1:=by rw [hln,hn,hb];simp
 rw [←hln] at k6
 rw [←hn] at hba
 have hlt:n<ln:=by omega
 have hlt2:(n:Int) < ln:=by omega
 have hol:=H.op.len
 have hw1:IntKind.i64.wrap ((ln:Int)-1)=(n:Int):=by rw [show (ln:Int)-1=(n:Int) by omega];exact IntWalk.i64_in _ (by omega)
 have hw2:(ln:Int)-1=(n:Int):=by omega
 have hw3:IntKind.i64.wrap (n:Int)=(n:Int):=IntWalk.i64_in _ (by omega)
 obtain ⟨want,hwant⟩:∃ l,l=if o.mid then o.past else o.beg:=⟨_,rfl⟩
 have HEE:=Lib.hid (fun (W3:World) (hu:Upd K K w W3) hc (v:Value)=>end_end (i:=i) (W3:=W3) H hop hs hb hl hoo hu hwant hc v)
 rw [←hln,←hn,hoo,←had] at HEE
 have hck:=H.ck
 rw [hoo,←had,←hln] at hck
 obtain ⟨bn,hbn⟩:∃ n,n=b.bn:=⟨_,rfl⟩
 obtain ⟨fn,hfn⟩:∃ n,n=b.fn:=⟨_,rfl⟩
 obtain ⟨mid,hmid⟩:∃ n,n=b.mid:=⟨_,rfl⟩
 rw [←hbn] at x1
 rw [←hfn] at x2
 rw [←hmid] at x3
 have HBr:=Lib.hid hbr
 have HBn:=Lib.hid (hbn.trans hbr.bn)
 have HFn:=Lib.hid (hfn.trans hbr.fn)
 have HMi:=Lib.hid (hmid.trans hbr.mid)
 have hS:∀ w',Below w.heap.size w w'→(fun w':World=>w'.cell? ⟨K,6,none⟩=some (.slice (some ad) ln oc)∧w'.cell? ba=some (.int .i64 b.op)∧w'.cell? ⟨ba.block,ba.off+1,none⟩=some (.slice b.bo bn b.bc)∧w'.cell? ⟨ba.block,ba.off+2,none⟩=some (.slice b.fo fn b.fc)∧w'.cell? ⟨ba.block,ba.off+3,none⟩=some (.bool mid)) w':=fun w' hb'=>⟨(hb'.cell (cell_lt k6)).trans k6,(hb'.cell (cell_lt x0)).trans x0,(hb'.cell (cell_lt x1)).trans x1,(hb'.cell (cell_lt x2)).trans x2,(hb'.cell (cell_lt x3)).trans x3⟩
 have HS:=Lib.hid hS
 have HC:=Lib.hid hck
 have HTs:=Lib.hid H.ts
 have HNo:=Lib.hid H.ck.noTy
 have HBa:=Lib.hid hba
 have HWt:=Lib.hid hwant
 have hoc2:ln≤oc:=by omega
 have hoc3:n≤oc:=by omega
 rw [hoo,←had]
 clear hbb hba hS hck hbn hfn hmid hbr hs hb hl hop H hown hbv hfz hoo had hn hln hl1 hol x0 x1 x2 x3 k5 k6 hwant hoc
 rcases mid with _|_
 ·go_enter Tryz.func130,Tryz.ntmps130
  go_wp2_with fail
  refine rO (fun w':World=>w'.cell? ⟨K,6,none⟩=some (.slice (some ad) ln oc)∧w'.cell? ba=some (.int .i64 b.op)∧w'.cell? ⟨ba.block,ba.off+1,none⟩=some (.slice b.bo bn b.bc)∧w'.cell? ⟨ba.block,ba.off+2,none⟩=some (.slice b.fo fn b.fc)∧w'.cell? ⟨ba.block,ba.off+3,none⟩=some (.bool false)) (oL [0,1,2,3,4,5,6,7,8,9,10,11,112,113]) (HS.out _ bE) ?_
  iterate 11 (refine pO ?_)
  rw [←HBa.out]
  repeat refine pO ?_
  refine oO fun Kv hK=>?_
  go_simp
  refine hK _ _ ⟨HS.out _ bE,?_⟩
  clear hK Kv
  refine oO fun Kv hK=>?_
  go_simp
  refine hK _ _ ⟨HS.out _ bE,?_⟩
  clear hK Kv
  refine wpMixO_done ?_
  obtain ⟨W1,hW1⟩:∃ W1,W1=(w.alloc (.cells #[.int .i64 b.op,.slice b.bo bn b.bc,.slice b.fo fn b.fc,.bool false] 190)).drew:=⟨_,rfl⟩
  have hb1:Below w.heap.size w W1:=by rw [hW1];exact bE
  have hX:Blk W1 w.heap.size #[.int .i64 b.op,.slice b.bo bn b.bc,.slice b.fo fn b.fc,.bool false] 190:=by rw [hW1];exact Blk.drew (Blk.new w _ _)
  rw [←hW1]
  have y1:=hX.cell 1 (v:=.slice b.bo bn b.bc) rfl
  have y2:=hX.cell 2 (v:=.slice b.fo fn b.fc) rfl
  have y3:=hX.cell 3 (v:=.bool false) rfl
  have hwt:want=o.beg:=by
   exact k75
  have HEq:=Lib.hid (show Calls Tryz.prog 177 #[.pointer (some ⟨K,0,none⟩),.slice b.bo bn b.bc] W1 fun r w'=>(∃ v,r=.returned v)∧Ck w' K h m (.slice lo ls.length lc) (.slice so s.stk.length sc) (.slice (some ad) ln oc) (eqE s.stk want)∧Upd K K W1 w' from by
   have h1:=equal_any K h m (.slice lo ls.length lc) (.slice (some ad) ln oc) so sc s.stk b.bo b.bc want W1 (HC.out.old hb1) (HTs.out.1.old hb1) (by rw [hwt];exact HBr.out.bg.1.old hb1) (by omega)
   rw [show bn=want.length by rw [hwt];exact HBn.out]
   exact h1)
  exact k21
 ·go_enter Tryz.func130,Tryz.ntmps130
  go_wp2_with fail
  refine rO (fun w':World=>w'.cell? ⟨K,6,none⟩=some (.slice (some ad) ln oc)∧w'.cell? ba=some (.int .i64 b.op)∧w'.cell? ⟨ba.block,ba.off+1,none⟩=some (.slice b.bo bn b.bc)∧w'.cell? ⟨ba.block,ba.off+2,none⟩=some (.slice b.fo fn b.fc)∧w'.cell? ⟨ba.block,ba.off+3,none⟩=some (.bool true)) (oL [0,1,2,3,4,5,6,7,8,9,10,11,112,113]) (HS.out _ bE) ?_
  iterate 11 (refine pO ?_)
  rw [←HBa.out]
  repeat refine pO ?_
  refine oO fun Kv hK=>?_
  go_simp
  refine hK _ _ ⟨HS.out _ bE,?_⟩
  clear hK Kv
  refine oO fun Kv hK=>?_
  go_simp
  refine hK _ _ ⟨HS.out _ bE,?_⟩
  clear hK Kv
  refine wpMixO_done ?_
  obtain ⟨W1,hW1⟩:∃ W1,W1=(w.alloc (.cells #[.int .i64 b.op,.slice b.bo bn b.bc,.slice b.fo fn b.fc,.bool true] 190)).drew:=⟨_,rfl⟩
  have hb1:Below w.heap.size w W1:=by rw [hW1];exact bE
  have hX:Blk W1 w.heap.size #[.int .i64 b.op,.slice b.bo bn b.bc,.slice b.fo fn b.fc,.bool true] 190:=by rw [hW1];exact Blk.drew (Blk.new w _ _)
  rw [←hW1]
  have y1:=hX.cell 1 (v:=.slice b.bo bn b.bc) rfl
  have y2:=hX.cell 2 (v:=.slice b.fo fn b.fc) rfl
  have y3:=hX.cell 3 (v:=.bool true) rfl
  have hwt:want=o.past:=by
   exact k75
  have HEq:=Lib.hid (show Calls Tryz.prog 177 #[.pointer (some ⟨K,0,none⟩),.slice b.fo fn b.fc] W1 fun r w'=>(∃ v,r=.returned v)∧Ck w' K h m (.slice lo ls.length lc) (.slice so s.stk.length sc) (.slice (some ad) ln oc) (eqE s.stk want)∧Upd K K W1 w' from by
   have h1:=equal_any K h m (.slice lo ls.length lc) (.slice (some ad) ln oc) so sc s.stk b.fo b.fc want W1 (HC.out.old hb1) (HTs.out.1.old hb1) (by rw [hwt];exact HBr.out.ps.1.old hb1) (by omega)
   rw [show fn=want.length by rw [hwt];exact HFn.out]
   exact h1)
  exact k21
end
end
section
open Go.RowKit
structure SH where
 ao:Option Addr
 n:Nat
 c:Nat
instance:Inhabited SH:=⟨⟨none,0,0⟩⟩
instance:Cells SH:=⟨1,by decide,fun t=>[.slice t.ao t.n t.c],fun _=>rfl,by
 intro x u hu;simp only [List.mem_cons,List.not_mem_nil,or_false] at hu;rcases hu with rfl;rfl⟩
structure StOwn (w:World) (N:Nat) (so:Option Addr) (sc:Nat) (rows:List SH) (sts:List (List Ty)):Prop where
 own:w.ownsRow N 23 1 (.slice so rows.length sc) rows.length (flatR rows)
 len:rows.length=sts.length
 at_:∀ i,i<rows.length→(rows.getD i default).n=(sts.getD i []).length∧TyAt w (rows.getD i default).ao (rows.getD i default).c (sts.getD i [])
theorem StOwn.nil (w:World) (N:Nat):StOwn w N none 0 [] []:=⟨World.ownsRow_nil _ _ _ _,rfl,fun i hi=>by simp at hi⟩
section
variable {w:World}{N:Nat}{so:Option Addr}{sc:Nat}{rows:List SH}{sts:List (List Ty)}(H:StOwn w N so sc rows sts){b:Nat}
include w N so sc rows sts H b
theorem StOwn.ne {xs:Array Value} {t:TypeId} {z:Nat × Nat} (hb:w.heap[b]?=some (.cells xs t z)) (ht:t≠23):(Value.slice so rows.length sc).ownBlock≠some b:=by
 intro e
 rcases H.own.2 with ⟨hv,_⟩|⟨g,c,cur,hv,_,hg,_⟩
 ·rw [hv] at e;cases e
 ·rw [hv] at e
  have e':g=b:=Option.some.inj e
  rw [e',hb] at hg
  cases hg
  exact ht rfl
theorem StOwn.noTy (e:(Value.slice so rows.length sc).ownBlock=some b):NoTy w b:=by
 rcases H.own.2 with ⟨hv,_⟩|⟨g,c,cur,hv,_,hg,_⟩
 ·rw [hv] at e;cases e
 ·rw [hv] at e
  have e':g=b:=Option.some.inj e
  subst e'
  exact ⟨(Array.getElem?_eq_some_iff.1 hg).1,fun xs z hx=>by rw [hg] at hx;cases hx⟩
end
section
variable {w w':World}{N:Nat}{so:Option Addr}{sc:Nat}{rows:List SH}{sts:List (List Ty)}
include w w' N so sc rows sts
theorem StOwn.upd {K B:Nat} (H:StOwn w N so sc rows sts) (hu:Upd K B w w') (hK:NoTy w K) (hB:NoTy w B) (h1:(Value.slice so rows.length sc).ownBlock≠some K) (h2:(Value.slice so rows.length sc).ownBlock≠some B):StOwn w' N so sc rows sts:=
 ⟨own_eqV H.own fun k hk=>hu.block k (H.own.lt k hk).2 (fun e=>h1 (e▸hk)) (fun e=>h2 (e▸hk)),H.len,fun i hi=>⟨(H.at_ i hi).1,(H.at_ i hi).2.upd hu hK hB⟩⟩
theorem StOwn.old (H:StOwn w N so sc rows sts) (hb:Below w.heap.size w w'):StOwn w' N so sc rows sts:=by
 have ha:∀ i,i<rows.length→TyAt w' (rows.getD i default).ao (rows.getD i default).c (sts.getD i []):=fun i hi=>by
  obtain ⟨h1,h2,h3⟩:=(H.at_ i hi).2
  exact k73
 exact ⟨own_eqV H.own fun k hk=>hb.block k (H.own.lt k hk).2,H.len,fun i hi=>⟨(H.at_ i hi).1,ha i hi⟩⟩
theorem StOwn.snoc (H:StOwn w N so sc rows sts) {to':Option Addr} {tc:Nat} {l:List Ty} (hl:TyAt w to' tc l) {ao:Option Addr} {cap:Nat} (hown:w'.ownsRow N 23 1 (.slice ao (rows.length+1) cap) (rows.length+1) (flatR rows++[.slice to' l.length tc])) (hg:w.grownBy w' (Value.slice so rows.length sc).ownBlock):StOwn w' N ao cap (rows++[⟨to',l.length,tc⟩]) (sts++[l]):=by
 have hlen:(rows++[(⟨to',l.length,tc⟩:SH)]).length=rows.length+1:=by simp
 have hty:∀ ao cap l,TyAt w ao cap l→TyAt w' ao cap l:=fun ao cap l ht=>by
  cases hb:(Value.slice so rows.length sc).ownBlock with
  | none=>
   rw [hb] at hg
   have hbel:Below w.heap.size w w':=(Below.refl _ _).grown hg (Nat.le_refl _) (fun j hj=>by cases hj)
   obtain ⟨h1,h2,h3⟩:=ht
   refine ⟨h1.old hbel,h2,fun a hx=>?_⟩
   obtain ⟨xs,z,hz⟩:=h3 a hx
   exact ⟨xs,z,(hbel.block _ (Array.getElem?_eq_some_iff.1 hz).1).trans hz⟩
  | some b=>
   have hn:=H.noTy hb
   rw [hb] at hg
   exact ht.upd ((Upd.refl b b w).grown hg (fun k hk=>.inl (Option.some.inj hk).symm)) hn hn
 refine ⟨by rw [hlen,flatR_append,flatR_one];exact hown,by simp [H.len],fun i hi=>?_⟩
 rw [hlen] at hi
 by_cases hil:i<rows.length
 ·rw [show (rows++[(⟨to',l.length,tc⟩:SH)]).getD i default=rows.getD i default by simp [List.getElem?_append_left hil],show (sts++[l]).getD i []=sts.getD i [] by simp [List.getElem?_append_left (show i<sts.length by rw [←H.len];exact hil)]]
  exact ⟨(H.at_ i hil).1,hty _ _ _ (H.at_ i hil).2⟩
 ·obtain rfl:i=rows.length:=by omega
  rw [show (rows++[(⟨to',l.length,tc⟩:SH)]).getD rows.length default=⟨to',l.length,tc⟩ by simp,show (sts++[l]).getD rows.length []=l by rw [H.len];simp]
  exact ⟨rfl,hty _ _ _ hl⟩
end
theorem elVs:El Tryz.prog 122 23 1 24:=El.mk' (z:=.slice none 0 0) Tryz.underlying122 (by kernel_rfl) (by kernel_rfl) (by decide)
def RetM (W:World) (q:List (List Ty) × Nat × Int):Ending→World→Prop:=fun e w'=>(∃ so sc rows,e=.returned (.tuple #[.slice so rows.length sc,.int .i64 q.2.1,.int .i64 q.2.2])∧StOwn w' W.heap.size so sc rows q.1)∧Below W.heap.size W w'
theorem RetM.no (W:World) {w':World} (hb:Below W.heap.size W w') (n:Nat) (e:Int):RetM W ([],n,e) (.returned (.tuple #[.slice none 0 0,.int .i64 n,.int .i64 e])) w':=⟨⟨none,0,[],rfl,StOwn.nil _ _⟩,hb⟩
theorem St.start {w w2:World}{h:Hd}{m:Md}{lo:Option Addr}{lc:Nat}{ls:List Ty} (hb:Below w.heap.size w w2) (hl:TyAt w2 lo lc ls) :
  St w (w2.alloc (.cells (ckC h m (.slice lo ls.length lc) (.slice none 0 0) (.slice none 0 0) 0) 151)) w2.heap.size h m lo lc ls ⟨[],[]⟩ none 0 none 0 []:=by
 have hbl:Below w2.heap.size w2 (w2.alloc (.cells (ckC h m (.slice lo ls.length lc) (.slice none 0 0) (.slice none 0 0) 0) 151)):=by exact bE
 have htl:TyAt (w2.alloc (.cells (ckC h m (.slice lo ls.length lc) (.slice none 0 0) (.slice none 0 0) 0) 151)) lo lc ls:=by
  obtain ⟨h1,h2,h3⟩:=hl
  refine ⟨h1.old hbl,h2,fun a hx=>?_⟩
  obtain ⟨xs,z,hz⟩:=h3 a hx
  exact ⟨xs,z,(hbl.block _ (Array.getElem?_eq_some_iff.1 hz).1).trans hz⟩
 exact ⟨Blk.new _ _ _,TyAt.nil _,⟨World.ownsRow_nil _ _ _ _,rfl,fun i hi=>by simp at hi⟩,htl,bal hb _,hb.size⟩
theorem endedV_nil {m:Md}{r:Ty} (h:r.k=0):endedV m r []=0:=by simp [endedV,h]
theorem endedV_cons {m:Md}{r:Ty} (h:r.k=0) {k:List Ty} (hk:k≠[]):endedV m r k=12:=by simp [endedV,h,hk]
theorem endedV_one {m:Md}{r t:Ty} (h:r.k≠0):endedV m r [t]=if fitsV m t r then 0 else 11:=by simp [endedV,h]
theorem endedV_len {m:Md}{r:Ty} (h:r.k≠0) {k:List Ty} (hk:k.length≠1):endedV m r k=12:=by
 unfold endedV
 rw [if_neg h]
 split
 ·simp at hk
 ·rfl
end
end Go.Proofs.YtfkbfjhocmbneaaGreat
