/- Joined texts. The first: verify: do, for any closure. -/
import Derived.Test.YtfkbfjhocmbneaaGreatG5
import Derived.Deep.Upon
set_option linter.all false
set_option linter.unusedVariables false
set_option linter.unusedSimpArgs false
set_option maxRecDepth 100000
set_option maxHeartbeats 4000000
namespace Go.Proofs.YtfkbfjhocmbneaaGreat
theorem k14{p:Prop}(h:p:=by
 obtain ⟨op,a,b⟩:=i;dsimp only at h;subst h;rfl):p:=h
theorem k24{p:Prop}(h:p:=by
 rintro r w' ⟨hv,hu,hq⟩
 refine ⟨hv,hu,?_⟩
 rw [hb] at hq
 unfold midV
 rw [hcn]
 dsimp only
 rcases hq with ⟨hq,hc⟩|⟨hq,so',sc',out,e',hp,ht,hc⟩
 ·exact k67
 ·rw [if_neg (by simp only [cntOk,Bool.and_eq_true,decide_eq_true_eq] at hq;omega)]
  have hlo:(s.stk.take (s.stk.length-tk)++out).length≤2000:=by
   have:=hp.1
   simp;omega
  obtain ⟨-,hp⟩:=hp
  split at hp
  ·subst hp
   exact ⟨so',sc',_,hc,ht,hlo,fun h0=>by cases h0⟩
  ·rename_i t hn
   obtain ⟨rfl,rfl⟩:=hp
   exact ⟨so',sc',_,hc,ht,hlo,fun _=>rfl⟩):p:=h
theorem k32{p:Prop}(h:p:=by
 go_wp2_with fail
 refine kR HS.out HU0 HC0 (oL [0,1,2,3,104,5,106]) fun HU1 HC1=>?_
 repeat refine pO ?_
 refine kB HS.out HU1 HC1 (number_any _) fun w2 HU2 HC2=>?_
 repeat refine pO ?_
 refine kW HS.out HU2 HC2 (want_any K h m L S O _ _ _ HC2.out) fun _ w3 HU3 HC3=>?_
 repeat refine pO ?_
 refine wpMixO_done ?_
 go_wp2
 go_ret
 refine ⟨none,0,[],_,rfl,TyAt.nil _,HC3.out,HU3.out,rfl,?_⟩
 exact k83):p:=h
theorem k34{p:Prop}(h:p:=by
 cases hh:(decide (ak=1)&&decide (ac=0))
 ·rfl
 ·simp only [Bool.and_eq_true,decide_eq_true_eq] at hh;exact absurd (by rw [hh.1,hh.2];rfl) h1):p:=h
theorem k39{p:Prop}(h:p:=by
 rw [baseB_key,baseV_key]
 congr 1
 apply List.ext_getElem
 ·simp [H.len]
 ·intro i h1 h2
  have h1':i<bs.length:=by simpa using h1
  have h2':i<os.length:=by simpa using h2
  have hb:=H.at_ i h1'
  rw [show bs.getD i default=bs[i] by simp [h1'],show os.getD i default=os[i] by simp [h2']] at hb
  simp only [List.getElem_map]
  rw [hb.op,hb.mid,hb.bn]):p:=h
theorem k41{p:Prop}(h:p:=by
 repeat refine pO ?_
 refine kV HS.out HU1 HC1 (HLo.out _ _ HC1.out HU1.out) fun w2 HU2 HC2=>?_
 repeat refine pO ?_
 refine kW HS.out HU2 HC2 (HFi.out _ _ HC2.out HU2.out) fun _ w3 HU3 HC3=>?_
 repeat refine pO ?_
 refine wpMixO_done ?_
 go_wp2
 go_ret
 refine ⟨none,0,[],_,rfl,TyAt.nil _,HC3.out,HU3.out,rfl,?_⟩
 rw [HFt.out,HLb.out,HLu.out]):p:=h
theorem k51{p:Prop}(h:p:=by
 refine ⟨own_eqV H.own fun k hk=>?_,H.len,fun i hi=>(H.at_ i hi).upd hu hK hK⟩
 cases oo with
 | none=>cases hk
 | some a=>
  cases hk
  have hn:=hne a rfl
  obtain ⟨g,cur,rfl,_,hg⟩:=H.blk rfl
  exact hu.block _ (Array.getElem?_eq_some_iff.1 hg).1 hn hn):p:=h
theorem k57{p:Prop}(h:p:=by
 cases oo with
 | none=>exact hK
 | some a=>
  obtain ⟨g,cur,rfl,_,hg⟩:=H.blk rfl
  refine ⟨(Array.getElem?_eq_some_iff.1 hg).1,fun xs z hx=>?_⟩
  rw [show w.heap[oblk K (some ⟨g,0,none⟩)]?=_ from hg] at hx
  cases hx):p:=h
theorem k67{p:Prop}(h:p:=by
 rw [if_pos (by simp only [cntOk,Bool.and_eq_false_iff,decide_eq_false_iff_not] at hq;omega)]
 exact ⟨so,sc,s.stk,hc,H.ts.upd hu H.ck.noTy H.ck.noTy,by omega,fun h0=>by cases h0⟩):p:=h
theorem k76{p:Prop}(h:p:=by
 rcases H.own.2 with ⟨hv,_⟩|⟨g,c,cur,hv,hb,hg,_⟩
 ·rw [ha] at hv;cases hv
 ·rw [ha] at hv;cases hv;exact ⟨g,cur,rfl,hb,hg⟩):p:=h
theorem k83{p:Prop}(h:p:=by
 rw [ty_eq];first|rfl|(rw [Bool.not_and];rfl)|(simp [tInt];done)):p:=h
theorem k87{p:Prop}(h:p:=by
 obtain ⟨g,cur,rfl,_,hg⟩:=H.blk ha
 intro e
 rw [show g=K from e,show w.heap[K]?=_ from hc] at hg
 cases hg):p:=h
section
open Go.RowKit
theorem wp_append_none {P:Program}{w:World}{o:Oper}{a:Act}{K:Act→World→Prop}{Q:Exit→Act→World→Prop} (s x:Operand) (t:TypeId)
  (ho:o.op=.call { callee:=.builtin .append,args:=#[s,x],argTypes:=#[t,t] })
  (e:TypeId) (size bytes:Nat) (hel:El P t e size bytes)
  (ao:Option Addr) (n cap:Nat) (hs:a.eval s=.slice ao n cap) (hle:n≤cap) (bo:Option Addr) (c:Nat) (hx:a.eval x=.slice bo 0 c)
  (h:K (a.put o.dst (.slice ao n cap)) w):o.wp P a w K Q:=by
 obtain ⟨i,z,hi,hz,hsize,hby,hzs⟩:=hel.info
 have hsrc:Src P i.size t (.slice bo 0 c) 0 [] w:=by
  cases bo with
  | none=>exact Src.ofNil w hel.und c
  | some ad=>exact Src.ofSlice w hel.und ad 0 c [] (by simp) (fun j u hu=>by simp at hu) (by simp)
 have hrun:=run_append_nothing (P:=P) w t t o.type e i hel.und hi ao n cap hle (.slice bo 0 c) hsrc
 unfold Oper.wp
 simp [execOp,ho,resolve,invoke,builtin,hs,hx,hrun,Result.andThen]
 exact h
theorem wpList_wp {P:Program}{ops:Array Oper}{Q:Exit→Act→World→Prop}{o:Oper}{rest:List Oper}{a:Act}{w:World} (hgd:o.guard=none) (h:o.wp P a w (wpList P ops Q rest) Q):wpList P ops Q (o :: rest) a w:=by
 show (if Region.wanted o (yielded ops a.tmps) then _ else _)
 rw [if_pos (by simp [Region.wanted,hgd])]
 exact .inl h
theorem TyAt.takeA {w:World}{ad:Addr}{sc:Nat}{st:List Ty} (H:TyAt w (some ad) sc st) {k:Nat} (hk:k≤st.length):TyAt w (some ad) k (st.take k):=
 ⟨H.1.take k hk k (fun h=>by cases h),by simp;omega,H.2.2⟩
theorem TyAt.dropA {w:World}{ad:Addr}{sc:Nat}{st:List Ty} (H:TyAt w (some ad) sc st) (k:Nat) (hk:k≤st.length):RowAt w (some (ad.add (k*2))) (sc-k) (st.drop k):=by
 obtain ⟨h1,h2,h3⟩:=H
 refine ⟨by rw [flatR_length],(fun h=>by cases h),fun j u hu=>⟨_,rfl,?_⟩⟩
 have hf:flatR st=flatR (st.take k)++flatR (st.drop k):=by rw [←flatR_append,List.take_append_drop]
 obtain ⟨a',ha,hc⟩:=h1.2.2 (k*2+j) u (by
  rw [hf,List.getElem?_append_right (by rw [flatR_length];simp [Cells.n];omega),flatR_length]
  rw [←hu]
  congr 1
  simp [Cells.n];omega)
 cases ha
 have e:(ad.add (k*2)).add j=ad.add (k*2+j):=by
  unfold Addr.add
  split<;>split<;>split<;>simp_all<;>omega
 rw [e]
 exact hc
theorem do_nil (K:Nat) (h:Hd) (m:Md) (L:Value) (O:Value) (pushes:Int) (g:Nat) (caps:Array Value) (P:List Ty→Int→Prop) (w:World) (e:Int)
  (H:Ck w K h m L (.slice none 0 0) O e)
  (HC:Calls Tryz.prog 180 #[.pointer (some ⟨K,0,none⟩),.int .i64 0,.int .i64 pushes] w fun r w'=>r=.returned (.bool true)∧Ck w' K h m L (.slice none 0 0) O e∧Upd K K w w')
  (cf:∀ A W,(callFunc g (A++caps)).run Tryz.prog W=.ok (.enter g (A++caps)) W)
  (hP:∀ out e',P out e'→out.length≤1000)
  (hg:∀ w1 to' tc,Upd K K w w1→Ck w1 K h m L (.slice none 0 0) O e→w1.ownsRow w.heap.size 35 2 (.slice to' 0 tc) 0 (flatR ([]:List Ty)) →
   Calls Tryz.prog g (#[.slice to' 0 tc]++caps) w1 fun r w2=>∃ ro rc out e',r=.returned (.slice ro out.length rc)∧TyAt w2 ro rc out∧Ck w2 K h m L (.slice none 0 0) O e'∧Upd K K w w2∧P out e') :
  Calls Tryz.prog 171 #[.pointer (some ⟨K,0,none⟩),.int .i64 0,.int .i64 pushes,.func (Fn.func g) #[] caps] w fun r w'=>(∃ v,r=.returned v)∧Upd K K w w' ∧
   ∃ so' sc' out e',P out e'∧TyAt w' so' sc' out∧Ck w' K h m L (.slice so' out.length sc') O e':=by
 have HC:=Lib.hid HC
 have HH:=Lib.hid H
 have HG:=Lib.hid hg
 have HP:=Lib.hid hP
 clear H hg hP
 go_enter Tryz.func171,Tryz.ntmps171
 go_wp2_with (first|(go_at_call 180;refine HC.out.mono ?_;rintro r w1 ⟨rfl,hck,hu⟩;obtain ⟨c0,-,-,-,-,-,c5,c6,-⟩:=Ck.cells hck)|(go_at_call 127;refine (clT_any w1 none 0 [] (RowAt.nil _) (by simp)).mono ?_;rintro r w2 ⟨⟨to',tc,rfl,hown⟩,hb2⟩))
 refine (HG.out w2 to' tc (hu.bel hb2) (hck.old hb2) (own_baseV hown hu.size)).mono ?_
 rintro r w3 ⟨ro,rc,out,e',rfl,hto,hck3,hu3,hpo⟩
 have HTo:=Lib.hid hto
 have HC3:=Lib.hid hck3
 have HU3:=Lib.hid hu3
 have HPo:=Lib.hid hpo
 obtain ⟨d0,-,-,-,-,-,d5,d6,-⟩:=hck3.cells
 have d5f:w3.frozen? ⟨K,5,none⟩=false:=Blk.frozen hck3 5
 clear hto hck3 hu3 hpo hown hck hu hb2 c0 c5 c6
 by_cases hout:out=[]
 ·subst hout
  simp only [List.length_nil] at *
  go_wp2_with (at_builtin;refine wpList_wp rfl ?_;refine wp_append_none (.tmp 38) (.tmp 39) 23 rfl 35 2 16 elTyV _ _ _ rfl (Nat.le_refl _) _ _ rfl ?_)
  go_end0
  exact ⟨⟨_,rfl⟩,HU3.out.set 5 _,none,0,[],e',HPo.out,TyAt.nil _,HC3.out.setS _⟩
 ·have hom:0<out.length:=List.length_pos_iff.2 hout
  have hol2:=HP.out _ _ HPo.out
  have HOl:=Lib.hid (show SlA w3 2 none 0 0 [] from ⟨rfl,fun _=>⟨rfl,rfl⟩,fun j u hu=>by simp at hu⟩)
  clear hout
  go_wp2_with (at_builtin;refine wpList_wp rfl ?_;refine wp_append_growx (.tmp 38) (.tmp 39) 23 rfl 35 2 16 elTyV _ 0 _ [] rfl HOl.out _ out.length _ (flatR out) rfl HTo.out.1 (flatR_oneC out) hom (by omega) (by omega) (by unfold maxLen;omega) ?_;intro ao2 cap2 w4 hown4 hg4;have d5g:w4.cell? ⟨K,5,none⟩=some (.slice none 0 0):=(World.cell?_of_block (a:=⟨K,5,none⟩) (hg4.block K d0 (by simp))).trans d5;have d5h:w4.frozen? ⟨K,5,none⟩=false:=(World.frozen?_of_block (a:=⟨K,5,none⟩) (hg4.block K d0 (by simp))).trans d5f;simp only [Nat.zero_add,List.nil_append] at hown4 ⊢)
  go_end0
  have hb4:Below w3.heap.size w3 w4:=(Below.refl _ _).grown hg4 (Nat.le_refl _) (fun j hj=>by cases hj)
  have hC4:=HC3.out.old hb4
  exact ⟨⟨_,rfl⟩,(HU3.out.bel hb4).set 5 _,ao2,cap2,out,e',HPo.out,(TyAt.own (base:=w3.heap.size) hown4).upd ((Upd.refl K K w4).set 5 _) hC4.noTy hC4.noTy,hC4.setS _⟩
theorem do_any (K:Nat) (h:Hd) (m:Md) (L:Value) (so:Option Addr) (sc:Nat) (st:List Ty) (oo:Option Addr) (oc:Nat) (bs:List VB) (e:Int) (tk:Nat) (pushes:Int) (g:Nat) (caps:Array Value) (P:List Ty→Int→Prop) (w:World)
    (H:Ck w K h m L (.slice so st.length sc) (.slice oo bs.length oc) e) (hs:TyAt w so sc st) (hst:st.length≤1000) (ho:RowAt w oo oc bs) (hlen:bs.length≤1000000) (ht:tk≤1000000000) (hp:0≤pushes∧pushes≤1000000000)
    (cf:∀ A W,(callFunc g (A++caps)).run Tryz.prog W=.ok (.enter g (A++caps)) W)
    (hP:∀ out e',P out e'→out.length≤1000)
    (hg:tk≤st.length→∀ w1 to' tc,Upd K K w w1→Ck w1 K h m L (.slice so st.length sc) (.slice oo bs.length oc) e→w1.ownsRow w.heap.size 35 2 (.slice to' tk tc) tk (flatR (st.drop (st.length-tk))) →
      Calls Tryz.prog g (#[.slice to' tk tc]++caps) w1 fun r w2=>∃ ro rc out e',r=.returned (.slice ro out.length rc)∧TyAt w2 ro rc out∧Ck w2 K h m L (.slice so st.length sc) (.slice oo bs.length oc) e'∧Upd K K w w2∧P out e') :
    Calls Tryz.prog 171 #[.pointer (some ⟨K,0,none⟩),.int .i64 tk,.int .i64 pushes,.func (Fn.func g) #[] caps] w fun r w'=>(∃ v,r=.returned v)∧Upd K K w w' ∧
      ((cntOk st.length tk pushes (baseB bs)=false∧Ck w' K h m L (.slice so st.length sc) (.slice oo bs.length oc) (errC e 12)) ∨
       (cntOk st.length tk pushes (baseB bs)=true∧∃ so' sc' out e',P out e'∧TyAt w' so' sc' (st.take (st.length-tk)++out)∧Ck w' K h m L (.slice so' (st.take (st.length-tk)++out).length sc') (.slice oo bs.length oc) e')):=by
 have hc:=counts_any K h m L so st.length sc oo oc bs e tk pushes w H ho hlen (by omega) (by omega) hp
 have HC:=Lib.hid hc
 have HH:=Lib.hid H
 have HT:=Lib.hid hs
 have HG:=Lib.hid hg
 have HP:=Lib.hid hP
 clear hc H hs hg hP ho
 generalize hq:cntOk st.length tk pushes (baseB bs)=q at HC ⊢
 have HQ:=Lib.hid hq
 clear hq
 rcases q with _|_
 · go_enter Tryz.func171,Tryz.ntmps171
   go_wp2_with (go_at_call 180;refine HC.out.mono ?_;rintro r w1 ⟨rfl,hck,hu⟩)
   refine bodyPost_ret (results_none rfl _ _ _) rfl ?_
   exact ⟨⟨_,rfl⟩,hu,.inl ⟨trivial,by simpa using hck⟩⟩
 · have hle:tk≤st.length:=by
     have:=HQ.out
     simp only [cntOk,Bool.and_eq_true,decide_eq_true_eq] at this
     omega
   have hcl:∀ w1,Upd K K w w1→∃ co cc,(so.map fun x=>if sc=st.length-tk then x else x.add ((st.length-tk)*2))=co∧sc-(st.length-tk)=cc∧Calls Tryz.prog 127 #[.slice co (st.length-(st.length-tk)) cc] w1 (RetOwn 35 w1 (st.drop (st.length-tk))):=by
     intro w1 hu
     refine ⟨_,_,rfl,rfl,?_⟩
     have hT:=HT.out.upd hu HH.out.noTy HH.out.noTy
     have hcap:=hT.2.1
     rw [show st.length-(st.length-tk)=(st.drop (st.length-tk)).length by simp]
     refine clT_any w1 _ _ _ ?_ (by simp;omega)
     cases so with
     | none=>
       have h1:=(hT.1.2.1 rfl)
       have h2:st=[]:=by cases st with|nil=>rfl|cons x r=>simp at h1
       subst h2
       simp only [List.drop_nil,List.length_nil,Nat.zero_sub,Option.map_none,h1.2]
       exact RowAt.nil _
     | some ad=>
       by_cases hsc:sc=st.length-tk
       · have h0:st.drop (st.length-tk)=[]:=by rw [List.drop_eq_nil_iff];omega
         rw [h0]
         exact ⟨by simp [flatR],(fun h=>by simp at h),fun j u hu=>by simp [flatR] at hu⟩
       · simp only [Option.map_some,if_neg hsc]
         exact hT.dropA _ (by omega)
   have HCl:=Lib.hid hcl
   clear hcl
   by_cases hsc:sc=st.length-tk
   · cases so with
     | none=>
       have h0:=HT.out.1.2.1 rfl
       obtain rfl:st=[]:=List.length_eq_zero_iff.1 h0.1
       obtain rfl:sc=0:=h0.2
       obtain rfl:tk=0:=by simpa using hle
       refine (do_nil K h m L (.slice oo bs.length oc) pushes g caps P w e HH.out HC.out cf HP.out (fun w1 to' tc h1 h2 h3=>HG.out (Nat.le_refl _) w1 to' tc h1 h2 h3)).mono ?_
       rintro r w' ⟨hv,hu,so',sc',out,e',h1,h2,h3⟩
       exact ⟨hv,hu,.inr ⟨rfl,so',sc',out,e',h1,h2,h3⟩⟩
     | some ad=>
       go_enter Tryz.func171,Tryz.ntmps171
       go_wp2_with (first|(go_at_call 180;refine HC.out.mono ?_;rintro r w1 ⟨rfl,hck,hu⟩;obtain ⟨c0,-,-,-,-,-,c5,c6,-⟩:=Ck.cells (show Ck w1 K h m L (.slice (some ad) st.length sc) (.slice oo bs.length oc) e from hck))|(go_at_call 127;obtain ⟨co,cc,q1,q2,hcc⟩:=HCl.out w1 hu;simp only [Option.map_some,if_pos hsc] at q1;obtain rfl:cc=0:=(by omega);subst q1;refine hcc.mono ?_;rintro r w2 ⟨⟨to',tc,rfl,hown⟩,hb2⟩))
       have hlen2:(st.drop (st.length-tk)).length=tk:=by simp;omega
       rw [hlen2] at hown
       have hck1:Ck w1 K h m L (.slice (some ad) st.length sc) (.slice oo bs.length oc) e:=by simpa using hck
       rw [show st.length-(st.length-tk)=tk by omega]
       refine (HG.out hle w2 to' tc (hu.bel hb2) (hck1.old hb2) (own_baseV hown hu.size)).mono ?_
       rintro r w3 ⟨ro,rc,out,e',rfl,hto,hck3,hu3,hpo⟩
       have HTo:=Lib.hid hto
       have HC3:=Lib.hid hck3
       have HU3:=Lib.hid hu3
       have HPo:=Lib.hid hpo
       obtain ⟨d0,-,-,-,-,-,d5,d6,-⟩:=hck3.cells
       have d5f:w3.frozen? ⟨K,5,none⟩=false:=Blk.frozen hck3 5
       clear hto hck3 hu3 hpo hown hcc hck hck1 hu hb2 q2 c0 c5 c6 HC HCl
       have hT3:=Lib.hid (HT.out.upd HU3.out HH.out.noTy HH.out.noTy)
       have hcap:st.length≤sc:=HT.out.2.1
       by_cases hout:out=[]
       · subst hout
         simp only [List.length_nil] at *
         go_wp2_with (at_builtin;refine wpList_wp rfl ?_;refine wp_append_none (.tmp 38) (.tmp 39) 23 rfl 35 2 16 elTyV _ _ _ rfl (Nat.le_refl _) _ _ rfl ?_)
         go_end0
         refine ⟨⟨_,rfl⟩,HU3.out.set 5 _,.inr ⟨trivial,some ad,st.length-tk,[],e',HPo.out,?_,?_⟩⟩
         · rw [List.append_nil]
           exact (hT3.out.takeA (by omega)).upd ((Upd.refl K K w3).set 5 _) HC3.out.noTy HC3.out.noTy
         · rw [List.append_nil,List.length_take,Nat.min_eq_left (by omega)]
           exact HC3.out.setS _
       · have hom:0<out.length:=List.length_pos_iff.2 hout
         have hol2:=HP.out _ _ HPo.out
         have hol:SlA w3 2 (some ad) (st.length-tk) (st.length-tk) (flatR (st.take (st.length-tk))):=by
           have:=(hT3.out.takeA (k:=st.length-tk) (by omega)).1
           unfold RowAt at this
           rw [List.length_take,Nat.min_eq_left (by omega)] at this
           exact this
         have HOl:=Lib.hid hol
         clear hol hout
         go_wp2_with (at_builtin;refine wpList_wp rfl ?_;refine wp_append_growx (.tmp 38) (.tmp 39) 23 rfl 35 2 16 elTyV _ (st.length-tk) _ (flatR (st.take (st.length-tk))) rfl HOl.out _ out.length _ (flatR out) rfl HTo.out.1 (flatR_oneC out) hom (by omega) (by omega) (by unfold maxLen;omega) ?_;intro ao2 cap2 w4 hown4 hg4;have d5g:w4.cell? ⟨K,5,none⟩=some (.slice (some ad) st.length sc):=(World.cell?_of_block (a:=⟨K,5,none⟩) (hg4.block K d0 (by simp))).trans d5;have d5h:w4.frozen? ⟨K,5,none⟩=false:=(World.frozen?_of_block (a:=⟨K,5,none⟩) (hg4.block K d0 (by simp))).trans d5f)
         go_end0
         have hb4:Below w3.heap.size w3 w4:=(Below.refl _ _).grown hg4 (Nat.le_refl _) (fun j hj=>by cases hj)
         have hlen4:(st.take (st.length-tk)++out).length=st.length-tk+out.length:=by simp
         have hT4:TyAt w4 ao2 cap2 (st.take (st.length-tk)++out):=TyAt.own (base:=w3.heap.size) (by rw [hlen4,flatR_append];exact hown4)
         have hC4:=HC3.out.old hb4
         refine ⟨⟨_,rfl⟩,(HU3.out.bel hb4).set 5 _,.inr ⟨trivial,ao2,cap2,out,e',HPo.out,?_,?_⟩⟩
         · exact hT4.upd ((Upd.refl K K w4).set 5 _) hC4.noTy hC4.noTy
         · rw [hlen4]
           exact hC4.setS _
   · obtain ⟨ad,rfl⟩:∃ ad,so=some ad:=by
       cases so with
       | some ad=>exact ⟨ad,rfl⟩
       | none=>have:=HT.out.1.2.1 rfl;omega
     go_enter Tryz.func171,Tryz.ntmps171
     go_wp2_with (first|(go_at_call 180;refine HC.out.mono ?_;rintro r w1 ⟨rfl,hck,hu⟩;obtain ⟨c0,-,-,-,-,-,c5,c6,-⟩:=Ck.cells (show Ck w1 K h m L (.slice (some ad) st.length sc) (.slice oo bs.length oc) e from hck))|(go_at_call 127;obtain ⟨co,cc,q1,q2,hcc⟩:=HCl.out w1 hu;simp only [Option.map_some,if_neg hsc] at q1;rw [q1,q2];refine hcc.mono ?_;rintro r w2 ⟨⟨to',tc,rfl,hown⟩,hb2⟩))
     have hlen2:(st.drop (st.length-tk)).length=tk:=by simp;omega
     rw [hlen2] at hown
     have hck1:Ck w1 K h m L (.slice (some ad) st.length sc) (.slice oo bs.length oc) e:=by simpa using hck
     rw [show st.length-(st.length-tk)=tk by omega]
     refine (HG.out hle w2 to' tc (hu.bel hb2) (hck1.old hb2) (own_baseV hown hu.size)).mono ?_
     rintro r w3 ⟨ro,rc,out,e',rfl,hto,hck3,hu3,hpo⟩
     have HTo:=Lib.hid hto
     have HC3:=Lib.hid hck3
     have HU3:=Lib.hid hu3
     have HPo:=Lib.hid hpo
     obtain ⟨d0,-,-,-,-,-,d5,d6,-⟩:=hck3.cells
     have d5f:w3.frozen? ⟨K,5,none⟩=false:=Blk.frozen hck3 5
     clear hto hck3 hu3 hpo hown hcc hck hck1 hu hb2 q1 q2 c0 c5 c6 HC HCl
     have hT3:=Lib.hid (HT.out.upd HU3.out HH.out.noTy HH.out.noTy)
     have hcap:st.length≤sc:=HT.out.2.1
     by_cases hout:out=[]
     · subst hout
       simp only [List.length_nil] at *
       go_wp2_with (at_builtin;refine wpList_wp rfl ?_;refine wp_append_none (.tmp 38) (.tmp 39) 23 rfl 35 2 16 elTyV _ _ _ rfl (Nat.le_refl _) _ _ rfl ?_)
       go_end0
       refine ⟨⟨_,rfl⟩,HU3.out.set 5 _,.inr ⟨trivial,some ad,st.length-tk,[],e',HPo.out,?_,?_⟩⟩
       · rw [List.append_nil]
         exact (hT3.out.takeA (by omega)).upd ((Upd.refl K K w3).set 5 _) HC3.out.noTy HC3.out.noTy
       · rw [List.append_nil,List.length_take,Nat.min_eq_left (by omega)]
         exact HC3.out.setS _
     · have hom:0<out.length:=List.length_pos_iff.2 hout
       have hol2:=HP.out _ _ HPo.out
       have hol:SlA w3 2 (some ad) (st.length-tk) (st.length-tk) (flatR (st.take (st.length-tk))):=by
         have:=(hT3.out.takeA (k:=st.length-tk) (by omega)).1
         unfold RowAt at this
         rw [List.length_take,Nat.min_eq_left (by omega)] at this
         exact this
       have HOl:=Lib.hid hol
       clear hol hout
       go_wp2_with (at_builtin;refine wpList_wp rfl ?_;refine wp_append_growx (.tmp 38) (.tmp 39) 23 rfl 35 2 16 elTyV _ (st.length-tk) _ (flatR (st.take (st.length-tk))) rfl HOl.out _ out.length _ (flatR out) rfl HTo.out.1 (flatR_oneC out) hom (by omega) (by omega) (by unfold maxLen;omega) ?_;intro ao2 cap2 w4 hown4 hg4;have d5g:w4.cell? ⟨K,5,none⟩=some (.slice (some ad) st.length sc):=(World.cell?_of_block (a:=⟨K,5,none⟩) (hg4.block K d0 (by simp))).trans d5;have d5h:w4.frozen? ⟨K,5,none⟩=false:=(World.frozen?_of_block (a:=⟨K,5,none⟩) (hg4.block K d0 (by simp))).trans d5f)
       go_end0
       have hb4:Below w3.heap.size w3 w4:=(Below.refl _ _).grown hg4 (Nat.le_refl _) (fun j hj=>by cases hj)
       have hlen4:(st.take (st.length-tk)++out).length=st.length-tk+out.length:=by simp
       have hT4:TyAt w4 ao2 cap2 (st.take (st.length-tk)++out):=TyAt.own (base:=w3.heap.size) (by rw [hlen4,flatR_append];exact hown4)
       have hC4:=HC3.out.old hb4
       refine ⟨⟨_,rfl⟩,(HU3.out.bel hb4).set 5 _,.inr ⟨trivial,ao2,cap2,out,e',HPo.out,?_,?_⟩⟩
       · exact hT4.upd ((Upd.refl K K w4).set 5 _) hC4.noTy hC4.noTy
       · rw [hlen4]
         exact hC4.setS _
end
section
def tyOk (m:Md) (t:Ty):Prop:=isTy m.cl.length t 1=true
def stkOk (m:Md) (l:List Ty):Prop:=l.length≤12∧∀ t∈l,tyOk m t
def baseR (l:List Opn):Nat:=match l.find? fun o=>decide (o.op=33)&&!o.mid with
 | some o=>o.beg.length
 | none=>0
theorem baseV_eq (l:List Opn):baseV l=baseR l.reverse:=rfl
theorem baseR_cons (o:Opn) (r:List Opn):baseR (o :: r)=if o.op=33∧o.mid=false then o.beg.length else baseR r:=by
 unfold baseR
 rw [List.find?_cons]
 by_cases h:o.op=33
 ·cases hm:o.mid<;>simp [h]
 ·simp [h]
def okR (m:Md):List Opn→Prop
 | []=>True
 | o :: r=>stkOk m o.beg∧stkOk m o.past∧baseR r≤o.beg.length∧(o.mid=true→baseR r≤o.past.length)∧okR m r
def brR (l:List Opn):List Br:=l.map fun o=>⟨o.op,o.mid⟩
structure Wf (m:Md) (s:Ps) (code:List In3):Prop where
 stk:stkOk m s.stk
 base:baseV s.opn≤s.stk.length
 opn:okR m s.opn.reverse
 nest:∃ D t,nestF (brR s.opn.reverse,D) code=some t∧t.1=[]∧t.2≤6∧s.opn.length≤D
theorem stkOk_nil (m:Md):stkOk m []:=⟨by simp,by simp⟩
theorem wf_start {m:Md}{l:List In3} (h:nestV l=true):Wf m ⟨[],[]⟩ l:=by
 refine ⟨stkOk_nil m,by simp [baseV],trivial,?_⟩
 unfold nestV at h
 split at h
 ·cases h
 ·rename_i st d hn
  simp only [Bool.and_eq_true,List.isEmpty_iff,decide_eq_true_eq] at h
  exact ⟨0,(st,d),hn,h.1,h.2,Nat.le_refl _⟩
theorem nestF_mono:∀ (l:List In3) (s t:List Br × Nat),nestF s l=some t→s.2≤t.2
 | [],s,t,h=>by cases h;exact Nat.le_refl _
 | i :: l,s,t,h=>by
  unfold nestF at h
  split at h
  ·cases h
  ·rename_i u hu
   have h1:=nestF_mono l u t h
   have h2:s.2≤u.2:=by
    unfold nestS at hu
    obtain ⟨S,D⟩:=s
    split at hu
    ·cases hu;dsimp only;omega
    ·split at hu
     ·cases S with
      | nil=>cases hu
      | cons b r=>dsimp only at hu;split at hu<;>cases hu;exact Nat.le_refl _
     ·split at hu
      ·cases S with
       | nil=>cases hu
       | cons b r=>dsimp only at hu;split at hu<;>cases hu;exact Nat.le_refl _
      ·cases hu;exact Nat.le_refl _
   omega
theorem Wf.depth {m:Md}{s:Ps}{l:List In3} (h:Wf m s l):s.opn.length≤6:=by
 obtain ⟨D,t,h1,_,h3,h4⟩:=h.nest
 have:=nestF_mono _ _ _ h1
 dsimp only at this
 omega
theorem Wf.done {m:Md}{s:Ps} (h:Wf m s []):s.opn=[]:=by
 obtain ⟨D,t,h1,h2,_,_⟩:=h.nest
 cases h1
 simpa [brR] using h2
theorem Wf.nest1 {m:Md}{s:Ps}{i:In3}{l:List In3} (h:Wf m s (i :: l)):∃ D u t,nestS (brR s.opn.reverse,D) i=some u∧nestF u l=some t∧t.1=[]∧t.2≤6∧s.opn.length≤D:=by
 obtain ⟨D,t,h1,h2,h3,h4⟩:=h.nest
 unfold nestF at h1
 split at h1
 ·cases h1
 ·rename_i u hu
  exact ⟨D,u,t,hu,h1,h2,h3,h4⟩
theorem snoc_of {α:Type}{l:List α}{x:α}{r:List α} (h:l.reverse=x :: r):l=r.reverse++[x]:=by
 have:=congrArg List.reverse h
 simpa using this
theorem Wf.else_ {m:Md}{s:Ps}{i:In3}{l:List In3} (h:Wf m s (i :: l)) (hi:i.op=34):∃ r o,s.opn=r++[o]∧(o.op=29∨o.op=33)∧o.mid=false:=by
 obtain ⟨D,u,t,h1,_⟩:=h.nest1
 unfold nestS at h1
 rw [show opensV i.op=false from opens_not (.inl hi),if_neg (by decide),if_pos hi] at h1
 cases hr:s.opn.reverse with
 | nil=>rw [hr] at h1;cases h1
 | cons o r=>
  rw [hr] at h1
  simp only [brR,List.map_cons] at h1
  split at h1
  ·rename_i hc;exact ⟨r.reverse,o,snoc_of hr,hc.1,hc.2⟩
  ·cases h1
theorem Wf.end_ {m:Md}{s:Ps}{i:In3}{l:List In3} (h:Wf m s (i :: l)) (hi:i.op=35):∃ r o,s.opn=r++[o]∧¬ (o.op=33∧o.mid=false):=by
 obtain ⟨D,u,t,h1,_⟩:=h.nest1
 unfold nestS at h1
 rw [show opensV i.op=false from opens_not (.inr hi),if_neg (by decide),if_neg (by omega),if_pos hi] at h1
 cases hr:s.opn.reverse with
 | nil=>rw [hr] at h1;cases h1
 | cons o r=>
  rw [hr] at h1
  simp only [brR,List.map_cons] at h1
  split at h1
  ·cases h1
  ·rename_i hc;exact ⟨r.reverse,o,snoc_of hr,hc⟩
section
variable {m:Md}{lo:List Ty}{i:In3}{s:Ps}
include m lo i s
theorem stepV_plain (h1:i.op≠34) (h2:i.op≠35) (he:(stepV m lo i s).1=0):
  ∃ t,pushV m lo i (s.stk.drop (s.stk.length-(cntV m i).1))=some t∧(cntV m i).1+baseV s.opn≤s.stk.length∧s.stk.length-(cntV m i).1+(cntV m i).2≤12 ∧
   (stepV m lo i s).2=⟨s.stk.take (s.stk.length-(cntV m i).1)++List.replicate (cntV m i).2 t,if opensV i.op then s.opn++[⟨i.op,s.stk.take (s.stk.length-(cntV m i).1)++List.replicate (cntV m i).2 t,[],false⟩] else s.opn⟩:=by
 unfold stepV at he ⊢
 rw [if_neg h1,if_neg h2] at he ⊢
 dsimp only at he ⊢
 split at he
 ·cases he
 ·rename_i hc
  split at he
  ·cases he
  ·rename_i t ht
   refine ⟨t,ht,by omega,by omega,?_⟩
   rw [if_neg hc]
theorem wf_plain {l:List In3} (h:Wf m s (i :: l)) (h1:i.op≠34) (h2:i.op≠35) (he:(stepV m lo i s).1=0) (hp:∀ t,pushV m lo i (s.stk.drop (s.stk.length-(cntV m i).1))=some t→(cntV m i).2=0∨tyOk m t):Wf m (stepV m lo i s).2 l:=by
 obtain ⟨t,ht,hc1,hc2,hs⟩:=stepV_plain h1 h2 he
 rw [hs]
 obtain ⟨⟨hl,ha⟩,hb,ho,hn⟩:=h
 have hlen:(s.stk.take (s.stk.length-(cntV m i).1)++List.replicate (cntV m i).2 t).length=s.stk.length-(cntV m i).1+(cntV m i).2:=by simp
 have hk:stkOk m (s.stk.take (s.stk.length-(cntV m i).1)++List.replicate (cntV m i).2 t):=by
  refine ⟨by rw [hlen];exact hc2,fun u hu=>?_⟩
  rcases List.mem_append.1 hu with hu|hu
  ·exact ha u (List.mem_of_mem_take hu)
  ·rcases hp t ht with h0|h0
   ·rw [h0] at hu;cases hu
   ·rw [(List.mem_replicate.1 hu).2];exact h0
 generalize s.stk.take (s.stk.length-(cntV m i).1)++List.replicate (cntV m i).2 t=k at hlen hk ⊢
 obtain ⟨D,u,t2,n1,n2,n3,n4,n5⟩:=Wf.nest1 (m:=m) (s:=s) (i:=i) (l:=l) ⟨⟨hl,ha⟩,hb,ho,hn⟩
 unfold nestS at n1
 cases hop:opensV i.op with
 | true=>
  rw [hop,if_pos rfl] at n1
  cases n1
  simp only [if_true]
  refine ⟨hk,?_,?_,?_⟩
  ·dsimp only
   rw [baseV_eq,List.reverse_append,List.reverse_singleton,List.singleton_append,baseR_cons]
   split
   ·exact Nat.le_refl _
   ·rw [←baseV_eq];omega
  ·dsimp only
   rw [List.reverse_append,List.reverse_singleton,List.singleton_append]
   exact ⟨hk,stkOk_nil m,by dsimp only;rw [←baseV_eq];omega,(fun h=>by cases h),ho⟩
  ·refine ⟨max D ((brR s.opn.reverse).length+1),t2,?_,n3,n4,?_⟩
   ·dsimp only
    rw [List.reverse_append,List.reverse_singleton,List.singleton_append]
    exact n2
   ·dsimp only;simp [brR];omega
 | false=>
  rw [hop,if_neg (by decide),if_neg h1,if_neg h2] at n1
  cases n1
  simp only [Bool.false_eq_true,if_false]
  exact ⟨hk,by dsimp only;omega,ho,D,t2,n2,n3,n4,n5⟩
theorem wf_else {l:List In3} (h:Wf m s (i :: l)) (hi:i.op=34):(stepV m lo i s).1=0∧Wf m (stepV m lo i s).2 l:=by
 obtain ⟨r,o,hs,h1,h2⟩:=h.else_ hi
 obtain ⟨D,u,t,n1,n2,n3,n4,n5⟩:=h.nest1
 obtain ⟨stk,opn⟩:=s
 dsimp only at hs
 subst hs
 obtain ⟨hk,hb,ho,-⟩:=h
 have e:stepV m lo i ⟨stk,r++[o]⟩=(0,⟨o.beg,r++[{ o with past:=stk,mid:=true }]⟩):=by
  unfold stepV
  rw [if_pos hi]
  simp
 rw [e]
 dsimp only at hk hb ho n1 n5 ⊢
 rw [List.reverse_append,List.reverse_singleton,List.singleton_append] at ho n1
 obtain ⟨o1,o2,o3,o4,o5⟩:=ho
 rw [baseV_eq,List.reverse_append,List.reverse_singleton,List.singleton_append,baseR_cons] at hb
 unfold nestS at n1
 rw [show opensV i.op=false from opens_not (.inl hi),if_neg (by decide),if_pos hi] at n1
 simp only [brR,List.map_cons] at n1
 rw [if_pos ⟨h1,h2⟩] at n1
 cases n1
 refine ⟨rfl,o1,?_,?_,D,t,?_,n3,n4,by simpa using n5⟩
 ·dsimp only
  rw [baseV_eq,List.reverse_append,List.reverse_singleton,List.singleton_append,baseR_cons,if_neg (by simp)]
  exact o3
 ·dsimp only
  rw [List.reverse_append,List.reverse_singleton,List.singleton_append]
  refine ⟨o1,hk,o3,fun _=>?_,o5⟩
  dsimp only
  split at hb<;>omega
 ·dsimp only
  rw [List.reverse_append,List.reverse_singleton,List.singleton_append]
  exact n2
theorem wf_end {l:List In3} (h:Wf m s (i :: l)) (hi:i.op=35) (he:(stepV m lo i s).1=0):Wf m (stepV m lo i s).2 l:=by
 obtain ⟨r,o,hs,h1⟩:=h.end_ hi
 obtain ⟨D,u,t,n1,n2,n3,n4,n5⟩:=h.nest1
 obtain ⟨stk,opn⟩:=s
 dsimp only at hs
 subst hs
 obtain ⟨hk,hb,ho,-⟩:=h
 dsimp only at hk hb ho n1 n5
 rw [List.reverse_append,List.reverse_singleton,List.singleton_append] at ho n1
 obtain ⟨o1,o2,o3,o4,o5⟩:=ho
 unfold nestS at n1
 rw [show opensV i.op=false from opens_not (.inr hi),if_neg (by decide),if_neg (by omega),if_pos hi] at n1
 simp only [brR,List.map_cons] at n1
 rw [if_neg h1] at n1
 cases n1
 unfold stepV at he ⊢
 rw [if_neg (by omega),if_pos hi] at he ⊢
 simp only [List.getLastD_concat,List.dropLast_concat] at he ⊢
 have hlen:baseR r.reverse≤(if o.mid=true then o.past else o.beg).length:=by
  cases hmid:o.mid
  ·rw [if_neg (by decide)];exact o3
  ·rw [if_pos rfl];exact o4 hmid
 generalize (if o.mid=true then o.past else o.beg)=want at he hlen ⊢
 split at he
 ·cases he
 ·rename_i q1
  split at he
  ·rename_i q2
   rw [if_neg q1,if_pos q2]
   refine ⟨hk,?_,o5,D,t,n2,n3,n4,by simp at n5;simp;omega⟩
   dsimp only
   rw [baseV_eq,q2]
   exact hlen
  ·cases he
end
def compP (acc:List (List Ty)) (q:List (List Ty) × Nat × Int):List (List Ty) × Nat × Int:=if q.2.2=0 then (acc++q.1,0,0) else ([],q.2)
theorem passF_ok {m:Md}{lo:List Ty}{r:Ty}:∀ (l:List In3) (n:Nat) (s:Ps),(passF m lo r n l s).2.2=0→(passF m lo r n l s).2.1=0
 | [],n,s,h=>by
  unfold passF at h ⊢
  split at h
  ·rename_i q;rw [if_pos q]
  ·rename_i q;exact absurd h q
 | i :: l,n,s,h=>by
  unfold passF at h ⊢
  split at h
  ·rename_i q
   rw [if_pos q]
   dsimp only at h ⊢
   split at h
   ·rename_i q2;rw [if_pos q2]
   ·rename_i q2;exact absurd h q2
  ·rename_i q;exact absurd h q
theorem passF_cons_ok {m:Md}{lo:List Ty}{r:Ty}{n:Nat}{i:In3}{l:List In3}{s:Ps} (h:(stepV m lo i s).1=0):passF m lo r n (i :: l) s=compP [s.stk] (passF m lo r (n+1) l (stepV m lo i s).2):=by
 conv=>lhs;unfold passF
 rw [if_pos h]
 rfl
theorem passF_cons_no {m:Md}{lo:List Ty}{r:Ty}{n:Nat}{i:In3}{l:List In3}{s:Ps} (h:(stepV m lo i s).1≠0):passF m lo r n (i :: l) s=([],n,(stepV m lo i s).1):=by
 conv=>lhs;unfold passF
 rw [if_neg h]
theorem compP_comp (a b:List (List Ty)) (q:List (List Ty) × Nat × Int):compP a (compP b q)=compP (a++b) q:=by
 unfold compP
 split
 ·simp
 ·simp
theorem compP_nil (q:List (List Ty) × Nat × Int) (h:q.2.2=0→q.2.1=0) (h2:q.2.2≠0→q.1=[]):compP [] q=q:=by
 obtain ⟨a,b,c⟩:=q
 unfold compP
 by_cases hc:c=0
 ·have:=h hc;dsimp only at this;subst this hc;simp
 ·have:=h2 hc;dsimp only at this;subst this;simp [hc]
theorem passF_no {m:Md}{lo:List Ty}{r:Ty}:∀ (l:List In3) (n:Nat) (s:Ps),(passF m lo r n l s).2.2≠0→(passF m lo r n l s).1=[]
 | [],n,s,h=>by
  unfold passF at h ⊢
  split at h
  ·exact absurd rfl h
  ·rename_i q;rw [if_neg q]
 | i :: l,n,s,h=>by
  unfold passF at h ⊢
  split at h
  ·rename_i q
   rw [if_pos q]
   dsimp only at h ⊢
   split at h
   ·exact absurd rfl h
   ·rename_i q2;rw [if_neg q2]
  ·rename_i q;rw [if_neg q]
theorem passF_start (m:Md) (lo:List Ty) (r:Ty) (l:List In3) (s:Ps):passF m lo r 0 l s=compP [] (passF m lo r 0 l s):=(compP_nil _ (passF_ok _ _ _) (passF_no _ _ _)).symm
end
section
open Go.RowKit
structure BrAt (w:World) (b:VB) (o:Opn):Prop where
 op:b.op=o.op
 mid:b.mid=o.mid
 bn:b.bn=o.beg.length
 fn:b.fn=o.past.length
 bg:TyAt w b.bo b.bc o.beg
 ps:TyAt w b.fo b.fc o.past
structure OpnAt (w:World) (N:Nat) (oo:Option Addr) (oc:Nat) (bs:List VB) (os:List Opn):Prop where
 own:w.ownsRow N 190 4 (.slice oo bs.length oc) bs.length (flatR bs)
 len:bs.length=os.length
 at_:∀ i,i<bs.length→BrAt w (bs.getD i default) (os.getD i default)
def oblk (K:Nat):Option Addr→Nat
 | none=>K
 | some a=>a.block
theorem own_eqV {w w':World}{base:Nat}{e:TypeId}{size:Nat}{v:Value}{n:Nat}{xs:List Value} (h:w.ownsRow base e size v n xs) (hk:∀ k,v.ownBlock=some k→w'.heap[k]?=w.heap[k]?):w'.ownsRow base e size v n xs:=by
 refine ⟨h.1,?_⟩
 rcases h.2 with h0|⟨g,c,cur,hv,hb,hg,h1,h2,h3,h4⟩
 ·exact .inl h0
 ·exact .inr ⟨g,c,cur,hv,hb,by rw [hk g (by rw [hv];rfl)];exact hg,h1,h2,h3,h4⟩
theorem BrAt.upd {w w':World}{b:VB}{o:Opn}{K B:Nat} (H:BrAt w b o) (h:Upd K B w w') (hK:NoTy w K) (hB:NoTy w B):BrAt w' b o:=
 ⟨H.op,H.mid,H.bn,H.fn,H.bg.upd h hK hB,H.ps.upd h hK hB⟩
section
variable {w:World}{N:Nat}{oo:Option Addr}{oc:Nat}{bs:List VB}{os:List Opn}(H:OpnAt w N oo oc bs os)
include w N oo oc bs os H
theorem OpnAt.blk {a:Addr} (ha:oo=some a):∃ g cur,a=⟨g,0,none⟩∧N≤g∧w.heap[g]?=some (.cells cur 190 (0,0)):=by
 exact k76
theorem OpnAt.noTy {K:Nat} (hK:NoTy w K):NoTy w (oblk K oo):=by
 exact k57
theorem OpnAt.ne {K:Nat} {h:Hd} {m:Md} {L S O:Value} {e:Int} (hc:Ck w K h m L S O e) {a:Addr} (ha:oo=some a):a.block≠K:=by
 exact k87
end
theorem OpnAt.upd {w w':World}{N:Nat}{oo:Option Addr}{oc:Nat}{bs:List VB}{os:List Opn}{K:Nat} (H:OpnAt w N oo oc bs os) (hu:Upd K K w w') (hK:NoTy w K) (hne:∀ a,oo=some a→a.block≠K):OpnAt w' N oo oc bs os:=by
 exact k51
def keyF (x:Int × Bool × Nat):Bool:=decide (x.1=33)&&!x.2.1
def keyN (l:List (Int × Bool × Nat)):Nat:=match l.reverse.find? keyF with
 | some x=>x.2.2
 | none=>0
theorem baseB_key (bs:List VB):baseB bs=keyN (bs.map fun b=>(b.op,b.mid,b.bn)):=by
 unfold baseB keyN
 rw [←List.map_reverse,List.find?_map]
 have e:(keyF ∘ fun b:VB=>(b.op,b.mid,b.bn))=fun o:VB=>decide (o.op=33)&&!o.mid:=rfl
 rw [e]
 cases bs.reverse.find? (fun o:VB=>decide (o.op=33)&&!o.mid)<;>rfl
theorem baseV_key (os:List Opn):baseV os=keyN (os.map fun b=>(b.op,b.mid,b.beg.length)):=by
 unfold baseV keyN
 rw [←List.map_reverse,List.find?_map]
 have e:(keyF ∘ fun b:Opn=>(b.op,b.mid,b.beg.length))=fun o:Opn=>decide (o.op=33)&&!o.mid:=rfl
 rw [e]
 cases os.reverse.find? (fun o:Opn=>decide (o.op=33)&&!o.mid)<;>rfl
theorem baseB_eq {w:World}{N:Nat}{oo:Option Addr}{oc:Nat}{bs:List VB}{os:List Opn} (H:OpnAt w N oo oc bs os):baseB bs=baseV os:=by
 exact k39
structure St (w0 w:World) (K:Nat) (h:Hd) (m:Md) (lo:Option Addr) (lc:Nat) (ls:List Ty) (s:Ps) (so:Option Addr) (sc:Nat) (oo:Option Addr) (oc:Nat) (bs:List VB):Prop where
 ck:Ck w K h m (.slice lo ls.length lc) (.slice so s.stk.length sc) (.slice oo bs.length oc) 0
 ts:TyAt w so sc s.stk
 op:OpnAt w w0.heap.size oo oc bs s.opn
 tl:TyAt w lo lc ls
 hb:Below w0.heap.size w0 w
 hK:w0.heap.size≤K
def midV (m:Md) (lo:List Ty) (i:In3) (s:Ps):Int × List Ty:=
 if s.stk.length<(cntV m i).1+baseV s.opn∨12<s.stk.length-(cntV m i).1+(cntV m i).2 then (12,s.stk)
 else match pushV m lo i (s.stk.drop (s.stk.length-(cntV m i).1)) with
  | none=>(11,s.stk)
  | some t=>(0,s.stk.take (s.stk.length-(cntV m i).1)++List.replicate (cntV m i).2 t)
theorem stepV_mid {m:Md}{lo:List Ty}{i:In3}{s:Ps} (h1:i.op≠34) (h2:i.op≠35):stepV m lo i s=((midV m lo i s).1,if (midV m lo i s).1=0 then ⟨(midV m lo i s).2,if opensV i.op then s.opn++[⟨i.op,(midV m lo i s).2,[],false⟩] else s.opn⟩ else s):=by
 unfold stepV midV
 rw [if_neg h1,if_neg h2]
 dsimp only
 split
 ·rfl
 ·cases pushV m lo i (s.stk.drop (s.stk.length-(cntV m i).1))<;>rfl
def DoEnd (w':World) (K:Nat) (h:Hd) (m:Md) (lo:Option Addr) (lc:Nat) (ls:List Ty) (oo:Option Addr) (oc:Nat) (bs:List VB) (q:Int × List Ty):Prop:=
 ∃ so sc st,Ck w' K h m (.slice lo ls.length lc) (.slice so st.length sc) (.slice oo bs.length oc) q.1∧TyAt w' so sc st∧st.length≤2000∧(q.1=0→st=q.2)
def DoPost (w:World) (K:Nat) (h:Hd) (m:Md) (lo:Option Addr) (lc:Nat) (ls:List Ty) (oo:Option Addr) (oc:Nat) (bs:List VB) (q:Int × List Ty) (r:Ending) (w':World):Prop:=
 (∃ v,r=.returned v)∧Upd K K w w'∧DoEnd w' K h m lo lc ls oo oc bs q
def StepEnd (w0 w':World) (K:Nat) (h:Hd) (m:Md) (lo:Option Addr) (lc:Nat) (ls:List Ty) (q:Int × Ps):Prop:=
 (q.1=0∧∃ so sc oo oc bs,St w0 w' K h m lo lc ls q.2 so sc oo oc bs)∨(q.1≠0∧∃ S O,Ck w' K h m (.slice lo ls.length lc) S O q.1)
def StepPost (w0 w:World) (K:Nat) (h:Hd) (m:Md) (lo:Option Addr) (lc:Nat) (ls:List Ty) (oo:Option Addr) (q:Int × Ps) (r:Ending) (w':World):Prop:=
 (∃ v,r=.returned v)∧Upd K (oblk K oo) w w'∧StepEnd w0 w' K h m lo lc ls q
section
variable {w0 w:World}{K:Nat}{h:Hd}{m:Md}{lo:Option Addr}{lc:Nat}{ls:List Ty}{s:Ps}{so:Option Addr}{sc:Nat}{oo:Option Addr}{oc:Nat}{bs:List VB}{i:In3}
section
variable (H:St w0 w K h m lo lc ls s so sc oo oc bs)
include H
theorem St.ne:∀ a,oo=some a→a.block≠K:=fun _ ha=>H.op.ne H.ck ha
theorem St.next {w':World} (hu:Upd K K w w') {so':Option Addr} {sc':Nat} {st:List Ty} (hc:Ck w' K h m (.slice lo ls.length lc) (.slice so' st.length sc') (.slice oo bs.length oc) 0) (ht:TyAt w' so' sc' st):
  St w0 w' K h m lo lc ls ⟨st,s.opn⟩ so' sc' oo oc bs:=
 ⟨hc,ht,H.op.upd hu H.ck.noTy H.ne,H.tl.upd hu H.ck.noTy H.ck.noTy,hu.below H.hb (Nat.le_refl _) H.hK H.hK,H.hK⟩
theorem step_of_do (h1:i.op≠34) (h2:i.op≠35) (h3:opensV i.op=false) {r:Ending} {w':World} (hd:DoPost w K h m lo lc ls oo oc bs (midV m ls i s) r w'):StepPost w0 w K h m lo lc ls oo (stepV m ls i s) r w':=by
 obtain ⟨hv,hu,so',sc',st,hc,ht,_,he⟩:=hd
 refine ⟨hv,hu.more,?_⟩
 rw [stepV_mid h1 h2,h3]
 by_cases h0:(midV m ls i s).1=0
 ·refine .inl ⟨h0,so',sc',oo,oc,bs,?_⟩
  simp only [if_pos h0,Bool.false_eq_true,if_false]
  have:=he h0
  subst this
  exact H.next hu (by rw [←h0];exact hc) ht
 ·exact .inr ⟨h0,_,_,hc⟩
end
def ClPost (W:World) (K:Nat) (h:Hd) (m:Md) (L S O:Value) (P:List Ty→Int→Prop) (r:Ending) (w':World):Prop:=
 ∃ ro rc out e',r=.returned (.slice ro out.length rc)∧TyAt w' ro rc out∧Ck w' K h m L S O e'∧Upd K K W w'∧P out e'
def ResP (n:Nat) (q:Option Ty) (out:List Ty) (e':Int):Prop:=out.length≤1000∧match q with
 | none=>e'=11
 | some t=>e'=0∧out=List.replicate n t
theorem ResP.of {n:Nat}{q:Option Ty}{out:List Ty}{e':Int} (hl:out.length≤1000) (h0:q=none→e'=11) (h1:∀ t,q=some t→e'=0∧out=List.replicate n t):ResP n q out e':=by
 refine ⟨hl,?_⟩
 cases q with
 | none=>exact h0 rfl
 | some t=>exact h1 t rfl
theorem do_mid (HW:stkOk m s.stk) (H:St w0 w K h m lo lc ls s so sc oo oc bs) (hd:s.opn.length≤6) (tk ps g:Nat) (caps:Array Value) (hcn:cntV m i=(tk,ps)) (htk:tk≤1000) (hps:ps≤1000)
  (cf:∀ A W,(callFunc g (A++caps)).run Tryz.prog W=.ok (.enter g (A++caps)) W)
  (hg:∀ l,l.length=tk→s.stk.drop (s.stk.length-tk)=l→∀ w1 to' tc,Upd K K w w1→Ck w1 K h m (.slice lo ls.length lc) (.slice so s.stk.length sc) (.slice oo bs.length oc) 0→w1.ownsRow w.heap.size 35 2 (.slice to' tk tc) tk (flatR l) →
   Calls Tryz.prog g (#[.slice to' tk tc]++caps) w1 (ClPost w1 K h m (.slice lo ls.length lc) (.slice so s.stk.length sc) (.slice oo bs.length oc) (ResP ps (pushV m ls i l)))) :
  Calls Tryz.prog 171 #[.pointer (some ⟨K,0,none⟩),.int .i64 tk,.int .i64 ps,.func (Fn.func g) #[] caps] w (DoPost w K h m lo lc ls oo oc bs (midV m ls i s)):=by
 have hb:=baseB_eq H.op
 have hlen:=H.op.len
 have hstk:=HW.1
 refine (do_any K h m (.slice lo ls.length lc) so sc s.stk oo oc bs 0 tk ps g caps (ResP ps (pushV m ls i (s.stk.drop (s.stk.length-tk)))) w H.ck H.ts (by omega) (RowAt.of_own H.op.own) (by omega) (by omega) ⟨by omega,by omega⟩ cf (fun out e' h=>h.1) ?_).mono ?_
 ·intro hle w1 to' tc hu hck hown
  refine (hg _ (by simp;omega) rfl w1 to' tc hu hck hown).mono ?_
  rintro r w2 ⟨ro,rc,out,e',hr,h1,h2,h3,h4⟩
  exact ⟨ro,rc,out,e',hr,h1,h2,hu.trans h3,h4⟩
 ·exact k24
end
end
section
theorem ty_int (m:Md):tyOk m tInt:=by unfold tyOk isTy tInt;simp
theorem ty_mk {m:Md}{k c:Int} (hk:k=2∨k=4) (h0:0≤c) (h1:c<m.cl.length):tyOk m ⟨k,c⟩:=by unfold tyOk isTy;simp [hk,h0,h1]
theorem ty_cls {m:Md}{t:Ty} (h:tyOk m t) (hk:t.k=2∨t.k=4):0≤t.c∧t.c<m.cl.length:=by
 unfold tyOk isTy at h
 rw [if_pos hk] at h
 simpa using h
theorem ty_none {m:Md}{t:Ty} (h:isTy m.cl.length t 0=true) (hk:t.k≠0):tyOk m t:=by
 unfold tyOk
 unfold isTy at h ⊢
 split at h
 ·rename_i q;rw [if_pos q];exact h
 ·rename_i q
  rw [if_neg q]
  split at h
  ·rename_i q2
   rw [if_pos q2]
   simp only [Bool.and_eq_true,decide_eq_true_eq] at h ⊢
   omega
  ·cases h
theorem ty_kind {m:Md}{t:Ty} (h:tyOk m t):t.k=1∨t.k=2∨t.k=3∨t.k=4:=by
 unfold tyOk isTy at h
 split at h
 ·omega
 ·split at h
  ·simp only [Bool.and_eq_true,decide_eq_true_eq] at h;omega
  ·cases h
theorem ty_zero {m:Md}{t:Ty} (h:tyOk m t) (hk:t.k=1∨t.k=3):t.c=0:=by
 unfold tyOk isTy at h
 rw [if_neg (by omega),if_pos (by omega)] at h
 simp only [Bool.and_eq_true,decide_eq_true_eq] at h
 exact h.2
section
variable {m:Md}(h:modV m=true)
include m h
theorem modV_clsN:∀ k,k<m.cl.length→clsV m k=true:=by
 simp only [modV,Bool.and_eq_true,all_range_iff] at h;exact h.1.1.2
theorem modV_mthN:∀ k,k<m.me.length→mthV m k=true:=by
 simp only [modV,Bool.and_eq_true,all_range_iff] at h;exact h.1.2
theorem modV_alike:∀ s,s<m.sel.toNat→alikeV m s=true:=by
 simp only [modV,Bool.and_eq_true,all_range_iff] at h;exact h.2
theorem modV_sizes:sizesV m=true:=by
 simp only [modV,Bool.and_eq_true] at h;exact h.1.1.1.1
theorem fields_ty {c:Int} (h0:0≤c) (h1:c<m.cl.length):∀ t∈(m.cl.getD c.toNat default).f,tyOk m t:=by
 have hc:=modV_clsN h c.toNat (by omega)
 simp only [clsV,Bool.and_eq_true,tysV,List.all_eq_true] at hc
 exact hc.1.1.1.2
theorem statics_ty:∀ t∈m.st,tyOk m t:=by
 have hc:=modV_sizes h
 simp only [sizesV,Bool.and_eq_true,tysV,List.all_eq_true] at hc
 exact hc.2
end
structure MthOk (m:Md) (k:Nat):Prop where
 p:∀ t∈(m.me.getD k default).p,tyOk m t
 l:∀ t∈(m.me.getD k default).l,tyOk m t
 r:isTy m.cl.length (m.me.getD k default).r 0=true
 i:∀ i∈(m.me.getD k default).k,insnV false i=true∧opdV m k i=true
 n:nestV (m.me.getD k default).k=true
 c:-1≤(m.me.getD k default).c∧(m.me.getD k default).c<m.cl.length
 z:(m.me.getD k default).p.length≤4∧(m.me.getD k default).l.length≤10∧(m.me.getD k default).k.length≤120
section
variable {m:Md}(h:modV m=true){k:Nat}(hk:k<m.me.length)
include m h k hk
theorem mth_ok:MthOk m k:=by
 have hm:=modV_mthN h k hk
 simp only [mthV,Bool.and_eq_true,tysV,List.all_eq_true,decide_eq_true_eq] at hm
 obtain ⟨⟨⟨⟨⟨⟨⟨⟨h1,h2⟩,h3⟩,h4⟩,h5⟩,h6⟩,h7⟩,h8⟩,h9⟩:=hm
 have hc:¬ 120<(m.me.getD k default).k.length∧(m.me.getD k default).k.all (insnV false)=true∧nestV (m.me.getD k default).k=true:=by
  unfold codeE at h8
  split at h8
  ·cases h8
  ·rename_i q1
   split at h8
   ·rename_i q2
    split at h8
    ·rename_i q3;exact ⟨q1,q2,q3⟩
    ·cases h8
   ·cases h8
 refine ⟨h4,h6,h7,fun i hi=>⟨List.all_eq_true.1 hc.2.1 i hi,h9 i hi⟩,hc.2.2,⟨h1,h2⟩,h3,?_,by omega⟩
 split at h5<;>omega
theorem own_neg:∀ t∈localsV (m.me.getD k default),tyOk m t:=by
 have hm:=mth_ok h hk
 intro t ht
 simp only [localsV,List.mem_append] at ht
 rcases ht with (ht|ht)|ht
 ·split at ht
  ·rename_i q
   rw [List.mem_singleton.1 ht]
   exact ty_mk (.inl rfl) q hm.c.2
  ·cases ht
 ·exact hm.p t ht
 ·exact hm.l t ht
theorem locals_len:(localsV (m.me.getD k default)).length≤15:=by
 have hm:=(mth_ok h hk).z
 generalize m.me.getD k default=x at hm ⊢
 simp only [localsV,List.length_append]
 split<;>simp only [List.length_cons,List.length_nil]<;>omega
end
theorem insn_op {i:In3}{p:Bool} (h:insnV p i=true):0≤i.op∧i.op<36:=by
 simp only [insnV,Bool.and_eq_true,decide_eq_true_eq] at h;exact h.1.1.1
structure OpdOk (m:Md) (k:Nat) (i:In3):Prop where
 a0:i.op≠1→0≤i.a
 b0:0≤i.b
 o2:i.op=2∨i.op=3→i.a≤9
 o12:i.op=12→(i.a=2∨i.a=3∨i.a=4)∧(i.a=3→i.b=0)∧(i.a≠3→i.b<m.cl.length)
 o14:i.op=14∨i.op=24→i.a<m.cl.length
 o16:i.op=16→i.b<m.cl.length
 o22:i.op=22∨i.op=23→i.a<m.st.length
 o25:i.op=25→i.a<k∧m.own i.a<0
 o26:i.op=26→i.a<m.sel∧∀ t∈tgtV m i.a,t<k
theorem opd_ok {m:Md}{k:Nat}{i:In3} (h:insnV false i=true) (h2:opdV m k i=true):OpdOk m k i:=by
 obtain ⟨op,a,b⟩:=i
 have h3:=insn_op h
 dsimp only at h3
 simp only [insnV,Bool.and_eq_true,decide_eq_true_eq,Bool.not_eq_true',Bool.and_eq_false_iff,decide_eq_false_iff_not] at h
 obtain ⟨⟨⟨⟨_,_⟩,ha⟩,hb⟩,h12⟩:=h
 obtain ⟨n,rfl⟩:∃ n:Nat,op=n:=⟨op.toNat,by omega⟩
 have hn:n<36:=by omega
 rw [Int.toNat_natCast] at ha hb
 have hA:n≠1→0≤a:=by
  intro h1
  have hr:opA.getD n 0≠1:=by
   have:∀ n:Fin 36,n.val≠1→opA.getD n.val 0≠1:=by decide
   exact this ⟨n,hn⟩ h1
  unfold inR at ha
  simp only [Bool.false_and,Bool.false_eq_true,if_false] at ha
  rw [if_neg hr] at ha
  split at ha<;>(try split at ha)<;>simp only [inI,Bool.and_eq_true,decide_eq_true_eq] at ha<;>omega
 have hB:0≤b:=by
  have hr:opB.getD n 0=0∨opB.getD n 0=2∨opB.getD n 0=4:=by
   have:∀ n:Fin 36,opB.getD n.val 0=0∨opB.getD n.val 0=2∨opB.getD n.val 0=4:=by decide
   exact this ⟨n,hn⟩
  unfold inR at hb
  simp only [Bool.false_and,Bool.false_eq_true,if_false] at hb
  rw [if_neg (by omega),if_neg (by omega),if_neg (by omega)] at hb
  simp only [inI,Bool.and_eq_true,decide_eq_true_eq] at hb
  exact hb.1
 refine ⟨fun h1=>hA (by dsimp only at h1;omega),hB,?_,?_,?_,?_,?_,?_,?_⟩<;>dsimp only<;>intro hop
 ·have:opA.getD n 0=2:=by rcases hop with hop|hop<;>((obtain rfl:n=_:=(by exact_mod_cast hop));rfl)
  rw [this] at ha
  have hr:inI a 0 9=true:=ha
  simp only [inI,Bool.and_eq_true,decide_eq_true_eq] at hr
  exact hr.2
 ·obtain rfl:n=12:=by omega
  have hr:inI a 2 4=true:=ha
  simp only [inI,Bool.and_eq_true,decide_eq_true_eq] at hr
  have h2':(decide (a=3)||(decide (0≤b)&&decide (b<m.cl.length)))=true:=h2
  simp only [Bool.or_eq_true,Bool.and_eq_true,decide_eq_true_eq] at h2'
  refine ⟨by omega,fun h3=>?_,fun h3=>by omega⟩
  by_cases hb0:b=0
  ·exact hb0
  ·rcases h12 with (q|q)|q
   ·exact absurd rfl q
   ·exact absurd h3 q
   ·simp at q;exact q
 ·have h2':(decide (0≤a)&&decide (a<m.cl.length))=true:=by
   rcases hop with hop|hop<;>((obtain rfl:n=_:=(by exact_mod_cast hop));exact h2)
  simp only [Bool.and_eq_true,decide_eq_true_eq] at h2'
  exact h2'.2
 ·obtain rfl:n=16:=by omega
  have h2':(decide (0≤b)&&decide (b<m.cl.length))=true:=h2
  simp only [Bool.and_eq_true,decide_eq_true_eq] at h2'
  exact h2'.2
 ·have h2':decide (a<m.st.length)=true:=by
   rcases hop with hop|hop<;>((obtain rfl:n=_:=(by exact_mod_cast hop));exact h2)
  simpa using h2'
 ·obtain rfl:n=25:=by omega
  have h2':(decide (a<k)&&decide (m.own a<0))=true:=h2
  simpa using h2'
 ·obtain rfl:n=26:=by omega
  have h2':(decide (a<m.sel)&&(tgtV m a).all fun t=>decide (t<k))=true:=h2
  simpa using h2'
theorem tgt_nn {m:Md}{s t:Int} (h:t∈tgtV m s):0≤t:=by
 unfold tgtV at h
 rw [sortV_mem] at h
 simpa using (List.mem_filter.1 h).2
theorem getD_mem {α:Type} (d:α) {l:List α}{n:Nat} (h:n<l.length):l.getD n d∈l:=by
 rw [show l.getD n d=l[n] by simp [h]];exact List.getElem_mem h
theorem callee_ok {m:Md}{k:Nat}{i:In3} (h:OpdOk m k i) (hop:i.op=25∨i.op=26) {x:Mth} (hx:calleeV m i=some x):∃ j,j<k∧x=m.me.getD j default∧(i.op=25→j=i.a.toNat)∧(i.op=26→(j:Int)∈tgtV m i.a∧∃ r,tgtV m i.a=(j:Int) :: r):=by
 unfold calleeV at hx
 rcases hop with hop|hop
 ·rw [if_pos hop] at hx
  cases hx
  have h1:=h.a0 (by omega)
  have h2:=(h.o25 hop).1
  exact ⟨i.a.toNat,by omega,rfl,fun _=>rfl,fun q=>by omega⟩
 ·rw [if_neg (by omega)] at hx
  split at hx
  ·cases hx
  ·rename_i t r ht
   cases hx
   have hm:t∈tgtV m i.a:=by rw [ht];exact List.mem_cons_self
   have h1:=(h.o26 hop).2 t hm
   have h2:=tgt_nn hm
   refine ⟨t.toNat,by omega,rfl,fun q=>by omega,fun _=>?_⟩
   rw [show ((t.toNat:Nat):Int)=t by omega]
   exact ⟨hm,r,ht⟩
section
variable {m:Md}{lo:List Ty}{i:In3}{l:List Ty}
theorem pv1 (h:i.op=1):pushV m lo i l=some tInt:=by
 exact k14
theorem pv2 (h:i.op=2):pushV m lo i l=lo[i.a.toNat]?:=by
 exact k14
theorem pv3 (h:i.op=3):pushV m lo i l=if fitsO m (l.getD 0 default) lo[i.a.toNat]? then some ty0 else none:=by
 exact k14
theorem pv4 (h:i.op=4):pushV m lo i l=some ty0:=by
 exact k14
theorem pv5 (h:i.op=5):pushV m lo i l=some (l.getD 0 default):=by
 exact k14
theorem pv6 (h:i.op=6∨i.op=7∨i.op=8∨i.op=9∨i.op=10∨i.op=11):pushV m lo i l=if decide (l.getD 0 default=tInt)&&decide (l.getD 1 default=tInt) then some tInt else none:=by
 rcases h with h|h|h|h|h|h<;>(obtain ⟨op,a,b⟩:=i;dsimp only at h;subst h;rfl)
theorem pv12 (h:i.op=12):pushV m lo i l=some ⟨i.a,i.b⟩:=by
 exact k14
theorem pv13 (h:i.op=13):pushV m lo i l=if decide (l.getD 0 default≠tInt) then some tInt else none:=by
 exact k14
theorem pv14 (h:i.op=14):pushV m lo i l=some ⟨2,i.a⟩:=by
 exact k14
theorem pv15 (h:i.op=15):pushV m lo i l=some ⟨3,0⟩:=by
 exact k14
theorem pv16 (h:i.op=16):pushV m lo i l=some ⟨4,i.b⟩:=by
 exact k14
theorem pv17 (h:i.op=17):pushV m lo i l=fldV m (l.getD 0 default) i.a:=by
 exact k14
theorem pv18 (h:i.op=18):pushV m lo i l=if fitsO m (l.getD 1 default) (fldV m (l.getD 0 default) i.a) then some ty0 else none:=by
 exact k14
theorem pv19 (h:i.op=19):pushV m lo i l=if l.getD 1 default=tInt then elemV (l.getD 0 default) else none:=by
 exact k14
theorem pv20 (h:i.op=20):pushV m lo i l=if decide (l.getD 1 default=tInt)&&fitsO m (l.getD 2 default) (elemV (l.getD 0 default)) then some ty0 else none:=by
 exact k14
theorem pv21 (h:i.op=21):pushV m lo i l=if (elemV (l.getD 0 default)).isSome then some tInt else none:=by
 exact k14
theorem pv22 (h:i.op=22):pushV m lo i l=some (m.st.getD i.a.toNat default):=by
 exact k14
theorem pv23 (h:i.op=23):pushV m lo i l=if fitsV m (l.getD 0 default) (m.st.getD i.a.toNat default) then some ty0 else none:=by
 exact k14
theorem pv24 (h:i.op=24):pushV m lo i l=if decide ((l.getD 0 default).k=2)&&(fitsV m (l.getD 0 default) ⟨2,i.a⟩||fitsV m ⟨2,i.a⟩ (l.getD 0 default)) then some ⟨2,i.a⟩ else none:=by
 exact k14
theorem pv25 (h:i.op=25):pushV m lo i l=if ((List.range (m.me.getD i.a.toNat default).p.length).all fun k=>fitsV m (l.getD k default) ((m.me.getD i.a.toNat default).p.getD k default)) then some (m.me.getD i.a.toNat default).r else none:=by
 exact k14
theorem pv26 (h:i.op=26):pushV m lo i l=match calleeV m i with
  | none=>none
  | some x=>if (decide ((l.getD 0 default).k=2)&&decide (0≤m.ent (l.getD 0 default).c i.a.toNat)&&(List.range x.p.length).all fun k=>fitsV m (l.getD (k+1) default) (x.p.getD k default)) then some x.r else none:=by
 exact k14
theorem pv27 (h:i.op=27∨i.op=29):pushV m lo i l=if decide (l.getD 0 default=tInt) then some ty0 else none:=by
 rcases h with h|h<;>(obtain ⟨op,a,b⟩:=i;dsimp only at h;subst h;rfl)
theorem pv30 (h:i.op=30):pushV m lo i l=if decide (l.getD 0 default=tInt)&&decide (lo[i.b.toNat]?=some tInt) then some ty0 else none:=by
 exact k14
theorem pvx (h:i.op=0∨i.op=4∨i.op=28∨(31≤i.op∧i.op≤35)):pushV m lo i l=some ty0:=by
 unfold pushV
 dsimp only
 repeat rw [if_neg (by omega)]
theorem cv01 (h:i.op=1∨i.op=2∨i.op=12∨i.op=14∨i.op=15∨i.op=16∨i.op=22):cntV m i=(0,1):=by
 rcases h with h|h|h|h|h|h|h<;>(obtain ⟨op,a,b⟩:=i;dsimp only at h;subst h;rfl)
theorem cv10 (h:i.op=3∨i.op=4∨i.op=23∨i.op=27∨i.op=29∨i.op=30):cntV m i=(1,0):=by
 rcases h with h|h|h|h|h|h<;>(obtain ⟨op,a,b⟩:=i;dsimp only at h;subst h;rfl)
theorem cv12 (h:i.op=5):cntV m i=(1,2):=by
 exact k14
theorem cv21 (h:i.op=6∨i.op=7∨i.op=8∨i.op=9∨i.op=10∨i.op=11∨i.op=19):cntV m i=(2,1):=by
 rcases h with h|h|h|h|h|h|h<;>(obtain ⟨op,a,b⟩:=i;dsimp only at h;subst h;rfl)
theorem cv11 (h:i.op=13∨i.op=17∨i.op=21∨i.op=24):cntV m i=(1,1):=by
 rcases h with h|h|h|h<;>(obtain ⟨op,a,b⟩:=i;dsimp only at h;subst h;rfl)
theorem cv20 (h:i.op=18):cntV m i=(2,0):=by
 exact k14
theorem cv30 (h:i.op=20):cntV m i=(3,0):=by
 exact k14
theorem cv25 (h:i.op=25):cntV m i=((m.me.getD i.a.toNat default).p.length,if (m.me.getD i.a.toNat default).r.k=0 then 0 else 1):=by
 exact k14
theorem cv26 (h:i.op=26):cntV m i=match calleeV m i with
  | none=>(0,0)
  | some x=>(x.p.length+1,if x.r.k=0 then 0 else 1):=by
 exact k14
theorem cvx (h:i.op=0∨i.op=28∨(31≤i.op∧i.op≤35)):cntV m i=(0,0):=by
 unfold cntV
 repeat rw [if_neg (by omega)]
end
theorem ite_some {α:Type}{c:Prop} [Decidable c] {x t:α} (h:(if c then some x else none)=some t):c∧x=t:=by
 split at h
 ·rename_i q;cases h;exact ⟨q,rfl⟩
 ·cases h
section
variable {m:Md}(hm:modV m=true){lo:List Ty}(hlo:∀ t∈lo,tyOk m t){k:Nat}(hk:k<m.me.length){i:In3}(ho:0≤i.op∧i.op<36)
include m hm lo hlo k hk i ho
theorem pushV_ty (h:OpdOk m k i) {l:List Ty} (hl:∀ t∈l,tyOk m t) (hlen:l.length=(cntV m i).1) {t:Ty} (ht:pushV m lo i l=some t):
  (cntV m i).2=0∨tyOk m t:=by
 have cls:i.op=1∨i.op=2∨i.op=5∨(i.op=6∨i.op=7∨i.op=8∨i.op=9∨i.op=10∨i.op=11)∨i.op=12∨i.op=13∨i.op=14∨i.op=15∨i.op=16∨i.op=17∨i.op=19∨i.op=21∨i.op=22∨i.op=24∨i.op=25∨i.op=26∨(i.op=3∨i.op=4∨i.op=23∨i.op=27∨i.op=29∨i.op=30)∨i.op=18∨i.op=20∨(i.op=0∨i.op=28∨(31≤i.op∧i.op≤35)):=by omega
 rcases cls with q|q|q|q|q|q|q|q|q|q|q|q|q|q|q|q|q|q|q|q
 ·rw [pv1 q] at ht;cases ht;exact .inr (ty_int m)
 ·rw [pv2 q] at ht;exact .inr (hlo t (List.mem_of_getElem? ht))
 ·rw [pv5 q] at ht
  cases ht
  exact .inr (hl _ (getD_mem _ (by rw [hlen,cv12 q];decide)))
 ·rw [pv6 q] at ht
  rw [←(ite_some ht).2];exact .inr (ty_int m)
 ·rw [pv12 q] at ht
  cases ht
  obtain ⟨h1,h2,h3⟩:=h.o12 q
  have h4:=h.b0
  rcases h1 with h1|h1|h1
  ·exact .inr (ty_mk (.inl h1) h4 (h3 (by omega)))
  ·refine .inr ?_
   rw [h1,h2 h1]
   unfold tyOk isTy;simp
  ·exact .inr (ty_mk (.inr h1) h4 (h3 (by omega)))
 ·rw [pv13 q] at ht
  rw [←(ite_some ht).2];exact .inr (ty_int m)
 ·rw [pv14 q] at ht
  cases ht;exact .inr (ty_mk (.inl rfl) (h.a0 (by omega)) (h.o14 (.inl q)))
 ·rw [pv15 q] at ht
  cases ht;exact .inr (by unfold tyOk isTy;simp)
 ·rw [pv16 q] at ht
  cases ht;exact .inr (ty_mk (.inr rfl) h.b0 (h.o16 q))
 ·rw [pv17 q] at ht
  unfold fldV at ht
  split at ht
  ·rename_i q2
   have ha:=hl (l.getD 0 default) (getD_mem _ (by rw [hlen,cv11 (by omega)];decide))
   obtain ⟨c0,c1⟩:=ty_cls ha (.inl q2)
   exact .inr (fields_ty hm c0 c1 t (List.mem_of_getElem? ht))
  ·cases ht
 ·rw [pv19 q] at ht
  split at ht
  ·unfold elemV at ht
   split at ht
   ·cases ht;exact .inr (ty_int m)
   ·split at ht
    ·rename_i q2
     have ha:=hl (l.getD 0 default) (getD_mem _ (by rw [hlen,cv21 (by omega)];decide))
     obtain ⟨c0,c1⟩:=ty_cls ha (.inr q2)
     cases ht
     exact .inr (ty_mk (.inl rfl) c0 c1)
    ·cases ht
  ·cases ht
 ·rw [pv21 q] at ht
  rw [←(ite_some ht).2];exact .inr (ty_int m)
 ·rw [pv22 q] at ht
  cases ht
  have h1:=h.o22 (.inl q)
  have h2:=h.a0 (by omega)
  exact .inr (statics_ty hm _ (getD_mem _ (by omega)))
 ·rw [pv24 q] at ht
  rw [←(ite_some ht).2]
  exact .inr (ty_mk (.inl rfl) (h.a0 (by omega)) (h.o14 (.inr q)))
 ·rw [pv25 q] at ht
  rw [←(ite_some ht).2]
  have hx:calleeV m i=some (m.me.getD i.a.toNat default):=by unfold calleeV;rw [if_pos q]
  obtain ⟨j,hj,he,_⟩:=callee_ok h (.inl q) hx
  have hr:=(mth_ok hm (k:=j) (by omega)).r
  rw [←he] at hr
  by_cases h0:(m.me.getD i.a.toNat default).r.k=0
  ·exact .inl (by rw [cv25 q];exact if_pos h0)
  ·exact .inr (ty_none hr h0)
 ·rw [pv26 q] at ht
  rw [cv26 q]
  split at ht
  ·cases ht
  ·rename_i x hx
   rw [←(ite_some ht).2]
   obtain ⟨j,hj,he,_⟩:=callee_ok h (.inr q) hx
   have hr:=(mth_ok hm (k:=j) (by omega)).r
   rw [←he] at hr
   by_cases h0:x.r.k=0
   ·exact .inl (by simp [h0])
   ·exact .inr (ty_none hr h0)
 ·exact .inl (by rw [cv10 q])
 ·exact .inl (by rw [cv20 q])
 ·exact .inl (by rw [cv30 q])
 ·exact .inl (by rw [cvx q])
theorem wf_step (hi:OpdOk m k i) {s:Ps} {l:List In3} (h:Wf m s (i :: l)) (he:(stepV m lo i s).1=0):Wf m (stepV m lo i s).2 l:=by
 by_cases h1:i.op=34
 ·exact (wf_else h h1).2
 ·by_cases h2:i.op=35
  ·exact wf_end h h2 he
  ·refine wf_plain h h1 h2 he fun t ht=>?_
   obtain ⟨_,_,hc,_⟩:=stepV_plain h1 h2 he
   refine pushV_ty hm hlo hk ho hi (fun u hu=>h.stk.2 u (List.mem_of_mem_drop hu)) ?_ ht
   simp;omega
end
end
section
open Go.RowKit
theorem blk_ne {w:World}{a b:Nat}{xs ys:Array Value}{t u:TypeId} (h1:Blk w a xs t) (h2:Blk w b ys u) (hne:t≠u):a≠b:=by
 rintro rfl
 have h3:=h1.symm.trans h2
 cases h3
 exact hne rfl
theorem wpOp_skipD {P:Program}{ops:Array Oper}{Q:Exit→Act→World→Prop}{a:Act}{w:World}{k:Nat}{K:Act→World→Prop} (d:Tmp) (hs:(ops[k]?.map fun o=>(o.dst,Region.wanted o (yielded ops a.tmps)))=some (some d,false)) (h:K { a with tmps:=a.tmps.setIfInBounds d undef } w):wpOp P ops Q k K a w:=by
 cases ho:ops[k]? with
 | none=>rw [ho] at hs;cases hs
 | some o=>
  rw [ho] at hs
  have h2:=Option.some.inj hs
  have h3:o.dst=some d:=congrArg Prod.fst h2
  refine wpOp_skip o ho (congrArg Prod.snd h2) ?_
  rw [h3]
  exact h
theorem Ck.drew {w:World}{K:Nat}{h:Hd}{m:Md}{L S O:Value}{e:Int} (H:Ck w K h m L S O e):Ck w.drew K h m L S O e:=H
theorem own_ty {W:World}{base:Nat}{to':Option Addr}{n tc:Nat}{xs:List Value} (h:W.ownsRow base 35 2 (.slice to' (n+1) tc) (n+1) xs) {K:Nat}{hd:Hd}{m:Md}{L S O:Value}{e:Int} (H:Ck W K hd m L S O e) :
  ∃ g,to'=some ⟨g,0,none⟩∧g≠K∧g<W.heap.size∧n+1≤tc∧∀ j v,xs[j]?=some v→W.cell? ⟨g,j,none⟩=some v:=by
 rcases h.2 with ⟨_,hn⟩|⟨g,c,cur,hv,hb,hg,hle,hm,hs,hx⟩
 ·omega
 ·cases hv
  refine ⟨g,rfl,fun q=>?_,(Array.getElem?_eq_some_iff.1 hg).1,hle,fun j v hj=>?_⟩
  ·rw [q,show W.heap[K]?=_ from H] at hg
   cases hg
  ·rw [cell_of_row W g j cur _ _ hg]
   rw [←hx,List.getElem?_take] at hj
   split at hj
   ·simpa using hj
   ·cases hj
section
variable {W w:World}{K:Nat}{h:Hd}{m:Md}{L St O:Value}{e:Int}
theorem clS {l:List (Addr × Value)} (hl:Cs l W) (hne:∀ p∈l,p.1.block≠K) (H:Ck W K h m L St O e):∀ w' e',Upd K K W w'→Ck w' K h m L St O e'→Cs l w':=by
 intro w' e' hu hc
 clear H hc
 induction l with
 | nil=>trivial
 | cons p l ih=>exact ⟨hu.cell hl.1 (hne p List.mem_cons_self) (hne p List.mem_cons_self),ih hl.2 fun q hq=>hne q (List.mem_cons_of_mem _ hq)⟩
variable {P:Program}{S:World→Prop}{Q:Exit→Act→World→Prop}{l:List Oper}{k:Nat}{t:Ord}{a a':Act}{o:Oper} (HS:∀ w' e',Upd K K W w'→Ck w' K h m L St O e'→S w') (HU:RowKit.Hid (Upd K K W w)) (HC:RowKit.Hid (Ck w K h m L St O e))
include HS HU HC
theorem kR {id:Nat} (t:Ord) (g:RowKit.Hid (Upd K K W w.drew)→RowKit.Hid (Ck w.drew K h m L St O e)→wpMixO P l Q S t a w.drew) (hm:P.follows .mixedOrders=true:=by kernel_rfl)
  (hB:(Region.noSelect l.toArray&&decide (t.len=l.length)&&t.inB l.length&&lexO .any l.toArray t (Array.replicate l.length false))=true:=by kernel_rfl) (hQ:∀ c a d v w,Q (.panic c) (Act.put a d v) w→Q (.panic c) a w:=by intro c a d v w h;cases d<;>exact h):(Code.region id l.toArray true).wp P Q a w:=
 wp_mixO S t hm hB hQ (HS _ _ HU.drew HC) (g HU.drew HC)
theorem kB {f:Nat}{args:Array Value}{v:Value} (hc:Calls P f args w (Ret w v)) (g:∀ w',RowKit.Hid (Upd K K W w')→RowKit.Hid (Ck w' K h m L St O e)→wpMixO P l Q S t a' w') (ho:l.toArray[k]?=some o:=by rfl) (hw:Region.wanted o (yielded l.toArray a.tmps)=true:=by rfl)
  (hq:∀ Kv:Act→World→Prop,Calls P f args w (Ret w v)→(∀ w',Below w.heap.size w w'→Kv a' w')→o.wp P a w Kv Q:=by intro Kv hc hk;go_simp;refine hc.mono ?_;rintro _ w' ⟨rfl,hb⟩;exact hk w' hb):wpMixO P l Q S (.one k t) a w:=
 oO (fun Kv hK=>hq Kv hc fun w' hb=>hK _ _ ⟨HS _ _ (HU.bel hb) (HC.old hb),g w' (HU.bel hb) (HC.old hb)⟩) ho hw
theorem kV {f:Nat}{args:Array Value}{v:Value}{e2:Int} (hc:Calls P f args w fun r w'=>r=.returned v∧Ck w' K h m L St O e2∧Upd K K w w') (g:∀ w',RowKit.Hid (Upd K K W w')→RowKit.Hid (Ck w' K h m L St O e2)→wpMixO P l Q S t a' w') (ho:l.toArray[k]?=some o:=by rfl) (hw:Region.wanted o (yielded l.toArray a.tmps)=true:=by rfl)
  (hq:∀ Kv:Act→World→Prop,(Calls P f args w fun r w'=>r=.returned v∧Ck w' K h m L St O e2∧Upd K K w w')→(∀ w',Ck w' K h m L St O e2→Upd K K w w'→Kv a' w')→o.wp P a w Kv Q:=by intro Kv hc hk;go_simp;refine hc.mono ?_;rintro _ w' ⟨rfl,h1,h2⟩;exact hk w' h1 h2):wpMixO P l Q S (.one k t) a w:=
 oO (fun Kv hK=>hq Kv hc fun w' h1 h2=>hK _ _ ⟨HS _ _ (HU.trans h2) h1,g w' (HU.trans h2) h1⟩) ho hw
theorem kW {f:Nat}{args:Array Value}{b':Value→Act}{e2:Int} (hc:Calls P f args w fun r w'=>(∃ v,r=.returned v)∧Ck w' K h m L St O e2∧Upd K K w w') (g:∀ v w',RowKit.Hid (Upd K K W w')→RowKit.Hid (Ck w' K h m L St O e2)→wpMixO P l Q S t (b' v) w') (ho:l.toArray[k]?=some o:=by rfl) (hw:Region.wanted o (yielded l.toArray a.tmps)=true:=by rfl)
  (hq:∀ Kv:Act→World→Prop,(Calls P f args w fun r w'=>(∃ v,r=.returned v)∧Ck w' K h m L St O e2∧Upd K K w w')→(∀ v w',Ck w' K h m L St O e2→Upd K K w w'→Kv (b' v) w')→o.wp P a w Kv Q:=by intro Kv hc hk;go_simp;refine hc.mono ?_;rintro _ w' ⟨⟨v,rfl⟩,h1,h2⟩;exact hk v w' h1 h2):wpMixO P l Q S (.one k t) a w:=
 oO (fun Kv hK=>hq Kv hc fun v w' h1 h2=>hK _ _ ⟨HS _ _ (HU.trans h2) h1,g v w' (HU.trans h2) h1⟩) ho hw
theorem kS (d:Tmp) (g:wpMixO P l Q S t a' w) (hs:(l.toArray[k]?.map fun o=>(o.dst,Region.wanted o (yielded l.toArray a.tmps)))=some (some d,false):=by rfl)
  (ha:({ a with tmps:=a.tmps.setIfInBounds d undef }:Act)=a':=by ((try simp only [List.setIfInBounds_toArray,List.set_cons_zero,List.set_cons_succ]);rfl)):wpMixO P l Q S (.one k t) a w:=
 wpMixO_one (wpOp_skipD d hs (ha▸⟨HS _ _ HU HC,g⟩))
end
theorem TyAt.one_of {w:World}{ao:Option Addr}{cap:Nat}{a b:Ty} (H:TyAt w ao cap [a,b]):TyAt w ao cap [a]:=
 ⟨H.1.take 1 (by simp) cap (fun h=>by have:=(H.1.2.1 h).2;omega),by have:=H.2.1;simp at this ⊢;omega,H.2.2⟩
theorem ClPost.trans {w W:World}{K:Nat}{h:Hd}{m:Md}{L S O:Value}{P:List Ty→Int→Prop}{r:Ending}{w':World} (H:ClPost W K h m L S O P r w') (hu:Upd K K w W):ClPost w K h m L S O P r w':=by
 obtain ⟨ro,rc,out,e',h1,h2,h3,h4,h5⟩:=H
 exact ⟨ro,rc,out,e',h1,h2,h3,hu.trans h4,h5⟩
section
variable (K:Nat)(h:Hd)(m:Md)(L S O:Value)
include K h m L S O
theorem none_any (v:Value) (W:World) (H:Ck W K h m L S O 0):Calls Tryz.prog 178 #[v] W (ClPost W K h m L S O fun out e'=>out=[]∧e'=0):=by
 have HC:=Lib.hid H
 clear H
 go_enter Tryz.func178,Tryz.ntmps178
 go_wp2
 go_ret
 exact ⟨none,0,[],_,rfl,TyAt.nil _,HC.out,Upd.refl K K W,rfl,rfl⟩
theorem opening1_any (a:Ty) (op ia ib:Int) (to':Option Addr) (tc base cb ib0:Nat) (W:World) (H:Ck W K h m L S O 0) (hcb:Blk W cb #[.pointer (some ⟨K,0,none⟩)] 148) (hown:W.ownsRow base 35 2 (.slice to' 1 tc) 1 (flatR [a])):
  Calls Tryz.prog 172 #[.slice to' 1 tc,.pointer (some ⟨cb,0,none⟩)] W (ClPost W K h m L S O fun out e'=>out=[]∧e'=wantC 0 (decide (a=tInt))):=by
 obtain ⟨g,rfl,hgK,hgl,htc,hcl⟩:=own_ty hown H
 obtain ⟨ak,ac⟩:=a
 have HS:=Lib.hid (clS (l:=[(⟨cb,0,none⟩,.pointer (some ⟨K,0,none⟩)),(⟨g,0,none⟩,.int .i64 ak),(⟨g,1,none⟩,.int .i64 ac)]) ⟨hcb.cell 0 rfl,hcl 0 _ rfl,hcl 1 _ rfl,trivial⟩ (by simp [hgK,blk_ne hcb H (by decide)]) (H:=H))
 have HU0:=Lib.hid (Upd.refl K K W)
 have HC0:=Lib.hid H
 clear H hcb
 clear hown hcl
 have hne:=neqTy
 have heq:=eqlTy
 have hgu:=guardTy
 go_enter Tryz.func172,Tryz.ntmps172
 exact k32
theorem simple6_any (a:Ty) (op ia ib:Int) (to':Option Addr) (tc base cb ib0:Nat) (W:World) (H:Ck W K h m L S O 0) (hcb:Blk W cb #[.pointer (some ⟨K,0,none⟩)] 148) (hown:W.ownsRow base 35 2 (.slice to' 1 tc) 1 (flatR [a])):
  Calls Tryz.prog 186 #[.slice to' 1 tc,.pointer (some ⟨cb,0,none⟩)] W (ClPost W K h m L S O fun out e'=>out=[]∧e'=wantC 0 (decide (a=tInt))):=by
 obtain ⟨g,rfl,hgK,hgl,htc,hcl⟩:=own_ty hown H
 obtain ⟨ak,ac⟩:=a
 have HS:=Lib.hid (clS (l:=[(⟨cb,0,none⟩,.pointer (some ⟨K,0,none⟩)),(⟨g,0,none⟩,.int .i64 ak),(⟨g,1,none⟩,.int .i64 ac)]) ⟨hcb.cell 0 rfl,hcl 0 _ rfl,hcl 1 _ rfl,trivial⟩ (by simp [hgK,blk_ne hcb H (by decide)]) (H:=H))
 have HU0:=Lib.hid (Upd.refl K K W)
 have HC0:=Lib.hid H
 clear H hcb
 clear hown hcl
 have hne:=neqTy
 have heq:=eqlTy
 have hgu:=guardTy
 go_enter Tryz.func186,Tryz.ntmps186
 exact k32
theorem simple2_any (a:Ty) (op ia ib:Int) (to':Option Addr) (tc base cb ib0:Nat) (W:World) (H:Ck W K h m L S O 0) (HMo:∀ w',Upd K K W w'→ModAt w' h m) (hcb:Blk W cb #[.pointer (some ⟨K,0,none⟩)] 148) (hib:Blk W ib0 #[.int .i64 op,.int .i64 ia,.int .i64 ib] 42) (hown:W.ownsRow base 35 2 (.slice to' 1 tc) 1 (flatR [a])) (lo:Option Addr) (lc:Nat) (ls:List Ty) (hL:L=.slice lo ls.length lc) (hT:TyAt W lo lc ls) (ha:0≤ia):
  Calls Tryz.prog 181 #[.slice to' 1 tc,.pointer (some ⟨cb,0,none⟩),.pointer (some ⟨ib0,0,none⟩)] W (ClPost W K h m L S O fun out e'=>out=[]∧e'=wantC (wantC 0 (decide (ia<ls.length))) (decide (wantC 0 (decide (ia<ls.length))=0)&&fitG m a (ls.getD ia.toNat default))):=by
 obtain ⟨g,rfl,hgK,hgl,htc,hcl⟩:=own_ty hown H
 obtain ⟨ak,ac⟩:=a
 have HNo:=Lib.hid H.noTy
 have HS:=Lib.hid (clS (l:=[(⟨cb,0,none⟩,.pointer (some ⟨K,0,none⟩)),(⟨g,0,none⟩,.int .i64 ak),(⟨g,1,none⟩,.int .i64 ac),(⟨ib0,0,none⟩,.int .i64 op),(⟨ib0,1,none⟩,.int .i64 ia),(⟨ib0,2,none⟩,.int .i64 ib)]) ⟨hcb.cell 0 rfl,hcl 0 _ rfl,hcl 1 _ rfl,hib.cell 0 rfl,hib.cell 1 rfl,hib.cell 2 rfl,trivial⟩ (by simp [hgK,blk_ne hcb H (by decide),blk_ne hib H (by decide)]) (H:=H))
 have HU0:=Lib.hid (Upd.refl K K W)
 have HC0:=Lib.hid H
 have HM0:=Lib.hid HMo
 clear H hcb hib
 obtain ⟨⟨uk,uc⟩,HLu'⟩:∃ x:Ty,x=ls.getD ia.toNat default:=⟨_,rfl⟩
 obtain ⟨lb,HLb'⟩:∃ x:Bool,x=decide (ia<ls.length):=⟨_,rfl⟩
 have HLo:=Lib.hid (show ∀ e w',Ck w' K h m L S O e→Upd K K W w'→Calls Tryz.prog 176 #[.pointer (some ⟨K,0,none⟩),.int .i64 ia] w' fun r w''=>r=.returned (.agg #[.int .i64 uk,.int .i64 uc])∧Ck w'' K h m L S O (wantC e lb)∧Upd K K w' w'' from fun e w' hc hu=>by have:=local_any K h m S O lo lc ls e ia w' (hL▸hc) (hT.upd hu HNo.out HNo.out).1 ha;rw [←HLu',←HLb',←hL] at this;exact this)
 have HLu:=Lib.hid HLu'
 clear HLu'
 have HLb:=Lib.hid HLb'
 clear HLb'
 clear hT hL
 obtain ⟨ft,HFt'⟩:∃ x:Bool,x=fitG m ⟨ak,ac⟩ ⟨uk,uc⟩:=⟨_,rfl⟩
 have HFi:=Lib.hid (show ∀ e w',Ck w' K h m L S O e→Upd K K W w'→Calls Tryz.prog 182 #[.pointer (some ⟨K,0,none⟩),.agg #[.int .i64 ak,.int .i64 ac],.agg #[.int .i64 uk,.int .i64 uc]] w' fun r w''=>(∃ v,r=.returned v)∧Ck w'' K h m L S O (wantC e (decide (e=0)&&ft))∧Upd K K w' w'' from fun e w' hc hu=>by have:=fit_any K h m L S O e ⟨ak,ac⟩ ⟨uk,uc⟩ w' hc (HMo w' hu);rw [←HFt'] at this;exact this)
 have HFt:=Lib.hid HFt'
 clear HFt'
 clear hown hcl HMo
 have hne:=neqTy
 have heq:=eqlTy
 have hgu:=guardTy
 go_enter Tryz.func181,Tryz.ntmps181
 go_wp2_with fail
 refine kR HS.out HU0 HC0 (oL [0,1,2,3,4,5,6,107,108]) fun HU1 HC1=>?_
 exact k41
theorem simple4_yes (a b:Ty) (op ia ib:Int) (to':Option Addr) (tc base cb ib0:Nat) (W:World) (H:Ck W K h m L S O 0) (hcb:Blk W cb #[.pointer (some ⟨K,0,none⟩)] 148) (hown:W.ownsRow base 35 2 (.slice to' 2 tc) 2 (flatR [a,b])) (h1:a=tInt):
  Calls Tryz.prog 184 #[.slice to' 2 tc,.pointer (some ⟨cb,0,none⟩)] W (ClPost W K h m L S O fun out e'=>out=[a]∧e'=wantC 0 (decide (b=tInt))):=by
 have HTy:=Lib.hid (TyAt.own (l:=[a,b]) hown)
 have HNo:=Lib.hid H.noTy
 obtain ⟨g,rfl,hgK,hgl,htc,hcl⟩:=own_ty hown H
 obtain ⟨ak,ac⟩:=a
 obtain ⟨rfl,rfl⟩:ak=1∧ac=0:=by cases h1;exact ⟨rfl,rfl⟩
 clear h1
 obtain ⟨bk,bc⟩:=b
 have HS:=Lib.hid (clS (l:=[(⟨cb,0,none⟩,.pointer (some ⟨K,0,none⟩)),(⟨g,0,none⟩,.int .i64 1),(⟨g,1,none⟩,.int .i64 0),(⟨g,2,none⟩,.int .i64 bk),(⟨g,3,none⟩,.int .i64 bc)]) ⟨hcb.cell 0 rfl,hcl 0 _ rfl,hcl 1 _ rfl,hcl 2 _ rfl,hcl 3 _ rfl,trivial⟩ (by simp [hgK,blk_ne hcb H (by decide)]) (H:=H))
 have HU0:=Lib.hid (Upd.refl K K W)
 have HC0:=Lib.hid H
 clear H hcb
 clear hown hcl
 have hne:=neqTy
 have heq:=eqlTy
 have hgu:=guardTy
 go_enter Tryz.func184,Tryz.ntmps184
 go_wp2_with fail
 refine kR HS.out HU0 HC0 (oL [0,1,2,3,104,5,6,7,8,9,110,11,12,113]) fun HU1 HC1=>?_
 repeat refine pO ?_
 refine kB HS.out HU1 HC1 (number_any _) fun w2 HU2 HC2=>?_
 repeat refine pO ?_
 refine kB HS.out HU2 HC2 (number_any _) fun w3 HU3 HC3=>?_
 repeat refine pO ?_
 refine kW HS.out HU3 HC3 (want_any K h m L S O _ _ _ HC3.out) fun _ w4 HU4 HC4=>?_
 repeat refine pO ?_
 refine wpMixO_done ?_
 go_wp2
 go_ret
 refine ⟨some ⟨g,0,none⟩,tc,[_],_,rfl,TyAt.one_of (HTy.out.upd HU4.out HNo.out HNo.out),HC4.out,HU4.out,rfl,?_⟩
 exact k83
theorem simple4_no (a b:Ty) (op ia ib:Int) (to':Option Addr) (tc base cb ib0:Nat) (W:World) (H:Ck W K h m L S O 0) (hcb:Blk W cb #[.pointer (some ⟨K,0,none⟩)] 148) (hown:W.ownsRow base 35 2 (.slice to' 2 tc) 2 (flatR [a,b])) (h1:a≠tInt):
  Calls Tryz.prog 184 #[.slice to' 2 tc,.pointer (some ⟨cb,0,none⟩)] W (ClPost W K h m L S O fun out e'=>out=[a]∧e'=11):=by
 have HTy:=Lib.hid (TyAt.own (l:=[a,b]) hown)
 have HNo:=Lib.hid H.noTy
 obtain ⟨g,rfl,hgK,hgl,htc,hcl⟩:=own_ty hown H
 obtain ⟨ak,ac⟩:=a
 obtain ⟨bk,bc⟩:=b
 have hd:(decide (ak=1)&&decide (ac=0))=false:=by
  exact k34
 clear h1
 have HS:=Lib.hid (clS (l:=[(⟨cb,0,none⟩,.pointer (some ⟨K,0,none⟩)),(⟨g,0,none⟩,.int .i64 ak),(⟨g,1,none⟩,.int .i64 ac),(⟨g,2,none⟩,.int .i64 bk),(⟨g,3,none⟩,.int .i64 bc)]) ⟨hcb.cell 0 rfl,hcl 0 _ rfl,hcl 1 _ rfl,hcl 2 _ rfl,hcl 3 _ rfl,trivial⟩ (by simp [hgK,blk_ne hcb H (by decide)]) (H:=H))
 have HU0:=Lib.hid (Upd.refl K K W)
 have HC0:=Lib.hid H
 clear H hcb
 clear hown hcl
 have hne:=neqTy
 have heq:=eqlTy
 have hgu:=guardTy
 go_enter Tryz.func184,Tryz.ntmps184
 go_wp2_with fail
 refine kR HS.out HU0 HC0 (oL [0,1,2,3,104,5,6,7,8,9,110,11,12,113]) fun HU1 HC1=>?_
 repeat refine pO ?_
 refine kB HS.out HU1 HC1 (number_any _) fun w2 HU2 HC2=>?_
 repeat refine pO ?_
 refine kS HS.out HU2 HC2 14 ?_
 repeat refine pO ?_
 refine kW HS.out HU2 HC2 (want_any K h m L S O _ _ _ HC2.out) fun _ w3 HU3 HC3=>?_
 repeat refine pO ?_
 refine wpMixO_done ?_
 go_wp2
 go_ret
 refine ⟨some ⟨g,0,none⟩,tc,[_],_,rfl,TyAt.one_of (HTy.out.upd HU3.out HNo.out HNo.out),HC3.out,HU3.out,rfl,?_⟩
 rfl
theorem simple5_any (a:Ty) (op ia ib:Int) (to':Option Addr) (tc base cb ib0:Nat) (W:World) (H:Ck W K h m L S O 0) (hcb:Blk W cb #[.pointer (some ⟨K,0,none⟩)] 148) (hown:W.ownsRow base 35 2 (.slice to' 1 tc) 1 (flatR [a])):
  Calls Tryz.prog 185 #[.slice to' 1 tc,.pointer (some ⟨cb,0,none⟩)] W (ClPost W K h m L S O fun out e'=>out=[tInt]∧e'=wantC 0 (!decide (a=tInt))):=by
 obtain ⟨g,rfl,hgK,hgl,htc,hcl⟩:=own_ty hown H
 obtain ⟨ak,ac⟩:=a
 have HS:=Lib.hid (clS (l:=[(⟨cb,0,none⟩,.pointer (some ⟨K,0,none⟩)),(⟨g,0,none⟩,.int .i64 ak),(⟨g,1,none⟩,.int .i64 ac)]) ⟨hcb.cell 0 rfl,hcl 0 _ rfl,hcl 1 _ rfl,trivial⟩ (by simp [hgK,blk_ne hcb H (by decide)]) (H:=H))
 have HU0:=Lib.hid (Upd.refl K K W)
 have HC0:=Lib.hid H
 clear H hcb
 clear hown hcl
 have hne:=neqTy
 have heq:=eqlTy
 have hgu:=guardTy
 go_enter Tryz.func185,Tryz.ntmps185
 go_wp2_with fail
 refine kR HS.out HU0 HC0 (oL [0,1,2,3,104,5,106]) fun HU1 HC1=>?_
 repeat refine pO ?_
 refine kB HS.out HU1 HC1 (number_any _) fun w2 HU2 HC2=>?_
 repeat refine pO ?_
 refine kW HS.out HU2 HC2 (want_any K h m L S O _ _ _ HC2.out) fun _ w3 HU3 HC3=>?_
 repeat refine pO ?_
 refine wpMixO_done ?_
 go_wp2_with (go_at_call 174;refine (number_any _).mono ?_;rintro r w8 ⟨rfl,hb8⟩)
 go_ret
 refine ⟨some ⟨w8.heap.size,0,none⟩,1,[_],_,rfl,TyAt.one (t:=tInt) (Blk.new w8 _ _),Ck.old (HC3.out.old hb8) bE,(HU3.out.bel hb8).alloc _,?_,?_⟩
 rfl
 exact k83
theorem memory1_any (a:Ty) (op ia ib:Int) (to':Option Addr) (tc base cb ib0:Nat) (W:World) (H:Ck W K h m L S O 0) (HMo:∀ w',Upd K K W w'→ModAt w' h m) (hcb:Blk W cb #[.pointer (some ⟨K,0,none⟩)] 148) (hib:Blk W ib0 #[.int .i64 op,.int .i64 ia,.int .i64 ib] 42) (hown:W.ownsRow base 35 2 (.slice to' 1 tc) 1 (flatR [a])) (ha:0≤ia) (ht:a.k=2→0≤a.c∧a.c<m.cl.length):
  Calls Tryz.prog 224 #[.slice to' 1 tc,.pointer (some ⟨cb,0,none⟩),.pointer (some ⟨ib0,0,none⟩)] W (ClPost W K h m L S O fun out e'=>out=[(fldV m a ia).getD default]∧e'=wantC 0 (fldV m a ia).isSome):=by
 obtain ⟨g,rfl,hgK,hgl,htc,hcl⟩:=own_ty hown H
 obtain ⟨ak,ac⟩:=a
 have HS:=Lib.hid (clS (l:=[(⟨cb,0,none⟩,.pointer (some ⟨K,0,none⟩)),(⟨g,0,none⟩,.int .i64 ak),(⟨g,1,none⟩,.int .i64 ac),(⟨ib0,0,none⟩,.int .i64 op),(⟨ib0,1,none⟩,.int .i64 ia),(⟨ib0,2,none⟩,.int .i64 ib)]) ⟨hcb.cell 0 rfl,hcl 0 _ rfl,hcl 1 _ rfl,hib.cell 0 rfl,hib.cell 1 rfl,hib.cell 2 rfl,trivial⟩ (by simp [hgK,blk_ne hcb H (by decide),blk_ne hib H (by decide)]) (H:=H))
 have HU0:=Lib.hid (Upd.refl K K W)
 have HC0:=Lib.hid H
 have HM0:=Lib.hid HMo
 clear H hcb hib
 obtain ⟨⟨uk,uc⟩,HLu'⟩:∃ x:Ty,x=(fldV m ⟨ak,ac⟩ ia).getD default:=⟨_,rfl⟩
 obtain ⟨lb,HLb'⟩:∃ x:Bool,x=(fldV m ⟨ak,ac⟩ ia).isSome:=⟨_,rfl⟩
 have HLo:=Lib.hid (show ∀ e w',Ck w' K h m L S O e→Upd K K W w'→Calls Tryz.prog 225 #[.pointer (some ⟨K,0,none⟩),.agg #[.int .i64 ak,.int .i64 ac],.int .i64 ia] w' fun r w''=>r=.returned (.agg #[.int .i64 uk,.int .i64 uc])∧Ck w'' K h m L S O (wantC e lb)∧Upd K K w' w'' from fun e w' hc hu=>by have:=field_any K h m L S O e ia ⟨ak,ac⟩ w' hc (HMo w' hu) ha ht;rw [←HLu',←HLb'] at this;exact this)
 have HLu:=Lib.hid HLu'
 clear HLu'
 have HLb:=Lib.hid HLb'
 clear HLb'
 clear ht
 clear hown hcl HMo
 have hne:=neqTy
 have heq:=eqlTy
 have hgu:=guardTy
 go_enter Tryz.func224,Tryz.ntmps224
 go_wp2_with fail
 refine kR HS.out HU0 HC0 (oL [0,1,2,3,4,5,106,107,8]) fun HU1 HC1=>?_
 repeat refine pO ?_
 refine kV HS.out HU1 HC1 (HLo.out _ _ HC1.out HU1.out) fun w2 HU2 HC2=>?_
 repeat refine pO ?_
 refine oO fun Kv hK=>?_
 go_simp
 have HU3:=Lib.hid (HU2.out.alloc (.cells #[.int .i64 uk,.int .i64 uc] 35))
 have HC3:=Lib.hid (Ck.old (w':=w2.alloc (.cells #[.int .i64 uk,.int .i64 uc] 35)) HC2.out bE)
 refine hK _ _ ⟨HS.out _ _ HU3.out HC3.out,?_⟩
 clear hK Kv
 repeat refine pO ?_
 refine wpMixO_done ?_
 go_wp2
 go_ret
 refine ⟨some ⟨w2.heap.size,0,none⟩,1,[_],_,rfl,TyAt.one (t:=⟨uk,uc⟩) (Blk.new w2 _ _),HC3.out,HU3.out,?_,?_⟩
 rw [←HLu.out]
 rw [HLb.out]
theorem memory2_any (a b:Ty) (op ia ib:Int) (to':Option Addr) (tc base cb ib0:Nat) (W:World) (H:Ck W K h m L S O 0) (HMo:∀ w',Upd K K W w'→ModAt w' h m) (hcb:Blk W cb #[.pointer (some ⟨K,0,none⟩)] 148) (hib:Blk W ib0 #[.int .i64 op,.int .i64 ia,.int .i64 ib] 42) (hown:W.ownsRow base 35 2 (.slice to' 2 tc) 2 (flatR [a,b])) (ha:0≤ia) (ht:a.k=2→0≤a.c∧a.c<m.cl.length):
  Calls Tryz.prog 226 #[.slice to' 2 tc,.pointer (some ⟨cb,0,none⟩),.pointer (some ⟨ib0,0,none⟩)] W (ClPost W K h m L S O fun out e'=>out=[]∧e'=wantC (wantC 0 (fldV m a ia).isSome) (decide (wantC 0 (fldV m a ia).isSome=0)&&fitG m b ((fldV m a ia).getD default))):=by
 obtain ⟨g,rfl,hgK,hgl,htc,hcl⟩:=own_ty hown H
 obtain ⟨ak,ac⟩:=a
 obtain ⟨bk,bc⟩:=b
 have HS:=Lib.hid (clS (l:=[(⟨cb,0,none⟩,.pointer (some ⟨K,0,none⟩)),(⟨g,0,none⟩,.int .i64 ak),(⟨g,1,none⟩,.int .i64 ac),(⟨g,2,none⟩,.int .i64 bk),(⟨g,3,none⟩,.int .i64 bc),(⟨ib0,0,none⟩,.int .i64 op),(⟨ib0,1,none⟩,.int .i64 ia),(⟨ib0,2,none⟩,.int .i64 ib)]) ⟨hcb.cell 0 rfl,hcl 0 _ rfl,hcl 1 _ rfl,hcl 2 _ rfl,hcl 3 _ rfl,hib.cell 0 rfl,hib.cell 1 rfl,hib.cell 2 rfl,trivial⟩ (by simp [hgK,blk_ne hcb H (by decide),blk_ne hib H (by decide)]) (H:=H))
 have HU0:=Lib.hid (Upd.refl K K W)
 have HC0:=Lib.hid H
 have HM0:=Lib.hid HMo
 clear H hcb hib
 obtain ⟨⟨uk,uc⟩,HLu'⟩:∃ x:Ty,x=(fldV m ⟨ak,ac⟩ ia).getD default:=⟨_,rfl⟩
 obtain ⟨lb,HLb'⟩:∃ x:Bool,x=(fldV m ⟨ak,ac⟩ ia).isSome:=⟨_,rfl⟩
 have HLo:=Lib.hid (show ∀ e w',Ck w' K h m L S O e→Upd K K W w'→Calls Tryz.prog 225 #[.pointer (some ⟨K,0,none⟩),.agg #[.int .i64 ak,.int .i64 ac],.int .i64 ia] w' fun r w''=>r=.returned (.agg #[.int .i64 uk,.int .i64 uc])∧Ck w'' K h m L S O (wantC e lb)∧Upd K K w' w'' from fun e w' hc hu=>by have:=field_any K h m L S O e ia ⟨ak,ac⟩ w' hc (HMo w' hu) ha ht;rw [←HLu',←HLb'] at this;exact this)
 have HLu:=Lib.hid HLu'
 clear HLu'
 have HLb:=Lib.hid HLb'
 clear HLb'
 clear ht
 obtain ⟨ft,HFt'⟩:∃ x:Bool,x=fitG m ⟨bk,bc⟩ ⟨uk,uc⟩:=⟨_,rfl⟩
 have HFi:=Lib.hid (show ∀ e w',Ck w' K h m L S O e→Upd K K W w'→Calls Tryz.prog 182 #[.pointer (some ⟨K,0,none⟩),.agg #[.int .i64 bk,.int .i64 bc],.agg #[.int .i64 uk,.int .i64 uc]] w' fun r w''=>(∃ v,r=.returned v)∧Ck w'' K h m L S O (wantC e (decide (e=0)&&ft))∧Upd K K w' w'' from fun e w' hc hu=>by have:=fit_any K h m L S O e ⟨bk,bc⟩ ⟨uk,uc⟩ w' hc (HMo w' hu);rw [←HFt'] at this;exact this)
 have HFt:=Lib.hid HFt'
 clear HFt'
 clear hown hcl HMo
 have hne:=neqTy
 have heq:=eqlTy
 have hgu:=guardTy
 go_enter Tryz.func226,Tryz.ntmps226
 go_wp2_with fail
 refine kR HS.out HU0 HC0 (oL [0,1,2,3,4,5,6,7,8,9,110,111]) fun HU1 HC1=>?_
 exact k41
theorem memory3_any (a b:Ty) (op ia ib:Int) (to':Option Addr) (tc base cb ib0:Nat) (W:World) (H:Ck W K h m L S O 0) (hcb:Blk W cb #[.pointer (some ⟨K,0,none⟩)] 148) (hown:W.ownsRow base 35 2 (.slice to' 2 tc) 2 (flatR [a,b])):
  Calls Tryz.prog 227 #[.slice to' 2 tc,.pointer (some ⟨cb,0,none⟩)] W (ClPost W K h m L S O fun out e'=>out=[(elemV a).getD default]∧e'=wantC (wantC 0 (decide (b=tInt))) (elemV a).isSome):=by
 obtain ⟨g,rfl,hgK,hgl,htc,hcl⟩:=own_ty hown H
 obtain ⟨ak,ac⟩:=a
 obtain ⟨bk,bc⟩:=b
 have HS:=Lib.hid (clS (l:=[(⟨cb,0,none⟩,.pointer (some ⟨K,0,none⟩)),(⟨g,0,none⟩,.int .i64 ak),(⟨g,1,none⟩,.int .i64 ac),(⟨g,2,none⟩,.int .i64 bk),(⟨g,3,none⟩,.int .i64 bc)]) ⟨hcb.cell 0 rfl,hcl 0 _ rfl,hcl 1 _ rfl,hcl 2 _ rfl,hcl 3 _ rfl,trivial⟩ (by simp [hgK,blk_ne hcb H (by decide)]) (H:=H))
 have HU0:=Lib.hid (Upd.refl K K W)
 have HC0:=Lib.hid H
 clear H hcb
 obtain ⟨⟨uk,uc⟩,HLu'⟩:∃ x:Ty,x=(elemV ⟨ak,ac⟩).getD default:=⟨_,rfl⟩
 obtain ⟨lb,HLb'⟩:∃ x:Bool,x=(elemV ⟨ak,ac⟩).isSome:=⟨_,rfl⟩
 have HLo:=Lib.hid (show ∀ e w',Ck w' K h m L S O e→Upd K K W w'→Calls Tryz.prog 228 #[.pointer (some ⟨K,0,none⟩),.agg #[.int .i64 ak,.int .i64 ac]] w' fun r w''=>r=.returned (.agg #[.int .i64 uk,.int .i64 uc])∧Ck w'' K h m L S O (wantC e lb)∧Upd K K w' w'' from fun e w' hc hu=>by have:=element_any K h m L S O e ⟨ak,ac⟩ w' hc;rw [←HLu',←HLb'] at this;exact this)
 have HLu:=Lib.hid HLu'
 clear HLu'
 have HLb:=Lib.hid HLb'
 clear HLb'
 clear hown hcl
 have hne:=neqTy
 have heq:=eqlTy
 have hgu:=guardTy
 go_enter Tryz.func227,Tryz.ntmps227
 go_wp2_with fail
 refine kR HS.out HU0 HC0 (oL [0,1,2,3,104,5,106]) fun HU1 HC1=>?_
 repeat refine pO ?_
 refine kB HS.out HU1 HC1 (number_any _) fun w2 HU2 HC2=>?_
 repeat refine pO ?_
 refine kW HS.out HU2 HC2 (want_any K h m L S O _ _ _ HC2.out) fun _ w3 HU3 HC3=>?_
 repeat refine pO ?_
 refine wpMixO_done ?_
 go_wp2_with fail
 refine kR HS.out HU3 HC3 (oL [0,1,2,3,104,105,6]) fun HU4 HC4=>?_
 repeat refine pO ?_
 refine kV HS.out HU4 HC4 (HLo.out _ _ HC4.out HU4.out) fun w5 HU5 HC5=>?_
 repeat refine pO ?_
 refine oO fun Kv hK=>?_
 go_simp
 have HU6:=Lib.hid (HU5.out.alloc (.cells #[.int .i64 uk,.int .i64 uc] 35))
 have HC6:=Lib.hid (Ck.old (w':=w5.alloc (.cells #[.int .i64 uk,.int .i64 uc] 35)) HC5.out bE)
 refine hK _ _ ⟨HS.out _ _ HU6.out HC6.out,?_⟩
 clear hK Kv
 repeat refine pO ?_
 refine wpMixO_done ?_
 go_wp2
 go_ret
 refine ⟨some ⟨w5.heap.size,0,none⟩,1,[_],_,rfl,TyAt.one (t:=⟨uk,uc⟩) (Blk.new w5 _ _),HC6.out,HU6.out,?_,?_⟩
 rw [←HLu.out]
 rw [HLb.out,ty_eq];rfl
theorem memory4_any (a b d:Ty) (op ia ib:Int) (to':Option Addr) (tc base cb ib0:Nat) (W:World) (H:Ck W K h m L S O 0) (HMo:∀ w',Upd K K W w'→ModAt w' h m) (hcb:Blk W cb #[.pointer (some ⟨K,0,none⟩)] 148) (hown:W.ownsRow base 35 2 (.slice to' 3 tc) 3 (flatR [a,b,d])):
  Calls Tryz.prog 229 #[.slice to' 3 tc,.pointer (some ⟨cb,0,none⟩)] W (ClPost W K h m L S O fun out e'=>out=[]∧e'=wantC (wantC (wantC 0 (decide (b=tInt))) (elemV a).isSome) (decide (wantC (wantC 0 (decide (b=tInt))) (elemV a).isSome=0)&&fitG m d ((elemV a).getD default))):=by
 obtain ⟨g,rfl,hgK,hgl,htc,hcl⟩:=own_ty hown H
 obtain ⟨ak,ac⟩:=a
 obtain ⟨bk,bc⟩:=b
 obtain ⟨dk,dc⟩:=d
 have HS:=Lib.hid (clS (l:=[(⟨cb,0,none⟩,.pointer (some ⟨K,0,none⟩)),(⟨g,0,none⟩,.int .i64 ak),(⟨g,1,none⟩,.int .i64 ac),(⟨g,2,none⟩,.int .i64 bk),(⟨g,3,none⟩,.int .i64 bc),(⟨g,4,none⟩,.int .i64 dk),(⟨g,5,none⟩,.int .i64 dc)]) ⟨hcb.cell 0 rfl,hcl 0 _ rfl,hcl 1 _ rfl,hcl 2 _ rfl,hcl 3 _ rfl,hcl 4 _ rfl,hcl 5 _ rfl,trivial⟩ (by simp [hgK,blk_ne hcb H (by decide)]) (H:=H))
 have HU0:=Lib.hid (Upd.refl K K W)
 have HC0:=Lib.hid H
 have HM0:=Lib.hid HMo
 clear H hcb
 obtain ⟨⟨uk,uc⟩,HLu'⟩:∃ x:Ty,x=(elemV ⟨ak,ac⟩).getD default:=⟨_,rfl⟩
 obtain ⟨lb,HLb'⟩:∃ x:Bool,x=(elemV ⟨ak,ac⟩).isSome:=⟨_,rfl⟩
 have HLo:=Lib.hid (show ∀ e w',Ck w' K h m L S O e→Upd K K W w'→Calls Tryz.prog 228 #[.pointer (some ⟨K,0,none⟩),.agg #[.int .i64 ak,.int .i64 ac]] w' fun r w''=>r=.returned (.agg #[.int .i64 uk,.int .i64 uc])∧Ck w'' K h m L S O (wantC e lb)∧Upd K K w' w'' from fun e w' hc hu=>by have:=element_any K h m L S O e ⟨ak,ac⟩ w' hc;rw [←HLu',←HLb'] at this;exact this)
 have HLu:=Lib.hid HLu'
 clear HLu'
 have HLb:=Lib.hid HLb'
 clear HLb'
 obtain ⟨ft,HFt'⟩:∃ x:Bool,x=fitG m ⟨dk,dc⟩ ⟨uk,uc⟩:=⟨_,rfl⟩
 have HFi:=Lib.hid (show ∀ e w',Ck w' K h m L S O e→Upd K K W w'→Calls Tryz.prog 182 #[.pointer (some ⟨K,0,none⟩),.agg #[.int .i64 dk,.int .i64 dc],.agg #[.int .i64 uk,.int .i64 uc]] w' fun r w''=>(∃ v,r=.returned v)∧Ck w'' K h m L S O (wantC e (decide (e=0)&&ft))∧Upd K K w' w'' from fun e w' hc hu=>by have:=fit_any K h m L S O e ⟨dk,dc⟩ ⟨uk,uc⟩ w' hc (HMo w' hu);rw [←HFt'] at this;exact this)
 have HFt:=Lib.hid HFt'
 clear HFt'
 clear hown hcl HMo
 have hne:=neqTy
 have heq:=eqlTy
 have hgu:=guardTy
 go_enter Tryz.func229,Tryz.ntmps229
 go_wp2_with fail
 refine kR HS.out HU0 HC0 (oL [0,1,2,3,104,5,106]) fun HU1 HC1=>?_
 repeat refine pO ?_
 refine kB HS.out HU1 HC1 (number_any _) fun w2 HU2 HC2=>?_
 repeat refine pO ?_
 refine kW HS.out HU2 HC2 (want_any K h m L S O _ _ _ HC2.out) fun _ w3 HU3 HC3=>?_
 repeat refine pO ?_
 refine wpMixO_done ?_
 go_wp2_with fail
 refine kR HS.out HU3 HC3 (oL [0,1,2,3,4,5,6,7,108,109]) fun HU4 HC4=>?_
 repeat refine pO ?_
 refine kV HS.out HU4 HC4 (HLo.out _ _ HC4.out HU4.out) fun w5 HU5 HC5=>?_
 repeat refine pO ?_
 refine kW HS.out HU5 HC5 (HFi.out _ _ HC5.out HU5.out) fun _ w6 HU6 HC6=>?_
 repeat refine pO ?_
 refine wpMixO_done ?_
 go_wp2
 go_ret
 refine ⟨none,0,[],_,rfl,TyAt.nil _,HC6.out,HU6.out,rfl,?_⟩
 rw [HFt.out,HLb.out,HLu.out,ty_eq];rfl
theorem memory5_any (a:Ty) (op ia ib:Int) (to':Option Addr) (tc base cb ib0:Nat) (W:World) (H:Ck W K h m L S O 0) (hcb:Blk W cb #[.pointer (some ⟨K,0,none⟩)] 148) (hown:W.ownsRow base 35 2 (.slice to' 1 tc) 1 (flatR [a])):
  Calls Tryz.prog 230 #[.slice to' 1 tc,.pointer (some ⟨cb,0,none⟩)] W (ClPost W K h m L S O fun out e'=>out=[tInt]∧e'=wantC 0 (elemV a).isSome):=by
 obtain ⟨g,rfl,hgK,hgl,htc,hcl⟩:=own_ty hown H
 obtain ⟨ak,ac⟩:=a
 have HS:=Lib.hid (clS (l:=[(⟨cb,0,none⟩,.pointer (some ⟨K,0,none⟩)),(⟨g,0,none⟩,.int .i64 ak),(⟨g,1,none⟩,.int .i64 ac)]) ⟨hcb.cell 0 rfl,hcl 0 _ rfl,hcl 1 _ rfl,trivial⟩ (by simp [hgK,blk_ne hcb H (by decide)]) (H:=H))
 have HU0:=Lib.hid (Upd.refl K K W)
 have HC0:=Lib.hid H
 clear H hcb
 obtain ⟨⟨uk,uc⟩,HLu'⟩:∃ x:Ty,x=(elemV ⟨ak,ac⟩).getD default:=⟨_,rfl⟩
 obtain ⟨lb,HLb'⟩:∃ x:Bool,x=(elemV ⟨ak,ac⟩).isSome:=⟨_,rfl⟩
 have HLo:=Lib.hid (show ∀ e w',Ck w' K h m L S O e→Upd K K W w'→Calls Tryz.prog 228 #[.pointer (some ⟨K,0,none⟩),.agg #[.int .i64 ak,.int .i64 ac]] w' fun r w''=>r=.returned (.agg #[.int .i64 uk,.int .i64 uc])∧Ck w'' K h m L S O (wantC e lb)∧Upd K K w' w'' from fun e w' hc hu=>by have:=element_any K h m L S O e ⟨ak,ac⟩ w' hc;rw [←HLu',←HLb'] at this;exact this)
 have HLu:=Lib.hid HLu'
 clear HLu'
 have HLb:=Lib.hid HLb'
 clear HLb'
 clear hown hcl
 have hne:=neqTy
 have heq:=eqlTy
 have hgu:=guardTy
 go_enter Tryz.func230,Tryz.ntmps230
 go_wp2_with fail
 refine kR HS.out HU0 HC0 (oL [0,1,2,3,104]) fun HU1 HC1=>?_
 repeat refine pO ?_
 refine kV HS.out HU1 HC1 (HLo.out _ _ HC1.out HU1.out) fun w2 HU2 HC2=>?_
 repeat refine pO ?_
 refine wpMixO_done ?_
 go_wp2_with (go_at_call 174;refine (number_any _).mono ?_;rintro r w8 ⟨rfl,hb8⟩)
 go_ret
 refine ⟨some ⟨w8.heap.size,0,none⟩,1,[_],_,rfl,TyAt.one (t:=tInt) (Blk.new w8 _ _),Ck.old (HC2.out.old hb8) bE,(HU2.out.bel hb8).alloc _,?_,?_⟩
 rfl
 rw [HLb.out]
theorem opening2_yes (a:Ty) (op ia ib:Int) (to':Option Addr) (tc base cb ib0:Nat) (W:World) (H:Ck W K h m L S O 0) (hcb:Blk W cb #[.pointer (some ⟨K,0,none⟩)] 148) (hib:Blk W ib0 #[.int .i64 op,.int .i64 ia,.int .i64 ib] 42) (hown:W.ownsRow base 35 2 (.slice to' 1 tc) 1 (flatR [a])) (lo:Option Addr) (lc:Nat) (ls:List Ty) (hL:L=.slice lo ls.length lc) (hT:TyAt W lo lc ls) (ha:0≤ib) (h1:a=tInt):
  Calls Tryz.prog 175 #[.slice to' 1 tc,.pointer (some ⟨cb,0,none⟩),.pointer (some ⟨ib0,0,none⟩)] W (ClPost W K h m L S O fun out e'=>out=[]∧e'=wantC (wantC 0 (decide (ib<ls.length))) (decide (ls.getD ib.toNat default=tInt))):=by
 obtain ⟨g,rfl,hgK,hgl,htc,hcl⟩:=own_ty hown H
 obtain ⟨ak,ac⟩:=a
 obtain ⟨rfl,rfl⟩:ak=1∧ac=0:=by cases h1;exact ⟨rfl,rfl⟩
 clear h1
 have HNo:=Lib.hid H.noTy
 have HS:=Lib.hid (clS (l:=[(⟨cb,0,none⟩,.pointer (some ⟨K,0,none⟩)),(⟨g,0,none⟩,.int .i64 1),(⟨g,1,none⟩,.int .i64 0),(⟨ib0,0,none⟩,.int .i64 op),(⟨ib0,1,none⟩,.int .i64 ia),(⟨ib0,2,none⟩,.int .i64 ib)]) ⟨hcb.cell 0 rfl,hcl 0 _ rfl,hcl 1 _ rfl,hib.cell 0 rfl,hib.cell 1 rfl,hib.cell 2 rfl,trivial⟩ (by simp [hgK,blk_ne hcb H (by decide),blk_ne hib H (by decide)]) (H:=H))
 have HU0:=Lib.hid (Upd.refl K K W)
 have HC0:=Lib.hid H
 clear H hcb hib
 obtain ⟨⟨uk,uc⟩,HLu'⟩:∃ x:Ty,x=ls.getD ib.toNat default:=⟨_,rfl⟩
 obtain ⟨lb,HLb'⟩:∃ x:Bool,x=decide (ib<ls.length):=⟨_,rfl⟩
 have HLo:=Lib.hid (show ∀ e w',Ck w' K h m L S O e→Upd K K W w'→Calls Tryz.prog 176 #[.pointer (some ⟨K,0,none⟩),.int .i64 ib] w' fun r w''=>r=.returned (.agg #[.int .i64 uk,.int .i64 uc])∧Ck w'' K h m L S O (wantC e lb)∧Upd K K w' w'' from fun e w' hc hu=>by have:=local_any K h m S O lo lc ls e ib w' (hL▸hc) (hT.upd hu HNo.out HNo.out).1 ha;rw [←HLu',←HLb',←hL] at this;exact this)
 have HLu:=Lib.hid HLu'
 clear HLu'
 have HLb:=Lib.hid HLb'
 clear HLb'
 clear hT hL
 clear hown hcl
 have hne:=neqTy
 have heq:=eqlTy
 have hgu:=guardTy
 go_enter Tryz.func175,Tryz.ntmps175
 go_wp2_with fail
 refine kR HS.out HU0 HC0 (oL [0,1,2,3,104,5,6,7,8,9,110,111,12,13,114]) fun HU1 HC1=>?_
 repeat refine pO ?_
 refine kB HS.out HU1 HC1 (number_any _) fun w2 HU2 HC2=>?_
 repeat refine pO ?_
 refine kV HS.out HU2 HC2 (HLo.out _ _ HC2.out HU2.out) fun w3 HU3 HC3=>?_
 repeat refine pO ?_
 refine kB HS.out HU3 HC3 (number_any _) fun w4 HU4 HC4=>?_
 repeat refine pO ?_
 refine kW HS.out HU4 HC4 (want_any K h m L S O _ _ _ HC4.out) fun _ w5 HU5 HC5=>?_
 repeat refine pO ?_
 refine wpMixO_done ?_
 go_wp2
 go_ret
 refine ⟨none,0,[],_,rfl,TyAt.nil _,HC5.out,HU5.out,rfl,?_⟩
 rw [HLb.out,←HLu.out,ty_eq];rfl
theorem opening2_no (a:Ty) (op ia ib:Int) (to':Option Addr) (tc base cb ib0:Nat) (W:World) (H:Ck W K h m L S O 0) (hcb:Blk W cb #[.pointer (some ⟨K,0,none⟩)] 148) (hib:Blk W ib0 #[.int .i64 op,.int .i64 ia,.int .i64 ib] 42) (hown:W.ownsRow base 35 2 (.slice to' 1 tc) 1 (flatR [a])) (h1:a≠tInt):
  Calls Tryz.prog 175 #[.slice to' 1 tc,.pointer (some ⟨cb,0,none⟩),.pointer (some ⟨ib0,0,none⟩)] W (ClPost W K h m L S O fun out e'=>out=[]∧e'=11):=by
 obtain ⟨g,rfl,hgK,hgl,htc,hcl⟩:=own_ty hown H
 obtain ⟨ak,ac⟩:=a
 have hd:(decide (ak=1)&&decide (ac=0))=false:=by
  exact k34
 clear h1
 have HS:=Lib.hid (clS (l:=[(⟨cb,0,none⟩,.pointer (some ⟨K,0,none⟩)),(⟨g,0,none⟩,.int .i64 ak),(⟨g,1,none⟩,.int .i64 ac),(⟨ib0,0,none⟩,.int .i64 op),(⟨ib0,1,none⟩,.int .i64 ia),(⟨ib0,2,none⟩,.int .i64 ib)]) ⟨hcb.cell 0 rfl,hcl 0 _ rfl,hcl 1 _ rfl,hib.cell 0 rfl,hib.cell 1 rfl,hib.cell 2 rfl,trivial⟩ (by simp [hgK,blk_ne hcb H (by decide),blk_ne hib H (by decide)]) (H:=H))
 have HU0:=Lib.hid (Upd.refl K K W)
 have HC0:=Lib.hid H
 clear H hcb hib
 clear hown hcl
 have hne:=neqTy
 have heq:=eqlTy
 have hgu:=guardTy
 go_enter Tryz.func175,Tryz.ntmps175
 go_wp2_with fail
 refine kR HS.out HU0 HC0 (oL [0,1,2,3,104,5,6,7,8,9,110,111,12,13,114]) fun HU1 HC1=>?_
 repeat refine pO ?_
 refine kB HS.out HU1 HC1 (number_any _) fun w2 HU2 HC2=>?_
 repeat refine pO ?_
 refine kS HS.out HU2 HC2 15 ?_
 repeat refine pO ?_
 refine kS HS.out HU2 HC2 16 ?_
 repeat refine pO ?_
 refine kW HS.out HU2 HC2 (want_any K h m L S O _ _ _ HC2.out) fun _ w3 HU3 HC3=>?_
 repeat refine pO ?_
 refine wpMixO_done ?_
 go_wp2
 go_ret
 refine ⟨none,0,[],_,rfl,TyAt.nil _,HC3.out,HU3.out,rfl,?_⟩
 rfl
end
end
end Go.Proofs.YtfkbfjhocmbneaaGreat
