/- Joined texts. The first: verify: what the closures leave is what the plain law says. -/
import Derived.Test.YtkdamjpbnmbeoaaGreatG7
set_option linter.all false
set_option linter.unusedVariables false
set_option linter.unusedSimpArgs false
set_option maxRecDepth 100000
set_option maxHeartbeats 4000000
namespace Go.Proofs.YtkdamjpbnmbeoaaGreat
section
open Go.RowKit
theorem fitG_eq {m:Md} (hm:modV m=true) {t u:Ty} (ht:tyOk m t) (hu:tyOk m u):fitG m t u=fitsV m t u:=by
 unfold fitG fitsV
 by_cases h:t.k=2∧u.k=2
 ·rw [if_pos h,if_pos h]
  obtain ⟨a1,a2⟩:=ty_cls ht (.inl h.1)
  obtain ⟨b1,b2⟩:=ty_cls hu (.inl h.2)
  have i1:inV m.cl.length t.c=true:=by simp [inV,a1,a2]
  have i2:inV m.cl.length u.c=true:=by simp [inV,b1,b2]
  rw [hm,i1,i2]
  simp
 ·rw [if_neg h,if_neg h]
theorem wantC0 (b:Bool):wantC 0 b=if b then 0 else 11:=by cases b<;>rfl
theorem wantC11 (b:Bool):wantC 11 b=11:=by cases b<;>rfl
theorem ClPost.imp {W:World}{K:Nat}{h:Hd}{m:Md}{L S O:Value}{P Q:List Ty→Int→Prop}{r:Ending}{w':World} (H:ClPost W K h m L S O P r w') (hq:∀ out e',P out e'→Q out e'):ClPost W K h m L S O Q r w':=by
 obtain ⟨ro,rc,out,e',h1,h2,h3,h4,h5⟩:=H
 exact ⟨ro,rc,out,e',h1,h2,h3,h4,hq _ _ h5⟩
section
variable {m:Md}{ls:List Ty}{i:In3}{a b d:Ty}
theorem res_ite {n:Nat}{c:Bool}{t:Ty}{out:List Ty}{e':Int} (hl:out.length≤1000) (ho:c=true→out=List.replicate n t) (he:e'=if c then 0 else 11):ResP n (if c then some t else none) out e':=by
 cases c
 ·exact ⟨hl,he⟩
 ·exact ⟨hl,he,ho rfl⟩
theorem getD_some {l:List Ty}{n:Nat} (h:n<l.length):l[n]?=some (l.getD n default):=by simp [h]
theorem res_3 (hm:modV m=true) (hlo:∀ t∈ls,tyOk m t) (h:i.op=3) (h0:0≤i.a) (ha:tyOk m a):ResP 0 (pushV m ls i [a]) [] (wantC (wantC 0 (decide (i.a<ls.length))) (decide (wantC 0 (decide (i.a<ls.length))=0)&&fitG m a (ls.getD i.a.toNat default))):=by
 rw [pv3 h]
 refine res_ite (by simp) (fun _=>rfl) ?_
 by_cases hq:i.a<ls.length
 ·have hq':i.a.toNat<ls.length:=by omega
  rw [getD_some hq',decide_eq_true hq]
  show wantC 0 (decide (wantC 0 true=0)&&_)=if fitsV m a _=true then 0 else 11
  rw [fitG_eq hm ha (hlo _ (getD_mem _ hq')),show (decide (wantC 0 true=0)&&fitsV m a (ls.getD i.a.toNat default))=fitsV m a (ls.getD i.a.toNat default) from rfl,wantC0]
 ·rw [decide_eq_false hq,List.getElem?_eq_none (by omega)]
  rfl
theorem res_4 (h:i.op=4):ResP 0 (pushV m ls i [a]) [] 0:=by rw [pvx (by omega)];exact ⟨by simp,rfl,rfl⟩
theorem res_5 (h:i.op=5):ResP 2 (pushV m ls i [a]) [a,a] 0:=by rw [pv5 h];exact ⟨by simp,rfl,rfl⟩
theorem res_6y (h:i.op=6∨i.op=7∨i.op=8∨i.op=9∨i.op=10∨i.op=11) (ha:a=tInt):ResP 1 (pushV m ls i [a,b]) [a] (wantC 0 (decide (b=tInt))):=by
 rw [pv6 h]
 subst ha
 refine res_ite (by simp) (fun _=>rfl) ?_
 rw [wantC0];rfl
theorem res_6n (h:i.op=6∨i.op=7∨i.op=8∨i.op=9∨i.op=10∨i.op=11) (ha:a≠tInt):ResP 1 (pushV m ls i [a,b]) [a] 11:=by
 rw [pv6 h]
 have hc:(decide ([a,b].getD 0 default=tInt)&&decide ([a,b].getD 1 default=tInt))=false:=by
  rw [show [a,b].getD 0 default=a from rfl,decide_eq_false ha];rfl
 rw [hc]
 exact ⟨by simp,rfl⟩
theorem res_13 (h:i.op=13):ResP 1 (pushV m ls i [a]) [tInt] (wantC 0 (!decide (a=tInt))):=by
 rw [pv13 h]
 refine res_ite (by simp) (fun _=>rfl) ?_
 rw [wantC0]
 show (if (!decide (a=tInt))=true then (0:Int) else 11)=if decide (a≠tInt)=true then 0 else 11
 simp
theorem res_27 (h:i.op=27∨i.op=29):ResP 0 (pushV m ls i [a]) [] (wantC 0 (decide (a=tInt))):=by
 rw [pv27 h]
 refine res_ite (by simp) (fun _=>rfl) ?_
 rw [wantC0];rfl
theorem res_17 (h:i.op=17):ResP 1 (pushV m ls i [a]) [(fldV m a i.a).getD default] (wantC 0 (fldV m a i.a).isSome):=by
 rw [pv17 h]
 show ResP 1 (fldV m a i.a) _ _
 cases fldV m a i.a with
 | none=>exact ⟨by simp,rfl⟩
 | some t=>exact ⟨by simp,rfl,rfl⟩
theorem fld_ty (hm:modV m=true) (ha:tyOk m a) {n:Int}{t:Ty} (h:fldV m a n=some t):tyOk m t:=by
 unfold fldV at h
 split at h
 ·rename_i q
  obtain ⟨c0,c1⟩:=ty_cls ha (.inl q)
  exact fields_ty hm c0 c1 t (List.mem_of_getElem? h)
 ·cases h
theorem elem_ty (ha:tyOk m a) {t:Ty} (h:elemV a=some t):tyOk m t:=by
 unfold elemV at h
 split at h
 ·cases h;exact ty_int m
 ·split at h
  ·rename_i q
   obtain ⟨c0,c1⟩:=ty_cls ha (.inr q)
   cases h
   exact ty_mk (.inl rfl) c0 c1
  ·cases h
theorem res_18 (hm:modV m=true) (ha:tyOk m a) (hb:tyOk m b) (h:i.op=18):ResP 0 (pushV m ls i [a,b]) [] (wantC (wantC 0 (fldV m a i.a).isSome) (decide (wantC 0 (fldV m a i.a).isSome=0)&&fitG m b ((fldV m a i.a).getD default))):=by
 rw [pv18 h]
 refine res_ite (by simp) (fun _=>rfl) ?_
 show _=if fitsO m b (fldV m a i.a)=true then 0 else 11
 cases hf:fldV m a i.a with
 | none=>rfl
 | some t=>
  show wantC 0 (fitG m b t)=if fitsV m b t=true then 0 else 11
  rw [fitG_eq hm hb (fld_ty hm ha hf),wantC0]
theorem res_19 (h:i.op=19):ResP 1 (pushV m ls i [a,b]) [(elemV a).getD default] (wantC (wantC 0 (decide (b=tInt))) (elemV a).isSome):=by
 rw [pv19 h]
 show ResP 1 (if b=tInt then elemV a else none) _ _
 by_cases hb:b=tInt
 ·rw [if_pos hb,decide_eq_true hb]
  cases elemV a with
  | none=>exact ⟨by simp,rfl⟩
  | some t=>exact ⟨by simp,rfl,rfl⟩
 ·rw [if_neg hb,decide_eq_false hb]
  exact ⟨by simp,wantC11 _⟩
theorem res_20 (hm:modV m=true) (ha:tyOk m a) (hd:tyOk m d) (h:i.op=20):ResP 0 (pushV m ls i [a,b,d]) [] (wantC (wantC (wantC 0 (decide (b=tInt))) (elemV a).isSome) (decide (wantC (wantC 0 (decide (b=tInt))) (elemV a).isSome=0)&&fitG m d ((elemV a).getD default))):=by
 rw [pv20 h]
 refine res_ite (by simp) (fun _=>rfl) ?_
 show _=if (decide (b=tInt)&&fitsO m d (elemV a))=true then 0 else 11
 by_cases hb:b=tInt
 ·rw [decide_eq_true hb]
  cases he:elemV a with
  | none=>rfl
  | some t=>
   show wantC 0 (fitG m d t)=if fitsV m d t=true then 0 else 11
   rw [fitG_eq hm hd (elem_ty ha he),wantC0]
 ·rw [decide_eq_false hb,show wantC 0 false=11 from rfl,wantC11,wantC11];rfl
theorem res_21 (h:i.op=21):ResP 1 (pushV m ls i [a]) [tInt] (wantC 0 (elemV a).isSome):=by
 rw [pv21 h]
 refine res_ite (by simp) (fun _=>rfl) ?_
 rw [wantC0];rfl
theorem res_23 (hm:modV m=true) (ha:tyOk m a) (h:i.op=23) (h0:0≤i.a) (h1:i.a<m.st.length):ResP 0 (pushV m ls i [a]) [] (wantC 0 (fitG m a (m.st.getD i.a.toNat default))):=by
 rw [pv23 h]
 refine res_ite (by simp) (fun _=>rfl) ?_
 rw [fitG_eq hm ha (statics_ty hm _ (getD_mem _ (by omega))),wantC0];rfl
theorem res_24 (hm:modV m=true) (ha:tyOk m a) (h:i.op=24) (h0:0≤i.a) (h1:i.a<m.cl.length) {e':Int} (he:e'=if a.k=2 then (if fitG m a ⟨2,i.a⟩=true then 0 else wantC 0 (fitG m ⟨2,i.a⟩ a)) else 11):ResP 1 (pushV m ls i [a]) [⟨2,i.a⟩] e':=by
 rw [pv24 h]
 refine res_ite (by simp) (fun _=>rfl) ?_
 subst he
 show _=if (decide (a.k=2)&&(fitsV m a ⟨2,i.a⟩||fitsV m ⟨2,i.a⟩ a))=true then 0 else 11
 have ht:tyOk m ⟨2,i.a⟩:=ty_mk (.inl rfl) h0 h1
 rw [fitG_eq hm ha ht,fitG_eq hm ht ha,wantC0]
 by_cases hk:a.k=2
 ·rw [if_pos hk,decide_eq_true hk]
  cases fitsV m a ⟨2,i.a⟩<;>cases fitsV m ⟨2,i.a⟩ a<;>rfl
 ·rw [if_neg hk,decide_eq_false hk];rfl
theorem res_30y (h0:0≤i.b) (h:i.op=30) (ha:a=tInt):ResP 0 (pushV m ls i [a]) [] (wantC (wantC 0 (decide (i.b<ls.length))) (decide (ls.getD i.b.toNat default=tInt))):=by
 rw [pv30 h]
 refine res_ite (by simp) (fun _=>rfl) ?_
 subst ha
 show _=if (decide (tInt=tInt)&&decide (ls[i.b.toNat]?=some tInt))=true then 0 else 11
 rw [decide_eq_true rfl,Bool.true_and]
 by_cases hq:i.b<ls.length
 ·rw [getD_some (by omega),decide_eq_true hq,show wantC 0 true=0 from rfl,wantC0]
  simp
 ·rw [decide_eq_false hq,List.getElem?_eq_none (by omega),show wantC 0 false=11 from rfl,wantC11];rfl
theorem res_30n (h:i.op=30) (ha:a≠tInt):ResP 0 (pushV m ls i [a]) [] 11:=by
 rw [pv30 h]
 have hc:(decide ([a].getD 0 default=tInt)&&decide (ls[i.b.toNat]?=some tInt))=false:=by
  rw [show [a].getD 0 default=a from rfl,decide_eq_false ha];rfl
 rw [hc]
 exact ⟨by simp,rfl⟩
theorem rep_res (r:Ty):resL r=List.replicate (if r.k=0 then 0 else 1) r:=by
 unfold resL;split<;>rfl
theorem resL_len (r:Ty):(resL r).length≤1:=by unfold resL;split<;>simp
theorem all_congr {n:Nat}{p q:Nat→Bool} (h:∀ k,k<n→p k=q k):(List.range n).all p=(List.range n).all q:=by
 apply Bool.eq_iff_iff.2
 rw [all_range_iff,all_range_iff]
 exact ⟨fun h1 k hk=>(h k hk)▸h1 k hk,fun h1 k hk=>(h k hk).symm▸h1 k hk⟩
theorem res_25 (hm:modV m=true) (h:i.op=25) {x:Mth} (hx:x=m.me.getD i.a.toNat default) {l:List Ty} (hlen:l.length=x.p.length) (hl:∀ t∈l,tyOk m t) (hp:∀ t∈x.p,tyOk m t) :
  ResP (if x.r.k=0 then 0 else 1) (pushV m ls i l) (resL x.r) (errF m l x.p 0 0 x.p.length):=by
 rw [pv25 h,←hx]
 refine res_ite (by have:=resL_len x.r;omega) (fun _=>rep_res _) ?_
 rw [errF_val _ _ _ _ _ (.inl rfl)]
 rw [all_congr (q:=fun k=>fitsV m (l.getD k default) (x.p.getD k default)) (fun k hk=>by rw [Nat.zero_add];exact fitG_eq hm (hl _ (getD_mem _ (by omega))) (hp _ (getD_mem _ hk)))]
 cases (List.range x.p.length).all fun k=>fitsV m (l.getD k default) (x.p.getD k default)<;>rfl
theorem res_26 (hm:modV m=true) (h:i.op=26) {x:Mth} (hx:calleeV m i=some x) {l:List Ty} (hlen:l.length=1+x.p.length) (hl:∀ t∈l,tyOk m t) (hp:∀ t∈x.p,tyOk m t) {e0:Int}
  (he:e0=if (decide ((l.getD 0 default).k=2)&&decide (0≤m.ent (l.getD 0 default).c i.a.toNat))=true then 0 else 11) :
  ResP (if x.r.k=0 then 0 else 1) (pushV m ls i l) (resL x.r) (errF m l x.p 1 e0 x.p.length):=by
 rw [pv26 h,hx]
 dsimp only
 refine res_ite (by have:=resL_len x.r;omega) (fun _=>rep_res _) ?_
 generalize (decide ((l.getD 0 default).k=2)&&decide (0≤m.ent (l.getD 0 default).c i.a.toNat))=c at he ⊢
 rw [errF_val _ _ _ _ _ (by subst he;split<;>simp)]
 rw [all_congr (q:=fun k=>fitsV m (l.getD (k+1) default) (x.p.getD k default)) (fun k hk=>by rw [Nat.add_comm];exact fitG_eq hm (hl _ (getD_mem _ (by omega))) (hp _ (getD_mem _ hk)))]
 subst he
 cases c<;>cases (List.range x.p.length).all fun k=>fitsV m (l.getD (k+1) default) (x.p.getD k default)<;>rfl
end
section
variable {w0 w:World}{K:Nat}{h:Hd}{m:Md}{lo:Option Addr}{lc:Nat}{ls:List Ty}{s:Ps}{so:Option Addr}{sc:Nat}{oo:Option Addr}{oc:Nat}{bs:List VB}{i:In3}
theorem St.old {w':World} (H:St w0 w K h m lo lc ls s so sc oo oc bs) (hb:Below w.heap.size w w'):St w0 w' K h m lo lc ls s so sc oo oc bs:=
 H.next (Upd.of hb) (H.ck.old hb) (H.ts.upd (Upd.of (K:=K) (B:=K) hb) H.ck.noTy H.ck.noTy)
theorem DoPost.bel {w1:World}{q:Int × List Ty}{r:Ending}{w':World} (H:DoPost w1 K h m lo lc ls oo oc bs q r w') (hb:Below w.heap.size w w1):DoPost w K h m lo lc ls oo oc bs q r w':=
 ⟨H.1,(Upd.of hb).trans H.2.1,H.2.2⟩
theorem one_of {l:List Ty} (h:l.length=1):∃ a,l=[a]:=by
 cases l with
 | nil=>cases h
 | cons a r=>cases r with
  | nil=>exact ⟨a,rfl⟩
  | cons b r=>simp at h
theorem two_of {l:List Ty} (h:l.length=2):∃ a b,l=[a,b]:=by
 cases l with
 | nil=>cases h
 | cons a r=>
  obtain ⟨b,rfl⟩:=one_of (l:=r) (by simpa using h)
  exact ⟨a,b,rfl⟩
theorem three_of {l:List Ty} (h:l.length=3):∃ a b c,l=[a,b,c]:=by
 cases l with
 | nil=>cases h
 | cons a r=>
  obtain ⟨b,c,rfl⟩:=two_of (l:=r) (by simpa using h)
  exact ⟨a,b,c,rfl⟩
end
end
section
open Go.RowKit
theorem push_gen (K:Nat) (h:Hd) (m:Md) (L:Value) (so:Option Addr) (sc:Nat) (st:List Ty) (oo:Option Addr) (oc:Nat) (bs:List VB) (e:Int) (tv:Ty) (w:World)
    (H:Ck w K h m L (.slice so st.length sc) (.slice oo bs.length oc) e) (hs:TyAt w so sc st) (hst:st.length≤1000) (ho:RowAt w oo oc bs) (hlen:bs.length≤1000000) :
    Calls Tryz.prog 82 #[.pointer (some ⟨K,0,none⟩),.agg #[.int .i64 tv.k,.int .i64 tv.c]] w fun r w'=>(∃ v,r=.returned v)∧Upd K K w w' ∧
      ((cntOk st.length 0 1 (baseB bs)=false∧Ck w' K h m L (.slice so st.length sc) (.slice oo bs.length oc) (errC e 12)) ∨
       (cntOk st.length 0 1 (baseB bs)=true∧∃ so' sc',TyAt w' so' sc' (st++[tv])∧Ck w' K h m L (.slice so' (st++[tv]).length sc') (.slice oo bs.length oc) e)):=by
  have hb1:Below w.heap.size w (w.alloc (.cells #[.int .i64 tv.k,.int .i64 tv.c] 38)):=by exact bE
  have hbx:=Blk.new w #[.int .i64 tv.k,.int .i64 tv.c] 38
  have kl:=Blk.lt H
  have HD:=Lib.hid (do_any K h m L so sc st oo oc bs e 0 1 107 #[.pointer (some ⟨w.heap.size,0,none⟩)] (fun out e'=>out=[tv]∧e'=e) _ (H.old hb1) (hs.upd (Upd.of (K:=K) (B:=K) hb1) H.noTy H.noTy) hst (ho.old hb1) hlen (by decide) ⟨by decide,by decide⟩ (fun _ _=>rfl) (fun out e' hp=>by rw [hp.1];simp)
    (fun _ w1 to' tc hu hck hown=>by
      refine (push1_any tv w.heap.size (.slice to' 0 tc) w1 (Blk.upd hbx hu (by omega) (by omega))).mono ?_
      rintro r w2 ⟨ro,rc,rfl,ht,_,hb⟩
      exact ⟨ro,rc,[tv],e,rfl,ht,hck.old hb,hu.bel hb,rfl,rfl⟩))
  have HB1:=Lib.hid hb1
  clear hb1 hbx H hs ho
  go_enter Tryz.func82,Tryz.ntmps82
  go_wp2_with (go_at_call 74;refine HD.out.mono ?_;rintro r w2 ⟨⟨v,rfl⟩,hu2,hd2⟩;have HU2:=Lib.hid hu2;have HD2:=Lib.hid hd2;clear hu2 hd2)
  go_end0
  refine ⟨⟨_,rfl⟩,(Upd.of HB1.out).trans HU2.out,?_⟩
  rcases HD2.out with ⟨h1,h2⟩|⟨h1,so',sc',out,e',⟨rfl,rfl⟩,h3,h4⟩
  · exact .inl ⟨h1,h2⟩
  · rw [Nat.sub_zero,List.take_length] at h3 h4
    exact .inr ⟨h1,so',sc',h3,h4⟩
theorem push_mid {w0 w:World}{K:Nat}{h:Hd}{m:Md}{lo:Option Addr}{lc:Nat}{ls:List Ty}{s:Ps}{so:Option Addr}{sc:Nat}{oo:Option Addr}{oc:Nat}{bs:List VB}{i:In3} (HW:stkOk m s.stk) (H:St w0 w K h m lo lc ls s so sc oo oc bs) (hd:s.opn.length≤6) (tv:Ty) (hcn:cntV m i=(0,1)) (hpv:pushV m ls i []=some tv) :
  Calls Tryz.prog 82 #[.pointer (some ⟨K,0,none⟩),.agg #[.int .i64 tv.k,.int .i64 tv.c]] w (DoPost w K h m lo lc ls oo oc bs (midV m ls i s)):=by
 have hl:=HW.1
 have hlen:=H.op.len
 refine (push_gen K h m (.slice lo ls.length lc) so sc s.stk oo oc bs 0 tv w H.ck H.ts (by omega) (RowAt.of_own H.op.own) (by omega)).mono ?_
 rintro r w' ⟨hv,hu,hq⟩
 refine ⟨hv,hu,?_⟩
 rw [baseB_eq H.op] at hq
 unfold midV
 rw [hcn]
 dsimp only
 rw [Nat.sub_zero,List.drop_length,List.take_length,hpv]
 rcases hq with ⟨hq,hc⟩|⟨hq,so',sc',ht,hc⟩
 ·rw [if_pos (by simp only [cntOk,Bool.and_eq_false_iff,decide_eq_false_iff_not] at hq;omega)]
  exact ⟨so,sc,s.stk,hc,H.ts.upd hu H.ck.noTy H.ck.noTy,by omega,fun h0=>by cases h0⟩
 ·rw [if_neg (by simp only [cntOk,Bool.and_eq_true,decide_eq_true_eq] at hq;omega)]
  exact ⟨so',sc',_,hc,ht,by simp;omega,fun _=>rfl⟩
theorem do_mid0 {w0 w:World}{K:Nat}{h:Hd}{m:Md}{lo:Option Addr}{lc:Nat}{ls:List Ty}{s:Ps}{so:Option Addr}{sc:Nat}{oo:Option Addr}{oc:Nat}{bs:List VB}{i:In3} (HW:stkOk m s.stk) (H:St w0 w K h m lo lc ls s so sc oo oc bs) (hd:s.opn.length≤6) (tk ps g:Nat) (caps:Array Value) (hcn:cntV m i=(tk,ps)) (htk:tk≤1000) (hps:ps≤1000)
  (cf:∀ A W,(callFunc g (A++caps)).run Tryz.prog W=.ok (.enter g (A++caps)) W)
  (hg:∀ l,l.length=tk→s.stk.drop (s.stk.length-tk)=l→∀ w1 to' tc,Upd K K w w1→Ck w1 K h m (.slice lo ls.length lc) (.slice so s.stk.length sc) (.slice oo bs.length oc) 0→w1.ownsRow w.heap.size 38 2 (.slice to' tk tc) tk (flatR l) →
   Calls Tryz.prog g (#[.slice to' tk tc]++caps) w1 (ClPost w K h m (.slice lo ls.length lc) (.slice so s.stk.length sc) (.slice oo bs.length oc) (ResP ps (pushV m ls i l)))) :
  Calls Tryz.prog 74 #[.pointer (some ⟨K,0,none⟩),.int .i64 tk,.int .i64 ps,.func (Fn.func g) #[] caps] w (DoPost w K h m lo lc ls oo oc bs (midV m ls i s)):=by
 have hb:=baseB_eq H.op
 have hlen:=H.op.len
 have hstk:=HW.1
 refine (do_any K h m (.slice lo ls.length lc) so sc s.stk oo oc bs 0 tk ps g caps (ResP ps (pushV m ls i (s.stk.drop (s.stk.length-tk)))) w H.ck H.ts (by omega) (RowAt.of_own H.op.own) (by omega) (by omega) ⟨by omega,by omega⟩ cf (fun out e' h=>h.1) ?_).mono ?_
 ·intro hle w1 to' tc hu hck hown
  refine (hg _ (by simp;omega) rfl w1 to' tc hu hck hown).mono ?_
  rintro r w2 ⟨ro,rc,out,e',hr,h1,h2,h3,h4⟩
  exact ⟨ro,rc,out,e',hr,h1,h2,h3,h4⟩
 ·rintro r w' ⟨hv,hu,hq⟩
  refine ⟨hv,hu,?_⟩
  rw [hb] at hq
  unfold midV
  rw [hcn]
  dsimp only
  rcases hq with ⟨hq,hc⟩|⟨hq,so',sc',out,e',hp,ht,hc⟩
  ·rw [if_pos (by simp only [cntOk,Bool.and_eq_false_iff,decide_eq_false_iff_not] at hq;omega)]
   exact ⟨so,sc,s.stk,hc,H.ts.upd hu H.ck.noTy H.ck.noTy,by omega,fun h0=>by cases h0⟩
  ·rw [if_neg (by simp only [cntOk,Bool.and_eq_true,decide_eq_true_eq] at hq;omega)]
   have hlo:(s.stk.take (s.stk.length-tk)++out).length≤2000:=by
    have:=hp.1
    simp;omega
   obtain ⟨-,hp⟩:=hp
   split at hp
   ·subst hp
    exact ⟨so',sc',_,hc,ht,hlo,fun h0=>by cases h0⟩
   ·rename_i t hn
    obtain ⟨rfl,rfl⟩:=hp
    exact ⟨so',sc',_,hc,ht,hlo,fun _=>rfl⟩
end
section
open Go.RowKit
theorem s_3 {w0 w:World}{K:Nat}{h:Hd}{m:Md}{lo:Option Addr}{lc:Nat}{ls:List Ty}{s:Ps}{so:Option Addr}{sc:Nat}{oo:Option Addr}{oc:Nat}{bs:List VB}{i:In3}{k:Nat} (hm:modV m=true) (hlo:∀ t∈ls,tyOk m t) (HW:stkOk m s.stk) (H:St w0 w K h m lo lc ls s so sc oo oc bs) (HM:ModAt w0 h m) (hd:s.opn.length≤6) (hi:OpdOk m k i) (hop:i.op=3) :
  Calls Tryz.prog 58 #[.pointer (some ⟨K,0,none⟩),.agg #[.int .i64 i.op,.int .i64 i.a,.int .i64 i.b]] w (DoPost w K h m lo lc ls oo oc bs (midV m ls i s)):=by
 obtain ⟨op,ia,ib⟩:=i
 dsimp only at hop
 subst hop
 have hb1:Below w.heap.size w ((w.alloc (.cells #[.pointer (some ⟨K,0,none⟩)] 80)).alloc (.cells #[.int .i64 3,.int .i64 ia,.int .i64 ib] 42)):=by exact bE
 have hbx:=(Blk.new w #[.pointer (some ⟨K,0,none⟩)] 80).alloc (.cells #[.int .i64 3,.int .i64 ia,.int .i64 ib] 42)
 have hbi:Blk ((w.alloc (.cells #[.pointer (some ⟨K,0,none⟩)] 80)).alloc (.cells #[.int .i64 3,.int .i64 ia,.int .i64 ib] 42)) (w.heap.size+1) #[.int .i64 3,.int .i64 ia,.int .i64 ib] 42:=Blk.new' (w:=w.alloc (.cells #[.pointer (some ⟨K,0,none⟩)] 80)) _ _ (by simp)
 have kl:=Blk.lt H.ck
 have H1:=H.old hb1
 have HD:=Lib.hid (do_mid (i:=⟨3,ia,ib⟩) HW H1 hd 1 0 84 #[.pointer (some ⟨w.heap.size,0,none⟩),.pointer (some ⟨w.heap.size+1,0,none⟩)] (cv10 (.inl rfl)) (by decide) (by decide) (fun _ _=>rfl) (fun l hl hdr w1 to' tc hu hck hown=>by
  obtain ⟨a,rfl⟩:=one_of hl
  have ha:=HW.2 a (List.mem_of_mem_drop (by rw [hdr];simp))
  have hHM:∀ w',Upd K K w1 w'→ModAt w' h m:=fun w' hu'=>HM.old ((hu.trans hu').below H1.hb (Nat.le_refl _) H1.hK H1.hK)
  have hx1:=Blk.upd hbx hu (by omega) (by omega)
  have hi1:=Blk.upd hbi hu (by omega) (by omega)
  have hT:=H1.tl.upd hu H1.ck.noTy H1.ck.noTy
  refine (simple2_any K h m _ _ _ a 3 ia ib to' tc _ w.heap.size (w.heap.size+1) w1 hck hHM hx1 hi1 hown lo lc ls rfl hT (hi.a0 (by simp))).mono ?_
  exact fun r w2 hp=>hp.imp fun out e' hq=>by obtain ⟨h1,h2⟩:=hq;rw [h1,h2];exact res_3 hm hlo rfl (hi.a0 (by simp)) ha))
 have HB1:=Lib.hid hb1
 clear hb1 hbx hbi H1 H HM hlo HW hi hm
 go_enter Tryz.func58,Tryz.ntmps58
 go_wp2_with (go_at_call 74;refine HD.out.mono ?_;rintro r w2 ⟨⟨v,rfl⟩,hu2,hd2⟩;have HU2:=Lib.hid hu2;have HD2:=Lib.hid hd2;clear hu2 hd2)
 go_end0
 exact DoPost.bel ⟨⟨_,rfl⟩,HU2.out,HD2.out⟩ HB1.out
theorem s_4 {w0 w:World}{K:Nat}{h:Hd}{m:Md}{lo:Option Addr}{lc:Nat}{ls:List Ty}{s:Ps}{so:Option Addr}{sc:Nat}{oo:Option Addr}{oc:Nat}{bs:List VB}{i:In3}{k:Nat} (hm:modV m=true) (hlo:∀ t∈ls,tyOk m t) (HW:stkOk m s.stk) (H:St w0 w K h m lo lc ls s so sc oo oc bs) (HM:ModAt w0 h m) (hd:s.opn.length≤6) (hi:OpdOk m k i) (hop:i.op=4) :
  Calls Tryz.prog 58 #[.pointer (some ⟨K,0,none⟩),.agg #[.int .i64 i.op,.int .i64 i.a,.int .i64 i.b]] w (DoPost w K h m lo lc ls oo oc bs (midV m ls i s)):=by
 obtain ⟨op,ia,ib⟩:=i
 dsimp only at hop
 subst hop
 have hb1:Below w.heap.size w ((w.alloc (.cells #[.pointer (some ⟨K,0,none⟩)] 80)).alloc (.cells #[.int .i64 4,.int .i64 ia,.int .i64 ib] 42)):=by exact bE
 have hbx:=(Blk.new w #[.pointer (some ⟨K,0,none⟩)] 80).alloc (.cells #[.int .i64 4,.int .i64 ia,.int .i64 ib] 42)
 have hbi:Blk ((w.alloc (.cells #[.pointer (some ⟨K,0,none⟩)] 80)).alloc (.cells #[.int .i64 4,.int .i64 ia,.int .i64 ib] 42)) (w.heap.size+1) #[.int .i64 4,.int .i64 ia,.int .i64 ib] 42:=Blk.new' (w:=w.alloc (.cells #[.pointer (some ⟨K,0,none⟩)] 80)) _ _ (by simp)
 have kl:=Blk.lt H.ck
 have H1:=H.old hb1
 have HD:=Lib.hid (do_mid (i:=⟨4,ia,ib⟩) HW H1 hd 1 0 81 #[] (cv10 (.inr (.inl rfl))) (by decide) (by decide) (fun _ _=>rfl) (fun l hl hdr w1 to' tc hu hck hown=>by
  obtain ⟨a,rfl⟩:=one_of hl
  have ha:=HW.2 a (List.mem_of_mem_drop (by rw [hdr];simp))
  have hHM:∀ w',Upd K K w1 w'→ModAt w' h m:=fun w' hu'=>HM.old ((hu.trans hu').below H1.hb (Nat.le_refl _) H1.hK H1.hK)
  have hx1:=Blk.upd hbx hu (by omega) (by omega)
  have hi1:=Blk.upd hbi hu (by omega) (by omega)
  have hT:=H1.tl.upd hu H1.ck.noTy H1.ck.noTy
  refine (none_any K h m _ _ _ (.slice to' 1 tc) w1 hck).mono ?_
  exact fun r w2 hp=>hp.imp fun out e' hq=>by obtain ⟨h1,h2⟩:=hq;rw [h1,h2];exact res_4 rfl))
 have HB1:=Lib.hid hb1
 clear hb1 hbx hbi H1 H HM hlo HW hi hm
 go_enter Tryz.func58,Tryz.ntmps58
 go_wp2_with (go_at_call 74;refine HD.out.mono ?_;rintro r w2 ⟨⟨v,rfl⟩,hu2,hd2⟩;have HU2:=Lib.hid hu2;have HD2:=Lib.hid hd2;clear hu2 hd2)
 go_end0
 exact DoPost.bel ⟨⟨_,rfl⟩,HU2.out,HD2.out⟩ HB1.out
theorem s_5 {w0 w:World}{K:Nat}{h:Hd}{m:Md}{lo:Option Addr}{lc:Nat}{ls:List Ty}{s:Ps}{so:Option Addr}{sc:Nat}{oo:Option Addr}{oc:Nat}{bs:List VB}{i:In3}{k:Nat} (hm:modV m=true) (hlo:∀ t∈ls,tyOk m t) (HW:stkOk m s.stk) (H:St w0 w K h m lo lc ls s so sc oo oc bs) (HM:ModAt w0 h m) (hd:s.opn.length≤6) (hi:OpdOk m k i) (hop:i.op=5) :
  Calls Tryz.prog 58 #[.pointer (some ⟨K,0,none⟩),.agg #[.int .i64 i.op,.int .i64 i.a,.int .i64 i.b]] w (DoPost w K h m lo lc ls oo oc bs (midV m ls i s)):=by
 obtain ⟨op,ia,ib⟩:=i
 dsimp only at hop
 subst hop
 have hb1:Below w.heap.size w ((w.alloc (.cells #[.pointer (some ⟨K,0,none⟩)] 80)).alloc (.cells #[.int .i64 5,.int .i64 ia,.int .i64 ib] 42)):=by exact bE
 have hbx:=(Blk.new w #[.pointer (some ⟨K,0,none⟩)] 80).alloc (.cells #[.int .i64 5,.int .i64 ia,.int .i64 ib] 42)
 have hbi:Blk ((w.alloc (.cells #[.pointer (some ⟨K,0,none⟩)] 80)).alloc (.cells #[.int .i64 5,.int .i64 ia,.int .i64 ib] 42)) (w.heap.size+1) #[.int .i64 5,.int .i64 ia,.int .i64 ib] 42:=Blk.new' (w:=w.alloc (.cells #[.pointer (some ⟨K,0,none⟩)] 80)) _ _ (by simp)
 have kl:=Blk.lt H.ck
 have H1:=H.old hb1
 have HD:=Lib.hid (do_mid0 (i:=⟨5,ia,ib⟩) HW H1 hd 1 2 86 #[] (cv12 rfl) (by decide) (by decide) (fun _ _=>rfl) (fun l hl hdr w1 to' tc hu hck hown=>by
  obtain ⟨a,rfl⟩:=one_of hl
  refine (simple3_any K h m _ _ _ a to' tc _ w1 hck hu hown).mono ?_
  exact fun r w2 hp=>hp.imp fun out e' hq=>by obtain ⟨h1,h2⟩:=hq;rw [h1,h2];exact res_5 rfl))
 have HB1:=Lib.hid hb1
 clear hb1 hbx hbi H1 H HM hlo HW hi hm
 go_enter Tryz.func58,Tryz.ntmps58
 go_wp2_with (go_at_call 74;refine HD.out.mono ?_;rintro r w2 ⟨⟨v,rfl⟩,hu2,hd2⟩;have HU2:=Lib.hid hu2;have HD2:=Lib.hid hd2;clear hu2 hd2)
 go_end0
 exact DoPost.bel ⟨⟨_,rfl⟩,HU2.out,HD2.out⟩ HB1.out
theorem s_6 {w0 w:World}{K:Nat}{h:Hd}{m:Md}{lo:Option Addr}{lc:Nat}{ls:List Ty}{s:Ps}{so:Option Addr}{sc:Nat}{oo:Option Addr}{oc:Nat}{bs:List VB}{i:In3}{k:Nat} (hm:modV m=true) (hlo:∀ t∈ls,tyOk m t) (HW:stkOk m s.stk) (H:St w0 w K h m lo lc ls s so sc oo oc bs) (HM:ModAt w0 h m) (hd:s.opn.length≤6) (hi:OpdOk m k i) (hop:i.op=6) :
  Calls Tryz.prog 58 #[.pointer (some ⟨K,0,none⟩),.agg #[.int .i64 i.op,.int .i64 i.a,.int .i64 i.b]] w (DoPost w K h m lo lc ls oo oc bs (midV m ls i s)):=by
 obtain ⟨op,ia,ib⟩:=i
 dsimp only at hop
 subst hop
 have hb1:Below w.heap.size w ((w.alloc (.cells #[.pointer (some ⟨K,0,none⟩)] 80)).alloc (.cells #[.int .i64 6,.int .i64 ia,.int .i64 ib] 42)):=by exact bE
 have hbx:=(Blk.new w #[.pointer (some ⟨K,0,none⟩)] 80).alloc (.cells #[.int .i64 6,.int .i64 ia,.int .i64 ib] 42)
 have hbi:Blk ((w.alloc (.cells #[.pointer (some ⟨K,0,none⟩)] 80)).alloc (.cells #[.int .i64 6,.int .i64 ia,.int .i64 ib] 42)) (w.heap.size+1) #[.int .i64 6,.int .i64 ia,.int .i64 ib] 42:=Blk.new' (w:=w.alloc (.cells #[.pointer (some ⟨K,0,none⟩)] 80)) _ _ (by simp)
 have kl:=Blk.lt H.ck
 have H1:=H.old hb1
 have HD:=Lib.hid (do_mid (i:=⟨6,ia,ib⟩) HW H1 hd 2 1 87 #[.pointer (some ⟨w.heap.size,0,none⟩)] (cv21 (by simp)) (by decide) (by decide) (fun _ _=>rfl) (fun l hl hdr w1 to' tc hu hck hown=>by
  obtain ⟨a,b,rfl⟩:=two_of hl
  have hx1:=Blk.upd hbx hu (by omega) (by omega)
  by_cases hA:a=tInt
  ·refine (simple4_yes K h m _ _ _ a b 0 0 0 to' tc _ w.heap.size 0 w1 hck hx1 hown hA).mono ?_
   exact fun r w2 hp=>hp.imp fun out e' hq=>by obtain ⟨h1,h2⟩:=hq;rw [h1,h2];exact res_6y (by simp) hA
  ·refine (simple4_no K h m _ _ _ a b 0 0 0 to' tc _ w.heap.size 0 w1 hck hx1 hown hA).mono ?_
   exact fun r w2 hp=>hp.imp fun out e' hq=>by obtain ⟨h1,h2⟩:=hq;rw [h1,h2];exact res_6n (by simp) hA))
 have HB1:=Lib.hid hb1
 clear hb1 hbx hbi H1 H HM hlo HW hi hm
 go_enter Tryz.func58,Tryz.ntmps58
 go_wp2_with (go_at_call 74;refine HD.out.mono ?_;rintro r w2 ⟨⟨v,rfl⟩,hu2,hd2⟩;have HU2:=Lib.hid hu2;have HD2:=Lib.hid hd2;clear hu2 hd2)
 go_end0
 exact DoPost.bel ⟨⟨_,rfl⟩,HU2.out,HD2.out⟩ HB1.out
theorem s_7 {w0 w:World}{K:Nat}{h:Hd}{m:Md}{lo:Option Addr}{lc:Nat}{ls:List Ty}{s:Ps}{so:Option Addr}{sc:Nat}{oo:Option Addr}{oc:Nat}{bs:List VB}{i:In3}{k:Nat} (hm:modV m=true) (hlo:∀ t∈ls,tyOk m t) (HW:stkOk m s.stk) (H:St w0 w K h m lo lc ls s so sc oo oc bs) (HM:ModAt w0 h m) (hd:s.opn.length≤6) (hi:OpdOk m k i) (hop:i.op=7) :
  Calls Tryz.prog 58 #[.pointer (some ⟨K,0,none⟩),.agg #[.int .i64 i.op,.int .i64 i.a,.int .i64 i.b]] w (DoPost w K h m lo lc ls oo oc bs (midV m ls i s)):=by
 obtain ⟨op,ia,ib⟩:=i
 dsimp only at hop
 subst hop
 have hb1:Below w.heap.size w ((w.alloc (.cells #[.pointer (some ⟨K,0,none⟩)] 80)).alloc (.cells #[.int .i64 7,.int .i64 ia,.int .i64 ib] 42)):=by exact bE
 have hbx:=(Blk.new w #[.pointer (some ⟨K,0,none⟩)] 80).alloc (.cells #[.int .i64 7,.int .i64 ia,.int .i64 ib] 42)
 have hbi:Blk ((w.alloc (.cells #[.pointer (some ⟨K,0,none⟩)] 80)).alloc (.cells #[.int .i64 7,.int .i64 ia,.int .i64 ib] 42)) (w.heap.size+1) #[.int .i64 7,.int .i64 ia,.int .i64 ib] 42:=Blk.new' (w:=w.alloc (.cells #[.pointer (some ⟨K,0,none⟩)] 80)) _ _ (by simp)
 have kl:=Blk.lt H.ck
 have H1:=H.old hb1
 have HD:=Lib.hid (do_mid (i:=⟨7,ia,ib⟩) HW H1 hd 2 1 87 #[.pointer (some ⟨w.heap.size,0,none⟩)] (cv21 (by simp)) (by decide) (by decide) (fun _ _=>rfl) (fun l hl hdr w1 to' tc hu hck hown=>by
  obtain ⟨a,b,rfl⟩:=two_of hl
  have hx1:=Blk.upd hbx hu (by omega) (by omega)
  by_cases hA:a=tInt
  ·refine (simple4_yes K h m _ _ _ a b 0 0 0 to' tc _ w.heap.size 0 w1 hck hx1 hown hA).mono ?_
   exact fun r w2 hp=>hp.imp fun out e' hq=>by obtain ⟨h1,h2⟩:=hq;rw [h1,h2];exact res_6y (by simp) hA
  ·refine (simple4_no K h m _ _ _ a b 0 0 0 to' tc _ w.heap.size 0 w1 hck hx1 hown hA).mono ?_
   exact fun r w2 hp=>hp.imp fun out e' hq=>by obtain ⟨h1,h2⟩:=hq;rw [h1,h2];exact res_6n (by simp) hA))
 have HB1:=Lib.hid hb1
 clear hb1 hbx hbi H1 H HM hlo HW hi hm
 go_enter Tryz.func58,Tryz.ntmps58
 go_wp2_with (go_at_call 74;refine HD.out.mono ?_;rintro r w2 ⟨⟨v,rfl⟩,hu2,hd2⟩;have HU2:=Lib.hid hu2;have HD2:=Lib.hid hd2;clear hu2 hd2)
 go_end0
 exact DoPost.bel ⟨⟨_,rfl⟩,HU2.out,HD2.out⟩ HB1.out
theorem s_8 {w0 w:World}{K:Nat}{h:Hd}{m:Md}{lo:Option Addr}{lc:Nat}{ls:List Ty}{s:Ps}{so:Option Addr}{sc:Nat}{oo:Option Addr}{oc:Nat}{bs:List VB}{i:In3}{k:Nat} (hm:modV m=true) (hlo:∀ t∈ls,tyOk m t) (HW:stkOk m s.stk) (H:St w0 w K h m lo lc ls s so sc oo oc bs) (HM:ModAt w0 h m) (hd:s.opn.length≤6) (hi:OpdOk m k i) (hop:i.op=8) :
  Calls Tryz.prog 58 #[.pointer (some ⟨K,0,none⟩),.agg #[.int .i64 i.op,.int .i64 i.a,.int .i64 i.b]] w (DoPost w K h m lo lc ls oo oc bs (midV m ls i s)):=by
 obtain ⟨op,ia,ib⟩:=i
 dsimp only at hop
 subst hop
 have hb1:Below w.heap.size w ((w.alloc (.cells #[.pointer (some ⟨K,0,none⟩)] 80)).alloc (.cells #[.int .i64 8,.int .i64 ia,.int .i64 ib] 42)):=by exact bE
 have hbx:=(Blk.new w #[.pointer (some ⟨K,0,none⟩)] 80).alloc (.cells #[.int .i64 8,.int .i64 ia,.int .i64 ib] 42)
 have hbi:Blk ((w.alloc (.cells #[.pointer (some ⟨K,0,none⟩)] 80)).alloc (.cells #[.int .i64 8,.int .i64 ia,.int .i64 ib] 42)) (w.heap.size+1) #[.int .i64 8,.int .i64 ia,.int .i64 ib] 42:=Blk.new' (w:=w.alloc (.cells #[.pointer (some ⟨K,0,none⟩)] 80)) _ _ (by simp)
 have kl:=Blk.lt H.ck
 have H1:=H.old hb1
 have HD:=Lib.hid (do_mid (i:=⟨8,ia,ib⟩) HW H1 hd 2 1 87 #[.pointer (some ⟨w.heap.size,0,none⟩)] (cv21 (by simp)) (by decide) (by decide) (fun _ _=>rfl) (fun l hl hdr w1 to' tc hu hck hown=>by
  obtain ⟨a,b,rfl⟩:=two_of hl
  have hx1:=Blk.upd hbx hu (by omega) (by omega)
  by_cases hA:a=tInt
  ·refine (simple4_yes K h m _ _ _ a b 0 0 0 to' tc _ w.heap.size 0 w1 hck hx1 hown hA).mono ?_
   exact fun r w2 hp=>hp.imp fun out e' hq=>by obtain ⟨h1,h2⟩:=hq;rw [h1,h2];exact res_6y (by simp) hA
  ·refine (simple4_no K h m _ _ _ a b 0 0 0 to' tc _ w.heap.size 0 w1 hck hx1 hown hA).mono ?_
   exact fun r w2 hp=>hp.imp fun out e' hq=>by obtain ⟨h1,h2⟩:=hq;rw [h1,h2];exact res_6n (by simp) hA))
 have HB1:=Lib.hid hb1
 clear hb1 hbx hbi H1 H HM hlo HW hi hm
 go_enter Tryz.func58,Tryz.ntmps58
 go_wp2_with (go_at_call 74;refine HD.out.mono ?_;rintro r w2 ⟨⟨v,rfl⟩,hu2,hd2⟩;have HU2:=Lib.hid hu2;have HD2:=Lib.hid hd2;clear hu2 hd2)
 go_end0
 exact DoPost.bel ⟨⟨_,rfl⟩,HU2.out,HD2.out⟩ HB1.out
theorem s_9 {w0 w:World}{K:Nat}{h:Hd}{m:Md}{lo:Option Addr}{lc:Nat}{ls:List Ty}{s:Ps}{so:Option Addr}{sc:Nat}{oo:Option Addr}{oc:Nat}{bs:List VB}{i:In3}{k:Nat} (hm:modV m=true) (hlo:∀ t∈ls,tyOk m t) (HW:stkOk m s.stk) (H:St w0 w K h m lo lc ls s so sc oo oc bs) (HM:ModAt w0 h m) (hd:s.opn.length≤6) (hi:OpdOk m k i) (hop:i.op=9) :
  Calls Tryz.prog 58 #[.pointer (some ⟨K,0,none⟩),.agg #[.int .i64 i.op,.int .i64 i.a,.int .i64 i.b]] w (DoPost w K h m lo lc ls oo oc bs (midV m ls i s)):=by
 obtain ⟨op,ia,ib⟩:=i
 dsimp only at hop
 subst hop
 have hb1:Below w.heap.size w ((w.alloc (.cells #[.pointer (some ⟨K,0,none⟩)] 80)).alloc (.cells #[.int .i64 9,.int .i64 ia,.int .i64 ib] 42)):=by exact bE
 have hbx:=(Blk.new w #[.pointer (some ⟨K,0,none⟩)] 80).alloc (.cells #[.int .i64 9,.int .i64 ia,.int .i64 ib] 42)
 have hbi:Blk ((w.alloc (.cells #[.pointer (some ⟨K,0,none⟩)] 80)).alloc (.cells #[.int .i64 9,.int .i64 ia,.int .i64 ib] 42)) (w.heap.size+1) #[.int .i64 9,.int .i64 ia,.int .i64 ib] 42:=Blk.new' (w:=w.alloc (.cells #[.pointer (some ⟨K,0,none⟩)] 80)) _ _ (by simp)
 have kl:=Blk.lt H.ck
 have H1:=H.old hb1
 have HD:=Lib.hid (do_mid (i:=⟨9,ia,ib⟩) HW H1 hd 2 1 87 #[.pointer (some ⟨w.heap.size,0,none⟩)] (cv21 (by simp)) (by decide) (by decide) (fun _ _=>rfl) (fun l hl hdr w1 to' tc hu hck hown=>by
  obtain ⟨a,b,rfl⟩:=two_of hl
  have hx1:=Blk.upd hbx hu (by omega) (by omega)
  by_cases hA:a=tInt
  ·refine (simple4_yes K h m _ _ _ a b 0 0 0 to' tc _ w.heap.size 0 w1 hck hx1 hown hA).mono ?_
   exact fun r w2 hp=>hp.imp fun out e' hq=>by obtain ⟨h1,h2⟩:=hq;rw [h1,h2];exact res_6y (by simp) hA
  ·refine (simple4_no K h m _ _ _ a b 0 0 0 to' tc _ w.heap.size 0 w1 hck hx1 hown hA).mono ?_
   exact fun r w2 hp=>hp.imp fun out e' hq=>by obtain ⟨h1,h2⟩:=hq;rw [h1,h2];exact res_6n (by simp) hA))
 have HB1:=Lib.hid hb1
 clear hb1 hbx hbi H1 H HM hlo HW hi hm
 go_enter Tryz.func58,Tryz.ntmps58
 go_wp2_with (go_at_call 74;refine HD.out.mono ?_;rintro r w2 ⟨⟨v,rfl⟩,hu2,hd2⟩;have HU2:=Lib.hid hu2;have HD2:=Lib.hid hd2;clear hu2 hd2)
 go_end0
 exact DoPost.bel ⟨⟨_,rfl⟩,HU2.out,HD2.out⟩ HB1.out
theorem s_10 {w0 w:World}{K:Nat}{h:Hd}{m:Md}{lo:Option Addr}{lc:Nat}{ls:List Ty}{s:Ps}{so:Option Addr}{sc:Nat}{oo:Option Addr}{oc:Nat}{bs:List VB}{i:In3}{k:Nat} (hm:modV m=true) (hlo:∀ t∈ls,tyOk m t) (HW:stkOk m s.stk) (H:St w0 w K h m lo lc ls s so sc oo oc bs) (HM:ModAt w0 h m) (hd:s.opn.length≤6) (hi:OpdOk m k i) (hop:i.op=10) :
  Calls Tryz.prog 58 #[.pointer (some ⟨K,0,none⟩),.agg #[.int .i64 i.op,.int .i64 i.a,.int .i64 i.b]] w (DoPost w K h m lo lc ls oo oc bs (midV m ls i s)):=by
 obtain ⟨op,ia,ib⟩:=i
 dsimp only at hop
 subst hop
 have hb1:Below w.heap.size w ((w.alloc (.cells #[.pointer (some ⟨K,0,none⟩)] 80)).alloc (.cells #[.int .i64 10,.int .i64 ia,.int .i64 ib] 42)):=by exact bE
 have hbx:=(Blk.new w #[.pointer (some ⟨K,0,none⟩)] 80).alloc (.cells #[.int .i64 10,.int .i64 ia,.int .i64 ib] 42)
 have hbi:Blk ((w.alloc (.cells #[.pointer (some ⟨K,0,none⟩)] 80)).alloc (.cells #[.int .i64 10,.int .i64 ia,.int .i64 ib] 42)) (w.heap.size+1) #[.int .i64 10,.int .i64 ia,.int .i64 ib] 42:=Blk.new' (w:=w.alloc (.cells #[.pointer (some ⟨K,0,none⟩)] 80)) _ _ (by simp)
 have kl:=Blk.lt H.ck
 have H1:=H.old hb1
 have HD:=Lib.hid (do_mid (i:=⟨10,ia,ib⟩) HW H1 hd 2 1 87 #[.pointer (some ⟨w.heap.size,0,none⟩)] (cv21 (by simp)) (by decide) (by decide) (fun _ _=>rfl) (fun l hl hdr w1 to' tc hu hck hown=>by
  obtain ⟨a,b,rfl⟩:=two_of hl
  have hx1:=Blk.upd hbx hu (by omega) (by omega)
  by_cases hA:a=tInt
  ·refine (simple4_yes K h m _ _ _ a b 0 0 0 to' tc _ w.heap.size 0 w1 hck hx1 hown hA).mono ?_
   exact fun r w2 hp=>hp.imp fun out e' hq=>by obtain ⟨h1,h2⟩:=hq;rw [h1,h2];exact res_6y (by simp) hA
  ·refine (simple4_no K h m _ _ _ a b 0 0 0 to' tc _ w.heap.size 0 w1 hck hx1 hown hA).mono ?_
   exact fun r w2 hp=>hp.imp fun out e' hq=>by obtain ⟨h1,h2⟩:=hq;rw [h1,h2];exact res_6n (by simp) hA))
 have HB1:=Lib.hid hb1
 clear hb1 hbx hbi H1 H HM hlo HW hi hm
 go_enter Tryz.func58,Tryz.ntmps58
 go_wp2_with (go_at_call 74;refine HD.out.mono ?_;rintro r w2 ⟨⟨v,rfl⟩,hu2,hd2⟩;have HU2:=Lib.hid hu2;have HD2:=Lib.hid hd2;clear hu2 hd2)
 go_end0
 exact DoPost.bel ⟨⟨_,rfl⟩,HU2.out,HD2.out⟩ HB1.out
theorem s_11 {w0 w:World}{K:Nat}{h:Hd}{m:Md}{lo:Option Addr}{lc:Nat}{ls:List Ty}{s:Ps}{so:Option Addr}{sc:Nat}{oo:Option Addr}{oc:Nat}{bs:List VB}{i:In3}{k:Nat} (hm:modV m=true) (hlo:∀ t∈ls,tyOk m t) (HW:stkOk m s.stk) (H:St w0 w K h m lo lc ls s so sc oo oc bs) (HM:ModAt w0 h m) (hd:s.opn.length≤6) (hi:OpdOk m k i) (hop:i.op=11) :
  Calls Tryz.prog 58 #[.pointer (some ⟨K,0,none⟩),.agg #[.int .i64 i.op,.int .i64 i.a,.int .i64 i.b]] w (DoPost w K h m lo lc ls oo oc bs (midV m ls i s)):=by
 obtain ⟨op,ia,ib⟩:=i
 dsimp only at hop
 subst hop
 have hb1:Below w.heap.size w ((w.alloc (.cells #[.pointer (some ⟨K,0,none⟩)] 80)).alloc (.cells #[.int .i64 11,.int .i64 ia,.int .i64 ib] 42)):=by exact bE
 have hbx:=(Blk.new w #[.pointer (some ⟨K,0,none⟩)] 80).alloc (.cells #[.int .i64 11,.int .i64 ia,.int .i64 ib] 42)
 have hbi:Blk ((w.alloc (.cells #[.pointer (some ⟨K,0,none⟩)] 80)).alloc (.cells #[.int .i64 11,.int .i64 ia,.int .i64 ib] 42)) (w.heap.size+1) #[.int .i64 11,.int .i64 ia,.int .i64 ib] 42:=Blk.new' (w:=w.alloc (.cells #[.pointer (some ⟨K,0,none⟩)] 80)) _ _ (by simp)
 have kl:=Blk.lt H.ck
 have H1:=H.old hb1
 have HD:=Lib.hid (do_mid (i:=⟨11,ia,ib⟩) HW H1 hd 2 1 87 #[.pointer (some ⟨w.heap.size,0,none⟩)] (cv21 (by simp)) (by decide) (by decide) (fun _ _=>rfl) (fun l hl hdr w1 to' tc hu hck hown=>by
  obtain ⟨a,b,rfl⟩:=two_of hl
  have hx1:=Blk.upd hbx hu (by omega) (by omega)
  by_cases hA:a=tInt
  ·refine (simple4_yes K h m _ _ _ a b 0 0 0 to' tc _ w.heap.size 0 w1 hck hx1 hown hA).mono ?_
   exact fun r w2 hp=>hp.imp fun out e' hq=>by obtain ⟨h1,h2⟩:=hq;rw [h1,h2];exact res_6y (by simp) hA
  ·refine (simple4_no K h m _ _ _ a b 0 0 0 to' tc _ w.heap.size 0 w1 hck hx1 hown hA).mono ?_
   exact fun r w2 hp=>hp.imp fun out e' hq=>by obtain ⟨h1,h2⟩:=hq;rw [h1,h2];exact res_6n (by simp) hA))
 have HB1:=Lib.hid hb1
 clear hb1 hbx hbi H1 H HM hlo HW hi hm
 go_enter Tryz.func58,Tryz.ntmps58
 go_wp2_with (go_at_call 74;refine HD.out.mono ?_;rintro r w2 ⟨⟨v,rfl⟩,hu2,hd2⟩;have HU2:=Lib.hid hu2;have HD2:=Lib.hid hd2;clear hu2 hd2)
 go_end0
 exact DoPost.bel ⟨⟨_,rfl⟩,HU2.out,HD2.out⟩ HB1.out
theorem s_13 {w0 w:World}{K:Nat}{h:Hd}{m:Md}{lo:Option Addr}{lc:Nat}{ls:List Ty}{s:Ps}{so:Option Addr}{sc:Nat}{oo:Option Addr}{oc:Nat}{bs:List VB}{i:In3}{k:Nat} (hm:modV m=true) (hlo:∀ t∈ls,tyOk m t) (HW:stkOk m s.stk) (H:St w0 w K h m lo lc ls s so sc oo oc bs) (HM:ModAt w0 h m) (hd:s.opn.length≤6) (hi:OpdOk m k i) (hop:i.op=13) :
  Calls Tryz.prog 58 #[.pointer (some ⟨K,0,none⟩),.agg #[.int .i64 i.op,.int .i64 i.a,.int .i64 i.b]] w (DoPost w K h m lo lc ls oo oc bs (midV m ls i s)):=by
 obtain ⟨op,ia,ib⟩:=i
 dsimp only at hop
 subst hop
 have hb1:Below w.heap.size w ((w.alloc (.cells #[.pointer (some ⟨K,0,none⟩)] 80)).alloc (.cells #[.int .i64 13,.int .i64 ia,.int .i64 ib] 42)):=by exact bE
 have hbx:=(Blk.new w #[.pointer (some ⟨K,0,none⟩)] 80).alloc (.cells #[.int .i64 13,.int .i64 ia,.int .i64 ib] 42)
 have hbi:Blk ((w.alloc (.cells #[.pointer (some ⟨K,0,none⟩)] 80)).alloc (.cells #[.int .i64 13,.int .i64 ia,.int .i64 ib] 42)) (w.heap.size+1) #[.int .i64 13,.int .i64 ia,.int .i64 ib] 42:=Blk.new' (w:=w.alloc (.cells #[.pointer (some ⟨K,0,none⟩)] 80)) _ _ (by simp)
 have kl:=Blk.lt H.ck
 have H1:=H.old hb1
 have HD:=Lib.hid (do_mid (i:=⟨13,ia,ib⟩) HW H1 hd 1 1 88 #[.pointer (some ⟨w.heap.size,0,none⟩)] (cv11 (.inl rfl)) (by decide) (by decide) (fun _ _=>rfl) (fun l hl hdr w1 to' tc hu hck hown=>by
  obtain ⟨a,rfl⟩:=one_of hl
  have ha:=HW.2 a (List.mem_of_mem_drop (by rw [hdr];simp))
  have hHM:∀ w',Upd K K w1 w'→ModAt w' h m:=fun w' hu'=>HM.old ((hu.trans hu').below H1.hb (Nat.le_refl _) H1.hK H1.hK)
  have hx1:=Blk.upd hbx hu (by omega) (by omega)
  have hi1:=Blk.upd hbi hu (by omega) (by omega)
  have hT:=H1.tl.upd hu H1.ck.noTy H1.ck.noTy
  refine (simple5_any K h m _ _ _ a 0 0 0 to' tc _ w.heap.size 0 w1 hck hx1 hown).mono ?_
  exact fun r w2 hp=>hp.imp fun out e' hq=>by obtain ⟨h1,h2⟩:=hq;rw [h1,h2];exact res_13 rfl))
 have HB1:=Lib.hid hb1
 clear hb1 hbx hbi H1 H HM hlo HW hi hm
 go_enter Tryz.func58,Tryz.ntmps58
 go_wp2_with (go_at_call 74;refine HD.out.mono ?_;rintro r w2 ⟨⟨v,rfl⟩,hu2,hd2⟩;have HU2:=Lib.hid hu2;have HD2:=Lib.hid hd2;clear hu2 hd2)
 go_end0
 exact DoPost.bel ⟨⟨_,rfl⟩,HU2.out,HD2.out⟩ HB1.out
theorem s_27 {w0 w:World}{K:Nat}{h:Hd}{m:Md}{lo:Option Addr}{lc:Nat}{ls:List Ty}{s:Ps}{so:Option Addr}{sc:Nat}{oo:Option Addr}{oc:Nat}{bs:List VB}{i:In3}{k:Nat} (hm:modV m=true) (hlo:∀ t∈ls,tyOk m t) (HW:stkOk m s.stk) (H:St w0 w K h m lo lc ls s so sc oo oc bs) (HM:ModAt w0 h m) (hd:s.opn.length≤6) (hi:OpdOk m k i) (hop:i.op=27) :
  Calls Tryz.prog 58 #[.pointer (some ⟨K,0,none⟩),.agg #[.int .i64 i.op,.int .i64 i.a,.int .i64 i.b]] w (DoPost w K h m lo lc ls oo oc bs (midV m ls i s)):=by
 obtain ⟨op,ia,ib⟩:=i
 dsimp only at hop
 subst hop
 have hb1:Below w.heap.size w ((w.alloc (.cells #[.pointer (some ⟨K,0,none⟩)] 80)).alloc (.cells #[.int .i64 27,.int .i64 ia,.int .i64 ib] 42)):=by exact bE
 have hbx:=(Blk.new w #[.pointer (some ⟨K,0,none⟩)] 80).alloc (.cells #[.int .i64 27,.int .i64 ia,.int .i64 ib] 42)
 have hbi:Blk ((w.alloc (.cells #[.pointer (some ⟨K,0,none⟩)] 80)).alloc (.cells #[.int .i64 27,.int .i64 ia,.int .i64 ib] 42)) (w.heap.size+1) #[.int .i64 27,.int .i64 ia,.int .i64 ib] 42:=Blk.new' (w:=w.alloc (.cells #[.pointer (some ⟨K,0,none⟩)] 80)) _ _ (by simp)
 have kl:=Blk.lt H.ck
 have H1:=H.old hb1
 have HD:=Lib.hid (do_mid (i:=⟨27,ia,ib⟩) HW H1 hd 1 0 89 #[.pointer (some ⟨w.heap.size,0,none⟩)] (cv10 (by simp)) (by decide) (by decide) (fun _ _=>rfl) (fun l hl hdr w1 to' tc hu hck hown=>by
  obtain ⟨a,rfl⟩:=one_of hl
  have ha:=HW.2 a (List.mem_of_mem_drop (by rw [hdr];simp))
  have hHM:∀ w',Upd K K w1 w'→ModAt w' h m:=fun w' hu'=>HM.old ((hu.trans hu').below H1.hb (Nat.le_refl _) H1.hK H1.hK)
  have hx1:=Blk.upd hbx hu (by omega) (by omega)
  have hi1:=Blk.upd hbi hu (by omega) (by omega)
  have hT:=H1.tl.upd hu H1.ck.noTy H1.ck.noTy
  refine (simple6_any K h m _ _ _ a 0 0 0 to' tc _ w.heap.size 0 w1 hck hx1 hown).mono ?_
  exact fun r w2 hp=>hp.imp fun out e' hq=>by obtain ⟨h1,h2⟩:=hq;rw [h1,h2];exact res_27 (.inl rfl)))
 have HB1:=Lib.hid hb1
 clear hb1 hbx hbi H1 H HM hlo HW hi hm
 go_enter Tryz.func58,Tryz.ntmps58
 go_wp2_with (go_at_call 74;refine HD.out.mono ?_;rintro r w2 ⟨⟨v,rfl⟩,hu2,hd2⟩;have HU2:=Lib.hid hu2;have HD2:=Lib.hid hd2;clear hu2 hd2)
 go_end0
 exact DoPost.bel ⟨⟨_,rfl⟩,HU2.out,HD2.out⟩ HB1.out
theorem s_1 {w0 w:World}{K:Nat}{h:Hd}{m:Md}{lo:Option Addr}{lc:Nat}{ls:List Ty}{s:Ps}{so:Option Addr}{sc:Nat}{oo:Option Addr}{oc:Nat}{bs:List VB}{i:In3}{k:Nat} (hm:modV m=true) (hlo:∀ t∈ls,tyOk m t) (HW:stkOk m s.stk) (H:St w0 w K h m lo lc ls s so sc oo oc bs) (HM:ModAt w0 h m) (hd:s.opn.length≤6) (hi:OpdOk m k i) (hop:i.op=1) :
  Calls Tryz.prog 58 #[.pointer (some ⟨K,0,none⟩),.agg #[.int .i64 i.op,.int .i64 i.a,.int .i64 i.b]] w (DoPost w K h m lo lc ls oo oc bs (midV m ls i s)):=by
 obtain ⟨op,ia,ib⟩:=i
 dsimp only at hop
 subst hop
 have hb1:Below w.heap.size w ((w.alloc (.cells #[.pointer (some ⟨K,0,none⟩)] 80)).alloc (.cells #[.int .i64 1,.int .i64 ia,.int .i64 ib] 42)):=by exact bE
 have hbx:=(Blk.new w #[.pointer (some ⟨K,0,none⟩)] 80).alloc (.cells #[.int .i64 1,.int .i64 ia,.int .i64 ib] 42)
 have hbi:Blk ((w.alloc (.cells #[.pointer (some ⟨K,0,none⟩)] 80)).alloc (.cells #[.int .i64 1,.int .i64 ia,.int .i64 ib] 42)) (w.heap.size+1) #[.int .i64 1,.int .i64 ia,.int .i64 ib] 42:=Blk.new' (w:=w.alloc (.cells #[.pointer (some ⟨K,0,none⟩)] 80)) _ _ (by simp)
 have kl:=Blk.lt H.ck
 have H1:=H.old hb1
 have HB1:=Lib.hid hb1
 have HH:=Lib.hid H1
 have cc:=hbx.cell 0 (v:=.pointer (some ⟨K,0,none⟩)) rfl
 have i1:=hbi.cell 1 (v:=.int .i64 ia) rfl
 have hS:∀ w',Upd K K ((w.alloc (.cells #[.pointer (some ⟨K,0,none⟩)] 80)).alloc (.cells #[.int .i64 1,.int .i64 ia,.int .i64 ib] 42)) w'→(∃ L S O e,Ck w' K h m L S O e)→(fun w':World=>w'.cell? ⟨w.heap.size,0,none⟩=some (.pointer (some ⟨K,0,none⟩))) w':=fun w' hu hc=>hu.cell cc (by show w.heap.size≠K;omega) (by show w.heap.size≠K;omega)
 have HS:=Lib.hid hS
 have HHM:=Lib.hid HM
 obtain ⟨W1,hW1⟩:∃ W1,W1=((w.alloc (.cells #[.pointer (some ⟨K,0,none⟩)] 80)).alloc (.cells #[.int .i64 1,.int .i64 ia,.int .i64 ib] 42)):=⟨_,rfl⟩
 rw [←hW1] at HS HH HB1
 have HW1:=Lib.hid hW1
 have HHW:=Lib.hid HW
 have HI:=Lib.hid hi
 have HHm:=Lib.hid hm
 have HLo:=Lib.hid hlo
 clear hb1 hbx hbi H1 H HM hlo HW hi hm cc i1 hS hW1
 go_enter Tryz.func58,Tryz.ntmps58
 go_wp2_with fail
 refine rO (fun w':World=>w'.cell? ⟨w.heap.size,0,none⟩=some (.pointer (some ⟨K,0,none⟩))) (.plain 0 (.one 1 (.one 2 .done))) (HW1.out▸HS.out _ (Upd.refl K K W1).drew ⟨_,_,_,_,Ck.drew HH.out.ck⟩) ?_
 rw [←HW1.out]
 have HB2:=Lib.hid (show Below W1.heap.size W1 W1.drew by exact bE)
 repeat refine pO ?_
 refine oO fun Kv hK=>?_
 go_simp
 refine (number_any _).mono ?_
 rintro r w3 ⟨rfl,hb3⟩
 have HB3:=Lib.hid (bthen HB2.out hb3)
 refine hK _ _ ⟨HS.out _ (Upd.of HB3.out) ⟨_,_,_,_,HH.out.ck.old HB3.out⟩,?_⟩
 clear hK Kv hb3
 repeat refine pO ?_
 refine oO fun Kv hK=>?_
 go_simp
 refine (push_mid (i:=⟨1,ia,ib⟩) HHW.out (HH.out.old HB3.out) hd (tInt) (cv01 (by simp)) (pv1 rfl)).mono ?_
 rintro r w4 ⟨⟨v4,rfl⟩,hu4,hd4⟩
 have HU4:=Lib.hid ((Upd.of HB3.out).trans hu4)
 have HD4:=Lib.hid hd4
 have hck:∃ L S O e,Ck w4 K h m L S O e:=by obtain ⟨so2,sc2,st2,h1,-⟩:=HD4.out;exact ⟨_,_,_,_,h1⟩
 refine hK _ _ ⟨HS.out _ HU4.out hck,?_⟩
 clear hK Kv hu4 hd4 hck
 refine wpMixO_done ?_
 go_wp2
 go_end0
 exact DoPost.bel ⟨⟨_,rfl⟩,HU4.out,HD4.out⟩ HB1.out
theorem s_12 {w0 w:World}{K:Nat}{h:Hd}{m:Md}{lo:Option Addr}{lc:Nat}{ls:List Ty}{s:Ps}{so:Option Addr}{sc:Nat}{oo:Option Addr}{oc:Nat}{bs:List VB}{i:In3}{k:Nat} (hm:modV m=true) (hlo:∀ t∈ls,tyOk m t) (HW:stkOk m s.stk) (H:St w0 w K h m lo lc ls s so sc oo oc bs) (HM:ModAt w0 h m) (hd:s.opn.length≤6) (hi:OpdOk m k i) (hop:i.op=12) :
  Calls Tryz.prog 58 #[.pointer (some ⟨K,0,none⟩),.agg #[.int .i64 i.op,.int .i64 i.a,.int .i64 i.b]] w (DoPost w K h m lo lc ls oo oc bs (midV m ls i s)):=by
 obtain ⟨op,ia,ib⟩:=i
 dsimp only at hop
 subst hop
 have hb1:Below w.heap.size w ((w.alloc (.cells #[.pointer (some ⟨K,0,none⟩)] 80)).alloc (.cells #[.int .i64 12,.int .i64 ia,.int .i64 ib] 42)):=by exact bE
 have hbx:=(Blk.new w #[.pointer (some ⟨K,0,none⟩)] 80).alloc (.cells #[.int .i64 12,.int .i64 ia,.int .i64 ib] 42)
 have hbi:Blk ((w.alloc (.cells #[.pointer (some ⟨K,0,none⟩)] 80)).alloc (.cells #[.int .i64 12,.int .i64 ia,.int .i64 ib] 42)) (w.heap.size+1) #[.int .i64 12,.int .i64 ia,.int .i64 ib] 42:=Blk.new' (w:=w.alloc (.cells #[.pointer (some ⟨K,0,none⟩)] 80)) _ _ (by simp)
 have kl:=Blk.lt H.ck
 have H1:=H.old hb1
 have HD:=Lib.hid (push_mid (i:=⟨12,ia,ib⟩) HW H1 hd ⟨ia,ib⟩ (cv01 (by simp)) (pv12 rfl))
 have HB1:=Lib.hid hb1
 clear hb1 hbx hbi H1 H HM hlo HW hi hm
 go_enter Tryz.func58,Tryz.ntmps58
 go_wp2_with (go_at_call 82;refine HD.out.mono ?_;rintro r w2 ⟨⟨v,rfl⟩,hu2,hd2⟩;have HU2:=Lib.hid hu2;have HD2:=Lib.hid hd2;clear hu2 hd2)
 go_end0
 exact DoPost.bel ⟨⟨_,rfl⟩,HU2.out,HD2.out⟩ HB1.out
theorem s_2 {w0 w:World}{K:Nat}{h:Hd}{m:Md}{lo:Option Addr}{lc:Nat}{ls:List Ty}{s:Ps}{so:Option Addr}{sc:Nat}{oo:Option Addr}{oc:Nat}{bs:List VB}{i:In3}{k:Nat} (hm:modV m=true) (hlo:∀ t∈ls,tyOk m t) (HW:stkOk m s.stk) (H:St w0 w K h m lo lc ls s so sc oo oc bs) (HM:ModAt w0 h m) (hd:s.opn.length≤6) (hi:OpdOk m k i) (hop:i.op=2) :
  Calls Tryz.prog 58 #[.pointer (some ⟨K,0,none⟩),.agg #[.int .i64 i.op,.int .i64 i.a,.int .i64 i.b]] w (DoPost w K h m lo lc ls oo oc bs (midV m ls i s)):=by
 obtain ⟨op,ia,ib⟩:=i
 dsimp only at hop
 subst hop
 have hb1:Below w.heap.size w ((w.alloc (.cells #[.pointer (some ⟨K,0,none⟩)] 80)).alloc (.cells #[.int .i64 2,.int .i64 ia,.int .i64 ib] 42)):=by exact bE
 have hbx:=(Blk.new w #[.pointer (some ⟨K,0,none⟩)] 80).alloc (.cells #[.int .i64 2,.int .i64 ia,.int .i64 ib] 42)
 have hbi:Blk ((w.alloc (.cells #[.pointer (some ⟨K,0,none⟩)] 80)).alloc (.cells #[.int .i64 2,.int .i64 ia,.int .i64 ib] 42)) (w.heap.size+1) #[.int .i64 2,.int .i64 ia,.int .i64 ib] 42:=Blk.new' (w:=w.alloc (.cells #[.pointer (some ⟨K,0,none⟩)] 80)) _ _ (by simp)
 have kl:=Blk.lt H.ck
 have H1:=H.old hb1
 have ha:=hi.a0 (by simp)
 dsimp only at ha
 have hl:=HW.1
 have hlen:=H.op.len
 have HCn:=Lib.hid (counts_any K h m (.slice lo ls.length lc) so s.stk.length sc oo oc bs 0 0 1 _ H1.ck (RowAt.of_own H1.op.own) (by omega) (by omega) (by omega) (by omega))
 have HB1:=Lib.hid hb1
 have HH:=Lib.hid H1
 have hbb:=baseB_eq H.op
 obtain ⟨q,hq⟩:∃ q,q=cntOk s.stk.length 0 1 (baseB bs):=⟨_,rfl⟩
 rw [←hq] at HCn
 have HQ:=Lib.hid hq
 have HBB:=Lib.hid hbb
 have HX:=Lib.hid (And.intro hbx hbi)
 have HNT:=Lib.hid H1.ck.noTy
 clear hb1 H HM hlo HW hi hm hbb hq hbx hbi H1
 rcases q with _|_
 ·go_enter Tryz.func58,Tryz.ntmps58
  go_wp2_with (go_at_call 83;refine HCn.out.mono ?_;rintro r w2 ⟨rfl,hc2,hu2⟩;have HU2:=Lib.hid hu2;have HC2:=Lib.hid hc2;clear hu2 hc2)
  go_end0
  refine DoPost.bel ⟨⟨_,rfl⟩,HU2.out,?_⟩ HB1.out
  have hm2:midV m ls ⟨2,ia,ib⟩ s=(12,s.stk):=by
   have h1:=HQ.out
   rw [HBB.out] at h1
   unfold midV
   rw [cv01 (by simp)]
   rw [if_pos (by
    have h2:=h1.symm
    simp only [cntOk,Bool.and_eq_false_iff,decide_eq_false_iff_not] at h2
    omega)]
  rw [hm2]
  exact ⟨so,sc,s.stk,HC2.out,HH.out.ts.upd HU2.out HNT.out HNT.out,by omega,fun h0=>by cases h0⟩
 ·go_enter Tryz.func58,Tryz.ntmps58
  go_upto_region 7 with fail
  go_wp2_with (go_at_call 83;refine HCn.out.mono ?_;rintro r w2 ⟨rfl,hc2,hu2⟩;have HU2:=Lib.hid hu2;have HC2:=Lib.hid (show Ck w2 K h m (.slice lo ls.length lc) (.slice so s.stk.length sc) (.slice oo bs.length oc) 0 from hc2);clear hu2 hc2;have cc:=(Blk.upd HX.out.1 HU2.out (by omega) (by omega)).cell 0 (v:=.pointer (some ⟨K,0,none⟩)) rfl;have i1:=(Blk.upd HX.out.2 HU2.out (by omega) (by omega)).cell 1 (v:=.int .i64 ia) rfl)
  have hsz:w.heap.size+1<w2.heap.size:=cell_lt i1
  have hS:∀ w',Upd K K w2 w'→(fun w':World=>w'.cell? ⟨w.heap.size,0,none⟩=some (.pointer (some ⟨K,0,none⟩))∧w'.cell? ⟨w.heap.size+1,1,none⟩=some (.int .i64 ia)) w':=fun w' hu=>⟨hu.cell cc (by show w.heap.size≠K;omega) (by show w.heap.size≠K;omega),hu.cell i1 (by show w.heap.size+1≠K;omega) (by show w.heap.size+1≠K;omega)⟩
  have HS:=Lib.hid hS
  obtain ⟨⟨uk,uc⟩,hu⟩:∃ x:Ty,x=ls.getD ia.toNat default:=⟨_,rfl⟩
  obtain ⟨lb,hlb⟩:∃ x:Bool,x=decide (ia<ls.length):=⟨_,rfl⟩
  have HLo:=Lib.hid (show ∀ w':World,Upd K K w2 w'→Ck w' K h m (.slice lo ls.length lc) (.slice so s.stk.length sc) (.slice oo bs.length oc) 0→Calls Tryz.prog 79 #[.pointer (some ⟨K,0,none⟩),.int .i64 ia] w' fun r w''=>r=.returned (.agg #[.int .i64 uk,.int .i64 uc])∧Ck w'' K h m (.slice lo ls.length lc) (.slice so s.stk.length sc) (.slice oo bs.length oc) (wantC 0 lb)∧Upd K K w' w'' from fun w' hu' hc=>by
   have:=local_any K h m (.slice so s.stk.length sc) (.slice oo bs.length oc) lo lc ls 0 ia w' hc ((HH.out.tl.upd HU2.out HNT.out HNT.out).upd hu' HC2.out.noTy HC2.out.noTy).1 ha
   rw [←hu,←hlb] at this
   exact this)
  have HPu:=Lib.hid (show ∀ w':World,Upd K K w2 w'→Ck w' K h m (.slice lo ls.length lc) (.slice so s.stk.length sc) (.slice oo bs.length oc) (wantC 0 lb)→Calls Tryz.prog 82 #[.pointer (some ⟨K,0,none⟩),.agg #[.int .i64 uk,.int .i64 uc]] w' fun r w''=>(∃ v,r=.returned v)∧Upd K K w' w''∧∃ so' sc',TyAt w'' so' sc' (s.stk++[⟨uk,uc⟩])∧Ck w'' K h m (.slice lo ls.length lc) (.slice so' (s.stk++[(⟨uk,uc⟩:Ty)]).length sc') (.slice oo bs.length oc) (wantC 0 lb) from fun w' hu' hc=>by
   have hop':=(HH.out.op.upd HU2.out HNT.out HH.out.ne).upd hu' HC2.out.noTy HH.out.ne
   refine (push_gen K h m (.slice lo ls.length lc) so sc s.stk oo oc bs (wantC 0 lb) ⟨uk,uc⟩ w' hc ((HH.out.ts.upd HU2.out HNT.out HNT.out).upd hu' HC2.out.noTy HC2.out.noTy) (by omega) (RowAt.of_own hop'.own) (by omega)).mono ?_
   rintro r w'' ⟨h1,h2,h3⟩
   refine ⟨h1,h2,?_⟩
   rcases h3 with ⟨h3,_⟩|⟨_,h3⟩
   ·have h9:=HQ.out;rw [h3] at h9;cases h9
   ·exact h3)
  have HLu:=Lib.hid hu
  have HLb:=Lib.hid hlb
  clear hS cc i1 hu hlb
  refine rO (fun w':World=>w'.cell? ⟨w.heap.size,0,none⟩=some (.pointer (some ⟨K,0,none⟩))∧w'.cell? ⟨w.heap.size+1,1,none⟩=some (.int .i64 ia)) (.plain 0 (.plain 1 (.plain 2 (.plain 3 (.one 4 (.one 5 .done)))))) (HS.out _ (Upd.refl K K w2).drew) ?_
  repeat refine pO ?_
  refine oO fun Kv hK=>?_
  go_simp
  refine (HLo.out _ (Upd.refl K K w2).drew (Ck.drew HC2.out)).mono ?_
  rintro r w3 ⟨rfl,hc3,hu3⟩
  have HU3:=Lib.hid ((Upd.refl K K w2).drew.trans hu3)
  have HC3:=Lib.hid hc3
  refine hK _ _ ⟨HS.out _ HU3.out,?_⟩
  clear hK Kv hc3 hu3
  repeat refine pO ?_
  refine oO fun Kv hK=>?_
  go_simp
  refine (HPu.out _ HU3.out HC3.out).mono ?_
  rintro r w4 ⟨⟨v4,rfl⟩,hu4,hd4⟩
  have HU4:=Lib.hid (HU3.out.trans hu4)
  have HD4:=Lib.hid hd4
  refine hK _ _ ⟨HS.out _ HU4.out,?_⟩
  clear hK Kv hu4 hd4
  refine wpMixO_done ?_
  go_wp2
  go_end0
  refine DoPost.bel ⟨⟨_,rfl⟩,HU2.out.trans HU4.out,?_⟩ HB1.out
  obtain ⟨so',sc',ht,hc⟩:=HD4.out
  have hm2:midV m ls ⟨2,ia,ib⟩ s=if ia<ls.length then (0,s.stk++[⟨uk,uc⟩]) else (11,s.stk):=by
   have h1:=HQ.out
   rw [HBB.out] at h1
   unfold midV
   rw [cv01 (by simp),pv2 (by rfl)]
   rw [if_neg (by
    have h2:=h1.symm
    simp only [cntOk,Bool.and_eq_true,decide_eq_true_eq] at h2
    omega)]
   dsimp only
   by_cases hlt:ia<ls.length
   ·rw [if_pos hlt,getD_some (by omega),←HLu.out]
    simp
   ·rw [if_neg hlt,List.getElem?_eq_none (by omega)]
  rw [hm2]
  have hlb:=HLb.out
  by_cases hlt:ia<ls.length
  ·rw [if_pos hlt]
   rw [decide_eq_true hlt] at hlb
   subst hlb
   exact ⟨so',sc',_,hc,ht,by simp;omega,fun _=>rfl⟩
  ·rw [if_neg hlt]
   rw [decide_eq_false hlt] at hlb
   subst hlb
   exact ⟨so',sc',_,hc,ht,by simp;omega,fun h0=>by cases h0⟩
end
section
open Go.RowKit
theorem m_17 {w0 w:World}{K:Nat}{h:Hd}{m:Md}{lo:Option Addr}{lc:Nat}{ls:List Ty}{s:Ps}{so:Option Addr}{sc:Nat}{oo:Option Addr}{oc:Nat}{bs:List VB}{i:In3}{k:Nat} (hm:modV m=true) (hlo:∀ t∈ls,tyOk m t) (HW:stkOk m s.stk) (H:St w0 w K h m lo lc ls s so sc oo oc bs) (HM:ModAt w0 h m) (hd:s.opn.length≤6) (hi:OpdOk m k i) (hop:i.op=17) :
  Calls Tryz.prog 90 #[.pointer (some ⟨K,0,none⟩),.agg #[.int .i64 i.op,.int .i64 i.a,.int .i64 i.b]] w (DoPost w K h m lo lc ls oo oc bs (midV m ls i s)):=by
 obtain ⟨op,ia,ib⟩:=i
 dsimp only at hop
 subst hop
 have hb1:Below w.heap.size w ((w.alloc (.cells #[.pointer (some ⟨K,0,none⟩)] 80)).alloc (.cells #[.int .i64 17,.int .i64 ia,.int .i64 ib] 42)):=by exact bE
 have hbx:=(Blk.new w #[.pointer (some ⟨K,0,none⟩)] 80).alloc (.cells #[.int .i64 17,.int .i64 ia,.int .i64 ib] 42)
 have hbi:Blk ((w.alloc (.cells #[.pointer (some ⟨K,0,none⟩)] 80)).alloc (.cells #[.int .i64 17,.int .i64 ia,.int .i64 ib] 42)) (w.heap.size+1) #[.int .i64 17,.int .i64 ia,.int .i64 ib] 42:=Blk.new' (w:=w.alloc (.cells #[.pointer (some ⟨K,0,none⟩)] 80)) _ _ (by simp)
 have kl:=Blk.lt H.ck
 have H1:=H.old hb1
 have HD:=Lib.hid (do_mid (i:=⟨17,ia,ib⟩) HW H1 hd 1 1 110 #[.pointer (some ⟨w.heap.size,0,none⟩),.pointer (some ⟨w.heap.size+1,0,none⟩)] (cv11 (by simp)) (by decide) (by decide) (fun _ _=>rfl) (fun l hl hdr w1 to' tc hu hck hown=>by
  obtain ⟨a,rfl⟩:=one_of hl
  have ha:=HW.2 a (List.mem_of_mem_drop (by rw [hdr];simp))
  have hHM:∀ w',Upd K K w1 w'→ModAt w' h m:=fun w' hu'=>HM.old ((hu.trans hu').below H1.hb (Nat.le_refl _) H1.hK H1.hK)
  have hx1:=Blk.upd hbx hu (by omega) (by omega)
  have hi1:=Blk.upd hbi hu (by omega) (by omega)
  have hT:=H1.tl.upd hu H1.ck.noTy H1.ck.noTy
  refine (memory1_any K h m _ _ _ a 17 ia ib to' tc _ w.heap.size (w.heap.size+1) w1 hck hHM hx1 hi1 hown (hi.a0 (by simp)) (fun hk=>ty_cls ha (.inl hk))).mono ?_
  exact fun r w2 hp=>hp.imp fun out e' hq=>by obtain ⟨h1,h2⟩:=hq;rw [h1,h2];exact res_17 rfl))
 have HB1:=Lib.hid hb1
 clear hb1 hbx hbi H1 H HM hlo HW hi hm
 go_enter Tryz.func90,Tryz.ntmps90
 go_wp2_with (go_at_call 74;refine HD.out.mono ?_;rintro r w2 ⟨⟨v,rfl⟩,hu2,hd2⟩;have HU2:=Lib.hid hu2;have HD2:=Lib.hid hd2;clear hu2 hd2)
 go_end0
 exact DoPost.bel ⟨⟨_,rfl⟩,HU2.out,HD2.out⟩ HB1.out
theorem m_18 {w0 w:World}{K:Nat}{h:Hd}{m:Md}{lo:Option Addr}{lc:Nat}{ls:List Ty}{s:Ps}{so:Option Addr}{sc:Nat}{oo:Option Addr}{oc:Nat}{bs:List VB}{i:In3}{k:Nat} (hm:modV m=true) (hlo:∀ t∈ls,tyOk m t) (HW:stkOk m s.stk) (H:St w0 w K h m lo lc ls s so sc oo oc bs) (HM:ModAt w0 h m) (hd:s.opn.length≤6) (hi:OpdOk m k i) (hop:i.op=18) :
  Calls Tryz.prog 90 #[.pointer (some ⟨K,0,none⟩),.agg #[.int .i64 i.op,.int .i64 i.a,.int .i64 i.b]] w (DoPost w K h m lo lc ls oo oc bs (midV m ls i s)):=by
 obtain ⟨op,ia,ib⟩:=i
 dsimp only at hop
 subst hop
 have hb1:Below w.heap.size w ((w.alloc (.cells #[.pointer (some ⟨K,0,none⟩)] 80)).alloc (.cells #[.int .i64 18,.int .i64 ia,.int .i64 ib] 42)):=by exact bE
 have hbx:=(Blk.new w #[.pointer (some ⟨K,0,none⟩)] 80).alloc (.cells #[.int .i64 18,.int .i64 ia,.int .i64 ib] 42)
 have hbi:Blk ((w.alloc (.cells #[.pointer (some ⟨K,0,none⟩)] 80)).alloc (.cells #[.int .i64 18,.int .i64 ia,.int .i64 ib] 42)) (w.heap.size+1) #[.int .i64 18,.int .i64 ia,.int .i64 ib] 42:=Blk.new' (w:=w.alloc (.cells #[.pointer (some ⟨K,0,none⟩)] 80)) _ _ (by simp)
 have kl:=Blk.lt H.ck
 have H1:=H.old hb1
 have HD:=Lib.hid (do_mid (i:=⟨18,ia,ib⟩) HW H1 hd 2 0 112 #[.pointer (some ⟨w.heap.size,0,none⟩),.pointer (some ⟨w.heap.size+1,0,none⟩)] (cv20 rfl) (by decide) (by decide) (fun _ _=>rfl) (fun l hl hdr w1 to' tc hu hck hown=>by
  obtain ⟨a,b,rfl⟩:=two_of hl
  have ha:=HW.2 a (List.mem_of_mem_drop (by rw [hdr];simp))
  have hb:=HW.2 b (List.mem_of_mem_drop (by rw [hdr];simp))
  have hHM:∀ w',Upd K K w1 w'→ModAt w' h m:=fun w' hu'=>HM.old ((hu.trans hu').below H1.hb (Nat.le_refl _) H1.hK H1.hK)
  have hx1:=Blk.upd hbx hu (by omega) (by omega)
  have hi1:=Blk.upd hbi hu (by omega) (by omega)
  have hT:=H1.tl.upd hu H1.ck.noTy H1.ck.noTy
  refine (memory2_any K h m _ _ _ a b 18 ia ib to' tc _ w.heap.size (w.heap.size+1) w1 hck hHM hx1 hi1 hown (hi.a0 (by simp)) (fun hk=>ty_cls ha (.inl hk))).mono ?_
  exact fun r w2 hp=>hp.imp fun out e' hq=>by obtain ⟨h1,h2⟩:=hq;rw [h1,h2];exact res_18 hm ha hb rfl))
 have HB1:=Lib.hid hb1
 clear hb1 hbx hbi H1 H HM hlo HW hi hm
 go_enter Tryz.func90,Tryz.ntmps90
 go_wp2_with (go_at_call 74;refine HD.out.mono ?_;rintro r w2 ⟨⟨v,rfl⟩,hu2,hd2⟩;have HU2:=Lib.hid hu2;have HD2:=Lib.hid hd2;clear hu2 hd2)
 go_end0
 exact DoPost.bel ⟨⟨_,rfl⟩,HU2.out,HD2.out⟩ HB1.out
theorem m_19 {w0 w:World}{K:Nat}{h:Hd}{m:Md}{lo:Option Addr}{lc:Nat}{ls:List Ty}{s:Ps}{so:Option Addr}{sc:Nat}{oo:Option Addr}{oc:Nat}{bs:List VB}{i:In3}{k:Nat} (hm:modV m=true) (hlo:∀ t∈ls,tyOk m t) (HW:stkOk m s.stk) (H:St w0 w K h m lo lc ls s so sc oo oc bs) (HM:ModAt w0 h m) (hd:s.opn.length≤6) (hi:OpdOk m k i) (hop:i.op=19) :
  Calls Tryz.prog 90 #[.pointer (some ⟨K,0,none⟩),.agg #[.int .i64 i.op,.int .i64 i.a,.int .i64 i.b]] w (DoPost w K h m lo lc ls oo oc bs (midV m ls i s)):=by
 obtain ⟨op,ia,ib⟩:=i
 dsimp only at hop
 subst hop
 have hb1:Below w.heap.size w ((w.alloc (.cells #[.pointer (some ⟨K,0,none⟩)] 80)).alloc (.cells #[.int .i64 19,.int .i64 ia,.int .i64 ib] 42)):=by exact bE
 have hbx:=(Blk.new w #[.pointer (some ⟨K,0,none⟩)] 80).alloc (.cells #[.int .i64 19,.int .i64 ia,.int .i64 ib] 42)
 have hbi:Blk ((w.alloc (.cells #[.pointer (some ⟨K,0,none⟩)] 80)).alloc (.cells #[.int .i64 19,.int .i64 ia,.int .i64 ib] 42)) (w.heap.size+1) #[.int .i64 19,.int .i64 ia,.int .i64 ib] 42:=Blk.new' (w:=w.alloc (.cells #[.pointer (some ⟨K,0,none⟩)] 80)) _ _ (by simp)
 have kl:=Blk.lt H.ck
 have H1:=H.old hb1
 have HD:=Lib.hid (do_mid (i:=⟨19,ia,ib⟩) HW H1 hd 2 1 113 #[.pointer (some ⟨w.heap.size,0,none⟩)] (cv21 (by simp)) (by decide) (by decide) (fun _ _=>rfl) (fun l hl hdr w1 to' tc hu hck hown=>by
  obtain ⟨a,b,rfl⟩:=two_of hl
  have ha:=HW.2 a (List.mem_of_mem_drop (by rw [hdr];simp))
  have hb:=HW.2 b (List.mem_of_mem_drop (by rw [hdr];simp))
  have hHM:∀ w',Upd K K w1 w'→ModAt w' h m:=fun w' hu'=>HM.old ((hu.trans hu').below H1.hb (Nat.le_refl _) H1.hK H1.hK)
  have hx1:=Blk.upd hbx hu (by omega) (by omega)
  have hi1:=Blk.upd hbi hu (by omega) (by omega)
  have hT:=H1.tl.upd hu H1.ck.noTy H1.ck.noTy
  refine (memory3_any K h m _ _ _ a b 0 0 0 to' tc _ w.heap.size 0 w1 hck hx1 hown).mono ?_
  exact fun r w2 hp=>hp.imp fun out e' hq=>by obtain ⟨h1,h2⟩:=hq;rw [h1,h2];exact res_19 rfl))
 have HB1:=Lib.hid hb1
 clear hb1 hbx hbi H1 H HM hlo HW hi hm
 go_enter Tryz.func90,Tryz.ntmps90
 go_wp2_with (go_at_call 74;refine HD.out.mono ?_;rintro r w2 ⟨⟨v,rfl⟩,hu2,hd2⟩;have HU2:=Lib.hid hu2;have HD2:=Lib.hid hd2;clear hu2 hd2)
 go_end0
 exact DoPost.bel ⟨⟨_,rfl⟩,HU2.out,HD2.out⟩ HB1.out
theorem m_20 {w0 w:World}{K:Nat}{h:Hd}{m:Md}{lo:Option Addr}{lc:Nat}{ls:List Ty}{s:Ps}{so:Option Addr}{sc:Nat}{oo:Option Addr}{oc:Nat}{bs:List VB}{i:In3}{k:Nat} (hm:modV m=true) (hlo:∀ t∈ls,tyOk m t) (HW:stkOk m s.stk) (H:St w0 w K h m lo lc ls s so sc oo oc bs) (HM:ModAt w0 h m) (hd:s.opn.length≤6) (hi:OpdOk m k i) (hop:i.op=20) :
  Calls Tryz.prog 90 #[.pointer (some ⟨K,0,none⟩),.agg #[.int .i64 i.op,.int .i64 i.a,.int .i64 i.b]] w (DoPost w K h m lo lc ls oo oc bs (midV m ls i s)):=by
 obtain ⟨op,ia,ib⟩:=i
 dsimp only at hop
 subst hop
 have hb1:Below w.heap.size w ((w.alloc (.cells #[.pointer (some ⟨K,0,none⟩)] 80)).alloc (.cells #[.int .i64 20,.int .i64 ia,.int .i64 ib] 42)):=by exact bE
 have hbx:=(Blk.new w #[.pointer (some ⟨K,0,none⟩)] 80).alloc (.cells #[.int .i64 20,.int .i64 ia,.int .i64 ib] 42)
 have hbi:Blk ((w.alloc (.cells #[.pointer (some ⟨K,0,none⟩)] 80)).alloc (.cells #[.int .i64 20,.int .i64 ia,.int .i64 ib] 42)) (w.heap.size+1) #[.int .i64 20,.int .i64 ia,.int .i64 ib] 42:=Blk.new' (w:=w.alloc (.cells #[.pointer (some ⟨K,0,none⟩)] 80)) _ _ (by simp)
 have kl:=Blk.lt H.ck
 have H1:=H.old hb1
 have HD:=Lib.hid (do_mid (i:=⟨20,ia,ib⟩) HW H1 hd 3 0 115 #[.pointer (some ⟨w.heap.size,0,none⟩)] (cv30 rfl) (by decide) (by decide) (fun _ _=>rfl) (fun l hl hdr w1 to' tc hu hck hown=>by
  obtain ⟨a,b,d,rfl⟩:=three_of hl
  have ha:=HW.2 a (List.mem_of_mem_drop (by rw [hdr];simp))
  have hb:=HW.2 b (List.mem_of_mem_drop (by rw [hdr];simp))
  have hd':=HW.2 d (List.mem_of_mem_drop (by rw [hdr];simp))
  have hHM:∀ w',Upd K K w1 w'→ModAt w' h m:=fun w' hu'=>HM.old ((hu.trans hu').below H1.hb (Nat.le_refl _) H1.hK H1.hK)
  have hx1:=Blk.upd hbx hu (by omega) (by omega)
  have hi1:=Blk.upd hbi hu (by omega) (by omega)
  have hT:=H1.tl.upd hu H1.ck.noTy H1.ck.noTy
  refine (memory4_any K h m _ _ _ a b d 0 0 0 to' tc _ w.heap.size 0 w1 hck hHM hx1 hown).mono ?_
  exact fun r w2 hp=>hp.imp fun out e' hq=>by obtain ⟨h1,h2⟩:=hq;rw [h1,h2];exact res_20 hm ha hd' rfl))
 have HB1:=Lib.hid hb1
 clear hb1 hbx hbi H1 H HM hlo HW hi hm
 go_enter Tryz.func90,Tryz.ntmps90
 go_wp2_with (go_at_call 74;refine HD.out.mono ?_;rintro r w2 ⟨⟨v,rfl⟩,hu2,hd2⟩;have HU2:=Lib.hid hu2;have HD2:=Lib.hid hd2;clear hu2 hd2)
 go_end0
 exact DoPost.bel ⟨⟨_,rfl⟩,HU2.out,HD2.out⟩ HB1.out
theorem m_21 {w0 w:World}{K:Nat}{h:Hd}{m:Md}{lo:Option Addr}{lc:Nat}{ls:List Ty}{s:Ps}{so:Option Addr}{sc:Nat}{oo:Option Addr}{oc:Nat}{bs:List VB}{i:In3}{k:Nat} (hm:modV m=true) (hlo:∀ t∈ls,tyOk m t) (HW:stkOk m s.stk) (H:St w0 w K h m lo lc ls s so sc oo oc bs) (HM:ModAt w0 h m) (hd:s.opn.length≤6) (hi:OpdOk m k i) (hop:i.op=21) :
  Calls Tryz.prog 90 #[.pointer (some ⟨K,0,none⟩),.agg #[.int .i64 i.op,.int .i64 i.a,.int .i64 i.b]] w (DoPost w K h m lo lc ls oo oc bs (midV m ls i s)):=by
 obtain ⟨op,ia,ib⟩:=i
 dsimp only at hop
 subst hop
 have hb1:Below w.heap.size w ((w.alloc (.cells #[.pointer (some ⟨K,0,none⟩)] 80)).alloc (.cells #[.int .i64 21,.int .i64 ia,.int .i64 ib] 42)):=by exact bE
 have hbx:=(Blk.new w #[.pointer (some ⟨K,0,none⟩)] 80).alloc (.cells #[.int .i64 21,.int .i64 ia,.int .i64 ib] 42)
 have hbi:Blk ((w.alloc (.cells #[.pointer (some ⟨K,0,none⟩)] 80)).alloc (.cells #[.int .i64 21,.int .i64 ia,.int .i64 ib] 42)) (w.heap.size+1) #[.int .i64 21,.int .i64 ia,.int .i64 ib] 42:=Blk.new' (w:=w.alloc (.cells #[.pointer (some ⟨K,0,none⟩)] 80)) _ _ (by simp)
 have kl:=Blk.lt H.ck
 have H1:=H.old hb1
 have HD:=Lib.hid (do_mid (i:=⟨21,ia,ib⟩) HW H1 hd 1 1 116 #[.pointer (some ⟨w.heap.size,0,none⟩)] (cv11 (by simp)) (by decide) (by decide) (fun _ _=>rfl) (fun l hl hdr w1 to' tc hu hck hown=>by
  obtain ⟨a,rfl⟩:=one_of hl
  have ha:=HW.2 a (List.mem_of_mem_drop (by rw [hdr];simp))
  have hHM:∀ w',Upd K K w1 w'→ModAt w' h m:=fun w' hu'=>HM.old ((hu.trans hu').below H1.hb (Nat.le_refl _) H1.hK H1.hK)
  have hx1:=Blk.upd hbx hu (by omega) (by omega)
  have hi1:=Blk.upd hbi hu (by omega) (by omega)
  have hT:=H1.tl.upd hu H1.ck.noTy H1.ck.noTy
  refine (memory5_any K h m _ _ _ a 0 0 0 to' tc _ w.heap.size 0 w1 hck hx1 hown).mono ?_
  exact fun r w2 hp=>hp.imp fun out e' hq=>by obtain ⟨h1,h2⟩:=hq;rw [h1,h2];exact res_21 rfl))
 have HB1:=Lib.hid hb1
 clear hb1 hbx hbi H1 H HM hlo HW hi hm
 go_enter Tryz.func90,Tryz.ntmps90
 go_wp2_with (go_at_call 74;refine HD.out.mono ?_;rintro r w2 ⟨⟨v,rfl⟩,hu2,hd2⟩;have HU2:=Lib.hid hu2;have HD2:=Lib.hid hd2;clear hu2 hd2)
 go_end0
 exact DoPost.bel ⟨⟨_,rfl⟩,HU2.out,HD2.out⟩ HB1.out
theorem m_23 {w0 w:World}{K:Nat}{h:Hd}{m:Md}{lo:Option Addr}{lc:Nat}{ls:List Ty}{s:Ps}{so:Option Addr}{sc:Nat}{oo:Option Addr}{oc:Nat}{bs:List VB}{i:In3}{k:Nat} (hm:modV m=true) (hlo:∀ t∈ls,tyOk m t) (HW:stkOk m s.stk) (H:St w0 w K h m lo lc ls s so sc oo oc bs) (HM:ModAt w0 h m) (hd:s.opn.length≤6) (hi:OpdOk m k i) (hop:i.op=23) :
  Calls Tryz.prog 90 #[.pointer (some ⟨K,0,none⟩),.agg #[.int .i64 i.op,.int .i64 i.a,.int .i64 i.b]] w (DoPost w K h m lo lc ls oo oc bs (midV m ls i s)):=by
 obtain ⟨op,ia,ib⟩:=i
 dsimp only at hop
 subst hop
 have hb1:Below w.heap.size w ((w.alloc (.cells #[.pointer (some ⟨K,0,none⟩)] 80)).alloc (.cells #[.int .i64 23,.int .i64 ia,.int .i64 ib] 42)):=by exact bE
 have hbx:=(Blk.new w #[.pointer (some ⟨K,0,none⟩)] 80).alloc (.cells #[.int .i64 23,.int .i64 ia,.int .i64 ib] 42)
 have hbi:Blk ((w.alloc (.cells #[.pointer (some ⟨K,0,none⟩)] 80)).alloc (.cells #[.int .i64 23,.int .i64 ia,.int .i64 ib] 42)) (w.heap.size+1) #[.int .i64 23,.int .i64 ia,.int .i64 ib] 42:=Blk.new' (w:=w.alloc (.cells #[.pointer (some ⟨K,0,none⟩)] 80)) _ _ (by simp)
 have kl:=Blk.lt H.ck
 have H1:=H.old hb1
 have HD:=Lib.hid (do_mid (i:=⟨23,ia,ib⟩) HW H1 hd 1 0 117 #[.pointer (some ⟨w.heap.size,0,none⟩),.pointer (some ⟨w.heap.size+1,0,none⟩)] (cv10 (by simp)) (by decide) (by decide) (fun _ _=>rfl) (fun l hl hdr w1 to' tc hu hck hown=>by
  obtain ⟨a,rfl⟩:=one_of hl
  have ha:=HW.2 a (List.mem_of_mem_drop (by rw [hdr];simp))
  have hHM:∀ w',Upd K K w1 w'→ModAt w' h m:=fun w' hu'=>HM.old ((hu.trans hu').below H1.hb (Nat.le_refl _) H1.hK H1.hK)
  have hx1:=Blk.upd hbx hu (by omega) (by omega)
  have hi1:=Blk.upd hbi hu (by omega) (by omega)
  have hT:=H1.tl.upd hu H1.ck.noTy H1.ck.noTy
  refine (memory6_any K h m _ _ _ a 23 ia ib to' tc _ w.heap.size (w.heap.size+1) w1 hck hHM hx1 hi1 hown (hi.a0 (by simp)) (hi.o22 (.inr rfl))).mono ?_
  exact fun r w2 hp=>hp.imp fun out e' hq=>by obtain ⟨h1,h2⟩:=hq;rw [h1,h2];exact res_23 hm ha rfl (hi.a0 (by simp)) (hi.o22 (.inr rfl))))
 have HB1:=Lib.hid hb1
 clear hb1 hbx hbi H1 H HM hlo HW hi hm
 go_enter Tryz.func90,Tryz.ntmps90
 go_wp2_with (go_at_call 74;refine HD.out.mono ?_;rintro r w2 ⟨⟨v,rfl⟩,hu2,hd2⟩;have HU2:=Lib.hid hu2;have HD2:=Lib.hid hd2;clear hu2 hd2)
 go_end0
 exact DoPost.bel ⟨⟨_,rfl⟩,HU2.out,HD2.out⟩ HB1.out
theorem m_24 {w0 w:World}{K:Nat}{h:Hd}{m:Md}{lo:Option Addr}{lc:Nat}{ls:List Ty}{s:Ps}{so:Option Addr}{sc:Nat}{oo:Option Addr}{oc:Nat}{bs:List VB}{i:In3}{k:Nat} (hm:modV m=true) (hlo:∀ t∈ls,tyOk m t) (HW:stkOk m s.stk) (H:St w0 w K h m lo lc ls s so sc oo oc bs) (HM:ModAt w0 h m) (hd:s.opn.length≤6) (hi:OpdOk m k i) (hop:i.op=24) :
  Calls Tryz.prog 90 #[.pointer (some ⟨K,0,none⟩),.agg #[.int .i64 i.op,.int .i64 i.a,.int .i64 i.b]] w (DoPost w K h m lo lc ls oo oc bs (midV m ls i s)):=by
 obtain ⟨op,ia,ib⟩:=i
 dsimp only at hop
 subst hop
 have hb1:Below w.heap.size w ((w.alloc (.cells #[.pointer (some ⟨K,0,none⟩)] 80)).alloc (.cells #[.int .i64 24,.int .i64 ia,.int .i64 ib] 42)):=by exact bE
 have hbx:=(Blk.new w #[.pointer (some ⟨K,0,none⟩)] 80).alloc (.cells #[.int .i64 24,.int .i64 ia,.int .i64 ib] 42)
 have hbi:Blk ((w.alloc (.cells #[.pointer (some ⟨K,0,none⟩)] 80)).alloc (.cells #[.int .i64 24,.int .i64 ia,.int .i64 ib] 42)) (w.heap.size+1) #[.int .i64 24,.int .i64 ia,.int .i64 ib] 42:=Blk.new' (w:=w.alloc (.cells #[.pointer (some ⟨K,0,none⟩)] 80)) _ _ (by simp)
 have kl:=Blk.lt H.ck
 have H1:=H.old hb1
 have HD:=Lib.hid (do_mid (i:=⟨24,ia,ib⟩) HW H1 hd 1 1 118 #[.pointer (some ⟨w.heap.size+1,0,none⟩),.pointer (some ⟨w.heap.size,0,none⟩)] (cv11 (by simp)) (by decide) (by decide) (fun _ _=>rfl) (fun l hl hdr w1 to' tc hu hck hown=>by
  obtain ⟨a,rfl⟩:=one_of hl
  have ha:=HW.2 a (List.mem_of_mem_drop (by rw [hdr];simp))
  have hHM:∀ w',Upd K K w1 w'→ModAt w' h m:=fun w' hu'=>HM.old ((hu.trans hu').below H1.hb (Nat.le_refl _) H1.hK H1.hK)
  have hx1:=Blk.upd hbx hu (by omega) (by omega)
  have hi1:=Blk.upd hbi hu (by omega) (by omega)
  have hT:=H1.tl.upd hu H1.ck.noTy H1.ck.noTy
  by_cases hk:a.k=2
  ·by_cases hf:fitG m a ⟨2,ia⟩=true
   ·refine (cast_b K h m _ _ _ a 24 ia ib to' tc _ w.heap.size (w.heap.size+1) w1 hck hHM hx1 hi1 hown hk hf).mono ?_
    exact fun r w2 hp=>hp.imp fun out e' hq=>by obtain ⟨h1,h2⟩:=hq;rw [h1];exact res_24 hm ha rfl (hi.a0 (by simp)) (hi.o14 (.inr rfl)) (by rw [h2,if_pos hk,if_pos hf])
   ·refine (cast_c K h m _ _ _ a 24 ia ib to' tc _ w.heap.size (w.heap.size+1) w1 hck hHM hx1 hi1 hown hk (by simpa using hf)).mono ?_
    exact fun r w2 hp=>hp.imp fun out e' hq=>by obtain ⟨h1,h2⟩:=hq;rw [h1];exact res_24 hm ha rfl (hi.a0 (by simp)) (hi.o14 (.inr rfl)) (by rw [h2,if_pos hk,if_neg hf])
  ·refine (cast_a K h m _ _ _ a 24 ia ib to' tc _ w.heap.size (w.heap.size+1) w1 hck hHM hx1 hi1 hown hk).mono ?_
   exact fun r w2 hp=>hp.imp fun out e' hq=>by obtain ⟨h1,h2⟩:=hq;rw [h1];exact res_24 hm ha rfl (hi.a0 (by simp)) (hi.o14 (.inr rfl)) (by rw [h2,if_neg hk])))
 have HB1:=Lib.hid hb1
 clear hb1 hbx hbi H1 H HM hlo HW hi hm
 go_enter Tryz.func90,Tryz.ntmps90
 go_wp2_with (go_at_call 74;refine HD.out.mono ?_;rintro r w2 ⟨⟨v,rfl⟩,hu2,hd2⟩;have HU2:=Lib.hid hu2;have HD2:=Lib.hid hd2;clear hu2 hd2)
 go_end0
 exact DoPost.bel ⟨⟨_,rfl⟩,HU2.out,HD2.out⟩ HB1.out
theorem m_14 {w0 w:World}{K:Nat}{h:Hd}{m:Md}{lo:Option Addr}{lc:Nat}{ls:List Ty}{s:Ps}{so:Option Addr}{sc:Nat}{oo:Option Addr}{oc:Nat}{bs:List VB}{i:In3}{k:Nat} (hm:modV m=true) (hlo:∀ t∈ls,tyOk m t) (HW:stkOk m s.stk) (H:St w0 w K h m lo lc ls s so sc oo oc bs) (HM:ModAt w0 h m) (hd:s.opn.length≤6) (hi:OpdOk m k i) (hop:i.op=14) :
  Calls Tryz.prog 90 #[.pointer (some ⟨K,0,none⟩),.agg #[.int .i64 i.op,.int .i64 i.a,.int .i64 i.b]] w (DoPost w K h m lo lc ls oo oc bs (midV m ls i s)):=by
 obtain ⟨op,ia,ib⟩:=i
 dsimp only at hop
 subst hop
 have hb1:Below w.heap.size w ((w.alloc (.cells #[.pointer (some ⟨K,0,none⟩)] 80)).alloc (.cells #[.int .i64 14,.int .i64 ia,.int .i64 ib] 42)):=by exact bE
 have hbx:=(Blk.new w #[.pointer (some ⟨K,0,none⟩)] 80).alloc (.cells #[.int .i64 14,.int .i64 ia,.int .i64 ib] 42)
 have hbi:Blk ((w.alloc (.cells #[.pointer (some ⟨K,0,none⟩)] 80)).alloc (.cells #[.int .i64 14,.int .i64 ia,.int .i64 ib] 42)) (w.heap.size+1) #[.int .i64 14,.int .i64 ia,.int .i64 ib] 42:=Blk.new' (w:=w.alloc (.cells #[.pointer (some ⟨K,0,none⟩)] 80)) _ _ (by simp)
 have kl:=Blk.lt H.ck
 have H1:=H.old hb1
 have HB1:=Lib.hid hb1
 have HH:=Lib.hid H1
 have cc:=hbx.cell 0 (v:=.pointer (some ⟨K,0,none⟩)) rfl
 have i1:=hbi.cell 1 (v:=.int .i64 ia) rfl
 have hS:∀ w',Upd K K ((w.alloc (.cells #[.pointer (some ⟨K,0,none⟩)] 80)).alloc (.cells #[.int .i64 14,.int .i64 ia,.int .i64 ib] 42)) w'→(∃ L S O e,Ck w' K h m L S O e)→(fun w':World=>w'.cell? ⟨w.heap.size,0,none⟩=some (.pointer (some ⟨K,0,none⟩))∧w'.cell? ⟨w.heap.size+1,1,none⟩=some (.int .i64 ia)) w':=fun w' hu hc=>⟨hu.cell cc (by show w.heap.size≠K;omega) (by show w.heap.size≠K;omega),hu.cell i1 (by show w.heap.size+1≠K;omega) (by show w.heap.size+1≠K;omega)⟩
 have HS:=Lib.hid hS
 have HHM:=Lib.hid HM
 obtain ⟨W1,hW1⟩:∃ W1,W1=((w.alloc (.cells #[.pointer (some ⟨K,0,none⟩)] 80)).alloc (.cells #[.int .i64 14,.int .i64 ia,.int .i64 ib] 42)):=⟨_,rfl⟩
 rw [←hW1] at HS HH HB1
 have HW1:=Lib.hid hW1
 have HHW:=Lib.hid HW
 have HI:=Lib.hid hi
 have HHm:=Lib.hid hm
 have HLo:=Lib.hid hlo
 clear hb1 hbx hbi H1 H HM hlo HW hi hm cc i1 hS hW1
 go_enter Tryz.func90,Tryz.ntmps90
 go_wp2_with fail
 refine rO (fun w':World=>w'.cell? ⟨w.heap.size,0,none⟩=some (.pointer (some ⟨K,0,none⟩))∧w'.cell? ⟨w.heap.size+1,1,none⟩=some (.int .i64 ia)) (.plain 0 (.plain 1 (.plain 2 (.one 3 (.one 4 .done))))) (HW1.out▸HS.out _ (Upd.refl K K W1).drew ⟨_,_,_,_,Ck.drew HH.out.ck⟩) ?_
 rw [←HW1.out]
 have HB2:=Lib.hid (show Below W1.heap.size W1 W1.drew by exact bE)
 repeat refine pO ?_
 refine oO fun Kv hK=>?_
 go_simp
 refine (object_any _ _).mono ?_
 rintro r w3 ⟨rfl,hb3⟩
 have HB3:=Lib.hid (bthen HB2.out hb3)
 refine hK _ _ ⟨HS.out _ (Upd.of HB3.out) ⟨_,_,_,_,HH.out.ck.old HB3.out⟩,?_⟩
 clear hK Kv hb3
 repeat refine pO ?_
 refine oO fun Kv hK=>?_
 go_simp
 refine (push_mid (i:=⟨14,ia,ib⟩) HHW.out (HH.out.old HB3.out) hd (⟨2,ia⟩) (cv01 (by simp)) (pv14 rfl)).mono ?_
 rintro r w4 ⟨⟨v4,rfl⟩,hu4,hd4⟩
 have HU4:=Lib.hid ((Upd.of HB3.out).trans hu4)
 have HD4:=Lib.hid hd4
 have hck:∃ L S O e,Ck w4 K h m L S O e:=by obtain ⟨so2,sc2,st2,h1,-⟩:=HD4.out;exact ⟨_,_,_,_,h1⟩
 refine hK _ _ ⟨HS.out _ HU4.out hck,?_⟩
 clear hK Kv hu4 hd4 hck
 refine wpMixO_done ?_
 go_wp2
 go_end0
 exact DoPost.bel ⟨⟨_,rfl⟩,HU4.out,HD4.out⟩ HB1.out
theorem m_15 {w0 w:World}{K:Nat}{h:Hd}{m:Md}{lo:Option Addr}{lc:Nat}{ls:List Ty}{s:Ps}{so:Option Addr}{sc:Nat}{oo:Option Addr}{oc:Nat}{bs:List VB}{i:In3}{k:Nat} (hm:modV m=true) (hlo:∀ t∈ls,tyOk m t) (HW:stkOk m s.stk) (H:St w0 w K h m lo lc ls s so sc oo oc bs) (HM:ModAt w0 h m) (hd:s.opn.length≤6) (hi:OpdOk m k i) (hop:i.op=15) :
  Calls Tryz.prog 90 #[.pointer (some ⟨K,0,none⟩),.agg #[.int .i64 i.op,.int .i64 i.a,.int .i64 i.b]] w (DoPost w K h m lo lc ls oo oc bs (midV m ls i s)):=by
 obtain ⟨op,ia,ib⟩:=i
 dsimp only at hop
 subst hop
 have hb1:Below w.heap.size w ((w.alloc (.cells #[.pointer (some ⟨K,0,none⟩)] 80)).alloc (.cells #[.int .i64 15,.int .i64 ia,.int .i64 ib] 42)):=by exact bE
 have hbx:=(Blk.new w #[.pointer (some ⟨K,0,none⟩)] 80).alloc (.cells #[.int .i64 15,.int .i64 ia,.int .i64 ib] 42)
 have hbi:Blk ((w.alloc (.cells #[.pointer (some ⟨K,0,none⟩)] 80)).alloc (.cells #[.int .i64 15,.int .i64 ia,.int .i64 ib] 42)) (w.heap.size+1) #[.int .i64 15,.int .i64 ia,.int .i64 ib] 42:=Blk.new' (w:=w.alloc (.cells #[.pointer (some ⟨K,0,none⟩)] 80)) _ _ (by simp)
 have kl:=Blk.lt H.ck
 have H1:=H.old hb1
 have HB1:=Lib.hid hb1
 have HH:=Lib.hid H1
 have cc:=hbx.cell 0 (v:=.pointer (some ⟨K,0,none⟩)) rfl
 have i1:=hbi.cell 1 (v:=.int .i64 ia) rfl
 have hS:∀ w',Upd K K ((w.alloc (.cells #[.pointer (some ⟨K,0,none⟩)] 80)).alloc (.cells #[.int .i64 15,.int .i64 ia,.int .i64 ib] 42)) w'→(∃ L S O e,Ck w' K h m L S O e)→(fun w':World=>w'.cell? ⟨w.heap.size,0,none⟩=some (.pointer (some ⟨K,0,none⟩))) w':=fun w' hu hc=>hu.cell cc (by show w.heap.size≠K;omega) (by show w.heap.size≠K;omega)
 have HS:=Lib.hid hS
 have HHM:=Lib.hid HM
 obtain ⟨W1,hW1⟩:∃ W1,W1=((w.alloc (.cells #[.pointer (some ⟨K,0,none⟩)] 80)).alloc (.cells #[.int .i64 15,.int .i64 ia,.int .i64 ib] 42)):=⟨_,rfl⟩
 rw [←hW1] at HS HH HB1
 have HW1:=Lib.hid hW1
 have HHW:=Lib.hid HW
 have HI:=Lib.hid hi
 have HHm:=Lib.hid hm
 have HLo:=Lib.hid hlo
 clear hb1 hbx hbi H1 H HM hlo HW hi hm cc i1 hS hW1
 go_enter Tryz.func90,Tryz.ntmps90
 go_wp2_with fail
 refine rO (fun w':World=>w'.cell? ⟨w.heap.size,0,none⟩=some (.pointer (some ⟨K,0,none⟩))) (.plain 0 (.one 1 (.one 2 .done))) (HW1.out▸HS.out _ (Upd.refl K K W1).drew ⟨_,_,_,_,Ck.drew HH.out.ck⟩) ?_
 rw [←HW1.out]
 have HB2:=Lib.hid (show Below W1.heap.size W1 W1.drew by exact bE)
 repeat refine pO ?_
 refine oO fun Kv hK=>?_
 go_simp
 refine (numbers_any _).mono ?_
 rintro r w3 ⟨rfl,hb3⟩
 have HB3:=Lib.hid (bthen HB2.out hb3)
 refine hK _ _ ⟨HS.out _ (Upd.of HB3.out) ⟨_,_,_,_,HH.out.ck.old HB3.out⟩,?_⟩
 clear hK Kv hb3
 repeat refine pO ?_
 refine oO fun Kv hK=>?_
 go_simp
 refine (push_mid (i:=⟨15,ia,ib⟩) HHW.out (HH.out.old HB3.out) hd (⟨3,0⟩) (cv01 (by simp)) (pv15 rfl)).mono ?_
 rintro r w4 ⟨⟨v4,rfl⟩,hu4,hd4⟩
 have HU4:=Lib.hid ((Upd.of HB3.out).trans hu4)
 have HD4:=Lib.hid hd4
 have hck:∃ L S O e,Ck w4 K h m L S O e:=by obtain ⟨so2,sc2,st2,h1,-⟩:=HD4.out;exact ⟨_,_,_,_,h1⟩
 refine hK _ _ ⟨HS.out _ HU4.out hck,?_⟩
 clear hK Kv hu4 hd4 hck
 refine wpMixO_done ?_
 go_wp2
 go_end0
 exact DoPost.bel ⟨⟨_,rfl⟩,HU4.out,HD4.out⟩ HB1.out
theorem m_16 {w0 w:World}{K:Nat}{h:Hd}{m:Md}{lo:Option Addr}{lc:Nat}{ls:List Ty}{s:Ps}{so:Option Addr}{sc:Nat}{oo:Option Addr}{oc:Nat}{bs:List VB}{i:In3}{k:Nat} (hm:modV m=true) (hlo:∀ t∈ls,tyOk m t) (HW:stkOk m s.stk) (H:St w0 w K h m lo lc ls s so sc oo oc bs) (HM:ModAt w0 h m) (hd:s.opn.length≤6) (hi:OpdOk m k i) (hop:i.op=16) :
  Calls Tryz.prog 90 #[.pointer (some ⟨K,0,none⟩),.agg #[.int .i64 i.op,.int .i64 i.a,.int .i64 i.b]] w (DoPost w K h m lo lc ls oo oc bs (midV m ls i s)):=by
 obtain ⟨op,ia,ib⟩:=i
 dsimp only at hop
 subst hop
 have hb1:Below w.heap.size w ((w.alloc (.cells #[.pointer (some ⟨K,0,none⟩)] 80)).alloc (.cells #[.int .i64 16,.int .i64 ia,.int .i64 ib] 42)):=by exact bE
 have hbx:=(Blk.new w #[.pointer (some ⟨K,0,none⟩)] 80).alloc (.cells #[.int .i64 16,.int .i64 ia,.int .i64 ib] 42)
 have hbi:Blk ((w.alloc (.cells #[.pointer (some ⟨K,0,none⟩)] 80)).alloc (.cells #[.int .i64 16,.int .i64 ia,.int .i64 ib] 42)) (w.heap.size+1) #[.int .i64 16,.int .i64 ia,.int .i64 ib] 42:=Blk.new' (w:=w.alloc (.cells #[.pointer (some ⟨K,0,none⟩)] 80)) _ _ (by simp)
 have kl:=Blk.lt H.ck
 have H1:=H.old hb1
 have HD:=Lib.hid (push_mid (i:=⟨16,ia,ib⟩) HW H1 hd ⟨4,ib⟩ (cv01 (by simp)) (pv16 rfl))
 have HB1:=Lib.hid hb1
 clear hb1 hbx hbi H1 H HM hlo HW hi hm
 go_enter Tryz.func90,Tryz.ntmps90
 go_wp2_with (go_at_call 82;refine HD.out.mono ?_;rintro r w2 ⟨⟨v,rfl⟩,hu2,hd2⟩;have HU2:=Lib.hid hu2;have HD2:=Lib.hid hd2;clear hu2 hd2)
 go_end0
 exact DoPost.bel ⟨⟨_,rfl⟩,HU2.out,HD2.out⟩ HB1.out
theorem m_22 {w0 w:World}{K:Nat}{h:Hd}{m:Md}{lo:Option Addr}{lc:Nat}{ls:List Ty}{s:Ps}{so:Option Addr}{sc:Nat}{oo:Option Addr}{oc:Nat}{bs:List VB}{i:In3}{k:Nat} (hm:modV m=true) (hlo:∀ t∈ls,tyOk m t) (HW:stkOk m s.stk) (H:St w0 w K h m lo lc ls s so sc oo oc bs) (HM:ModAt w0 h m) (hd:s.opn.length≤6) (hi:OpdOk m k i) (hop:i.op=22) :
  Calls Tryz.prog 90 #[.pointer (some ⟨K,0,none⟩),.agg #[.int .i64 i.op,.int .i64 i.a,.int .i64 i.b]] w (DoPost w K h m lo lc ls oo oc bs (midV m ls i s)):=by
 obtain ⟨op,ia,ib⟩:=i
 dsimp only at hop
 subst hop
 have ha0:=hi.a0 (by simp)
 dsimp only at ha0
 obtain ⟨ia,rfl⟩:∃ d:Nat,ia=d:=⟨ia.toNat,by omega⟩
 have hb1:Below w.heap.size w ((w.alloc (.cells #[.pointer (some ⟨K,0,none⟩)] 80)).alloc (.cells #[.int .i64 22,.int .i64 ia,.int .i64 ib] 42)):=by exact bE
 have hbx:=(Blk.new w #[.pointer (some ⟨K,0,none⟩)] 80).alloc (.cells #[.int .i64 22,.int .i64 ia,.int .i64 ib] 42)
 have hbi:Blk ((w.alloc (.cells #[.pointer (some ⟨K,0,none⟩)] 80)).alloc (.cells #[.int .i64 22,.int .i64 ia,.int .i64 ib] 42)) (w.heap.size+1) #[.int .i64 22,.int .i64 ia,.int .i64 ib] 42:=Blk.new' (w:=w.alloc (.cells #[.pointer (some ⟨K,0,none⟩)] 80)) _ _ (by simp)
 have kl:=Blk.lt H.ck
 have H1:=H.old hb1
 have hin:=hi.o22 (.inl rfl)
 dsimp only at hin
 have hi':ia<m.st.length:=by omega
 have hMo:∀ w',Upd K K ((w.alloc (.cells #[.pointer (some ⟨K,0,none⟩)] 80)).alloc (.cells #[.int .i64 22,.int .i64 ia,.int .i64 ib] 42)) w'→ModAt w' h m:=fun w' hu'=>HM.old (hu'.below H1.hb (Nat.le_refl _) H1.hK H1.hK)
 obtain ⟨⟨uk,uc⟩,hlu⟩:∃ x:Ty,x=m.st.getD ia default:=⟨_,rfl⟩
 obtain ⟨sa,hso,-,-⟩:=row_ty (hMo _ (Upd.refl K K _)).st hi'
 have hst:∀ w',Upd K K ((w.alloc (.cells #[.pointer (some ⟨K,0,none⟩)] 80)).alloc (.cells #[.int .i64 22,.int .i64 ia,.int .i64 ib] 42)) w'→w'.cell? (sa.add (ia*2))=some (.int .i64 uk)∧w'.cell? ⟨(sa.add (ia*2)).block,(sa.add (ia*2)).off+1,none⟩=some (.int .i64 uc):=fun w' hu=>by
  obtain ⟨ad,h1,h2,h3⟩:=row_ty (hMo w' hu).st hi'
  rw [hso] at h1
  cases h1
  rw [←hlu] at h2 h3
  exact ⟨h2,h3⟩
 have hk1:∀ w',(∃ L S O e,Ck w' K h m L S O e)→w'.cell? ⟨K,1,none⟩=some (.slice (some sa) m.st.length h.sc):=fun w' hc=>by
  obtain ⟨L,S,O,e,hc⟩:=hc
  have:=hc.cells.2.2.1
  rwa [hso] at this
 have HLu:=Lib.hid hlu
 clear hMo hlu
 have HB1:=Lib.hid hb1
 have HH:=Lib.hid H1
 have cc:=hbx.cell 0 (v:=.pointer (some ⟨K,0,none⟩)) rfl
 have i1:=hbi.cell 1 (v:=.int .i64 ia) rfl
 have hS:∀ w',Upd K K ((w.alloc (.cells #[.pointer (some ⟨K,0,none⟩)] 80)).alloc (.cells #[.int .i64 22,.int .i64 ia,.int .i64 ib] 42)) w'→(∃ L S O e,Ck w' K h m L S O e)→(fun w':World=>w'.cell? ⟨w.heap.size,0,none⟩=some (.pointer (some ⟨K,0,none⟩))∧w'.cell? ⟨w.heap.size+1,1,none⟩=some (.int .i64 ia)∧w'.cell? ⟨K,1,none⟩=some (.slice (some sa) m.st.length h.sc)∧w'.cell? (sa.add (ia*2))=some (.int .i64 uk)∧w'.cell? ⟨(sa.add (ia*2)).block,(sa.add (ia*2)).off+1,none⟩=some (.int .i64 uc)) w':=fun w' hu hc=>⟨hu.cell cc (by show w.heap.size≠K;omega) (by show w.heap.size≠K;omega),hu.cell i1 (by show w.heap.size+1≠K;omega) (by show w.heap.size+1≠K;omega),hk1 w' hc,(hst w' hu).1,(hst w' hu).2⟩
 have HS:=Lib.hid hS
 have HHM:=Lib.hid HM
 obtain ⟨W1,hW1⟩:∃ W1,W1=((w.alloc (.cells #[.pointer (some ⟨K,0,none⟩)] 80)).alloc (.cells #[.int .i64 22,.int .i64 ia,.int .i64 ib] 42)):=⟨_,rfl⟩
 rw [←hW1] at HS HH HB1
 have HW1:=Lib.hid hW1
 have HHW:=Lib.hid HW
 have HI:=Lib.hid hi
 have HHm:=Lib.hid hm
 have HLo:=Lib.hid hlo
 clear hb1 hbx hbi H1 H HM hlo HW hi hm cc i1 hS hW1 hst hk1 hso
 go_enter Tryz.func90,Tryz.ntmps90
 go_wp2_with fail
 refine rO (fun w':World=>w'.cell? ⟨w.heap.size,0,none⟩=some (.pointer (some ⟨K,0,none⟩))∧w'.cell? ⟨w.heap.size+1,1,none⟩=some (.int .i64 ia)∧w'.cell? ⟨K,1,none⟩=some (.slice (some sa) m.st.length h.sc)∧w'.cell? (sa.add (ia*2))=some (.int .i64 uk)∧w'.cell? ⟨(sa.add (ia*2)).block,(sa.add (ia*2)).off+1,none⟩=some (.int .i64 uc)) (.plain 0 (.plain 1 (.plain 2 (.plain 3 (.plain 4 (.plain 5 (.plain 6 (.plain 7 (.plain 8 (.plain 9 (.one 10 .done))))))))))) (HW1.out▸HS.out _ (Upd.refl K K W1).drew ⟨_,_,_,_,Ck.drew HH.out.ck⟩) ?_
 rw [←HW1.out]
 have HB2:=Lib.hid (show Below W1.heap.size W1 W1.drew by exact bE)
 repeat refine pO ?_
 refine oO fun Kv hK=>?_
 go_simp
 refine (push_mid (i:=⟨22,ia,ib⟩) HHW.out (HH.out.old HB2.out) hd (⟨uk,uc⟩) (cv01 (by simp)) (by rw [pv22 rfl,HLu.out];rfl)).mono ?_
 rintro r w4 ⟨⟨v4,rfl⟩,hu4,hd4⟩
 have HU4:=Lib.hid ((Upd.of HB2.out).trans hu4)
 have HD4:=Lib.hid hd4
 have hck:∃ L S O e,Ck w4 K h m L S O e:=by obtain ⟨so2,sc2,st2,h1,-⟩:=HD4.out;exact ⟨_,_,_,_,h1⟩
 refine hK _ _ ⟨HS.out _ HU4.out hck,?_⟩
 clear hK Kv hu4 hd4 hck
 refine wpMixO_done ?_
 go_wp2
 go_end0
 exact DoPost.bel ⟨⟨_,rfl⟩,HU4.out,HD4.out⟩ HB1.out
theorem m_else {w0 w:World}{K:Nat}{h:Hd}{m:Md}{lo:Option Addr}{lc:Nat}{ls:List Ty}{s:Ps}{so:Option Addr}{sc:Nat}{oo:Option Addr}{oc:Nat}{bs:List VB}{i:In3}{k:Nat} (hm:modV m=true) (hlo:∀ t∈ls,tyOk m t) (HW:stkOk m s.stk) (H:St w0 w K h m lo lc ls s so sc oo oc bs) (HM:ModAt w0 h m) (hd:s.opn.length≤6) (hi:OpdOk m k i) (hb:baseV s.opn≤s.stk.length) (hop:i.op=0∨i.op=28) :
  Calls Tryz.prog 90 #[.pointer (some ⟨K,0,none⟩),.agg #[.int .i64 i.op,.int .i64 i.a,.int .i64 i.b]] w (DoPost w K h m lo lc ls oo oc bs (midV m ls i s)):=by
 have hl:=HW.1
 have hm2:midV m ls i s=(0,s.stk):=by
  unfold midV
  rw [cvx (by omega),pvx (by omega),if_neg (by dsimp only;omega)]
  simp
 obtain ⟨op,ia,ib⟩:=i
 have HM2:=Lib.hid hm2
 have HH:=Lib.hid H
 clear hm2 H HM hlo HW hi hm
 dsimp only at hop
 rcases hop with rfl|rfl
 all_goals
  go_enter Tryz.func90,Tryz.ntmps90
  go_wp2_with fail
  go_end0
  refine DoPost.bel ⟨⟨_,rfl⟩,Upd.refl K K _,?_⟩ bE
  rw [HM2.out]
  exact ⟨so,sc,s.stk,HH.out.ck.old bE,(HH.out.old bE).ts,by omega,fun _=>rfl⟩
end
section
open Go.RowKit
theorem resL_length (r:Ty):(resL r).length=if r.k=0 then 0 else 1:=by unfold resL;split<;>rfl
theorem call_25 {w0 w:World}{K:Nat}{h:Hd}{m:Md}{lo:Option Addr}{lc:Nat}{ls:List Ty}{s:Ps}{so:Option Addr}{sc:Nat}{oo:Option Addr}{oc:Nat}{bs:List VB}{i:In3} (hm:modV m=true) (HW:stkOk m s.stk) (H:St w0 w K h m lo lc ls s so sc oo oc bs) (HM:ModAt w0 h m) (hd:s.opn.length≤6) {j:Nat} (hj:j<m.me.length) {ea:Addr} (heo:h.eo=some ea) (hop:i.op=25) (hji:j=i.a.toNat) :
  Calls Tryz.prog 119 #[.pointer (some ⟨K,0,none⟩),.pointer (some (ea.add (j*7))),.int .i64 (-1)] w (DoPost w K h m lo lc ls oo oc bs (midV m ls i s)):=by
 obtain ⟨x,hx⟩:∃ x,x=m.me.getD j default:=⟨_,rfl⟩
 obtain ⟨ma,hma⟩:∃ a,a=ea.add (j*7):=⟨_,rfl⟩
 have hmt:=mth_ok hm hj
 rw [←hma]
 have hpl:x.p.length≤4:=by rw [hx];exact hmt.z.1
 have hpt:∀ t∈x.p,tyOk m t:=by rw [hx];exact hmt.p
 have hmc:∀ w',Upd K K w w'→w'.cell? ⟨ma.block,ma.off+2,none⟩=some (.slice (h.e j).po x.p.length (h.e j).pc)∧w'.cell? ⟨ma.block,ma.off+4,none⟩=some (.int .i64 x.r.k)∧w'.cell? ⟨ma.block,ma.off+5,none⟩=some (.int .i64 x.r.c)∧RowAt w' (h.e j).po (h.e j).pc x.p:=fun w' hu=>by
  have hM:=HM.old (hu.below H.hb (Nat.le_refl _) H.hK H.hK)
  obtain ⟨ad,h1,-,-,h2,-,h3,h4,-⟩:=hM.mth hj
  have h5:=hM.p j hj
  rw [heo] at h1
  cases h1
  rw [←hma,←hx] at h2 h3 h4
  rw [←hx] at h5
  exact ⟨h2,h3,h4,h5⟩
 have hHM:∀ w',Upd K K w w'→ModAt w' h m:=fun w' hu=>HM.old (hu.below H.hb (Nat.le_refl _) H.hK H.hK)
 have kl:=Blk.lt H.ck
 obtain ⟨W1,hW1⟩:∃ W1,W1=((((w.alloc (.cells #[.pointer (some ⟨K,0,none⟩)] 80)).alloc (.cells #[.pointer (some ma)] 77)).alloc (.cells #[.int .i64 (-1)] 3)).alloc (.cells #[.int .i64 0] 3)):=⟨_,rfl⟩
 have hb1:Below w.heap.size w W1:=by rw [hW1];exact bE
 have hz1:W1.heap.size=w.heap.size+4:=by rw [hW1];simp
 have b0:Blk W1 w.heap.size #[.pointer (some ⟨K,0,none⟩)] 80:=by rw [hW1];exact (((Blk.new w _ _).alloc _).alloc _).alloc _
 have b1:Blk W1 (w.heap.size+1) #[.pointer (some ma)] 77:=by rw [hW1];exact ((Blk.new' (w:=w.alloc (.cells #[.pointer (some ⟨K,0,none⟩)] 80)) _ _ (by simp)).alloc _).alloc _
 have b2:Blk W1 (w.heap.size+2) #[.int .i64 (-1)] 3:=by rw [hW1];exact (Blk.new' (w:=(w.alloc (.cells #[.pointer (some ⟨K,0,none⟩)] 80)).alloc (.cells #[.pointer (some ma)] 77)) _ _ (by simp)).alloc _
 have b3:Blk W1 (w.heap.size+3) #[.int .i64 0] 3:=by rw [hW1];exact Blk.new' (w:=((w.alloc (.cells #[.pointer (some ⟨K,0,none⟩)] 80)).alloc (.cells #[.pointer (some ma)] 77)).alloc (.cells #[.int .i64 (-1)] 3)) _ _ (by simp)
 have HB:=Lib.hid (And.intro b0 (And.intro b1 (And.intro b2 b3)))
 have m1:=(hmc W1 (Upd.of hb1))
 obtain ⟨m2,m4,m5,-⟩:=m1
 have HMc:=Lib.hid hmc
 have HHM:=Lib.hid hHM
 have HH:=Lib.hid (H.old hb1)
 have HB1:=Lib.hid hb1
 have HX:=Lib.hid hx
 have HW1:=Lib.hid hW1
 have HPt:=Lib.hid hpt
 have HNo:=Lib.hid H.ck.noTy
 have HHW:=Lib.hid HW
 have c1:=b1.cell 0 (v:=.pointer (some ma)) rfl
 have c2:=b2.cell 0 (v:=.int .i64 (-1)) rfl
 obtain ⟨rk,hrk⟩:∃ k,k=x.r.k:=⟨_,rfl⟩
 obtain ⟨rq,hrq⟩:∃ k,k=x.r.c:=⟨_,rfl⟩
 have hxr:x.r=⟨rk,rq⟩:=by rw [hrk,hrq]
 rw [←hrk] at m4
 rw [←hrq] at m5
 have HR:=Lib.hid hxr
 obtain ⟨np,hnp⟩:∃ n,n=x.p.length:=⟨_,rfl⟩
 rw [←hnp] at m2
 have HN:=Lib.hid hnp
 have hpl2:np≤4:=by omega
 obtain ⟨tk,htk⟩:∃ t,t=np:=⟨_,rfl⟩
 have HTk:=Lib.hid htk
 clear htk
 clear hx hmt hmc hHM H HM HW hb1 hW1 hpt b0 b1 b2 b3 hma hrk hrq hxr hnp hpl
 go_enter Tryz.func119,Tryz.ntmps119
 go_upto_region 4 with fail
 rw [←HW1.out]
 go_wp2_with (go_at_call 59;refine (results_any ⟨rk,rq⟩ _).mono ?_;rintro r w1 ⟨ro,rc,rfl,hrl,-,hb2⟩;have HRl:=Lib.hid hrl;have HB2:=Lib.hid hb2;clear hrl hb2)
 obtain ⟨nr,hnr⟩:∃ n,n=(resL (⟨rk,rq⟩:Ty)).length:=⟨_,rfl⟩
 rw [←hnr]
 have HNr:=Lib.hid hnr
 clear hnr m2 m4 m5 c1 c2
 have b4:=Blk.new w1 #[.slice ro nr rc] 23
 have hb3:Below W1.heap.size W1 (w1.alloc (.cells #[.slice ro nr rc] 23)):=bal HB2.out _
 have hz2:=HB2.out.size
 obtain ⟨W2,hW2⟩:∃ W2,W2=w1.alloc (.cells #[.slice ro nr rc] 23):=⟨_,rfl⟩
 rw [←hW2] at b4 hb3 ⊢
 have HRl2:=Lib.hid (show TyAt W2 ro rc (resL ⟨rk,rq⟩) from by
  have h0:=HRl.out
  rw [hW2]
  exact h0.upd (K:=K) (B:=K) (Upd.of bE) ⟨by have:=HB1.out.size;omega,fun xs z hx=>by
   have hk:=(Ck.old HH.out.ck HB2.out)
   rw [show w1.heap[K]?=_ from hk] at hx
   cases hx⟩ ⟨by have:=HB1.out.size;omega,fun xs z hx=>by
   have hk:=(Ck.old HH.out.ck HB2.out)
   rw [show w1.heap[K]?=_ from hk] at hx
   cases hx⟩)
 have HB3:=Lib.hid hb3
 have HB4:=Lib.hid b4
 have hU2:=(Upd.of (K:=K) (B:=K) HB1.out).bel HB3.out
 have HU2:=Lib.hid hU2
 have s0:=(HB.out.1.old HB3.out).cell 0 (v:=.pointer (some ⟨K,0,none⟩)) rfl
 have s1:=(HB.out.2.1.old HB3.out).cell 0 (v:=.pointer (some ma)) rfl
 have s3:=(HB.out.2.2.2.old HB3.out).cell 0 (v:=.int .i64 0) rfl
 have s4:=b4.cell 0 (v:=.slice ro nr rc) rfl
 have hS:∀ w',Upd K K W2 w'→(fun w':World=>w'.cell? ⟨w.heap.size,0,none⟩=some (.pointer (some ⟨K,0,none⟩))∧w'.cell? ⟨w.heap.size+1,0,none⟩=some (.pointer (some ma))∧w'.cell? ⟨w.heap.size+3,0,none⟩=some (.int .i64 0)∧w'.cell? ⟨w1.heap.size,0,none⟩=some (.slice ro nr rc)∧w'.cell? ⟨ma.block,ma.off+2,none⟩=some (.slice (h.e j).po np (h.e j).pc)) w':=fun w' hu=>⟨hu.cell s0 (by show w.heap.size≠K;omega) (by show w.heap.size≠K;omega),hu.cell s1 (by show w.heap.size+1≠K;omega) (by show w.heap.size+1≠K;omega),hu.cell s3 (by show w.heap.size+3≠K;omega) (by show w.heap.size+3≠K;omega),hu.cell s4 (by show w1.heap.size≠K;omega) (by show w1.heap.size≠K;omega),by rw [HN.out];exact (HMc.out _ (HU2.out.trans hu)).1⟩
 have HS:=Lib.hid hS
 have HD:=Lib.hid (show Calls Tryz.prog 74 #[.pointer (some ⟨K,0,none⟩),.int .i64 tk,.int .i64 nr,.func (Fn.func 140) #[] #[.pointer (some ⟨w.heap.size+2,0,none⟩),.pointer (some ⟨w.heap.size,0,none⟩),.pointer (some ⟨w.heap.size+1,0,none⟩),.pointer (some ⟨w.heap.size+3,0,none⟩),.pointer (some ⟨w1.heap.size,0,none⟩)]] W2.drew (DoPost W2.drew K h m lo lc ls oo oc bs (midV m ls i s)) from
  do_mid HHW.out ((HH.out.old HB3.out).old bE) hd tk nr 140 _ (by rw [cv25 hop,←hji,←HX.out,←HN.out,HNr.out,resL_length,←HR.out,HTk.out]) (by have:=HTk.out;omega) (by rw [HNr.out];have:=resL_len ⟨rk,rq⟩;omega) (fun _ _=>rfl) (fun l hl hdr w3 to' tc hu hck hown=>by
   have hu':Upd K K W2 w3:=(Upd.refl K K W2).drew.trans hu
   have huw:=HU2.out.trans hu'
   have hlt:∀ t∈l,tyOk m t:=fun t ht=>HHW.out.2 t (List.mem_of_mem_drop (by rw [hdr];exact ht))
   have hsb:=(HB.out.2.2.1.old HB3.out).upd hu' (by omega) (by omega)
   have hcb:=(HB.out.1.old HB3.out).upd hu' (by omega) (by omega)
   have hmb:=(HB.out.2.1.old HB3.out).upd hu' (by omega) (by omega)
   have hvb:=(HB.out.2.2.2.old HB3.out).upd hu' (by omega) (by omega)
   have hob:=HB4.out.upd hu' (by omega) (by omega)
   have hrl:=HRl2.out.upd hu' (Ck.noTy (HH.out.ck.old HB3.out)) (Ck.noTy (HH.out.ck.old HB3.out))
   rw [HNr.out] at hob
   have hlen:l.length=0+x.p.length:=by rw [hl];have:=HTk.out;have:=HN.out;omega
   have hown':=hown
   rw [←hl] at hown' ⊢
   refine (call1_none K h m _ _ _ l x.p (h.e j).po (h.e j).pc ma (-1) 0 ro rc (resL ⟨rk,rq⟩) (w.heap.size+2) w.heap.size (w.heap.size+1) (w.heap.size+3) w1.heap.size to' tc _ w3 hck (fun w' hu2=>HHM.out w' (huw.trans hu2)) hsb hcb hmb hvb hob hrl (fun w' hu2=>⟨(HMc.out w' (huw.trans hu2)).1,(HMc.out w' (huw.trans hu2)).2.2.2⟩) hown' hlen (by have:=HN.out;omega) (by decide) (by decide)).mono ?_
   exact fun r w2 hp=>hp.imp fun out e' hq=>by obtain ⟨h1,h2⟩:=hq;rw [h1,h2,HNr.out,resL_length];have hr:=res_25 (ls:=ls) hm hop (x:=x) (by rw [HX.out,hji]) (by rw [hlen,Nat.zero_add]) hlt HPt.out;rw [HR.out] at hr;exact hr))
 clear b4 hb3 hW2 hU2 s0 s1 s3 s4 hS
 have htk:=HTk.out.symm
 subst htk
 have hwt:IntKind.i64.wrap ((np:Nat):Int)=((np:Nat):Int):=IntWalk.i64_in _ (by omega)
 refine rO (fun w':World=>w'.cell? ⟨w.heap.size,0,none⟩=some (.pointer (some ⟨K,0,none⟩))∧w'.cell? ⟨w.heap.size+1,0,none⟩=some (.pointer (some ma))∧w'.cell? ⟨w.heap.size+3,0,none⟩=some (.int .i64 0)∧w'.cell? ⟨w1.heap.size,0,none⟩=some (.slice ro nr rc)∧w'.cell? ⟨ma.block,ma.off+2,none⟩=some (.slice (h.e j).po np (h.e j).pc)) (.plain 0 (.plain 1 (.plain 2 (.plain 3 (.plain 4 (.plain 5 (.plain 6 (.plain 7 (.plain 8 (.plain 9 (.plain 10 (.one 11 .done)))))))))))) (HS.out _ (Upd.refl K K W2).drew) ?_
 repeat refine pO ?_
 refine oO fun Kv hK=>?_
 go_simp
 refine HD.out.mono ?_
 rintro r w4 ⟨⟨v4,rfl⟩,hu4,hd4⟩
 have HU4:=Lib.hid ((Upd.refl K K W2).drew.trans hu4)
 have HD4:=Lib.hid hd4
 refine hK _ _ ⟨HS.out _ HU4.out,?_⟩
 clear hK Kv hu4 hd4
 refine wpMixO_done ?_
 go_wp2
 go_end0
 exact ⟨⟨_,rfl⟩,HU2.out.trans HU4.out,HD4.out⟩
theorem call_26 {w0 w:World}{K:Nat}{h:Hd}{m:Md}{lo:Option Addr}{lc:Nat}{ls:List Ty}{s:Ps}{so:Option Addr}{sc:Nat}{oo:Option Addr}{oc:Nat}{bs:List VB}{i:In3} (hm:modV m=true) (HW:stkOk m s.stk) (H:St w0 w K h m lo lc ls s so sc oo oc bs) (HM:ModAt w0 h m) (hd:s.opn.length≤6) {j:Nat} (hj:j<m.me.length) {ea:Addr} (heo:h.eo=some ea) (hop:i.op=26) {sl:Nat} (hia:i.a=sl) (hcal:calleeV m i=some (m.me.getD j default)) (hsm:∀ c:Int,0≤c→c<m.cl.length→sl<(m.cl.getD c.toNat default).m.length) (hsl:sl≤1000) :
  Calls Tryz.prog 119 #[.pointer (some ⟨K,0,none⟩),.pointer (some (ea.add (j*7))),.int .i64 sl] w (DoPost w K h m lo lc ls oo oc bs (midV m ls i s)):=by
 obtain ⟨x,hx⟩:∃ x,x=m.me.getD j default:=⟨_,rfl⟩
 obtain ⟨ma,hma⟩:∃ a,a=ea.add (j*7):=⟨_,rfl⟩
 have hmt:=mth_ok hm hj
 rw [←hma]
 have hpl:x.p.length≤4:=by rw [hx];exact hmt.z.1
 have hpt:∀ t∈x.p,tyOk m t:=by rw [hx];exact hmt.p
 have hmc:∀ w',Upd K K w w'→w'.cell? ⟨ma.block,ma.off+2,none⟩=some (.slice (h.e j).po x.p.length (h.e j).pc)∧w'.cell? ⟨ma.block,ma.off+4,none⟩=some (.int .i64 x.r.k)∧w'.cell? ⟨ma.block,ma.off+5,none⟩=some (.int .i64 x.r.c)∧RowAt w' (h.e j).po (h.e j).pc x.p:=fun w' hu=>by
  have hM:=HM.old (hu.below H.hb (Nat.le_refl _) H.hK H.hK)
  obtain ⟨ad,h1,-,-,h2,-,h3,h4,-⟩:=hM.mth hj
  have h5:=hM.p j hj
  rw [heo] at h1
  cases h1
  rw [←hma,←hx] at h2 h3 h4
  rw [←hx] at h5
  exact ⟨h2,h3,h4,h5⟩
 have hHM:∀ w',Upd K K w w'→ModAt w' h m:=fun w' hu=>HM.old (hu.below H.hb (Nat.le_refl _) H.hK H.hK)
 have kl:=Blk.lt H.ck
 obtain ⟨W1,hW1⟩:∃ W1,W1=((((w.alloc (.cells #[.pointer (some ⟨K,0,none⟩)] 80)).alloc (.cells #[.pointer (some ma)] 77)).alloc (.cells #[.int .i64 sl] 3)).alloc (.cells #[.int .i64 1] 3)):=⟨_,rfl⟩
 have hb1:Below w.heap.size w W1:=by rw [hW1];exact bE
 have hz1:W1.heap.size=w.heap.size+4:=by rw [hW1];simp
 have b0:Blk W1 w.heap.size #[.pointer (some ⟨K,0,none⟩)] 80:=by rw [hW1];exact (((Blk.new w _ _).alloc _).alloc _).alloc _
 have b1:Blk W1 (w.heap.size+1) #[.pointer (some ma)] 77:=by rw [hW1];exact ((Blk.new' (w:=w.alloc (.cells #[.pointer (some ⟨K,0,none⟩)] 80)) _ _ (by simp)).alloc _).alloc _
 have b2:Blk W1 (w.heap.size+2) #[.int .i64 sl] 3:=by rw [hW1];exact (Blk.new' (w:=(w.alloc (.cells #[.pointer (some ⟨K,0,none⟩)] 80)).alloc (.cells #[.pointer (some ma)] 77)) _ _ (by simp)).alloc _
 have b3:Blk W1 (w.heap.size+3) #[.int .i64 1] 3:=by rw [hW1];exact Blk.new' (w:=((w.alloc (.cells #[.pointer (some ⟨K,0,none⟩)] 80)).alloc (.cells #[.pointer (some ma)] 77)).alloc (.cells #[.int .i64 sl] 3)) _ _ (by simp)
 have HB:=Lib.hid (And.intro b0 (And.intro b1 (And.intro b2 b3)))
 have m1:=(hmc W1 (Upd.of hb1))
 obtain ⟨m2,m4,m5,-⟩:=m1
 have HMc:=Lib.hid hmc
 have HHM:=Lib.hid hHM
 have HH:=Lib.hid (H.old hb1)
 have HB1:=Lib.hid hb1
 have HX:=Lib.hid hx
 have HW1:=Lib.hid hW1
 have HPt:=Lib.hid hpt
 have HNo:=Lib.hid H.ck.noTy
 have HHW:=Lib.hid HW
 have c1:=b1.cell 0 (v:=.pointer (some ma)) rfl
 have c2:=b2.cell 0 (v:=.int .i64 sl) rfl
 obtain ⟨rk,hrk⟩:∃ k,k=x.r.k:=⟨_,rfl⟩
 obtain ⟨rq,hrq⟩:∃ k,k=x.r.c:=⟨_,rfl⟩
 have hxr:x.r=⟨rk,rq⟩:=by rw [hrk,hrq]
 rw [←hrk] at m4
 rw [←hrq] at m5
 have HR:=Lib.hid hxr
 obtain ⟨np,hnp⟩:∃ n,n=x.p.length:=⟨_,rfl⟩
 rw [←hnp] at m2
 have HN:=Lib.hid hnp
 have hpl2:np≤4:=by omega
 obtain ⟨tk,htk⟩:∃ t,t=np+1:=⟨_,rfl⟩
 have HTk:=Lib.hid htk
 clear htk
 clear hx hmt hmc hHM H HM HW hb1 hW1 hpt b0 b1 b2 b3 hma hrk hrq hxr hnp hpl
 go_enter Tryz.func119,Tryz.ntmps119
 go_upto_region 4 with fail
 rw [←HW1.out]
 go_wp2_with (go_at_call 59;refine (results_any ⟨rk,rq⟩ _).mono ?_;rintro r w1 ⟨ro,rc,rfl,hrl,-,hb2⟩;have HRl:=Lib.hid hrl;have HB2:=Lib.hid hb2;clear hrl hb2)
 obtain ⟨nr,hnr⟩:∃ n,n=(resL (⟨rk,rq⟩:Ty)).length:=⟨_,rfl⟩
 rw [←hnr]
 have HNr:=Lib.hid hnr
 clear hnr m2 m4 m5 c1 c2
 have b4:=Blk.new w1 #[.slice ro nr rc] 23
 have hb3:Below W1.heap.size W1 (w1.alloc (.cells #[.slice ro nr rc] 23)):=bal HB2.out _
 have hz2:=HB2.out.size
 obtain ⟨W2,hW2⟩:∃ W2,W2=w1.alloc (.cells #[.slice ro nr rc] 23):=⟨_,rfl⟩
 rw [←hW2] at b4 hb3 ⊢
 have HRl2:=Lib.hid (show TyAt W2 ro rc (resL ⟨rk,rq⟩) from by
  have h0:=HRl.out
  rw [hW2]
  exact h0.upd (K:=K) (B:=K) (Upd.of bE) ⟨by have:=HB1.out.size;omega,fun xs z hx=>by
   have hk:=(Ck.old HH.out.ck HB2.out)
   rw [show w1.heap[K]?=_ from hk] at hx
   cases hx⟩ ⟨by have:=HB1.out.size;omega,fun xs z hx=>by
   have hk:=(Ck.old HH.out.ck HB2.out)
   rw [show w1.heap[K]?=_ from hk] at hx
   cases hx⟩)
 have HB3:=Lib.hid hb3
 have HB4:=Lib.hid b4
 have hU2:=(Upd.of (K:=K) (B:=K) HB1.out).bel HB3.out
 have HU2:=Lib.hid hU2
 have s0:=(HB.out.1.old HB3.out).cell 0 (v:=.pointer (some ⟨K,0,none⟩)) rfl
 have s1:=(HB.out.2.1.old HB3.out).cell 0 (v:=.pointer (some ma)) rfl
 have s3:=(HB.out.2.2.2.old HB3.out).cell 0 (v:=.int .i64 1) rfl
 have s4:=b4.cell 0 (v:=.slice ro nr rc) rfl
 have hS:∀ w',Upd K K W2 w'→(fun w':World=>w'.cell? ⟨w.heap.size,0,none⟩=some (.pointer (some ⟨K,0,none⟩))∧w'.cell? ⟨w.heap.size+1,0,none⟩=some (.pointer (some ma))∧w'.cell? ⟨w.heap.size+3,0,none⟩=some (.int .i64 1)∧w'.cell? ⟨w1.heap.size,0,none⟩=some (.slice ro nr rc)∧w'.cell? ⟨ma.block,ma.off+2,none⟩=some (.slice (h.e j).po np (h.e j).pc)) w':=fun w' hu=>⟨hu.cell s0 (by show w.heap.size≠K;omega) (by show w.heap.size≠K;omega),hu.cell s1 (by show w.heap.size+1≠K;omega) (by show w.heap.size+1≠K;omega),hu.cell s3 (by show w.heap.size+3≠K;omega) (by show w.heap.size+3≠K;omega),hu.cell s4 (by show w1.heap.size≠K;omega) (by show w1.heap.size≠K;omega),by rw [HN.out];exact (HMc.out _ (HU2.out.trans hu)).1⟩
 have HS:=Lib.hid hS
 have HD:=Lib.hid (show Calls Tryz.prog 74 #[.pointer (some ⟨K,0,none⟩),.int .i64 tk,.int .i64 nr,.func (Fn.func 140) #[] #[.pointer (some ⟨w.heap.size+2,0,none⟩),.pointer (some ⟨w.heap.size,0,none⟩),.pointer (some ⟨w.heap.size+1,0,none⟩),.pointer (some ⟨w.heap.size+3,0,none⟩),.pointer (some ⟨w1.heap.size,0,none⟩)]] W2.drew (DoPost W2.drew K h m lo lc ls oo oc bs (midV m ls i s)) from
  do_mid HHW.out ((HH.out.old HB3.out).old bE) hd tk nr 140 _ (by rw [cv26 hop,hcal,←HX.out];show (x.p.length+1,if x.r.k=0 then 0 else 1)=_;rw [HTk.out,HN.out,HNr.out,resL_length,←HR.out]) (by have:=HTk.out;omega) (by rw [HNr.out];have:=resL_len ⟨rk,rq⟩;omega) (fun _ _=>rfl) (fun l hl hdr w3 to' tc hu hck hown=>by
   have hu':Upd K K W2 w3:=(Upd.refl K K W2).drew.trans hu
   have huw:=HU2.out.trans hu'
   have hlt:∀ t∈l,tyOk m t:=fun t ht=>HHW.out.2 t (List.mem_of_mem_drop (by rw [hdr];exact ht))
   have hsb:=(HB.out.2.2.1.old HB3.out).upd hu' (by omega) (by omega)
   have hcb:=(HB.out.1.old HB3.out).upd hu' (by omega) (by omega)
   have hmb:=(HB.out.2.1.old HB3.out).upd hu' (by omega) (by omega)
   have hvb:=(HB.out.2.2.2.old HB3.out).upd hu' (by omega) (by omega)
   have hob:=HB4.out.upd hu' (by omega) (by omega)
   have hrl:=HRl2.out.upd hu' (Ck.noTy (HH.out.ck.old HB3.out)) (Ck.noTy (HH.out.ck.old HB3.out))
   rw [HNr.out] at hob
   have hlen:l.length=1+x.p.length:=by rw [hl];have:=HTk.out;have:=HN.out;omega
   have hown':=hown
   rw [←hl] at hown' ⊢
   have hr:=fun (e0:Int) he=>res_26 (ls:=ls) (e0:=e0) hm hop (x:=x) (by rw [HX.out];exact hcal) hlen hlt HPt.out he
   rw [HR.out] at hr
   have hsel:i.a.toNat=sl:=by rw [hia];exact Int.toNat_natCast _
   by_cases hk:(l.getD 0 default).k=2
   ·have hty:=ty_cls (hlt _ (getD_mem _ (by omega))) (.inl hk)
    have hmm:=hsm _ hty.1 hty.2
    refine (call1_yes K h m _ _ _ l x.p (h.e j).po (h.e j).pc ma sl 1 ro rc (resL ⟨rk,rq⟩) (w.heap.size+2) w.heap.size (w.heap.size+1) (w.heap.size+3) w1.heap.size to' tc _ w3 hck (fun w' hu2=>HHM.out w' (huw.trans hu2)) hsb hcb hmb hvb hob hrl (fun w' hu2=>⟨(HMc.out w' (huw.trans hu2)).1,(HMc.out w' (huw.trans hu2)).2.2.2⟩) hown' hlen (by have:=HN.out;omega) (by decide) (by omega) rfl hk ⟨hty.1,hty.2,by rw [Int.toNat_natCast];exact hmm⟩).mono ?_
    exact fun r w2 hp=>hp.imp fun out e' hq=>by obtain ⟨h1,h2⟩:=hq;rw [h1,h2,HNr.out,resL_length];exact hr _ (by rw [wantC0,hsel,Int.toNat_natCast])
   ·refine (call1_no K h m _ _ _ l x.p (h.e j).po (h.e j).pc ma sl 1 ro rc (resL ⟨rk,rq⟩) (w.heap.size+2) w.heap.size (w.heap.size+1) (w.heap.size+3) w1.heap.size to' tc _ w3 hck (fun w' hu2=>HHM.out w' (huw.trans hu2)) hsb hcb hmb hvb hob hrl (fun w' hu2=>⟨(HMc.out w' (huw.trans hu2)).1,(HMc.out w' (huw.trans hu2)).2.2.2⟩) hown' hlen (by have:=HN.out;omega) (by decide) (by omega) rfl hk).mono ?_
    exact fun r w2 hp=>hp.imp fun out e' hq=>by obtain ⟨h1,h2⟩:=hq;rw [h1,h2,HNr.out,resL_length];exact hr _ (by rw [decide_eq_false hk];rfl)))
 clear b4 hb3 hW2 hU2 s0 s1 s3 s4 hS
 have hsum:(1:Int)+(np:Int)=(tk:Int):=by have:=HTk.out;omega
 have hwt:IntKind.i64.wrap ((tk:Nat):Int)=((tk:Nat):Int):=IntWalk.i64_in _ (by have:=HTk.out;omega)
 refine rO (fun w':World=>w'.cell? ⟨w.heap.size,0,none⟩=some (.pointer (some ⟨K,0,none⟩))∧w'.cell? ⟨w.heap.size+1,0,none⟩=some (.pointer (some ma))∧w'.cell? ⟨w.heap.size+3,0,none⟩=some (.int .i64 1)∧w'.cell? ⟨w1.heap.size,0,none⟩=some (.slice ro nr rc)∧w'.cell? ⟨ma.block,ma.off+2,none⟩=some (.slice (h.e j).po np (h.e j).pc)) (.plain 0 (.plain 1 (.plain 2 (.plain 3 (.plain 4 (.plain 5 (.plain 6 (.plain 7 (.plain 8 (.plain 9 (.plain 10 (.one 11 .done)))))))))))) (HS.out _ (Upd.refl K K W2).drew) ?_
 repeat refine pO ?_
 refine oO fun Kv hK=>?_
 go_simp
 refine HD.out.mono ?_
 rintro r w4 ⟨⟨v4,rfl⟩,hu4,hd4⟩
 have HU4:=Lib.hid ((Upd.refl K K W2).drew.trans hu4)
 have HD4:=Lib.hid hd4
 refine hK _ _ ⟨HS.out _ HU4.out,?_⟩
 clear hK Kv hu4 hd4
 refine wpMixO_done ?_
 go_wp2
 go_end0
 exact ⟨⟨_,rfl⟩,HU2.out.trans HU4.out,HD4.out⟩
end
end Go.Proofs.YtkdamjpbnmbeoaaGreat
