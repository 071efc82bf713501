/- Joined texts. The first: verify: the closures of simple, opening and memory. -/
import Derived.Test.YtkdamjpbnmbeoaaGreatG6
set_option linter.all false
set_option linter.unusedVariables false
set_option linter.unusedSimpArgs false
set_option maxRecDepth 100000
set_option maxHeartbeats 4000000
namespace Go.Proofs.YtkdamjpbnmbeoaaGreat
section
open Go.RowKit
theorem blk_ne {w:World}{a b:Nat}{xs ys:Array Value}{t u:TypeId} (h1:Blk w a xs t) (h2:Blk w b ys u) (hne:t≠u):a≠b:=by
 rintro rfl
 have h3:=h1.symm.trans h2
 cases h3
 exact hne rfl
theorem wpOp_skipD {P:Program}{ops:Array Oper}{Q:Exit→Act→World→Prop}{a:Act}{w:World}{k:Nat}{K:Act→World→Prop} (d:Tmp) (hs:(ops[k]?.map fun o=>(o.dst,Region.wanted o (yielded ops a.tmps)))=some (some d,false)) (h:K { a with tmps:=a.tmps.setIfInBounds d undef } w):wpOp P ops Q k K a w:=by
 cases ho:ops[k]? with
 | none=>rw [ho] at hs;cases hs
 | some o=>
  rw [ho] at hs
  have h2:=Option.some.inj hs
  have h3:o.dst=some d:=congrArg Prod.fst h2
  refine wpOp_skip o ho (congrArg Prod.snd h2) ?_
  rw [h3]
  exact h
theorem Ck.drew {w:World}{K:Nat}{h:Hd}{m:Md}{L S O:Value}{e:Int} (H:Ck w K h m L S O e):Ck w.drew K h m L S O e:=H
theorem own_ty {W:World}{base:Nat}{to':Option Addr}{n tc:Nat}{xs:List Value} (h:W.ownsRow base 38 2 (.slice to' (n+1) tc) (n+1) xs) {K:Nat}{hd:Hd}{m:Md}{L S O:Value}{e:Int} (H:Ck W K hd m L S O e) :
  ∃ g,to'=some ⟨g,0,none⟩∧g≠K∧g<W.heap.size∧n+1≤tc∧∀ j v,xs[j]?=some v→W.cell? ⟨g,j,none⟩=some v:=by
 rcases h.2 with ⟨_,hn⟩|⟨g,c,cur,hv,hb,hg,hle,hm,hs,hx⟩
 ·omega
 ·cases hv
  refine ⟨g,rfl,fun q=>?_,(Array.getElem?_eq_some_iff.1 hg).1,hle,fun j v hj=>?_⟩
  ·rw [q,show W.heap[K]?=_ from H] at hg
   cases hg
  ·rw [cell_of_row W g j cur _ _ hg]
   rw [←hx,List.getElem?_take] at hj
   split at hj
   ·simpa using hj
   ·cases hj
theorem TyAt.one_of {w:World}{ao:Option Addr}{cap:Nat}{a b:Ty} (H:TyAt w ao cap [a,b]):TyAt w ao cap [a]:=
 ⟨H.1.take 1 (by simp) cap (fun h=>by have:=(H.1.2.1 h).2;omega),by have:=H.2.1;simp at this ⊢;omega,H.2.2⟩
theorem ClPost.trans {w W:World}{K:Nat}{h:Hd}{m:Md}{L S O:Value}{P:List Ty→Int→Prop}{r:Ending}{w':World} (H:ClPost W K h m L S O P r w') (hu:Upd K K w W):ClPost w K h m L S O P r w':=by
 obtain ⟨ro,rc,out,e',h1,h2,h3,h4,h5⟩:=H
 exact ⟨ro,rc,out,e',h1,h2,h3,hu.trans h4,h5⟩
theorem none_any (K:Nat) (h:Hd) (m:Md) (L S O:Value) (v:Value) (W:World) (H:Ck W K h m L S O 0):Calls Tryz.prog 81 #[v] W (ClPost W K h m L S O fun out e'=>out=[]∧e'=0):=by
 have HC:=Lib.hid H
 clear H
 go_enter Tryz.func81,Tryz.ntmps81
 go_wp2
 go_ret
 exact ⟨none,0,[],_,rfl,TyAt.nil _,HC.out,Upd.refl K K W,rfl,rfl⟩
theorem opening1_any (K:Nat) (h:Hd) (m:Md) (L S O:Value) (a:Ty) (op ia ib:Int) (to':Option Addr) (tc base cb ib0:Nat) (W:World) (H:Ck W K h m L S O 0) (hcb:Blk W cb #[.pointer (some ⟨K,0,none⟩)] 80) (hown:W.ownsRow base 38 2 (.slice to' 1 tc) 1 (flatR [a])) :
  Calls Tryz.prog 75 #[.slice to' 1 tc,.pointer (some ⟨cb,0,none⟩)] W (ClPost W K h m L S O fun out e'=>out=[]∧e'=wantC 0 (decide (a=tInt))):=by
 obtain ⟨g,rfl,hgK,hgl,htc,hcl⟩:=own_ty hown H
 obtain ⟨ak,ac⟩:=a
 have kl:=Blk.lt H
 have a0:=hcl 0 (.int .i64 ak) rfl
 have a1:=hcl 1 (.int .i64 ac) rfl
 have c0:=hcb.cell 0 (v:=.pointer (some ⟨K,0,none⟩)) rfl
 have cne:cb≠K:=blk_ne hcb H (by decide)
 have cl:=hcb.lt
 have hS:∀ w' e',Upd K K W w'→Ck w' K h m L S O e'→(fun w':World=>w'.cell? ⟨cb,0,none⟩=some (.pointer (some ⟨K,0,none⟩))∧w'.cell? ⟨g,0,none⟩=some (.int .i64 ak)∧w'.cell? ⟨g,1,none⟩=some (.int .i64 ac)) w':=fun w' e' hu hc'=>⟨hu.cell c0 cne cne,hu.cell a0 hgK hgK,hu.cell a1 hgK hgK⟩
 have HS:=Lib.hid hS
 have HU0:=Lib.hid (Upd.refl K K W)
 have HC0:=Lib.hid H
 have HO:=Lib.hid hown
 clear hS H hcb c0 a0 a1
 clear hown hcl
 have hne:=neqTy
 have heq:=eqlTy
 have hgu:=guardTy
 go_enter Tryz.func75,Tryz.ntmps75
 go_wp2_with fail
 refine rO (fun w':World=>w'.cell? ⟨cb,0,none⟩=some (.pointer (some ⟨K,0,none⟩))∧w'.cell? ⟨g,0,none⟩=some (.int .i64 ak)∧w'.cell? ⟨g,1,none⟩=some (.int .i64 ac)) (.plain 0 (.plain 1 (.plain 2 (.plain 3 (.one 4 (.plain 5 (.one 6 .done))))))) (HS.out _ _ HU0.out.drew (Ck.drew HC0.out)) ?_
 have HU1:=Lib.hid HU0.out.drew
 have HC1:=Lib.hid (Ck.drew HC0.out)
 repeat refine pO ?_
 refine oO fun Kv hK=>?_
 go_simp
 refine (number_any _).mono ?_
 rintro r w2 ⟨rfl,hb2⟩
 have HU2:=Lib.hid (HU1.out.bel hb2)
 have HC2:=Lib.hid (HC1.out.old hb2)
 clear hb2
 refine hK _ _ ⟨HS.out _ _ HU2.out HC2.out,?_⟩
 clear hK Kv
 repeat refine pO ?_
 refine oO fun Kv hK=>?_
 go_simp
 refine (want_any K h m L S O _ _ _ HC2.out).mono ?_
 rintro r w3 ⟨⟨v3,rfl⟩,hc3,hu3⟩
 have HU3:=Lib.hid (HU2.out.trans hu3)
 have HC3:=Lib.hid hc3
 clear hc3 hu3
 refine hK _ _ ⟨HS.out _ _ HU3.out HC3.out,?_⟩
 clear hK Kv
 repeat refine pO ?_
 refine wpMixO_done ?_
 go_wp2
 go_ret
 refine ⟨none,0,[],_,rfl,TyAt.nil _,HC3.out,HU3.out,rfl,?_⟩
 rw [ty_eq];first|rfl|(rw [Bool.not_and];rfl)|(simp [tInt];done)
theorem simple6_any (K:Nat) (h:Hd) (m:Md) (L S O:Value) (a:Ty) (op ia ib:Int) (to':Option Addr) (tc base cb ib0:Nat) (W:World) (H:Ck W K h m L S O 0) (hcb:Blk W cb #[.pointer (some ⟨K,0,none⟩)] 80) (hown:W.ownsRow base 38 2 (.slice to' 1 tc) 1 (flatR [a])) :
  Calls Tryz.prog 89 #[.slice to' 1 tc,.pointer (some ⟨cb,0,none⟩)] W (ClPost W K h m L S O fun out e'=>out=[]∧e'=wantC 0 (decide (a=tInt))):=by
 obtain ⟨g,rfl,hgK,hgl,htc,hcl⟩:=own_ty hown H
 obtain ⟨ak,ac⟩:=a
 have kl:=Blk.lt H
 have a0:=hcl 0 (.int .i64 ak) rfl
 have a1:=hcl 1 (.int .i64 ac) rfl
 have c0:=hcb.cell 0 (v:=.pointer (some ⟨K,0,none⟩)) rfl
 have cne:cb≠K:=blk_ne hcb H (by decide)
 have cl:=hcb.lt
 have hS:∀ w' e',Upd K K W w'→Ck w' K h m L S O e'→(fun w':World=>w'.cell? ⟨cb,0,none⟩=some (.pointer (some ⟨K,0,none⟩))∧w'.cell? ⟨g,0,none⟩=some (.int .i64 ak)∧w'.cell? ⟨g,1,none⟩=some (.int .i64 ac)) w':=fun w' e' hu hc'=>⟨hu.cell c0 cne cne,hu.cell a0 hgK hgK,hu.cell a1 hgK hgK⟩
 have HS:=Lib.hid hS
 have HU0:=Lib.hid (Upd.refl K K W)
 have HC0:=Lib.hid H
 have HO:=Lib.hid hown
 clear hS H hcb c0 a0 a1
 clear hown hcl
 have hne:=neqTy
 have heq:=eqlTy
 have hgu:=guardTy
 go_enter Tryz.func89,Tryz.ntmps89
 go_wp2_with fail
 refine rO (fun w':World=>w'.cell? ⟨cb,0,none⟩=some (.pointer (some ⟨K,0,none⟩))∧w'.cell? ⟨g,0,none⟩=some (.int .i64 ak)∧w'.cell? ⟨g,1,none⟩=some (.int .i64 ac)) (.plain 0 (.plain 1 (.plain 2 (.plain 3 (.one 4 (.plain 5 (.one 6 .done))))))) (HS.out _ _ HU0.out.drew (Ck.drew HC0.out)) ?_
 have HU1:=Lib.hid HU0.out.drew
 have HC1:=Lib.hid (Ck.drew HC0.out)
 repeat refine pO ?_
 refine oO fun Kv hK=>?_
 go_simp
 refine (number_any _).mono ?_
 rintro r w2 ⟨rfl,hb2⟩
 have HU2:=Lib.hid (HU1.out.bel hb2)
 have HC2:=Lib.hid (HC1.out.old hb2)
 clear hb2
 refine hK _ _ ⟨HS.out _ _ HU2.out HC2.out,?_⟩
 clear hK Kv
 repeat refine pO ?_
 refine oO fun Kv hK=>?_
 go_simp
 refine (want_any K h m L S O _ _ _ HC2.out).mono ?_
 rintro r w3 ⟨⟨v3,rfl⟩,hc3,hu3⟩
 have HU3:=Lib.hid (HU2.out.trans hu3)
 have HC3:=Lib.hid hc3
 clear hc3 hu3
 refine hK _ _ ⟨HS.out _ _ HU3.out HC3.out,?_⟩
 clear hK Kv
 repeat refine pO ?_
 refine wpMixO_done ?_
 go_wp2
 go_ret
 refine ⟨none,0,[],_,rfl,TyAt.nil _,HC3.out,HU3.out,rfl,?_⟩
 rw [ty_eq];first|rfl|(rw [Bool.not_and];rfl)|(simp [tInt];done)
theorem simple2_any (K:Nat) (h:Hd) (m:Md) (L S O:Value) (a:Ty) (op ia ib:Int) (to':Option Addr) (tc base cb ib0:Nat) (W:World) (H:Ck W K h m L S O 0) (HMo:∀ w',Upd K K W w'→ModAt w' h m) (hcb:Blk W cb #[.pointer (some ⟨K,0,none⟩)] 80) (hib:Blk W ib0 #[.int .i64 op,.int .i64 ia,.int .i64 ib] 42) (hown:W.ownsRow base 38 2 (.slice to' 1 tc) 1 (flatR [a])) (lo:Option Addr) (lc:Nat) (ls:List Ty) (hL:L=.slice lo ls.length lc) (hT:TyAt W lo lc ls) (ha:0≤ia) :
  Calls Tryz.prog 84 #[.slice to' 1 tc,.pointer (some ⟨cb,0,none⟩),.pointer (some ⟨ib0,0,none⟩)] W (ClPost W K h m L S O fun out e'=>out=[]∧e'=wantC (wantC 0 (decide (ia<ls.length))) (decide (wantC 0 (decide (ia<ls.length))=0)&&fitG m a (ls.getD ia.toNat default))):=by
 obtain ⟨g,rfl,hgK,hgl,htc,hcl⟩:=own_ty hown H
 obtain ⟨ak,ac⟩:=a
 have kl:=Blk.lt H
 have a0:=hcl 0 (.int .i64 ak) rfl
 have a1:=hcl 1 (.int .i64 ac) rfl
 have c0:=hcb.cell 0 (v:=.pointer (some ⟨K,0,none⟩)) rfl
 have cne:cb≠K:=blk_ne hcb H (by decide)
 have cl:=hcb.lt
 have i0:=hib.cell 0 (v:=.int .i64 op) rfl
 have i1:=hib.cell 1 (v:=.int .i64 ia) rfl
 have i2:=hib.cell 2 (v:=.int .i64 ib) rfl
 have ine:ib0≠K:=blk_ne hib H (by decide)
 have il:=hib.lt
 have HNo:=Lib.hid H.noTy
 have hS:∀ w' e',Upd K K W w'→Ck w' K h m L S O e'→(fun w':World=>w'.cell? ⟨cb,0,none⟩=some (.pointer (some ⟨K,0,none⟩))∧w'.cell? ⟨g,0,none⟩=some (.int .i64 ak)∧w'.cell? ⟨g,1,none⟩=some (.int .i64 ac)∧w'.cell? ⟨ib0,0,none⟩=some (.int .i64 op)∧w'.cell? ⟨ib0,1,none⟩=some (.int .i64 ia)∧w'.cell? ⟨ib0,2,none⟩=some (.int .i64 ib)) w':=fun w' e' hu hc'=>⟨hu.cell c0 cne cne,hu.cell a0 hgK hgK,hu.cell a1 hgK hgK,hu.cell i0 ine ine,hu.cell i1 ine ine,hu.cell i2 ine ine⟩
 have HS:=Lib.hid hS
 have HU0:=Lib.hid (Upd.refl K K W)
 have HC0:=Lib.hid H
 have HO:=Lib.hid hown
 have HM0:=Lib.hid HMo
 clear hS H hcb hib c0 a0 a1 i0 i1 i2
 obtain ⟨⟨uk,uc⟩,HLu'⟩:∃ x:Ty,x=ls.getD ia.toNat default:=⟨_,rfl⟩
 obtain ⟨lb,HLb'⟩:∃ x:Bool,x=decide (ia<ls.length):=⟨_,rfl⟩
 have HLo:=Lib.hid (show ∀ e w',Ck w' K h m L S O e→Upd K K W w'→Calls Tryz.prog 79 #[.pointer (some ⟨K,0,none⟩),.int .i64 ia] w' fun r w''=>r=.returned (.agg #[.int .i64 uk,.int .i64 uc])∧Ck w'' K h m L S O (wantC e lb)∧Upd K K w' w'' from fun e w' hc hu=>by have:=local_any K h m S O lo lc ls e ia w' (hL▸hc) (hT.upd hu HNo.out HNo.out).1 ha;rw [←HLu',←HLb',←hL] at this;exact this)
 have HLu:=Lib.hid HLu'
 clear HLu'
 have HLb:=Lib.hid HLb'
 clear HLb'
 clear hT hL
 obtain ⟨ft,HFt'⟩:∃ x:Bool,x=fitG m ⟨ak,ac⟩ ⟨uk,uc⟩:=⟨_,rfl⟩
 have HFi:=Lib.hid (show ∀ e w',Ck w' K h m L S O e→Upd K K W w'→Calls Tryz.prog 85 #[.pointer (some ⟨K,0,none⟩),.agg #[.int .i64 ak,.int .i64 ac],.agg #[.int .i64 uk,.int .i64 uc]] w' fun r w''=>(∃ v,r=.returned v)∧Ck w'' K h m L S O (wantC e (decide (e=0)&&ft))∧Upd K K w' w'' from fun e w' hc hu=>by have:=fit_any K h m L S O e ⟨ak,ac⟩ ⟨uk,uc⟩ w' hc (HMo w' hu);rw [←HFt'] at this;exact this)
 have HFt:=Lib.hid HFt'
 clear HFt'
 clear hown hcl HMo
 have hne:=neqTy
 have heq:=eqlTy
 have hgu:=guardTy
 go_enter Tryz.func84,Tryz.ntmps84
 go_wp2_with fail
 refine rO (fun w':World=>w'.cell? ⟨cb,0,none⟩=some (.pointer (some ⟨K,0,none⟩))∧w'.cell? ⟨g,0,none⟩=some (.int .i64 ak)∧w'.cell? ⟨g,1,none⟩=some (.int .i64 ac)∧w'.cell? ⟨ib0,0,none⟩=some (.int .i64 op)∧w'.cell? ⟨ib0,1,none⟩=some (.int .i64 ia)∧w'.cell? ⟨ib0,2,none⟩=some (.int .i64 ib)) (.plain 0 (.plain 1 (.plain 2 (.plain 3 (.plain 4 (.plain 5 (.plain 6 (.one 7 (.one 8 .done))))))))) (HS.out _ _ HU0.out.drew (Ck.drew HC0.out)) ?_
 have HU1:=Lib.hid HU0.out.drew
 have HC1:=Lib.hid (Ck.drew HC0.out)
 repeat refine pO ?_
 refine oO fun Kv hK=>?_
 go_simp
 refine (HLo.out _ _ HC1.out HU1.out).mono ?_
 rintro r w2 ⟨rfl,hc2,hu2⟩
 have HU2:=Lib.hid (HU1.out.trans hu2)
 have HC2:=Lib.hid hc2
 clear hc2 hu2
 refine hK _ _ ⟨HS.out _ _ HU2.out HC2.out,?_⟩
 clear hK Kv
 repeat refine pO ?_
 refine oO fun Kv hK=>?_
 go_simp
 refine (HFi.out _ _ HC2.out HU2.out).mono ?_
 rintro r w3 ⟨⟨v3,rfl⟩,hc3,hu3⟩
 have HU3:=Lib.hid (HU2.out.trans hu3)
 have HC3:=Lib.hid hc3
 clear hc3 hu3
 refine hK _ _ ⟨HS.out _ _ HU3.out HC3.out,?_⟩
 clear hK Kv
 repeat refine pO ?_
 refine wpMixO_done ?_
 go_wp2
 go_ret
 refine ⟨none,0,[],_,rfl,TyAt.nil _,HC3.out,HU3.out,rfl,?_⟩
 rw [HFt.out,HLb.out,HLu.out]
theorem simple4_yes (K:Nat) (h:Hd) (m:Md) (L S O:Value) (a b:Ty) (op ia ib:Int) (to':Option Addr) (tc base cb ib0:Nat) (W:World) (H:Ck W K h m L S O 0) (hcb:Blk W cb #[.pointer (some ⟨K,0,none⟩)] 80) (hown:W.ownsRow base 38 2 (.slice to' 2 tc) 2 (flatR [a,b])) (h1:a=tInt) :
  Calls Tryz.prog 87 #[.slice to' 2 tc,.pointer (some ⟨cb,0,none⟩)] W (ClPost W K h m L S O fun out e'=>out=[a]∧e'=wantC 0 (decide (b=tInt))):=by
 have HTy:=Lib.hid (TyAt.own (l:=[a,b]) hown)
 have HNo:=Lib.hid H.noTy
 obtain ⟨g,rfl,hgK,hgl,htc,hcl⟩:=own_ty hown H
 obtain ⟨ak,ac⟩:=a
 obtain ⟨rfl,rfl⟩:ak=1∧ac=0:=by cases h1;exact ⟨rfl,rfl⟩
 clear h1
 obtain ⟨bk,bc⟩:=b
 have kl:=Blk.lt H
 have a0:=hcl 0 (.int .i64 1) rfl
 have a1:=hcl 1 (.int .i64 0) rfl
 have b0:=hcl 2 (.int .i64 bk) rfl
 have b1:=hcl 3 (.int .i64 bc) rfl
 have c0:=hcb.cell 0 (v:=.pointer (some ⟨K,0,none⟩)) rfl
 have cne:cb≠K:=blk_ne hcb H (by decide)
 have cl:=hcb.lt
 have hS:∀ w' e',Upd K K W w'→Ck w' K h m L S O e'→(fun w':World=>w'.cell? ⟨cb,0,none⟩=some (.pointer (some ⟨K,0,none⟩))∧w'.cell? ⟨g,0,none⟩=some (.int .i64 1)∧w'.cell? ⟨g,1,none⟩=some (.int .i64 0)∧w'.cell? ⟨g,2,none⟩=some (.int .i64 bk)∧w'.cell? ⟨g,3,none⟩=some (.int .i64 bc)) w':=fun w' e' hu hc'=>⟨hu.cell c0 cne cne,hu.cell a0 hgK hgK,hu.cell a1 hgK hgK,hu.cell b0 hgK hgK,hu.cell b1 hgK hgK⟩
 have HS:=Lib.hid hS
 have HU0:=Lib.hid (Upd.refl K K W)
 have HC0:=Lib.hid H
 have HO:=Lib.hid hown
 clear hS H hcb c0 a0 a1 b0 b1
 clear hown hcl
 have hne:=neqTy
 have heq:=eqlTy
 have hgu:=guardTy
 go_enter Tryz.func87,Tryz.ntmps87
 go_wp2_with fail
 refine rO (fun w':World=>w'.cell? ⟨cb,0,none⟩=some (.pointer (some ⟨K,0,none⟩))∧w'.cell? ⟨g,0,none⟩=some (.int .i64 1)∧w'.cell? ⟨g,1,none⟩=some (.int .i64 0)∧w'.cell? ⟨g,2,none⟩=some (.int .i64 bk)∧w'.cell? ⟨g,3,none⟩=some (.int .i64 bc)) (.plain 0 (.plain 1 (.plain 2 (.plain 3 (.one 4 (.plain 5 (.plain 6 (.plain 7 (.plain 8 (.plain 9 (.one 10 (.plain 11 (.plain 12 (.one 13 .done)))))))))))))) (HS.out _ _ HU0.out.drew (Ck.drew HC0.out)) ?_
 have HU1:=Lib.hid HU0.out.drew
 have HC1:=Lib.hid (Ck.drew HC0.out)
 repeat refine pO ?_
 refine oO fun Kv hK=>?_
 go_simp
 refine (number_any _).mono ?_
 rintro r w2 ⟨rfl,hb2⟩
 have HU2:=Lib.hid (HU1.out.bel hb2)
 have HC2:=Lib.hid (HC1.out.old hb2)
 clear hb2
 refine hK _ _ ⟨HS.out _ _ HU2.out HC2.out,?_⟩
 clear hK Kv
 repeat refine pO ?_
 refine oO fun Kv hK=>?_
 go_simp
 refine (number_any _).mono ?_
 rintro r w3 ⟨rfl,hb3⟩
 have HU3:=Lib.hid (HU2.out.bel hb3)
 have HC3:=Lib.hid (HC2.out.old hb3)
 clear hb3
 refine hK _ _ ⟨HS.out _ _ HU3.out HC3.out,?_⟩
 clear hK Kv
 repeat refine pO ?_
 refine oO fun Kv hK=>?_
 go_simp
 refine (want_any K h m L S O _ _ _ HC3.out).mono ?_
 rintro r w4 ⟨⟨v4,rfl⟩,hc4,hu4⟩
 have HU4:=Lib.hid (HU3.out.trans hu4)
 have HC4:=Lib.hid hc4
 clear hc4 hu4
 refine hK _ _ ⟨HS.out _ _ HU4.out HC4.out,?_⟩
 clear hK Kv
 repeat refine pO ?_
 refine wpMixO_done ?_
 go_wp2
 go_ret
 refine ⟨some ⟨g,0,none⟩,tc,[_],_,rfl,TyAt.one_of (HTy.out.upd HU4.out HNo.out HNo.out),HC4.out,HU4.out,rfl,?_⟩
 rw [ty_eq];first|rfl|(rw [Bool.not_and];rfl)|(simp [tInt];done)
theorem simple4_no (K:Nat) (h:Hd) (m:Md) (L S O:Value) (a b:Ty) (op ia ib:Int) (to':Option Addr) (tc base cb ib0:Nat) (W:World) (H:Ck W K h m L S O 0) (hcb:Blk W cb #[.pointer (some ⟨K,0,none⟩)] 80) (hown:W.ownsRow base 38 2 (.slice to' 2 tc) 2 (flatR [a,b])) (h1:a≠tInt) :
  Calls Tryz.prog 87 #[.slice to' 2 tc,.pointer (some ⟨cb,0,none⟩)] W (ClPost W K h m L S O fun out e'=>out=[a]∧e'=11):=by
 have HTy:=Lib.hid (TyAt.own (l:=[a,b]) hown)
 have HNo:=Lib.hid H.noTy
 obtain ⟨g,rfl,hgK,hgl,htc,hcl⟩:=own_ty hown H
 obtain ⟨ak,ac⟩:=a
 obtain ⟨bk,bc⟩:=b
 have kl:=Blk.lt H
 have a0:=hcl 0 (.int .i64 ak) rfl
 have a1:=hcl 1 (.int .i64 ac) rfl
 have b0:=hcl 2 (.int .i64 bk) rfl
 have b1:=hcl 3 (.int .i64 bc) rfl
 have c0:=hcb.cell 0 (v:=.pointer (some ⟨K,0,none⟩)) rfl
 have cne:cb≠K:=blk_ne hcb H (by decide)
 have cl:=hcb.lt
 have hd:(decide (ak=1)&&decide (ac=0))=false:=by
  cases hh:(decide (ak=1)&&decide (ac=0))
  ·rfl
  ·simp only [Bool.and_eq_true,decide_eq_true_eq] at hh;exact absurd (by rw [hh.1,hh.2];rfl) h1
 clear h1
 have hS:∀ w' e',Upd K K W w'→Ck w' K h m L S O e'→(fun w':World=>w'.cell? ⟨cb,0,none⟩=some (.pointer (some ⟨K,0,none⟩))∧w'.cell? ⟨g,0,none⟩=some (.int .i64 ak)∧w'.cell? ⟨g,1,none⟩=some (.int .i64 ac)∧w'.cell? ⟨g,2,none⟩=some (.int .i64 bk)∧w'.cell? ⟨g,3,none⟩=some (.int .i64 bc)) w':=fun w' e' hu hc'=>⟨hu.cell c0 cne cne,hu.cell a0 hgK hgK,hu.cell a1 hgK hgK,hu.cell b0 hgK hgK,hu.cell b1 hgK hgK⟩
 have HS:=Lib.hid hS
 have HU0:=Lib.hid (Upd.refl K K W)
 have HC0:=Lib.hid H
 have HO:=Lib.hid hown
 clear hS H hcb c0 a0 a1 b0 b1
 clear hown hcl
 have hne:=neqTy
 have heq:=eqlTy
 have hgu:=guardTy
 go_enter Tryz.func87,Tryz.ntmps87
 go_wp2_with fail
 refine rO (fun w':World=>w'.cell? ⟨cb,0,none⟩=some (.pointer (some ⟨K,0,none⟩))∧w'.cell? ⟨g,0,none⟩=some (.int .i64 ak)∧w'.cell? ⟨g,1,none⟩=some (.int .i64 ac)∧w'.cell? ⟨g,2,none⟩=some (.int .i64 bk)∧w'.cell? ⟨g,3,none⟩=some (.int .i64 bc)) (.plain 0 (.plain 1 (.plain 2 (.plain 3 (.one 4 (.plain 5 (.plain 6 (.plain 7 (.plain 8 (.plain 9 (.one 10 (.plain 11 (.plain 12 (.one 13 .done)))))))))))))) (HS.out _ _ HU0.out.drew (Ck.drew HC0.out)) ?_
 have HU1:=Lib.hid HU0.out.drew
 have HC1:=Lib.hid (Ck.drew HC0.out)
 repeat refine pO ?_
 refine oO fun Kv hK=>?_
 go_simp
 refine (number_any _).mono ?_
 rintro r w2 ⟨rfl,hb2⟩
 have HU2:=Lib.hid (HU1.out.bel hb2)
 have HC2:=Lib.hid (HC1.out.old hb2)
 clear hb2
 refine hK _ _ ⟨HS.out _ _ HU2.out HC2.out,?_⟩
 clear hK Kv
 repeat refine pO ?_
 refine wpMixO_one ?_
 refine wpOp_skipD 14 (by rfl) ?_
 refine ⟨HS.out _ _ HU2.out HC2.out,?_⟩
 simp only [List.setIfInBounds_toArray,List.set_cons_zero,List.set_cons_succ]
 repeat refine pO ?_
 refine oO fun Kv hK=>?_
 go_simp
 refine (want_any K h m L S O _ _ _ HC2.out).mono ?_
 rintro r w3 ⟨⟨v3,rfl⟩,hc3,hu3⟩
 have HU3:=Lib.hid (HU2.out.trans hu3)
 have HC3:=Lib.hid hc3
 clear hc3 hu3
 refine hK _ _ ⟨HS.out _ _ HU3.out HC3.out,?_⟩
 clear hK Kv
 repeat refine pO ?_
 refine wpMixO_done ?_
 go_wp2
 go_ret
 refine ⟨some ⟨g,0,none⟩,tc,[_],_,rfl,TyAt.one_of (HTy.out.upd HU3.out HNo.out HNo.out),HC3.out,HU3.out,rfl,?_⟩
 rfl
theorem simple5_any (K:Nat) (h:Hd) (m:Md) (L S O:Value) (a:Ty) (op ia ib:Int) (to':Option Addr) (tc base cb ib0:Nat) (W:World) (H:Ck W K h m L S O 0) (hcb:Blk W cb #[.pointer (some ⟨K,0,none⟩)] 80) (hown:W.ownsRow base 38 2 (.slice to' 1 tc) 1 (flatR [a])) :
  Calls Tryz.prog 88 #[.slice to' 1 tc,.pointer (some ⟨cb,0,none⟩)] W (ClPost W K h m L S O fun out e'=>out=[tInt]∧e'=wantC 0 (!decide (a=tInt))):=by
 obtain ⟨g,rfl,hgK,hgl,htc,hcl⟩:=own_ty hown H
 obtain ⟨ak,ac⟩:=a
 have kl:=Blk.lt H
 have a0:=hcl 0 (.int .i64 ak) rfl
 have a1:=hcl 1 (.int .i64 ac) rfl
 have c0:=hcb.cell 0 (v:=.pointer (some ⟨K,0,none⟩)) rfl
 have cne:cb≠K:=blk_ne hcb H (by decide)
 have cl:=hcb.lt
 have hS:∀ w' e',Upd K K W w'→Ck w' K h m L S O e'→(fun w':World=>w'.cell? ⟨cb,0,none⟩=some (.pointer (some ⟨K,0,none⟩))∧w'.cell? ⟨g,0,none⟩=some (.int .i64 ak)∧w'.cell? ⟨g,1,none⟩=some (.int .i64 ac)) w':=fun w' e' hu hc'=>⟨hu.cell c0 cne cne,hu.cell a0 hgK hgK,hu.cell a1 hgK hgK⟩
 have HS:=Lib.hid hS
 have HU0:=Lib.hid (Upd.refl K K W)
 have HC0:=Lib.hid H
 have HO:=Lib.hid hown
 clear hS H hcb c0 a0 a1
 clear hown hcl
 have hne:=neqTy
 have heq:=eqlTy
 have hgu:=guardTy
 go_enter Tryz.func88,Tryz.ntmps88
 go_wp2_with fail
 refine rO (fun w':World=>w'.cell? ⟨cb,0,none⟩=some (.pointer (some ⟨K,0,none⟩))∧w'.cell? ⟨g,0,none⟩=some (.int .i64 ak)∧w'.cell? ⟨g,1,none⟩=some (.int .i64 ac)) (.plain 0 (.plain 1 (.plain 2 (.plain 3 (.one 4 (.plain 5 (.one 6 .done))))))) (HS.out _ _ HU0.out.drew (Ck.drew HC0.out)) ?_
 have HU1:=Lib.hid HU0.out.drew
 have HC1:=Lib.hid (Ck.drew HC0.out)
 repeat refine pO ?_
 refine oO fun Kv hK=>?_
 go_simp
 refine (number_any _).mono ?_
 rintro r w2 ⟨rfl,hb2⟩
 have HU2:=Lib.hid (HU1.out.bel hb2)
 have HC2:=Lib.hid (HC1.out.old hb2)
 clear hb2
 refine hK _ _ ⟨HS.out _ _ HU2.out HC2.out,?_⟩
 clear hK Kv
 repeat refine pO ?_
 refine oO fun Kv hK=>?_
 go_simp
 refine (want_any K h m L S O _ _ _ HC2.out).mono ?_
 rintro r w3 ⟨⟨v3,rfl⟩,hc3,hu3⟩
 have HU3:=Lib.hid (HU2.out.trans hu3)
 have HC3:=Lib.hid hc3
 clear hc3 hu3
 refine hK _ _ ⟨HS.out _ _ HU3.out HC3.out,?_⟩
 clear hK Kv
 repeat refine pO ?_
 refine wpMixO_done ?_
 go_wp2_with (go_at_call 77;refine (number_any _).mono ?_;rintro r w8 ⟨rfl,hb8⟩)
 go_ret
 refine ⟨some ⟨w8.heap.size,0,none⟩,1,[_],_,rfl,TyAt.one (t:=tInt) (Blk.new w8 _ _),Ck.old (HC3.out.old hb8) bE,(HU3.out.bel hb8).alloc _,?_,?_⟩
 rfl
 rw [ty_eq];first|rfl|(rw [Bool.not_and];rfl)|(simp [tInt];done)
theorem memory1_any (K:Nat) (h:Hd) (m:Md) (L S O:Value) (a:Ty) (op ia ib:Int) (to':Option Addr) (tc base cb ib0:Nat) (W:World) (H:Ck W K h m L S O 0) (HMo:∀ w',Upd K K W w'→ModAt w' h m) (hcb:Blk W cb #[.pointer (some ⟨K,0,none⟩)] 80) (hib:Blk W ib0 #[.int .i64 op,.int .i64 ia,.int .i64 ib] 42) (hown:W.ownsRow base 38 2 (.slice to' 1 tc) 1 (flatR [a])) (ha:0≤ia) (ht:a.k=2→0≤a.c∧a.c<m.cl.length) :
  Calls Tryz.prog 110 #[.slice to' 1 tc,.pointer (some ⟨cb,0,none⟩),.pointer (some ⟨ib0,0,none⟩)] W (ClPost W K h m L S O fun out e'=>out=[(fldV m a ia).getD default]∧e'=wantC 0 (fldV m a ia).isSome):=by
 obtain ⟨g,rfl,hgK,hgl,htc,hcl⟩:=own_ty hown H
 obtain ⟨ak,ac⟩:=a
 have kl:=Blk.lt H
 have a0:=hcl 0 (.int .i64 ak) rfl
 have a1:=hcl 1 (.int .i64 ac) rfl
 have c0:=hcb.cell 0 (v:=.pointer (some ⟨K,0,none⟩)) rfl
 have cne:cb≠K:=blk_ne hcb H (by decide)
 have cl:=hcb.lt
 have i0:=hib.cell 0 (v:=.int .i64 op) rfl
 have i1:=hib.cell 1 (v:=.int .i64 ia) rfl
 have i2:=hib.cell 2 (v:=.int .i64 ib) rfl
 have ine:ib0≠K:=blk_ne hib H (by decide)
 have il:=hib.lt
 have hS:∀ w' e',Upd K K W w'→Ck w' K h m L S O e'→(fun w':World=>w'.cell? ⟨cb,0,none⟩=some (.pointer (some ⟨K,0,none⟩))∧w'.cell? ⟨g,0,none⟩=some (.int .i64 ak)∧w'.cell? ⟨g,1,none⟩=some (.int .i64 ac)∧w'.cell? ⟨ib0,0,none⟩=some (.int .i64 op)∧w'.cell? ⟨ib0,1,none⟩=some (.int .i64 ia)∧w'.cell? ⟨ib0,2,none⟩=some (.int .i64 ib)) w':=fun w' e' hu hc'=>⟨hu.cell c0 cne cne,hu.cell a0 hgK hgK,hu.cell a1 hgK hgK,hu.cell i0 ine ine,hu.cell i1 ine ine,hu.cell i2 ine ine⟩
 have HS:=Lib.hid hS
 have HU0:=Lib.hid (Upd.refl K K W)
 have HC0:=Lib.hid H
 have HO:=Lib.hid hown
 have HM0:=Lib.hid HMo
 clear hS H hcb hib c0 a0 a1 i0 i1 i2
 obtain ⟨⟨uk,uc⟩,HLu'⟩:∃ x:Ty,x=(fldV m ⟨ak,ac⟩ ia).getD default:=⟨_,rfl⟩
 obtain ⟨lb,HLb'⟩:∃ x:Bool,x=(fldV m ⟨ak,ac⟩ ia).isSome:=⟨_,rfl⟩
 have HLo:=Lib.hid (show ∀ e w',Ck w' K h m L S O e→Upd K K W w'→Calls Tryz.prog 111 #[.pointer (some ⟨K,0,none⟩),.agg #[.int .i64 ak,.int .i64 ac],.int .i64 ia] w' fun r w''=>r=.returned (.agg #[.int .i64 uk,.int .i64 uc])∧Ck w'' K h m L S O (wantC e lb)∧Upd K K w' w'' from fun e w' hc hu=>by have:=field_any K h m L S O e ia ⟨ak,ac⟩ w' hc (HMo w' hu) ha ht;rw [←HLu',←HLb'] at this;exact this)
 have HLu:=Lib.hid HLu'
 clear HLu'
 have HLb:=Lib.hid HLb'
 clear HLb'
 clear ht
 clear hown hcl HMo
 have hne:=neqTy
 have heq:=eqlTy
 have hgu:=guardTy
 go_enter Tryz.func110,Tryz.ntmps110
 go_wp2_with fail
 refine rO (fun w':World=>w'.cell? ⟨cb,0,none⟩=some (.pointer (some ⟨K,0,none⟩))∧w'.cell? ⟨g,0,none⟩=some (.int .i64 ak)∧w'.cell? ⟨g,1,none⟩=some (.int .i64 ac)∧w'.cell? ⟨ib0,0,none⟩=some (.int .i64 op)∧w'.cell? ⟨ib0,1,none⟩=some (.int .i64 ia)∧w'.cell? ⟨ib0,2,none⟩=some (.int .i64 ib)) (.plain 0 (.plain 1 (.plain 2 (.plain 3 (.plain 4 (.plain 5 (.one 6 (.one 7 (.plain 8 .done))))))))) (HS.out _ _ HU0.out.drew (Ck.drew HC0.out)) ?_
 have HU1:=Lib.hid HU0.out.drew
 have HC1:=Lib.hid (Ck.drew HC0.out)
 repeat refine pO ?_
 refine oO fun Kv hK=>?_
 go_simp
 refine (HLo.out _ _ HC1.out HU1.out).mono ?_
 rintro r w2 ⟨rfl,hc2,hu2⟩
 have HU2:=Lib.hid (HU1.out.trans hu2)
 have HC2:=Lib.hid hc2
 clear hc2 hu2
 refine hK _ _ ⟨HS.out _ _ HU2.out HC2.out,?_⟩
 clear hK Kv
 repeat refine pO ?_
 refine oO fun Kv hK=>?_
 go_simp
 have HU3:=Lib.hid (HU2.out.alloc (.cells #[.int .i64 uk,.int .i64 uc] 38))
 have HC3:=Lib.hid (Ck.old (w':=w2.alloc (.cells #[.int .i64 uk,.int .i64 uc] 38)) HC2.out bE)
 refine hK _ _ ⟨HS.out _ _ HU3.out HC3.out,?_⟩
 clear hK Kv
 repeat refine pO ?_
 refine wpMixO_done ?_
 go_wp2
 go_ret
 refine ⟨some ⟨w2.heap.size,0,none⟩,1,[_],_,rfl,TyAt.one (t:=⟨uk,uc⟩) (Blk.new w2 _ _),HC3.out,HU3.out,?_,?_⟩
 rw [←HLu.out]
 rw [HLb.out]
theorem memory2_any (K:Nat) (h:Hd) (m:Md) (L S O:Value) (a b:Ty) (op ia ib:Int) (to':Option Addr) (tc base cb ib0:Nat) (W:World) (H:Ck W K h m L S O 0) (HMo:∀ w',Upd K K W w'→ModAt w' h m) (hcb:Blk W cb #[.pointer (some ⟨K,0,none⟩)] 80) (hib:Blk W ib0 #[.int .i64 op,.int .i64 ia,.int .i64 ib] 42) (hown:W.ownsRow base 38 2 (.slice to' 2 tc) 2 (flatR [a,b])) (ha:0≤ia) (ht:a.k=2→0≤a.c∧a.c<m.cl.length) :
  Calls Tryz.prog 112 #[.slice to' 2 tc,.pointer (some ⟨cb,0,none⟩),.pointer (some ⟨ib0,0,none⟩)] W (ClPost W K h m L S O fun out e'=>out=[]∧e'=wantC (wantC 0 (fldV m a ia).isSome) (decide (wantC 0 (fldV m a ia).isSome=0)&&fitG m b ((fldV m a ia).getD default))):=by
 obtain ⟨g,rfl,hgK,hgl,htc,hcl⟩:=own_ty hown H
 obtain ⟨ak,ac⟩:=a
 obtain ⟨bk,bc⟩:=b
 have kl:=Blk.lt H
 have a0:=hcl 0 (.int .i64 ak) rfl
 have a1:=hcl 1 (.int .i64 ac) rfl
 have b0:=hcl 2 (.int .i64 bk) rfl
 have b1:=hcl 3 (.int .i64 bc) rfl
 have c0:=hcb.cell 0 (v:=.pointer (some ⟨K,0,none⟩)) rfl
 have cne:cb≠K:=blk_ne hcb H (by decide)
 have cl:=hcb.lt
 have i0:=hib.cell 0 (v:=.int .i64 op) rfl
 have i1:=hib.cell 1 (v:=.int .i64 ia) rfl
 have i2:=hib.cell 2 (v:=.int .i64 ib) rfl
 have ine:ib0≠K:=blk_ne hib H (by decide)
 have il:=hib.lt
 have hS:∀ w' e',Upd K K W w'→Ck w' K h m L S O e'→(fun w':World=>w'.cell? ⟨cb,0,none⟩=some (.pointer (some ⟨K,0,none⟩))∧w'.cell? ⟨g,0,none⟩=some (.int .i64 ak)∧w'.cell? ⟨g,1,none⟩=some (.int .i64 ac)∧w'.cell? ⟨g,2,none⟩=some (.int .i64 bk)∧w'.cell? ⟨g,3,none⟩=some (.int .i64 bc)∧w'.cell? ⟨ib0,0,none⟩=some (.int .i64 op)∧w'.cell? ⟨ib0,1,none⟩=some (.int .i64 ia)∧w'.cell? ⟨ib0,2,none⟩=some (.int .i64 ib)) w':=fun w' e' hu hc'=>⟨hu.cell c0 cne cne,hu.cell a0 hgK hgK,hu.cell a1 hgK hgK,hu.cell b0 hgK hgK,hu.cell b1 hgK hgK,hu.cell i0 ine ine,hu.cell i1 ine ine,hu.cell i2 ine ine⟩
 have HS:=Lib.hid hS
 have HU0:=Lib.hid (Upd.refl K K W)
 have HC0:=Lib.hid H
 have HO:=Lib.hid hown
 have HM0:=Lib.hid HMo
 clear hS H hcb hib c0 a0 a1 b0 b1 i0 i1 i2
 obtain ⟨⟨uk,uc⟩,HLu'⟩:∃ x:Ty,x=(fldV m ⟨ak,ac⟩ ia).getD default:=⟨_,rfl⟩
 obtain ⟨lb,HLb'⟩:∃ x:Bool,x=(fldV m ⟨ak,ac⟩ ia).isSome:=⟨_,rfl⟩
 have HLo:=Lib.hid (show ∀ e w',Ck w' K h m L S O e→Upd K K W w'→Calls Tryz.prog 111 #[.pointer (some ⟨K,0,none⟩),.agg #[.int .i64 ak,.int .i64 ac],.int .i64 ia] w' fun r w''=>r=.returned (.agg #[.int .i64 uk,.int .i64 uc])∧Ck w'' K h m L S O (wantC e lb)∧Upd K K w' w'' from fun e w' hc hu=>by have:=field_any K h m L S O e ia ⟨ak,ac⟩ w' hc (HMo w' hu) ha ht;rw [←HLu',←HLb'] at this;exact this)
 have HLu:=Lib.hid HLu'
 clear HLu'
 have HLb:=Lib.hid HLb'
 clear HLb'
 clear ht
 obtain ⟨ft,HFt'⟩:∃ x:Bool,x=fitG m ⟨bk,bc⟩ ⟨uk,uc⟩:=⟨_,rfl⟩
 have HFi:=Lib.hid (show ∀ e w',Ck w' K h m L S O e→Upd K K W w'→Calls Tryz.prog 85 #[.pointer (some ⟨K,0,none⟩),.agg #[.int .i64 bk,.int .i64 bc],.agg #[.int .i64 uk,.int .i64 uc]] w' fun r w''=>(∃ v,r=.returned v)∧Ck w'' K h m L S O (wantC e (decide (e=0)&&ft))∧Upd K K w' w'' from fun e w' hc hu=>by have:=fit_any K h m L S O e ⟨bk,bc⟩ ⟨uk,uc⟩ w' hc (HMo w' hu);rw [←HFt'] at this;exact this)
 have HFt:=Lib.hid HFt'
 clear HFt'
 clear hown hcl HMo
 have hne:=neqTy
 have heq:=eqlTy
 have hgu:=guardTy
 go_enter Tryz.func112,Tryz.ntmps112
 go_wp2_with fail
 refine rO (fun w':World=>w'.cell? ⟨cb,0,none⟩=some (.pointer (some ⟨K,0,none⟩))∧w'.cell? ⟨g,0,none⟩=some (.int .i64 ak)∧w'.cell? ⟨g,1,none⟩=some (.int .i64 ac)∧w'.cell? ⟨g,2,none⟩=some (.int .i64 bk)∧w'.cell? ⟨g,3,none⟩=some (.int .i64 bc)∧w'.cell? ⟨ib0,0,none⟩=some (.int .i64 op)∧w'.cell? ⟨ib0,1,none⟩=some (.int .i64 ia)∧w'.cell? ⟨ib0,2,none⟩=some (.int .i64 ib)) (.plain 0 (.plain 1 (.plain 2 (.plain 3 (.plain 4 (.plain 5 (.plain 6 (.plain 7 (.plain 8 (.plain 9 (.one 10 (.one 11 .done)))))))))))) (HS.out _ _ HU0.out.drew (Ck.drew HC0.out)) ?_
 have HU1:=Lib.hid HU0.out.drew
 have HC1:=Lib.hid (Ck.drew HC0.out)
 repeat refine pO ?_
 refine oO fun Kv hK=>?_
 go_simp
 refine (HLo.out _ _ HC1.out HU1.out).mono ?_
 rintro r w2 ⟨rfl,hc2,hu2⟩
 have HU2:=Lib.hid (HU1.out.trans hu2)
 have HC2:=Lib.hid hc2
 clear hc2 hu2
 refine hK _ _ ⟨HS.out _ _ HU2.out HC2.out,?_⟩
 clear hK Kv
 repeat refine pO ?_
 refine oO fun Kv hK=>?_
 go_simp
 refine (HFi.out _ _ HC2.out HU2.out).mono ?_
 rintro r w3 ⟨⟨v3,rfl⟩,hc3,hu3⟩
 have HU3:=Lib.hid (HU2.out.trans hu3)
 have HC3:=Lib.hid hc3
 clear hc3 hu3
 refine hK _ _ ⟨HS.out _ _ HU3.out HC3.out,?_⟩
 clear hK Kv
 repeat refine pO ?_
 refine wpMixO_done ?_
 go_wp2
 go_ret
 refine ⟨none,0,[],_,rfl,TyAt.nil _,HC3.out,HU3.out,rfl,?_⟩
 rw [HFt.out,HLb.out,HLu.out]
theorem memory3_any (K:Nat) (h:Hd) (m:Md) (L S O:Value) (a b:Ty) (op ia ib:Int) (to':Option Addr) (tc base cb ib0:Nat) (W:World) (H:Ck W K h m L S O 0) (hcb:Blk W cb #[.pointer (some ⟨K,0,none⟩)] 80) (hown:W.ownsRow base 38 2 (.slice to' 2 tc) 2 (flatR [a,b])) :
  Calls Tryz.prog 113 #[.slice to' 2 tc,.pointer (some ⟨cb,0,none⟩)] W (ClPost W K h m L S O fun out e'=>out=[(elemV a).getD default]∧e'=wantC (wantC 0 (decide (b=tInt))) (elemV a).isSome):=by
 obtain ⟨g,rfl,hgK,hgl,htc,hcl⟩:=own_ty hown H
 obtain ⟨ak,ac⟩:=a
 obtain ⟨bk,bc⟩:=b
 have kl:=Blk.lt H
 have a0:=hcl 0 (.int .i64 ak) rfl
 have a1:=hcl 1 (.int .i64 ac) rfl
 have b0:=hcl 2 (.int .i64 bk) rfl
 have b1:=hcl 3 (.int .i64 bc) rfl
 have c0:=hcb.cell 0 (v:=.pointer (some ⟨K,0,none⟩)) rfl
 have cne:cb≠K:=blk_ne hcb H (by decide)
 have cl:=hcb.lt
 have hS:∀ w' e',Upd K K W w'→Ck w' K h m L S O e'→(fun w':World=>w'.cell? ⟨cb,0,none⟩=some (.pointer (some ⟨K,0,none⟩))∧w'.cell? ⟨g,0,none⟩=some (.int .i64 ak)∧w'.cell? ⟨g,1,none⟩=some (.int .i64 ac)∧w'.cell? ⟨g,2,none⟩=some (.int .i64 bk)∧w'.cell? ⟨g,3,none⟩=some (.int .i64 bc)) w':=fun w' e' hu hc'=>⟨hu.cell c0 cne cne,hu.cell a0 hgK hgK,hu.cell a1 hgK hgK,hu.cell b0 hgK hgK,hu.cell b1 hgK hgK⟩
 have HS:=Lib.hid hS
 have HU0:=Lib.hid (Upd.refl K K W)
 have HC0:=Lib.hid H
 have HO:=Lib.hid hown
 clear hS H hcb c0 a0 a1 b0 b1
 obtain ⟨⟨uk,uc⟩,HLu'⟩:∃ x:Ty,x=(elemV ⟨ak,ac⟩).getD default:=⟨_,rfl⟩
 obtain ⟨lb,HLb'⟩:∃ x:Bool,x=(elemV ⟨ak,ac⟩).isSome:=⟨_,rfl⟩
 have HLo:=Lib.hid (show ∀ e w',Ck w' K h m L S O e→Upd K K W w'→Calls Tryz.prog 114 #[.pointer (some ⟨K,0,none⟩),.agg #[.int .i64 ak,.int .i64 ac]] w' fun r w''=>r=.returned (.agg #[.int .i64 uk,.int .i64 uc])∧Ck w'' K h m L S O (wantC e lb)∧Upd K K w' w'' from fun e w' hc hu=>by have:=element_any K h m L S O e ⟨ak,ac⟩ w' hc;rw [←HLu',←HLb'] at this;exact this)
 have HLu:=Lib.hid HLu'
 clear HLu'
 have HLb:=Lib.hid HLb'
 clear HLb'
 clear hown hcl
 have hne:=neqTy
 have heq:=eqlTy
 have hgu:=guardTy
 go_enter Tryz.func113,Tryz.ntmps113
 go_wp2_with fail
 refine rO (fun w':World=>w'.cell? ⟨cb,0,none⟩=some (.pointer (some ⟨K,0,none⟩))∧w'.cell? ⟨g,0,none⟩=some (.int .i64 ak)∧w'.cell? ⟨g,1,none⟩=some (.int .i64 ac)∧w'.cell? ⟨g,2,none⟩=some (.int .i64 bk)∧w'.cell? ⟨g,3,none⟩=some (.int .i64 bc)) (.plain 0 (.plain 1 (.plain 2 (.plain 3 (.one 4 (.plain 5 (.one 6 .done))))))) (HS.out _ _ HU0.out.drew (Ck.drew HC0.out)) ?_
 have HU1:=Lib.hid HU0.out.drew
 have HC1:=Lib.hid (Ck.drew HC0.out)
 repeat refine pO ?_
 refine oO fun Kv hK=>?_
 go_simp
 refine (number_any _).mono ?_
 rintro r w2 ⟨rfl,hb2⟩
 have HU2:=Lib.hid (HU1.out.bel hb2)
 have HC2:=Lib.hid (HC1.out.old hb2)
 clear hb2
 refine hK _ _ ⟨HS.out _ _ HU2.out HC2.out,?_⟩
 clear hK Kv
 repeat refine pO ?_
 refine oO fun Kv hK=>?_
 go_simp
 refine (want_any K h m L S O _ _ _ HC2.out).mono ?_
 rintro r w3 ⟨⟨v3,rfl⟩,hc3,hu3⟩
 have HU3:=Lib.hid (HU2.out.trans hu3)
 have HC3:=Lib.hid hc3
 clear hc3 hu3
 refine hK _ _ ⟨HS.out _ _ HU3.out HC3.out,?_⟩
 clear hK Kv
 repeat refine pO ?_
 refine wpMixO_done ?_
 go_wp2_with fail
 refine rO (fun w':World=>w'.cell? ⟨cb,0,none⟩=some (.pointer (some ⟨K,0,none⟩))∧w'.cell? ⟨g,0,none⟩=some (.int .i64 ak)∧w'.cell? ⟨g,1,none⟩=some (.int .i64 ac)∧w'.cell? ⟨g,2,none⟩=some (.int .i64 bk)∧w'.cell? ⟨g,3,none⟩=some (.int .i64 bc)) (.plain 0 (.plain 1 (.plain 2 (.plain 3 (.one 4 (.one 5 (.plain 6 .done))))))) (HS.out _ _ HU3.out.drew (Ck.drew HC3.out)) ?_
 have HU4:=Lib.hid HU3.out.drew
 have HC4:=Lib.hid (Ck.drew HC3.out)
 repeat refine pO ?_
 refine oO fun Kv hK=>?_
 go_simp
 refine (HLo.out _ _ HC4.out HU4.out).mono ?_
 rintro r w5 ⟨rfl,hc5,hu5⟩
 have HU5:=Lib.hid (HU4.out.trans hu5)
 have HC5:=Lib.hid hc5
 clear hc5 hu5
 refine hK _ _ ⟨HS.out _ _ HU5.out HC5.out,?_⟩
 clear hK Kv
 repeat refine pO ?_
 refine oO fun Kv hK=>?_
 go_simp
 have HU6:=Lib.hid (HU5.out.alloc (.cells #[.int .i64 uk,.int .i64 uc] 38))
 have HC6:=Lib.hid (Ck.old (w':=w5.alloc (.cells #[.int .i64 uk,.int .i64 uc] 38)) HC5.out bE)
 refine hK _ _ ⟨HS.out _ _ HU6.out HC6.out,?_⟩
 clear hK Kv
 repeat refine pO ?_
 refine wpMixO_done ?_
 go_wp2
 go_ret
 refine ⟨some ⟨w5.heap.size,0,none⟩,1,[_],_,rfl,TyAt.one (t:=⟨uk,uc⟩) (Blk.new w5 _ _),HC6.out,HU6.out,?_,?_⟩
 rw [←HLu.out]
 rw [HLb.out,ty_eq];rfl
theorem memory4_any (K:Nat) (h:Hd) (m:Md) (L S O:Value) (a b d:Ty) (op ia ib:Int) (to':Option Addr) (tc base cb ib0:Nat) (W:World) (H:Ck W K h m L S O 0) (HMo:∀ w',Upd K K W w'→ModAt w' h m) (hcb:Blk W cb #[.pointer (some ⟨K,0,none⟩)] 80) (hown:W.ownsRow base 38 2 (.slice to' 3 tc) 3 (flatR [a,b,d])) :
  Calls Tryz.prog 115 #[.slice to' 3 tc,.pointer (some ⟨cb,0,none⟩)] W (ClPost W K h m L S O fun out e'=>out=[]∧e'=wantC (wantC (wantC 0 (decide (b=tInt))) (elemV a).isSome) (decide (wantC (wantC 0 (decide (b=tInt))) (elemV a).isSome=0)&&fitG m d ((elemV a).getD default))):=by
 obtain ⟨g,rfl,hgK,hgl,htc,hcl⟩:=own_ty hown H
 obtain ⟨ak,ac⟩:=a
 obtain ⟨bk,bc⟩:=b
 obtain ⟨dk,dc⟩:=d
 have kl:=Blk.lt H
 have a0:=hcl 0 (.int .i64 ak) rfl
 have a1:=hcl 1 (.int .i64 ac) rfl
 have b0:=hcl 2 (.int .i64 bk) rfl
 have b1:=hcl 3 (.int .i64 bc) rfl
 have d0:=hcl 4 (.int .i64 dk) rfl
 have d1:=hcl 5 (.int .i64 dc) rfl
 have c0:=hcb.cell 0 (v:=.pointer (some ⟨K,0,none⟩)) rfl
 have cne:cb≠K:=blk_ne hcb H (by decide)
 have cl:=hcb.lt
 have hS:∀ w' e',Upd K K W w'→Ck w' K h m L S O e'→(fun w':World=>w'.cell? ⟨cb,0,none⟩=some (.pointer (some ⟨K,0,none⟩))∧w'.cell? ⟨g,0,none⟩=some (.int .i64 ak)∧w'.cell? ⟨g,1,none⟩=some (.int .i64 ac)∧w'.cell? ⟨g,2,none⟩=some (.int .i64 bk)∧w'.cell? ⟨g,3,none⟩=some (.int .i64 bc)∧w'.cell? ⟨g,4,none⟩=some (.int .i64 dk)∧w'.cell? ⟨g,5,none⟩=some (.int .i64 dc)) w':=fun w' e' hu hc'=>⟨hu.cell c0 cne cne,hu.cell a0 hgK hgK,hu.cell a1 hgK hgK,hu.cell b0 hgK hgK,hu.cell b1 hgK hgK,hu.cell d0 hgK hgK,hu.cell d1 hgK hgK⟩
 have HS:=Lib.hid hS
 have HU0:=Lib.hid (Upd.refl K K W)
 have HC0:=Lib.hid H
 have HO:=Lib.hid hown
 have HM0:=Lib.hid HMo
 clear hS H hcb c0 a0 a1 b0 b1 d0 d1
 obtain ⟨⟨uk,uc⟩,HLu'⟩:∃ x:Ty,x=(elemV ⟨ak,ac⟩).getD default:=⟨_,rfl⟩
 obtain ⟨lb,HLb'⟩:∃ x:Bool,x=(elemV ⟨ak,ac⟩).isSome:=⟨_,rfl⟩
 have HLo:=Lib.hid (show ∀ e w',Ck w' K h m L S O e→Upd K K W w'→Calls Tryz.prog 114 #[.pointer (some ⟨K,0,none⟩),.agg #[.int .i64 ak,.int .i64 ac]] w' fun r w''=>r=.returned (.agg #[.int .i64 uk,.int .i64 uc])∧Ck w'' K h m L S O (wantC e lb)∧Upd K K w' w'' from fun e w' hc hu=>by have:=element_any K h m L S O e ⟨ak,ac⟩ w' hc;rw [←HLu',←HLb'] at this;exact this)
 have HLu:=Lib.hid HLu'
 clear HLu'
 have HLb:=Lib.hid HLb'
 clear HLb'
 obtain ⟨ft,HFt'⟩:∃ x:Bool,x=fitG m ⟨dk,dc⟩ ⟨uk,uc⟩:=⟨_,rfl⟩
 have HFi:=Lib.hid (show ∀ e w',Ck w' K h m L S O e→Upd K K W w'→Calls Tryz.prog 85 #[.pointer (some ⟨K,0,none⟩),.agg #[.int .i64 dk,.int .i64 dc],.agg #[.int .i64 uk,.int .i64 uc]] w' fun r w''=>(∃ v,r=.returned v)∧Ck w'' K h m L S O (wantC e (decide (e=0)&&ft))∧Upd K K w' w'' from fun e w' hc hu=>by have:=fit_any K h m L S O e ⟨dk,dc⟩ ⟨uk,uc⟩ w' hc (HMo w' hu);rw [←HFt'] at this;exact this)
 have HFt:=Lib.hid HFt'
 clear HFt'
 clear hown hcl HMo
 have hne:=neqTy
 have heq:=eqlTy
 have hgu:=guardTy
 go_enter Tryz.func115,Tryz.ntmps115
 go_wp2_with fail
 refine rO (fun w':World=>w'.cell? ⟨cb,0,none⟩=some (.pointer (some ⟨K,0,none⟩))∧w'.cell? ⟨g,0,none⟩=some (.int .i64 ak)∧w'.cell? ⟨g,1,none⟩=some (.int .i64 ac)∧w'.cell? ⟨g,2,none⟩=some (.int .i64 bk)∧w'.cell? ⟨g,3,none⟩=some (.int .i64 bc)∧w'.cell? ⟨g,4,none⟩=some (.int .i64 dk)∧w'.cell? ⟨g,5,none⟩=some (.int .i64 dc)) (.plain 0 (.plain 1 (.plain 2 (.plain 3 (.one 4 (.plain 5 (.one 6 .done))))))) (HS.out _ _ HU0.out.drew (Ck.drew HC0.out)) ?_
 have HU1:=Lib.hid HU0.out.drew
 have HC1:=Lib.hid (Ck.drew HC0.out)
 repeat refine pO ?_
 refine oO fun Kv hK=>?_
 go_simp
 refine (number_any _).mono ?_
 rintro r w2 ⟨rfl,hb2⟩
 have HU2:=Lib.hid (HU1.out.bel hb2)
 have HC2:=Lib.hid (HC1.out.old hb2)
 clear hb2
 refine hK _ _ ⟨HS.out _ _ HU2.out HC2.out,?_⟩
 clear hK Kv
 repeat refine pO ?_
 refine oO fun Kv hK=>?_
 go_simp
 refine (want_any K h m L S O _ _ _ HC2.out).mono ?_
 rintro r w3 ⟨⟨v3,rfl⟩,hc3,hu3⟩
 have HU3:=Lib.hid (HU2.out.trans hu3)
 have HC3:=Lib.hid hc3
 clear hc3 hu3
 refine hK _ _ ⟨HS.out _ _ HU3.out HC3.out,?_⟩
 clear hK Kv
 repeat refine pO ?_
 refine wpMixO_done ?_
 go_wp2_with fail
 refine rO (fun w':World=>w'.cell? ⟨cb,0,none⟩=some (.pointer (some ⟨K,0,none⟩))∧w'.cell? ⟨g,0,none⟩=some (.int .i64 ak)∧w'.cell? ⟨g,1,none⟩=some (.int .i64 ac)∧w'.cell? ⟨g,2,none⟩=some (.int .i64 bk)∧w'.cell? ⟨g,3,none⟩=some (.int .i64 bc)∧w'.cell? ⟨g,4,none⟩=some (.int .i64 dk)∧w'.cell? ⟨g,5,none⟩=some (.int .i64 dc)) (.plain 0 (.plain 1 (.plain 2 (.plain 3 (.plain 4 (.plain 5 (.plain 6 (.plain 7 (.one 8 (.one 9 .done)))))))))) (HS.out _ _ HU3.out.drew (Ck.drew HC3.out)) ?_
 have HU4:=Lib.hid HU3.out.drew
 have HC4:=Lib.hid (Ck.drew HC3.out)
 repeat refine pO ?_
 refine oO fun Kv hK=>?_
 go_simp
 refine (HLo.out _ _ HC4.out HU4.out).mono ?_
 rintro r w5 ⟨rfl,hc5,hu5⟩
 have HU5:=Lib.hid (HU4.out.trans hu5)
 have HC5:=Lib.hid hc5
 clear hc5 hu5
 refine hK _ _ ⟨HS.out _ _ HU5.out HC5.out,?_⟩
 clear hK Kv
 repeat refine pO ?_
 refine oO fun Kv hK=>?_
 go_simp
 refine (HFi.out _ _ HC5.out HU5.out).mono ?_
 rintro r w6 ⟨⟨v6,rfl⟩,hc6,hu6⟩
 have HU6:=Lib.hid (HU5.out.trans hu6)
 have HC6:=Lib.hid hc6
 clear hc6 hu6
 refine hK _ _ ⟨HS.out _ _ HU6.out HC6.out,?_⟩
 clear hK Kv
 repeat refine pO ?_
 refine wpMixO_done ?_
 go_wp2
 go_ret
 refine ⟨none,0,[],_,rfl,TyAt.nil _,HC6.out,HU6.out,rfl,?_⟩
 rw [HFt.out,HLb.out,HLu.out,ty_eq];rfl
theorem memory5_any (K:Nat) (h:Hd) (m:Md) (L S O:Value) (a:Ty) (op ia ib:Int) (to':Option Addr) (tc base cb ib0:Nat) (W:World) (H:Ck W K h m L S O 0) (hcb:Blk W cb #[.pointer (some ⟨K,0,none⟩)] 80) (hown:W.ownsRow base 38 2 (.slice to' 1 tc) 1 (flatR [a])) :
  Calls Tryz.prog 116 #[.slice to' 1 tc,.pointer (some ⟨cb,0,none⟩)] W (ClPost W K h m L S O fun out e'=>out=[tInt]∧e'=wantC 0 (elemV a).isSome):=by
 obtain ⟨g,rfl,hgK,hgl,htc,hcl⟩:=own_ty hown H
 obtain ⟨ak,ac⟩:=a
 have kl:=Blk.lt H
 have a0:=hcl 0 (.int .i64 ak) rfl
 have a1:=hcl 1 (.int .i64 ac) rfl
 have c0:=hcb.cell 0 (v:=.pointer (some ⟨K,0,none⟩)) rfl
 have cne:cb≠K:=blk_ne hcb H (by decide)
 have cl:=hcb.lt
 have hS:∀ w' e',Upd K K W w'→Ck w' K h m L S O e'→(fun w':World=>w'.cell? ⟨cb,0,none⟩=some (.pointer (some ⟨K,0,none⟩))∧w'.cell? ⟨g,0,none⟩=some (.int .i64 ak)∧w'.cell? ⟨g,1,none⟩=some (.int .i64 ac)) w':=fun w' e' hu hc'=>⟨hu.cell c0 cne cne,hu.cell a0 hgK hgK,hu.cell a1 hgK hgK⟩
 have HS:=Lib.hid hS
 have HU0:=Lib.hid (Upd.refl K K W)
 have HC0:=Lib.hid H
 have HO:=Lib.hid hown
 clear hS H hcb c0 a0 a1
 obtain ⟨⟨uk,uc⟩,HLu'⟩:∃ x:Ty,x=(elemV ⟨ak,ac⟩).getD default:=⟨_,rfl⟩
 obtain ⟨lb,HLb'⟩:∃ x:Bool,x=(elemV ⟨ak,ac⟩).isSome:=⟨_,rfl⟩
 have HLo:=Lib.hid (show ∀ e w',Ck w' K h m L S O e→Upd K K W w'→Calls Tryz.prog 114 #[.pointer (some ⟨K,0,none⟩),.agg #[.int .i64 ak,.int .i64 ac]] w' fun r w''=>r=.returned (.agg #[.int .i64 uk,.int .i64 uc])∧Ck w'' K h m L S O (wantC e lb)∧Upd K K w' w'' from fun e w' hc hu=>by have:=element_any K h m L S O e ⟨ak,ac⟩ w' hc;rw [←HLu',←HLb'] at this;exact this)
 have HLu:=Lib.hid HLu'
 clear HLu'
 have HLb:=Lib.hid HLb'
 clear HLb'
 clear hown hcl
 have hne:=neqTy
 have heq:=eqlTy
 have hgu:=guardTy
 go_enter Tryz.func116,Tryz.ntmps116
 go_wp2_with fail
 refine rO (fun w':World=>w'.cell? ⟨cb,0,none⟩=some (.pointer (some ⟨K,0,none⟩))∧w'.cell? ⟨g,0,none⟩=some (.int .i64 ak)∧w'.cell? ⟨g,1,none⟩=some (.int .i64 ac)) (.plain 0 (.plain 1 (.plain 2 (.plain 3 (.one 4 .done))))) (HS.out _ _ HU0.out.drew (Ck.drew HC0.out)) ?_
 have HU1:=Lib.hid HU0.out.drew
 have HC1:=Lib.hid (Ck.drew HC0.out)
 repeat refine pO ?_
 refine oO fun Kv hK=>?_
 go_simp
 refine (HLo.out _ _ HC1.out HU1.out).mono ?_
 rintro r w2 ⟨rfl,hc2,hu2⟩
 have HU2:=Lib.hid (HU1.out.trans hu2)
 have HC2:=Lib.hid hc2
 clear hc2 hu2
 refine hK _ _ ⟨HS.out _ _ HU2.out HC2.out,?_⟩
 clear hK Kv
 repeat refine pO ?_
 refine wpMixO_done ?_
 go_wp2_with (go_at_call 77;refine (number_any _).mono ?_;rintro r w8 ⟨rfl,hb8⟩)
 go_ret
 refine ⟨some ⟨w8.heap.size,0,none⟩,1,[_],_,rfl,TyAt.one (t:=tInt) (Blk.new w8 _ _),Ck.old (HC2.out.old hb8) bE,(HU2.out.bel hb8).alloc _,?_,?_⟩
 rfl
 rw [HLb.out]
theorem opening2_yes (K:Nat) (h:Hd) (m:Md) (L S O:Value) (a:Ty) (op ia ib:Int) (to':Option Addr) (tc base cb ib0:Nat) (W:World) (H:Ck W K h m L S O 0) (hcb:Blk W cb #[.pointer (some ⟨K,0,none⟩)] 80) (hib:Blk W ib0 #[.int .i64 op,.int .i64 ia,.int .i64 ib] 42) (hown:W.ownsRow base 38 2 (.slice to' 1 tc) 1 (flatR [a])) (lo:Option Addr) (lc:Nat) (ls:List Ty) (hL:L=.slice lo ls.length lc) (hT:TyAt W lo lc ls) (ha:0≤ib) (h1:a=tInt) :
  Calls Tryz.prog 78 #[.slice to' 1 tc,.pointer (some ⟨cb,0,none⟩),.pointer (some ⟨ib0,0,none⟩)] W (ClPost W K h m L S O fun out e'=>out=[]∧e'=wantC (wantC 0 (decide (ib<ls.length))) (decide (ls.getD ib.toNat default=tInt))):=by
 obtain ⟨g,rfl,hgK,hgl,htc,hcl⟩:=own_ty hown H
 obtain ⟨ak,ac⟩:=a
 obtain ⟨rfl,rfl⟩:ak=1∧ac=0:=by cases h1;exact ⟨rfl,rfl⟩
 clear h1
 have kl:=Blk.lt H
 have a0:=hcl 0 (.int .i64 1) rfl
 have a1:=hcl 1 (.int .i64 0) rfl
 have c0:=hcb.cell 0 (v:=.pointer (some ⟨K,0,none⟩)) rfl
 have cne:cb≠K:=blk_ne hcb H (by decide)
 have cl:=hcb.lt
 have i0:=hib.cell 0 (v:=.int .i64 op) rfl
 have i1:=hib.cell 1 (v:=.int .i64 ia) rfl
 have i2:=hib.cell 2 (v:=.int .i64 ib) rfl
 have ine:ib0≠K:=blk_ne hib H (by decide)
 have il:=hib.lt
 have HNo:=Lib.hid H.noTy
 have hS:∀ w' e',Upd K K W w'→Ck w' K h m L S O e'→(fun w':World=>w'.cell? ⟨cb,0,none⟩=some (.pointer (some ⟨K,0,none⟩))∧w'.cell? ⟨g,0,none⟩=some (.int .i64 1)∧w'.cell? ⟨g,1,none⟩=some (.int .i64 0)∧w'.cell? ⟨ib0,0,none⟩=some (.int .i64 op)∧w'.cell? ⟨ib0,1,none⟩=some (.int .i64 ia)∧w'.cell? ⟨ib0,2,none⟩=some (.int .i64 ib)) w':=fun w' e' hu hc'=>⟨hu.cell c0 cne cne,hu.cell a0 hgK hgK,hu.cell a1 hgK hgK,hu.cell i0 ine ine,hu.cell i1 ine ine,hu.cell i2 ine ine⟩
 have HS:=Lib.hid hS
 have HU0:=Lib.hid (Upd.refl K K W)
 have HC0:=Lib.hid H
 have HO:=Lib.hid hown
 clear hS H hcb hib c0 a0 a1 i0 i1 i2
 obtain ⟨⟨uk,uc⟩,HLu'⟩:∃ x:Ty,x=ls.getD ib.toNat default:=⟨_,rfl⟩
 obtain ⟨lb,HLb'⟩:∃ x:Bool,x=decide (ib<ls.length):=⟨_,rfl⟩
 have HLo:=Lib.hid (show ∀ e w',Ck w' K h m L S O e→Upd K K W w'→Calls Tryz.prog 79 #[.pointer (some ⟨K,0,none⟩),.int .i64 ib] w' fun r w''=>r=.returned (.agg #[.int .i64 uk,.int .i64 uc])∧Ck w'' K h m L S O (wantC e lb)∧Upd K K w' w'' from fun e w' hc hu=>by have:=local_any K h m S O lo lc ls e ib w' (hL▸hc) (hT.upd hu HNo.out HNo.out).1 ha;rw [←HLu',←HLb',←hL] at this;exact this)
 have HLu:=Lib.hid HLu'
 clear HLu'
 have HLb:=Lib.hid HLb'
 clear HLb'
 clear hT hL
 clear hown hcl
 have hne:=neqTy
 have heq:=eqlTy
 have hgu:=guardTy
 go_enter Tryz.func78,Tryz.ntmps78
 go_wp2_with fail
 refine rO (fun w':World=>w'.cell? ⟨cb,0,none⟩=some (.pointer (some ⟨K,0,none⟩))∧w'.cell? ⟨g,0,none⟩=some (.int .i64 1)∧w'.cell? ⟨g,1,none⟩=some (.int .i64 0)∧w'.cell? ⟨ib0,0,none⟩=some (.int .i64 op)∧w'.cell? ⟨ib0,1,none⟩=some (.int .i64 ia)∧w'.cell? ⟨ib0,2,none⟩=some (.int .i64 ib)) (.plain 0 (.plain 1 (.plain 2 (.plain 3 (.one 4 (.plain 5 (.plain 6 (.plain 7 (.plain 8 (.plain 9 (.one 10 (.one 11 (.plain 12 (.plain 13 (.one 14 .done))))))))))))))) (HS.out _ _ HU0.out.drew (Ck.drew HC0.out)) ?_
 have HU1:=Lib.hid HU0.out.drew
 have HC1:=Lib.hid (Ck.drew HC0.out)
 repeat refine pO ?_
 refine oO fun Kv hK=>?_
 go_simp
 refine (number_any _).mono ?_
 rintro r w2 ⟨rfl,hb2⟩
 have HU2:=Lib.hid (HU1.out.bel hb2)
 have HC2:=Lib.hid (HC1.out.old hb2)
 clear hb2
 refine hK _ _ ⟨HS.out _ _ HU2.out HC2.out,?_⟩
 clear hK Kv
 repeat refine pO ?_
 refine oO fun Kv hK=>?_
 go_simp
 refine (HLo.out _ _ HC2.out HU2.out).mono ?_
 rintro r w3 ⟨rfl,hc3,hu3⟩
 have HU3:=Lib.hid (HU2.out.trans hu3)
 have HC3:=Lib.hid hc3
 clear hc3 hu3
 refine hK _ _ ⟨HS.out _ _ HU3.out HC3.out,?_⟩
 clear hK Kv
 repeat refine pO ?_
 refine oO fun Kv hK=>?_
 go_simp
 refine (number_any _).mono ?_
 rintro r w4 ⟨rfl,hb4⟩
 have HU4:=Lib.hid (HU3.out.bel hb4)
 have HC4:=Lib.hid (HC3.out.old hb4)
 clear hb4
 refine hK _ _ ⟨HS.out _ _ HU4.out HC4.out,?_⟩
 clear hK Kv
 repeat refine pO ?_
 refine oO fun Kv hK=>?_
 go_simp
 refine (want_any K h m L S O _ _ _ HC4.out).mono ?_
 rintro r w5 ⟨⟨v5,rfl⟩,hc5,hu5⟩
 have HU5:=Lib.hid (HU4.out.trans hu5)
 have HC5:=Lib.hid hc5
 clear hc5 hu5
 refine hK _ _ ⟨HS.out _ _ HU5.out HC5.out,?_⟩
 clear hK Kv
 repeat refine pO ?_
 refine wpMixO_done ?_
 go_wp2
 go_ret
 refine ⟨none,0,[],_,rfl,TyAt.nil _,HC5.out,HU5.out,rfl,?_⟩
 rw [HLb.out,←HLu.out,ty_eq];rfl
theorem opening2_no (K:Nat) (h:Hd) (m:Md) (L S O:Value) (a:Ty) (op ia ib:Int) (to':Option Addr) (tc base cb ib0:Nat) (W:World) (H:Ck W K h m L S O 0) (hcb:Blk W cb #[.pointer (some ⟨K,0,none⟩)] 80) (hib:Blk W ib0 #[.int .i64 op,.int .i64 ia,.int .i64 ib] 42) (hown:W.ownsRow base 38 2 (.slice to' 1 tc) 1 (flatR [a])) (h1:a≠tInt) :
  Calls Tryz.prog 78 #[.slice to' 1 tc,.pointer (some ⟨cb,0,none⟩),.pointer (some ⟨ib0,0,none⟩)] W (ClPost W K h m L S O fun out e'=>out=[]∧e'=11):=by
 obtain ⟨g,rfl,hgK,hgl,htc,hcl⟩:=own_ty hown H
 obtain ⟨ak,ac⟩:=a
 have kl:=Blk.lt H
 have a0:=hcl 0 (.int .i64 ak) rfl
 have a1:=hcl 1 (.int .i64 ac) rfl
 have c0:=hcb.cell 0 (v:=.pointer (some ⟨K,0,none⟩)) rfl
 have cne:cb≠K:=blk_ne hcb H (by decide)
 have cl:=hcb.lt
 have i0:=hib.cell 0 (v:=.int .i64 op) rfl
 have i1:=hib.cell 1 (v:=.int .i64 ia) rfl
 have i2:=hib.cell 2 (v:=.int .i64 ib) rfl
 have ine:ib0≠K:=blk_ne hib H (by decide)
 have il:=hib.lt
 have hd:(decide (ak=1)&&decide (ac=0))=false:=by
  cases hh:(decide (ak=1)&&decide (ac=0))
  ·rfl
  ·simp only [Bool.and_eq_true,decide_eq_true_eq] at hh;exact absurd (by rw [hh.1,hh.2];rfl) h1
 clear h1
 have hS:∀ w' e',Upd K K W w'→Ck w' K h m L S O e'→(fun w':World=>w'.cell? ⟨cb,0,none⟩=some (.pointer (some ⟨K,0,none⟩))∧w'.cell? ⟨g,0,none⟩=some (.int .i64 ak)∧w'.cell? ⟨g,1,none⟩=some (.int .i64 ac)∧w'.cell? ⟨ib0,0,none⟩=some (.int .i64 op)∧w'.cell? ⟨ib0,1,none⟩=some (.int .i64 ia)∧w'.cell? ⟨ib0,2,none⟩=some (.int .i64 ib)) w':=fun w' e' hu hc'=>⟨hu.cell c0 cne cne,hu.cell a0 hgK hgK,hu.cell a1 hgK hgK,hu.cell i0 ine ine,hu.cell i1 ine ine,hu.cell i2 ine ine⟩
 have HS:=Lib.hid hS
 have HU0:=Lib.hid (Upd.refl K K W)
 have HC0:=Lib.hid H
 have HO:=Lib.hid hown
 clear hS H hcb hib c0 a0 a1 i0 i1 i2
 clear hown hcl
 have hne:=neqTy
 have heq:=eqlTy
 have hgu:=guardTy
 go_enter Tryz.func78,Tryz.ntmps78
 go_wp2_with fail
 refine rO (fun w':World=>w'.cell? ⟨cb,0,none⟩=some (.pointer (some ⟨K,0,none⟩))∧w'.cell? ⟨g,0,none⟩=some (.int .i64 ak)∧w'.cell? ⟨g,1,none⟩=some (.int .i64 ac)∧w'.cell? ⟨ib0,0,none⟩=some (.int .i64 op)∧w'.cell? ⟨ib0,1,none⟩=some (.int .i64 ia)∧w'.cell? ⟨ib0,2,none⟩=some (.int .i64 ib)) (.plain 0 (.plain 1 (.plain 2 (.plain 3 (.one 4 (.plain 5 (.plain 6 (.plain 7 (.plain 8 (.plain 9 (.one 10 (.one 11 (.plain 12 (.plain 13 (.one 14 .done))))))))))))))) (HS.out _ _ HU0.out.drew (Ck.drew HC0.out)) ?_
 have HU1:=Lib.hid HU0.out.drew
 have HC1:=Lib.hid (Ck.drew HC0.out)
 repeat refine pO ?_
 refine oO fun Kv hK=>?_
 go_simp
 refine (number_any _).mono ?_
 rintro r w2 ⟨rfl,hb2⟩
 have HU2:=Lib.hid (HU1.out.bel hb2)
 have HC2:=Lib.hid (HC1.out.old hb2)
 clear hb2
 refine hK _ _ ⟨HS.out _ _ HU2.out HC2.out,?_⟩
 clear hK Kv
 repeat refine pO ?_
 refine wpMixO_one ?_
 refine wpOp_skipD 15 (by rfl) ?_
 refine ⟨HS.out _ _ HU2.out HC2.out,?_⟩
 simp only [List.setIfInBounds_toArray,List.set_cons_zero,List.set_cons_succ]
 repeat refine pO ?_
 refine wpMixO_one ?_
 refine wpOp_skipD 16 (by rfl) ?_
 refine ⟨HS.out _ _ HU2.out HC2.out,?_⟩
 simp only [List.setIfInBounds_toArray,List.set_cons_zero,List.set_cons_succ]
 repeat refine pO ?_
 refine oO fun Kv hK=>?_
 go_simp
 refine (want_any K h m L S O _ _ _ HC2.out).mono ?_
 rintro r w3 ⟨⟨v3,rfl⟩,hc3,hu3⟩
 have HU3:=Lib.hid (HU2.out.trans hu3)
 have HC3:=Lib.hid hc3
 clear hc3 hu3
 refine hK _ _ ⟨HS.out _ _ HU3.out HC3.out,?_⟩
 clear hK Kv
 repeat refine pO ?_
 refine wpMixO_done ?_
 go_wp2
 go_ret
 refine ⟨none,0,[],_,rfl,TyAt.nil _,HC3.out,HU3.out,rfl,?_⟩
 rfl
end
section
open Go.RowKit
theorem simple3_any (K:Nat) (h:Hd) (m:Md) (L S O:Value) (a:Ty) (to':Option Addr) (tc:Nat) (w W:World) (H:Ck W K h m L S O 0) (hu:Upd K K w W) (hown:W.ownsRow w.heap.size 38 2 (.slice to' 1 tc) 1 (flatR [a])) :
  Calls Tryz.prog 86 #[.slice to' 1 tc] W (ClPost w K h m L S O fun out e'=>out=[a,a]∧e'=0):=by
 obtain ⟨g,rfl,hgK,hgl,htc,hcl⟩:=own_ty hown H
 have hb:=hown.lt g rfl
 obtain ⟨ak,ac⟩:=a
 have a0:=hcl 0 (.int .i64 ak) rfl
 have a1:=hcl 1 (.int .i64 ac) rfl
 have hz:=hu.size
 have HO:=Lib.hid (World.ownsRow.alloc hown (.cells #[.int .i64 ak,.int .i64 ac] 38))
 have HX:=Lib.hid (sla_blkV (n:=1) (size:=2) (Blk.new W #[.int .i64 ak,.int .i64 ac] 38) rfl)
 have HC:=Lib.hid H
 have HU:=Lib.hid hu
 clear H hu hown hcl
 go_enter Tryz.func86,Tryz.ntmps86
 go_wp2_with (at_builtin;refine wpList_wp rfl ?_;refine wp_append_slx (.tmp 3) (.tmp 7) 23 rfl w.heap.size 38 2 16 elTyV _ 1 _ rfl HO.out _ 1 1 [.int .i64 ak,.int .i64 ac] rfl HX.out (by intro u hu;simp only [List.mem_cons,List.not_mem_nil,or_false] at hu;rcases hu with rfl|rfl<;>rfl) (by decide) (by decide) (by simp;omega) ?_;intro ao2 cap2 w4 hown4 hg4;have HO4:=Lib.hid hown4;have HG4:=Lib.hid hg4;clear hown4 hg4)
 go_ret
 have hK:=Blk.lt HC.out
 have hkg:some K≠(Value.slice (some ⟨g,0,none⟩) 1 tc).ownBlock:=fun e=>hgK (Option.some.inj e).symm
 refine ⟨ao2,cap2,[⟨ak,ac⟩,⟨ak,ac⟩],0,rfl,TyAt.own HO4.out,?_,?_,rfl,rfl⟩
 ·unfold Ck Blk
  rw [HG4.out.block K (by simp;omega) hkg]
  exact Ck.old (w':=W.alloc (.cells #[.int .i64 ak,.int .i64 ac] 38)) HC.out bE
 ·have h1:=HU.out.alloc (.cells #[.int .i64 ak,.int .i64 ac] 38)
  refine ⟨HG4.out.os.trans h1.os,HG4.out.tape.trans h1.tape,HG4.out.output.trans h1.output,Nat.le_trans h1.size HG4.out.size,fun k hk hne _=>?_⟩
  rw [HG4.out.block k (Nat.lt_of_lt_of_le hk h1.size) (fun e=>by have:=(Option.some.inj e:k=g);omega)]
  exact h1.block k hk hne hne
theorem memory6_any (K:Nat) (h:Hd) (m:Md) (L S O:Value) (a:Ty) (op ia ib:Int) (to':Option Addr) (tc base cb ib0:Nat) (W:World) (H:Ck W K h m L S O 0) (HMo:∀ w',Upd K K W w'→ModAt w' h m) (hcb:Blk W cb #[.pointer (some ⟨K,0,none⟩)] 80) (hib:Blk W ib0 #[.int .i64 op,.int .i64 ia,.int .i64 ib] 42) (hown:W.ownsRow base 38 2 (.slice to' 1 tc) 1 (flatR [a])) (ha:0≤ia) (hi:ia<m.st.length) :
  Calls Tryz.prog 117 #[.slice to' 1 tc,.pointer (some ⟨cb,0,none⟩),.pointer (some ⟨ib0,0,none⟩)] W (ClPost W K h m L S O fun out e'=>out=[]∧e'=wantC 0 (fitG m a (m.st.getD ia.toNat default))):=by
 obtain ⟨ia,rfl⟩:∃ d:Nat,ia=d:=⟨ia.toNat,by omega⟩
 have hi':ia<m.st.length:=by omega
 rw [Int.toNat_natCast]
 obtain ⟨⟨uk,uc⟩,HLu'⟩:∃ x:Ty,x=m.st.getD ia default:=⟨_,rfl⟩
 rw [←HLu']
 obtain ⟨sa,hso,-,-⟩:=row_ty (HMo W (Upd.refl K K W)).st hi'
 have hst:∀ w',Upd K K W w'→w'.cell? (sa.add (ia*2))=some (.int .i64 uk)∧w'.cell? ⟨(sa.add (ia*2)).block,(sa.add (ia*2)).off+1,none⟩=some (.int .i64 uc):=fun w' hu=>by
  obtain ⟨ad,h1,h2,h3⟩:=row_ty (HMo w' hu).st hi'
  rw [hso] at h1
  cases h1
  rw [←HLu'] at h2 h3
  exact ⟨h2,h3⟩
 have hk1:∀ w' e',Ck w' K h m L S O e'→w'.cell? ⟨K,1,none⟩=some (.slice (some sa) m.st.length h.sc):=fun w' e' hc=>by have:=hc.cells.2.2.1;rwa [hso] at this
 obtain ⟨g,rfl,hgK,hgl,htc,hcl⟩:=own_ty hown H
 obtain ⟨ak,ac⟩:=a
 have kl:=Blk.lt H
 have a0:=hcl 0 (.int .i64 ak) rfl
 have a1:=hcl 1 (.int .i64 ac) rfl
 have c0:=hcb.cell 0 (v:=.pointer (some ⟨K,0,none⟩)) rfl
 have cne:cb≠K:=blk_ne hcb H (by decide)
 have cl:=hcb.lt
 have i0:=hib.cell 0 (v:=.int .i64 op) rfl
 have i1:=hib.cell 1 (v:=.int .i64 ia) rfl
 have i2:=hib.cell 2 (v:=.int .i64 ib) rfl
 have ine:ib0≠K:=blk_ne hib H (by decide)
 have il:=hib.lt
 have hS:∀ w' e',Upd K K W w'→Ck w' K h m L S O e'→(fun w':World=>w'.cell? ⟨cb,0,none⟩=some (.pointer (some ⟨K,0,none⟩))∧w'.cell? ⟨g,0,none⟩=some (.int .i64 ak)∧w'.cell? ⟨g,1,none⟩=some (.int .i64 ac)∧w'.cell? ⟨ib0,0,none⟩=some (.int .i64 op)∧w'.cell? ⟨ib0,1,none⟩=some (.int .i64 ia)∧w'.cell? ⟨ib0,2,none⟩=some (.int .i64 ib)∧w'.cell? ⟨K,1,none⟩=some (.slice (some sa) m.st.length h.sc)∧w'.cell? (sa.add (ia*2))=some (.int .i64 uk)∧w'.cell? ⟨(sa.add (ia*2)).block,(sa.add (ia*2)).off+1,none⟩=some (.int .i64 uc)) w':=fun w' e' hu hc'=>⟨hu.cell c0 cne cne,hu.cell a0 hgK hgK,hu.cell a1 hgK hgK,hu.cell i0 ine ine,hu.cell i1 ine ine,hu.cell i2 ine ine,hk1 _ _ hc',(hst _ hu).1,(hst _ hu).2⟩
 have HS:=Lib.hid hS
 have HU0:=Lib.hid (Upd.refl K K W)
 have HC0:=Lib.hid H
 have HO:=Lib.hid hown
 have HM0:=Lib.hid HMo
 clear hS H hcb hib c0 a0 a1 i0 i1 i2
 obtain ⟨ft,HFt'⟩:∃ x:Bool,x=fitG m ⟨ak,ac⟩ ⟨uk,uc⟩:=⟨_,rfl⟩
 have HFi:=Lib.hid (show ∀ e w',Ck w' K h m L S O e→Upd K K W w'→Calls Tryz.prog 85 #[.pointer (some ⟨K,0,none⟩),.agg #[.int .i64 ak,.int .i64 ac],.agg #[.int .i64 uk,.int .i64 uc]] w' fun r w''=>(∃ v,r=.returned v)∧Ck w'' K h m L S O (wantC e (decide (e=0)&&ft))∧Upd K K w' w'' from fun e w' hc hu=>by have:=fit_any K h m L S O e ⟨ak,ac⟩ ⟨uk,uc⟩ w' hc (HMo w' hu);rw [←HFt'] at this;exact this)
 have HFt:=Lib.hid HFt'
 clear HFt'
 clear hown hcl HMo
 have hne:=neqTy
 have heq:=eqlTy
 have hgu:=guardTy
 have HLu:=Lib.hid HLu'
 clear HLu' hst hk1 hso
 go_enter Tryz.func117,Tryz.ntmps117
 go_wp2_with fail
 refine rO (fun w':World=>w'.cell? ⟨cb,0,none⟩=some (.pointer (some ⟨K,0,none⟩))∧w'.cell? ⟨g,0,none⟩=some (.int .i64 ak)∧w'.cell? ⟨g,1,none⟩=some (.int .i64 ac)∧w'.cell? ⟨ib0,0,none⟩=some (.int .i64 op)∧w'.cell? ⟨ib0,1,none⟩=some (.int .i64 ia)∧w'.cell? ⟨ib0,2,none⟩=some (.int .i64 ib)∧w'.cell? ⟨K,1,none⟩=some (.slice (some sa) m.st.length h.sc)∧w'.cell? (sa.add (ia*2))=some (.int .i64 uk)∧w'.cell? ⟨(sa.add (ia*2)).block,(sa.add (ia*2)).off+1,none⟩=some (.int .i64 uc)) (.plain 0 (.plain 1 (.plain 2 (.plain 3 (.plain 4 (.plain 5 (.plain 6 (.plain 7 (.plain 8 (.plain 9 (.plain 10 (.plain 11 (.plain 12 (.one 13 .done)))))))))))))) (HS.out _ _ HU0.out.drew (Ck.drew HC0.out)) ?_
 have HU1:=Lib.hid HU0.out.drew
 have HC1:=Lib.hid (Ck.drew HC0.out)
 repeat refine pO ?_
 refine oO fun Kv hK=>?_
 go_simp
 refine (HFi.out _ _ HC1.out HU1.out).mono ?_
 rintro r w2 ⟨⟨v2,rfl⟩,hc2,hu2⟩
 have HU2:=Lib.hid (HU1.out.trans hu2)
 have HC2:=Lib.hid hc2
 clear hc2 hu2
 refine hK _ _ ⟨HS.out _ _ HU2.out HC2.out,?_⟩
 clear hK Kv
 repeat refine pO ?_
 refine wpMixO_done ?_
 go_wp2
 go_ret
 refine ⟨none,0,[],_,rfl,TyAt.nil _,HC2.out,HU2.out,rfl,?_⟩
 rw [HFt.out];simp [wantC]
theorem cast_a (K:Nat) (h:Hd) (m:Md) (L S O:Value) (a:Ty) (op ia ib:Int) (to':Option Addr) (tc base cb ib0:Nat) (W:World) (H:Ck W K h m L S O 0) (HMo:∀ w',Upd K K W w'→ModAt w' h m) (hcb:Blk W cb #[.pointer (some ⟨K,0,none⟩)] 80) (hib:Blk W ib0 #[.int .i64 op,.int .i64 ia,.int .i64 ib] 42) (hown:W.ownsRow base 38 2 (.slice to' 1 tc) 1 (flatR [a])) (h1:a.k≠2) :
  Calls Tryz.prog 118 #[.slice to' 1 tc,.pointer (some ⟨ib0,0,none⟩),.pointer (some ⟨cb,0,none⟩)] W (ClPost W K h m L S O fun out e'=>out=[⟨2,ia⟩]∧e'=11):=by
 obtain ⟨g,rfl,hgK,hgl,htc,hcl⟩:=own_ty hown H
 obtain ⟨ak,ac⟩:=a
 have kl:=Blk.lt H
 have a0:=hcl 0 (.int .i64 ak) rfl
 have a1:=hcl 1 (.int .i64 ac) rfl
 have c0:=hcb.cell 0 (v:=.pointer (some ⟨K,0,none⟩)) rfl
 have cne:cb≠K:=blk_ne hcb H (by decide)
 have cl:=hcb.lt
 have i0:=hib.cell 0 (v:=.int .i64 op) rfl
 have i1:=hib.cell 1 (v:=.int .i64 ia) rfl
 have i2:=hib.cell 2 (v:=.int .i64 ib) rfl
 have ine:ib0≠K:=blk_ne hib H (by decide)
 have il:=hib.lt
 have HC0:=Lib.hid H
 have HU0:=Lib.hid (Upd.refl K K W)
 have HM0:=Lib.hid HMo
 clear H
 have hk:(ak == 2)=false:=by simpa using h1
 clear h1
 clear hown hcl HMo
 have hne:=neqTy
 have heq:=eqlTy
 have hgu:=guardTy
 go_enter Tryz.func118,Tryz.ntmps118
 go_wp2_with (go_at_call 51;refine (object_any _ _).mono ?_;rintro r w1 ⟨rfl,hb1⟩)
 have HU1:=Lib.hid ((HU0.out.bel hb1).alloc (.cells #[.int .i64 2,.int .i64 ia] 38))
 have HC1:=Lib.hid (Ck.old (w':=w1.alloc (.cells #[.int .i64 2,.int .i64 ia] 38)) (HC0.out.old hb1) bE)
 have hx:=Blk.new w1 #[.int .i64 2,.int .i64 ia] 38
 have hsz:=HU0.out.bel hb1
 have hsz:=hsz.size
 obtain ⟨W1,hW1⟩:∃ W1,W1=w1.alloc (.cells #[.int .i64 2,.int .i64 ia] 38):=⟨_,rfl⟩
 rw [←hW1] at HU1 HC1 hx ⊢
 have t0:=hx.cell 0 (v:=.int .i64 2) rfl
 have t1:=hx.cell 1 (v:=.int .i64 ia) rfl
 have tne:w1.heap.size≠K:=by omega
 have c0:=HU1.out.cell c0 cne cne
 have a0:=HU1.out.cell a0 hgK hgK
 have a1:=HU1.out.cell a1 hgK hgK
 have i0:=HU1.out.cell i0 ine ine
 have i1:=HU1.out.cell i1 ine ine
 have i2:=HU1.out.cell i2 ine ine
 clear hb1 hW1 hx
 have hS:∀ w' e',Upd K K W1 w'→Ck w' K h m L S O e'→(fun w':World=>w'.cell? ⟨cb,0,none⟩=some (.pointer (some ⟨K,0,none⟩))∧w'.cell? ⟨g,0,none⟩=some (.int .i64 ak)∧w'.cell? ⟨g,1,none⟩=some (.int .i64 ac)∧w'.cell? ⟨ib0,0,none⟩=some (.int .i64 op)∧w'.cell? ⟨ib0,1,none⟩=some (.int .i64 ia)∧w'.cell? ⟨ib0,2,none⟩=some (.int .i64 ib)∧w'.cell? ⟨w1.heap.size,0,none⟩=some (.int .i64 2)∧w'.cell? ⟨w1.heap.size,1,none⟩=some (.int .i64 ia)∧w'.cell? ⟨K,0,none⟩=some (.slice h.co m.cl.length h.cc)∧w'.cell? ⟨K,1,none⟩=some (.slice h.so m.st.length h.sc)∧w'.cell? ⟨K,2,none⟩=some (.slice h.eo m.me.length h.ec)∧w'.cell? ⟨K,3,none⟩=some (.int .i64 m.sel)) w':=fun w' e' hu hc'=>⟨hu.cell c0 cne cne,hu.cell a0 hgK hgK,hu.cell a1 hgK hgK,hu.cell i0 ine ine,hu.cell i1 ine ine,hu.cell i2 ine ine,hu.cell t0 tne tne,hu.cell t1 tne tne,hc'.cells.2.1,hc'.cells.2.2.1,hc'.cells.2.2.2.1,hc'.cells.2.2.2.2.1⟩
 have HS:=Lib.hid hS
 clear hS
 clear c0 a0 a1 i0 i1 i2 t0 t1
 have HV1:=Lib.hid (Upd.refl K K W1)
 go_wp2_with fail
 refine rO (fun w':World=>w'.cell? ⟨cb,0,none⟩=some (.pointer (some ⟨K,0,none⟩))∧w'.cell? ⟨g,0,none⟩=some (.int .i64 ak)∧w'.cell? ⟨g,1,none⟩=some (.int .i64 ac)∧w'.cell? ⟨ib0,0,none⟩=some (.int .i64 op)∧w'.cell? ⟨ib0,1,none⟩=some (.int .i64 ia)∧w'.cell? ⟨ib0,2,none⟩=some (.int .i64 ib)∧w'.cell? ⟨w1.heap.size,0,none⟩=some (.int .i64 2)∧w'.cell? ⟨w1.heap.size,1,none⟩=some (.int .i64 ia)∧w'.cell? ⟨K,0,none⟩=some (.slice h.co m.cl.length h.cc)∧w'.cell? ⟨K,1,none⟩=some (.slice h.so m.st.length h.sc)∧w'.cell? ⟨K,2,none⟩=some (.slice h.eo m.me.length h.ec)∧w'.cell? ⟨K,3,none⟩=some (.int .i64 m.sel)) (.plain 0 (.plain 1 (.plain 2 (.plain 3 (.plain 4 (.plain 5 (.plain 6 (.plain 7 (.plain 8 (.plain 9 (.plain 10 (.plain 11 (.plain 12 (.plain 13 (.plain 14 (.one 15 (.plain 16 (.plain 17 (.plain 18 (.plain 19 (.plain 20 (.plain 21 (.plain 22 (.plain 23 (.plain 24 (.one 25 (.plain 26 (.plain 27 (.one 28 .done))))))))))))))))))))))))))))) (HS.out _ _ HV1.out.drew (Ck.drew HC1.out)) ?_
 have HU2:=Lib.hid HU1.out.drew
 have HV2:=Lib.hid HV1.out.drew
 have HC2:=Lib.hid (Ck.drew HC1.out)
 repeat refine pO ?_
 refine wpMixO_one ?_
 refine wpOp_skipD 24 (by rfl) ?_
 refine ⟨HS.out _ _ HV2.out HC2.out,?_⟩
 simp only [List.setIfInBounds_toArray,List.set_cons_zero,List.set_cons_succ]
 repeat refine pO ?_
 refine wpMixO_one ?_
 refine wpOp_skipD 34 (by rfl) ?_
 refine ⟨HS.out _ _ HV2.out HC2.out,?_⟩
 simp only [List.setIfInBounds_toArray,List.set_cons_zero,List.set_cons_succ]
 repeat refine pO ?_
 refine oO fun Kv hK=>?_
 go_simp
 refine (want_any K h m L S O _ _ _ HC2.out).mono ?_
 rintro r w3 ⟨⟨v3,rfl⟩,hc3,hu3⟩
 have HU3:=Lib.hid (HU2.out.trans hu3)
 have HV3:=Lib.hid (HV2.out.trans hu3)
 have HC3:=Lib.hid hc3
 clear hc3 hu3
 refine hK _ _ ⟨HS.out _ _ HV3.out HC3.out,?_⟩
 clear hK Kv
 repeat refine pO ?_
 refine wpMixO_done ?_
 have u0:=(HS.out _ _ HV3.out HC3.out)
 obtain ⟨-,-,-,-,-,-,v0,v1,-⟩:=u0
 go_wp2
 go_ret
 refine ⟨some ⟨w3.heap.size,0,none⟩,1,[_],_,rfl,TyAt.one (t:=⟨2,ia⟩) (Blk.new w3 _ _),Ck.old HC3.out bE,HU3.out.alloc _,rfl,?_⟩
 rfl
theorem cast_b (K:Nat) (h:Hd) (m:Md) (L S O:Value) (a:Ty) (op ia ib:Int) (to':Option Addr) (tc base cb ib0:Nat) (W:World) (H:Ck W K h m L S O 0) (HMo:∀ w',Upd K K W w'→ModAt w' h m) (hcb:Blk W cb #[.pointer (some ⟨K,0,none⟩)] 80) (hib:Blk W ib0 #[.int .i64 op,.int .i64 ia,.int .i64 ib] 42) (hown:W.ownsRow base 38 2 (.slice to' 1 tc) 1 (flatR [a])) (h1:a.k=2) (hf1:fitG m a ⟨2,ia⟩=true) :
  Calls Tryz.prog 118 #[.slice to' 1 tc,.pointer (some ⟨ib0,0,none⟩),.pointer (some ⟨cb,0,none⟩)] W (ClPost W K h m L S O fun out e'=>out=[⟨2,ia⟩]∧e'=0):=by
 obtain ⟨g,rfl,hgK,hgl,htc,hcl⟩:=own_ty hown H
 obtain ⟨ak,ac⟩:=a
 obtain rfl:ak=2:=h1
 have kl:=Blk.lt H
 have a0:=hcl 0 (.int .i64 2) rfl
 have a1:=hcl 1 (.int .i64 ac) rfl
 have c0:=hcb.cell 0 (v:=.pointer (some ⟨K,0,none⟩)) rfl
 have cne:cb≠K:=blk_ne hcb H (by decide)
 have cl:=hcb.lt
 have i0:=hib.cell 0 (v:=.int .i64 op) rfl
 have i1:=hib.cell 1 (v:=.int .i64 ia) rfl
 have i2:=hib.cell 2 (v:=.int .i64 ib) rfl
 have ine:ib0≠K:=blk_ne hib H (by decide)
 have il:=hib.lt
 have HC0:=Lib.hid H
 have HU0:=Lib.hid (Upd.refl K K W)
 have HM0:=Lib.hid HMo
 clear H
 have HF1:=Lib.hid (show ∀ w',Upd K K W w'→Calls Tryz.prog 45 #[.agg #[.slice h.co m.cl.length h.cc,.slice h.so m.st.length h.sc,.slice h.eo m.me.length h.ec,.int .i64 m.sel],.agg #[.int .i64 2,.int .i64 ac],.agg #[.int .i64 2,.int .i64 ia]] w' (Ret w' (.bool true)) from fun w' hu=>by have:=fits_any m h ⟨2,ac⟩ ⟨2,ia⟩ w' (HMo w' hu);rw [hf1] at this;exact this)
 clear hf1
 clear hown hcl HMo
 have hne:=neqTy
 have heq:=eqlTy
 have hgu:=guardTy
 go_enter Tryz.func118,Tryz.ntmps118
 go_wp2_with (go_at_call 51;refine (object_any _ _).mono ?_;rintro r w1 ⟨rfl,hb1⟩)
 have HU1:=Lib.hid ((HU0.out.bel hb1).alloc (.cells #[.int .i64 2,.int .i64 ia] 38))
 have HC1:=Lib.hid (Ck.old (w':=w1.alloc (.cells #[.int .i64 2,.int .i64 ia] 38)) (HC0.out.old hb1) bE)
 have hx:=Blk.new w1 #[.int .i64 2,.int .i64 ia] 38
 have hsz:=HU0.out.bel hb1
 have hsz:=hsz.size
 obtain ⟨W1,hW1⟩:∃ W1,W1=w1.alloc (.cells #[.int .i64 2,.int .i64 ia] 38):=⟨_,rfl⟩
 rw [←hW1] at HU1 HC1 hx ⊢
 have t0:=hx.cell 0 (v:=.int .i64 2) rfl
 have t1:=hx.cell 1 (v:=.int .i64 ia) rfl
 have tne:w1.heap.size≠K:=by omega
 have c0:=HU1.out.cell c0 cne cne
 have a0:=HU1.out.cell a0 hgK hgK
 have a1:=HU1.out.cell a1 hgK hgK
 have i0:=HU1.out.cell i0 ine ine
 have i1:=HU1.out.cell i1 ine ine
 have i2:=HU1.out.cell i2 ine ine
 clear hb1 hW1 hx
 have hS:∀ w' e',Upd K K W1 w'→Ck w' K h m L S O e'→(fun w':World=>w'.cell? ⟨cb,0,none⟩=some (.pointer (some ⟨K,0,none⟩))∧w'.cell? ⟨g,0,none⟩=some (.int .i64 2)∧w'.cell? ⟨g,1,none⟩=some (.int .i64 ac)∧w'.cell? ⟨ib0,0,none⟩=some (.int .i64 op)∧w'.cell? ⟨ib0,1,none⟩=some (.int .i64 ia)∧w'.cell? ⟨ib0,2,none⟩=some (.int .i64 ib)∧w'.cell? ⟨w1.heap.size,0,none⟩=some (.int .i64 2)∧w'.cell? ⟨w1.heap.size,1,none⟩=some (.int .i64 ia)∧w'.cell? ⟨K,0,none⟩=some (.slice h.co m.cl.length h.cc)∧w'.cell? ⟨K,1,none⟩=some (.slice h.so m.st.length h.sc)∧w'.cell? ⟨K,2,none⟩=some (.slice h.eo m.me.length h.ec)∧w'.cell? ⟨K,3,none⟩=some (.int .i64 m.sel)) w':=fun w' e' hu hc'=>⟨hu.cell c0 cne cne,hu.cell a0 hgK hgK,hu.cell a1 hgK hgK,hu.cell i0 ine ine,hu.cell i1 ine ine,hu.cell i2 ine ine,hu.cell t0 tne tne,hu.cell t1 tne tne,hc'.cells.2.1,hc'.cells.2.2.1,hc'.cells.2.2.2.1,hc'.cells.2.2.2.2.1⟩
 have HS:=Lib.hid hS
 clear hS
 clear c0 a0 a1 i0 i1 i2 t0 t1
 have HV1:=Lib.hid (Upd.refl K K W1)
 go_wp2_with fail
 refine rO (fun w':World=>w'.cell? ⟨cb,0,none⟩=some (.pointer (some ⟨K,0,none⟩))∧w'.cell? ⟨g,0,none⟩=some (.int .i64 2)∧w'.cell? ⟨g,1,none⟩=some (.int .i64 ac)∧w'.cell? ⟨ib0,0,none⟩=some (.int .i64 op)∧w'.cell? ⟨ib0,1,none⟩=some (.int .i64 ia)∧w'.cell? ⟨ib0,2,none⟩=some (.int .i64 ib)∧w'.cell? ⟨w1.heap.size,0,none⟩=some (.int .i64 2)∧w'.cell? ⟨w1.heap.size,1,none⟩=some (.int .i64 ia)∧w'.cell? ⟨K,0,none⟩=some (.slice h.co m.cl.length h.cc)∧w'.cell? ⟨K,1,none⟩=some (.slice h.so m.st.length h.sc)∧w'.cell? ⟨K,2,none⟩=some (.slice h.eo m.me.length h.ec)∧w'.cell? ⟨K,3,none⟩=some (.int .i64 m.sel)) (.plain 0 (.plain 1 (.plain 2 (.plain 3 (.plain 4 (.plain 5 (.plain 6 (.plain 7 (.plain 8 (.plain 9 (.plain 10 (.plain 11 (.plain 12 (.plain 13 (.plain 14 (.one 15 (.plain 16 (.plain 17 (.plain 18 (.plain 19 (.plain 20 (.plain 21 (.plain 22 (.plain 23 (.plain 24 (.one 25 (.plain 26 (.plain 27 (.one 28 .done))))))))))))))))))))))))))))) (HS.out _ _ HV1.out.drew (Ck.drew HC1.out)) ?_
 have HU2:=Lib.hid HU1.out.drew
 have HV2:=Lib.hid HV1.out.drew
 have HC2:=Lib.hid (Ck.drew HC1.out)
 repeat refine pO ?_
 refine oO fun Kv hK=>?_
 go_simp
 refine (HF1.out _ HU2.out).mono ?_
 rintro r w3 ⟨rfl,hb3⟩
 have HU3:=Lib.hid (HU2.out.bel hb3)
 have HV3:=Lib.hid (HV2.out.bel hb3)
 have HC3:=Lib.hid (HC2.out.old hb3)
 clear hb3
 refine hK _ _ ⟨HS.out _ _ HV3.out HC3.out,?_⟩
 clear hK Kv
 repeat refine pO ?_
 refine wpMixO_one ?_
 refine wpOp_skipD 34 (by rfl) ?_
 refine ⟨HS.out _ _ HV3.out HC3.out,?_⟩
 simp only [List.setIfInBounds_toArray,List.set_cons_zero,List.set_cons_succ]
 repeat refine pO ?_
 refine oO fun Kv hK=>?_
 go_simp
 refine (want_any K h m L S O _ _ _ HC3.out).mono ?_
 rintro r w4 ⟨⟨v4,rfl⟩,hc4,hu4⟩
 have HU4:=Lib.hid (HU3.out.trans hu4)
 have HV4:=Lib.hid (HV3.out.trans hu4)
 have HC4:=Lib.hid hc4
 clear hc4 hu4
 refine hK _ _ ⟨HS.out _ _ HV4.out HC4.out,?_⟩
 clear hK Kv
 repeat refine pO ?_
 refine wpMixO_done ?_
 have u0:=(HS.out _ _ HV4.out HC4.out)
 obtain ⟨-,-,-,-,-,-,v0,v1,-⟩:=u0
 go_wp2
 go_ret
 refine ⟨some ⟨w4.heap.size,0,none⟩,1,[_],_,rfl,TyAt.one (t:=⟨2,ia⟩) (Blk.new w4 _ _),Ck.old HC4.out bE,HU4.out.alloc _,rfl,?_⟩
 rfl
theorem cast_c (K:Nat) (h:Hd) (m:Md) (L S O:Value) (a:Ty) (op ia ib:Int) (to':Option Addr) (tc base cb ib0:Nat) (W:World) (H:Ck W K h m L S O 0) (HMo:∀ w',Upd K K W w'→ModAt w' h m) (hcb:Blk W cb #[.pointer (some ⟨K,0,none⟩)] 80) (hib:Blk W ib0 #[.int .i64 op,.int .i64 ia,.int .i64 ib] 42) (hown:W.ownsRow base 38 2 (.slice to' 1 tc) 1 (flatR [a])) (h1:a.k=2) (hf1:fitG m a ⟨2,ia⟩=false) :
  Calls Tryz.prog 118 #[.slice to' 1 tc,.pointer (some ⟨ib0,0,none⟩),.pointer (some ⟨cb,0,none⟩)] W (ClPost W K h m L S O fun out e'=>out=[⟨2,ia⟩]∧e'=wantC 0 (fitG m ⟨2,ia⟩ a)):=by
 obtain ⟨g,rfl,hgK,hgl,htc,hcl⟩:=own_ty hown H
 obtain ⟨ak,ac⟩:=a
 obtain rfl:ak=2:=h1
 have kl:=Blk.lt H
 have a0:=hcl 0 (.int .i64 2) rfl
 have a1:=hcl 1 (.int .i64 ac) rfl
 have c0:=hcb.cell 0 (v:=.pointer (some ⟨K,0,none⟩)) rfl
 have cne:cb≠K:=blk_ne hcb H (by decide)
 have cl:=hcb.lt
 have i0:=hib.cell 0 (v:=.int .i64 op) rfl
 have i1:=hib.cell 1 (v:=.int .i64 ia) rfl
 have i2:=hib.cell 2 (v:=.int .i64 ib) rfl
 have ine:ib0≠K:=blk_ne hib H (by decide)
 have il:=hib.lt
 have HC0:=Lib.hid H
 have HU0:=Lib.hid (Upd.refl K K W)
 have HM0:=Lib.hid HMo
 clear H
 have HF1:=Lib.hid (show ∀ w',Upd K K W w'→Calls Tryz.prog 45 #[.agg #[.slice h.co m.cl.length h.cc,.slice h.so m.st.length h.sc,.slice h.eo m.me.length h.ec,.int .i64 m.sel],.agg #[.int .i64 2,.int .i64 ac],.agg #[.int .i64 2,.int .i64 ia]] w' (Ret w' (.bool false)) from fun w' hu=>by have:=fits_any m h ⟨2,ac⟩ ⟨2,ia⟩ w' (HMo w' hu);rw [hf1] at this;exact this)
 clear hf1
 obtain ⟨f2,HF2'⟩:∃ x:Bool,x=fitG m ⟨2,ia⟩ ⟨2,ac⟩:=⟨_,rfl⟩
 have HF3:=Lib.hid (show ∀ w',Upd K K W w'→Calls Tryz.prog 45 #[.agg #[.slice h.co m.cl.length h.cc,.slice h.so m.st.length h.sc,.slice h.eo m.me.length h.ec,.int .i64 m.sel],.agg #[.int .i64 2,.int .i64 ia],.agg #[.int .i64 2,.int .i64 ac]] w' (Ret w' (.bool f2)) from fun w' hu=>by have:=fits_any m h ⟨2,ia⟩ ⟨2,ac⟩ w' (HMo w' hu);rw [←HF2'] at this;exact this)
 have HF2:=Lib.hid HF2'
 clear HF2'
 clear hown hcl HMo
 have hne:=neqTy
 have heq:=eqlTy
 have hgu:=guardTy
 go_enter Tryz.func118,Tryz.ntmps118
 go_wp2_with (go_at_call 51;refine (object_any _ _).mono ?_;rintro r w1 ⟨rfl,hb1⟩)
 have HU1:=Lib.hid ((HU0.out.bel hb1).alloc (.cells #[.int .i64 2,.int .i64 ia] 38))
 have HC1:=Lib.hid (Ck.old (w':=w1.alloc (.cells #[.int .i64 2,.int .i64 ia] 38)) (HC0.out.old hb1) bE)
 have hx:=Blk.new w1 #[.int .i64 2,.int .i64 ia] 38
 have hsz:=HU0.out.bel hb1
 have hsz:=hsz.size
 obtain ⟨W1,hW1⟩:∃ W1,W1=w1.alloc (.cells #[.int .i64 2,.int .i64 ia] 38):=⟨_,rfl⟩
 rw [←hW1] at HU1 HC1 hx ⊢
 have t0:=hx.cell 0 (v:=.int .i64 2) rfl
 have t1:=hx.cell 1 (v:=.int .i64 ia) rfl
 have tne:w1.heap.size≠K:=by omega
 have c0:=HU1.out.cell c0 cne cne
 have a0:=HU1.out.cell a0 hgK hgK
 have a1:=HU1.out.cell a1 hgK hgK
 have i0:=HU1.out.cell i0 ine ine
 have i1:=HU1.out.cell i1 ine ine
 have i2:=HU1.out.cell i2 ine ine
 clear hb1 hW1 hx
 have hS:∀ w' e',Upd K K W1 w'→Ck w' K h m L S O e'→(fun w':World=>w'.cell? ⟨cb,0,none⟩=some (.pointer (some ⟨K,0,none⟩))∧w'.cell? ⟨g,0,none⟩=some (.int .i64 2)∧w'.cell? ⟨g,1,none⟩=some (.int .i64 ac)∧w'.cell? ⟨ib0,0,none⟩=some (.int .i64 op)∧w'.cell? ⟨ib0,1,none⟩=some (.int .i64 ia)∧w'.cell? ⟨ib0,2,none⟩=some (.int .i64 ib)∧w'.cell? ⟨w1.heap.size,0,none⟩=some (.int .i64 2)∧w'.cell? ⟨w1.heap.size,1,none⟩=some (.int .i64 ia)∧w'.cell? ⟨K,0,none⟩=some (.slice h.co m.cl.length h.cc)∧w'.cell? ⟨K,1,none⟩=some (.slice h.so m.st.length h.sc)∧w'.cell? ⟨K,2,none⟩=some (.slice h.eo m.me.length h.ec)∧w'.cell? ⟨K,3,none⟩=some (.int .i64 m.sel)) w':=fun w' e' hu hc'=>⟨hu.cell c0 cne cne,hu.cell a0 hgK hgK,hu.cell a1 hgK hgK,hu.cell i0 ine ine,hu.cell i1 ine ine,hu.cell i2 ine ine,hu.cell t0 tne tne,hu.cell t1 tne tne,hc'.cells.2.1,hc'.cells.2.2.1,hc'.cells.2.2.2.1,hc'.cells.2.2.2.2.1⟩
 have HS:=Lib.hid hS
 clear hS
 clear c0 a0 a1 i0 i1 i2 t0 t1
 have HV1:=Lib.hid (Upd.refl K K W1)
 go_wp2_with fail
 refine rO (fun w':World=>w'.cell? ⟨cb,0,none⟩=some (.pointer (some ⟨K,0,none⟩))∧w'.cell? ⟨g,0,none⟩=some (.int .i64 2)∧w'.cell? ⟨g,1,none⟩=some (.int .i64 ac)∧w'.cell? ⟨ib0,0,none⟩=some (.int .i64 op)∧w'.cell? ⟨ib0,1,none⟩=some (.int .i64 ia)∧w'.cell? ⟨ib0,2,none⟩=some (.int .i64 ib)∧w'.cell? ⟨w1.heap.size,0,none⟩=some (.int .i64 2)∧w'.cell? ⟨w1.heap.size,1,none⟩=some (.int .i64 ia)∧w'.cell? ⟨K,0,none⟩=some (.slice h.co m.cl.length h.cc)∧w'.cell? ⟨K,1,none⟩=some (.slice h.so m.st.length h.sc)∧w'.cell? ⟨K,2,none⟩=some (.slice h.eo m.me.length h.ec)∧w'.cell? ⟨K,3,none⟩=some (.int .i64 m.sel)) (.plain 0 (.plain 1 (.plain 2 (.plain 3 (.plain 4 (.plain 5 (.plain 6 (.plain 7 (.plain 8 (.plain 9 (.plain 10 (.plain 11 (.plain 12 (.plain 13 (.plain 14 (.one 15 (.plain 16 (.plain 17 (.plain 18 (.plain 19 (.plain 20 (.plain 21 (.plain 22 (.plain 23 (.plain 24 (.one 25 (.plain 26 (.plain 27 (.one 28 .done))))))))))))))))))))))))))))) (HS.out _ _ HV1.out.drew (Ck.drew HC1.out)) ?_
 have HU2:=Lib.hid HU1.out.drew
 have HV2:=Lib.hid HV1.out.drew
 have HC2:=Lib.hid (Ck.drew HC1.out)
 repeat refine pO ?_
 refine oO fun Kv hK=>?_
 go_simp
 refine (HF1.out _ HU2.out).mono ?_
 rintro r w3 ⟨rfl,hb3⟩
 have HU3:=Lib.hid (HU2.out.bel hb3)
 have HV3:=Lib.hid (HV2.out.bel hb3)
 have HC3:=Lib.hid (HC2.out.old hb3)
 clear hb3
 refine hK _ _ ⟨HS.out _ _ HV3.out HC3.out,?_⟩
 clear hK Kv
 repeat refine pO ?_
 refine oO fun Kv hK=>?_
 go_simp
 refine (HF3.out _ HU3.out).mono ?_
 rintro r w4 ⟨rfl,hb4⟩
 have HU4:=Lib.hid (HU3.out.bel hb4)
 have HV4:=Lib.hid (HV3.out.bel hb4)
 have HC4:=Lib.hid (HC3.out.old hb4)
 clear hb4
 refine hK _ _ ⟨HS.out _ _ HV4.out HC4.out,?_⟩
 clear hK Kv
 repeat refine pO ?_
 refine oO fun Kv hK=>?_
 go_simp
 refine (want_any K h m L S O _ _ _ HC4.out).mono ?_
 rintro r w5 ⟨⟨v5,rfl⟩,hc5,hu5⟩
 have HU5:=Lib.hid (HU4.out.trans hu5)
 have HV5:=Lib.hid (HV4.out.trans hu5)
 have HC5:=Lib.hid hc5
 clear hc5 hu5
 refine hK _ _ ⟨HS.out _ _ HV5.out HC5.out,?_⟩
 clear hK Kv
 repeat refine pO ?_
 refine wpMixO_done ?_
 have u0:=(HS.out _ _ HV5.out HC5.out)
 obtain ⟨-,-,-,-,-,-,v0,v1,-⟩:=u0
 go_wp2
 go_ret
 refine ⟨some ⟨w5.heap.size,0,none⟩,1,[_],_,rfl,TyAt.one (t:=⟨2,ia⟩) (Blk.new w5 _ _),Ck.old HC5.out bE,HU5.out.alloc _,rfl,?_⟩
 rw [HF2.out]
end
section
open Go.RowKit
/-- the error behind k parameters -/
def errF (m:Md) (l ps:List Ty) (more:Nat) (e0:Int):Nat→Int
 | 0=>e0
 | k+1=>wantC (errF m l ps more e0 k) (decide (errF m l ps more e0 k=0)&&fitG m (l.getD (more+k) default) (ps.getD k default))
theorem errF_val (m:Md) (l ps:List Ty) (more:Nat) (e0:Int) (h:e0=0∨e0=11):∀ k,errF m l ps more e0 k=if e0=0∧(List.range k).all (fun j=>fitG m (l.getD (more+j) default) (ps.getD j default))=true then 0 else 11
 | 0=>by rcases h with h|h<;>simp [errF,h]
 | k+1=>by
  unfold errF
  rw [errF_val m l ps more e0 h k,List.range_succ,List.all_append]
  by_cases h1:e0=0∧(List.range k).all (fun j=>fitG m (l.getD (more+j) default) (ps.getD j default))=true
  ·rw [if_pos h1]
   cases hq:fitG m (l.getD (more+k) default) (ps.getD k default)
   ·rw [if_neg (fun h2=>by have:=h2.2;simp only [List.all_cons,List.all_nil,hq,Bool.false_and,Bool.and_false,Bool.false_eq_true] at this)];rfl
   ·rw [if_pos ⟨h1.1,by simp only [List.all_cons,List.all_nil,hq,h1.2];rfl⟩];rfl
  ·rw [if_neg h1,if_neg (fun h2=>h1 ⟨h2.1,by have:=h2.2;simp only [Bool.and_eq_true] at this;exact this.1⟩)];rfl
theorem call1_none (K:Nat) (h:Hd) (m:Md) (L S O:Value) (l ps:List Ty) (po:Option Addr) (pc:Nat) (ma:Addr) (sel:Int) (more:Nat) (ro:Option Addr) (rc:Nat) (rl:List Ty) (sb cb mb vb ob:Nat) (to':Option Addr) (tc base:Nat) (W:World) (H:Ck W K h m L S O 0) (HMo:∀ w',Upd K K W w'→ModAt w' h m)
  (hsb:Blk W sb #[.int .i64 sel] 3) (hcb:Blk W cb #[.pointer (some ⟨K,0,none⟩)] 80) (hmb:Blk W mb #[.pointer (some ma)] 77) (hvb:Blk W vb #[.int .i64 more] 3) (hob:Blk W ob #[.slice ro rl.length rc] 23) (hrl:TyAt W ro rc rl)
  (hma:∀ w',Upd K K W w'→w'.cell? ⟨ma.block,ma.off+2,none⟩=some (.slice po ps.length pc)∧RowAt w' po pc ps) (hown:W.ownsRow base 38 2 (.slice to' l.length tc) l.length (flatR l)) (hlen:l.length=more+ps.length) (hps:ps.length≤1000) (hmo:more≤1) (hsel:sel<0) :
  Calls Tryz.prog 140 #[.slice to' l.length tc,.pointer (some ⟨sb,0,none⟩),.pointer (some ⟨cb,0,none⟩),.pointer (some ⟨mb,0,none⟩),.pointer (some ⟨vb,0,none⟩),.pointer (some ⟨ob,0,none⟩)] W (ClPost W K h m L S O fun out e'=>out=rl∧e'=errF m l ps more (0) ps.length):=by
 obtain ⟨e0,HE0'⟩:∃ x:Int,x=0:=⟨_,rfl⟩
 rw [←HE0']
 have HE0:=Lib.hid HE0'
 clear HE0'
 have HLen:=Lib.hid hlen
 clear hlen
 have kl:=Blk.lt H
 have sne:sb≠K:=blk_ne hsb H (by decide)
 have cne:cb≠K:=blk_ne hcb H (by decide)
 have mne:mb≠K:=blk_ne hmb H (by decide)
 have vne:vb≠K:=blk_ne hvb H (by decide)
 have one:ob≠K:=blk_ne hob H (by decide)
 have HT:=Lib.hid (TyAt.own hown)
 have HNo:=Lib.hid H.noTy
 have HR:=Lib.hid hrl
 have HMa:=Lib.hid hma
 have HMo':=Lib.hid HMo
 have HB:=Lib.hid (And.intro hsb (And.intro hcb (And.intro hmb (And.intro hvb hob))))
 have HU0:=Lib.hid (Upd.refl K K W)
 have HC0:=Lib.hid H
 have hne:∀ a,to'=some a→a.block≠K:=fun a ha q=>by
  obtain ⟨xs,z,hx⟩:=HT.out.2.2 a ha
  exact HNo.out.2 xs z (q▸hx)
 have HNe:=Lib.hid hne
 clear hrl hma HMo hne H
 have s0:=hsb.cell 0 (v:=.int .i64 sel) rfl
 have HU1:=HU0
 have HC1:=Lib.hid (show Ck W K h m L S O e0 from by rw [HE0.out];exact HC0.out)
 have m00:=hmb.cell 0 (v:=.pointer (some ma)) rfl
 have mp0:=(HMa.out _ HU0.out).1
 have HX:=Lib.hid mp0
 clear mp0 m00
 go_enter Tryz.func140,Tryz.ntmps140
 go_upto_region 3 with fail
 have mb0:=(Blk.upd HB.out.2.2.1 HU1.out mne mne).cell 0 (v:=.pointer (some ma)) rfl
 have mp:=(HMa.out _ HU1.out).1
 clear hsb hcb hmb hvb hob hown
 go_wp2_with fail
 go_loopw [42] (fun i wr=>∃ k:Nat,k≤ps.length∧i=.int .i64 k∧Hid (Upd K K W wr)∧Hid (Ck wr K h m L S O (errF m l ps more e0 k))) (fun i _=>ps.length-(intOf i).toNat)
 case atStart=>exact ⟨0,by omega,rfl,HU1,HC1⟩
 case round=>
  obtain ⟨k,hk,rfl,HU2,HC2⟩:=hrel
  by_cases hkl:k<ps.length
  ·obtain ⟨pa,hpo,p0,p1⟩:=row_ty (HMa.out _ HU2.out).2 hkl
   obtain ⟨ta,hto,t0,t1⟩:=row_ty (HT.out.upd HU2.out HNo.out HNo.out).1 (i:=more+k) (by have:=HLen.out;omega)
   have tne:=HNe.out _ hto
   cases hto
   cases hpo
   have hkl2:(k:Int) < ps.length:=by omega
   have hml2:((more+k:Nat):Int) < l.length:=by have:=HLen.out;omega
   have hwr:IntKind.i64.wrap ((k:Int)+1)=k+1:=IntWalk.i64_in _ (by omega)
   have hwm:IntKind.i64.wrap ((more:Int)+k)=((more+k:Nat):Int):=by rw [show (more:Int)+k=((more+k:Nat):Int) by omega];exact IntWalk.i64_in _ (by omega)
   have pl:=cell_lt p0
   have tl:=cell_lt t0
   have v0:=(Blk.upd HB.out.2.2.2.1 HU2.out vne vne).cell 0 (v:=.int .i64 more) rfl
   have c0:=(Blk.upd HB.out.2.1 HU2.out cne cne).cell 0 (v:=.pointer (some ⟨K,0,none⟩)) rfl
   have vl:=cell_lt v0
   have cl:=cell_lt c0
   have kl2:=Blk.lt HC2.out
   have hwn:IntKind.i64.wrap (((more+k:Nat):Int))=((more+k:Nat):Int):=IntWalk.i64_in _ (by omega)
   have hsum:(more:Int)+(k:Int)=((more+k:Nat):Int):=by omega
   generalize hn:more+k=n at t0 t1 hwm hml2 tl hsum hwn
   have tadd:(ta.add (n*2)).block=ta.block:=by unfold Addr.add;split<;>rfl
   have padd:(pa.add (k*2)).block=pa.block:=by unfold Addr.add;split<;>rfl
   obtain ⟨⟨pk,pq⟩,hp⟩:∃ x,x=ps.getD k default:=⟨_,rfl⟩
   obtain ⟨⟨tk,tq⟩,ht⟩:∃ x,x=l.getD n default:=⟨_,rfl⟩
   rw [←hp] at p0 p1
   rw [←ht] at t0 t1
   dsimp only at p0 p1 t0 t1
   obtain ⟨ft,hft⟩:∃ x,x=fitG m ⟨tk,tq⟩ ⟨pk,pq⟩:=⟨_,rfl⟩
   obtain ⟨ek,hek⟩:∃ x,x=errF m l ps more e0 k:=⟨_,rfl⟩
   rw [←hek] at HC2
   have HFi:=Lib.hid (show ∀ w':World,Upd K K W w'→Ck w' K h m L S O ek→Calls Tryz.prog 85 #[.pointer (some ⟨K,0,none⟩),.agg #[.int .i64 tk,.int .i64 tq],.agg #[.int .i64 pk,.int .i64 pq]] w' fun r w''=>(∃ v,r=.returned v)∧Ck w'' K h m L S O (wantC ek (decide (ek=0)&&ft))∧Upd K K w' w'' from fun w' hu hc=>by have:=fit_any K h m L S O ek ⟨tk,tq⟩ ⟨pk,pq⟩ w' hc (HMo'.out w' hu);rw [←hft] at this;exact this)
   have HE:=Lib.hid (show errF m l ps more e0 (k+1)=wantC ek (decide (ek=0)&&ft) from by rw [hft,ht,hp,←hn,hek];rfl)
   have HU3:=Lib.hid (HU2.out.alloc (.cells #[.int .i64 pk,.int .i64 pq] 38))
   have HC3:=Lib.hid (Ck.old (w':=wr.alloc (.cells #[.int .i64 pk,.int .i64 pq] 38)) HC2.out bE)
   have hx:=Blk.new wr #[.int .i64 pk,.int .i64 pq] 38
   have x0:=hx.cell 0 (v:=.int .i64 pk) rfl
   have x1:=hx.cell 1 (v:=.int .i64 pq) rfl
   have hS:∀ w',Upd K K (wr.alloc (.cells #[.int .i64 pk,.int .i64 pq] 38)) w'→(fun w':World=>w'.cell? ⟨cb,0,none⟩=some (.pointer (some ⟨K,0,none⟩))∧w'.cell? ⟨vb,0,none⟩=some (.int .i64 more)∧w'.cell? (ta.add (n*2))=some (.int .i64 tk)∧w'.cell? ⟨(ta.add (n*2)).block,(ta.add (n*2)).off+1,none⟩=some (.int .i64 tq)∧w'.cell? ⟨wr.heap.size,0,none⟩=some (.int .i64 pk)∧w'.cell? ⟨wr.heap.size,1,none⟩=some (.int .i64 pq)) w':=by
    intro w' hu
    have ha:∀ {p:Addr}{v:Value},wr.cell? p=some v→(wr.alloc (.cells #[.int .i64 pk,.int .i64 pq] 38)).cell? p=some v:=fun {p v} hc=>((Below.refl wr.heap.size wr).alloc (Nat.le_refl _) _).cell (cell_lt hc) |>.trans hc
    have q:∀ {p:Addr}{v:Value},wr.cell? p=some v→p.block≠K→w'.cell? p=some v:=fun hc hp=>hu.cell (ha hc) hp hp
    exact ⟨q c0 cne,q v0 vne,q t0 (by rw [tadd];exact tne),q (p:=⟨(ta.add (n*2)).block,(ta.add (n*2)).off+1,none⟩) t1 (by show (ta.add (n*2)).block≠K;rw [tadd];exact tne),hu.cell x0 (by show wr.heap.size≠K;omega) (by show wr.heap.size≠K;omega),hu.cell x1 (by show wr.heap.size≠K;omega) (by show wr.heap.size≠K;omega)⟩
   have HS:=Lib.hid hS
   have HK:=Lib.hid hkl
   have HN:=Lib.hid hn
   clear hS x0 x1 hx v0 c0 t0 t1 hp ht hft hek hn hkl tadd padd mb0 mp
   go_upto_region 6 with fail
   refine rO (fun w':World=>w'.cell? ⟨cb,0,none⟩=some (.pointer (some ⟨K,0,none⟩))∧w'.cell? ⟨vb,0,none⟩=some (.int .i64 more)∧w'.cell? (ta.add (n*2))=some (.int .i64 tk)∧w'.cell? ⟨(ta.add (n*2)).block,(ta.add (n*2)).off+1,none⟩=some (.int .i64 tq)∧w'.cell? ⟨wr.heap.size,0,none⟩=some (.int .i64 pk)∧w'.cell? ⟨wr.heap.size,1,none⟩=some (.int .i64 pq)) (.plain 0 (.plain 1 (.plain 2 (.plain 3 (.plain 4 (.plain 5 (.plain 6 (.plain 7 (.one 8 .done))))))))) (HS.out _ (Upd.refl K K _).drew) ?_
   repeat refine pO ?_
   refine oO fun Kv hK=>?_
   go_simp
   refine (HFi.out _ HU3.out.drew (Ck.drew HC3.out)).mono ?_
   rintro r w4 ⟨⟨v4,rfl⟩,hc4,hu4⟩
   have HU4:=Lib.hid (HU3.out.drew.trans hu4)
   have HC4:=Lib.hid hc4
   have HV4:=Lib.hid ((Upd.refl K K (wr.alloc (.cells #[.int .i64 pk,.int .i64 pq] 38))).drew.trans hu4)
   clear hc4 hu4
   refine hK _ _ ⟨HS.out _ HV4.out,?_⟩
   clear hK Kv
   repeat refine pO ?_
   refine wpMixO_done ?_
   go_wp2_with fail
   go_roundw
   case rel=>exact ⟨k+1,HK.out,rfl,HU4,by rw [HE.out];exact HC4⟩
   case measure=>simp [intOf];have:=HK.out;omega
  ·obtain rfl:k=ps.length:=by omega
   have o0:=(Blk.upd HB.out.2.2.2.2 HU2.out one one).cell 0 (v:=.slice ro rl.length rc) rfl
   go_wp2_with fail
   go_ret
   exact ⟨ro,rc,rl,_,rfl,HR.out.upd HU2.out HNo.out HNo.out,HC2.out,HU2.out,rfl,rfl⟩
theorem call1_no (K:Nat) (h:Hd) (m:Md) (L S O:Value) (l ps:List Ty) (po:Option Addr) (pc:Nat) (ma:Addr) (sel:Int) (more:Nat) (ro:Option Addr) (rc:Nat) (rl:List Ty) (sb cb mb vb ob:Nat) (to':Option Addr) (tc base:Nat) (W:World) (H:Ck W K h m L S O 0) (HMo:∀ w',Upd K K W w'→ModAt w' h m)
  (hsb:Blk W sb #[.int .i64 sel] 3) (hcb:Blk W cb #[.pointer (some ⟨K,0,none⟩)] 80) (hmb:Blk W mb #[.pointer (some ma)] 77) (hvb:Blk W vb #[.int .i64 more] 3) (hob:Blk W ob #[.slice ro rl.length rc] 23) (hrl:TyAt W ro rc rl)
  (hma:∀ w',Upd K K W w'→w'.cell? ⟨ma.block,ma.off+2,none⟩=some (.slice po ps.length pc)∧RowAt w' po pc ps) (hown:W.ownsRow base 38 2 (.slice to' l.length tc) l.length (flatR l)) (hlen:l.length=more+ps.length) (hps:ps.length≤1000) (hmo:more≤1) (hsel:0≤sel) (hm1:more=1) (hk:(l.getD 0 default).k≠2) :
  Calls Tryz.prog 140 #[.slice to' l.length tc,.pointer (some ⟨sb,0,none⟩),.pointer (some ⟨cb,0,none⟩),.pointer (some ⟨mb,0,none⟩),.pointer (some ⟨vb,0,none⟩),.pointer (some ⟨ob,0,none⟩)] W (ClPost W K h m L S O fun out e'=>out=rl∧e'=errF m l ps more (11) ps.length):=by
 obtain ⟨e0,HE0'⟩:∃ x:Int,x=11:=⟨_,rfl⟩
 rw [←HE0']
 have HE0:=Lib.hid HE0'
 clear HE0'
 have HLen:=Lib.hid hlen
 have HM1:=Lib.hid hm1
 have hl0:0<l.length:=by omega
 clear hm1
 clear hlen
 have kl:=Blk.lt H
 have sne:sb≠K:=blk_ne hsb H (by decide)
 have cne:cb≠K:=blk_ne hcb H (by decide)
 have mne:mb≠K:=blk_ne hmb H (by decide)
 have vne:vb≠K:=blk_ne hvb H (by decide)
 have one:ob≠K:=blk_ne hob H (by decide)
 have HT:=Lib.hid (TyAt.own hown)
 have HNo:=Lib.hid H.noTy
 have HR:=Lib.hid hrl
 have HMa:=Lib.hid hma
 have HMo':=Lib.hid HMo
 have HB:=Lib.hid (And.intro hsb (And.intro hcb (And.intro hmb (And.intro hvb hob))))
 have HU0:=Lib.hid (Upd.refl K K W)
 have HC0:=Lib.hid H
 have hne:∀ a,to'=some a→a.block≠K:=fun a ha q=>by
  obtain ⟨xs,z,hx⟩:=HT.out.2.2 a ha
  exact HNo.out.2 xs z (q▸hx)
 have HNe:=Lib.hid hne
 clear hrl hma HMo hne H
 obtain ⟨sl,rfl⟩:∃ d:Nat,sel=d:=⟨sel.toNat,by omega⟩
 obtain ⟨ta,hto,t0,t1⟩:=row_ty HT.out.1 (i:=0) (by omega)
 have tne:=HNe.out _ hto
 cases hto
 rw [Nat.zero_mul,show ta.add 0=ta from by simp [Addr.add]] at t0 t1
 obtain ⟨⟨ak,ac⟩,hA⟩:∃ x,x=l.getD 0 default:=⟨_,rfl⟩
 rw [←hA] at t0 t1 hk
 dsimp only at t0 t1 hk
 have c0:=hcb.cell 0 (v:=.pointer (some ⟨K,0,none⟩)) rfl
 have s0:=hsb.cell 0 (v:=.int .i64 sl) rfl
 have hk2:(ak == 2)=false:=by simpa using hk
 have hq:(decide (ak=2)&&decide (0≤m.ent ac sl))=false:=by simp [hk]
 have hS:∀ w',Upd K K W w'→(fun w':World=>w'.cell? ⟨cb,0,none⟩=some (.pointer (some ⟨K,0,none⟩))∧w'.cell? ⟨sb,0,none⟩=some (.int .i64 sl)∧w'.cell? ta=some (.int .i64 ak)) w':=fun w' hu=>⟨hu.cell c0 cne cne,hu.cell s0 sne sne,hu.cell t0 tne tne⟩
 have HS:=Lib.hid hS
 have HQ:=Lib.hid hq
 clear hS c0 s0 t0 t1 hq hk
 go_enter Tryz.func140,Tryz.ntmps140
 have s0:=hsb.cell 0 (v:=.int .i64 sl) rfl
 go_upto_region 2 with fail
 clear s0
 refine rO (fun w':World=>w'.cell? ⟨cb,0,none⟩=some (.pointer (some ⟨K,0,none⟩))∧w'.cell? ⟨sb,0,none⟩=some (.int .i64 sl)∧w'.cell? ta=some (.int .i64 ak)) (.plain 0 (.plain 1 (.plain 2 (.plain 3 (.plain 4 (.plain 5 (.plain 6 (.plain 7 (.plain 8 (.plain 9 (.plain 10 (.plain 11 (.plain 12 (.plain 13 (.plain 14 (.plain 15 (.plain 16 (.plain 17 (.plain 18 (.plain 19 (.plain 20 (.plain 21 (.plain 22 (.plain 23 (.one 24 .done))))))))))))))))))))))))) (HS.out _ (Upd.refl K K _).drew) ?_
 repeat refine pO ?_
 refine oO fun Kv hK=>?_
 go_simp
 refine (want_any K h m L S O _ _ _ (Ck.drew HC0.out)).mono ?_
 rintro r w3 ⟨⟨v3,rfl⟩,hc3,hu3⟩
 have HU1:=Lib.hid (HU0.out.drew.trans hu3)
 have HC1:=Lib.hid hc3
 clear hc3 hu3
 refine hK _ _ ⟨HS.out _ HU1.out,?_⟩
 clear hK Kv
 repeat refine pO ?_
 refine wpMixO_done ?_
 rw [show wantC 0 false=e0 from HE0.out.symm] at HC1
 have mb0:=(Blk.upd HB.out.2.2.1 HU1.out mne mne).cell 0 (v:=.pointer (some ma)) rfl
 have mp:=(HMa.out _ HU1.out).1
 clear hsb hcb hmb hvb hob hown
 go_wp2_with fail
 go_loopw [42] (fun i wr=>∃ k:Nat,k≤ps.length∧i=.int .i64 k∧Hid (Upd K K W wr)∧Hid (Ck wr K h m L S O (errF m l ps more e0 k))) (fun i _=>ps.length-(intOf i).toNat)
 case atStart=>exact ⟨0,by omega,rfl,HU1,HC1⟩
 case round=>
  obtain ⟨k,hk,rfl,HU2,HC2⟩:=hrel
  by_cases hkl:k<ps.length
  ·obtain ⟨pa,hpo,p0,p1⟩:=row_ty (HMa.out _ HU2.out).2 hkl
   obtain ⟨ta,hto,t0,t1⟩:=row_ty (HT.out.upd HU2.out HNo.out HNo.out).1 (i:=more+k) (by have:=HLen.out;omega)
   have tne:=HNe.out _ hto
   cases hto
   cases hpo
   have hkl2:(k:Int) < ps.length:=by omega
   have hml2:((more+k:Nat):Int) < l.length:=by have:=HLen.out;omega
   have hwr:IntKind.i64.wrap ((k:Int)+1)=k+1:=IntWalk.i64_in _ (by omega)
   have hwm:IntKind.i64.wrap ((more:Int)+k)=((more+k:Nat):Int):=by rw [show (more:Int)+k=((more+k:Nat):Int) by omega];exact IntWalk.i64_in _ (by omega)
   have pl:=cell_lt p0
   have tl:=cell_lt t0
   have v0:=(Blk.upd HB.out.2.2.2.1 HU2.out vne vne).cell 0 (v:=.int .i64 more) rfl
   have c0:=(Blk.upd HB.out.2.1 HU2.out cne cne).cell 0 (v:=.pointer (some ⟨K,0,none⟩)) rfl
   have vl:=cell_lt v0
   have cl:=cell_lt c0
   have kl2:=Blk.lt HC2.out
   have hwn:IntKind.i64.wrap (((more+k:Nat):Int))=((more+k:Nat):Int):=IntWalk.i64_in _ (by omega)
   have hsum:(more:Int)+(k:Int)=((more+k:Nat):Int):=by omega
   generalize hn:more+k=n at t0 t1 hwm hml2 tl hsum hwn
   have tadd:(ta.add (n*2)).block=ta.block:=by unfold Addr.add;split<;>rfl
   have padd:(pa.add (k*2)).block=pa.block:=by unfold Addr.add;split<;>rfl
   obtain ⟨⟨pk,pq⟩,hp⟩:∃ x,x=ps.getD k default:=⟨_,rfl⟩
   obtain ⟨⟨tk,tq⟩,ht⟩:∃ x,x=l.getD n default:=⟨_,rfl⟩
   rw [←hp] at p0 p1
   rw [←ht] at t0 t1
   dsimp only at p0 p1 t0 t1
   obtain ⟨ft,hft⟩:∃ x,x=fitG m ⟨tk,tq⟩ ⟨pk,pq⟩:=⟨_,rfl⟩
   obtain ⟨ek,hek⟩:∃ x,x=errF m l ps more e0 k:=⟨_,rfl⟩
   rw [←hek] at HC2
   have HFi:=Lib.hid (show ∀ w':World,Upd K K W w'→Ck w' K h m L S O ek→Calls Tryz.prog 85 #[.pointer (some ⟨K,0,none⟩),.agg #[.int .i64 tk,.int .i64 tq],.agg #[.int .i64 pk,.int .i64 pq]] w' fun r w''=>(∃ v,r=.returned v)∧Ck w'' K h m L S O (wantC ek (decide (ek=0)&&ft))∧Upd K K w' w'' from fun w' hu hc=>by have:=fit_any K h m L S O ek ⟨tk,tq⟩ ⟨pk,pq⟩ w' hc (HMo'.out w' hu);rw [←hft] at this;exact this)
   have HE:=Lib.hid (show errF m l ps more e0 (k+1)=wantC ek (decide (ek=0)&&ft) from by rw [hft,ht,hp,←hn,hek];rfl)
   have HU3:=Lib.hid (HU2.out.alloc (.cells #[.int .i64 pk,.int .i64 pq] 38))
   have HC3:=Lib.hid (Ck.old (w':=wr.alloc (.cells #[.int .i64 pk,.int .i64 pq] 38)) HC2.out bE)
   have hx:=Blk.new wr #[.int .i64 pk,.int .i64 pq] 38
   have x0:=hx.cell 0 (v:=.int .i64 pk) rfl
   have x1:=hx.cell 1 (v:=.int .i64 pq) rfl
   have hS:∀ w',Upd K K (wr.alloc (.cells #[.int .i64 pk,.int .i64 pq] 38)) w'→(fun w':World=>w'.cell? ⟨cb,0,none⟩=some (.pointer (some ⟨K,0,none⟩))∧w'.cell? ⟨vb,0,none⟩=some (.int .i64 more)∧w'.cell? (ta.add (n*2))=some (.int .i64 tk)∧w'.cell? ⟨(ta.add (n*2)).block,(ta.add (n*2)).off+1,none⟩=some (.int .i64 tq)∧w'.cell? ⟨wr.heap.size,0,none⟩=some (.int .i64 pk)∧w'.cell? ⟨wr.heap.size,1,none⟩=some (.int .i64 pq)) w':=by
    intro w' hu
    have ha:∀ {p:Addr}{v:Value},wr.cell? p=some v→(wr.alloc (.cells #[.int .i64 pk,.int .i64 pq] 38)).cell? p=some v:=fun {p v} hc=>((Below.refl wr.heap.size wr).alloc (Nat.le_refl _) _).cell (cell_lt hc) |>.trans hc
    have q:∀ {p:Addr}{v:Value},wr.cell? p=some v→p.block≠K→w'.cell? p=some v:=fun hc hp=>hu.cell (ha hc) hp hp
    exact ⟨q c0 cne,q v0 vne,q t0 (by rw [tadd];exact tne),q (p:=⟨(ta.add (n*2)).block,(ta.add (n*2)).off+1,none⟩) t1 (by show (ta.add (n*2)).block≠K;rw [tadd];exact tne),hu.cell x0 (by show wr.heap.size≠K;omega) (by show wr.heap.size≠K;omega),hu.cell x1 (by show wr.heap.size≠K;omega) (by show wr.heap.size≠K;omega)⟩
   have HS:=Lib.hid hS
   have HK:=Lib.hid hkl
   have HN:=Lib.hid hn
   clear hS x0 x1 hx v0 c0 t0 t1 hp ht hft hek hn hkl tadd padd mb0 mp
   go_upto_region 6 with fail
   refine rO (fun w':World=>w'.cell? ⟨cb,0,none⟩=some (.pointer (some ⟨K,0,none⟩))∧w'.cell? ⟨vb,0,none⟩=some (.int .i64 more)∧w'.cell? (ta.add (n*2))=some (.int .i64 tk)∧w'.cell? ⟨(ta.add (n*2)).block,(ta.add (n*2)).off+1,none⟩=some (.int .i64 tq)∧w'.cell? ⟨wr.heap.size,0,none⟩=some (.int .i64 pk)∧w'.cell? ⟨wr.heap.size,1,none⟩=some (.int .i64 pq)) (.plain 0 (.plain 1 (.plain 2 (.plain 3 (.plain 4 (.plain 5 (.plain 6 (.plain 7 (.one 8 .done))))))))) (HS.out _ (Upd.refl K K _).drew) ?_
   repeat refine pO ?_
   refine oO fun Kv hK=>?_
   go_simp
   refine (HFi.out _ HU3.out.drew (Ck.drew HC3.out)).mono ?_
   rintro r w4 ⟨⟨v4,rfl⟩,hc4,hu4⟩
   have HU4:=Lib.hid (HU3.out.drew.trans hu4)
   have HC4:=Lib.hid hc4
   have HV4:=Lib.hid ((Upd.refl K K (wr.alloc (.cells #[.int .i64 pk,.int .i64 pq] 38))).drew.trans hu4)
   clear hc4 hu4
   refine hK _ _ ⟨HS.out _ HV4.out,?_⟩
   clear hK Kv
   repeat refine pO ?_
   refine wpMixO_done ?_
   go_wp2_with fail
   go_roundw
   case rel=>exact ⟨k+1,HK.out,rfl,HU4,by rw [HE.out];exact HC4⟩
   case measure=>simp [intOf];have:=HK.out;omega
  ·obtain rfl:k=ps.length:=by omega
   have o0:=(Blk.upd HB.out.2.2.2.2 HU2.out one one).cell 0 (v:=.slice ro rl.length rc) rfl
   go_wp2_with fail
   go_ret
   exact ⟨ro,rc,rl,_,rfl,HR.out.upd HU2.out HNo.out HNo.out,HC2.out,HU2.out,rfl,rfl⟩
theorem call1_yes (K:Nat) (h:Hd) (m:Md) (L S O:Value) (l ps:List Ty) (po:Option Addr) (pc:Nat) (ma:Addr) (sel:Int) (more:Nat) (ro:Option Addr) (rc:Nat) (rl:List Ty) (sb cb mb vb ob:Nat) (to':Option Addr) (tc base:Nat) (W:World) (H:Ck W K h m L S O 0) (HMo:∀ w',Upd K K W w'→ModAt w' h m)
  (hsb:Blk W sb #[.int .i64 sel] 3) (hcb:Blk W cb #[.pointer (some ⟨K,0,none⟩)] 80) (hmb:Blk W mb #[.pointer (some ma)] 77) (hvb:Blk W vb #[.int .i64 more] 3) (hob:Blk W ob #[.slice ro rl.length rc] 23) (hrl:TyAt W ro rc rl)
  (hma:∀ w',Upd K K W w'→w'.cell? ⟨ma.block,ma.off+2,none⟩=some (.slice po ps.length pc)∧RowAt w' po pc ps) (hown:W.ownsRow base 38 2 (.slice to' l.length tc) l.length (flatR l)) (hlen:l.length=more+ps.length) (hps:ps.length≤1000) (hmo:more≤1) (hsel:0≤sel) (hm1:more=1) (hk:(l.getD 0 default).k=2) (ht:0≤(l.getD 0 default).c∧(l.getD 0 default).c<m.cl.length∧sel.toNat<(m.cl.getD (l.getD 0 default).c.toNat default).m.length) :
  Calls Tryz.prog 140 #[.slice to' l.length tc,.pointer (some ⟨sb,0,none⟩),.pointer (some ⟨cb,0,none⟩),.pointer (some ⟨mb,0,none⟩),.pointer (some ⟨vb,0,none⟩),.pointer (some ⟨ob,0,none⟩)] W (ClPost W K h m L S O fun out e'=>out=rl∧e'=errF m l ps more (wantC 0 (decide ((l.getD 0 default).k=2)&&decide (0≤m.ent (l.getD 0 default).c sel.toNat))) ps.length):=by
 obtain ⟨e0,HE0'⟩:∃ x:Int,x=wantC 0 (decide ((l.getD 0 default).k=2)&&decide (0≤m.ent (l.getD 0 default).c sel.toNat)):=⟨_,rfl⟩
 rw [←HE0']
 have HE0:=Lib.hid HE0'
 clear HE0'
 have HLen:=Lib.hid hlen
 have HM1:=Lib.hid hm1
 have hl0:0<l.length:=by omega
 clear hm1
 clear hlen
 have kl:=Blk.lt H
 have sne:sb≠K:=blk_ne hsb H (by decide)
 have cne:cb≠K:=blk_ne hcb H (by decide)
 have mne:mb≠K:=blk_ne hmb H (by decide)
 have vne:vb≠K:=blk_ne hvb H (by decide)
 have one:ob≠K:=blk_ne hob H (by decide)
 have HT:=Lib.hid (TyAt.own hown)
 have HNo:=Lib.hid H.noTy
 have HR:=Lib.hid hrl
 have HMa:=Lib.hid hma
 have HMo':=Lib.hid HMo
 have HB:=Lib.hid (And.intro hsb (And.intro hcb (And.intro hmb (And.intro hvb hob))))
 have HU0:=Lib.hid (Upd.refl K K W)
 have HC0:=Lib.hid H
 have hne:∀ a,to'=some a→a.block≠K:=fun a ha q=>by
  obtain ⟨xs,z,hx⟩:=HT.out.2.2 a ha
  exact HNo.out.2 xs z (q▸hx)
 have HNe:=Lib.hid hne
 clear hrl hma HMo hne H
 obtain ⟨sl,rfl⟩:∃ d:Nat,sel=d:=⟨sel.toNat,by omega⟩
 obtain ⟨ta,hto,t0,t1⟩:=row_ty HT.out.1 (i:=0) (by omega)
 have tne:=HNe.out _ hto
 cases hto
 rw [Nat.zero_mul,show ta.add 0=ta from by simp [Addr.add]] at t0 t1
 obtain ⟨⟨ak,ac⟩,hA⟩:∃ x,x=l.getD 0 default:=⟨_,rfl⟩
 rw [←hA] at t0 t1 hk ht
 dsimp only at t0 t1 hk
 have c0:=hcb.cell 0 (v:=.pointer (some ⟨K,0,none⟩)) rfl
 have s0:=hsb.cell 0 (v:=.int .i64 sl) rfl
 obtain rfl:ak=2:=hk
 obtain ⟨hc0,hcl,hsm⟩:=ht
 dsimp only at hc0 hcl hsm
 obtain ⟨ac,rfl⟩:∃ d:Nat,ac=d:=⟨ac.toNat,by omega⟩
 have hcl':ac<m.cl.length:=by omega
 rw [Int.toNat_natCast,Int.toNat_natCast] at hsm
 obtain ⟨ca,hco,-,-,-,-⟩:=(HMo'.out W HU0.out).cls hcl'
 obtain ⟨na,hno,-⟩:=row_int ((HMo'.out W HU0.out).t ac hcl') hsm
 obtain ⟨en,hen⟩:∃ x,x=(m.cl.getD ac default).m.getD sl 0:=⟨_,rfl⟩
 have hee:m.ent (ac:Int) sl=en:=by rw [hen];rfl
 have hent:∀ w',Upd K K W w'→w'.cell? ⟨(ca.add (ac*4)).block,(ca.add (ac*4)).off+3,none⟩=some (.slice (some na) (m.cl.getD ac default).m.length (h.c ac).mc)∧w'.cell? (na.add sl)=some (.int .i64 en):=fun w' hu=>by
  obtain ⟨ad,h1,-,-,-,h2⟩:=(HMo'.out w' hu).cls hcl'
  obtain ⟨nd,h3,h4⟩:=row_int ((HMo'.out w' hu).t ac hcl') hsm
  rw [hco] at h1;cases h1
  rw [hno] at h3;cases h3
  rw [hno] at h2
  rw [←hen] at h4
  exact ⟨h2,h4⟩
 have hk0:∀ w' e',Ck w' K h m L S O e'→w'.cell? ⟨K,0,none⟩=some (.slice (some ca) m.cl.length h.cc):=fun w' e' hc=>by have:=hc.cells.2.1;rwa [hco] at this
 obtain ⟨ml,hml⟩:∃ x,x=(m.cl.getD ac default).m.length:=⟨_,rfl⟩
 rw [←hml] at hsm
 rw [←hml] at hent
 have hsm2:(sl:Int) < ml:=by omega
 have HE1:=Lib.hid (show e0=wantC 0 (decide (0≤en)) from by rw [HE0.out,←hA];show wantC 0 (decide ((2:Int)=2)&&decide (0≤m.ent (ac:Int) ((sl:Int).toNat)))=_;rw [Int.toNat_natCast,hee];rfl)
 have hS:∀ w' e',Upd K K W w'→Ck w' K h m L S O e'→(fun w':World=>w'.cell? ⟨cb,0,none⟩=some (.pointer (some ⟨K,0,none⟩))∧w'.cell? ⟨sb,0,none⟩=some (.int .i64 sl)∧w'.cell? ta=some (.int .i64 2)∧w'.cell? ⟨ta.block,ta.off+1,none⟩=some (.int .i64 ac)∧w'.cell? ⟨K,0,none⟩=some (.slice (some ca) m.cl.length h.cc)∧w'.cell? ⟨(ca.add (ac*4)).block,(ca.add (ac*4)).off+3,none⟩=some (.slice (some na) ml (h.c ac).mc)∧w'.cell? (na.add sl)=some (.int .i64 en)) w':=fun w' e' hu hc'=>⟨hu.cell c0 cne cne,hu.cell s0 sne sne,hu.cell t0 tne tne,hu.cell (p:=⟨ta.block,ta.off+1,none⟩) t1 tne tne,hk0 _ _ hc',(hent _ hu).1,(hent _ hu).2⟩
 have HS:=Lib.hid hS
 clear hS c0 s0 t0 t1 hA hent hk0 hen hee hml hco hno
 go_enter Tryz.func140,Tryz.ntmps140
 have s0:=hsb.cell 0 (v:=.int .i64 sl) rfl
 go_upto_region 2 with fail
 clear s0
 refine rO (fun w':World=>w'.cell? ⟨cb,0,none⟩=some (.pointer (some ⟨K,0,none⟩))∧w'.cell? ⟨sb,0,none⟩=some (.int .i64 sl)∧w'.cell? ta=some (.int .i64 2)∧w'.cell? ⟨ta.block,ta.off+1,none⟩=some (.int .i64 ac)∧w'.cell? ⟨K,0,none⟩=some (.slice (some ca) m.cl.length h.cc)∧w'.cell? ⟨(ca.add (ac*4)).block,(ca.add (ac*4)).off+3,none⟩=some (.slice (some na) ml (h.c ac).mc)∧w'.cell? (na.add sl)=some (.int .i64 en)) (.plain 0 (.plain 1 (.plain 2 (.plain 3 (.plain 4 (.plain 5 (.plain 6 (.plain 7 (.plain 8 (.plain 9 (.plain 10 (.plain 11 (.plain 12 (.plain 13 (.plain 14 (.plain 15 (.plain 16 (.plain 17 (.plain 18 (.plain 19 (.plain 20 (.plain 21 (.plain 22 (.plain 23 (.one 24 .done))))))))))))))))))))))))) (HS.out _ _ (Upd.refl K K _).drew (Ck.drew HC0.out)) ?_
 repeat refine pO ?_
 refine oO fun Kv hK=>?_
 go_simp
 refine (want_any K h m L S O _ _ _ (Ck.drew HC0.out)).mono ?_
 rintro r w3 ⟨⟨v3,rfl⟩,hc3,hu3⟩
 have HU1:=Lib.hid (HU0.out.drew.trans hu3)
 have HC1:=Lib.hid hc3
 clear hc3 hu3
 refine hK _ _ ⟨HS.out _ _ HU1.out HC1.out,?_⟩
 clear hK Kv
 repeat refine pO ?_
 refine wpMixO_done ?_
 rw [←HE1.out] at HC1
 have mb0:=(Blk.upd HB.out.2.2.1 HU1.out mne mne).cell 0 (v:=.pointer (some ma)) rfl
 have mp:=(HMa.out _ HU1.out).1
 clear hsb hcb hmb hvb hob hown
 go_wp2_with fail
 go_loopw [42] (fun i wr=>∃ k:Nat,k≤ps.length∧i=.int .i64 k∧Hid (Upd K K W wr)∧Hid (Ck wr K h m L S O (errF m l ps more e0 k))) (fun i _=>ps.length-(intOf i).toNat)
 case atStart=>exact ⟨0,by omega,rfl,HU1,HC1⟩
 case round=>
  obtain ⟨k,hk,rfl,HU2,HC2⟩:=hrel
  by_cases hkl:k<ps.length
  ·obtain ⟨pa,hpo,p0,p1⟩:=row_ty (HMa.out _ HU2.out).2 hkl
   obtain ⟨ta,hto,t0,t1⟩:=row_ty (HT.out.upd HU2.out HNo.out HNo.out).1 (i:=more+k) (by have:=HLen.out;omega)
   have tne:=HNe.out _ hto
   cases hto
   cases hpo
   have hkl2:(k:Int) < ps.length:=by omega
   have hml2:((more+k:Nat):Int) < l.length:=by have:=HLen.out;omega
   have hwr:IntKind.i64.wrap ((k:Int)+1)=k+1:=IntWalk.i64_in _ (by omega)
   have hwm:IntKind.i64.wrap ((more:Int)+k)=((more+k:Nat):Int):=by rw [show (more:Int)+k=((more+k:Nat):Int) by omega];exact IntWalk.i64_in _ (by omega)
   have pl:=cell_lt p0
   have tl:=cell_lt t0
   have v0:=(Blk.upd HB.out.2.2.2.1 HU2.out vne vne).cell 0 (v:=.int .i64 more) rfl
   have c0:=(Blk.upd HB.out.2.1 HU2.out cne cne).cell 0 (v:=.pointer (some ⟨K,0,none⟩)) rfl
   have vl:=cell_lt v0
   have cl:=cell_lt c0
   have kl2:=Blk.lt HC2.out
   have hwn:IntKind.i64.wrap (((more+k:Nat):Int))=((more+k:Nat):Int):=IntWalk.i64_in _ (by omega)
   have hsum:(more:Int)+(k:Int)=((more+k:Nat):Int):=by omega
   generalize hn:more+k=n at t0 t1 hwm hml2 tl hsum hwn
   have tadd:(ta.add (n*2)).block=ta.block:=by unfold Addr.add;split<;>rfl
   have padd:(pa.add (k*2)).block=pa.block:=by unfold Addr.add;split<;>rfl
   obtain ⟨⟨pk,pq⟩,hp⟩:∃ x,x=ps.getD k default:=⟨_,rfl⟩
   obtain ⟨⟨tk,tq⟩,ht⟩:∃ x,x=l.getD n default:=⟨_,rfl⟩
   rw [←hp] at p0 p1
   rw [←ht] at t0 t1
   dsimp only at p0 p1 t0 t1
   obtain ⟨ft,hft⟩:∃ x,x=fitG m ⟨tk,tq⟩ ⟨pk,pq⟩:=⟨_,rfl⟩
   obtain ⟨ek,hek⟩:∃ x,x=errF m l ps more e0 k:=⟨_,rfl⟩
   rw [←hek] at HC2
   have HFi:=Lib.hid (show ∀ w':World,Upd K K W w'→Ck w' K h m L S O ek→Calls Tryz.prog 85 #[.pointer (some ⟨K,0,none⟩),.agg #[.int .i64 tk,.int .i64 tq],.agg #[.int .i64 pk,.int .i64 pq]] w' fun r w''=>(∃ v,r=.returned v)∧Ck w'' K h m L S O (wantC ek (decide (ek=0)&&ft))∧Upd K K w' w'' from fun w' hu hc=>by have:=fit_any K h m L S O ek ⟨tk,tq⟩ ⟨pk,pq⟩ w' hc (HMo'.out w' hu);rw [←hft] at this;exact this)
   have HE:=Lib.hid (show errF m l ps more e0 (k+1)=wantC ek (decide (ek=0)&&ft) from by rw [hft,ht,hp,←hn,hek];rfl)
   have HU3:=Lib.hid (HU2.out.alloc (.cells #[.int .i64 pk,.int .i64 pq] 38))
   have HC3:=Lib.hid (Ck.old (w':=wr.alloc (.cells #[.int .i64 pk,.int .i64 pq] 38)) HC2.out bE)
   have hx:=Blk.new wr #[.int .i64 pk,.int .i64 pq] 38
   have x0:=hx.cell 0 (v:=.int .i64 pk) rfl
   have x1:=hx.cell 1 (v:=.int .i64 pq) rfl
   have hS:∀ w',Upd K K (wr.alloc (.cells #[.int .i64 pk,.int .i64 pq] 38)) w'→(fun w':World=>w'.cell? ⟨cb,0,none⟩=some (.pointer (some ⟨K,0,none⟩))∧w'.cell? ⟨vb,0,none⟩=some (.int .i64 more)∧w'.cell? (ta.add (n*2))=some (.int .i64 tk)∧w'.cell? ⟨(ta.add (n*2)).block,(ta.add (n*2)).off+1,none⟩=some (.int .i64 tq)∧w'.cell? ⟨wr.heap.size,0,none⟩=some (.int .i64 pk)∧w'.cell? ⟨wr.heap.size,1,none⟩=some (.int .i64 pq)) w':=by
    intro w' hu
    have ha:∀ {p:Addr}{v:Value},wr.cell? p=some v→(wr.alloc (.cells #[.int .i64 pk,.int .i64 pq] 38)).cell? p=some v:=fun {p v} hc=>((Below.refl wr.heap.size wr).alloc (Nat.le_refl _) _).cell (cell_lt hc) |>.trans hc
    have q:∀ {p:Addr}{v:Value},wr.cell? p=some v→p.block≠K→w'.cell? p=some v:=fun hc hp=>hu.cell (ha hc) hp hp
    exact ⟨q c0 cne,q v0 vne,q t0 (by rw [tadd];exact tne),q (p:=⟨(ta.add (n*2)).block,(ta.add (n*2)).off+1,none⟩) t1 (by show (ta.add (n*2)).block≠K;rw [tadd];exact tne),hu.cell x0 (by show wr.heap.size≠K;omega) (by show wr.heap.size≠K;omega),hu.cell x1 (by show wr.heap.size≠K;omega) (by show wr.heap.size≠K;omega)⟩
   have HS:=Lib.hid hS
   have HK:=Lib.hid hkl
   have HN:=Lib.hid hn
   clear hS x0 x1 hx v0 c0 t0 t1 hp ht hft hek hn hkl tadd padd mb0 mp
   go_upto_region 6 with fail
   refine rO (fun w':World=>w'.cell? ⟨cb,0,none⟩=some (.pointer (some ⟨K,0,none⟩))∧w'.cell? ⟨vb,0,none⟩=some (.int .i64 more)∧w'.cell? (ta.add (n*2))=some (.int .i64 tk)∧w'.cell? ⟨(ta.add (n*2)).block,(ta.add (n*2)).off+1,none⟩=some (.int .i64 tq)∧w'.cell? ⟨wr.heap.size,0,none⟩=some (.int .i64 pk)∧w'.cell? ⟨wr.heap.size,1,none⟩=some (.int .i64 pq)) (.plain 0 (.plain 1 (.plain 2 (.plain 3 (.plain 4 (.plain 5 (.plain 6 (.plain 7 (.one 8 .done))))))))) (HS.out _ (Upd.refl K K _).drew) ?_
   repeat refine pO ?_
   refine oO fun Kv hK=>?_
   go_simp
   refine (HFi.out _ HU3.out.drew (Ck.drew HC3.out)).mono ?_
   rintro r w4 ⟨⟨v4,rfl⟩,hc4,hu4⟩
   have HU4:=Lib.hid (HU3.out.drew.trans hu4)
   have HC4:=Lib.hid hc4
   have HV4:=Lib.hid ((Upd.refl K K (wr.alloc (.cells #[.int .i64 pk,.int .i64 pq] 38))).drew.trans hu4)
   clear hc4 hu4
   refine hK _ _ ⟨HS.out _ HV4.out,?_⟩
   clear hK Kv
   repeat refine pO ?_
   refine wpMixO_done ?_
   go_wp2_with fail
   go_roundw
   case rel=>exact ⟨k+1,HK.out,rfl,HU4,by rw [HE.out];exact HC4⟩
   case measure=>simp [intOf];have:=HK.out;omega
  ·obtain rfl:k=ps.length:=by omega
   have o0:=(Blk.upd HB.out.2.2.2.2 HU2.out one one).cell 0 (v:=.slice ro rl.length rc) rfl
   go_wp2_with fail
   go_ret
   exact ⟨ro,rc,rl,_,rfl,HR.out.upd HU2.out HNo.out HNo.out,HC2.out,HU2.out,rfl,rfl⟩
end
end Go.Proofs.YtkdamjpbnmbeoaaGreat
