/- Joined texts. The first: known; what a valid instruction is: the program's side. -/
import Derived.Test.YtcfjblcgceednaaGreatG1
import Derived.Test.YtcfjblcgceednaaGreatShelf
import Derived.Lib.OwnBridge
import Derived.Deep.RegionHeld
import Derived.RangeFuncNested
import Derived.RangeFuncBound
import Derived.Shelf.RegionOpen
import Derived.OwnWalkIn
import Derived.LoopNIn
import Derived.LoopIn
set_option linter.all false
set_option linter.unusedVariables false
set_option linter.unusedSimpArgs false
set_option maxRecDepth 100000
set_option maxHeartbeats 8000000
namespace Go.Proofs.YtcfjblcgceednaaGreat
theorem k5{p:Prop}(h:p:=by
 go_wp2
 go_quiet (fail)
 go_wp2
 go_quiet (fail)
 go_wp2_with (at_builtin;refine Zaj rfl (.tmp 45) (.tmp 48) 34 rfl wr.heap.size 3 1 8 Zcq _ 0 [] rfl (Zec _ _ _ _ (Nat.le_refl _) (Blk.new _ _ _)) _ _ _ ([]) rfl (Zeh _ _ _) (by intro u hu;simp at hu) (by omega) (by unfold maxLen;omega) (by simp) ?_;intro ao1 cap1 w5 hown5 hg5)
 have hb5:=ZcV (show Below w.heap.size w _ from bal (ZcU HB2.out _) _) hg5 (fun j hj=>by cases hj;exact HB2.out.size)
 have hO5:=Zeb ((show (wr.drewN _).ownsRow _ _ _ _ _ _ from HO2.out).alloc _) hg5 (fun b hb=>by cases hb;exact fun h=>absurd (Option.some.inj h) (Nat.ne_of_lt (Zcx HO2.out)))
 simp only [Nat.zero_add,List.nil_append] at hown5
 have HO5:=Zh hown5
 have HP5:=Zh hO5
 have HB5:=Zh hb5
 have hNw:=hg5.size
 clear hown5 hO5 hb5 hg5
 have hS:∀ w',Below w.heap.size w w'→w'.cell? (ad.add k)=some (.int .i64 x):=fun w' hb=>by obtain ⟨ad',hadd,t0⟩:=ZaB (HL.out.old hb) hkl;obtain rfl:=Option.some.inj hadd;rw [HX.out] at t0;exact t0
 have HS:=Zh hS
 have t5:=hS _ HB5.out
 clear hS
 refine rO (fun w'=>w'.cell? (ad.add k)=some (.int .i64 x)) (oL [0,1,2,3,4,5,6,7,10,108,109,111,12]) (HS.out w5.drew HB5.out.drew) ?_
 repeat refine pO ?_
 refine oO fun K hK=>?_
 go_simp
 refine hK _ _ ⟨HS.out _ (bal HB5.out.drew _),?_⟩
 clear hK K
 refine oO fun K hK=>?_
 refine Zef (.tmp 53) (.tmp 58) 34 rfl 3 1 8 Zcq _ zs.length _ ((zs.take zs.length).map (Value.int .i64)) rfl (SlA.alloc (w:=w5.drew) (Zee HP5.out (Nat.le_refl _) _) _) _ 1 1 [.int .i64 x] rfl (ZdL (Blk.new w5.drew #[.int .i64 x] 3) rfl) (by intro u hu;rw [List.mem_singleton.1 hu];rfl) (by decide) (by omega) (by omega) (by unfold maxLen;omega) ?_
 intro ao2 cap2 w6 hown6 hg6
 have hb6:=ZcV (bal HB5.out.drew _) hg6 (fun j hj=>by cases hj)
 have hO6:=Zeb (World.ownsRow.alloc (w:=w5.drew) HO5.out (.cells #[.int .i64 x] 3)) hg6 (fun b hb h=>by cases h)
 have hw6:=hg6.size
 have HO6:=Zh hO6
 have HP6:=Zh hown6
 have HB6:=Zh hb6
 clear hO6 hown6 hb6 hg6
 refine hK _ _ ⟨HS.out _ HB6.out,?_⟩
 clear hK K
 refine oO fun K hK=>?_
 refine Zej (.tmp 59) (.tmp 60) 34 rfl _ 3 1 8 Zcq _ (zs.length+1) _ rfl HP6.out _ _ _ _ rfl (Zah HO6.out).2 (by intro u hu;simp at hu) (by omega) (by unfold maxLen;omega) hw6 ?_
 intro ao3 cap3 w7 hown7 hg7
 have hsz:w.heap.size≤(w5.alloc (.cells #[.int .i64 x] 3)).drew.heap.size:=(bal HB5.out (.cells #[.int .i64 x] 3)).size
 have hb7:=ZcV HB6.out hg7 (fun j hj=>Nat.le_trans hsz (HP6.out.lt j hj).1)
 have hO7:=Zed hown7 hsz
 have HO7:=Zh hO7
 have HB7:=Zh hb7
 clear hO7 hown7 hb7 hg7
 refine hK _ _ ⟨HS.out _ HB7.out,?_⟩
 clear hK K
 repeat refine pO ?_
 refine Zd5 ?_
 go_wp2
 go_roundw
 case rel=>
  have hlen:(Zd6 l (k+1)).length=zs.length+1:=by rw [HSu.out,HIns.out];simp
  exact k53
 case measure=>simp [intOf];omega):p:=h
theorem k23{p:Prop}(h:p:=by
 have HX:=Zh hx
 have HGk:=Zh hgk
 clear hx hgk
 rcases hI:p x with _|_
 ·exact k35
 ·rw [hI] at HGk
  have HP:=Zh hI
  clear hI
  go_wp2_with fail
  refine HGk.out.mono ?_
  rintro e w1 ⟨rfl,hb1⟩
  have HL1:=Zh (Zaf HL.out hb1)
  go_wp2
  go_ret
  exact ⟨⟨_,rfl,by rw [Zdk (d:=default) hkl (by rw [←HX.out];exact HP.out)];simp⟩,HL1.out⟩):p:=h
theorem k35{p:Prop}(h:p:=by
 rw [hI] at HGk
 have HP:=Zh hI
 clear hI
 go_wp2_with fail
 refine HGk.out.mono ?_
 rintro e w1 ⟨rfl,hb1⟩
 have HL1:=Zh (Zaf HL.out hb1)
 go_wp2
 go_roundw
 case rel=>
  refine ⟨k+1,by omega,by go_num,HL1.out,fun i hi=>?_⟩
  by_cases hik:i<k
  ·exact Q1.out i hik
  ·obtain rfl:i=k:=by omega
   rw [←HX.out];exact HP.out
 case measure=>simp [intOf];omega):p:=h
theorem k46{p:Prop}(h:p:=by
 go_wp2_with fail
 refine HI.out.mono ?_
 rintro e w1 ⟨⟨r,rfl,hr⟩,hb1⟩
 have HR:=Zh hr
 clear hr
 go_wp2
 go_ret
 exact ZcT (ZcX HR.out) hb1):p:=h
theorem k53{p:Prop}(h:p:=by
 refine ⟨k+1,ao3,cap3,by omega,by go_num,by rw [hlen],?_,HB7.out⟩
 rw [hlen,HSu.out,HIns.out]
 have h7:=HO7.out
 simpa using h7):p:=h
theorem k56{p:Prop}(h:p:=by
 go_roundw
 case rel=>
  have h9:=HO9.out
  refine ⟨k+1,ao1,cap1,by omega,by go_num,by rw [HY.out,List.length_append];rfl,?_,HB9.out⟩
  rw [HY.out,List.length_append,List.map_append]
  exact h9
 case measure=>simp [intOf];omega):p:=h
theorem k70{p:Prop}(h:p:=by
 unfold ZdM
 rw [Zal _ _ hk,List.map_append,List.filter_append,List.map_cons,List.map_nil]
 generalize (m.cl.getD k default).m.getD s 0=n at h ⊢
 simp [h]):p:=h
theorem k77{p:Prop}(h:p:=by
 unfold ZaQ
 dsimp only
 by_cases h0:0≤op
 ·rw [decide_eq_false (show ¬ op<36 by omega)];simp
 ·rw [decide_eq_false h0];simp):p:=h
theorem k91{p:Prop}(h:p:=by
 go_wp2
 go_ret
 exact ⟨⟨_,rfl,(Zdl (d:=default) fun i hi=>Q1.out i (by omega)).symm⟩,HL.out⟩):p:=h
section
open Go.RowKit
theorem Zdb {k:Nat} (hk:k<36):ZcZ[k*4]?=some (.string (opN.getD k default))∧ZcZ[k*4+1]?=some (.int .i64 (opA.getD k 0))∧ZcZ[k*4+2]?=some (.int .i64 (opB.getD k 0))∧ZcZ[k*4+3]?=some (.int .i64 (opC.getD k 0)):=by
 rcases (show k=0∨k=1∨k=2∨k=3∨k=4∨k=5∨k=6∨k=7∨k=8∨k=9∨k=10∨k=11∨k=12∨k=13∨k=14∨k=15∨k=16∨k=17∨k=18∨k=19∨k=20∨k=21∨k=22∨k=23∨k=24∨k=25∨k=26∨k=27∨k=28∨k=29∨k=30∨k=31∨k=32∨k=33∨k=34∨k=35 by omega) with rfl|rfl|rfl|rfl|rfl|rfl|rfl|rfl|rfl|rfl|rfl|rfl|rfl|rfl|rfl|rfl|rfl|rfl|rfl|rfl|rfl|rfl|rfl|rfl|rfl|rfl|rfl|rfl|rfl|rfl|rfl|rfl|rfl|rfl|rfl|rfl
 all_goals exact ⟨rfl,rfl,rfl,rfl⟩
theorem Zdc:ZcZ.length=144:=by kernel_rfl
theorem Zdd (op:Int) (h:op<0∨36≤op) (w:World):Calls Tryz.prog 296 #[.int .i64 op] w fun e w'=>e=.returned (.tuple #[.agg #[.string ⟨#[]⟩,.int .i64 0,.int .i64 0,.int .i64 0],.bool false])∧Below w.heap.size w w':=by
 obtain ⟨B,hB⟩:∃ B,B=w.heap.size:=⟨_,rfl⟩
 go_enter Tryz.func296,Tryz.ntmps296
 go_wp2_with fail
 have hb0:=(Below.refl w.heap.size w).alloc (Nat.le_refl _) (.cells #[.string ⟨#[]⟩,.int .i64 0,.int .i64 0,.int .i64 0] 295)
 have hR0:=Blk.new' (w:=w) #[.string ⟨#[]⟩,.int .i64 0,.int .i64 0,.int .i64 0] 295 hB
 refine (Zc1 _).mono ?_
 rintro e w1 ⟨rfl,hb1⟩
 have HL1:=Zh (Zaf hb0 hb1)
 have HR1:=Zh (hR0.old hb1)
 rw [←hB]
 have HB:=Zh hB
 clear hb0 hb1 hR0 hB
 have hst:=Zc0 w1
 have hlen:=Zdc
 generalize ZcZ=L at hst hlen ⊢
 have r0:=HR1.out.cell 0 rfl
 have r1:=HR1.out.cell 1 rfl
 have r2:=HR1.out.cell 2 rfl
 have r3:=HR1.out.cell 3 rfl
 have f0:=HR1.out.frozen 0
 have f1:=HR1.out.frozen 1
 have f2:=HR1.out.frozen 2
 have f3:=HR1.out.frozen 3
 have rl:=HR1.out.lt
 go_wp2_with fail
 all_goals
  have hR2:=((((HR1.out.set 0 (.string ⟨#[]⟩)).set 1 (.int .i64 0)).set 2 (.int .i64 0)).set 3 (.int .i64 0)).alloc (.cells L.toArray 325)
  have q0:=hR2.cell 0 rfl
  have q1:=hR2.cell 1 rfl
  have q2:=hR2.cell 2 rfl
  have q3:=hR2.cell 3 rfl
  refine bodyPost_ret (v:=.tuple #[.agg #[.string ⟨#[]⟩,.int .i64 0,.int .i64 0,.int .i64 0],.bool false]) (by simp [results,Tryz.results296,go_sem,q0,q1,q2,q3]) rfl ⟨rfl,?_⟩
  have:=HB.out
  exact bal (ZcW (ZcW (ZcW (ZcW HL1.out (by omega) _) (by omega) _) (by omega) _) (by omega) _) _
theorem Zde (k:Nat) (hk:k<36) (w:World):Calls Tryz.prog 296 #[.int .i64 k] w fun e w'=>e=.returned (.tuple #[.agg #[.string (opN.getD k default),.int .i64 (opA.getD k 0),.int .i64 (opB.getD k 0),.int .i64 (opC.getD k 0)],.bool true])∧Below w.heap.size w w':=by
 obtain ⟨t0,t1,t2,t3⟩:=Zdb hk
 generalize opN.getD k default=nm at t0 ⊢
 generalize ((opA.getD k 0:Nat):Int)=oa at t1 ⊢
 generalize ((opB.getD k 0:Nat):Int)=ob at t2 ⊢
 generalize ((opC.getD k 0:Nat):Int)=oc at t3 ⊢
 have HT:=Zh (And.intro t0 (And.intro t1 (And.intro t2 t3)))
 clear t0 t1 t2 t3
 obtain ⟨B,hB⟩:∃ B,B=w.heap.size:=⟨_,rfl⟩
 go_enter Tryz.func296,Tryz.ntmps296
 go_wp2_with fail
 have hb0:=(Below.refl w.heap.size w).alloc (Nat.le_refl _) (.cells #[.string ⟨#[]⟩,.int .i64 0,.int .i64 0,.int .i64 0] 295)
 have hR0:=Blk.new' (w:=w) #[.string ⟨#[]⟩,.int .i64 0,.int .i64 0,.int .i64 0] 295 hB
 refine (Zc1 _).mono ?_
 rintro e w1 ⟨rfl,hb1⟩
 have HL1:=Zh (Zaf hb0 hb1)
 have HR1:=Zh (hR0.old hb1)
 rw [←hB]
 have HB:=Zh hB
 clear hb0 hb1 hR0 hB
 have hst:=Zc0 w1
 have hlen:=Zdc
 obtain ⟨t0,t1,t2,t3⟩:=HT.out
 generalize ZcZ=L at hst hlen t0 t1 t2 t3 ⊢
 have r0:=HR1.out.cell 0 rfl
 have r1:=HR1.out.cell 1 rfl
 have r2:=HR1.out.cell 2 rfl
 have r3:=HR1.out.cell 3 rfl
 have f0:=HR1.out.frozen 0
 have f1:=HR1.out.frozen 1
 have f2:=HR1.out.frozen 2
 have f3:=HR1.out.frozen 3
 have rl:=HR1.out.lt
 have hk0:¬ ((k:Int) < 0):=by omega
 have hk1:¬ ((36:Int)≤k):=by omega
 have hk2:(k:Int) < 36:=by omega
 go_wp2_with fail
 have hR2:=((((HR1.out.set 0 (.string nm)).set 1 (.int .i64 oa)).set 2 (.int .i64 ob)).set 3 (.int .i64 oc)).alloc (.cells L.toArray 325)
 have q0:=hR2.cell 0 rfl
 have q1:=hR2.cell 1 rfl
 have q2:=hR2.cell 2 rfl
 have q3:=hR2.cell 3 rfl
 refine bodyPost_ret (v:=.tuple #[.agg #[.string nm,.int .i64 oa,.int .i64 ob,.int .i64 oc],.bool true]) (by simp [results,Tryz.results296,go_sem,q0,q1,q2,q3]) rfl ⟨rfl,?_⟩
 have:=HB.out
 exact bal (ZcW (ZcW (ZcW (ZcW HL1.out (by omega) _) (by omega) _) (by omega) _) (by omega) _) _
end
section
open Go.RowKit
theorem Zdf (k:Nat):opA.getD k 0<15:=by
 rw [List.getD_eq_getElem?_getD]
 by_cases h:k<opA.length
 ·rw [List.getElem?_eq_getElem h]
  exact (show ∀ x∈opA,x<15 by decide) _ (List.getElem_mem h)
 ·rw [List.getElem?_eq_none (by omega)];decide
theorem Zdg (k:Nat):opB.getD k 0<15:=by
 rw [List.getD_eq_getElem?_getD]
 by_cases h:k<opB.length
 ·rw [List.getElem?_eq_getElem h]
  exact (show ∀ x∈opB,x<15 by decide) _ (List.getElem_mem h)
 ·rw [List.getElem?_eq_none (by omega)];decide
theorem Zdh {p:Bool}{k:Nat} (hk:k<36) (a b:Int):ZaQ p ⟨k,a,b⟩=(inR a (opA.getD k 0) p&&inR b (opB.getD k 0) p&&!(decide ((k:Int)=12)&&decide (a=3)&&decide (b≠0))):=by
 unfold ZaQ
 have h1:decide ((k:Int) < 36)=true:=by simp;omega
 simp only [Int.toNat_natCast,h1,Int.natCast_nonneg,decide_true,Bool.true_and]
theorem Zdi (i:In3) (p:Bool) (w:World):Calls Tryz.prog 295 #[.agg #[.int .i64 i.op,.int .i64 i.a,.int .i64 i.b],.bool p] w (Ret w (.bool (ZaQ p i))):=by
 obtain ⟨op,a,b⟩:=i
 dsimp only
 obtain ⟨B,hB⟩:∃ B,B=w.heap.size:=⟨_,rfl⟩
 by_cases h:0≤op∧op<36
 ·obtain ⟨k,rfl⟩:∃ k:Nat,op=k:=⟨op.toNat,by omega⟩
  have hk:k<36:=by omega
  rw [Zdh hk]
  have ha:=ZcS a (opA.getD k 0:Nat) p (by omega) (by have:=Zdf k;omega)
  have hb:=ZcS b (opB.getD k 0:Nat) p (by omega) (by have:=Zdg k;omega)
  rw [Int.toNat_natCast] at ha hb
  have hkn:=Zde k hk
  generalize opN.getD k default=nm at hkn
  generalize ((opA.getD k 0:Nat):Int)=oa at ha hkn
  generalize ((opB.getD k 0:Nat):Int)=ob at hb hkn
  generalize ((opC.getD k 0:Nat):Int)=oc at hkn
  generalize inR a (opA.getD k 0) p=qa at ha ⊢
  generalize inR b (opB.getD k 0) p=qb at hb ⊢
  have HA:=Zh ha
  have HBb:=Zh hb
  have HK:=Zh hkn
  clear ha hb hkn h
  generalize hq:(qa&&qb&&!(decide ((k:Int)=12)&&decide (a=3)&&decide (b≠0)))=q
  have HQ:=Zh hq
  clear hq
  go_enter Tryz.func295,Tryz.ntmps295
  go_wp2_with fail
  have hX:=Blk.new' (w:=w) #[.int .i64 k,.int .i64 a,.int .i64 b] 78 hB
  refine (HK.out _).mono ?_
  rintro e w1 ⟨rfl,hb1⟩
  have hX1:=hX.old hb1
  rw [←hB]
  have HB:=Zh hB
  clear hB
  have x0:=hX1.cell 0 rfl
  have x1:=hX1.cell 1 rfl
  have x2:=hX1.cell 2 rfl
  have xl:=hX1.lt
  go_wp2_with (first
   | (with_reducible refine (HA.out _).mono ?_;rintro e w' ⟨rfl,rfl⟩)
   | (with_reducible refine (HBb.out _).mono ?_;rintro e w' ⟨rfl,rfl⟩))
  all_goals
   go_ret
   refine ZcT (ZcX ?_) bE
   rw [←HQ.out]
   grind
 ·have hq:ZaQ p ⟨op,a,b⟩=false:=by
   exact k77
  rw [hq]
  have HK:=Zh (Zdd op (by omega))
  clear hq h
  go_enter Tryz.func295,Tryz.ntmps295
  go_wp2_with fail
  refine (HK.out _).mono ?_
  rintro e w1 ⟨rfl,hb1⟩
  go_wp2_with fail
  go_ret
  exact ZcT rfl bE
theorem Zdj (i:In3) (p:Bool) (b:Nat) (w:World) (hc:w.cell? ⟨b,0,none⟩=some (.bool p)) :
  Calls Tryz.prog 355 #[.agg #[.int .i64 i.op,.int .i64 i.a,.int .i64 i.b],.pointer (some ⟨b,0,none⟩)] w (Ret w (.bool (!ZaQ p i))):=by
 have hl:b<w.heap.size:=Zac hc
 go_enter Tryz.func355,Tryz.ntmps355
 go_wp2_with fail
 refine (Zdi i p _).mono ?_
 rintro e w1 ⟨rfl,hb1⟩
 go_wp2_with fail
 go_ret
 exact ZcT rfl bE
theorem Zdk {α:Type}{l:List α}{p:α→Bool}{d:α}{k:Nat} (hk:k<l.length) (h:p (l.getD k d)=true):l.any p=true:=by
 rw [List.any_eq_true]
 exact ⟨l[k],List.getElem_mem hk,by simpa [hk] using h⟩
theorem Zdl {α:Type}{l:List α}{p:α→Bool}{d:α} (h:∀ i,i<l.length→p (l.getD i d)=false):l.any p=false:=by
 rw [List.any_eq_false]
 intro x hx
 obtain ⟨i,hi,rfl⟩:=List.getElem_of_mem hx
 have:=h i hi
 simpa [hi] using this
end
section
open Go.RowKit
section
variable (l:List In3)(ao:Option Addr)(cap g:Nat)(caps:Array Value)(p:In3→Bool)(w:World)(hlen:l.length≤1000000)(hl:Zar w ao cap l)(cf:∀ A W,(callFunc g (A++caps)).run Tryz.prog W=.ok (.enter g (A++caps)) W)(hg:∀ k,k<l.length→∀ w',Below w.heap.size w w'→Calls Tryz.prog g (#[.agg #[.int .i64 (l.getD k default).op,.int .i64 (l.getD k default).a,.int .i64 (l.getD k default).b]]++caps) w' (Ret w' (.bool (p (l.getD k default)))))
include l ao cap g caps p w hlen hl cf hg
theorem Zdm:
  Calls Tryz.prog 147 #[.slice ao l.length cap,.func (Fn.func g) #[] caps] w fun e w'=>(∃ r:Int,e=.returned (.int .i64 r)∧decide (0≤r)=l.any p)∧Below w.heap.size w w':=by
 have HI:=Zh hl
 have HG:=Zh hg
 clear hl hg
 go_enter Tryz.func147,Tryz.ntmps147
 go_wp2
 go_loopw [8] (fun i wr=>∃ (k:Nat),k≤l.length∧i=.int .i64 k∧Below w.heap.size w wr∧(∀ i,i<k→p (l.getD i default)=false)) (fun i _=>l.length-(intOf i).toNat)
 case atStart=>exact ⟨0,by omega,rfl,Below.refl _ _,by omega⟩
 case round=>
  obtain ⟨k,hk,rfl,hbel,q1⟩:=hrel
  have HL:=Zh hbel
  have Q1:=Zh q1
  clear hbel q1
  by_cases hkl:k<l.length
  ·obtain ⟨ad,rfl,e0,e1,e2⟩:=ZaA (HI.out.old HL.out) hkl
   have hgk:=HG.out k hkl _ HL.out
   obtain ⟨x,hx⟩:∃ x,x=l.getD k default:=⟨_,rfl⟩
   rw [←hx] at e0  e1  e2 hgk
   exact k23
  ·exact k91
theorem Zdn:
  Calls Tryz.prog 84 #[.slice ao l.length cap,.func (Fn.func g) #[] caps] w (Ret w (.bool (l.any p))):=by
 have HI:=Zh (Zdm l ao cap g caps p w hlen hl cf hg)
 clear hl hg cf
 go_enter Tryz.func84,Tryz.ntmps84
 exact k46
end
section
variable (l:List Ty)(ao:Option Addr)(cap g:Nat)(caps:Array Value)(p:Ty→Bool)(w:World)(hlen:l.length≤1000000)(hl:Zar w ao cap l)(cf:∀ A W,(callFunc g (A++caps)).run Tryz.prog W=.ok (.enter g (A++caps)) W)(hg:∀ k,k<l.length→∀ w',Below w.heap.size w w'→Calls Tryz.prog g (#[.agg #[.int .i64 (l.getD k default).k,.int .i64 (l.getD k default).c]]++caps) w' (Ret w' (.bool (p (l.getD k default)))))
include l ao cap g caps p w hlen hl cf hg
theorem Zdo:
  Calls Tryz.prog 357 #[.slice ao l.length cap,.func (Fn.func g) #[] caps] w fun e w'=>(∃ r:Int,e=.returned (.int .i64 r)∧decide (0≤r)=l.any p)∧Below w.heap.size w w':=by
 have HI:=Zh hl
 have HG:=Zh hg
 clear hl hg
 go_enter Tryz.func357,Tryz.ntmps357
 go_wp2
 go_loopw [8] (fun i wr=>∃ (k:Nat),k≤l.length∧i=.int .i64 k∧Below w.heap.size w wr∧(∀ i,i<k→p (l.getD i default)=false)) (fun i _=>l.length-(intOf i).toNat)
 case atStart=>exact ⟨0,by omega,rfl,Below.refl _ _,by omega⟩
 case round=>
  obtain ⟨k,hk,rfl,hbel,q1⟩:=hrel
  have HL:=Zh hbel
  have Q1:=Zh q1
  clear hbel q1
  by_cases hkl:k<l.length
  ·obtain ⟨ad,rfl,e0,e1⟩:=Zaz (HI.out.old HL.out) hkl
   have hgk:=HG.out k hkl _ HL.out
   obtain ⟨x,hx⟩:∃ x,x=l.getD k default:=⟨_,rfl⟩
   rw [←hx] at e0  e1 hgk
   exact k23
  ·exact k91
theorem Zdp:
  Calls Tryz.prog 307 #[.slice ao l.length cap,.func (Fn.func g) #[] caps] w (Ret w (.bool (l.any p))):=by
 have HI:=Zh (Zdo l ao cap g caps p w hlen hl cf hg)
 clear hl hg cf
 go_enter Tryz.func307,Tryz.ntmps307
 exact k46
end
section
variable (l:List Int)(ao:Option Addr)(cap g:Nat)(caps:Array Value)(p:Int→Bool)(w:World)(hlen:l.length≤1000000)(hl:Zar w ao cap l)(cf:∀ A W,(callFunc g (A++caps)).run Tryz.prog W=.ok (.enter g (A++caps)) W)(hg:∀ k,k<l.length→∀ w',Below w.heap.size w w'→Calls Tryz.prog g (#[.int .i64 (l.getD k 0)]++caps) w' (Ret w' (.bool (p (l.getD k 0)))))
include l ao cap g caps p w hlen hl cf hg
theorem Zdq:
  Calls Tryz.prog 178 #[.slice ao l.length cap,.func (Fn.func g) #[] caps] w fun e w'=>(∃ r:Int,e=.returned (.int .i64 r)∧decide (0≤r)=l.any p)∧Below w.heap.size w w':=by
 have HI:=Zh hl
 have HG:=Zh hg
 clear hl hg
 go_enter Tryz.func178,Tryz.ntmps178
 go_wp2
 go_loopw [8] (fun i wr=>∃ (k:Nat),k≤l.length∧i=.int .i64 k∧Below w.heap.size w wr∧(∀ i,i<k→p (l.getD i 0)=false)) (fun i _=>l.length-(intOf i).toNat)
 case atStart=>exact ⟨0,by omega,rfl,Below.refl _ _,by omega⟩
 case round=>
  obtain ⟨k,hk,rfl,hbel,q1⟩:=hrel
  have HL:=Zh hbel
  have Q1:=Zh q1
  clear hbel q1
  by_cases hkl:k<l.length
  ·obtain ⟨ad,rfl,e0⟩:=ZaB (HI.out.old HL.out) hkl
   have hgk:=HG.out k hkl _ HL.out
   obtain ⟨x,hx⟩:∃ x,x=l.getD k 0:=⟨_,rfl⟩
   rw [←hx] at e0 hgk
   have HX:=Zh hx
   have HGk:=Zh hgk
   clear hx hgk
   rcases hI:p x with _|_
   ·exact k35
   ·rw [hI] at HGk
    have HP:=Zh hI
    clear hI
    go_wp2_with fail
    refine HGk.out.mono ?_
    rintro e w1 ⟨rfl,hb1⟩
    have HL1:=Zh (Zaf HL.out hb1)
    go_wp2
    go_ret
    exact ⟨⟨_,rfl,by rw [Zdk (d:=0) hkl (by rw [←HX.out];exact HP.out)];simp⟩,HL1.out⟩
  ·go_wp2
   go_ret
   exact ⟨⟨_,rfl,(Zdl (d:=0) fun i hi=>Q1.out i (by omega)).symm⟩,HL.out⟩
theorem Zdr:
  Calls Tryz.prog 117 #[.slice ao l.length cap,.func (Fn.func g) #[] caps] w (Ret w (.bool (l.any p))):=by
 have HI:=Zh (Zdq l ao cap g caps p w hlen hl cf hg)
 clear hl hg cf
 go_enter Tryz.func117,Tryz.ntmps117
 exact k46
end
end
section
def Asc (l:List Int):Prop:=l.Pairwise (· < ·)
theorem Zds (n x:Int):∀ l,x∈ZaL n l↔x=n∨x∈l
 | []=>by simp [ZaL]
 | y :: r=>by
  unfold ZaL
  split
  ·rw [List.mem_cons,Zds n x r,List.mem_cons]
   constructor
   ·rintro (h|h|h)
    ·exact .inr (.inl h)
    ·exact .inl h
    ·exact .inr (.inr h)
   ·rintro (h|h|h)
    ·exact .inr (.inl h)
    ·exact .inl h
    ·exact .inr (.inr h)
  ·split
   ·rename_i h2
    subst h2
    simp
   ·simp
theorem Zdt (n:Int):∀ l,Asc l→Asc (ZaL n l)
 | [],_=>by simp [ZaL,Asc]
 | y :: r,h=>by
  have h1:=List.pairwise_cons.1 h
  unfold ZaL
  split
  ·rename_i hlt
   refine List.pairwise_cons.2 ⟨fun x hx=>?_,Zdt n r h1.2⟩
   rcases (Zds n x r).1 hx with rfl|hx
   ·exact hlt
   ·exact h1.1 x hx
  ·split
   ·exact h
   ·rename_i h2 h3
    refine List.pairwise_cons.2 ⟨fun x hx=>?_,h⟩
    rcases List.mem_cons.1 hx with rfl|hx
    ·omega
    ·have:=h1.1 x hx;omega
theorem Zdu:∀ (l o:List Int),Asc o→Asc (l.foldl (fun o n=>ZaL n o) o)∧∀ x,x∈l.foldl (fun o n=>ZaL n o) o↔x∈o∨x∈l
 | [],o,h=>⟨h,fun x=>by simp⟩
 | n :: l,o,h=>by
  obtain ⟨h1,h2⟩:=Zdu l (ZaL n o) (Zdt n o h)
  refine ⟨h1,fun x=>?_⟩
  rw [List.foldl_cons,h2 x,Zds,List.mem_cons]
  constructor
  ·rintro ((h|h)|h)
   ·exact .inr (.inl h)
   ·exact .inl h
   ·exact .inr (.inr h)
  ·rintro (h|h|h)
   ·exact .inl (.inr h)
   ·exact .inl (.inl h)
   ·exact .inr h
theorem Zdv (l:List Int):Asc (ZaM l):=(Zdu l [] List.Pairwise.nil).1
theorem Zdw (l:List Int) (x:Int):x∈ZaM l↔x∈l:=by rw [ZaM,(Zdu l [] List.Pairwise.nil).2 x];simp
theorem Zdx:∀ {l m:List Int},Asc l→Asc m→(∀ x,x∈l↔x∈m)→l=m
 | [],[],_,_,_=>rfl
 | [],y :: m,_,_,h=>by have:=(h y).2 (by simp);simp at this
 | x :: l,[],_,_,h=>by have:=(h x).1 (by simp);simp at this
 | x :: l,y :: m,hl,hm,h=>by
  have h1:=List.pairwise_cons.1 hl
  have h2:=List.pairwise_cons.1 hm
  have hxy:x=y:=by
   rcases List.mem_cons.1 ((h x).1 (by simp)) with e|e
   ·exact e
   ·rcases List.mem_cons.1 ((h y).2 (by simp)) with e2|e2
    ·exact e2.symm
    ·have a:=h2.1 x e;have b:=h1.1 y e2;omega
  subst hxy
  have:l=m:=Zdx h1.2 h2.2 fun z=>⟨fun hz=>by
    rcases List.mem_cons.1 ((h z).1 (List.mem_cons_of_mem _ hz)) with e|e
    ·have:=h1.1 z hz;omega
    ·exact e,fun hz=>by
    rcases List.mem_cons.1 ((h z).2 (List.mem_cons_of_mem _ hz)) with e|e
    ·have:=h2.1 z hz;omega
    ·exact e⟩
  rw [this]
theorem Zdy {l m:List Int} (h:Asc m) (h2:∀ x,x∈m↔x∈l):m=ZaM l:=Zdx h (Zdv l) fun x=>by rw [h2,Zdw]
theorem Zdz (n:Int):∀ l,(ZaL n l).length≤l.length+1
 | []=>by simp [ZaL]
 | y :: r=>by
  unfold ZaL
  split
  ·have:=Zdz n r;simp;omega
  ·split<;>simp
theorem ZdA (l:List Int):(ZaM l).length≤l.length:=by
 have key:∀ (l o:List Int),(l.foldl (fun o n=>ZaL n o) o).length≤o.length+l.length:=by
  intro l
  induction l with
  | nil=>intro o;simp
  | cons n l ih=>intro o;have h1:=ih (ZaL n o);have h2:=Zdz n o;simp only [List.foldl_cons,List.length_cons];omega
 simpa [ZaM] using key l []
theorem ZdB (l:List Int) (j:Nat) (hj:j<l.length):l.toArray[j]! = l[j]:=by simp [hj]
theorem ZdC {zs:List Int} (h:zs.Pairwise (·≤·)) (m:Nat) (hm:m≤zs.length):Asc (Lib.compactUpTo zs.toArray m)∧∀ x,x∈Lib.compactUpTo zs.toArray m↔∃ j,j<m∧x=zs.toArray[j]!:=by
 have hg:∀ i j,i≤j→j<zs.length→zs.toArray[i]!≤zs.toArray[j]!:=by
  intro i j hij hj
  rcases Nat.lt_or_ge i j with h1|h1
  ·have:=(List.pairwise_iff_getElem.1 h) i j (by omega) hj h1
   simpa [show i<zs.length by omega,hj] using this
  ·obtain rfl:i=j:=by omega
   exact Int.le_refl _
 induction m with
 | zero=>exact ⟨by simp [Lib.compactUpTo,Asc],fun x=>by simp [Lib.compactUpTo]⟩
 | succ m ih=>
  obtain ⟨h1,h2⟩:=ih (by omega)
  rw [Lib.compactUpTo_succ]
  rcases hk:Lib.keeps zs.toArray m with _|_
  ·simp only [Bool.false_eq_true,if_false,List.append_nil]
   refine ⟨h1,fun x=>?_⟩
   rw [h2]
   simp only [Lib.keeps,decide_eq_false_iff_not,not_or,Classical.not_not] at hk
   constructor
   ·rintro ⟨j,hj,rfl⟩;exact ⟨j,by omega,rfl⟩
   ·rintro ⟨j,hj,rfl⟩
    by_cases hjm:j<m
    ·exact ⟨j,hjm,rfl⟩
    ·obtain rfl:j=m:=by omega
     exact ⟨j-1,by omega,hk.2⟩
  ·simp only [if_true]
   constructor
   ·refine List.pairwise_append.2 ⟨h1,by simp,fun x hx y hy=>?_⟩
    obtain rfl:=List.mem_singleton.1 hy
    obtain ⟨j,hj,rfl⟩:=(h2 x).1 hx
    simp only [Lib.keeps,decide_eq_true_eq] at hk
    have a:=hg j (m-1) (by omega) (by omega)
    have b:=hg (m-1) m (by omega) (by omega)
    rcases hk with hk|hk
    ·omega
    ·omega
   ·intro x
    rw [List.mem_append,h2,List.mem_singleton]
    constructor
    ·rintro (⟨j,hj,rfl⟩|rfl)
     ·exact ⟨j,by omega,rfl⟩
     ·exact ⟨m,by omega,rfl⟩
    ·rintro ⟨j,hj,rfl⟩
     by_cases hjm:j<m
     ·exact .inl ⟨j,hjm,rfl⟩
     ·obtain rfl:j=m:=by omega
      exact .inr rfl
theorem ZdD (zs:List Int):Lib.compact (zs.mergeSort fun x y=>decide (x≤y))=ZaM zs:=by
 have hs:(zs.mergeSort fun x y=>decide (x≤y)).Pairwise (·≤·):=by
  have:=List.pairwise_mergeSort (le:=fun x y:Int=>decide (x≤y)) (by intro a b c;simp;omega) (by intro a b;simp;omega) zs
  exact this.imp (fun h=>by simpa using h)
 obtain ⟨h1,h2⟩:=ZdC hs _ (Nat.le_refl _)
 refine Zdy h1 fun x=>?_
 rw [Lib.compact] at *
 rw [h2 x,←(List.mergeSort_perm zs fun x y=>decide (x≤y)).mem_iff (a:=x)]
 constructor
 ·rintro ⟨j,hj,rfl⟩
  rw [ZdB _ j hj]
  exact List.getElem_mem hj
 ·intro hx
  obtain ⟨j,hj,rfl⟩:=List.mem_iff_getElem.1 hx
  exact ⟨j,hj,(ZdB _ j hj).symm⟩
end
section
open Go.RowKit
def ZdE {α:Type} [Cells α] (W:World) (l:List α):Ending→World→Prop:=fun e w'=>(∃ ao cap,e=.returned (.slice ao l.length cap)∧Zar w' ao cap l)∧Below W.heap.size W w'
def ZdF {α:Type} [Cells α] (W:World) (l:List α):Ending→World→Prop:=fun e w'=>(∃ ao cap,e=.returned (.slice ao l.length cap)∧Zar w' ao cap l∧∀ a,ao=some a→W.heap.size≤a.block)∧Below W.heap.size W w'
theorem ZdG (m:Md) (s:Int):(ZaN m s).length≤m.cl.length:=by
 have h1:=ZdA ((m.cl.map fun c=>c.m.getD s.toNat 0).filter fun n=>decide (0≤n))
 have h2:=List.length_filter_le (fun n:Int=>decide (0≤n)) (m.cl.map fun c=>c.m.getD s.toNat 0)
 rw [List.length_map] at h2
 unfold ZaN;omega
theorem ZdH {B:Nat}{w0 w:World} (h:Below B w0 w) (hB:B≤w0.heap.size) (os:Array Obj):Below B w0 (Sort.grow w os):=by
 refine ⟨h.os,h.tape,h.output,?_,fun k hk=>?_⟩
 ·have:=h.size
  have h2:(Sort.grow w os).heap.size=w.heap.size+os.size:=by simp [Sort.grow]
  omega
 ·rw [Sort.heap_grow_old w os (by have:=h.size;omega)]
  exact h.block k hk
theorem ZdI {w:World}{base size n:Nat}{e:TypeId}{v:Value}{xs:List Value} (h:w.ownsRow base e size v n xs) (os:Array Obj):(Sort.grow w os).ownsRow base e size v n xs:=by
 obtain ⟨h1,h2⟩:=h
 refine ⟨h1,?_⟩
 rcases h2 with h2|⟨g,cap,cur,hv,hg,hh,h3⟩
 ·exact .inl h2
 ·exact .inr ⟨g,cap,cur,hv,hg,by rw [Sort.heap_grow_old w os (Blk.lt (t:=e) hh)];exact hh,h3⟩
section
variable {base:Nat}{e:TypeId}(ao:Option Addr)(n cap:Nat)(zs:List Int)(w:World)(h:w.ownsRow base e 1 (.slice ao n cap) n (zs.map (Value.int .i64)))(hn:n≤1000000)(hb:base≤w.heap.size)
include base e ao n cap zs w h hn hb
theorem ZdJ:
  Calls Tryz.prog 107 #[.slice ao n cap] w fun e1 w'=>e1=.returned (.tuple #[])∧w'.ownsRow base e 1 (.slice ao n cap) n ((zs.mergeSort fun x y=>decide (x≤y)).map (Value.int .i64))∧Below base w w':=by
 have hz:zs.length=n:=by simpa using h.1
 by_cases hv:(Value.slice ao n cap)=.slice none 0 0
 ·cases hv
  refine (Calls.mono (Tryz.slices_Sort_int_none none 0 w) ?_)
  rintro e1 w' ⟨rfl,rfl⟩
  obtain rfl:zs=[]:=List.eq_nil_of_length_eq_zero hz
  exact ⟨rfl,by simpa using h,Below.refl _ _⟩
 ·obtain ⟨g,c,hs,hg,hlt,hnc,hcm,hzn,hH⟩:=Lib.holds_of_ownsRow h hv
  cases hs
  subst hzn
  refine (Tryz.slices_Sort_int g 0 cap zs w hH hlt (by omega)).mono ?_
  rintro e1 w' ⟨rfl,q,os,rfl⟩
  have hl:(zs.mergeSort fun x y=>decide (x≤y)).length=zs.length:=List.length_mergeSort _
  refine ⟨rfl,ZdI ?_ os,ZdH (Lib.below_putRow (Below.refl _ _) hg) hb os⟩
  have:=Lib.ownsRow_putRow (q:=q) (ys:=zs.mergeSort fun x y=>decide (x≤y)) h hl (Nat.le_refl _)
  rwa [List.take_of_length_le (by omega)] at this
theorem ZdK (hc:(Lib.compact zs).length≤n):
  Calls Tryz.prog 108 #[.slice ao n cap] w fun e1 w'=>e1=.returned (.slice ao (Lib.compact zs).length cap)∧w'.ownsRow base e 1 (.slice ao (Lib.compact zs).length cap) (Lib.compact zs).length ((Lib.compact zs).map (Value.int .i64))∧Below base w w':=by
 have hz:zs.length=n:=by simpa using h.1
 by_cases hv:(Value.slice ao n cap)=.slice none 0 0
 ·cases hv
  obtain rfl:zs=[]:=List.eq_nil_of_length_eq_zero hz
  have hl:(Lib.compact ([]:List Int))=[]:=List.eq_nil_of_length_eq_zero (by omega)
  rw [hl]
  refine (Calls.mono (Tryz.slices_Compact_int_empty none 0 w) ?_)
  rintro e1 w' ⟨rfl,rfl⟩
  exact ⟨rfl,by simpa using h,Below.refl _ _⟩
 ·obtain ⟨g,c,hs,hg,hlt,hnc,hcm,hzn,hH⟩:=Lib.holds_of_ownsRow h hv
  cases hs
  subst hzn
  refine (Tryz.slices_Compact_int g 0 cap zs w hH (by omega) hnc).mono ?_
  rintro e1 w' ⟨rfl,q,rfl⟩
  refine ⟨rfl,?_,Lib.below_putRow (Below.refl _ _) hg⟩
  have:=Lib.ownsRow_putRow (q:=q) (ys:=Lib.compact zs++List.replicate (zs.length-(Lib.compact zs).length) 0) h (by simp;omega) hc
  rwa [List.take_left'] at this
  rfl
end
theorem ZdL {w:World}{b:Nat}{xs:Array Value}{t:TypeId} (H:Blk w b xs t) {n size:Nat} (h:xs.size=n*size):SlA w size (some ⟨b,0,none⟩) n n xs.toList:=by
 refine ⟨by simpa using h,(fun h=>by cases h),fun j u hu=>⟨_,rfl,?_⟩⟩
 have hadd:(⟨b,0,none⟩:Addr).add j=⟨b,j,none⟩:=by unfold Addr.add;split<;>simp_all
 rw [hadd]
 exact H.cell j (by simpa using hu)
def ZdM (m:Md) (s k:Nat):List Int:=((m.cl.take k).map fun c=>c.m.getD s 0).filter fun n=>decide (0≤n)
theorem ZdN (m:Md) (s:Nat):ZaN m s=ZaM (ZdM m s m.cl.length):=by unfold ZaN ZdM;rw [List.take_length,Int.toNat_natCast]
theorem ZdO (m:Md) (s k:Nat):(ZdM m s k).length≤k:=by
 unfold ZdM
 have h2:=List.length_filter_le (fun n:Int=>decide (0≤n)) ((m.cl.take k).map fun c=>c.m.getD s 0)
 rw [List.length_map,List.length_take] at h2
 omega
theorem ZdP {m:Md}{s k:Nat} (hk:k<m.cl.length) (h:0≤(m.cl.getD k default).m.getD s 0):ZdM m s (k+1)=ZdM m s k++[(m.cl.getD k default).m.getD s 0]:=by
 exact k70
theorem ZdQ {m:Md}{s k:Nat} (hk:k<m.cl.length) (h:¬ 0≤(m.cl.getD k default).m.getD s 0):ZdM m s (k+1)=ZdM m s k:=by
 exact k70
section
variable (m:Md)(h:Hd)(s:Int)(w:World)(H:Zay w h m)(hs:0≤s∧s<m.sel)(hn:m.cl.length≤10)(hl:∀ j,j<m.cl.length→((m.cl.getD j default).m.length:Int)=m.sel)
include m h s w H hs hn hl
theorem ZdR:
  Calls Tryz.prog 243 #[.agg #[.slice h.co m.cl.length h.cc,.slice h.so m.st.length h.sc,.slice h.eo m.me.length h.ec,.int .i64 m.sel],.int .i64 s] w (ZdF w (ZaN m s)):=by
 obtain ⟨hs0,hs1⟩:=hs
 obtain ⟨s,rfl⟩:∃ t:Nat,s=t:=⟨s.toNat,by omega⟩
 have hX:=Blk.new w #[.slice h.co m.cl.length h.cc,.slice h.so m.st.length h.sc,.slice h.eo m.me.length h.ec,.int .i64 m.sel] 26
 have hb0:Below w.heap.size w (w.alloc (.cells #[.slice h.co m.cl.length h.cc,.slice h.so m.st.length h.sc,.slice h.eo m.me.length h.ec,.int .i64 m.sel] 26)):=by exact bE
 have hz:(w.alloc (.cells #[.slice h.co m.cl.length h.cc,.slice h.so m.st.length h.sc,.slice h.eo m.me.length h.ec,.int .i64 m.sel] 26)).heap.size=w.heap.size+1:=by simp
 have HX:=Zh hX
 have HM:=Zh (H.old hb0)
 have HL:=Zh hl
 have HB0:=Zh hb0
 have HZ:=Zh hz
 clear hX H hl hb0 hz
 obtain ⟨co,cc,so,sc,eo,ec,hc,he⟩:=h
 dsimp only at HX HM HB0 HZ ⊢
 go_enter Tryz.func243,Tryz.ntmps243
 go_upto_region 1 with fail
 generalize w.alloc _=w0 at HX HM HB0 HZ ⊢
 have r0:w0.cell? ⟨w.heap.size,0,none⟩=some (.slice co m.cl.length cc):=HX.out.cell 0 rfl
 have rl:=HX.out.lt
 go_wp2_with fail
 go_loopw [5,12] (fun o i wr=>∃ (k:Nat) (ao:Option Addr) (cap:Nat),k≤m.cl.length∧i=.int .i64 k∧o=.slice ao (ZdM m s k).length cap∧wr.ownsRow w0.heap.size 3 1 (.slice ao (ZdM m s k).length cap) (ZdM m s k).length ((ZdM m s k).map (Value.int .i64))∧Below w0.heap.size w0 wr) (fun _ i _=>m.cl.length-(intOf i).toNat)
 case atStart=>exact ⟨0,none,0,by omega,rfl,rfl,World.ownsRow_nil _ _ _ _,Below.refl _ _⟩
 case round=>
  obtain ⟨k,ao,cap,hk,rfl,rfl,hown,hbl⟩:=hrel
  have hlen:=ZdO m s k
  by_cases hkl:k<m.cl.length
  ·obtain ⟨ad,hco,c0,c1,c2,c3⟩:=(HM.out.old hbl).cls hkl
   obtain ⟨ad3,hmo,t0⟩:=ZaB ((HM.out.old hbl).t k hkl) (i:=s) (by have:=HL.out k hkl;omega)
   have hst:s<(m.cl.getD k default).m.length:=by have:=HL.out k hkl;omega
   have hyes:=ZdP (m:=m) (s:=s) hkl
   have hno:=ZdQ (m:=m) (s:=s) hkl
   dsimp only at hco c2 c3 hmo
   subst hco
   rw [hmo] at c3
   have HMo:=Zh hmo
   clear hmo
   generalize (m.cl.getD k default).m.getD s 0=n at t0 hyes hno
   generalize (m.cl.getD k default).m.length=tn at c3 hst
   generalize (m.cl.getD k default).n=nm at c0
   generalize (m.cl.getD k default).sup=sup at c1
   generalize (m.cl.getD k default).f.length=fl at c2
   generalize hzs:ZdM m s k=zs at hown hlen hyes hno ⊢
   have HZs:=Zh hzs
   clear hzs
   have hkl2:(k:Int) < m.cl.length:=by omega
   have hst2:(s:Int) < tn:=by omega
   have hwr:IntKind.i64.wrap ((k:Int)+1)=k+1:=IntWalk.i64_in _ (by omega)
   have t1:∀ o,(wr.alloc o).cell? (ad3.add s)=some (.int .i64 n):=fun o=>by rw [(show Below wr.heap.size wr (wr.alloc o) by exact bE).cell (Zac t0)];exact t0
   by_cases hn0:0≤n
   ·have hy:=hyes hn0
    have hn1:n ≥ 0:=hn0
    have HY:=Zh hy
    clear hyes hno hy
    go_wp2_with (at_builtin;refine Zaj rfl (.tmp 23) (.tmp 25) 34 rfl w0.heap.size 3 1 8 Zcq (.slice ao zs.length cap) zs.length (zs.map (Value.int .i64)) rfl ((hown.alloc _).alloc _) _ 1 1 [.int .i64 n] rfl (ZdL (Blk.new' #[.int .i64 n] 3 (by simp)) rfl) (by intro u hu;rw [List.mem_singleton.1 hu];rfl) (by omega) (by unfold maxLen;omega) (by have:=hbl.size;simp;omega) ?_;intro ao1 cap1 w10 hown9 hg9;have HO9:=Zh hown9;have HB9:=Zh (ZcV (bal (bal hbl _) _) hg9 (fun j hj=>(hown.lt j hj).1));clear hown9 hg9)
    exact k56
   ·have hy:=hno hn0
    have hn1:¬ n ≥ 0:=hn0
    have HY:=Zh hy
    have HO:=Zh hown
    have HB:=Zh hbl
    clear hyes hno hy hown hbl
    go_wp2
    go_roundw
    case rel=>exact ⟨k+1,ao,cap,by omega,by go_num,by rw [HY.out],by rw [HY.out];exact HO.out.alloc _,bal HB.out _⟩
    case measure=>simp [intOf];omega
  ·obtain rfl:k=m.cl.length:=by omega
   have hall:=ZdN m s
   generalize ZdM m s m.cl.length=zs at hown hlen hall ⊢
   have HAll:=Zh hall
   have HO:=Zh hown
   have HB:=Zh hbl
   have hcm:=ZdD zs
   have HC:=Zh hcm
   have hsl:=ZdA zs
   clear hall hown hbl hcm
   go_wp2_with fail
   refine (ZdJ ao zs.length cap zs _ HO.out (by omega) HB.out.size).mono ?_
   rintro e1 w1 ⟨rfl,hown1,hb1⟩
   have HO1:=Zh hown1
   have HB1:=Zh hb1
   clear hown1 hb1
   go_wp2_with fail
   refine (ZdK ao zs.length cap (zs.mergeSort fun x y=>decide (x≤y)) _ HO1.out (by omega) (by have:=HB.out.size;have:=HB1.out.size;omega) (by rw [HC.out];exact hsl)).mono ?_
   rintro e2 w2 ⟨rfl,hown2,hb2⟩
   have HO2:=Zh hown2
   have HB2:=Zh hb2
   clear hown2 hb2
   go_wp2
   go_ret
   refine ⟨⟨ao,cap,by rw [HC.out,HAll.out];rfl,?_⟩,?_⟩
   ·have h2:=HO2.out
    rw [HC.out] at h2
    rw [HAll.out]
    refine ⟨Zar.of_own (by rw [Zat];exact h2),fun a ha=>?_⟩
    subst ha
    have:=(h2.lt a.block rfl).1
    have:=HZ.out
    omega
   ·exact Zaf HB0.out ((HB.out.trans HB1.out).trans HB2.out)
theorem ZdS:
  Calls Tryz.prog 243 #[.agg #[.slice h.co m.cl.length h.cc,.slice h.so m.st.length h.sc,.slice h.eo m.me.length h.ec,.int .i64 m.sel],.int .i64 s] w (ZdE w (ZaN m s)):=
 (ZdR m h s w H hs hn hl).mono fun e w' ⟨⟨ao,cap,h1,h2,_⟩,h3⟩=>⟨⟨ao,cap,h1,h2⟩,h3⟩
end
end
section
open Go.RowKit
theorem ZdT : Tryz.prog.fieldsOf 76 = #[⟨"Kind", 3, 0, false, "", "", 0⟩, ⟨"Class", 3, 1, false, "", "", 8⟩] := by kernel_rfl
theorem ZdU (w:World) (a b c d:Int):Sem.run Tryz.prog (Op.equalIn 10000 76 (.agg #[.int .i64 a,.int .i64 b]) (.agg #[.int .i64 c,.int .i64 d])) w=.ok (decide ((⟨a,b⟩:Ty)=⟨c,d⟩)) w:=by
 have hu:Tryz.prog.underlying 76=some (.struct (Tryz.prog.fieldsOf 76)):=by kernel_rfl
 rw [run_equalIn_agg _ _ _ _ _ hu (by kernel_rfl),ZdT]
 have p0:∀ (x y:Int) w,Sem.run Tryz.prog (part 3 #[.int .i64 x,.int .i64 y] 0) w=.ok (.int .i64 x) w:=fun x y w=>by kernel_rfl
 have p1:∀ (x y:Int) w,Sem.run Tryz.prog (part 3 #[.int .i64 x,.int .i64 y] 1) w=.ok (.int .i64 y) w:=fun x y w=>by kernel_rfl
 have hi:∀ (x y:Int) w,Sem.run Tryz.prog (Op.equalIn 9999 3 (.int .i64 x) (.int .i64 y)) w=.ok (x == y) w:=fun x y w=>run_equalIn_int w 9998 3 .i64 .i64 x y Tryz.underlying3
 simp only [Op.eqFields,Sem.run_bind,p0,p1,hi,Result.andThen_ok]
 by_cases h1:a=c<;>by_cases h2:b=d<;>simp [h1,h2,Op.eqFields,p0,p1,hi]
theorem ZdV (w:World) (a b c d:Int):Sem.run Tryz.prog (binOp .eql 76 (.agg #[.int .i64 a,.int .i64 b]) (.agg #[.int .i64 c,.int .i64 d])) w=.ok (.bool (decide ((⟨a,b⟩:Ty)=⟨c,d⟩))) w:=by
 rw [run_eql_struct,ZdU];rfl
theorem ZdW (w:World) (a b c d:Int):Sem.run Tryz.prog (binOp .neq 76 (.agg #[.int .i64 a,.int .i64 b]) (.agg #[.int .i64 c,.int .i64 d])) w=.ok (.bool (!decide ((⟨a,b⟩:Ty)=⟨c,d⟩))) w:=by
 rw [run_neq_struct,ZdU];rfl
theorem ZdX (w:World) (op:BinOp) (x y:Operand) (xs ys:Array Value):Sem.run Tryz.prog (eqGuard op 76 x y (.agg xs) (.agg ys)) w=.ok () w:=run_eqGuard_agg w op 76 x y xs ys (by kernel_rfl)
end
section
open Go.RowKit
inductive Ord
 | done
 | plain (i:Nat) (t:Ord)
 | one (i:Nat) (t:Ord)
 | two (i j:Nat) (t u:Ord)
def oL:List Nat→Ord
 | []=>.done
 | n :: r=>if n<100 then .plain n (oL r) else .one (n-100) (oL r)
def Ord.len:Ord→Nat
 | .done=>0
 | .plain _ t=>t.len+1
 | .one _ t=>t.len+1
 | .two _ _ t _=>t.len+1
def Ord.inB (n:Nat):Ord→Bool
 | .done=>true
 | .plain i t=>decide (i<n)&&t.inB n
 | .one i t=>decide (i<n)&&t.inB n
 | .two i j t u=>decide (i<n)&&decide (j<n)&&t.inB n&&u.inB n
section
variable {P:Program}{ops:Array Oper}{md:Region.Mode}{S:World→Prop}{Q:Exit→Act→World→Prop}
def ZdY (P:Program) (l:List Oper) (Q:Exit→Act→World→Prop) (S:World→Prop):Ord→Act→World→Prop
 | .done,a,w=>Q .normal a w
 | .plain i t,a,w=>∃ v,YieldsIf P l.toArray S (Zcg l i) v a∧ZdY P l Q S t (a.put (Zcg l i).dst v) w
 | .one i t,a,w=>wpOp P l.toArray Q i (fun a' w'=>S w'∧ZdY P l Q S t a' w') a w
 | .two i j t u,a,w=>wpOp P l.toArray Q i (fun a' w'=>S w'∧ZdY P l Q S t a' w') a w∧wpOp P l.toArray Q j (fun a' w'=>S w'∧ZdY P l Q S u a' w') a w
def ZdZ (md:Region.Mode) (ops:Array Oper):Ord→Array Bool→Bool
 | .done,listed=>decide (Region.ready md ops listed=[])
 | .plain k t,listed=>(Region.ready md ops listed).contains k&&Region.free md ops listed k&&ZdZ md ops t (listed.setIfInBounds k true)
 | .one k t,listed=>decide (Region.ready md ops listed=[k])&&ZdZ md ops t (listed.setIfInBounds k true)
 | .two i j t u,listed=>decide (Region.ready md ops listed=[i,j])&&decide (t.len=u.len)&&ZdZ md ops t (listed.setIfInBounds i true)&&ZdZ md ops u (listed.setIfInBounds j true)
theorem Zd0 {l:List Oper} (hQ:∀ c a d v w,Q (.panic c) (Act.put a d v) w→Q (.panic c) a w) (hsel:Region.noSelect l.toArray=true) :
  ∀ (t:Ord) (listed:Array Bool) (a:Act) (w:World),t.inB l.length=true→S w→ZdZ md l.toArray t listed=true→ZdY P l Q S t a w→Zb7 P md l.toArray Q S t.len listed a w
 | .done,listed,a,w,_,_,hB,h=>⟨by simpa [ZdZ] using hB,h⟩
 | .plain k t,listed,a,w,hi,hS,hB,h=>by
  simp only [ZdZ,Bool.and_eq_true] at hB
  simp only [Ord.inB,Bool.and_eq_true,decide_eq_true_eq] at hi
  obtain ⟨⟨hr,hf⟩,hB'⟩:=hB
  obtain ⟨v,hy,hK⟩:=h
  have h0:l.toArray[k]?=some (Zcg l k):=by simp [Zcg,hi.1]
  exact Zb9 h0 (Region.noSelect_spec hsel) hQ t.len listed a w (Region.free_spec h0 hf) (by simpa using hr) hy hS (Zd0 hQ hsel t _ _ _ hi.2 hS hB' hK)
 | .one k t,listed,a,w,hi,hS,hB,h=>by
  simp only [ZdZ,Bool.and_eq_true,decide_eq_true_eq] at hB
  simp only [Ord.inB,Bool.and_eq_true,decide_eq_true_eq] at hi
  refine ⟨by rw [hB.1];simp,fun i hin=>?_⟩
  rw [hB.1] at hin
  obtain rfl:i=k:=by simpa using hin
  exact wpOp_mono (fun a' w' h'=>⟨h'.1,Zd0 hQ hsel t _ _ _ hi.2 h'.1 hB.2 h'.2⟩) h
 | .two i j t u,listed,a,w,hi,hS,hB,h=>by
  simp only [ZdZ,Bool.and_eq_true,decide_eq_true_eq] at hB
  simp only [Ord.inB,Bool.and_eq_true,decide_eq_true_eq] at hi
  refine ⟨by rw [hB.1.1.1];simp,fun k hin=>?_⟩
  rw [hB.1.1.1] at hin
  rcases (show k=i∨k=j by simpa using hin) with rfl|rfl
  ·exact wpOp_mono (fun a' w' h'=>⟨h'.1,Zd0 hQ hsel t _ _ _ hi.1.2 h'.1 hB.1.2 h'.2⟩) h.1
  ·have hlen:(Ord.two i k t u).len=u.len+1:=by rw [←hB.1.1.2];rfl
   show wpOp P l.toArray Q k (fun a' w'=>S w'∧Zb7 P md l.toArray Q S t.len (listed.setIfInBounds k true) a' w') a w
   rw [hB.1.1.2]
   exact wpOp_mono (fun a' w' h'=>⟨h'.1,Zd0 hQ hsel u _ _ _ hi.2 h'.1 hB.2 h'.2⟩) h.2
theorem Zd1 {id:Nat}{a:Act}{w:World}{l:List Oper} (S:World→Prop) (t:Ord) (hm:P.follows .mixedOrders=true)
  (hB:(Region.noSelect l.toArray&&decide (t.len=l.length)&&t.inB l.length&&ZdZ .any l.toArray t (Array.replicate l.length false))=true) (hQ:∀ c a d v w,Q (.panic c) (Act.put a d v) w→Q (.panic c) a w) (hS:S w.drew)
  (h:ZdY P l Q S t a w.drew):(Code.region id l.toArray true).wp P Q a w:=by
 simp only [Bool.and_eq_true,decide_eq_true_eq] at hB
 obtain ⟨⟨⟨hsel,hlen⟩,hin⟩,hlex⟩:=hB
 refine wp_region_any hm ?_
 have:=Zd0 (P:=P) (Q:=Q) (S:=S) (md:=.any) hQ hsel t _ a w.drew hin hS hlex h
 rw [hlen] at this
 have h2:=Zb8 _ _ _ _ this
 simpa using h2
theorem Zd2 {a:Act}{w:World}{k:Nat}{K:Act→World→Prop} (o:Oper) (ho:ops[k]?=some o) (hw:Region.wanted o (yielded ops a.tmps)=true) (h:∀ Kv:Act→World→Prop,(∀ a w,K a w→Kv a w)→o.wp P a w Kv Q):wpOp P ops Q k K a w:=by
 unfold wpOp
 simp only [ho,hw,if_true]
 exact .inl (h _ fun _ _ h1=>h1)
theorem Zd3 {l:List Oper}{k:Nat}{t:Ord}{a:Act}{w:World} (h:wpOp P l.toArray Q k (fun a' w'=>S w'∧ZdY P l Q S t a' w') a w):ZdY P l Q S (.one k t) a w:=h
theorem Zd4 {l:List Oper}{i j:Nat}{t u:Ord}{a:Act}{w:World} (h1:wpOp P l.toArray Q i (fun a' w'=>S w'∧ZdY P l Q S t a' w') a w) (h2:wpOp P l.toArray Q j (fun a' w'=>S w'∧ZdY P l Q S u a' w') a w):ZdY P l Q S (.two i j t u) a w:=⟨h1,h2⟩
theorem Zd5 {l:List Oper}{a:Act}{w:World} (h:Q .normal a w):ZdY P l Q S .done a w:=h
end
section
variable {P:Program}{S:World→Prop}{Q:Exit→Act→World→Prop}
def Cs:List (Addr × Value)→World→Prop
 | [],_=>True
 | (a,v) :: l,w=>w.cell? a=some v∧Cs l w
theorem pO {l:List Oper}{k:Nat}{t:Ord}{a a':Act}{w:World}{o:Oper}{v:Value} (h:ZdY P l Q S t a' w) (ho:Zcg l k=o:=by (simp only [Zcg,List.getD_cons_zero,List.getD_cons_succ];rfl)) (hy:YieldsIf P l.toArray S o v a:=by first|(refine Or.inl ⟨by rfl,?_⟩;intro w hSw;(try dsimp only [Cs] at hSw);go_simp;(try with_reducible rfl);done)|exact Or.inr ⟨by rfl,rfl⟩) (ha:a.put o.dst v=a':=by ((try simp only [Act.put,List.setIfInBounds_toArray,List.set_cons_zero,List.set_cons_succ]);rfl)):ZdY P l Q S (.plain k t) a w:=by
 subst ho ha
 exact ⟨v,hy,h⟩
theorem oO {l:List Oper}{k:Nat}{t:Ord}{a:Act}{w:World}{o:Oper} (h:∀ Kv:Act→World→Prop,(∀ a w,S w∧ZdY P l Q S t a w→Kv a w)→o.wp P a w Kv Q) (ho:l.toArray[k]?=some o:=by rfl) (hw:Region.wanted o (yielded l.toArray a.tmps)=true:=by rfl):ZdY P l Q S (.one k t) a w:=Zd3 (Zd2 o ho hw h)
theorem rO {id:Nat}{a:Act}{w:World}{l:List Oper} (S:World→Prop) (t:Ord) (hS:S w.drew) (h:ZdY P l Q S t a w.drew) (hm:P.follows .mixedOrders=true:=by kernel_rfl)
  (hB:(Region.noSelect l.toArray&&decide (t.len=l.length)&&t.inB l.length&&ZdZ .any l.toArray t (Array.replicate l.length false))=true:=by kernel_rfl) (hQ:∀ c a d v w,Q (.panic c) (Act.put a d v) w→Q (.panic c) a w:=by intro c a d v w h;cases d<;>exact h):(Code.region id l.toArray true).wp P Q a w:=Zd1 S t hm hB hQ hS h
end
end
section
open Go.RowKit
attribute [local go_sem] World.cell?_alloc_some
def Zd6 (l:List Int) (k:Nat):List Int:=ZaM (l.take k)
theorem Zd7 (l:List Int) (k:Nat):(Zd6 l k).length≤k:=by
 have:=ZdA (l.take k)
 rw [List.length_take] at this
 unfold Zd6;omega
theorem Zd8 {l:List Int}{k:Nat} (h:k<l.length):Zd6 l (k+1)=ZaL (l.getD k 0) (Zd6 l k):=by
 have e:l.take (k+1)=l.take k++[l.getD k 0]:=by rw [List.take_succ_eq_append_getElem h];simp [h]
 unfold Zd6 ZaM
 rw [e,List.foldl_append]
 rfl
theorem Zd9 (n:Int):∀ (zs:List Int) (a:Nat),a≤zs.length→(∀ j,j<a→zs.getD j 0<n)→(a<zs.length→¬ zs.getD a 0<n)→ZaL n zs=if a<zs.length∧zs.getD a 0=n then zs else zs.take a++n :: zs.drop a:=by
 intro zs
 induction zs with
 | nil=>
     intro a ha _ _
     obtain rfl:a=0:=by simpa using ha
     rfl
 | cons z r ih=>
  intro a ha h1 h2
  cases a with
  | zero=>
   have h3:¬ z<n:=by simpa using h2 (by simp)
   unfold ZaL
   rw [if_neg h3]
   simp
  | succ a=>
   have h3:z<n:=by simpa using h1 0 (by omega)
   have h4:=ih a (by simpa using ha) (fun j hj=>by simpa using h1 (j+1) (by omega)) (fun h=>by simpa using h2 (by simpa using h))
   unfold ZaL
   rw [if_pos h3,h4]
   simp only [List.length_cons,List.getD_cons_succ,List.take_succ_cons,List.drop_succ_cons,List.cons_append]
   by_cases hc:a<r.length∧r.getD a 0=n
   ·rw [if_pos hc,if_pos ⟨by omega,hc.2⟩]
   ·rw [if_neg hc,if_neg (fun h=>hc ⟨by omega,h.2⟩)]
def Zea (W:World) (l:List Int):Ending→World→Prop:=fun e w'=>(∃ ao cap,e=.returned (.slice ao l.length cap)∧w'.ownsRow W.heap.size 3 1 (.slice ao l.length cap) l.length (l.map (Value.int .i64)))∧Below W.heap.size W w'
theorem Zeb {w w':World}{base:Nat}{e:TypeId}{size:Nat}{v:Value}{n:Nat}{xs:List Value}{row:Option Nat} (h:w.ownsRow base e size v n xs) (hg:w.grownBy w' row) (hne:∀ b,v.ownBlock=some b→some b≠row):w'.ownsRow base e size v n xs:=by
 obtain ⟨h1,h2⟩:=h
 refine ⟨h1,?_⟩
 rcases h2 with h2|⟨g,cap,cur,hv,hb,hh,h3⟩
 ·exact .inl h2
 ·subst hv
  exact .inr ⟨g,cap,cur,rfl,hb,Blk.grownV (t:=e) hh hg (hne g rfl),h3⟩
theorem Zec (w:World) (t:TypeId) (base b:Nat) (hb:base≤b) (h:Blk w b #[] t):w.ownsRow base t 1 (.slice (some ⟨b,0,none⟩) 0 0) 0 []:=
 ⟨rfl,.inr ⟨b,0,#[],rfl,hb,h,Nat.le_refl _,by unfold maxLen;omega,rfl,rfl⟩⟩
theorem Zed {w:World}{base base':Nat}{e:TypeId}{size:Nat}{v:Value}{n:Nat}{xs:List Value} (h:w.ownsRow base e size v n xs) (hb:base'≤base):w.ownsRow base' e size v n xs:=by
 obtain ⟨h1,h2⟩:=h
 refine ⟨h1,?_⟩
 rcases h2 with h2|⟨g,cap,cur,hv,hg,h3⟩
 ·exact .inl h2
 ·exact .inr ⟨g,cap,cur,hv,Nat.le_trans hb hg,h3⟩
theorem Zee {w:World}{base:Nat}{e:TypeId}{g n cap:Nat}{zs:List Int} (h:w.ownsRow base e 1 (.slice (some ⟨g,0,none⟩) n cap) n (zs.map (Value.int .i64))) {a:Nat} (ha:a≤n) (c:Nat):SlA w 1 (some ⟨g,0,none⟩) a c ((zs.take a).map (Value.int .i64)):=by
 have hz:zs.length=n:=by simpa using h.1
 refine ⟨by simp [hz,ha],(fun h=>by cases h),fun j u hu=>⟨_,rfl,?_⟩⟩
 have hadd:(⟨g,0,none⟩:Addr).add j=⟨g,j,none⟩:=by unfold Addr.add;split<;>simp_all
 rw [hadd]
 refine Zcz h (by simpa using hz) j ?_
 rw [List.getElem?_map,List.getElem?_take] at hu
 split at hu
 ·rw [List.getElem?_map];exact hu
 ·simp at hu
theorem Zef {P:Program}{w:World}{o:Oper}{a:Act}{K:Act→World→Prop}{Q:Exit→Act→World→Prop} (s x:Operand) (t:TypeId)
  (ho:o.op=.call { callee:=.builtin .append,args:=#[s,x],argTypes:=#[t,t] })
  (e:TypeId) (size bytes:Nat) (hel:El P t e size bytes)
  (ao:Option Addr) (n cap:Nat) (olds:List Value) (hs:a.eval s=.slice ao n cap) (hol:SlA w size ao n cap olds)
  (bo:Option Addr) (m c:Nat) (news:List Value) (hx:a.eval x=.slice bo m c) (hsl:SlA w size bo m c news) (h1:∀ u∈news,u.oneCell'=true) (hm:0<m) (hfull:cap<n+m)
  (hbytes:(n+m)*bytes≤140737488355328) (h63:n+m≤maxLen)
  (h:∀ ao' cap' w',w'.ownsRow w.heap.size e size (.slice ao' (n+m) cap') (n+m) (olds++news)→w.grownBy w' none→K (a.put o.dst (.slice ao' (n+m) cap')) w'):o.wp P a w K Q:=by
 obtain ⟨i,z,hi,hz,hsize,hby,hzs⟩:=hel.info
 have hK:∀ v' w',w'.ownsRow w.heap.size e size v' (n+m) (olds++news)→w.grownBy w' none→K (a.put o.dst v') w':=by
  intro v' w' hown' hg
  rcases hown'.2 with ⟨rfl,hnm⟩|⟨g,c,cur,rfl,hr⟩
  ·omega
  ·exact h _ c w' hown' hg
 cases bo with
 | none=>have:=(hsl.2.1 rfl).1;omega
 | some ad=>
  have hc:∀ j u,news[j]?=some u→w.cell? (ad.add j)=some u:=fun j u hu=>by
   obtain ⟨a',ha',hc⟩:=hsl.2.2 j u hu
   obtain rfl:=Option.some.inj ha'
   exact hc
  cases ao with
  | some b=>
   obtain ⟨v',w',hrun,r1,r2⟩:=run_append_arg_grows (P:=P) w t o.type e i z size bytes hel.und hi hz hsize hby hzs hel.pos b n cap olds hol.1 (fun j u hu=>by
    obtain ⟨a',ha',hc⟩:=hol.2.2 j u hu
    obtain rfl:=Option.some.inj ha'
    exact hc) ad m c news hsl.1 hc hfull h63 hbytes
   unfold Oper.wp
   simp [execOp,ho,resolve,invoke,builtin,hs,hx,hrun,Result.andThen]
   exact hK v' w' r1 r2
  | none=>
   obtain ⟨rfl,rfl⟩:=hol.2.1 rfl
   obtain rfl:olds=[]:=List.eq_nil_of_length_eq_zero (by simpa using hol.1)
   obtain ⟨v',w',hrun,r1,r2,_⟩:=run_append_own (P:=P) w w.heap.size t o.type e i z size bytes hel.und hi hz hsize hby hzs hel.pos (.slice none 0 0) 0 [] (World.ownsRow_nil w _ e size) ad m c news hsl.1 hc h1 h63 hbytes (Nat.le_refl _)
   unfold Oper.wp
   simp [execOp,ho,resolve,invoke,builtin,hs,hx,hrun,Result.andThen]
   exact hK v' w' r1 r2
theorem Zeg {w:World}{base:Nat}{e:TypeId}{g n cap:Nat}{zs:List Int} (h:w.ownsRow base e 1 (.slice (some ⟨g,0,none⟩) n cap) n (zs.map (Value.int .i64))) {a:Nat} (ha:a≤n) (c:Nat):SlA w 1 (some ⟨g,a,none⟩) (n-a) c ((zs.drop a).map (Value.int .i64)):=by
 have hz:zs.length=n:=by simpa using h.1
 refine ⟨by simp [hz],(fun h=>by cases h),fun j u hu=>⟨_,rfl,?_⟩⟩
 have hadd:(⟨g,a,none⟩:Addr).add j=⟨g,a+j,none⟩:=by unfold Addr.add;split<;>simp_all
 rw [hadd]
 refine Zcz h (by simpa using hz) (a+j) ?_
 rw [List.getElem?_map,List.getElem?_drop] at hu
 rw [List.getElem?_map]
 exact hu
theorem Zeh (w:World) (p:Addr) (c:Nat):SlA w 1 (some p) 0 c []:=⟨rfl,(fun h=>by cases h),fun j u hu=>by simp at hu⟩
theorem Zei (w:World):SlA w 1 none 0 0 []:=⟨rfl,fun _=>⟨rfl,rfl⟩,fun j u hu=>by simp at hu⟩
theorem Zej {P:Program}{w:World}{o:Oper}{a:Act}{K:Act→World→Prop}{Q:Exit→Act→World→Prop} (s x:Operand) (t:TypeId)
  (ho:o.op=.call { callee:=.builtin .append,args:=#[s,x],argTypes:=#[t,t] })
  (base:Nat) (e:TypeId) (size bytes:Nat) (hel:El P t e size bytes)
  (v:Value) (n:Nat) (xs:List Value) (hs:a.eval s=v) (hown:w.ownsRow base e size v n xs)
  (bo:Option Addr) (m c:Nat) (news:List Value) (hx:a.eval x=.slice bo m c) (hsl:SlA w size bo m c news) (h1:∀ u∈news,u.oneCell'=true)
  (hbytes:(n+m)*bytes≤140737488355328) (h63:n+m≤maxLen) (hbase:base≤w.heap.size)
  (h:∀ ao' cap' w',w'.ownsRow base e size (.slice ao' (n+m) cap') (n+m) (xs++news)→w.grownBy w' v.ownBlock→K (a.put o.dst (.slice ao' (n+m) cap')) w'):o.wp P a w K Q:=by
 obtain ⟨i,z,hi,hz,hsize,hby,hzs⟩:=hel.info
 cases bo with
 | none=>
  obtain ⟨rfl,rfl⟩:=hsl.2.1 rfl
  have hn:news=[]:=by have:=hsl.1;simpa using this
  subst hn
  have hv:∃ ao cap,v=.slice ao n cap:=by
   rcases hown.2 with ⟨rfl,rfl⟩|⟨g,c,cur,rfl,_⟩
   ·exact ⟨_,_,rfl⟩
   ·exact ⟨_,_,rfl⟩
  obtain ⟨ao,cap,rfl⟩:=hv
  have hrun:=run_append_owned_none (P:=P) (w:=w) base t o.type e i size hel.und hi _ n xs hown
  unfold Oper.wp
  simp [execOp,ho,resolve,invoke,builtin,hs,hx,hrun,Result.andThen]
  exact h ao cap w (by simpa using hown) ⟨rfl,rfl,rfl,Nat.le_refl _,fun _ _ _=>rfl⟩
 | some ad=>
  refine wp_append_own _ s x t ho base e i z size bytes hel.und hi hz hsize hby hzs hel.pos v n xs hs hown ad m c news hx hsl.1 (fun j u hu=>?_) h1 h63 hbytes hbase ?_
  ·obtain ⟨a',ha',hc⟩:=hsl.2.2 j u hu
   obtain rfl:=Option.some.inj ha'
   exact hc
  ·intro v' w' hown' hg _
   rcases hown'.2 with ⟨rfl,hnm⟩|⟨g,c,cur,rfl,hr⟩
   ·have:=h none 0 w'
    rw [hnm] at this hown'
    exact this hown' hg
   ·exact h _ c w' hown' hg
theorem Zek (l:List Int) (ao:Option Addr) (cap:Nat) (w:World) (hl:Zar w ao cap l) (hm:l.length≤1000000):Calls Tryz.prog 124 #[.slice ao l.length cap] w (Zea w (ZaM l)):=by
 have HL:=Zh hl
 clear hl
 go_enter Tryz.func124,Tryz.ntmps124
 go_wp2_with fail
 go_loopw [3,4] (fun o i wr=>∃ (k:Nat) (oo:Option Addr) (oc:Nat),k≤l.length∧i=.int .i64 k∧o=.slice oo (Zd6 l k).length oc∧wr.ownsRow w.heap.size 3 1 (.slice oo (Zd6 l k).length oc) (Zd6 l k).length ((Zd6 l k).map (Value.int .i64))∧Below w.heap.size w wr) (fun _ i _=>l.length-(intOf i).toNat)
 case atStart=>exact ⟨0,none,0,by omega,rfl,rfl,World.ownsRow_nil _ _ _ _,Below.refl _ _⟩
 case round=>
  obtain ⟨k,oo,oc,hk,rfl,rfl,hown,hbl⟩:=hrel
  by_cases hkl:k<l.length
  ·obtain ⟨ad,rfl,t0⟩:=ZaB (HL.out.old hbl) hkl
   have hzl:=Zd7 l k
   have hsu:=Zd8 hkl
   generalize hx:l.getD k 0=x at t0 hsu
   generalize hzs:Zd6 l k=zs at hown hzl hsu ⊢
   have HX:=Zh hx
   have HZ:=Zh hzs
   have HSu:=Zh hsu
   have HO:=Zh hown
   have HB:=Zh hbl
   clear hx hzs hsu hown hbl
   have hkl2:(k:Int) < l.length:=by omega
   have hwr:IntKind.i64.wrap ((k:Int)+1)=k+1:=IntWalk.i64_in _ (by omega)
   obtain ⟨wo,rfl⟩:∃ wo:World,wo=wr:=⟨_,rfl⟩
   go_wp2_with fail
   go_loopw [5] (fun at_ wi=>∃ a:Nat,a≤zs.length∧at_=.int .i64 a∧Hid (wi.ownsRow w.heap.size 3 1 (.slice oo zs.length oc) zs.length (zs.map (Value.int .i64)))∧Hid (Below w.heap.size w wi)∧Hid (∀ j,j<a→zs.getD j 0<x)) (fun at_ _=>zs.length-(intOf at_).toNat)
   case atStart=>exact ⟨0,by omega,rfl,HO,HB,Zh (by omega)⟩
   case round=>
    obtain ⟨a,ha,rfl,HO2,HB2,q1⟩:=hrel
    clear HO HB t0
    obtain ⟨ad',hadd,t0⟩:=ZaB (HL.out.old HB2.out) hkl
    obtain rfl:=Option.some.inj hadd
    rw [HX.out] at t0
    clear hadd
    have hwr2:IntKind.i64.wrap ((a:Int)+1)=a+1:=IntWalk.i64_in _ (by omega)
    by_cases haz:a<zs.length
    ·have haz2:(a:Int) < zs.length:=by omega
     have hazd:decide ((a:Int) < zs.length)=true:=by simpa using haz
     obtain ⟨g,rfl⟩:=Zai HO2.out (by omega)
     have hc:=Zcz HO2.out (by simp) a (v:=.int .i64 (zs.getD a 0)) (by rw [List.getElem?_map,List.getElem?_eq_getElem haz];simp [haz])
     generalize hy:zs.getD a 0=y at hc
     have HY:=Zh hy
     clear hy
     by_cases hyx:y<x
     ·go_wp2
      go_quiet (fail)
      go_wp2
      go_roundw
      case rel=>
       refine ⟨a+1,by omega,by go_num,HO2,Zh (ZcU HB2.out _),Zh fun j hj=>?_⟩
       by_cases hja:j<a
       ·exact q1.out j hja
       ·obtain rfl:j=a:=by omega
        rw [HY.out];exact hyx
      case measure=>simp [intOf];omega
     ·by_cases hyeq:y=x
      ·have hins:ZaL x zs=zs:=by rw [Zd9 x zs a ha q1.out (fun _=>by rw [HY.out];omega),if_pos ⟨haz,by rw [HY.out,hyeq]⟩]
       have HIns:=Zh hins
       clear hins
       subst hyeq
       go_wp2
       go_quiet (fail)
       go_wp2
       go_quiet (fail)
       go_wp2
       go_roundw
       case rel=>exact ⟨k+1,_,oc,by omega,by go_num,by rw [HSu.out,HIns.out],by rw [HSu.out,HIns.out];exact HO2.out,ZcU HB2.out _⟩
       case measure=>simp [intOf];omega
      ·have hyb:(y == x)=false:=by simpa using hyeq
       have hins:ZaL x zs=zs.take a++x :: zs.drop a:=by rw [Zd9 x zs a ha q1.out (fun _=>by rw [HY.out];exact hyx),if_neg (fun h=>hyeq (by rw [←HY.out];exact h.2))]
       have HIns:=Zh hins
       clear hins
       go_wp2
       go_quiet (fail)
       go_wp2
       go_quiet (fail)
       have hoc:=Zcy HO2.out
       have hoa:¬ oc=a:=by omega
       have hao:a≤oc:=by omega
       have hao2:(a:Int)≤oc:=by omega
       go_wp2_with (at_builtin;refine Zaj rfl (.tmp 45) (.tmp 48) 34 rfl wr.heap.size 3 1 8 Zcq _ 0 [] rfl (Zec _ _ _ _ (Nat.le_refl _) (Blk.new _ _ _)) _ _ _ ((zs.drop a).map (Value.int .i64)) rfl ((Zeg HO2.out ha _).alloc _) (by intro u hu;obtain ⟨y,_,rfl⟩:=List.mem_map.1 hu;rfl) (by omega) (by unfold maxLen;omega) (by simp) ?_;intro ao1 cap1 w5 hown5 hg5)
       have hb5:=ZcV (show Below w.heap.size w _ from bal (ZcU HB2.out _) _) hg5 (fun j hj=>by cases hj;exact HB2.out.size)
       have hO5:=Zeb ((show (wr.drewN _).ownsRow _ _ _ _ _ _ from HO2.out).alloc _) hg5 (fun b hb=>by cases hb;exact fun h=>absurd (Option.some.inj h) (Nat.ne_of_lt (Zcx HO2.out)))
       simp only [Nat.zero_add,List.nil_append] at hown5
       have HO5:=Zh hown5
       have HP5:=Zh hO5
       have HB5:=Zh hb5
       have hNw:=hg5.size
       clear hown5 hO5 hb5 hg5
       have hS:∀ w',Below w.heap.size w w'→w'.cell? (ad.add k)=some (.int .i64 x):=fun w' hb=>by obtain ⟨ad',hadd,t0⟩:=ZaB (HL.out.old hb) hkl;obtain rfl:=Option.some.inj hadd;rw [HX.out] at t0;exact t0
       have HS:=Zh hS
       have t5:=hS _ HB5.out
       clear hS
       refine rO (fun w'=>w'.cell? (ad.add k)=some (.int .i64 x)) (oL [0,1,2,3,4,5,6,7,10,108,109,111,12]) (HS.out w5.drew HB5.out.drew) ?_
       repeat refine pO ?_
       refine oO fun K hK=>?_
       go_simp
       refine hK _ _ ⟨HS.out _ (bal HB5.out.drew _),?_⟩
       clear hK K
       refine oO fun K hK=>?_
       refine Zef (.tmp 53) (.tmp 58) 34 rfl 3 1 8 Zcq _ a _ ((zs.take a).map (Value.int .i64)) rfl (SlA.alloc (w:=w5.drew) (Zee HP5.out ha _) _) _ 1 1 [.int .i64 x] rfl (ZdL (Blk.new w5.drew #[.int .i64 x] 3) rfl) (by intro u hu;rw [List.mem_singleton.1 hu];rfl) (by decide) (by omega) (by omega) (by unfold maxLen;omega) ?_
       intro ao2 cap2 w6 hown6 hg6
       have hb6:=ZcV (bal HB5.out.drew _) hg6 (fun j hj=>by cases hj)
       have hO6:=Zeb (World.ownsRow.alloc (w:=w5.drew) HO5.out (.cells #[.int .i64 x] 3)) hg6 (fun b hb h=>by cases h)
       have hw6:=hg6.size
       have HO6:=Zh hO6
       have HP6:=Zh hown6
       have HB6:=Zh hb6
       clear hO6 hown6 hb6 hg6
       refine hK _ _ ⟨HS.out _ HB6.out,?_⟩
       clear hK K
       refine oO fun K hK=>?_
       refine Zej (.tmp 59) (.tmp 60) 34 rfl _ 3 1 8 Zcq _ (a+1) _ rfl HP6.out _ _ _ _ rfl (Zah HO6.out).2 (by intro u hu;obtain ⟨y,_,rfl⟩:=List.mem_map.1 hu;rfl) (by omega) (by unfold maxLen;omega) hw6 ?_
       intro ao3 cap3 w7 hown7 hg7
       have hsz:w.heap.size≤(w5.alloc (.cells #[.int .i64 x] 3)).drew.heap.size:=(bal HB5.out (.cells #[.int .i64 x] 3)).size
       have hb7:=ZcV HB6.out hg7 (fun j hj=>Nat.le_trans hsz (HP6.out.lt j hj).1)
       have hO7:=Zed hown7 hsz
       have HO7:=Zh hO7
       have HB7:=Zh hb7
       clear hO7 hown7 hb7 hg7
       refine hK _ _ ⟨HS.out _ HB7.out,?_⟩
       clear hK K
       repeat refine pO ?_
       refine Zd5 ?_
       go_wp2
       go_roundw
       case rel=>
        have hlen:(Zd6 l (k+1)).length=a+1+(zs.length-a):=by rw [HSu.out,HIns.out];simp;omega
        exact k53
       case measure=>simp [intOf];omega
    ·have haz2:¬ (a:Int) < zs.length:=by omega
     have hazd:decide ((a:Int) < zs.length)=false:=by simpa using haz
     have hins:ZaL x zs=zs.take a++x :: zs.drop a:=by rw [Zd9 x zs a ha q1.out (fun h=>by omega),if_neg (fun h=>haz h.1)]
     have HIns:=Zh hins
     clear hins
     rcases HO2.out.2 with ⟨hv,-⟩|⟨g,cap',cur,hv,-⟩
     ·injection hv with h1 h2 h3
      subst h1 h3
      obtain rfl:zs=[]:=List.eq_nil_of_length_eq_zero h2
      obtain rfl:a=0:=by simpa using ha
      clear h2
      go_wp2
      go_quiet (fail)
      go_wp2
      go_quiet (fail)
      go_wp2_with (at_builtin;refine Zaj rfl (.tmp 45) (.tmp 48) 34 rfl wr.heap.size 3 1 8 Zcq _ 0 [] rfl (Zec _ _ _ _ (Nat.le_refl _) (Blk.new _ _ _)) _ _ _ ([]) rfl (Zei _) (by intro u hu;simp at hu) (by omega) (by unfold maxLen;omega) (by simp) ?_;intro ao1 cap1 w5 hown5 hg5)
      have hb5:=ZcV (show Below w.heap.size w _ from bal (ZcU HB2.out _) _) hg5 (fun j hj=>by cases hj;exact HB2.out.size)
      have hO5:=World.ownsRow_nil w5 w.heap.size 3 1
      simp only [Nat.zero_add,List.nil_append] at hown5
      have HO5:=Zh hown5
      have HP5:=Zh hO5
      have HB5:=Zh hb5
      have hNw:=hg5.size
      clear hown5 hO5 hb5 hg5
      have hS:∀ w',Below w.heap.size w w'→w'.cell? (ad.add k)=some (.int .i64 x):=fun w' hb=>by obtain ⟨ad',hadd,t0⟩:=ZaB (HL.out.old hb) hkl;obtain rfl:=Option.some.inj hadd;rw [HX.out] at t0;exact t0
      have HS:=Zh hS
      have t5:=hS _ HB5.out
      clear hS
      refine rO (fun w'=>w'.cell? (ad.add k)=some (.int .i64 x)) (oL [0,1,2,3,4,5,6,7,10,108,109,111,12]) (HS.out w5.drew HB5.out.drew) ?_
      repeat refine pO ?_
      refine oO fun K hK=>?_
      go_simp
      refine hK _ _ ⟨HS.out _ (bal HB5.out.drew _),?_⟩
      clear hK K
      refine oO fun K hK=>?_
      refine Zef (.tmp 53) (.tmp 58) 34 rfl 3 1 8 Zcq _ 0 _ ([]) rfl (SlA.alloc (w:=w5.drew) (Zei _) _) _ 1 1 [.int .i64 x] rfl (ZdL (Blk.new w5.drew #[.int .i64 x] 3) rfl) (by intro u hu;rw [List.mem_singleton.1 hu];rfl) (by decide) (by omega) (by omega) (by unfold maxLen;omega) ?_
      intro ao2 cap2 w6 hown6 hg6
      have hb6:=ZcV (bal HB5.out.drew _) hg6 (fun j hj=>by cases hj)
      have hO6:=Zeb (World.ownsRow.alloc (w:=w5.drew) HO5.out (.cells #[.int .i64 x] 3)) hg6 (fun b hb h=>by cases h)
      have hw6:=hg6.size
      have HO6:=Zh hO6
      have HP6:=Zh hown6
      have HB6:=Zh hb6
      clear hO6 hown6 hb6 hg6
      refine hK _ _ ⟨HS.out _ HB6.out,?_⟩
      clear hK K
      refine oO fun K hK=>?_
      refine Zej (.tmp 59) (.tmp 60) 34 rfl _ 3 1 8 Zcq _ (0+1) _ rfl HP6.out _ _ _ _ rfl (Zah HO6.out).2 (by intro u hu;simp at hu) (by omega) (by unfold maxLen;omega) hw6 ?_
      intro ao3 cap3 w7 hown7 hg7
      have hsz:w.heap.size≤(w5.alloc (.cells #[.int .i64 x] 3)).drew.heap.size:=(bal HB5.out (.cells #[.int .i64 x] 3)).size
      have hb7:=ZcV HB6.out hg7 (fun j hj=>Nat.le_trans hsz (HP6.out.lt j hj).1)
      have hO7:=Zed hown7 hsz
      have HO7:=Zh hO7
      have HB7:=Zh hb7
      clear hO7 hown7 hb7 hg7
      refine hK _ _ ⟨HS.out _ HB7.out,?_⟩
      clear hK K
      repeat refine pO ?_
      refine Zd5 ?_
      go_wp2
      go_roundw
      case rel=>
       have hlen:(Zd6 l (k+1)).length=1:=by rw [HSu.out,HIns.out];simp
       exact k53
      case measure=>simp [intOf];omega
     ·injection hv with h1 h2 h3
      subst h1 h3
      obtain rfl:a=zs.length:=by omega
      have hoc:=Zcy HO2.out
      have hao2:(zs.length:Int)≤oc:=by omega
      by_cases hoa:oc=zs.length
      ·subst hoa
       exact k5
      ·exact k5
  ·obtain rfl:k=l.length:=by omega
   have hall:Zd6 l l.length=ZaM l:=by unfold Zd6;rw [List.take_length]
   rw [hall] at hown ⊢
   have HO:=Zh hown
   have HB:=Zh hbl
   clear hown hbl hall
   go_wp2
   go_ret
   exact ⟨⟨_,_,rfl,HO.out⟩,HB.out⟩
end
section
open Go.RowKit Go.Shelf
attribute [local go_sem] Oper.semAt_some
structure VB where
 op:Int
 bo:Option Addr
 bn:Nat
 bc:Nat
 fo:Option Addr
 fn:Nat
 fc:Nat
 mid:Bool
instance:Inhabited VB:=⟨⟨0,none,0,0,none,0,0,false⟩⟩
instance:Cells VB:=⟨4,by decide,fun t=>[.int .i64 t.op,.slice t.bo t.bn t.bc,.slice t.fo t.fn t.fc,.bool t.mid],fun _=>rfl,by
 intro x u hu;simp only [List.mem_cons,List.not_mem_nil,or_false] at hu;rcases hu with rfl|rfl|rfl|rfl<;>rfl⟩
theorem Zel {w:World}{ao:Option Addr}{cap:Nat}{l:List VB} (h:Zar w ao cap l) {i:Nat} (hi:i<l.length):∃ ad,ao=some ad ∧
  w.cell? (ad.add (i*4))=some (.int .i64 (l.getD i default).op)∧w.cell? ⟨(ad.add (i*4)).block,(ad.add (i*4)).off+1,none⟩=some (.slice (l.getD i default).bo (l.getD i default).bn (l.getD i default).bc)∧w.cell? ⟨(ad.add (i*4)).block,(ad.add (i*4)).off+2,none⟩=some (.slice (l.getD i default).fo (l.getD i default).fn (l.getD i default).fc)∧w.cell? ⟨(ad.add (i*4)).block,(ad.add (i*4)).off+3,none⟩=some (.bool (l.getD i default).mid):=by
 obtain ⟨ad,rfl⟩:=h.some (by omega)
 have hx:l.getD i default=l[i]:=by simp [hi]
 rw [hx]
 exact ⟨ad,rfl,h.cell hi 0 rfl,h.cell hi 1 rfl,h.cell hi 2 rfl,h.cell hi 3 rfl⟩
def Zem (l:List VB) (k:Nat):List (Nat × VB):=(List.range k).map fun j=>(l.length-1-j,l.getD (l.length-1-j) default)
theorem Zen (l:List VB) (k:Nat):Zem l (k+1)=Zem l k++[(l.length-1-k,l.getD (l.length-1-k) default)]:=by simp [Zem,List.range_succ]
theorem Zeo (l:List VB) (k:Nat):(Zem l k).length=k:=by simp [Zem]
abbrev Zep (x:Nat × VB):Array Value:=#[.int .i64 (x.1:Int),.agg #[.int .i64 x.2.op,.slice x.2.bo x.2.bn x.2.bc,.slice x.2.fo x.2.fn x.2.fc,.bool x.2.mid]]
theorem Zeq (F:Fence) (n:Nat) (hF:F.fn 367) (hro:F.round=none) (hn:1≤n) (l Bs:Nat) (ao:Option Addr) (cap:Nat) (bs:List VB) (w0:World) (hrow:Zar w0 ao cap bs) (hlen:bs.length≤1000000) (J Jx:List (Nat × VB)→World→Prop)
  (hY:∀ pre x W,J pre W→pre.length<bs.length→YieldAt F (n-1) Tryz.prog l (Zep x) W fun e W'=>
   (e=.returned (.bool true)∧J (pre++[x]) W'∧Below w0.heap.size W W')∨(e=.returned (.bool false)∧Jx (pre++[x]) W'))
  (W:World) (hW:Below w0.heap.size w0 W) (hBs:w0.cell? ⟨Bs,0,none⟩=some (.slice ao bs.length cap)) (h0:J [] W) :
  CallsIn F n Tryz.prog 367 #[.func (.yield l) #[] #[],.pointer (some ⟨Bs,0,none⟩)] W fun e W'=>(∃ v,e=.returned v) ∧
   ((∃ ys,ys=Zem bs bs.length∧J ys W')∨(∃ pre,(∃ k,k≤bs.length∧pre=Zem bs k)∧Jx pre W')):=by
 have hBl:=Zac hBs
 have hcw:∀ w',Below w0.heap.size w0 w'→w'.cell? ⟨Bs,0,none⟩=some (.slice ao bs.length cap):=fun w' hb=>by rw [hb.cell (p:=⟨Bs,0,none⟩) hBl];exact hBs
 have HC:=Zh hcw
 have HR:=Zh hrow
 have HW:=Zh hW
 have HY:=Zh hY
 have hc0:=hcw W hW
 clear hcw hrow hW hBs hY
 refine callsIn_of_wp Tryz.func367 rfl hF ?_ hro
 simp only [Tryz.ntmps367,List.size_toArray,List.length_cons,List.length_nil,Nat.reduceAdd,Nat.reduceSub,Array.replicate_succ,Array.replicate_zero,List.push_toArray,List.append_toArray,List.nil_append,List.cons_append]
 gi_wp2
 gi_loopw [3] (fun i wr=>∃ k:Nat,k≤bs.length∧i=.int .i64 ((bs.length:Int)-1-k)∧J (Zem bs k) wr∧Hid (Below w0.heap.size w0 wr))
  (fun i _=>(intOf i+1).toNat)
 case atStart=>exact ⟨0,Nat.zero_le _,by simp,h0,HW⟩
 case round=>
  obtain ⟨k,hk,rfl,hJs,HB⟩:=hrel
  clear hc0
  have hc1:=HC.out wr HB.out
  by_cases hlt:k<bs.length
  ·obtain ⟨j,hj⟩:∃ j:Nat,(bs.length:Int)-1-k=j:=⟨bs.length-1-k,by omega⟩
   have hjn:bs.length-1-k=j:=by omega
   have hjl:j<bs.length:=by omega
   obtain ⟨ad,rfl,e0,e1,e2,e3⟩:=Zel (HR.out.old HB.out) hjl
   have hsu:=Zen bs k
   rw [hjn] at hsu
   rw [hj]
   generalize bs.getD j default=x at e0 e1 e2 e3 hsu
   have hjl2:(j:Int) < bs.length:=by omega
   have hj0:(j:Int) ≥ 0:=by omega
   obtain ⟨fn,tmps,assign,body,hy,hR⟩:=HY.out _ (j,x) wr hJs (by rw [Zeo];exact hlt)
   dsimp only [Zep] at hy
   have HSu:=Zh hsu
   have HJ:=Zh hj
   clear hsu hj hjn
   have hwr:IntKind.i64.wrap ((j:Int)-1)=j-1:=IntWalk.i64_in _ (by omega)
   gi_wp2
   refine hR.mono ?_
   rintro e W3 (⟨rfl,hJ3,hk3⟩|⟨rfl,hJx3⟩)
   ·have HB3:=Zh (HB.out.trans hk3)
    have HJ3:=Zh hJ3
    clear hJ3 hk3
    gi_wp2
    go_roundw
    case rel=>exact ⟨k+1,by omega,by have:=HJ.out;rw [show (j:Int)-1=(bs.length:Int)-1-((k+1:Nat):Int) by omega],by rw [HSu.out];exact HJ3.out,HB3⟩
    case measure=>first|(simp [intOf];done)|(simp [intOf];omega)
   ·gi_wp2
    refine bodyPost_ret (results_none rfl _ _ _) rfl ?_
    exact ⟨⟨_,rfl⟩,.inr ⟨_,⟨k+1,by omega,HSu.out.symm⟩,hJx3⟩⟩
  ·obtain rfl:k=bs.length:=by omega
   have hneg:(bs.length:Int)-1-bs.length=-1:=by omega
   rw [hneg]
   clear hneg
   gi_wp2
   go_end0
   exact ⟨⟨_,rfl⟩,.inl ⟨_,rfl,hJs⟩⟩
theorem Zer (F:Fence) (n:Nat) (hF:F.fn 360) (hro:F.round=none) (ao:Option Addr) (len cap:Nat) (w:World) :
  CallsIn F n Tryz.prog 360 #[.slice ao len cap] w fun e w'=>e=.returned (.func (.func 367) #[] #[.pointer (some ⟨w.heap.size,0,none⟩)])∧w'=w.alloc (.cells #[.slice ao len cap] 212):=by
 refine callsIn_of_wp Tryz.func360 rfl hF ?_ hro
 simp only [Tryz.ntmps360,List.size_toArray,List.length_cons,List.length_nil,Nat.reduceAdd,Nat.reduceSub,Array.replicate_succ,Array.replicate_zero,List.push_toArray,List.append_toArray,List.nil_append,List.cons_append]
 gi_wp2
 go_ret
 exact ⟨rfl,rfl⟩
theorem Zes (F:Fence) (n:Nat) (hF:F.fn 367) (hro:F.round=none) (hn:1≤n) (Bs:Nat) (ao:Option Addr) (cap:Nat) (bs:List VB) (w0:World) (hrow:Zar w0 ao cap bs) (hlen:bs.length≤1000000) (hBs:w0.cell? ⟨Bs,0,none⟩=some (.slice ao bs.length cap)) :
  SeqStopsK F n Tryz.prog 367 #[.pointer (some ⟨Bs,0,none⟩)] Zep (Below w0.heap.size) (fun ys=>ys=Zem bs bs.length) (fun pre=>∃ k,k≤bs.length∧pre=Zem bs k) bs.length w0:=fun l J Jx W hW _ _ hY h0=>by
 refine (Zeq F n hF hro hn l Bs ao cap bs w0 hrow hlen J Jx hY W hW hBs h0).mono ?_
 rintro e W' ⟨he,⟨ys,hys,hj⟩|⟨pre,hp,hj⟩⟩
 ·exact ⟨he,.inl ⟨ys,hys,hj⟩⟩
 ·exact ⟨he,.inr ⟨pre,hp,hj⟩⟩
end
section
def Zet (m:Md) (t u:Ty):Bool:=if t.k=2∧u.k=2 then ZaH m (t.c.toNat+1) t.c u.c else decide (t=u)
def Zeu:Ty:=⟨1,0⟩
structure Opn where
 op:Int
 beg:List Ty
 past:List Ty
 mid:Bool
instance:Inhabited Opn:=⟨⟨0,[],[],false⟩⟩
structure Ps where
 stk:List Ty
 opn:List Opn
def Zev (l:List Opn):Nat:=match l.reverse.find? fun o=>decide (o.op=33)&&!o.mid with
 | some o=>o.beg.length
 | none=>0
def Zew (m:Md) (i:In3):Option Mth:=if i.op=25 then some (m.me.getD i.a.toNat default) else match ZaN m i.a with
 | []=>none
 | t :: _=>some (m.me.getD t.toNat default)
def Zex (m:Md) (i:In3):Nat × Nat:=
 if i.op=1∨i.op=2∨i.op=12∨i.op=14∨i.op=15∨i.op=16∨i.op=22 then (0,1)
 else if i.op=3∨i.op=4∨i.op=23∨i.op=27∨i.op=29∨i.op=30 then (1,0)
 else if i.op=5 then (1,2)
 else if i.op=6∨i.op=7∨i.op=8∨i.op=9∨i.op=10∨i.op=11∨i.op=19 then (2,1)
 else if i.op=13∨i.op=17∨i.op=21∨i.op=24 then (1,1)
 else if i.op=18 then (2,0) else if i.op=20 then (3,0)
 else if i.op=25∨i.op=26 then match Zew m i with
  | none=>(0,0)
  | some x=>(x.p.length+(if i.op=26 then 1 else 0),if x.r.k=0 then 0 else 1)
 else (0,0)
def Zey (m:Md) (t:Ty) (a:Int):Option Ty:=if t.k=2 then (m.cl.getD t.c.toNat default).f[a.toNat]? else none
def Zez (t:Ty):Option Ty:=if t.k=3 then some Zeu else if t.k=4 then some ⟨2,t.c⟩ else none
def ZeA (m:Md) (t:Ty):Option Ty→Bool
 | none=>false
 | some u=>Zet m t u
def ty0:Ty:=⟨0,0⟩
def ZeB (m:Md) (lo:List Ty) (i:In3) (l:List Ty):Option Ty:=
 let a:=l.getD 0 default
 let b:=l.getD 1 default
 let c:=l.getD 2 default
 let ok (x:Bool) (t:Ty):Option Ty:=if x then some t else none
 if i.op=1 then some Zeu
 else if i.op=2 then lo[i.a.toNat]?
 else if i.op=3 then ok (ZeA m a lo[i.a.toNat]?) ty0
 else if i.op=5 then some a
 else if i.op=6∨i.op=7∨i.op=8∨i.op=9∨i.op=10∨i.op=11 then ok (decide (a=Zeu)&&decide (b=Zeu)) Zeu
 else if i.op=12 then some ⟨i.a,i.b⟩
 else if i.op=13 then ok (decide (a≠Zeu)) Zeu
 else if i.op=14 then some ⟨2,i.a⟩
 else if i.op=15 then some ⟨3,0⟩
 else if i.op=16 then some ⟨4,i.b⟩
 else if i.op=17 then Zey m a i.a
 else if i.op=18 then ok (ZeA m b (Zey m a i.a)) ty0
 else if i.op=19 then (if b=Zeu then Zez a else none)
 else if i.op=20 then ok (decide (b=Zeu)&&ZeA m c (Zez a)) ty0
 else if i.op=21 then ok (Zez a).isSome Zeu
 else if i.op=22 then some (m.st.getD i.a.toNat default)
 else if i.op=23 then ok (Zet m a (m.st.getD i.a.toNat default)) ty0
 else if i.op=24 then ok (decide (a.k=2)&&(Zet m a ⟨2,i.a⟩||Zet m ⟨2,i.a⟩ a)) ⟨2,i.a⟩
 else if i.op=25 then ok ((List.range (m.me.getD i.a.toNat default).p.length).all fun k=>Zet m (l.getD k default) ((m.me.getD i.a.toNat default).p.getD k default)) (m.me.getD i.a.toNat default).r
 else if i.op=26 then match Zew m i with
  | none=>none
  | some x=>ok (decide (a.k=2)&&decide (0≤m.ent a.c i.a.toNat)&&(List.range x.p.length).all fun k=>Zet m (l.getD (k+1) default) (x.p.getD k default)) x.r
 else if i.op=27∨i.op=29 then ok (decide (a=Zeu)) ty0
 else if i.op=30 then ok (decide (a=Zeu)&&decide (lo[i.b.toNat]?=some Zeu)) ty0
 else some ty0
def ZeC (m:Md) (lo:List Ty) (i:In3) (s:Ps):Int × Ps:=
 if i.op=34 then (0,⟨(s.opn.getLastD default).beg,s.opn.dropLast++[{ s.opn.getLastD default with past:=s.stk,mid:=true }]⟩)
 else if i.op=35 then
  let o:=s.opn.getLastD default
  let want:=if o.mid then o.past else o.beg
  if s.stk.length≠want.length then (12,s) else if s.stk=want then (0,⟨s.stk,s.opn.dropLast⟩) else (11,s)
 else
  let c:=Zex m i
  if s.stk.length<c.1+Zev s.opn∨12<s.stk.length-c.1+c.2 then (12,s)
  else match ZeB m lo i (s.stk.drop (s.stk.length-c.1)) with
   | none=>(11,s)
   | some t=>
    let k:=s.stk.take (s.stk.length-c.1)++List.replicate c.2 t
    (0,⟨k,if ZaR i.op then s.opn++[⟨i.op,k,[],false⟩] else s.opn⟩)
def ZeD (m:Md) (r:Ty) (k:List Ty):Int:=
 if r.k=0 then (if k=[] then 0 else 12) else match k with
  | [t]=>if Zet m t r then 0 else 11
  | _=>12
def ZeE (m:Md) (lo:List Ty) (r:Ty):Nat→List In3→Ps→List (List Ty) × Nat × Int
 | n,[],s=>if ZeD m r s.stk=0 then ([s.stk],0,0) else ([],n,ZeD m r s.stk)
 | n,i :: l,s=>if (ZeC m lo i s).1=0 then
   let q:=ZeE m lo r (n+1) l (ZeC m lo i s).2
   if q.2.2=0 then (s.stk :: q.1,0,0) else ([],q.2)
  else ([],n,(ZeC m lo i s).1)
def ZeF (x:Mth):List Ty:=(if 0≤x.c then [⟨2,x.c⟩] else [])++x.p++x.l
def ZeG (m:Md) (k:Nat):List (List Ty) × Nat × Int:=ZeE m (ZeF (m.me.getD k default)) (m.me.getD k default).r 0 (m.me.getD k default).k ⟨[],[]⟩
def ZeH (m:Md) (k:Int):List (List Ty) × Nat × Int:=if Za1 m∧0≤k∧k<m.me.length then ZeG m k.toNat else ([],0,1)
end
section
open Go.RowKit
theorem ZeI {P:Program}{f:Nat}{args:Array Value}{w:World}{v:Value} (h:Calls P f args w fun e w'=>e=.returned v∧w=w'):Calls P f args w fun e w'=>e=.returned v∧w'=w:=h.mono fun _ _ ⟨a,b⟩=>⟨a,b.symm⟩
theorem ZeJ {a b c d:Int} (h1:a=c) (h2:b=d):Ending.returned (.tuple #[.int .i64 a,.int .i64 b])=.returned (.tuple #[.int .i64 c,.int .i64 d]):=by rw [h1,h2]
def ZeK (op:Int):Int:=if op=12∨op=16∨op=30 then 2 else if op=1∨op=2∨op=3∨op=14∨op=15∨op=17∨op=18∨op=22∨op=23∨op=24∨op=25∨op=26∨op=27∨op=28∨op=31∨op=32 then 1 else 0
theorem ZeL (op:Int) (w:World):Calls Tryz.prog 315 #[.int .i64 op] w fun e w'=>e=.returned (.tuple #[.int .i64 (ZeK op),.int .i64 (if op<0∨36≤op then 3 else 0)])∧w=w':=by
 generalize hq:ZeK op=q
 generalize hr:(if op<0∨36≤op then (3:Int) else 0)=r
 have HQ:=Zh hq
 have HR:=Zh hr
 clear hq hr
 go_enter Tryz.func315,Tryz.ntmps315
 go_wp2
 all_goals
  go_ret2
  refine ⟨ZeJ ?_ ?_,rfl⟩
  ·rw [←HQ.out];grind [ZeK]
  ·rw [←HR.out];grind
theorem ZeM (n lo hi:Int) (w:World):Calls Tryz.prog 316 #[.int .i64 n,.int .i64 lo,.int .i64 hi] w fun e w'=>e=.returned (.bool (inI n lo hi))∧w=w':=by
 go_enter Tryz.func316,Tryz.ntmps316
 go_wp2
 all_goals
  go_ret
  refine ⟨Zaa ?_,rfl⟩
  unfold inI
  grind
theorem ZeN (n:Int) (p:Bool) (h:-1000≤n) (h2:n≤1000) (w:World):Calls Tryz.prog 317 #[.int .i64 n,.bool p] w fun e w'=>e=.returned (.int .i64 (if p then 59 else n-1))∧w=w':=by
 cases p
 all_goals
  go_enter Tryz.func317,Tryz.ntmps317
  go_wp2
  go_ret
  exact ⟨by simp,rfl⟩
theorem ZeO (op:Int) (w:World):Calls Tryz.prog 151 #[.int .i64 op] w fun e w'=>e=.returned (.bool (ZaR op))∧w=w':=by
 go_enter Tryz.func151,Tryz.ntmps151
 go_wp2
 all_goals
  go_ret
  refine ⟨Zaa ?_,rfl⟩
  unfold ZaR inI
  grind
end
end Go.Proofs.YtcfjblcgceednaaGreat
