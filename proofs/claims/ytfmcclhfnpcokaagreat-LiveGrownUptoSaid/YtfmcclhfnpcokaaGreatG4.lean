import Derived.Test.YtfmcclhfnpcokaaGreatG1
import Derived.Test.YtfmcclhfnpcokaaGreatShelf
import Derived.Lib.OwnBridge
import Derived.Deep.RegionHeld
import Derived.RangeFuncNested
import Derived.RangeFuncBound
set_option linter.all false
set_option maxRecDepth 100000
set_option maxHeartbeats 8000000
namespace Go.Proofs.YtfmcclhfnpcokaaGreat
theorem k5{p:Prop}(h:p:=by
 go_wp2
 go_quiet (fail)
 go_wp2
 go_quiet (fail)
 go_wp2_with (at_builtin;refine Zak rfl (.tmp 45) (.tmp 48) 27 rfl wr.heap.size 3 1 8 Zcm _ 0 [] rfl (Zee _ _ _ _ (Nat.le_refl _) (Blk.new _ _ _)) _ _ _ ([]) rfl (Zej _ _ _) (by intro u hu;simp at hu) (by omega) (by unfold maxLen;omega) (by simp) ?_;intro ao1 cap1 w5 hown5 hg5)
 have hb5:=ZcR (show Below w.heap.size w _ from bal (ZcQ HB2.out _) _) hg5 (fun j hj=>by cases hj;exact HB2.out.size);have hO5:=Zed ((show (wr.drewN _).ownsRow _ _ _ _ _ _ from HO2.out).alloc _) hg5 (fun b hb=>by cases hb;exact fun h=>absurd (Option.some.inj h) (Nat.ne_of_lt (Zct HO2.out)));simp only [Nat.zero_add,List.nil_append] at hown5;have HO5:=Zh hown5;have HP5:=Zh hO5;have HB5:=Zh hb5;have hNw:=hg5.size;clear hown5 hO5 hb5 hg5;have hS:∀ w',Below w.heap.size w w'→w'.cell? (ad.add k)=some (.int .i64 x):=fun w' hb=>by obtain ⟨ad',hadd,t0⟩:=ZaC (HL.out.old hb) hkl;obtain rfl:=Option.some.inj hadd;rw [HX.out] at t0;exact t0
 have HS:=Zh hS;have t5:=hS _ HB5.out;clear hS;refine rO (fun w'=>w'.cell? (ad.add k)=some (.int .i64 x)) (oL [0,1,2,3,4,5,6,7,10,108,109,111,12]) (HS.out w5.drew HB5.out.drew) ?_
 repeat refine pO ?_
 refine oO fun K hK=>?_;go_simp;refine hK _ _ ⟨HS.out _ (bal HB5.out.drew _),?_⟩;clear hK K;refine oO fun K hK=>?_;refine Zeh (.tmp 53) (.tmp 58) 27 rfl 3 1 8 Zcm _ zs.length _ ((zs.take zs.length).map (Value.int .i64)) rfl (SlA.alloc (w:=w5.drew) (Zeg HP5.out (Nat.le_refl _) _) _) _ 1 1 [.int .i64 x] rfl (ZdN (Blk.new w5.drew #[.int .i64 x] 3) rfl) (by intro u hu;rw [List.mem_singleton.1 hu];rfl) (by decide) (by omega) (by omega) (by unfold maxLen;omega) ?_;intro ao2 cap2 w6 hown6 hg6;have hb6:=ZcR (bal HB5.out.drew _) hg6 (fun j hj=>by cases hj);have hO6:=Zed (World.ownsRow.alloc (w:=w5.drew) HO5.out (.cells #[.int .i64 x] 3)) hg6 (fun b hb h=>by cases h);have hw6:=hg6.size;have HO6:=Zh hO6;have HP6:=Zh hown6;have HB6:=Zh hb6;clear hO6 hown6 hb6 hg6;refine hK _ _ ⟨HS.out _ HB6.out,?_⟩;clear hK K;refine oO fun K hK=>?_;refine Zel (.tmp 59) (.tmp 60) 27 rfl _ 3 1 8 Zcm _ (zs.length+1) _ rfl HP6.out _ _ _ _ rfl (Zai HO6.out).2 (by intro u hu;simp at hu) (by omega) (by unfold maxLen;omega) hw6 ?_;intro ao3 cap3 w7 hown7 hg7;have hsz:w.heap.size≤(w5.alloc (.cells #[.int .i64 x] 3)).drew.heap.size:=(bal HB5.out (.cells #[.int .i64 x] 3)).size;have hb7:=ZcR HB6.out hg7 (fun j hj=>Nat.le_trans hsz (HP6.out.lt j hj).1);have hO7:=Zef hown7 hsz;have HO7:=Zh hO7;have HB7:=Zh hb7;clear hO7 hown7 hb7 hg7;refine hK _ _ ⟨HS.out _ HB7.out,?_⟩;clear hK K
 repeat refine pO ?_
 refine Zd7 ?_;go_wp2;go_roundw
 case rel=>
  have hlen:(Zd8 l (k+1)).length=zs.length+1:=by rw [HSu.out,HIns.out];simp
  exact k53
 case measure=>simp [intOf];omega):p:=h
theorem k23{p:Prop}(h:p:=by
 have HX:=Zh hx;have HGk:=Zh hgk;clear hx hgk;rcases hI:p x with _|_
 ·exact k35
 ·rw [hI] at HGk;have HP:=Zh hI;clear hI
  go_wp2_with fail
  refine HGk.out.mono ?_;rintro e w1 ⟨rfl,hb1⟩;have HL1:=Zh (Zag HL.out hb1);go_wp2;go_ret;exact ⟨⟨_,rfl,by rw [Zdm (d:=default) hkl (by rw [←HX.out];exact HP.out)];simp⟩,HL1.out⟩):p:=h
theorem k35{p:Prop}(h:p:=by
 rw [hI] at HGk;have HP:=Zh hI;clear hI
 go_wp2_with fail
 refine HGk.out.mono ?_;rintro e w1 ⟨rfl,hb1⟩;have HL1:=Zh (Zag HL.out hb1);go_wp2;go_roundw
 case rel=>
  refine ⟨k+1,by omega,by go_num,HL1.out,fun i hi=>?_⟩;by_cases hik:i<k
  ·exact Q1.out i hik
  ·obtain rfl:i=k:=by omega
   rw [←HX.out];exact HP.out
 case measure=>simp [intOf];omega):p:=h
theorem k46{p:Prop}(h:p:=by
 go_wp2_with fail
 refine HI.out.mono ?_;rintro e w1 ⟨⟨r,rfl,hr⟩,hb1⟩;have HR:=Zh hr;clear hr;go_wp2;go_ret;exact ZcP (ZcT HR.out) hb1):p:=h
theorem k53{p:Prop}(h:p:=by
 refine ⟨k+1,ao3,cap3,by omega,by go_num,by rw [hlen],?_,HB7.out⟩;rw [hlen,HSu.out,HIns.out];have h7:=HO7.out;simpa using h7):p:=h
theorem k56{p:Prop}(h:p:=by
 go_roundw
 case rel=>
  have h9:=HO9.out;refine ⟨k+1,ao1,cap1,by omega,by go_num,by rw [HY.out,List.length_append];rfl,?_,HB9.out⟩;rw [HY.out,List.length_append,List.map_append];exact h9
 case measure=>simp [intOf];omega):p:=h
theorem k70{p:Prop}(h:p:=by
 unfold ZdO;rw [Zam _ _ hk,List.map_append,List.filter_append,List.map_cons,List.map_nil];generalize (m.cl.getD k default).m.getD s 0=n at h ⊢;simp [h]):p:=h
theorem k77{p:Prop}(h:p:=by
 unfold ZaR;dsimp only;by_cases h0:0≤op
 ·rw [decide_eq_false (show ¬ op<36 by omega)];simp
 ·rw [decide_eq_false h0];simp):p:=h
theorem k91{p:Prop}(h:p:=by
 go_wp2;go_ret;exact ⟨⟨_,rfl,(Zdn (d:=default) fun i hi=>Q1.out i (by omega)).symm⟩,HL.out⟩):p:=h
section
open Go.RowKit
theorem Zdd {k:Nat} (a:k<36):ZcV[k*4]?=some (.string (opN.getD k default))∧ZcV[k*4+1]?=some (.int .i64 (opA.getD k 0))∧ZcV[k*4+2]?=some (.int .i64 (opB.getD k 0))∧ZcV[k*4+3]?=some (.int .i64 (opC.getD k 0)):=by
 rcases (show k=0∨k=1∨k=2∨k=3∨k=4∨k=5∨k=6∨k=7∨k=8∨k=9∨k=10∨k=11∨k=12∨k=13∨k=14∨k=15∨k=16∨k=17∨k=18∨k=19∨k=20∨k=21∨k=22∨k=23∨k=24∨k=25∨k=26∨k=27∨k=28∨k=29∨k=30∨k=31∨k=32∨k=33∨k=34∨k=35 by omega) with rfl|rfl|rfl|rfl|rfl|rfl|rfl|rfl|rfl|rfl|rfl|rfl|rfl|rfl|rfl|rfl|rfl|rfl|rfl|rfl|rfl|rfl|rfl|rfl|rfl|rfl|rfl|rfl|rfl|rfl|rfl|rfl|rfl|rfl|rfl|rfl
 all_goals exact ⟨rfl,rfl,rfl,rfl⟩
theorem Zde:ZcV.length=144:=by kernel_rfl
theorem Zdf (op:Int) (h:op<0∨36≤op) (w:World):Calls Tryz.prog 268 #[.int .i64 op] w fun e w'=>e=.returned (.tuple #[.agg #[.string ⟨#[]⟩,.int .i64 0,.int .i64 0,.int .i64 0],.bool false])∧Below w.heap.size w w':=by
 obtain ⟨B,i⟩:∃ B,B=w.heap.size:=⟨_,rfl⟩;go_enter Tryz.func268,Tryz.ntmps268
 go_wp2_with fail
 have f:=(Below.refl w.heap.size w).alloc (Nat.le_refl _) (.cells #[.string ⟨#[]⟩,.int .i64 0,.int .i64 0,.int .i64 0] 270);have d:=Blk.new' (w:=w) #[.string ⟨#[]⟩,.int .i64 0,.int .i64 0,.int .i64 0] 270 i;refine (ZcX _).mono ?_;rintro e z ⟨rfl,c⟩;have o:=Zh (Zag f c);have a:=Zh (d.old c);rw [←i];have r:=Zh i;clear f c d i;have q:=ZcW z;have hlen:=Zde;generalize ZcV=L at q hlen ⊢;have G:=a.out.cell 0 rfl;have I:=a.out.cell 1 rfl;have J:=a.out.cell 2 rfl;have K:=a.out.cell 3 rfl;have C:=a.out.frozen 0;have D:=a.out.frozen 1;have E:=a.out.frozen 2;have F:=a.out.frozen 3;have M:=a.out.lt
 go_wp2_with fail
 all_goals
  have b:=((((a.out.set 0 (.string ⟨#[]⟩)).set 1 (.int .i64 0)).set 2 (.int .i64 0)).set 3 (.int .i64 0)).alloc (.cells L.toArray 308);have t:=b.cell 0 rfl;have u:=b.cell 1 rfl;have x:=b.cell 2 rfl;have y:=b.cell 3 rfl;refine bodyPost_ret (v:=.tuple #[.agg #[.string ⟨#[]⟩,.int .i64 0,.int .i64 0,.int .i64 0],.bool false]) (by simp [results,Tryz.results268,go_sem,t,u,x,y]) rfl ⟨rfl,?_⟩;have:=r.out;exact bal (ZcS (ZcS (ZcS (ZcS o.out (by omega) _) (by omega) _) (by omega) _) (by omega) _) _
theorem Zdg (k:Nat) (C:k<36) (w:World):Calls Tryz.prog 268 #[.int .i64 k] w fun e w'=>e=.returned (.tuple #[.agg #[.string (opN.getD k default),.int .i64 (opA.getD k 0),.int .i64 (opB.getD k 0),.int .i64 (opC.getD k 0)],.bool true])∧Below w.heap.size w w':=by
 obtain ⟨i,o,q,r⟩:=Zdd C;generalize opN.getD k default=nm at i ⊢;generalize ((opA.getD k 0:Nat):Int)=oa at o ⊢;generalize ((opB.getD k 0:Nat):Int)=ob at q ⊢;generalize ((opC.getD k 0:Nat):Int)=oc at r ⊢;have z:=Zh (And.intro i (And.intro o (And.intro q r)));clear i o q r;obtain ⟨B,t⟩:∃ B,B=w.heap.size:=⟨_,rfl⟩;go_enter Tryz.func268,Tryz.ntmps268
 go_wp2_with fail
 have f:=(Below.refl w.heap.size w).alloc (Nat.le_refl _) (.cells #[.string ⟨#[]⟩,.int .i64 0,.int .i64 0,.int .i64 0] 270);have d:=Blk.new' (w:=w) #[.string ⟨#[]⟩,.int .i64 0,.int .i64 0,.int .i64 0] 270 t;refine (ZcX _).mono ?_;rintro e M ⟨rfl,c⟩;have u:=Zh (Zag f c);have a:=Zh (d.old c);rw [←t];have y:=Zh t;clear f c d t;have x:=ZcW M;have hlen:=Zde;obtain ⟨i,o,q,r⟩:=z.out;generalize ZcV=L at x hlen i o q r ⊢;have U:=a.out.cell 0 rfl;have V:=a.out.cell 1 rfl;have X:=a.out.cell 2 rfl;have Y:=a.out.cell 3 rfl;have N:=a.out.frozen 0;have O:=a.out.frozen 1;have R:=a.out.frozen 2;have T:=a.out.frozen 3;have Z:=a.out.lt;have D:¬ ((k:Int) < 0):=by omega
 have E:¬ ((36:Int)≤k):=by omega
 have F:(k:Int) < 36:=by omega
 go_wp2_with fail
 have b:=((((a.out.set 0 (.string nm)).set 1 (.int .i64 oa)).set 2 (.int .i64 ob)).set 3 (.int .i64 oc)).alloc (.cells L.toArray 308);have G:=b.cell 0 rfl;have I:=b.cell 1 rfl;have J:=b.cell 2 rfl;have K:=b.cell 3 rfl;refine bodyPost_ret (v:=.tuple #[.agg #[.string nm,.int .i64 oa,.int .i64 ob,.int .i64 oc],.bool true]) (by simp [results,Tryz.results268,go_sem,G,I,J,K]) rfl ⟨rfl,?_⟩;have:=y.out;exact bal (ZcS (ZcS (ZcS (ZcS u.out (by omega) _) (by omega) _) (by omega) _) (by omega) _) _
end
section
open Go.RowKit
theorem Zdh (k:Nat):opA.getD k 0<15:=by
 rw [List.getD_eq_getElem?_getD];by_cases h:k<opA.length
 ·rw [List.getElem?_eq_getElem h];exact (show ∀ x∈opA,x<15 by decide) _ (List.getElem_mem h)
 ·rw [List.getElem?_eq_none (by omega)];decide
theorem Zdi (k:Nat):opB.getD k 0<15:=by
 rw [List.getD_eq_getElem?_getD];by_cases h:k<opB.length
 ·rw [List.getElem?_eq_getElem h];exact (show ∀ x∈opB,x<15 by decide) _ (List.getElem_mem h)
 ·rw [List.getElem?_eq_none (by omega)];decide
theorem Zdj {p:Bool}{k:Nat} (d:k<36) (a b:Int):ZaR p ⟨k,a,b⟩=(inR a (opA.getD k 0) p&&inR b (opB.getD k 0) p&&!(decide ((k:Int)=12)&&decide (a=3)&&decide (b≠0))):=by
 unfold ZaR;have c:decide ((k:Int) < 36)=true:=by simp;omega
 simp only [Int.toNat_natCast,c,Int.natCast_nonneg,decide_true,Bool.true_and]
theorem Zdk (i:In3) (p:Bool) (w:World):Calls Tryz.prog 209 #[ZI.i i,.bool p] w (Ret w (.bool (ZaR p i))):=by
 obtain ⟨op,a,b⟩:=i;dsimp only;obtain ⟨B,t⟩:∃ B,B=w.heap.size:=⟨_,rfl⟩;by_cases h:0≤op∧op<36
 ·obtain ⟨k,rfl⟩:∃ k:Nat,op=k:=⟨op.toNat,by omega⟩;have x:k<36:=by omega
  rw [Zdj x];have f:=ZcO a (opA.getD k 0:Nat) p (by omega) (by have:=Zdh k;omega);have hb:=ZcO b (opB.getD k 0:Nat) p (by omega) (by have:=Zdi k;omega);rw [Int.toNat_natCast] at f hb;have c:=Zdg k x;generalize opN.getD k default=nm at c;generalize ((opA.getD k 0:Nat):Int)=oa at f c;generalize ((opB.getD k 0:Nat):Int)=ob at hb c;generalize ((opC.getD k 0:Nat):Int)=oc at c;generalize inR a (opA.getD k 0) p=qa at f ⊢;generalize inR b (opB.getD k 0) p=qb at hb ⊢;have y:=Zh f;have u:=Zh hb;have v:=Zh c;clear f hb c h;generalize r:(qa&&qb&&!(decide ((k:Int)=12)&&decide (a=3)&&decide (b≠0)))=q;have z:=Zh r;clear r;go_enter Tryz.func209,Tryz.ntmps209
  go_wp2_with fail
  have C:=Blk.new' (w:=w) #[.int .i64 k,.int .i64 a,.int .i64 b] 72 t;refine (v.out _).mono ?_;rintro e D ⟨rfl,o⟩;have d:=C.old o;rw [←t];have E:=Zh t;clear t;have F:=d.cell 0 rfl;have G:=d.cell 1 rfl;have I:=d.cell 2 rfl;have J:=d.lt
  go_wp2_with (first
   | (with_reducible refine (y.out _).mono ?_;rintro e w' ⟨rfl,rfl⟩)
   | (with_reducible refine (u.out _).mono ?_;rintro e w' ⟨rfl,rfl⟩))
  all_goals
   go_ret;refine ZcP (ZcT ?_) bE;rw [←z.out];grind
 ·have r:ZaR p ⟨op,a,b⟩=false:=by exact k77
  rw [r];have v:=Zh (Zdf op (by omega));clear r h;go_enter Tryz.func209,Tryz.ntmps209
  go_wp2_with fail
  refine (v.out _).mono ?_;rintro e D ⟨rfl,o⟩
  go_wp2_with fail
  go_ret;exact ZcP rfl bE
theorem Zdl (i:In3) (p:Bool) (b:Nat) (w:World) (c:w.cell? ⟨b,0,none⟩=some (.bool p)) :
  Calls Tryz.prog 320 #[ZI.i i,ZQ.p b] w (Ret w (.bool (!ZaR p i))):=by
 have hl:b<w.heap.size:=Zad c;go_enter Tryz.func320,Tryz.ntmps320
 go_wp2_with fail
 refine (Zdk i p _).mono ?_;rintro e d ⟨rfl,a⟩
 go_wp2_with fail
 go_ret;exact ZcP rfl bE
theorem Zdm {α:Type}{l:List α}{p:α→Bool}{d:α}{k:Nat} (a:k<l.length) (h:p (l.getD k d)=true):l.any p=true:=by rw [List.any_eq_true];exact ⟨l[k],List.getElem_mem a,by simpa [a] using h⟩
theorem Zdn {α:Type}{l:List α}{p:α→Bool}{d:α} (h:∀ i,i<l.length→p (l.getD i d)=false):l.any p=false:=by rw [List.any_eq_false];intro x b;obtain ⟨i,a,rfl⟩:=List.getElem_of_mem b;have:=h i a;simpa [a] using this
end
section
open Go.RowKit
section
variable (l:List In3)(ao:Option Addr)(cap g:Nat)(caps:Array Value)(p:In3→Bool)(w:World)(hlen:l.length≤1000000)(hl:Zas w ao cap l)(cf:∀ A W,(callFunc g (A++caps)).run Tryz.prog W=.ok (.enter g (A++caps)) W)(hg:∀ k,k<l.length→∀ w',Below w.heap.size w w'→Calls Tryz.prog g (#[.agg #[.int .i64 (l.getD k default).op,.int .i64 (l.getD k default).a,.int .i64 (l.getD k default).b]]++caps) w' (Ret w' (.bool (p (l.getD k default)))))
include l ao cap g caps p w hlen hl cf hg
theorem Zdo:
  Calls Tryz.prog 173 #[.slice ao l.length cap,.func (Fn.func g) #[] caps] w fun e w'=>(∃ r:Int,e=.returned (.int .i64 r)∧decide (0≤r)=l.any p)∧Below w.heap.size w w':=by
 have f:=Zh hl;have c:=Zh hg;clear hl hg;go_enter Tryz.func173,Tryz.ntmps173;go_wp2
 go_loopw [8] (fun i wr=>∃ (k:Nat),k≤l.length∧i=.int .i64 k∧Below w.heap.size w wr∧(∀ i,i<k→p (l.getD i default)=false)) (fun i _=>l.length-(intOf i).toNat)
 case atStart=>exact ⟨0,by omega,rfl,Below.refl _ _,by omega⟩
 case round=>
  obtain ⟨k,v,rfl,a,b⟩:=hrel;have HL:=Zh a;have Q1:=Zh b;clear a b;by_cases hkl:k<l.length
  ·obtain ⟨u,rfl,o,q,t⟩:=ZaB (f.out.old HL.out) hkl;have hgk:=c.out k hkl _ HL.out;obtain ⟨x,hx⟩:∃ x,x=l.getD k default:=⟨_,rfl⟩;rw [←hx] at o  q  t hgk;exact k23
  ·exact k91
theorem Zdp:
  Calls Tryz.prog 112 #[.slice ao l.length cap,.func (Fn.func g) #[] caps] w (Ret w (.bool (l.any p))):=by
 have HI:=Zh (Zdo l ao cap g caps p w hlen hl cf hg);clear hl hg cf;go_enter Tryz.func112,Tryz.ntmps112;exact k46
end
section
variable (l:List Ty)(ao:Option Addr)(cap g:Nat)(caps:Array Value)(p:Ty→Bool)(w:World)(hlen:l.length≤1000000)(hl:Zas w ao cap l)(cf:∀ A W,(callFunc g (A++caps)).run Tryz.prog W=.ok (.enter g (A++caps)) W)(hg:∀ k,k<l.length→∀ w',Below w.heap.size w w'→Calls Tryz.prog g (#[.agg #[.int .i64 (l.getD k default).k,.int .i64 (l.getD k default).c]]++caps) w' (Ret w' (.bool (p (l.getD k default)))))
include l ao cap g caps p w hlen hl cf hg
theorem Zdq:
  Calls Tryz.prog 318 #[.slice ao l.length cap,.func (Fn.func g) #[] caps] w fun e w'=>(∃ r:Int,e=.returned (.int .i64 r)∧decide (0≤r)=l.any p)∧Below w.heap.size w w':=by
 have f:=Zh hl;have c:=Zh hg;clear hl hg;go_enter Tryz.func318,Tryz.ntmps318;go_wp2
 go_loopw [8] (fun i wr=>∃ (k:Nat),k≤l.length∧i=.int .i64 k∧Below w.heap.size w wr∧(∀ i,i<k→p (l.getD i default)=false)) (fun i _=>l.length-(intOf i).toNat)
 case atStart=>exact ⟨0,by omega,rfl,Below.refl _ _,by omega⟩
 case round=>
  obtain ⟨k,u,rfl,a,b⟩:=hrel;have HL:=Zh a;have Q1:=Zh b;clear a b;by_cases hkl:k<l.length
  ·obtain ⟨t,rfl,o,q⟩:=ZaA (f.out.old HL.out) hkl;have hgk:=c.out k hkl _ HL.out;obtain ⟨x,hx⟩:∃ x,x=l.getD k default:=⟨_,rfl⟩;rw [←hx] at o  q hgk;exact k23
  ·exact k91
theorem Zdr:
  Calls Tryz.prog 297 #[.slice ao l.length cap,.func (Fn.func g) #[] caps] w (Ret w (.bool (l.any p))):=by
 have HI:=Zh (Zdq l ao cap g caps p w hlen hl cf hg);clear hl hg cf;go_enter Tryz.func297,Tryz.ntmps297;exact k46
end
section
variable (l:List Int)(ao:Option Addr)(cap g:Nat)(caps:Array Value)(p:Int→Bool)(w:World)(hlen:l.length≤1000000)(hl:Zas w ao cap l)(cf:∀ A W,(callFunc g (A++caps)).run Tryz.prog W=.ok (.enter g (A++caps)) W)(hg:∀ k,k<l.length→∀ w',Below w.heap.size w w'→Calls Tryz.prog g (#[.int .i64 (l.getD k 0)]++caps) w' (Ret w' (.bool (p (l.getD k 0)))))
include l ao cap g caps p w hlen hl cf hg
theorem Zds:
  Calls Tryz.prog 247 #[.slice ao l.length cap,.func (Fn.func g) #[] caps] w fun e w'=>(∃ r:Int,e=.returned (.int .i64 r)∧decide (0≤r)=l.any p)∧Below w.heap.size w w':=by
 have q:=Zh hl;have o:=Zh hg;clear hl hg;go_enter Tryz.func247,Tryz.ntmps247;go_wp2
 go_loopw [8] (fun i wr=>∃ (k:Nat),k≤l.length∧i=.int .i64 k∧Below w.heap.size w wr∧(∀ i,i<k→p (l.getD i 0)=false)) (fun i _=>l.length-(intOf i).toNat)
 case atStart=>exact ⟨0,by omega,rfl,Below.refl _ _,by omega⟩
 case round=>
  obtain ⟨k,v,rfl,a,f⟩:=hrel;have HL:=Zh a;have Q1:=Zh f;clear a f;by_cases hkl:k<l.length
  ·obtain ⟨u,rfl,t⟩:=ZaC (q.out.old HL.out) hkl;have b:=o.out k hkl _ HL.out;obtain ⟨x,c⟩:∃ x,x=l.getD k 0:=⟨_,rfl⟩;rw [←c] at t b;have HX:=Zh c;have HGk:=Zh b;clear c b;rcases hI:p x with _|_
   ·exact k35
   ·rw [hI] at HGk;have HP:=Zh hI;clear hI
    go_wp2_with fail
    refine HGk.out.mono ?_;rintro e w1 ⟨rfl,hb1⟩;have HL1:=Zh (Zag HL.out hb1);go_wp2;go_ret;exact ⟨⟨_,rfl,by rw [Zdm (d:=0) hkl (by rw [←HX.out];exact HP.out)];simp⟩,HL1.out⟩
  ·go_wp2;go_ret;exact ⟨⟨_,rfl,(Zdn (d:=0) fun i hi=>Q1.out i (by omega)).symm⟩,HL.out⟩
theorem Zdt:
  Calls Tryz.prog 179 #[.slice ao l.length cap,.func (Fn.func g) #[] caps] w (Ret w (.bool (l.any p))):=by
 have HI:=Zh (Zds l ao cap g caps p w hlen hl cf hg);clear hl hg cf;go_enter Tryz.func179,Tryz.ntmps179;exact k46
end
end
section
def Asc (l:List Int):Prop:=l.Pairwise (· < ·)
theorem Zdu (n x:Int):∀ l,x∈ZaM n l↔x=n∨x∈l
 | []=>by simp [ZaM]
 | y :: r=>by
  unfold ZaM;split
  ·rw [List.mem_cons,Zdu n x r,List.mem_cons];constructor
   ·rintro (h|h|h)
    ·exact .inr (.inl h)
    ·exact .inl h
    ·exact .inr (.inr h)
   ·rintro (h|h|h)
    ·exact .inr (.inl h)
    ·exact .inl h
    ·exact .inr (.inr h)
  ·split
   ·rename_i a;subst a;simp
   ·simp
theorem Zdv (n:Int):∀ l,Asc l→Asc (ZaM n l)
 | [],_=>by simp [ZaM,Asc]
 | y :: r,h=>by
  have b:=List.pairwise_cons.1 h;unfold ZaM;split
  ·rename_i c;refine List.pairwise_cons.2 ⟨fun x a=>?_,Zdv n r b.2⟩;rcases (Zdu n x r).1 a with rfl|a
   ·exact c
   ·exact b.1 x a
  ·split
   ·exact h
   ·rename_i d f;refine List.pairwise_cons.2 ⟨fun x a=>?_,h⟩;rcases List.mem_cons.1 a with rfl|a
    ·omega
    ·have:=b.1 x a;omega
theorem Zdw:∀ (l o:List Int),Asc o→Asc (l.foldl (fun o n=>ZaM n o) o)∧∀ x,x∈l.foldl (fun o n=>ZaM n o) o↔x∈o∨x∈l
 | [],o,h=>⟨h,fun x=>by simp⟩
 | n :: l,o,h=>by
  obtain ⟨a,b⟩:=Zdw l (ZaM n o) (Zdv n o h);refine ⟨a,fun x=>?_⟩;rw [List.foldl_cons,b x,Zdu,List.mem_cons];constructor
  ·rintro ((h|h)|h)
   ·exact .inr (.inl h)
   ·exact .inl h
   ·exact .inr (.inr h)
  ·rintro (h|h|h)
   ·exact .inl (.inr h)
   ·exact .inl (.inl h)
   ·exact .inr h
theorem Zdx (l:List Int):Asc (ZaN l):=(Zdw l [] List.Pairwise.nil).1
theorem Zdy (l:List Int) (x:Int):x∈ZaN l↔x∈l:=by rw [ZaN,(Zdw l [] List.Pairwise.nil).2 x];simp
theorem Zdz:∀ {l m:List Int},Asc l→Asc m→(∀ x,x∈l↔x∈m)→l=m
 | [],[],_,_,_=>rfl
 | [],y :: m,_,_,h=>by have:=(h y).2 (by simp);simp at this
 | x :: l,[],_,_,h=>by have:=(h x).1 (by simp);simp at this
 | x :: l,y :: m,hl,hm,h=>by
  have d:=List.pairwise_cons.1 hl;have f:=List.pairwise_cons.1 hm;have i:x=y:=by
   rcases List.mem_cons.1 ((h x).1 (by simp)) with e|e
   ·exact e
   ·rcases List.mem_cons.1 ((h y).2 (by simp)) with e2|e2
    ·exact e2.symm
    ·have a:=f.1 x e;have b:=d.1 y e2;omega
  subst i;have:l=m:=Zdz d.2 f.2 fun z=>⟨fun c=>by
    rcases List.mem_cons.1 ((h z).1 (List.mem_cons_of_mem _ c)) with e|e
    ·have:=d.1 z c;omega
    ·exact e,fun c=>by
    rcases List.mem_cons.1 ((h z).2 (List.mem_cons_of_mem _ c)) with e|e
    ·have:=f.1 z c;omega
    ·exact e⟩
  rw [this]
theorem ZdA {l m:List Int} (h:Asc m) (a:∀ x,x∈m↔x∈l):m=ZaN l:=Zdz h (Zdx l) fun x=>by rw [a,Zdy]
theorem ZdB (n:Int):∀ l,(ZaM n l).length≤l.length+1
 | []=>by simp [ZaM]
 | y :: r=>by
  unfold ZaM;split
  ·have:=ZdB n r;simp;omega
  ·split<;>simp
theorem ZdC (l:List Int):(ZaN l).length≤l.length:=by
 have a:∀ (l o:List Int),(l.foldl (fun o n=>ZaM n o) o).length≤o.length+l.length:=by
  intro l
  induction l with
  | nil=>intro o;simp
  | cons n l ih=>intro o;have b:=ih (ZaM n o);have c:=ZdB n o;simp only [List.foldl_cons,List.length_cons];omega
 simpa [ZaN] using a l []
theorem ZdD (l:List Int) (j:Nat) (a:j<l.length):l.toArray[j]! = l[j]:=by simp [a]
theorem ZdE {zs:List Int} (h:zs.Pairwise (·≤·)) (m:Nat) (t:m≤zs.length):Asc (Lib.compactUpTo zs.toArray m)∧∀ x,x∈Lib.compactUpTo zs.toArray m↔∃ j,j<m∧x=zs.toArray[j]!:=by
 have hg:∀ i j,i≤j→j<zs.length→zs.toArray[i]!≤zs.toArray[j]!:=by
  intro i j o c;rcases Nat.lt_or_ge i j with d|d
  ·have:=(List.pairwise_iff_getElem.1 h) i j (by omega) c d;simpa [show i<zs.length by omega,c] using this
  ·obtain rfl:i=j:=by omega
   exact Int.le_refl _
 induction m with
 | zero=>exact ⟨by simp [Lib.compactUpTo,Asc],fun x=>by simp [Lib.compactUpTo]⟩
 | succ m ih=>
  obtain ⟨d,f⟩:=ih (by omega);rw [Lib.compactUpTo_succ];rcases hk:Lib.keeps zs.toArray m with _|_
  ·simp only [Bool.false_eq_true,if_false,List.append_nil];refine ⟨d,fun x=>?_⟩;rw [f];simp only [Lib.keeps,decide_eq_false_iff_not,not_or,Classical.not_not] at hk;constructor
   ·rintro ⟨j,c,rfl⟩;exact ⟨j,by omega,rfl⟩
   ·rintro ⟨j,c,rfl⟩;by_cases hjm:j<m
    ·exact ⟨j,hjm,rfl⟩
    ·obtain rfl:j=m:=by omega
     exact ⟨j-1,by omega,hk.2⟩
  ·simp only [if_true];constructor
   ·refine List.pairwise_append.2 ⟨d,by simp,fun x q y r=>?_⟩;obtain rfl:=List.mem_singleton.1 r;obtain ⟨j,c,rfl⟩:=(f x).1 q;simp only [Lib.keeps,decide_eq_true_eq] at hk;have a:=hg j (m-1) (by omega) (by omega);have b:=hg (m-1) m (by omega) (by omega);rcases hk with hk|hk
    ·omega
    ·omega
   ·intro x;rw [List.mem_append,f,List.mem_singleton];constructor
    ·rintro (⟨j,c,rfl⟩|rfl)
     ·exact ⟨j,by omega,rfl⟩
     ·exact ⟨m,by omega,rfl⟩
    ·rintro ⟨j,c,rfl⟩;by_cases hjm:j<m
     ·exact .inl ⟨j,hjm,rfl⟩
     ·obtain rfl:j=m:=by omega
      exact .inr rfl
theorem ZdF (zs:List Int):Lib.compact (zs.mergeSort fun x y=>decide (x≤y))=ZaN zs:=by
 have hs:(zs.mergeSort fun x y=>decide (x≤y)).Pairwise (·≤·):=by have:=List.pairwise_mergeSort (le:=fun x y:Int=>decide (x≤y)) (by intro a b c;simp;omega) (by intro a b;simp;omega) zs;exact this.imp (fun h=>by simpa using h)
 obtain ⟨f,i⟩:=ZdE hs _ (Nat.le_refl _);refine ZdA f fun x=>?_;rw [Lib.compact] at *;rw [i x,←(List.mergeSort_perm zs fun x y=>decide (x≤y)).mem_iff (a:=x)];constructor
 ·rintro ⟨j,d,rfl⟩;rw [ZdD _ j d];exact List.getElem_mem d
 ·intro o;obtain ⟨j,d,rfl⟩:=List.mem_iff_getElem.1 o;exact ⟨j,d,(ZdD _ j d).symm⟩
end
section
open Go.RowKit
def ZdG {α:Type} [Cells α] (W:World) (l:List α):Ending→World→Prop:=fun e w'=>(∃ ao cap,e=.returned (.slice ao l.length cap)∧Zas w' ao cap l)∧Below W.heap.size W w'
def ZdH {α:Type} [Cells α] (W:World) (l:List α):Ending→World→Prop:=fun e w'=>(∃ ao cap,e=.returned (.slice ao l.length cap)∧Zas w' ao cap l∧∀ a,ao=some a→W.heap.size≤a.block)∧Below W.heap.size W w'
theorem ZdI (m:Md) (s:Int):(ZaO m s).length≤m.cl.length:=by have b:=ZdC ((m.cl.map fun c=>c.m.getD s.toNat 0).filter fun n=>decide (0≤n));have a:=List.length_filter_le (fun n:Int=>decide (0≤n)) (m.cl.map fun c=>c.m.getD s.toNat 0);rw [List.length_map] at a;unfold ZaO;omega
theorem ZdJ {B:Nat}{w0 w:World} (h:Below B w0 w) (d:B≤w0.heap.size) (a:Array Obj):Below B w0 (Sort.grow w a):=by
 refine ⟨h.os,h.tape,h.output,?_,fun k b=>?_⟩
 ·have:=h.size;have c:(Sort.grow w a).heap.size=w.heap.size+a.size:=by simp [Sort.grow]
  omega
 ·rw [Sort.heap_grow_old w a (by have:=h.size;omega)];exact h.block k b
theorem ZdK {w:World}{base size n:Nat}{e:TypeId}{v:Value}{c:List Value} (h:w.ownsRow base e size v n c) (b:Array Obj):(Sort.grow w b).ownsRow base e size v n c:=by
 obtain ⟨d,a⟩:=h;refine ⟨d,?_⟩;rcases a with a|⟨g,cap,cur,hv,hg,hh,h3⟩
 ·exact .inl a
 ·exact .inr ⟨g,cap,cur,hv,hg,by rw [Sort.heap_grow_old w b (Blk.lt (t:=e) hh)];exact hh,h3⟩
section
variable {base:Nat}{e:TypeId}(ao:Option Addr)(n cap:Nat)(zs:List Int)(w:World)(h:w.ownsRow base e 1 (.slice ao n cap) n (zs.map (Value.int .i64)))(hn:n≤1000000)(hb:base≤w.heap.size)
include base e ao n cap zs w h hn hb
theorem ZdL:
  Calls Tryz.prog 107 #[.slice ao n cap] w fun a w'=>a=.returned (.tuple #[])∧w'.ownsRow base e 1 (.slice ao n cap) n ((zs.mergeSort fun x y=>decide (x≤y)).map (Value.int .i64))∧Below base w w':=by
 have t:zs.length=n:=by simpa using h.1
 by_cases hv:(Value.slice ao n cap)=.slice none 0 0
 ·cases hv;refine (Calls.mono (Tryz.slices_Sort_int_none none 0 w) ?_);rintro a w' ⟨rfl,rfl⟩;obtain rfl:zs=[]:=List.eq_nil_of_length_eq_zero t;exact ⟨rfl,by simpa using h,Below.refl _ _⟩
 ·obtain ⟨g,c,hs,hg,b,r,o,d,i⟩:=Lib.holds_of_ownsRow h hv;cases hs;subst d;refine (Tryz.slices_Sort_int g 0 cap zs w i b (by omega)).mono ?_;rintro a w' ⟨rfl,q,f,rfl⟩;have hl:(zs.mergeSort fun x y=>decide (x≤y)).length=zs.length:=List.length_mergeSort _;refine ⟨rfl,ZdK ?_ f,ZdJ (Lib.below_putRow (Below.refl _ _) hg) hb f⟩;have:=Lib.ownsRow_putRow (q:=q) (ys:=zs.mergeSort fun x y=>decide (x≤y)) h hl (Nat.le_refl _);rwa [List.take_of_length_le (by omega)] at this
theorem ZdM (i:(Lib.compact zs).length≤n):
  Calls Tryz.prog 244 #[.slice ao n cap] w fun a w'=>a=.returned (.slice ao (Lib.compact zs).length cap)∧w'.ownsRow base e 1 (.slice ao (Lib.compact zs).length cap) (Lib.compact zs).length ((Lib.compact zs).map (Value.int .i64))∧Below base w w':=by
 have t:zs.length=n:=by simpa using h.1
 by_cases hv:(Value.slice ao n cap)=.slice none 0 0
 ·cases hv;obtain rfl:zs=[]:=List.eq_nil_of_length_eq_zero t;have hl:(Lib.compact ([]:List Int))=[]:=List.eq_nil_of_length_eq_zero (by omega);rw [hl];refine (Calls.mono (Tryz.slices_Compact_int_empty none 0 w) ?_);rintro a w' ⟨rfl,rfl⟩;exact ⟨rfl,by simpa using h,Below.refl _ _⟩
 ·obtain ⟨g,c,hs,hg,r,b,o,d,f⟩:=Lib.holds_of_ownsRow h hv;cases hs;subst d;refine (Tryz.slices_Compact_int g 0 cap zs w f (by omega) b).mono ?_;rintro a w' ⟨rfl,q,rfl⟩;refine ⟨rfl,?_,Lib.below_putRow (Below.refl _ _) hg⟩;have:=Lib.ownsRow_putRow (q:=q) (ys:=Lib.compact zs++List.replicate (zs.length-(Lib.compact zs).length) 0) h (by simp;omega) i;rwa [List.take_left'] at this;rfl
end
theorem ZdN {w:World}{b:Nat}{c:Array Value}{t:TypeId} (H:Blk w b c t) {n size:Nat} (h:c.size=n*size):SlA w size (some ⟨b,0,none⟩) n n c.toList:=by
 refine ⟨by simpa using h,(fun h=>by cases h),fun j u d=>⟨_,rfl,?_⟩⟩;have a:(⟨b,0,none⟩:Addr).add j=⟨b,j,none⟩:=by unfold Addr.add;split<;>simp_all
 rw [a];exact H.cell j (by simpa using d)
def ZdO (m:Md) (s k:Nat):List Int:=((m.cl.take k).map fun c=>c.m.getD s 0).filter fun n=>decide (0≤n)
theorem ZdP (m:Md) (s:Nat):ZaO m s=ZaN (ZdO m s m.cl.length):=by unfold ZaO ZdO;rw [List.take_length,Int.toNat_natCast]
theorem ZdQ (m:Md) (s k:Nat):(ZdO m s k).length≤k:=by unfold ZdO;have a:=List.length_filter_le (fun n:Int=>decide (0≤n)) ((m.cl.take k).map fun c=>c.m.getD s 0);rw [List.length_map,List.length_take] at a;omega
theorem ZdR {m:Md}{s k:Nat} (hk:k<m.cl.length) (h:0≤(m.cl.getD k default).m.getD s 0):ZdO m s (k+1)=ZdO m s k++[(m.cl.getD k default).m.getD s 0]:=by exact k70
theorem ZdS {m:Md}{s k:Nat} (hk:k<m.cl.length) (h:¬ 0≤(m.cl.getD k default).m.getD s 0):ZdO m s (k+1)=ZdO m s k:=by exact k70
section
variable (m:Md)(h:Hd)(s:Int)(w:World)(H:Zaz w h m)(hs:0≤s∧s<m.sel)(hn:m.cl.length≤10)(hl:∀ j,j<m.cl.length→((m.cl.getD j default).m.length:Int)=m.sel)
include m h s w H hs hn hl
theorem ZdT:
  Calls Tryz.prog 243 #[.agg (HM.mk h m),.int .i64 s] w (ZdH w (ZaO m s)):=by
 obtain ⟨az,aA⟩:=hs;obtain ⟨s,rfl⟩:∃ t:Nat,s=t:=⟨s.toNat,by omega⟩;have hX:=Blk.new w (HM.mk h m) 26;have E:Below w.heap.size w (w.alloc (.cells (HM.mk h m) 26)):=by exact bE
 have hz:(w.alloc (.cells (HM.mk h m) 26)).heap.size=w.heap.size+1:=by simp
 have R:=Zh hX;have O:=Zh (H.old E);have HL:=Zh hl;have D:=Zh E;have Z:=Zh hz;clear hX H hl E hz;obtain ⟨co,cc,so,sc,eo,ec,hc,he⟩:=h;dsimp only at R O D Z ⊢;go_enter Tryz.func243,Tryz.ntmps243
 go_upto_region 1 with fail
 generalize w.alloc _=w0 at R O D Z ⊢;have r0:w0.cell? ⟨w.heap.size,0,none⟩=some (.slice co m.cl.length cc):=R.out.cell 0 rfl;have rl:=R.out.lt
 go_wp2_with fail
 go_loopw [5,12] (fun o i wr=>∃ (k:Nat) (ao:Option Addr) (cap:Nat),k≤m.cl.length∧i=.int .i64 k∧o=.slice ao (ZdO m s k).length cap∧wr.ownsRow w0.heap.size 3 1 (.slice ao (ZdO m s k).length cap) (ZdO m s k).length ((ZdO m s k).map (Value.int .i64))∧Below w0.heap.size w0 wr) (fun _ i _=>m.cl.length-(intOf i).toNat)
 case atStart=>exact ⟨0,none,0,by omega,rfl,rfl,World.ownsRow_nil _ _ _ _,Below.refl _ _⟩
 case round=>
  obtain ⟨k,ao,cap,hk,rfl,rfl,b,c⟩:=hrel;have hlen:=ZdQ m s k;by_cases hkl:k<m.cl.length
  ·obtain ⟨ad,L,c0,c1,c2,c3⟩:=(O.out.old c).cls hkl;obtain ⟨aa,B,t0⟩:=ZaC ((O.out.old c).t k hkl) (i:=s) (by have:=HL.out k hkl;omega);have ag:s<(m.cl.getD k default).m.length:=by have:=HL.out k hkl;omega
   have d:=ZdR (m:=m) (s:=s) hkl;have q:=ZdS (m:=m) (s:=s) hkl;dsimp only at L c2 c3 B;subst L;rw [B] at c3;have ap:=Zh B;clear B;generalize (m.cl.getD k default).m.getD s 0=n at t0 d q;generalize (m.cl.getD k default).m.length=tn at c3 ag;generalize (m.cl.getD k default).n=nm at c0;generalize (m.cl.getD k default).sup=sup at c1;generalize (m.cl.getD k default).f.length=fl at c2;generalize hzs:ZdO m s k=zs at b hlen d q ⊢;have aq:=Zh hzs;clear hzs;have al:(k:Int) < m.cl.length:=by omega
   have am:(s:Int) < tn:=by omega
   have aC:IntKind.i64.wrap ((k:Int)+1)=k+1:=IntWalk.i64_in _ (by omega);have t1:∀ o,(wr.alloc o).cell? (aa.add s)=some (.int .i64 n):=fun o=>by rw [(show Below wr.heap.size wr (wr.alloc o) by exact bE).cell (Zad t0)];exact t0
   by_cases hn0:0≤n
   ·have N:=d hn0;have ae:n ≥ 0:=hn0;have HY:=Zh N;clear d q N
    go_wp2_with (at_builtin;refine Zak rfl (.tmp 23) (.tmp 25) 27 rfl w0.heap.size 3 1 8 Zcm (.slice ao zs.length cap) zs.length (zs.map (Value.int .i64)) rfl ((b.alloc _).alloc _) _ 1 1 [.int .i64 n] rfl (ZdN (Blk.new' #[.int .i64 n] 3 (by simp)) rfl) (by intro u hu;rw [List.mem_singleton.1 hu];rfl) (by omega) (by unfold maxLen;omega) (by have:=c.size;simp;omega) ?_;intro ao1 cap1 aD z M;have HO9:=Zh z;have HB9:=Zh (ZcR (bal (bal c _) _) M (fun j hj=>(b.lt j hj).1));clear z M)
    exact k56
   ·have N:=q hn0;have ae:¬ n ≥ 0:=hn0;have HY:=Zh N;have V:=Zh b;have F:=Zh c;clear d q N b c;go_wp2;go_roundw
    case rel=>exact ⟨k+1,ao,cap,by omega,by go_num,by rw [HY.out],by rw [HY.out];exact V.out.alloc _,bal F.out _⟩
    case measure=>simp [intOf];omega
  ·obtain rfl:k=m.cl.length:=by omega
   have f:=ZdP m s;generalize ZdO m s m.cl.length=zs at b hlen f ⊢;have C:=Zh f;have V:=Zh b;have F:=Zh c;have K:=ZdF zs;have U:=Zh K;have af:=ZdC zs;clear f b c K
   go_wp2_with fail
   refine (ZdL ao zs.length cap zs _ V.out (by omega) F.out.size).mono ?_;rintro e1 w1 ⟨rfl,r,I⟩;have X:=Zh r;have G:=Zh I;clear r I
   go_wp2_with fail
   refine (ZdM ao zs.length cap (zs.mergeSort fun x y=>decide (x≤y)) _ X.out (by omega) (by have:=F.out.size;have:=G.out.size;omega) (by rw [U.out];exact af)).mono ?_;rintro e2 w2 ⟨rfl,v,J⟩;have Y:=Zh v;have T:=Zh J;clear v J;go_wp2;go_ret;refine ⟨⟨ao,cap,by rw [U.out,C.out];rfl,?_⟩,?_⟩
   ·have h2:=Y.out;rw [U.out] at h2;rw [C.out];refine ⟨Zas.of_own (by rw [Zau];exact h2),fun a ha=>?_⟩;subst ha;have:=(h2.lt a.block rfl).1;have:=Z.out;omega
   ·exact Zag D.out ((F.out.trans G.out).trans T.out)
theorem ZdU:
  Calls Tryz.prog 243 #[.agg (HM.mk h m),.int .i64 s] w (ZdG w (ZaO m s)):=
 (ZdT m h s w H hs hn hl).mono fun e w' ⟨⟨ao,cap,h1,h2,_⟩,h3⟩=>⟨⟨ao,cap,h1,h2⟩,h3⟩
end
end
section
open Go.RowKit
theorem ZdV : Tryz.prog.fieldsOf 38 = #[⟨"Kind", 3, 0, false, "", "", 0⟩, ⟨"Class", 3, 1, false, "", "", 8⟩] := by kernel_rfl
theorem ZdW (w:World) (a b c d:Int):Sem.run Tryz.prog (Op.equalIn 10000 38 (.agg #[.int .i64 a,.int .i64 b]) (.agg #[.int .i64 c,.int .i64 d])) w=.ok (decide ((⟨a,b⟩:Ty)=⟨c,d⟩)) w:=by
 have q:Tryz.prog.underlying 38=some (.struct (Tryz.prog.fieldsOf 38)):=by kernel_rfl
 rw [run_equalIn_agg _ _ _ _ _ q (by kernel_rfl),ZdV];have i:∀ (x y:Int) w,Sem.run Tryz.prog (part 3 #[.int .i64 x,.int .i64 y] 0) w=.ok (.int .i64 x) w:=fun x y w=>by kernel_rfl
 have o:∀ (x y:Int) w,Sem.run Tryz.prog (part 3 #[.int .i64 x,.int .i64 y] 1) w=.ok (.int .i64 y) w:=fun x y w=>by kernel_rfl
 have f:∀ (x y:Int) w,Sem.run Tryz.prog (Op.equalIn 9999 3 (.int .i64 x) (.int .i64 y)) w=.ok (x == y) w:=fun x y w=>run_equalIn_int w 9998 3 .i64 .i64 x y Tryz.underlying3;simp only [Op.eqFields,Sem.run_bind,i,o,f,Result.andThen_ok];by_cases h1:a=c<;>by_cases h2:b=d<;>simp [h1,h2,Op.eqFields,i,o,f]
theorem ZdX (w:World) (a b c d:Int):Sem.run Tryz.prog (binOp .eql 38 (.agg #[.int .i64 a,.int .i64 b]) (.agg #[.int .i64 c,.int .i64 d])) w=.ok (.bool (decide ((⟨a,b⟩:Ty)=⟨c,d⟩))) w:=by rw [run_eql_struct,ZdW];rfl
theorem ZdY (w:World) (a b c d:Int):Sem.run Tryz.prog (binOp .neq 38 (.agg #[.int .i64 a,.int .i64 b]) (.agg #[.int .i64 c,.int .i64 d])) w=.ok (.bool (!decide ((⟨a,b⟩:Ty)=⟨c,d⟩))) w:=by rw [run_neq_struct,ZdW];rfl
theorem ZdZ (w:World) (op:BinOp) (x y:Operand) (a ys:Array Value):Sem.run Tryz.prog (eqGuard op 38 x y (.agg a) (.agg ys)) w=.ok () w:=run_eqGuard_agg w op 38 x y a ys (by kernel_rfl)
end
section
open Go.RowKit
inductive Ord
 | done
 | plain (i:Nat) (t:Ord)
 | one (i:Nat) (t:Ord)
 | two (i j:Nat) (t u:Ord)
def oL:List Nat→Ord
 | []=>.done
 | n :: r=>if n<100 then .plain n (oL r) else .one (n-100) (oL r)
def Ord.len:Ord→Nat
 | .done=>0
 | .plain _ t=>t.len+1
 | .one _ t=>t.len+1
 | .two _ _ t _=>t.len+1
def Ord.inB (n:Nat):Ord→Bool
 | .done=>true
 | .plain i t=>decide (i<n)&&t.inB n
 | .one i t=>decide (i<n)&&t.inB n
 | .two i j t u=>decide (i<n)&&decide (j<n)&&t.inB n&&u.inB n
section
variable {P:Program}{ops:Array Oper}{md:Region.Mode}{S:World→Prop}{Q:Exit→Act→World→Prop}
def Zd0 (P:Program) (l:List Oper) (Q:Exit→Act→World→Prop) (S:World→Prop):Ord→Act→World→Prop
 | .done,a,w=>Q .normal a w
 | .plain i t,a,w=>∃ v,YieldsIf P l.toArray S (Zcc l i) v a∧Zd0 P l Q S t (a.put (Zcc l i).dst v) w
 | .one i t,a,w=>wpOp P l.toArray Q i (fun a' w'=>S w'∧Zd0 P l Q S t a' w') a w
 | .two i j t u,a,w=>wpOp P l.toArray Q i (fun a' w'=>S w'∧Zd0 P l Q S t a' w') a w∧wpOp P l.toArray Q j (fun a' w'=>S w'∧Zd0 P l Q S u a' w') a w
def Zd1 (md:Region.Mode) (ops:Array Oper):Ord→Array Bool→Bool
 | .done,listed=>decide (Region.ready md ops listed=[])
 | .plain k t,listed=>(Region.ready md ops listed).contains k&&Region.free md ops listed k&&Zd1 md ops t (listed.setIfInBounds k true)
 | .one k t,listed=>decide (Region.ready md ops listed=[k])&&Zd1 md ops t (listed.setIfInBounds k true)
 | .two i j t u,listed=>decide (Region.ready md ops listed=[i,j])&&decide (t.len=u.len)&&Zd1 md ops t (listed.setIfInBounds i true)&&Zd1 md ops u (listed.setIfInBounds j true)
theorem Zd2 {l:List Oper} (r:∀ c a d v w,Q (.panic c) (Act.put a d v) w→Q (.panic c) a w) (f:Region.noSelect l.toArray=true) :
  ∀ (t:Ord) (b:Array Bool) (a:Act) (w:World),t.inB l.length=true→S w→Zd1 md l.toArray t b=true→Zd0 P l Q S t a w→Zb3 P md l.toArray Q S t.len b a w
 | .done,b,a,w,_,_,hB,h=>⟨by simpa [Zd1] using hB,h⟩
 | .plain k t,b,a,w,hi,hS,hB,h=>by
  simp only [Zd1,Bool.and_eq_true] at hB;simp only [Ord.inB,Bool.and_eq_true,decide_eq_true_eq] at hi;obtain ⟨⟨D,C⟩,y⟩:=hB;obtain ⟨v,E,B⟩:=h;have z:l.toArray[k]?=some (Zcc l k):=by simp [Zcc,hi.1]
  exact Zb5 z (Region.noSelect_spec f) r t.len b a w (Region.free_spec z C) (by simpa using D) E hS (Zd2 r f t _ _ _ hi.2 hS y B)
 | .one k t,b,a,w,hi,hS,hB,h=>by
  simp only [Zd1,Bool.and_eq_true,decide_eq_true_eq] at hB;simp only [Ord.inB,Bool.and_eq_true,decide_eq_true_eq] at hi;refine ⟨by rw [hB.1];simp,fun i q=>?_⟩;rw [hB.1] at q;obtain rfl:i=k:=by simpa using q
  exact wpOp_mono (fun x w' o=>⟨o.1,Zd2 r f t _ _ _ hi.2 o.1 hB.2 o.2⟩) h
 | .two i j t u,b,a,w,hi,hS,hB,h=>by
  simp only [Zd1,Bool.and_eq_true,decide_eq_true_eq] at hB;simp only [Ord.inB,Bool.and_eq_true,decide_eq_true_eq] at hi;refine ⟨by rw [hB.1.1.1];simp,fun k q=>?_⟩;rw [hB.1.1.1] at q;rcases (show k=i∨k=j by simpa using q) with rfl|rfl
  ·exact wpOp_mono (fun x w' o=>⟨o.1,Zd2 r f t _ _ _ hi.1.2 o.1 hB.1.2 o.2⟩) h.1
  ·have hlen:(Ord.two i k t u).len=u.len+1:=by rw [←hB.1.1.2];rfl
   show wpOp P l.toArray Q k (fun x w'=>S w'∧Zb3 P md l.toArray Q S t.len (b.setIfInBounds k true) x w') a w;rw [hB.1.1.2];exact wpOp_mono (fun x w' o=>⟨o.1,Zd2 r f u _ _ _ hi.2 o.1 hB.2 o.2⟩) h.2
theorem Zd3 {id:Nat}{a:Act}{w:World}{l:List Oper} (S:World→Prop) (t:Ord) (x:P.follows .mixedOrders=true)
  (o:(Region.noSelect l.toArray&&decide (t.len=l.length)&&t.inB l.length&&Zd1 .any l.toArray t (Array.replicate l.length false))=true) (r:∀ c a d v w,Q (.panic c) (Act.put a d v) w→Q (.panic c) a w) (u:S w.drew)
  (h:Zd0 P l Q S t a w.drew):(Code.region id l.toArray true).wp P Q a w:=by
 simp only [Bool.and_eq_true,decide_eq_true_eq] at o;obtain ⟨⟨⟨f,hlen⟩,i⟩,b⟩:=o;refine wp_region_any x ?_;have:=Zd2 (P:=P) (Q:=Q) (S:=S) (md:=.any) r f t _ a w.drew i u b h;rw [hlen] at this;have q:=Zb4 _ _ _ _ this;simpa using q
theorem Zd4 {a:Act}{w:World}{k:Nat}{K:Act→World→Prop} (o:Oper) (d:ops[k]?=some o) (f:Region.wanted o (yielded ops a.tmps)=true) (h:∀ b:Act→World→Prop,(∀ a w,K a w→b a w)→o.wp P a w b Q):wpOp P ops Q k K a w:=by unfold wpOp;simp only [d,f,if_true];exact .inl (h _ fun _ _ c=>c)
theorem Zd5 {l:List Oper}{k:Nat}{t:Ord}{a:Act}{w:World} (h:wpOp P l.toArray Q k (fun b w'=>S w'∧Zd0 P l Q S t b w') a w):Zd0 P l Q S (.one k t) a w:=h
theorem Zd6 {l:List Oper}{i j:Nat}{t u:Ord}{a:Act}{w:World} (c:wpOp P l.toArray Q i (fun b w'=>S w'∧Zd0 P l Q S t b w') a w) (d:wpOp P l.toArray Q j (fun b w'=>S w'∧Zd0 P l Q S u b w') a w):Zd0 P l Q S (.two i j t u) a w:=⟨c,d⟩
theorem Zd7 {l:List Oper}{a:Act}{w:World} (h:Q .normal a w):Zd0 P l Q S .done a w:=h
end
section
variable {P:Program}{S:World→Prop}{Q:Exit→Act→World→Prop}
def Cs:List (Addr × Value)→World→Prop
 | [],_=>True
 | (a,v) :: l,w=>w.cell? a=some v∧Cs l w
theorem pO {l:List Oper}{k:Nat}{t:Ord}{a a':Act}{w:World}{o:Oper}{v:Value} (h:Zd0 P l Q S t a' w) (ho:Zcc l k=o:=by (simp only [Zcc,List.getD_cons_zero,List.getD_cons_succ];rfl)) (hy:YieldsIf P l.toArray S o v a:=by first|(refine Or.inl ⟨by rfl,?_⟩;intro w hSw;(try dsimp only [Cs] at hSw);go_simp;(try with_reducible rfl);done)|exact Or.inr ⟨by rfl,rfl⟩) (ha:a.put o.dst v=a':=by ((try simp only [Act.put,List.setIfInBounds_toArray,List.set_cons_zero,List.set_cons_succ]);rfl)):Zd0 P l Q S (.plain k t) a w:=by subst ho ha;exact ⟨v,hy,h⟩
theorem oO {l:List Oper}{k:Nat}{t:Ord}{a:Act}{w:World}{o:Oper} (h:∀ Kv:Act→World→Prop,(∀ a w,S w∧Zd0 P l Q S t a w→Kv a w)→o.wp P a w Kv Q) (ho:l.toArray[k]?=some o:=by rfl) (hw:Region.wanted o (yielded l.toArray a.tmps)=true:=by rfl):Zd0 P l Q S (.one k t) a w:=Zd5 (Zd4 o ho hw h)
theorem rO {id:Nat}{a:Act}{w:World}{l:List Oper} (S:World→Prop) (t:Ord) (hS:S w.drew) (h:Zd0 P l Q S t a w.drew) (hm:P.follows .mixedOrders=true:=by kernel_rfl)
  (hB:(Region.noSelect l.toArray&&decide (t.len=l.length)&&t.inB l.length&&Zd1 .any l.toArray t (Array.replicate l.length false))=true:=by kernel_rfl) (hQ:∀ c a d v w,Q (.panic c) (Act.put a d v) w→Q (.panic c) a w:=by intro c a d v w h;cases d<;>exact h):(Code.region id l.toArray true).wp P Q a w:=Zd3 S t hm hB hQ hS h
end
end
section
open Go.RowKit
attribute [local go_sem] World.cell?_alloc_some
def Zd8 (l:List Int) (k:Nat):List Int:=ZaN (l.take k)
theorem Zd9 (l:List Int) (k:Nat):(Zd8 l k).length≤k:=by have:=ZdC (l.take k);rw [List.length_take] at this;unfold Zd8;omega
theorem Zea {l:List Int}{k:Nat} (h:k<l.length):Zd8 l (k+1)=ZaM (l.getD k 0) (Zd8 l k):=by
 have e:l.take (k+1)=l.take k++[l.getD k 0]:=by rw [List.take_succ_eq_append_getElem h];simp [h]
 unfold Zd8 ZaN;rw [e,List.foldl_append];rfl
theorem Zeb (n:Int):∀ (zs:List Int) (a:Nat),a≤zs.length→(∀ j,j<a→zs.getD j 0<n)→(a<zs.length→¬ zs.getD a 0<n)→ZaM n zs=if a<zs.length∧zs.getD a 0=n then zs else zs.take a++n :: zs.drop a:=by
 intro zs
 induction zs with
 | nil=>
     intro a c _ _;obtain rfl:a=0:=by simpa using c
     rfl
 | cons z r ih=>
  intro a c d f;cases a with
  | zero=>
   have b:¬ z<n:=by simpa using f (by simp)
   unfold ZaM;rw [if_neg b];simp
  | succ a=>
   have b:z<n:=by simpa using d 0 (by omega)
   have i:=ih a (by simpa using c) (fun j o=>by simpa using d (j+1) (by omega)) (fun h=>by simpa using f (by simpa using h));unfold ZaM;rw [if_pos b,i];simp only [List.length_cons,List.getD_cons_succ,List.take_succ_cons,List.drop_succ_cons,List.cons_append];by_cases hc:a<r.length∧r.getD a 0=n
   ·rw [if_pos hc,if_pos ⟨by omega,hc.2⟩]
   ·rw [if_neg hc,if_neg (fun h=>hc ⟨by omega,h.2⟩)]
def Zec (W:World) (l:List Int):Ending→World→Prop:=fun e w'=>(∃ ao cap,e=.returned (.slice ao l.length cap)∧w'.ownsRow W.heap.size 3 1 (.slice ao l.length cap) l.length (l.map (Value.int .i64)))∧Below W.heap.size W w'
theorem Zed {w w':World}{base:Nat}{e:TypeId}{size:Nat}{v:Value}{n:Nat}{f:List Value}{a:Option Nat} (h:w.ownsRow base e size v n f) (hg:w.grownBy w' a) (d:∀ b,v.ownBlock=some b→some b≠a):w'.ownsRow base e size v n f:=by
 obtain ⟨i,c⟩:=h;refine ⟨i,?_⟩;rcases c with c|⟨g,cap,cur,hv,hb,hh,h3⟩
 ·exact .inl c
 ·subst hv;exact .inr ⟨g,cap,cur,rfl,hb,Blk.grownV (t:=e) hh hg (d g rfl),h3⟩
theorem Zee (w:World) (t:TypeId) (base b:Nat) (hb:base≤b) (h:Blk w b #[] t):w.ownsRow base t 1 (.slice (some ⟨b,0,none⟩) 0 0) 0 []:=
 ⟨rfl,.inr ⟨b,0,#[],rfl,hb,h,Nat.le_refl _,by unfold maxLen;omega,rfl,rfl⟩⟩
theorem Zef {w:World}{base base':Nat}{e:TypeId}{size:Nat}{v:Value}{n:Nat}{b:List Value} (h:w.ownsRow base e size v n b) (hb:base'≤base):w.ownsRow base' e size v n b:=by
 obtain ⟨c,a⟩:=h;refine ⟨c,?_⟩;rcases a with a|⟨g,cap,cur,hv,hg,h3⟩
 ·exact .inl a
 ·exact .inr ⟨g,cap,cur,hv,Nat.le_trans hb hg,h3⟩
theorem Zeg {w:World}{base:Nat}{e:TypeId}{g n cap:Nat}{zs:List Int} (h:w.ownsRow base e 1 (.slice (some ⟨g,0,none⟩) n cap) n (zs.map (Value.int .i64))) {a:Nat} (i:a≤n) (c:Nat):SlA w 1 (some ⟨g,0,none⟩) a c ((zs.take a).map (Value.int .i64)):=by
 have f:zs.length=n:=by simpa using h.1
 refine ⟨by simp [f,i],(fun h=>by cases h),fun j u d=>⟨_,rfl,?_⟩⟩;have b:(⟨g,0,none⟩:Addr).add j=⟨g,j,none⟩:=by unfold Addr.add;split<;>simp_all
 rw [b];refine Zcv h (by simpa using f) j ?_;rw [List.getElem?_map,List.getElem?_take] at d;split at d
 ·rw [List.getElem?_map];exact d
 ·simp at d
theorem Zeh {P:Program}{w:World}{o:Oper}{a:Act}{K:Act→World→Prop}{Q:Exit→Act→World→Prop} (s x:Operand) (t:TypeId)
  (X:o.op=.call { callee:=.builtin .append,args:=#[s,x],argTypes:=#[t,t] })
  (e:TypeId) (size f:Nat) (v:El P t e size f)
  (ao:Option Addr) (n cap:Nat) (q:List Value) (hs:a.eval s=.slice ao n cap) (D:SlA w size ao n cap q)
  (bo:Option Addr) (m c:Nat) (d:List Value) (Y:a.eval x=.slice bo m c) (E:SlA w size bo m c d) (h1:∀ u∈d,u.oneCell'=true) (hm:0<m) (G:cap<n+m)
  (r:(n+m)*f≤140737488355328) (L:n+m≤maxLen)
  (h:∀ ao' cap' w',w'.ownsRow w.heap.size e size (.slice ao' (n+m) cap') (n+m) (q++d)→w.grownBy w' none→K (a.put o.dst (.slice ao' (n+m) cap')) w'):o.wp P a w K Q:=by
 obtain ⟨i,z,V,Z,C,M,N⟩:=v.info;have U:∀ I w',w'.ownsRow w.heap.size e size I (n+m) (q++d)→w.grownBy w' none→K (a.put o.dst I) w':=by
  intro I w' y hg;rcases y.2 with ⟨rfl,ae⟩|⟨g,c,ab,rfl,hr⟩
  ·omega
  ·exact h _ c w' y hg
 cases bo with
 | none=>have:=(E.2.1 rfl).1;omega
 | some ad=>
  have J:∀ j u,d[j]?=some u→w.cell? (ad.add j)=some u:=fun j u O=>by obtain ⟨a',F,J⟩:=E.2.2 j u O;obtain rfl:=Option.some.inj F;exact J
  cases ao with
  | some b=>
   obtain ⟨I,w',B,R,T⟩:=run_append_arg_grows (P:=P) w t o.type e i z size f v.und V Z C M N v.pos b n cap q D.1 (fun j u O=>by
    obtain ⟨a',F,J⟩:=D.2.2 j u O;obtain rfl:=Option.some.inj F;exact J) ad m c d E.1 J G L r
   unfold Oper.wp;simp [execOp,X,resolve,invoke,builtin,hs,Y,B,Result.andThen];exact U I w' R T
  | none=>
   obtain ⟨rfl,rfl⟩:=D.2.1 rfl;obtain rfl:q=[]:=List.eq_nil_of_length_eq_zero (by simpa using D.1);obtain ⟨I,w',B,R,T,_⟩:=run_append_own (P:=P) w w.heap.size t o.type e i z size f v.und V Z C M N v.pos (.slice none 0 0) 0 [] (World.ownsRow_nil w _ e size) ad m c d E.1 J h1 L r (Nat.le_refl _);unfold Oper.wp;simp [execOp,X,resolve,invoke,builtin,hs,Y,B,Result.andThen];exact U I w' R T
theorem Zei {w:World}{base:Nat}{e:TypeId}{g n cap:Nat}{zs:List Int} (h:w.ownsRow base e 1 (.slice (some ⟨g,0,none⟩) n cap) n (zs.map (Value.int .i64))) {a:Nat} (i:a≤n) (c:Nat):SlA w 1 (some ⟨g,a,none⟩) (n-a) c ((zs.drop a).map (Value.int .i64)):=by
 have f:zs.length=n:=by simpa using h.1
 refine ⟨by simp [f],(fun h=>by cases h),fun j u d=>⟨_,rfl,?_⟩⟩;have b:(⟨g,a,none⟩:Addr).add j=⟨g,a+j,none⟩:=by unfold Addr.add;split<;>simp_all
 rw [b];refine Zcv h (by simpa using f) (a+j) ?_;rw [List.getElem?_map,List.getElem?_drop] at d;rw [List.getElem?_map];exact d
theorem Zej (w:World) (p:Addr) (c:Nat):SlA w 1 (some p) 0 c []:=⟨rfl,(fun h=>by cases h),fun j u a=>by simp at a⟩
theorem Zek (w:World):SlA w 1 none 0 0 []:=⟨rfl,fun _=>⟨rfl,rfl⟩,fun j u a=>by simp at a⟩
theorem Zel {P:Program}{w:World}{o:Oper}{a:Act}{K:Act→World→Prop}{Q:Exit→Act→World→Prop} (s x:Operand) (t:TypeId)
  (R:o.op=.call { callee:=.builtin .append,args:=#[s,x],argTypes:=#[t,t] })
  (base:Nat) (e:TypeId) (size f:Nat) (y:El P t e size f)
  (v:Value) (n:Nat) (F:List Value) (hs:a.eval s=v) (q:w.ownsRow base e size v n F)
  (bo:Option Addr) (m c:Nat) (d:List Value) (T:a.eval x=.slice bo m c) (B:SlA w size bo m c d) (U:∀ u∈d,u.oneCell'=true)
  (r:(n+m)*f≤140737488355328) (I:n+m≤maxLen) (C:base≤w.heap.size)
  (h:∀ ao' cap' w',w'.ownsRow base e size (.slice ao' (n+m) cap') (n+m) (F++d)→w.grownBy w' v.ownBlock→K (a.put o.dst (.slice ao' (n+m) cap')) w'):o.wp P a w K Q:=by
 obtain ⟨i,z,O,Z,D,L,N⟩:=y.info;cases bo with
 | none=>
  obtain ⟨rfl,rfl⟩:=B.2.1 rfl;have hn:d=[]:=by have:=B.1;simpa using this
  subst hn;have Y:∃ ao cap,v=.slice ao n cap:=by
   rcases q.2 with ⟨rfl,rfl⟩|⟨g,c,G,rfl,_⟩
   ·exact ⟨_,_,rfl⟩
   ·exact ⟨_,_,rfl⟩
  obtain ⟨ao,cap,rfl⟩:=Y;have E:=run_append_owned_none (P:=P) (w:=w) base t o.type e i size y.und O _ n F q;unfold Oper.wp;simp [execOp,R,resolve,invoke,builtin,hs,T,E,Result.andThen];exact h ao cap w (by simpa using q) ⟨rfl,rfl,rfl,Nat.le_refl _,fun _ _ _=>rfl⟩
 | some ad=>
  refine wp_append_own _ s x t R base e i z size f y.und O Z D L N y.pos v n F hs q ad m c d T B.1 (fun j u X=>?_) U I r C ?_
  ·obtain ⟨a',J,V⟩:=B.2.2 j u X;obtain rfl:=Option.some.inj J;exact V
  ·intro v' w' b hg _;rcases b.2 with ⟨rfl,M⟩|⟨g,c,G,rfl,hr⟩
   ·have:=h none 0 w';rw [M] at this b;exact this b hg
   ·exact h _ c w' b hg
theorem Zem (l:List Int) (ao:Option Addr) (cap:Nat) (w:World) (hl:Zas w ao cap l) (hm:l.length≤1000000):Calls Tryz.prog 62 #[.slice ao l.length cap] w (Zec w (ZaN l)):=by
 have HL:=Zh hl;clear hl;go_enter Tryz.func62,Tryz.ntmps62
 go_wp2_with fail
 go_loopw [3,4] (fun o i wr=>∃ (k:Nat) (M:Option Addr) (z:Nat),k≤l.length∧i=.int .i64 k∧o=.slice M (Zd8 l k).length z∧wr.ownsRow w.heap.size 3 1 (.slice M (Zd8 l k).length z) (Zd8 l k).length ((Zd8 l k).map (Value.int .i64))∧Below w.heap.size w wr) (fun _ i _=>l.length-(intOf i).toNat)
 case atStart=>exact ⟨0,none,0,by omega,rfl,rfl,World.ownsRow_nil _ _ _ _,Below.refl _ _⟩
 case round=>
  obtain ⟨k,M,z,hk,rfl,rfl,q,r⟩:=hrel;by_cases hkl:k<l.length
  ·obtain ⟨ad,rfl,t0⟩:=ZaC (HL.out.old r) hkl;have T:=Zd9 l k;have B:=Zea hkl;generalize hx:l.getD k 0=x at t0 B;generalize hzs:Zd8 l k=zs at q T B ⊢;have HX:=Zh hx;have HZ:=Zh hzs;have HSu:=Zh B;have L:=Zh q;have J:=Zh r;clear hx hzs B q r;have V:(k:Int) < l.length:=by omega
   have ac:IntKind.i64.wrap ((k:Int)+1)=k+1:=IntWalk.i64_in _ (by omega);obtain ⟨wo,rfl⟩:∃ wo:World,wo=wr:=⟨_,rfl⟩
   go_wp2_with fail
   go_loopw [5] (fun at_ Y=>∃ a:Nat,a≤zs.length∧at_=.int .i64 a∧Hid (Y.ownsRow w.heap.size 3 1 (.slice M zs.length z) zs.length (zs.map (Value.int .i64)))∧Hid (Below w.heap.size w Y)∧Hid (∀ j,j<a→zs.getD j 0<x)) (fun at_ _=>zs.length-(intOf at_).toNat)
   case atStart=>exact ⟨0,by omega,rfl,L,J,Zh (by omega)⟩
   case round=>
    obtain ⟨a,ha,rfl,HO2,HB2,N⟩:=hrel;clear L J t0;obtain ⟨ad',hadd,t0⟩:=ZaC (HL.out.old HB2.out) hkl;obtain rfl:=Option.some.inj hadd;rw [HX.out] at t0;clear hadd;have X:IntKind.i64.wrap ((a:Int)+1)=a+1:=IntWalk.i64_in _ (by omega);by_cases haz:a<zs.length
    ·have F:(a:Int) < zs.length:=by omega
     have G:decide ((a:Int) < zs.length)=true:=by simpa using haz
     obtain ⟨g,rfl⟩:=Zaj HO2.out (by omega);have hc:=Zcv HO2.out (by simp) a (v:=.int .i64 (zs.getD a 0)) (by rw [List.getElem?_map,List.getElem?_eq_getElem haz];simp [haz]);generalize hy:zs.getD a 0=y at hc;have D:=Zh hy;clear hy;by_cases hyx:y<x
     ·go_wp2
      go_quiet (fail)
      go_wp2;go_roundw
      case rel=>
       refine ⟨a+1,by omega,by go_num,HO2,Zh (ZcQ HB2.out _),Zh fun j hj=>?_⟩;by_cases hja:j<a
       ·exact N.out j hja
       ·obtain rfl:j=a:=by omega
        rw [D.out];exact hyx
      case measure=>simp [intOf];omega
     ·by_cases hyeq:y=x
      ·have f:ZaM x zs=zs:=by rw [Zeb x zs a ha N.out (fun _=>by rw [D.out];omega),if_pos ⟨haz,by rw [D.out,hyeq]⟩]
       have HIns:=Zh f;clear f;subst hyeq;go_wp2
       go_quiet (fail)
       go_wp2
       go_quiet (fail)
       go_wp2;go_roundw
       case rel=>exact ⟨k+1,_,z,by omega,by go_num,by rw [HSu.out,HIns.out],by rw [HSu.out,HIns.out];exact HO2.out,ZcQ HB2.out _⟩
       case measure=>simp [intOf];omega
      ·have ae:(y == x)=false:=by simpa using hyeq
       have f:ZaM x zs=zs.take a++x :: zs.drop a:=by rw [Zeb x zs a ha N.out (fun _=>by rw [D.out];exact hyx),if_neg (fun h=>hyeq (by rw [←D.out];exact h.2))]
       have HIns:=Zh f;clear f;go_wp2
       go_quiet (fail)
       go_wp2
       go_quiet (fail)
       have O:=Zcu HO2.out;have I:¬ z=a:=by omega
       have aa:a≤z:=by omega
       have E:(a:Int)≤z:=by omega
       go_wp2_with (at_builtin;refine Zak rfl (.tmp 45) (.tmp 48) 27 rfl wr.heap.size 3 1 8 Zcm _ 0 [] rfl (Zee _ _ _ _ (Nat.le_refl _) (Blk.new _ _ _)) _ _ _ ((zs.drop a).map (Value.int .i64)) rfl ((Zei HO2.out ha _).alloc _) (by intro u hu;obtain ⟨y,_,rfl⟩:=List.mem_map.1 hu;rfl) (by omega) (by unfold maxLen;omega) (by simp) ?_;intro ao1 cap1 w5 hown5 hg5)
       have hb5:=ZcR (show Below w.heap.size w _ from bal (ZcQ HB2.out _) _) hg5 (fun j hj=>by cases hj;exact HB2.out.size);have hO5:=Zed ((show (wr.drewN _).ownsRow _ _ _ _ _ _ from HO2.out).alloc _) hg5 (fun b hb=>by cases hb;exact fun h=>absurd (Option.some.inj h) (Nat.ne_of_lt (Zct HO2.out)));simp only [Nat.zero_add,List.nil_append] at hown5;have HO5:=Zh hown5;have HP5:=Zh hO5;have HB5:=Zh hb5;have hNw:=hg5.size;clear hown5 hO5 hb5 hg5;have hS:∀ w',Below w.heap.size w w'→w'.cell? (ad.add k)=some (.int .i64 x):=fun w' hb=>by obtain ⟨ad',hadd,t0⟩:=ZaC (HL.out.old hb) hkl;obtain rfl:=Option.some.inj hadd;rw [HX.out] at t0;exact t0
       have HS:=Zh hS;have t5:=hS _ HB5.out;clear hS;refine rO (fun w'=>w'.cell? (ad.add k)=some (.int .i64 x)) (oL [0,1,2,3,4,5,6,7,10,108,109,111,12]) (HS.out w5.drew HB5.out.drew) ?_
       repeat refine pO ?_
       refine oO fun K hK=>?_;go_simp;refine hK _ _ ⟨HS.out _ (bal HB5.out.drew _),?_⟩;clear hK K;refine oO fun K hK=>?_;refine Zeh (.tmp 53) (.tmp 58) 27 rfl 3 1 8 Zcm _ a _ ((zs.take a).map (Value.int .i64)) rfl (SlA.alloc (w:=w5.drew) (Zeg HP5.out ha _) _) _ 1 1 [.int .i64 x] rfl (ZdN (Blk.new w5.drew #[.int .i64 x] 3) rfl) (by intro u hu;rw [List.mem_singleton.1 hu];rfl) (by decide) (by omega) (by omega) (by unfold maxLen;omega) ?_;intro ao2 cap2 w6 hown6 hg6;have hb6:=ZcR (bal HB5.out.drew _) hg6 (fun j hj=>by cases hj);have hO6:=Zed (World.ownsRow.alloc (w:=w5.drew) HO5.out (.cells #[.int .i64 x] 3)) hg6 (fun b hb h=>by cases h);have hw6:=hg6.size;have HO6:=Zh hO6;have HP6:=Zh hown6;have HB6:=Zh hb6;clear hO6 hown6 hb6 hg6;refine hK _ _ ⟨HS.out _ HB6.out,?_⟩;clear hK K;refine oO fun K hK=>?_;refine Zel (.tmp 59) (.tmp 60) 27 rfl _ 3 1 8 Zcm _ (a+1) _ rfl HP6.out _ _ _ _ rfl (Zai HO6.out).2 (by intro u hu;obtain ⟨y,_,rfl⟩:=List.mem_map.1 hu;rfl) (by omega) (by unfold maxLen;omega) hw6 ?_;intro ao3 cap3 w7 hown7 hg7;have hsz:w.heap.size≤(w5.alloc (.cells #[.int .i64 x] 3)).drew.heap.size:=(bal HB5.out (.cells #[.int .i64 x] 3)).size;have hb7:=ZcR HB6.out hg7 (fun j hj=>Nat.le_trans hsz (HP6.out.lt j hj).1);have hO7:=Zef hown7 hsz;have HO7:=Zh hO7;have HB7:=Zh hb7;clear hO7 hown7 hb7 hg7;refine hK _ _ ⟨HS.out _ HB7.out,?_⟩;clear hK K
       repeat refine pO ?_
       refine Zd7 ?_;go_wp2;go_roundw
       case rel=>
        have hlen:(Zd8 l (k+1)).length=a+1+(zs.length-a):=by rw [HSu.out,HIns.out];simp;omega
        exact k53
       case measure=>simp [intOf];omega
    ·have F:¬ (a:Int) < zs.length:=by omega
     have G:decide ((a:Int) < zs.length)=false:=by simpa using haz
     have f:ZaM x zs=zs.take a++x :: zs.drop a:=by rw [Zeb x zs a ha N.out (fun h=>by omega),if_neg (fun h=>haz h.1)]
     have HIns:=Zh f;clear f;rcases HO2.out.2 with ⟨R,-⟩|⟨g,U,Z,R,-⟩
     ·injection R with h1 h2 h3
      subst h1 h3;obtain rfl:zs=[]:=List.eq_nil_of_length_eq_zero h2;obtain rfl:a=0:=by simpa using ha
      clear h2;go_wp2
      go_quiet (fail)
      go_wp2
      go_quiet (fail)
      go_wp2_with (at_builtin;refine Zak rfl (.tmp 45) (.tmp 48) 27 rfl wr.heap.size 3 1 8 Zcm _ 0 [] rfl (Zee _ _ _ _ (Nat.le_refl _) (Blk.new _ _ _)) _ _ _ ([]) rfl (Zek _) (by intro u hu;simp at hu) (by omega) (by unfold maxLen;omega) (by simp) ?_;intro ao1 cap1 w5 hown5 hg5)
      have hb5:=ZcR (show Below w.heap.size w _ from bal (ZcQ HB2.out _) _) hg5 (fun j hj=>by cases hj;exact HB2.out.size);have hO5:=World.ownsRow_nil w5 w.heap.size 3 1;simp only [Nat.zero_add,List.nil_append] at hown5;have HO5:=Zh hown5;have HP5:=Zh hO5;have HB5:=Zh hb5;have hNw:=hg5.size;clear hown5 hO5 hb5 hg5;have hS:∀ w',Below w.heap.size w w'→w'.cell? (ad.add k)=some (.int .i64 x):=fun w' hb=>by obtain ⟨ad',hadd,t0⟩:=ZaC (HL.out.old hb) hkl;obtain rfl:=Option.some.inj hadd;rw [HX.out] at t0;exact t0
      have HS:=Zh hS;have t5:=hS _ HB5.out;clear hS;refine rO (fun w'=>w'.cell? (ad.add k)=some (.int .i64 x)) (oL [0,1,2,3,4,5,6,7,10,108,109,111,12]) (HS.out w5.drew HB5.out.drew) ?_
      repeat refine pO ?_
      refine oO fun K hK=>?_;go_simp;refine hK _ _ ⟨HS.out _ (bal HB5.out.drew _),?_⟩;clear hK K;refine oO fun K hK=>?_;refine Zeh (.tmp 53) (.tmp 58) 27 rfl 3 1 8 Zcm _ 0 _ ([]) rfl (SlA.alloc (w:=w5.drew) (Zek _) _) _ 1 1 [.int .i64 x] rfl (ZdN (Blk.new w5.drew #[.int .i64 x] 3) rfl) (by intro u hu;rw [List.mem_singleton.1 hu];rfl) (by decide) (by omega) (by omega) (by unfold maxLen;omega) ?_;intro ao2 cap2 w6 hown6 hg6;have hb6:=ZcR (bal HB5.out.drew _) hg6 (fun j hj=>by cases hj);have hO6:=Zed (World.ownsRow.alloc (w:=w5.drew) HO5.out (.cells #[.int .i64 x] 3)) hg6 (fun b hb h=>by cases h);have hw6:=hg6.size;have HO6:=Zh hO6;have HP6:=Zh hown6;have HB6:=Zh hb6;clear hO6 hown6 hb6 hg6;refine hK _ _ ⟨HS.out _ HB6.out,?_⟩;clear hK K;refine oO fun K hK=>?_;refine Zel (.tmp 59) (.tmp 60) 27 rfl _ 3 1 8 Zcm _ (0+1) _ rfl HP6.out _ _ _ _ rfl (Zai HO6.out).2 (by intro u hu;simp at hu) (by omega) (by unfold maxLen;omega) hw6 ?_;intro ao3 cap3 w7 hown7 hg7;have hsz:w.heap.size≤(w5.alloc (.cells #[.int .i64 x] 3)).drew.heap.size:=(bal HB5.out (.cells #[.int .i64 x] 3)).size;have hb7:=ZcR HB6.out hg7 (fun j hj=>Nat.le_trans hsz (HP6.out.lt j hj).1);have hO7:=Zef hown7 hsz;have HO7:=Zh hO7;have HB7:=Zh hb7;clear hO7 hown7 hb7 hg7;refine hK _ _ ⟨HS.out _ HB7.out,?_⟩;clear hK K
      repeat refine pO ?_
      refine Zd7 ?_;go_wp2;go_roundw
      case rel=>
       have hlen:(Zd8 l (k+1)).length=1:=by rw [HSu.out,HIns.out];simp
       exact k53
      case measure=>simp [intOf];omega
     ·injection R with h1 h2 h3
      subst h1 h3;obtain rfl:a=zs.length:=by omega
      have O:=Zcu HO2.out;have E:(zs.length:Int)≤z:=by omega
      by_cases I:z=zs.length
      ·subst I;exact k5
      ·exact k5
  ·obtain rfl:k=l.length:=by omega
   have C:Zd8 l l.length=ZaN l:=by unfold Zd8;rw [List.take_length]
   rw [C] at q ⊢;have L:=Zh q;have J:=Zh r;clear q r C;go_wp2;go_ret;exact ⟨⟨_,_,rfl,L.out⟩,J.out⟩
end
section
open Go.RowKit Go.Shelf
attribute [local go_sem] Oper.semAt_some
structure VB where
 op:Int
 bo:Option Addr
 bn:Nat
 bc:Nat
 fo:Option Addr
 fn:Nat
 fc:Nat
 mid:Bool
instance:Inhabited VB:=⟨⟨0,none,0,0,none,0,0,false⟩⟩
instance:Cells VB:=⟨4,by decide,fun t=>[.int .i64 t.op,.slice t.bo t.bn t.bc,.slice t.fo t.fn t.fc,.bool t.mid],fun _=>rfl,by
 intro x u hu;simp only [List.mem_cons,List.not_mem_nil,or_false] at hu;rcases hu with rfl|rfl|rfl|rfl<;>rfl⟩
theorem Zen {w:World}{ao:Option Addr}{cap:Nat}{l:List VB} (h:Zas w ao cap l) {i:Nat} (b:i<l.length):∃ a,ao=some a ∧
  w.cell? (a.add (i*4))=some (.int .i64 (l.getD i default).op)∧w.cell? ⟨(a.add (i*4)).block,(a.add (i*4)).off+1,none⟩=some (.slice (l.getD i default).bo (l.getD i default).bn (l.getD i default).bc)∧w.cell? ⟨(a.add (i*4)).block,(a.add (i*4)).off+2,none⟩=some (.slice (l.getD i default).fo (l.getD i default).fn (l.getD i default).fc)∧w.cell? ⟨(a.add (i*4)).block,(a.add (i*4)).off+3,none⟩=some (.bool (l.getD i default).mid):=by
 obtain ⟨a,rfl⟩:=h.some (by omega);have c:l.getD i default=l[i]:=by simp [b]
 rw [c];exact ⟨a,rfl,h.cell b 0 rfl,h.cell b 1 rfl,h.cell b 2 rfl,h.cell b 3 rfl⟩
def Zeo (l:List VB) (k:Nat):List (Nat × VB):=(List.range k).map fun j=>(l.length-1-j,l.getD (l.length-1-j) default)
theorem Zep (l:List VB) (k:Nat):Zeo l (k+1)=Zeo l k++[(l.length-1-k,l.getD (l.length-1-k) default)]:=by simp [Zeo,List.range_succ]
theorem Zeq (l:List VB) (k:Nat):(Zeo l k).length=k:=by simp [Zeo]
abbrev Zer (x:Nat × VB):Array Value:=#[.int .i64 (x.1:Int),.agg #[.int .i64 x.2.op,.slice x.2.bo x.2.bn x.2.bc,.slice x.2.fo x.2.fn x.2.fc,.bool x.2.mid]]
theorem Zes (F:Fence) (n:Nat) (hF:F.fn 322) (T:F.round=none) (hn:1≤n) (l D:Nat) (ao:Option Addr) (cap:Nat) (a:List VB) (w0:World) (f:Zas w0 ao cap a) (hlen:a.length≤1000000) (J U:List (Nat × VB)→World→Prop)
  (X:∀ b x W,J b W→b.length<a.length→YieldAt F (n-1) Tryz.prog l (Zer x) W fun e r=>
   (e=.returned (.bool true)∧J (b++[x]) r∧Below w0.heap.size W r)∨(e=.returned (.bool false)∧U (b++[x]) r))
  (W:World) (M:Below w0.heap.size w0 W) (o:w0.cell? ⟨D,0,none⟩=some (.slice ao a.length cap)) (h0:J [] W) :
  CallsIn F n Tryz.prog 322 #[.func (.yield l) #[] #[],ZQ.p D] W fun e r=>(∃ v,e=.returned v) ∧
   ((∃ ys,ys=Zeo a a.length∧J ys r)∨(∃ b,(∃ k,k≤a.length∧b=Zeo a k)∧U b r)):=by
 have L:=Zad o;have q:∀ w',Below w0.heap.size w0 w'→w'.cell? ⟨D,0,none⟩=some (.slice ao a.length cap):=fun w' hb=>by rw [hb.cell (p:=⟨D,0,none⟩) L];exact o
 have HC:=Zh q;have HR:=Zh f;have HW:=Zh M;have HY:=Zh X;have N:=q W M;clear q f M o X;refine callsIn_of_wp Tryz.func322 rfl hF ?_ T;simp only [Tryz.ntmps322,List.size_toArray,List.length_cons,List.length_nil,Nat.reduceAdd,Nat.reduceSub,Array.replicate_succ,Array.replicate_zero,List.push_toArray,List.append_toArray,List.nil_append,List.cons_append]
 gi_wp2
 gi_loopw [3] (fun i wr=>∃ k:Nat,k≤a.length∧i=.int .i64 ((a.length:Int)-1-k)∧J (Zeo a k) wr∧Hid (Below w0.heap.size w0 wr))
  (fun i _=>(intOf i+1).toNat)
 case atStart=>exact ⟨0,Nat.zero_le _,by simp,h0,HW⟩
 case round=>
  obtain ⟨k,hk,rfl,y,G⟩:=hrel;clear N;have am:=HC.out wr G.out;by_cases hlt:k<a.length
  ·obtain ⟨j,O⟩:∃ j:Nat,(a.length:Int)-1-k=j:=⟨a.length-1-k,by omega⟩;have B:a.length-1-k=j:=by omega
   have R:j<a.length:=by omega
   obtain ⟨ad,rfl,e0,e1,e2,e3⟩:=Zen (HR.out.old G.out) R;have c:=Zep a k;rw [B] at c;rw [O];generalize a.getD j default=x at e0 e1 e2 e3 c;have Y:(j:Int) < a.length:=by omega
   have an:(j:Int) ≥ 0:=by omega
   obtain ⟨fn,Z,E,V,hy,hR⟩:=HY.out _ (j,x) wr y (by rw [Zeq];exact hlt);dsimp only [Zer] at hy;have t:=Zh c;have HJ:=Zh O;clear c O B;have ap:IntKind.i64.wrap ((j:Int)-1)=j-1:=IntWalk.i64_in _ (by omega)
   gi_wp2
   refine hR.mono ?_;rintro e W3 (⟨rfl,u,C⟩|⟨rfl,z⟩)
   ·have I:=Zh (G.out.trans C);have K:=Zh u;clear u C
    gi_wp2
    go_roundw
    case rel=>exact ⟨k+1,by omega,by have:=HJ.out;rw [show (j:Int)-1=(a.length:Int)-1-((k+1:Nat):Int) by omega],by rw [t.out];exact K.out,I⟩
    case measure=>first|(simp [intOf];done)|(simp [intOf];omega)
   ·gi_wp2
    refine bodyPost_ret (results_none rfl _ _ _) rfl ?_;exact ⟨⟨_,rfl⟩,.inr ⟨_,⟨k+1,by omega,t.out.symm⟩,z⟩⟩
  ·obtain rfl:k=a.length:=by omega
   have d:(a.length:Int)-1-a.length=-1:=by omega
   rw [d];clear d
   gi_wp2
   go_end0;exact ⟨⟨_,rfl⟩,.inl ⟨_,rfl,y⟩⟩
theorem Zet (F:Fence) (n:Nat) (hF:F.fn 305) (b:F.round=none) (ao:Option Addr) (a cap:Nat) (w:World) :
  CallsIn F n Tryz.prog 305 #[.slice ao a cap] w fun e w'=>e=.returned (.func (.func 322) #[] #[.pointer (some ⟨w.heap.size,0,none⟩)])∧w'=w.alloc (.cells #[.slice ao a cap] 164):=by
 refine callsIn_of_wp Tryz.func305 rfl hF ?_ b;simp only [Tryz.ntmps305,List.size_toArray,List.length_cons,List.length_nil,Nat.reduceAdd,Nat.reduceSub,Array.replicate_succ,Array.replicate_zero,List.push_toArray,List.append_toArray,List.nil_append,List.cons_append]
 gi_wp2
 go_ret;exact ⟨rfl,rfl⟩
theorem Zeu (F:Fence) (n:Nat) (hF:F.fn 322) (o:F.round=none) (hn:1≤n) (d:Nat) (ao:Option Addr) (cap:Nat) (a:List VB) (w0:World) (c:Zas w0 ao cap a) (hlen:a.length≤1000000) (f:w0.cell? ⟨d,0,none⟩=some (.slice ao a.length cap)) :
  SeqStopsK F n Tryz.prog 322 #[ZQ.p d] Zer (Below w0.heap.size) (fun ys=>ys=Zeo a a.length) (fun b=>∃ k,k≤a.length∧b=Zeo a k) a.length w0:=fun l J t W v _ _ x u=>by
 refine (Zes F n hF o hn l d ao cap a w0 c hlen J t x W v f u).mono ?_
 rintro e z ⟨r,⟨ys,q,i⟩|⟨b,y,i⟩⟩
 ·exact ⟨r,.inl ⟨ys,q,i⟩⟩
 ·exact ⟨r,.inr ⟨b,y,i⟩⟩
end
section
def Zev (m:Md) (t u:Ty):Bool:=if t.k=2∧u.k=2 then ZaI m (t.c.toNat+1) t.c u.c else decide (t=u)
def Zew:Ty:=⟨1,0⟩
structure Opn where
 op:Int
 beg:List Ty
 past:List Ty
 mid:Bool
instance:Inhabited Opn:=⟨⟨0,[],[],false⟩⟩
structure Ps where
 stk:List Ty
 opn:List Opn
def Zex (l:List Opn):Nat:=match l.reverse.find? fun o=>decide (o.op=33)&&!o.mid with
 | some o=>o.beg.length
 | none=>0
def Zey (m:Md) (i:In3):Option Mth:=if i.op=25 then some (m.me.getD i.a.toNat default) else match ZaO m i.a with
 | []=>none
 | t :: _=>some (m.me.getD t.toNat default)
def Zez (m:Md) (i:In3):Nat × Nat:=
 if i.op=1∨i.op=2∨i.op=12∨i.op=14∨i.op=15∨i.op=16∨i.op=22 then (0,1)
 else if i.op=3∨i.op=4∨i.op=23∨i.op=27∨i.op=29∨i.op=30 then (1,0)
 else if i.op=5 then (1,2)
 else if i.op=6∨i.op=7∨i.op=8∨i.op=9∨i.op=10∨i.op=11∨i.op=19 then (2,1)
 else if i.op=13∨i.op=17∨i.op=21∨i.op=24 then (1,1)
 else if i.op=18 then (2,0) else if i.op=20 then (3,0)
 else if i.op=25∨i.op=26 then match Zey m i with
  | none=>(0,0)
  | some x=>(x.p.length+(if i.op=26 then 1 else 0),if x.r.k=0 then 0 else 1)
 else (0,0)
def ZeA (m:Md) (t:Ty) (a:Int):Option Ty:=if t.k=2 then (m.cl.getD t.c.toNat default).f[a.toNat]? else none
def ZeB (t:Ty):Option Ty:=if t.k=3 then some Zew else if t.k=4 then some ⟨2,t.c⟩ else none
def ZeC (m:Md) (t:Ty):Option Ty→Bool
 | none=>false
 | some u=>Zev m t u
def ty0:Ty:=⟨0,0⟩
def ZeD (m:Md) (lo:List Ty) (i:In3) (l:List Ty):Option Ty:=
 let a:=l.getD 0 default
 let b:=l.getD 1 default
 let c:=l.getD 2 default
 let ok (x:Bool) (t:Ty):Option Ty:=if x then some t else none
 if i.op=1 then some Zew
 else if i.op=2 then lo[i.a.toNat]?
 else if i.op=3 then ok (ZeC m a lo[i.a.toNat]?) ty0
 else if i.op=5 then some a
 else if i.op=6∨i.op=7∨i.op=8∨i.op=9∨i.op=10∨i.op=11 then ok (decide (a=Zew)&&decide (b=Zew)) Zew
 else if i.op=12 then some ⟨i.a,i.b⟩
 else if i.op=13 then ok (decide (a≠Zew)) Zew
 else if i.op=14 then some ⟨2,i.a⟩
 else if i.op=15 then some ⟨3,0⟩
 else if i.op=16 then some ⟨4,i.b⟩
 else if i.op=17 then ZeA m a i.a
 else if i.op=18 then ok (ZeC m b (ZeA m a i.a)) ty0
 else if i.op=19 then (if b=Zew then ZeB a else none)
 else if i.op=20 then ok (decide (b=Zew)&&ZeC m c (ZeB a)) ty0
 else if i.op=21 then ok (ZeB a).isSome Zew
 else if i.op=22 then some (m.st.getD i.a.toNat default)
 else if i.op=23 then ok (Zev m a (m.st.getD i.a.toNat default)) ty0
 else if i.op=24 then ok (decide (a.k=2)&&(Zev m a ⟨2,i.a⟩||Zev m ⟨2,i.a⟩ a)) ⟨2,i.a⟩
 else if i.op=25 then ok ((List.range (m.me.getD i.a.toNat default).p.length).all fun k=>Zev m (l.getD k default) ((m.me.getD i.a.toNat default).p.getD k default)) (m.me.getD i.a.toNat default).r
 else if i.op=26 then match Zey m i with
  | none=>none
  | some x=>ok (decide (a.k=2)&&decide (0≤m.ent a.c i.a.toNat)&&(List.range x.p.length).all fun k=>Zev m (l.getD (k+1) default) (x.p.getD k default)) x.r
 else if i.op=27∨i.op=29 then ok (decide (a=Zew)) ty0
 else if i.op=30 then ok (decide (a=Zew)&&decide (lo[i.b.toNat]?=some Zew)) ty0
 else some ty0
def ZeE (m:Md) (lo:List Ty) (i:In3) (s:Ps):Int × Ps:=
 if i.op=34 then (0,⟨(s.opn.getLastD default).beg,s.opn.dropLast++[{ s.opn.getLastD default with past:=s.stk,mid:=true }]⟩)
 else if i.op=35 then
  let o:=s.opn.getLastD default
  let want:=if o.mid then o.past else o.beg
  if s.stk.length≠want.length then (12,s) else if s.stk=want then (0,⟨s.stk,s.opn.dropLast⟩) else (11,s)
 else
  let c:=Zez m i
  if s.stk.length<c.1+Zex s.opn∨12<s.stk.length-c.1+c.2 then (12,s)
  else match ZeD m lo i (s.stk.drop (s.stk.length-c.1)) with
   | none=>(11,s)
   | some t=>
    let k:=s.stk.take (s.stk.length-c.1)++List.replicate c.2 t
    (0,⟨k,if ZaS i.op then s.opn++[⟨i.op,k,[],false⟩] else s.opn⟩)
def ZeF (m:Md) (r:Ty) (k:List Ty):Int:=
 if r.k=0 then (if k=[] then 0 else 12) else match k with
  | [t]=>if Zev m t r then 0 else 11
  | _=>12
def ZeG (m:Md) (lo:List Ty) (r:Ty):Nat→List In3→Ps→List (List Ty) × Nat × Int
 | n,[],s=>if ZeF m r s.stk=0 then ([s.stk],0,0) else ([],n,ZeF m r s.stk)
 | n,i :: l,s=>if (ZeE m lo i s).1=0 then
   let q:=ZeG m lo r (n+1) l (ZeE m lo i s).2
   if q.2.2=0 then (s.stk :: q.1,0,0) else ([],q.2)
  else ([],n,(ZeE m lo i s).1)
def ZeH (x:Mth):List Ty:=(if 0≤x.c then [⟨2,x.c⟩] else [])++x.p++x.l
def ZeI (m:Md) (k:Nat):List (List Ty) × Nat × Int:=ZeG m (ZeH (m.me.getD k default)) (m.me.getD k default).r 0 (m.me.getD k default).k ⟨[],[]⟩
def ZeJ (m:Md) (k:Int):List (List Ty) × Nat × Int:=if Za2 m∧0≤k∧k<m.me.length then ZeI m k.toNat else ([],0,1)
end
section
open Go.RowKit
theorem ZeK {P:Program}{f:Nat}{c:Array Value}{w:World}{v:Value} (h:Calls P f c w fun e w'=>e=.returned v∧w=w'):Calls P f c w fun e w'=>e=.returned v∧w'=w:=h.mono fun _ _ ⟨a,b⟩=>⟨a,b.symm⟩
theorem ZeL {a b c d:Int} (f:a=c) (i:b=d):Ending.returned (.tuple #[.int .i64 a,.int .i64 b])=.returned (.tuple #[.int .i64 c,.int .i64 d]):=by rw [f,i]
def ZeM (op:Int):Int:=if op=12∨op=16∨op=30 then 2 else if op=1∨op=2∨op=3∨op=14∨op=15∨op=17∨op=18∨op=22∨op=23∨op=24∨op=25∨op=26∨op=27∨op=28∨op=31∨op=32 then 1 else 0
theorem ZeN (op:Int) (w:World):Calls Tryz.prog 293 #[.int .i64 op] w fun e w'=>e=.returned (.tuple #[.int .i64 (ZeM op),.int .i64 (if op<0∨36≤op then 3 else 0)])∧w=w':=by
 generalize hq:ZeM op=q;generalize hr:(if op<0∨36≤op then (3:Int) else 0)=r;have a:=Zh hq;have b:=Zh hr;clear hq hr;go_enter Tryz.func293,Tryz.ntmps293;go_wp2
 all_goals
  go_ret2;refine ⟨ZeL ?_ ?_,rfl⟩
  ·rw [←a.out];grind [ZeM]
  ·rw [←b.out];grind
theorem ZeO (n lo a:Int) (w:World):Calls Tryz.prog 294 #[.int .i64 n,.int .i64 lo,.int .i64 a] w fun e w'=>e=.returned (.bool (inI n lo a))∧w=w':=by
 go_enter Tryz.func294,Tryz.ntmps294;go_wp2
 all_goals
  go_ret;refine ⟨Zab ?_,rfl⟩;unfold inI;grind
theorem ZeP (n:Int) (p:Bool) (h:-1000≤n) (a:n≤1000) (w:World):Calls Tryz.prog 295 #[.int .i64 n,.bool p] w fun e w'=>e=.returned (.int .i64 (if p then 59 else n-1))∧w=w':=by
 cases p
 all_goals
  go_enter Tryz.func295,Tryz.ntmps295;go_wp2;go_ret;exact ⟨by simp,rfl⟩
theorem ZeQ (op:Int) (w:World):Calls Tryz.prog 280 #[.int .i64 op] w fun e w'=>e=.returned (.bool (ZaS op))∧w=w':=by
 go_enter Tryz.func280,Tryz.ntmps280;go_wp2
 all_goals
  go_ret;refine ⟨Zab ?_,rfl⟩;unfold ZaS inI;grind
end
