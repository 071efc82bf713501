/- Joined texts. The first: Instructions and their operands: the program's side. -/
import Derived.Test.YtkdamjpbnmbeoaaGreatG1
import Derived.Deep.WholeRow
import Derived.Deep.QuietTactic
import Derived.BigQuiet
set_option linter.all false
set_option linter.unusedVariables false
set_option linter.unusedSimpArgs false
set_option maxRecDepth 100000
set_option maxHeartbeats 8000000
namespace Go.Proofs.YtkdamjpbnmbeoaaGreat
section
open Go.RowKit
def mostA:Value:=.agg #[.int .i64 0,.int .i64 0,.int .i64 9,.int .i64 4,.int .i64 9,.int .i64 48,.int .i64 6,.int .i64 9,.int .i64 15,.int .i64 15,.int .i64 3,.int .i64 9,.int .i64 50,.int .i64 5,.int .i64 24]
theorem most_at (k:Int) (h0:0≤k) (hk:k<15) (w:World):Sem.run Tryz.prog (Instr.index 170 (.agg #[.int .i64 0,.int .i64 0,.int .i64 9,.int .i64 4,.int .i64 9,.int .i64 48,.int .i64 6,.int .i64 9,.int .i64 15,.int .i64 15,.int .i64 3,.int .i64 9,.int .i64 50,.int .i64 5,.int .i64 24]) (.int .i64 k)) w=.ok (.int .i64 (mostV.getD k.toNat 0)) w:=by
 rcases (show k=0∨k=1∨k=2∨k=3∨k=4∨k=5∨k=6∨k=7∨k=8∨k=9∨k=10∨k=11∨k=12∨k=13∨k=14 by omega) with rfl|rfl|rfl|rfl|rfl|rfl|rfl|rfl|rfl|rfl|rfl|rfl|rfl|rfl|rfl
 all_goals kernel_rfl
theorem cmost_any (k:Int) (h0:0≤k) (hk:k<15) (w:World) :
  Calls Tryz.prog 156 #[.int .i64 k] w fun e w'=>e=.returned (.int .i64 (mostV.getD k.toNat 0))∧w=w':=by
 have hi:=most_at k h0 hk
 generalize mostV.getD k.toNat 0=q at hi ⊢
 go_enter Tryz.func156,Tryz.ntmps156
 go_wp2
 go_ret
 exact ⟨rfl,rfl⟩
theorem pools_any (k:Int) (w:World) :
  Calls Tryz.prog 157 #[.int .i64 k] w fun e w'=>e=.returned (.bool (decide (k=4∨k=6∨k=7∨k=8∨k=9)))∧w=w':=by
 have hw:=Lib.hid (rfl:w=w)
 go_enter Tryz.func157,Tryz.ntmps157
 go_wp2
 all_goals
  go_ret
  refine ⟨ret_bool ?_,rfl⟩
  grind
theorem opens_any (op:Int) (w:World) :
  Calls Tryz.prog 54 #[.int .i64 op] w fun e w'=>e=.returned (.bool (opensV op))∧w=w':=by
 go_enter Tryz.func54,Tryz.ntmps54
 go_wp2
 all_goals
  go_ret
  refine ⟨ret_bool ?_,rfl⟩
  rw [Bool.eq_iff_iff];simp [opensV,inI];omega
theorem inR_int {n r:Int}{p:Bool} (h0:0≤r):inR n r.toNat p=if r=1 then inI n (-2147483648) 2147483647 else if r=3 then inI n 2 4 else if r=14 then inI n 1 24 else if p=true∧(r=4∨r=6∨r=7∨r=8∨r=9) then inI n 0 59 else inI n 0 (mostV.getD r.toNat 0):=by
 unfold inR
 by_cases h1:r=1
 ·rw [if_pos h1,if_pos (by omega)]
 rw [if_neg h1,if_neg (by omega)]
 by_cases h3:r=3
 ·rw [if_pos h3,if_pos (by omega)]
 rw [if_neg h3,if_neg (by omega)]
 by_cases h14:r=14
 ·rw [if_pos h14,if_pos (by omega)]
 rw [if_neg h14,if_neg (by omega)]
 have e:poolR r.toNat=decide (r=4∨r=6∨r=7∨r=8∨r=9):=by unfold poolR;rw [decide_eq_decide];omega
 rw [e]
 cases p with
 | false=>simp
 | true=>simp
theorem most14:mostV[14]?.getD 0=24:=rfl
theorem in_any (n r:Int) (p:Bool) (h0:0≤r) (hr:r<15) (w:World) :
  Calls Tryz.prog 152 #[.int .i64 n,.int .i64 r,.bool p] w fun e w'=>e=.returned (.bool (inR n r.toNat p))∧w=w':=by
 generalize hq:inR n r.toNat p=q
 have HQ:=Lib.hid hq
 clear hq
 go_enter Tryz.func152,Tryz.ntmps152
 go_wp2_with (first
  | (go_at_call 157;refine (pools_any _ _).mono ?_;rintro e w' ⟨rfl,rfl⟩)
  | (go_at_call 156;refine (cmost_any _ (by omega) (by omega) _).mono ?_;rintro e w' ⟨rfl,rfl⟩))
 all_goals
  go_ret
  refine ⟨ret_bool ?_,rfl⟩
  rw [←HQ.out,inR_int h0]
  have:=most14
  grind [inI]
end
section
open Go.RowKit
def tableL:List Value:=[.string ⟨#[110,111,112]⟩,.int .i64 0,.int .i64 0,.int .i64 1,.string ⟨#[112,117,115,104]⟩,.int .i64 1,.int .i64 0,.int .i64 1,.string ⟨#[108,111,97,100]⟩,.int .i64 2,.int .i64 0,.int .i64 1,.string ⟨#[115,116,111,114,101]⟩,.int .i64 2,.int .i64 0,.int .i64 1,.string ⟨#[100,114,111,112]⟩,.int .i64 0,.int .i64 0,.int .i64 1,.string ⟨#[100,117,112]⟩,.int .i64 0,.int .i64 0,.int .i64 1,.string ⟨#[97,100,100]⟩,.int .i64 0,.int .i64 0,.int .i64 1,.string ⟨#[115,117,98]⟩,.int .i64 0,.int .i64 0,.int .i64 1,.string ⟨#[109,117,108]⟩,.int .i64 0,.int .i64 0,.int .i64 3,.string ⟨#[100,105,118]⟩,.int .i64 0,.int .i64 0,.int .i64 8,.string ⟨#[108,101,115,115]⟩,.int .i64 0,.int .i64 0,.int .i64 1,.string ⟨#[115,97,109,101]⟩,.int .i64 0,.int .i64 0,.int .i64 1,.string ⟨#[110,117,108,108]⟩,.int .i64 3,.int .i64 4,.int .i64 1,.string ⟨#[105,115,110,117,108,108]⟩,.int .i64 0,.int .i64 0,.int .i64 1,.string ⟨#[110,101,119]⟩,.int .i64 4,.int .i64 0,.int .i64 12,.string ⟨#[110,101,119,105,110,116,115]⟩,.int .i64 5,.int .i64 0,.int .i64 4,.string ⟨#[110,101,119,114,101,102,115]⟩,.int .i64 5,.int .i64 4,.int .i64 4,.string ⟨#[103,101,116]⟩,.int .i64 6,.int .i64 0,.int .i64 2,.string ⟨#[112,117,116]⟩,.int .i64 6,.int .i64 0,.int .i64 3,.string ⟨#[101,108,101,109]⟩,.int .i64 0,.int .i64 0,.int .i64 3,.string ⟨#[115,101,116,101,108,101,109]⟩,.int .i64 0,.int .i64 0,.int .i64 4,.string ⟨#[108,101,110]⟩,.int .i64 0,.int .i64 0,.int .i64 2,.string ⟨#[115,116,97,116,105,99]⟩,.int .i64 7,.int .i64 0,.int .i64 2,.string ⟨#[115,101,116,115,116,97,116,105,99]⟩,.int .i64 7,.int .i64 0,.int .i64 3,.string ⟨#[99,97,115,116]⟩,.int .i64 4,.int .i64 0,.int .i64 2,.string ⟨#[99,97,108,108]⟩,.int .i64 8,.int .i64 0,.int .i64 4,.string ⟨#[115,101,110,100]⟩,.int .i64 9,.int .i64 0,.int .i64 6,.string ⟨#[101,109,105,116]⟩,.int .i64 10,.int .i64 0,.int .i64 2,.string ⟨#[116,104,114,111,119]⟩,.int .i64 11,.int .i64 0,.int .i64 3,.string ⟨#[105,102]⟩,.int .i64 0,.int .i64 0,.int .i64 1,.string ⟨#[108,111,111,112]⟩,.int .i64 12,.int .i64 2,.int .i64 2,.string ⟨#[108,111,99,107]⟩,.int .i64 13,.int .i64 0,.int .i64 2,.string ⟨#[115,99,111,112,101]⟩,.int .i64 14,.int .i64 0,.int .i64 4,.string ⟨#[116,114,121]⟩,.int .i64 0,.int .i64 0,.int .i64 2,.string ⟨#[101,108,115,101]⟩,.int .i64 0,.int .i64 0,.int .i64 1,.string ⟨#[101,110,100]⟩,.int .i64 0,.int .i64 0,.int .i64 1]
def opN:List ByteArray:=[⟨#[110,111,112]⟩,⟨#[112,117,115,104]⟩,⟨#[108,111,97,100]⟩,⟨#[115,116,111,114,101]⟩,⟨#[100,114,111,112]⟩,⟨#[100,117,112]⟩,⟨#[97,100,100]⟩,⟨#[115,117,98]⟩,⟨#[109,117,108]⟩,⟨#[100,105,118]⟩,⟨#[108,101,115,115]⟩,⟨#[115,97,109,101]⟩,⟨#[110,117,108,108]⟩,⟨#[105,115,110,117,108,108]⟩,⟨#[110,101,119]⟩,⟨#[110,101,119,105,110,116,115]⟩,⟨#[110,101,119,114,101,102,115]⟩,⟨#[103,101,116]⟩,⟨#[112,117,116]⟩,⟨#[101,108,101,109]⟩,⟨#[115,101,116,101,108,101,109]⟩,⟨#[108,101,110]⟩,⟨#[115,116,97,116,105,99]⟩,⟨#[115,101,116,115,116,97,116,105,99]⟩,⟨#[99,97,115,116]⟩,⟨#[99,97,108,108]⟩,⟨#[115,101,110,100]⟩,⟨#[101,109,105,116]⟩,⟨#[116,104,114,111,119]⟩,⟨#[105,102]⟩,⟨#[108,111,111,112]⟩,⟨#[108,111,99,107]⟩,⟨#[115,99,111,112,101]⟩,⟨#[116,114,121]⟩,⟨#[101,108,115,101]⟩,⟨#[101,110,100]⟩]
def opC:List Nat:=[1,1,1,1,1,1,1,1,3,8,1,1,1,1,12,4,4,2,3,3,4,2,2,3,2,4,6,2,3,1,2,2,4,2,1,1]
theorem store_table (w:World):(storeCells ⟨w.heap.size,0,none⟩ tableL 0).run Tryz.prog (w.alloc (.cells Tryz.zeroCells155 155))=.ok () (w.alloc (.cells tableL.toArray 155)):=by
 have:=run_storeCells_new (P:=Tryz.prog) w 155 Tryz.zeroCells155 tableL.toArray (by kernel_rfl) (by kernel_rfl) (by kernel_rfl)
 simpa using this
theorem table_any (w:World):Calls Tryz.prog 155 #[] w fun e w'=>e=.returned (.agg tableL.toArray)∧Below w.heap.size w w':=by
 have hld:=run_loadAt_new (P:=Tryz.prog) w 155 tableL.toArray 36 148 Tryz.underlying155 (by kernel_rfl)
 have HLd:=Lib.hid hld
 clear hld
 go_enter Tryz.func155,Tryz.ntmps155
 go_wp2_with fail
 generalize hL:List.set _ _ _=L
 have hL2:L=tableL:=by rw [←hL];kernel_rfl
 subst hL2
 clear hL
 rw [store_table]
 simp only [Result.andThen]
 rw [Oper.upon_skip]
 go_wp2_with fail
 refine bodyPost_ret (v:=.agg tableL.toArray) ?_ rfl ⟨rfl,(Below.refl _ _).alloc (Nat.le_refl _) _⟩
 have hl2:=run_loadVar_new (P:=Tryz.prog) w 155 tableL.toArray 36 148 Tryz.underlying155 (by kernel_rfl)
 have hl1:=HLd.out
 generalize tableL.toArray=T at hl1 hl2 ⊢
 simp [results,Tryz.results155,Act.put,asAddr,Result.andThen,hl1,hl2]
end
section
open Go.RowKit
theorem table_at {k:Nat} (hk:k<36):tableL[k*4]?=some (.string (opN.getD k default))∧tableL[k*4+1]?=some (.int .i64 (opA.getD k 0))∧tableL[k*4+2]?=some (.int .i64 (opB.getD k 0))∧tableL[k*4+3]?=some (.int .i64 (opC.getD k 0)):=by
 rcases (show k=0∨k=1∨k=2∨k=3∨k=4∨k=5∨k=6∨k=7∨k=8∨k=9∨k=10∨k=11∨k=12∨k=13∨k=14∨k=15∨k=16∨k=17∨k=18∨k=19∨k=20∨k=21∨k=22∨k=23∨k=24∨k=25∨k=26∨k=27∨k=28∨k=29∨k=30∨k=31∨k=32∨k=33∨k=34∨k=35 by omega) with rfl|rfl|rfl|rfl|rfl|rfl|rfl|rfl|rfl|rfl|rfl|rfl|rfl|rfl|rfl|rfl|rfl|rfl|rfl|rfl|rfl|rfl|rfl|rfl|rfl|rfl|rfl|rfl|rfl|rfl|rfl|rfl|rfl|rfl|rfl|rfl
 all_goals exact ⟨rfl,rfl,rfl,rfl⟩
theorem table_len:tableL.length=144:=by kernel_rfl
theorem known_no (op:Int) (h:op<0∨36≤op) (w:World):Calls Tryz.prog 151 #[.int .i64 op] w fun e w'=>e=.returned (.tuple #[.agg #[.string ⟨#[]⟩,.int .i64 0,.int .i64 0,.int .i64 0],.bool false])∧Below w.heap.size w w':=by
 obtain ⟨B,hB⟩:∃ B,B=w.heap.size:=⟨_,rfl⟩
 go_enter Tryz.func151,Tryz.ntmps151
 go_wp2_with fail
 have hb0:=(Below.refl w.heap.size w).alloc (Nat.le_refl _) (.cells #[.string ⟨#[]⟩,.int .i64 0,.int .i64 0,.int .i64 0] 148)
 have hR0:=Blk.new' (w:=w) #[.string ⟨#[]⟩,.int .i64 0,.int .i64 0,.int .i64 0] 148 hB
 refine (table_any _).mono ?_
 rintro e w1 ⟨rfl,hb1⟩
 have HL1:=Lib.hid (bthen hb0 hb1)
 have HR1:=Lib.hid (hR0.old hb1)
 rw [←hB]
 have HB:=Lib.hid hB
 clear hb0 hb1 hR0 hB
 have hst:=store_table w1
 have hlen:=table_len
 generalize tableL=L at hst hlen ⊢
 have r0:=HR1.out.cell 0 rfl
 have r1:=HR1.out.cell 1 rfl
 have r2:=HR1.out.cell 2 rfl
 have r3:=HR1.out.cell 3 rfl
 have f0:=HR1.out.frozen 0
 have f1:=HR1.out.frozen 1
 have f2:=HR1.out.frozen 2
 have f3:=HR1.out.frozen 3
 have rl:=HR1.out.lt
 go_wp2_with fail
 all_goals
  have hR2:=((((HR1.out.set 0 (.string ⟨#[]⟩)).set 1 (.int .i64 0)).set 2 (.int .i64 0)).set 3 (.int .i64 0)).alloc (.cells L.toArray 155)
  have q0:=hR2.cell 0 rfl
  have q1:=hR2.cell 1 rfl
  have q2:=hR2.cell 2 rfl
  have q3:=hR2.cell 3 rfl
  refine bodyPost_ret (v:=.tuple #[.agg #[.string ⟨#[]⟩,.int .i64 0,.int .i64 0,.int .i64 0],.bool false]) (by simp [results,Tryz.results151,go_sem,q0,q1,q2,q3]) rfl ⟨rfl,?_⟩
  have:=HB.out
  exact bal (bsetV (bsetV (bsetV (bsetV HL1.out (by omega) _) (by omega) _) (by omega) _) (by omega) _) _
theorem known_yes (k:Nat) (hk:k<36) (w:World):Calls Tryz.prog 151 #[.int .i64 k] w fun e w'=>e=.returned (.tuple #[.agg #[.string (opN.getD k default),.int .i64 (opA.getD k 0),.int .i64 (opB.getD k 0),.int .i64 (opC.getD k 0)],.bool true])∧Below w.heap.size w w':=by
 obtain ⟨t0,t1,t2,t3⟩:=table_at hk
 generalize opN.getD k default=nm at t0 ⊢
 generalize ((opA.getD k 0:Nat):Int)=oa at t1 ⊢
 generalize ((opB.getD k 0:Nat):Int)=ob at t2 ⊢
 generalize ((opC.getD k 0:Nat):Int)=oc at t3 ⊢
 have HT:=Lib.hid (And.intro t0 (And.intro t1 (And.intro t2 t3)))
 clear t0 t1 t2 t3
 obtain ⟨B,hB⟩:∃ B,B=w.heap.size:=⟨_,rfl⟩
 go_enter Tryz.func151,Tryz.ntmps151
 go_wp2_with fail
 have hb0:=(Below.refl w.heap.size w).alloc (Nat.le_refl _) (.cells #[.string ⟨#[]⟩,.int .i64 0,.int .i64 0,.int .i64 0] 148)
 have hR0:=Blk.new' (w:=w) #[.string ⟨#[]⟩,.int .i64 0,.int .i64 0,.int .i64 0] 148 hB
 refine (table_any _).mono ?_
 rintro e w1 ⟨rfl,hb1⟩
 have HL1:=Lib.hid (bthen hb0 hb1)
 have HR1:=Lib.hid (hR0.old hb1)
 rw [←hB]
 have HB:=Lib.hid hB
 clear hb0 hb1 hR0 hB
 have hst:=store_table w1
 have hlen:=table_len
 obtain ⟨t0,t1,t2,t3⟩:=HT.out
 generalize tableL=L at hst hlen t0 t1 t2 t3 ⊢
 have r0:=HR1.out.cell 0 rfl
 have r1:=HR1.out.cell 1 rfl
 have r2:=HR1.out.cell 2 rfl
 have r3:=HR1.out.cell 3 rfl
 have f0:=HR1.out.frozen 0
 have f1:=HR1.out.frozen 1
 have f2:=HR1.out.frozen 2
 have f3:=HR1.out.frozen 3
 have rl:=HR1.out.lt
 have hk0:¬ ((k:Int) < 0):=by omega
 have hk1:¬ ((36:Int)≤k):=by omega
 have hk2:(k:Int) < 36:=by omega
 go_wp2_with fail
 have hR2:=((((HR1.out.set 0 (.string nm)).set 1 (.int .i64 oa)).set 2 (.int .i64 ob)).set 3 (.int .i64 oc)).alloc (.cells L.toArray 155)
 have q0:=hR2.cell 0 rfl
 have q1:=hR2.cell 1 rfl
 have q2:=hR2.cell 2 rfl
 have q3:=hR2.cell 3 rfl
 refine bodyPost_ret (v:=.tuple #[.agg #[.string nm,.int .i64 oa,.int .i64 ob,.int .i64 oc],.bool true]) (by simp [results,Tryz.results151,go_sem,q0,q1,q2,q3]) rfl ⟨rfl,?_⟩
 have:=HB.out
 exact bal (bsetV (bsetV (bsetV (bsetV HL1.out (by omega) _) (by omega) _) (by omega) _) (by omega) _) _
end
section
open Go.RowKit
theorem opA_lt (k:Nat):opA.getD k 0<15:=by
 rw [List.getD_eq_getElem?_getD]
 by_cases h:k<opA.length
 ·rw [List.getElem?_eq_getElem h]
  exact (show ∀ x∈opA,x<15 by decide) _ (List.getElem_mem h)
 ·rw [List.getElem?_eq_none (by omega)];decide
theorem opB_lt (k:Nat):opB.getD k 0<15:=by
 rw [List.getD_eq_getElem?_getD]
 by_cases h:k<opB.length
 ·rw [List.getElem?_eq_getElem h]
  exact (show ∀ x∈opB,x<15 by decide) _ (List.getElem_mem h)
 ·rw [List.getElem?_eq_none (by omega)];decide
theorem insnV_eq {p:Bool}{k:Nat} (hk:k<36) (a b:Int):insnV p ⟨k,a,b⟩=(inR a (opA.getD k 0) p&&inR b (opB.getD k 0) p&&!(decide ((k:Int)=12)&&decide (a=3)&&decide (b≠0))):=by
 unfold insnV
 have h1:decide ((k:Int) < 36)=true:=by simp;omega
 simp only [Int.toNat_natCast,h1,Int.natCast_nonneg,decide_true,Bool.true_and]
theorem cValid_any (i:In3) (p:Bool) (w:World):Calls Tryz.prog 144 #[.agg #[.int .i64 i.op,.int .i64 i.a,.int .i64 i.b],.bool p] w (Ret w (.bool (insnV p i))):=by
 obtain ⟨op,a,b⟩:=i
 dsimp only
 obtain ⟨B,hB⟩:∃ B,B=w.heap.size:=⟨_,rfl⟩
 by_cases h:0≤op∧op<36
 ·obtain ⟨k,rfl⟩:∃ k:Nat,op=k:=⟨op.toNat,by omega⟩
  have hk:k<36:=by omega
  rw [insnV_eq hk]
  have ha:=in_any a (opA.getD k 0:Nat) p (by omega) (by have:=opA_lt k;omega)
  have hb:=in_any b (opB.getD k 0:Nat) p (by omega) (by have:=opB_lt k;omega)
  rw [Int.toNat_natCast] at ha hb
  have hkn:=known_yes k hk
  generalize opN.getD k default=nm at hkn
  generalize ((opA.getD k 0:Nat):Int)=oa at ha hkn
  generalize ((opB.getD k 0:Nat):Int)=ob at hb hkn
  generalize ((opC.getD k 0:Nat):Int)=oc at hkn
  generalize inR a (opA.getD k 0) p=qa at ha ⊢
  generalize inR b (opB.getD k 0) p=qb at hb ⊢
  have HA:=Lib.hid ha
  have HBb:=Lib.hid hb
  have HK:=Lib.hid hkn
  clear ha hb hkn h
  generalize hq:(qa&&qb&&!(decide ((k:Int)=12)&&decide (a=3)&&decide (b≠0)))=q
  have HQ:=Lib.hid hq
  clear hq
  go_enter Tryz.func144,Tryz.ntmps144
  go_wp2_with fail
  have hX:=Blk.new' (w:=w) #[.int .i64 k,.int .i64 a,.int .i64 b] 42 hB
  refine (HK.out _).mono ?_
  rintro e w1 ⟨rfl,hb1⟩
  have hX1:=hX.old hb1
  rw [←hB]
  have HB:=Lib.hid hB
  clear hB
  have x0:=hX1.cell 0 rfl
  have x1:=hX1.cell 1 rfl
  have x2:=hX1.cell 2 rfl
  have xl:=hX1.lt
  go_wp2_with (first
   | (with_reducible refine (HA.out _).mono ?_;rintro e w' ⟨rfl,rfl⟩)
   | (with_reducible refine (HBb.out _).mono ?_;rintro e w' ⟨rfl,rfl⟩))
  all_goals
   go_ret
   refine ret_ok (bool_eq ?_) bE
   rw [←HQ.out]
   grind
 ·have hq:insnV p ⟨op,a,b⟩=false:=by
   unfold insnV
   dsimp only
   by_cases h0:0≤op
   ·rw [decide_eq_false (show ¬ op<36 by omega)];simp
   ·rw [decide_eq_false h0];simp
  rw [hq]
  have HK:=Lib.hid (known_no op (by omega))
  clear hq h
  go_enter Tryz.func144,Tryz.ntmps144
  go_wp2_with fail
  refine (HK.out _).mono ?_
  rintro e w1 ⟨rfl,hb1⟩
  go_wp2_with fail
  go_ret
  exact ret_ok rfl bE
theorem check1_any (i:In3) (p:Bool) (b:Nat) (w:World) (hc:w.cell? ⟨b,0,none⟩=some (.bool p)) :
  Calls Tryz.prog 143 #[.agg #[.int .i64 i.op,.int .i64 i.a,.int .i64 i.b],.pointer (some ⟨b,0,none⟩)] w (Ret w (.bool (!insnV p i))):=by
 have hl:b<w.heap.size:=cell_lt hc
 go_enter Tryz.func143,Tryz.ntmps143
 go_wp2_with fail
 refine (cValid_any i p _).mono ?_
 rintro e w1 ⟨rfl,hb1⟩
 go_wp2_with fail
 go_ret
 exact ret_ok rfl bE
theorem any_ofV {α:Type}{l:List α}{p:α→Bool}{d:α}{k:Nat} (hk:k<l.length) (h:p (l.getD k d)=true):l.any p=true:=by
 rw [List.any_eq_true]
 exact ⟨l[k],List.getElem_mem hk,by simpa [hk] using h⟩
theorem any_notV {α:Type}{l:List α}{p:α→Bool}{d:α} (h:∀ i,i<l.length→p (l.getD i d)=false):l.any p=false:=by
 rw [List.any_eq_false]
 intro x hx
 obtain ⟨i,hi,rfl⟩:=List.getElem_of_mem hx
 have:=h i hi
 simpa [hi] using this
end
section
open Go.RowKit
theorem idxIn_any (l:List In3) (ao:Option Addr) (cap g:Nat) (caps:Array Value) (p:In3→Bool) (w:World) (hlen:l.length≤1000000) (hl:RowAt w ao cap l)
  (cf:∀ A W,(callFunc g (A++caps)).run Tryz.prog W=.ok (.enter g (A++caps)) W)
  (hg:∀ k,k<l.length→∀ w',Below w.heap.size w w'→Calls Tryz.prog g (#[.agg #[.int .i64 (l.getD k default).op,.int .i64 (l.getD k default).a,.int .i64 (l.getD k default).b]]++caps) w' (Ret w' (.bool (p (l.getD k default))))) :
  Calls Tryz.prog 146 #[.slice ao l.length cap,.func (Fn.func g) #[] caps] w fun e w'=>(∃ r:Int,e=.returned (.int .i64 r)∧decide (0≤r)=l.any p)∧Below w.heap.size w w':=by
 have HI:=Lib.hid hl
 have HG:=Lib.hid hg
 clear hl hg
 go_enter Tryz.func146,Tryz.ntmps146
 go_wp2
 go_loopw [8] (fun i wr=>∃ (k:Nat),k≤l.length∧i=.int .i64 k∧Below w.heap.size w wr∧(∀ i,i<k→p (l.getD i default)=false)) (fun i _=>l.length-(intOf i).toNat)
 case atStart=>exact ⟨0,by omega,rfl,Below.refl _ _,by omega⟩
 case round=>
  obtain ⟨k,hk,rfl,hbel,q1⟩:=hrel
  have HL:=Lib.hid hbel
  have Q1:=Lib.hid q1
  clear hbel q1
  by_cases hkl:k<l.length
  ·obtain ⟨ad,rfl,e0,e1,e2⟩:=row_in (HI.out.old HL.out) hkl
   have hgk:=HG.out k hkl _ HL.out
   obtain ⟨x,hx⟩:∃ x,x=l.getD k default:=⟨_,rfl⟩
   rw [←hx] at e0  e1  e2 hgk
   have HX:=Lib.hid hx
   have HGk:=Lib.hid hgk
   clear hx hgk
   rcases hI:p x with _|_
   ·rw [hI] at HGk
    have HP:=Lib.hid hI
    clear hI
    go_wp2_with fail
    refine HGk.out.mono ?_
    rintro e w1 ⟨rfl,hb1⟩
    have HL1:=Lib.hid (bthen HL.out hb1)
    go_wp2
    go_roundw
    case rel=>
     refine ⟨k+1,by omega,by go_num,HL1.out,fun i hi=>?_⟩
     by_cases hik:i<k
     ·exact Q1.out i hik
     ·obtain rfl:i=k:=by omega
      rw [←HX.out];exact HP.out
    case measure=>simp [intOf];omega
   ·rw [hI] at HGk
    have HP:=Lib.hid hI
    clear hI
    go_wp2_with fail
    refine HGk.out.mono ?_
    rintro e w1 ⟨rfl,hb1⟩
    have HL1:=Lib.hid (bthen HL.out hb1)
    go_wp2
    go_ret
    exact ⟨⟨_,rfl,by rw [any_ofV (d:=default) hkl (by rw [←HX.out];exact HP.out)];simp⟩,HL1.out⟩
  ·go_wp2
   go_ret
   exact ⟨⟨_,rfl,(any_notV (d:=default) fun i hi=>Q1.out i (by omega)).symm⟩,HL.out⟩
theorem conIn_any (l:List In3) (ao:Option Addr) (cap g:Nat) (caps:Array Value) (p:In3→Bool) (w:World) (hlen:l.length≤1000000) (hl:RowAt w ao cap l)
  (cf:∀ A W,(callFunc g (A++caps)).run Tryz.prog W=.ok (.enter g (A++caps)) W)
  (hg:∀ k,k<l.length→∀ w',Below w.heap.size w w'→Calls Tryz.prog g (#[.agg #[.int .i64 (l.getD k default).op,.int .i64 (l.getD k default).a,.int .i64 (l.getD k default).b]]++caps) w' (Ret w' (.bool (p (l.getD k default))))) :
  Calls Tryz.prog 133 #[.slice ao l.length cap,.func (Fn.func g) #[] caps] w (Ret w (.bool (l.any p))):=by
 have HI:=Lib.hid (idxIn_any l ao cap g caps p w hlen hl cf hg)
 clear hl hg cf
 go_enter Tryz.func133,Tryz.ntmps133
 go_wp2_with fail
 refine HI.out.mono ?_
 rintro e w1 ⟨⟨r,rfl,hr⟩,hb1⟩
 have HR:=Lib.hid hr
 clear hr
 go_wp2
 go_ret
 exact ret_ok (bool_eq HR.out) hb1
theorem idxTy_any (l:List Ty) (ao:Option Addr) (cap g:Nat) (caps:Array Value) (p:Ty→Bool) (w:World) (hlen:l.length≤1000000) (hl:RowAt w ao cap l)
  (cf:∀ A W,(callFunc g (A++caps)).run Tryz.prog W=.ok (.enter g (A++caps)) W)
  (hg:∀ k,k<l.length→∀ w',Below w.heap.size w w'→Calls Tryz.prog g (#[.agg #[.int .i64 (l.getD k default).k,.int .i64 (l.getD k default).c]]++caps) w' (Ret w' (.bool (p (l.getD k default))))) :
  Calls Tryz.prog 141 #[.slice ao l.length cap,.func (Fn.func g) #[] caps] w fun e w'=>(∃ r:Int,e=.returned (.int .i64 r)∧decide (0≤r)=l.any p)∧Below w.heap.size w w':=by
 have HI:=Lib.hid hl
 have HG:=Lib.hid hg
 clear hl hg
 go_enter Tryz.func141,Tryz.ntmps141
 go_wp2
 go_loopw [8] (fun i wr=>∃ (k:Nat),k≤l.length∧i=.int .i64 k∧Below w.heap.size w wr∧(∀ i,i<k→p (l.getD i default)=false)) (fun i _=>l.length-(intOf i).toNat)
 case atStart=>exact ⟨0,by omega,rfl,Below.refl _ _,by omega⟩
 case round=>
  obtain ⟨k,hk,rfl,hbel,q1⟩:=hrel
  have HL:=Lib.hid hbel
  have Q1:=Lib.hid q1
  clear hbel q1
  by_cases hkl:k<l.length
  ·obtain ⟨ad,rfl,e0,e1⟩:=row_ty (HI.out.old HL.out) hkl
   have hgk:=HG.out k hkl _ HL.out
   obtain ⟨x,hx⟩:∃ x,x=l.getD k default:=⟨_,rfl⟩
   rw [←hx] at e0  e1 hgk
   have HX:=Lib.hid hx
   have HGk:=Lib.hid hgk
   clear hx hgk
   rcases hI:p x with _|_
   ·rw [hI] at HGk
    have HP:=Lib.hid hI
    clear hI
    go_wp2_with fail
    refine HGk.out.mono ?_
    rintro e w1 ⟨rfl,hb1⟩
    have HL1:=Lib.hid (bthen HL.out hb1)
    go_wp2
    go_roundw
    case rel=>
     refine ⟨k+1,by omega,by go_num,HL1.out,fun i hi=>?_⟩
     by_cases hik:i<k
     ·exact Q1.out i hik
     ·obtain rfl:i=k:=by omega
      rw [←HX.out];exact HP.out
    case measure=>simp [intOf];omega
   ·rw [hI] at HGk
    have HP:=Lib.hid hI
    clear hI
    go_wp2_with fail
    refine HGk.out.mono ?_
    rintro e w1 ⟨rfl,hb1⟩
    have HL1:=Lib.hid (bthen HL.out hb1)
    go_wp2
    go_ret
    exact ⟨⟨_,rfl,by rw [any_ofV (d:=default) hkl (by rw [←HX.out];exact HP.out)];simp⟩,HL1.out⟩
  ·go_wp2
   go_ret
   exact ⟨⟨_,rfl,(any_notV (d:=default) fun i hi=>Q1.out i (by omega)).symm⟩,HL.out⟩
theorem conTy_any (l:List Ty) (ao:Option Addr) (cap g:Nat) (caps:Array Value) (p:Ty→Bool) (w:World) (hlen:l.length≤1000000) (hl:RowAt w ao cap l)
  (cf:∀ A W,(callFunc g (A++caps)).run Tryz.prog W=.ok (.enter g (A++caps)) W)
  (hg:∀ k,k<l.length→∀ w',Below w.heap.size w w'→Calls Tryz.prog g (#[.agg #[.int .i64 (l.getD k default).k,.int .i64 (l.getD k default).c]]++caps) w' (Ret w' (.bool (p (l.getD k default))))) :
  Calls Tryz.prog 128 #[.slice ao l.length cap,.func (Fn.func g) #[] caps] w (Ret w (.bool (l.any p))):=by
 have HI:=Lib.hid (idxTy_any l ao cap g caps p w hlen hl cf hg)
 clear hl hg cf
 go_enter Tryz.func128,Tryz.ntmps128
 go_wp2_with fail
 refine HI.out.mono ?_
 rintro e w1 ⟨⟨r,rfl,hr⟩,hb1⟩
 have HR:=Lib.hid hr
 clear hr
 go_wp2
 go_ret
 exact ret_ok (bool_eq HR.out) hb1
theorem idxInt_any (l:List Int) (ao:Option Addr) (cap g:Nat) (caps:Array Value) (p:Int→Bool) (w:World) (hlen:l.length≤1000000) (hl:RowAt w ao cap l)
  (cf:∀ A W,(callFunc g (A++caps)).run Tryz.prog W=.ok (.enter g (A++caps)) W)
  (hg:∀ k,k<l.length→∀ w',Below w.heap.size w w'→Calls Tryz.prog g (#[.int .i64 (l.getD k 0)]++caps) w' (Ret w' (.bool (p (l.getD k 0))))) :
  Calls Tryz.prog 138 #[.slice ao l.length cap,.func (Fn.func g) #[] caps] w fun e w'=>(∃ r:Int,e=.returned (.int .i64 r)∧decide (0≤r)=l.any p)∧Below w.heap.size w w':=by
 have HI:=Lib.hid hl
 have HG:=Lib.hid hg
 clear hl hg
 go_enter Tryz.func138,Tryz.ntmps138
 go_wp2
 go_loopw [8] (fun i wr=>∃ (k:Nat),k≤l.length∧i=.int .i64 k∧Below w.heap.size w wr∧(∀ i,i<k→p (l.getD i 0)=false)) (fun i _=>l.length-(intOf i).toNat)
 case atStart=>exact ⟨0,by omega,rfl,Below.refl _ _,by omega⟩
 case round=>
  obtain ⟨k,hk,rfl,hbel,q1⟩:=hrel
  have HL:=Lib.hid hbel
  have Q1:=Lib.hid q1
  clear hbel q1
  by_cases hkl:k<l.length
  ·obtain ⟨ad,rfl,e0⟩:=row_int (HI.out.old HL.out) hkl
   have hgk:=HG.out k hkl _ HL.out
   obtain ⟨x,hx⟩:∃ x,x=l.getD k 0:=⟨_,rfl⟩
   rw [←hx] at e0 hgk
   have HX:=Lib.hid hx
   have HGk:=Lib.hid hgk
   clear hx hgk
   rcases hI:p x with _|_
   ·rw [hI] at HGk
    have HP:=Lib.hid hI
    clear hI
    go_wp2_with fail
    refine HGk.out.mono ?_
    rintro e w1 ⟨rfl,hb1⟩
    have HL1:=Lib.hid (bthen HL.out hb1)
    go_wp2
    go_roundw
    case rel=>
     refine ⟨k+1,by omega,by go_num,HL1.out,fun i hi=>?_⟩
     by_cases hik:i<k
     ·exact Q1.out i hik
     ·obtain rfl:i=k:=by omega
      rw [←HX.out];exact HP.out
    case measure=>simp [intOf];omega
   ·rw [hI] at HGk
    have HP:=Lib.hid hI
    clear hI
    go_wp2_with fail
    refine HGk.out.mono ?_
    rintro e w1 ⟨rfl,hb1⟩
    have HL1:=Lib.hid (bthen HL.out hb1)
    go_wp2
    go_ret
    exact ⟨⟨_,rfl,by rw [any_ofV (d:=0) hkl (by rw [←HX.out];exact HP.out)];simp⟩,HL1.out⟩
  ·go_wp2
   go_ret
   exact ⟨⟨_,rfl,(any_notV (d:=0) fun i hi=>Q1.out i (by omega)).symm⟩,HL.out⟩
theorem conInt_any (l:List Int) (ao:Option Addr) (cap g:Nat) (caps:Array Value) (p:Int→Bool) (w:World) (hlen:l.length≤1000000) (hl:RowAt w ao cap l)
  (cf:∀ A W,(callFunc g (A++caps)).run Tryz.prog W=.ok (.enter g (A++caps)) W)
  (hg:∀ k,k<l.length→∀ w',Below w.heap.size w w'→Calls Tryz.prog g (#[.int .i64 (l.getD k 0)]++caps) w' (Ret w' (.bool (p (l.getD k 0))))) :
  Calls Tryz.prog 103 #[.slice ao l.length cap,.func (Fn.func g) #[] caps] w (Ret w (.bool (l.any p))):=by
 have HI:=Lib.hid (idxInt_any l ao cap g caps p w hlen hl cf hg)
 clear hl hg cf
 go_enter Tryz.func103,Tryz.ntmps103
 go_wp2_with fail
 refine HI.out.mono ?_
 rintro e w1 ⟨⟨r,rfl,hr⟩,hb1⟩
 have HR:=Lib.hid hr
 clear hr
 go_wp2
 go_ret
 exact ret_ok (bool_eq HR.out) hb1
end
section
open Go.RowKit
theorem flip_same {P:Program}{f:Nat}{args:Array Value}{w:World}{v:Value} (h:Calls P f args w fun e w'=>e=.returned v∧w=w'):Calls P f args w fun e w'=>e=.returned v∧w'=w:=h.mono fun _ _ ⟨a,b⟩=>⟨a,b.symm⟩
theorem ret2_ii {a b c d:Int} (h1:a=c) (h2:b=d):Ending.returned (.tuple #[.int .i64 a,.int .i64 b])=.returned (.tuple #[.int .i64 c,.int .i64 d]):=by rw [h1,h2]
def cntO (op:Int):Int:=if op=12∨op=16∨op=30 then 2 else if op=1∨op=2∨op=3∨op=14∨op=15∨op=17∨op=18∨op=22∨op=23∨op=24∨op=25∨op=26∨op=27∨op=28∨op=31∨op=32 then 1 else 0
theorem operands_any (op:Int) (w:World):Calls Tryz.prog 123 #[.int .i64 op] w fun e w'=>e=.returned (.tuple #[.int .i64 (cntO op),.int .i64 (if op<0∨36≤op then 3 else 0)])∧w=w':=by
 generalize hq:cntO op=q
 generalize hr:(if op<0∨36≤op then (3:Int) else 0)=r
 have HQ:=Lib.hid hq
 have HR:=Lib.hid hr
 clear hq hr
 go_enter Tryz.func123,Tryz.ntmps123
 go_wp2
 all_goals
  go_ret2
  refine ⟨ret2_ii ?_ ?_,rfl⟩
  ·rw [←HQ.out];grind [cntO]
  ·rw [←HR.out];grind
theorem rin3_any (n lo hi:Int) (w:World):Calls Tryz.prog 124 #[.int .i64 n,.int .i64 lo,.int .i64 hi] w fun e w'=>e=.returned (.bool (inI n lo hi))∧w=w':=by
 go_enter Tryz.func124,Tryz.ntmps124
 go_wp2
 all_goals
  go_ret
  refine ⟨ret_bool ?_,rfl⟩
  unfold inI
  grind
theorem rmost3_any (n:Int) (p:Bool) (h:-1000≤n) (h2:n≤1000) (w:World):Calls Tryz.prog 125 #[.int .i64 n,.bool p] w fun e w'=>e=.returned (.int .i64 (if p then 59 else n-1))∧w=w':=by
 cases p
 all_goals
  go_enter Tryz.func125,Tryz.ntmps125
  go_wp2
  go_ret
  exact ⟨by simp,rfl⟩
theorem ropens_any (op:Int) (w:World):Calls Tryz.prog 126 #[.int .i64 op] w fun e w'=>e=.returned (.bool (opensV op))∧w=w':=by
 go_enter Tryz.func126,Tryz.ntmps126
 go_wp2
 all_goals
  go_ret
  refine ⟨ret_bool ?_,rfl⟩
  unfold opensV inI
  grind
end
section
open Go.RowKit
theorem ins0 (a b:Int) (p:Bool):insnV p ⟨0,a,b⟩=(inI a 0 0&&inI b 0 0&&true):=by cases p<;>rfl
theorem rV0 (a b:Int) (p:Bool) (w:World):Calls Tryz.prog 96 #[.agg #[.int .i64 0,.int .i64 a,.int .i64 b],.bool p] w (Ret w (.bool (insnV p ⟨0,a,b⟩))):=by
 generalize hq:insnV p _=q
 have HQ:=Lib.hid hq
 clear hq
 go_enter Tryz.func96,Tryz.ntmps96
 go_wp2_with (first
  | (go_at_call 123;refine (operands_any _ _).mono ?_;rintro e w' ⟨rfl,rfl⟩;simp only [cntO])
  | (go_at_call 124;refine (rin3_any _ _ _ _).mono ?_;rintro e w' ⟨rfl,rfl⟩)
  | (go_at_call 125;refine (rmost3_any _ _ (by omega) (by omega) _).mono ?_;rintro e w' ⟨rfl,rfl⟩))
 all_goals
  first
   | go_ret
   | (go_quiet (first|(go_at_call 124;exact Calls.quiet_of_same (flip_same (rin3_any _ _ _ _)))|(go_at_call 125;exact Calls.quiet_of_same (flip_same (rmost3_any _ _ (by omega) (by omega) _))));go_wp2;all_goals go_ret)
 all_goals
  refine ret_ok (bool_eq ?_) bE
  rw [←HQ.out]
  rw [ins0]
  clear HQ
  unfold inI at *
  grind
theorem ins1 (a b:Int) (p:Bool):insnV p ⟨1,a,b⟩=(inI a (-2147483648) 2147483647&&inI b 0 0&&true):=by cases p<;>rfl
theorem rV1 (a b:Int) (p:Bool) (w:World):Calls Tryz.prog 96 #[.agg #[.int .i64 1,.int .i64 a,.int .i64 b],.bool p] w (Ret w (.bool (insnV p ⟨1,a,b⟩))):=by
 generalize hq:insnV p _=q
 have HQ:=Lib.hid hq
 clear hq
 go_enter Tryz.func96,Tryz.ntmps96
 go_wp2_with (first
  | (go_at_call 123;refine (operands_any _ _).mono ?_;rintro e w' ⟨rfl,rfl⟩;simp only [cntO])
  | (go_at_call 124;refine (rin3_any _ _ _ _).mono ?_;rintro e w' ⟨rfl,rfl⟩)
  | (go_at_call 125;refine (rmost3_any _ _ (by omega) (by omega) _).mono ?_;rintro e w' ⟨rfl,rfl⟩))
 all_goals
  first
   | go_ret
   | (go_quiet (first|(go_at_call 124;exact Calls.quiet_of_same (flip_same (rin3_any _ _ _ _)))|(go_at_call 125;exact Calls.quiet_of_same (flip_same (rmost3_any _ _ (by omega) (by omega) _))));go_wp2;all_goals go_ret)
 all_goals
  refine ret_ok (bool_eq ?_) bE
  rw [←HQ.out]
  rw [ins1]
  clear HQ
  unfold inI at *
  grind
theorem ins2 (a b:Int) (p:Bool):insnV p ⟨2,a,b⟩=(inI a 0 9&&inI b 0 0&&true):=by cases p<;>rfl
theorem rV2 (a b:Int) (p:Bool) (w:World):Calls Tryz.prog 96 #[.agg #[.int .i64 2,.int .i64 a,.int .i64 b],.bool p] w (Ret w (.bool (insnV p ⟨2,a,b⟩))):=by
 generalize hq:insnV p _=q
 have HQ:=Lib.hid hq
 clear hq
 go_enter Tryz.func96,Tryz.ntmps96
 go_wp2_with (first
  | (go_at_call 123;refine (operands_any _ _).mono ?_;rintro e w' ⟨rfl,rfl⟩;simp only [cntO])
  | (go_at_call 124;refine (rin3_any _ _ _ _).mono ?_;rintro e w' ⟨rfl,rfl⟩)
  | (go_at_call 125;refine (rmost3_any _ _ (by omega) (by omega) _).mono ?_;rintro e w' ⟨rfl,rfl⟩))
 all_goals
  first
   | go_ret
   | (go_quiet (first|(go_at_call 124;exact Calls.quiet_of_same (flip_same (rin3_any _ _ _ _)))|(go_at_call 125;exact Calls.quiet_of_same (flip_same (rmost3_any _ _ (by omega) (by omega) _))));go_wp2;all_goals go_ret)
 all_goals
  refine ret_ok (bool_eq ?_) bE
  rw [←HQ.out]
  rw [ins2]
  clear HQ
  unfold inI at *
  grind
theorem ins3 (a b:Int) (p:Bool):insnV p ⟨3,a,b⟩=(inI a 0 9&&inI b 0 0&&true):=by cases p<;>rfl
theorem rV3 (a b:Int) (p:Bool) (w:World):Calls Tryz.prog 96 #[.agg #[.int .i64 3,.int .i64 a,.int .i64 b],.bool p] w (Ret w (.bool (insnV p ⟨3,a,b⟩))):=by
 generalize hq:insnV p _=q
 have HQ:=Lib.hid hq
 clear hq
 go_enter Tryz.func96,Tryz.ntmps96
 go_wp2_with (first
  | (go_at_call 123;refine (operands_any _ _).mono ?_;rintro e w' ⟨rfl,rfl⟩;simp only [cntO])
  | (go_at_call 124;refine (rin3_any _ _ _ _).mono ?_;rintro e w' ⟨rfl,rfl⟩)
  | (go_at_call 125;refine (rmost3_any _ _ (by omega) (by omega) _).mono ?_;rintro e w' ⟨rfl,rfl⟩))
 all_goals
  first
   | go_ret
   | (go_quiet (first|(go_at_call 124;exact Calls.quiet_of_same (flip_same (rin3_any _ _ _ _)))|(go_at_call 125;exact Calls.quiet_of_same (flip_same (rmost3_any _ _ (by omega) (by omega) _))));go_wp2;all_goals go_ret)
 all_goals
  refine ret_ok (bool_eq ?_) bE
  rw [←HQ.out]
  rw [ins3]
  clear HQ
  unfold inI at *
  grind
theorem ins4 (a b:Int) (p:Bool):insnV p ⟨4,a,b⟩=(inI a 0 0&&inI b 0 0&&true):=by cases p<;>rfl
theorem rV4 (a b:Int) (p:Bool) (w:World):Calls Tryz.prog 96 #[.agg #[.int .i64 4,.int .i64 a,.int .i64 b],.bool p] w (Ret w (.bool (insnV p ⟨4,a,b⟩))):=by
 generalize hq:insnV p _=q
 have HQ:=Lib.hid hq
 clear hq
 go_enter Tryz.func96,Tryz.ntmps96
 go_wp2_with (first
  | (go_at_call 123;refine (operands_any _ _).mono ?_;rintro e w' ⟨rfl,rfl⟩;simp only [cntO])
  | (go_at_call 124;refine (rin3_any _ _ _ _).mono ?_;rintro e w' ⟨rfl,rfl⟩)
  | (go_at_call 125;refine (rmost3_any _ _ (by omega) (by omega) _).mono ?_;rintro e w' ⟨rfl,rfl⟩))
 all_goals
  first
   | go_ret
   | (go_quiet (first|(go_at_call 124;exact Calls.quiet_of_same (flip_same (rin3_any _ _ _ _)))|(go_at_call 125;exact Calls.quiet_of_same (flip_same (rmost3_any _ _ (by omega) (by omega) _))));go_wp2;all_goals go_ret)
 all_goals
  refine ret_ok (bool_eq ?_) bE
  rw [←HQ.out]
  rw [ins4]
  clear HQ
  unfold inI at *
  grind
theorem ins5 (a b:Int) (p:Bool):insnV p ⟨5,a,b⟩=(inI a 0 0&&inI b 0 0&&true):=by cases p<;>rfl
theorem rV5 (a b:Int) (p:Bool) (w:World):Calls Tryz.prog 96 #[.agg #[.int .i64 5,.int .i64 a,.int .i64 b],.bool p] w (Ret w (.bool (insnV p ⟨5,a,b⟩))):=by
 generalize hq:insnV p _=q
 have HQ:=Lib.hid hq
 clear hq
 go_enter Tryz.func96,Tryz.ntmps96
 go_wp2_with (first
  | (go_at_call 123;refine (operands_any _ _).mono ?_;rintro e w' ⟨rfl,rfl⟩;simp only [cntO])
  | (go_at_call 124;refine (rin3_any _ _ _ _).mono ?_;rintro e w' ⟨rfl,rfl⟩)
  | (go_at_call 125;refine (rmost3_any _ _ (by omega) (by omega) _).mono ?_;rintro e w' ⟨rfl,rfl⟩))
 all_goals
  first
   | go_ret
   | (go_quiet (first|(go_at_call 124;exact Calls.quiet_of_same (flip_same (rin3_any _ _ _ _)))|(go_at_call 125;exact Calls.quiet_of_same (flip_same (rmost3_any _ _ (by omega) (by omega) _))));go_wp2;all_goals go_ret)
 all_goals
  refine ret_ok (bool_eq ?_) bE
  rw [←HQ.out]
  rw [ins5]
  clear HQ
  unfold inI at *
  grind
theorem ins6 (a b:Int) (p:Bool):insnV p ⟨6,a,b⟩=(inI a 0 0&&inI b 0 0&&true):=by cases p<;>rfl
theorem rV6 (a b:Int) (p:Bool) (w:World):Calls Tryz.prog 96 #[.agg #[.int .i64 6,.int .i64 a,.int .i64 b],.bool p] w (Ret w (.bool (insnV p ⟨6,a,b⟩))):=by
 generalize hq:insnV p _=q
 have HQ:=Lib.hid hq
 clear hq
 go_enter Tryz.func96,Tryz.ntmps96
 go_wp2_with (first
  | (go_at_call 123;refine (operands_any _ _).mono ?_;rintro e w' ⟨rfl,rfl⟩;simp only [cntO])
  | (go_at_call 124;refine (rin3_any _ _ _ _).mono ?_;rintro e w' ⟨rfl,rfl⟩)
  | (go_at_call 125;refine (rmost3_any _ _ (by omega) (by omega) _).mono ?_;rintro e w' ⟨rfl,rfl⟩))
 all_goals
  first
   | go_ret
   | (go_quiet (first|(go_at_call 124;exact Calls.quiet_of_same (flip_same (rin3_any _ _ _ _)))|(go_at_call 125;exact Calls.quiet_of_same (flip_same (rmost3_any _ _ (by omega) (by omega) _))));go_wp2;all_goals go_ret)
 all_goals
  refine ret_ok (bool_eq ?_) bE
  rw [←HQ.out]
  rw [ins6]
  clear HQ
  unfold inI at *
  grind
theorem ins7 (a b:Int) (p:Bool):insnV p ⟨7,a,b⟩=(inI a 0 0&&inI b 0 0&&true):=by cases p<;>rfl
theorem rV7 (a b:Int) (p:Bool) (w:World):Calls Tryz.prog 96 #[.agg #[.int .i64 7,.int .i64 a,.int .i64 b],.bool p] w (Ret w (.bool (insnV p ⟨7,a,b⟩))):=by
 generalize hq:insnV p _=q
 have HQ:=Lib.hid hq
 clear hq
 go_enter Tryz.func96,Tryz.ntmps96
 go_wp2_with (first
  | (go_at_call 123;refine (operands_any _ _).mono ?_;rintro e w' ⟨rfl,rfl⟩;simp only [cntO])
  | (go_at_call 124;refine (rin3_any _ _ _ _).mono ?_;rintro e w' ⟨rfl,rfl⟩)
  | (go_at_call 125;refine (rmost3_any _ _ (by omega) (by omega) _).mono ?_;rintro e w' ⟨rfl,rfl⟩))
 all_goals
  first
   | go_ret
   | (go_quiet (first|(go_at_call 124;exact Calls.quiet_of_same (flip_same (rin3_any _ _ _ _)))|(go_at_call 125;exact Calls.quiet_of_same (flip_same (rmost3_any _ _ (by omega) (by omega) _))));go_wp2;all_goals go_ret)
 all_goals
  refine ret_ok (bool_eq ?_) bE
  rw [←HQ.out]
  rw [ins7]
  clear HQ
  unfold inI at *
  grind
theorem ins8 (a b:Int) (p:Bool):insnV p ⟨8,a,b⟩=(inI a 0 0&&inI b 0 0&&true):=by cases p<;>rfl
theorem rV8 (a b:Int) (p:Bool) (w:World):Calls Tryz.prog 96 #[.agg #[.int .i64 8,.int .i64 a,.int .i64 b],.bool p] w (Ret w (.bool (insnV p ⟨8,a,b⟩))):=by
 generalize hq:insnV p _=q
 have HQ:=Lib.hid hq
 clear hq
 go_enter Tryz.func96,Tryz.ntmps96
 go_wp2_with (first
  | (go_at_call 123;refine (operands_any _ _).mono ?_;rintro e w' ⟨rfl,rfl⟩;simp only [cntO])
  | (go_at_call 124;refine (rin3_any _ _ _ _).mono ?_;rintro e w' ⟨rfl,rfl⟩)
  | (go_at_call 125;refine (rmost3_any _ _ (by omega) (by omega) _).mono ?_;rintro e w' ⟨rfl,rfl⟩))
 all_goals
  first
   | go_ret
   | (go_quiet (first|(go_at_call 124;exact Calls.quiet_of_same (flip_same (rin3_any _ _ _ _)))|(go_at_call 125;exact Calls.quiet_of_same (flip_same (rmost3_any _ _ (by omega) (by omega) _))));go_wp2;all_goals go_ret)
 all_goals
  refine ret_ok (bool_eq ?_) bE
  rw [←HQ.out]
  rw [ins8]
  clear HQ
  unfold inI at *
  grind
theorem ins9 (a b:Int) (p:Bool):insnV p ⟨9,a,b⟩=(inI a 0 0&&inI b 0 0&&true):=by cases p<;>rfl
theorem rV9 (a b:Int) (p:Bool) (w:World):Calls Tryz.prog 96 #[.agg #[.int .i64 9,.int .i64 a,.int .i64 b],.bool p] w (Ret w (.bool (insnV p ⟨9,a,b⟩))):=by
 generalize hq:insnV p _=q
 have HQ:=Lib.hid hq
 clear hq
 go_enter Tryz.func96,Tryz.ntmps96
 go_wp2_with (first
  | (go_at_call 123;refine (operands_any _ _).mono ?_;rintro e w' ⟨rfl,rfl⟩;simp only [cntO])
  | (go_at_call 124;refine (rin3_any _ _ _ _).mono ?_;rintro e w' ⟨rfl,rfl⟩)
  | (go_at_call 125;refine (rmost3_any _ _ (by omega) (by omega) _).mono ?_;rintro e w' ⟨rfl,rfl⟩))
 all_goals
  first
   | go_ret
   | (go_quiet (first|(go_at_call 124;exact Calls.quiet_of_same (flip_same (rin3_any _ _ _ _)))|(go_at_call 125;exact Calls.quiet_of_same (flip_same (rmost3_any _ _ (by omega) (by omega) _))));go_wp2;all_goals go_ret)
 all_goals
  refine ret_ok (bool_eq ?_) bE
  rw [←HQ.out]
  rw [ins9]
  clear HQ
  unfold inI at *
  grind
theorem ins10 (a b:Int) (p:Bool):insnV p ⟨10,a,b⟩=(inI a 0 0&&inI b 0 0&&true):=by cases p<;>rfl
theorem rV10 (a b:Int) (p:Bool) (w:World):Calls Tryz.prog 96 #[.agg #[.int .i64 10,.int .i64 a,.int .i64 b],.bool p] w (Ret w (.bool (insnV p ⟨10,a,b⟩))):=by
 generalize hq:insnV p _=q
 have HQ:=Lib.hid hq
 clear hq
 go_enter Tryz.func96,Tryz.ntmps96
 go_wp2_with (first
  | (go_at_call 123;refine (operands_any _ _).mono ?_;rintro e w' ⟨rfl,rfl⟩;simp only [cntO])
  | (go_at_call 124;refine (rin3_any _ _ _ _).mono ?_;rintro e w' ⟨rfl,rfl⟩)
  | (go_at_call 125;refine (rmost3_any _ _ (by omega) (by omega) _).mono ?_;rintro e w' ⟨rfl,rfl⟩))
 all_goals
  first
   | go_ret
   | (go_quiet (first|(go_at_call 124;exact Calls.quiet_of_same (flip_same (rin3_any _ _ _ _)))|(go_at_call 125;exact Calls.quiet_of_same (flip_same (rmost3_any _ _ (by omega) (by omega) _))));go_wp2;all_goals go_ret)
 all_goals
  refine ret_ok (bool_eq ?_) bE
  rw [←HQ.out]
  rw [ins10]
  clear HQ
  unfold inI at *
  grind
theorem ins11 (a b:Int) (p:Bool):insnV p ⟨11,a,b⟩=(inI a 0 0&&inI b 0 0&&true):=by cases p<;>rfl
theorem rV11 (a b:Int) (p:Bool) (w:World):Calls Tryz.prog 96 #[.agg #[.int .i64 11,.int .i64 a,.int .i64 b],.bool p] w (Ret w (.bool (insnV p ⟨11,a,b⟩))):=by
 generalize hq:insnV p _=q
 have HQ:=Lib.hid hq
 clear hq
 go_enter Tryz.func96,Tryz.ntmps96
 go_wp2_with (first
  | (go_at_call 123;refine (operands_any _ _).mono ?_;rintro e w' ⟨rfl,rfl⟩;simp only [cntO])
  | (go_at_call 124;refine (rin3_any _ _ _ _).mono ?_;rintro e w' ⟨rfl,rfl⟩)
  | (go_at_call 125;refine (rmost3_any _ _ (by omega) (by omega) _).mono ?_;rintro e w' ⟨rfl,rfl⟩))
 all_goals
  first
   | go_ret
   | (go_quiet (first|(go_at_call 124;exact Calls.quiet_of_same (flip_same (rin3_any _ _ _ _)))|(go_at_call 125;exact Calls.quiet_of_same (flip_same (rmost3_any _ _ (by omega) (by omega) _))));go_wp2;all_goals go_ret)
 all_goals
  refine ret_ok (bool_eq ?_) bE
  rw [←HQ.out]
  rw [ins11]
  clear HQ
  unfold inI at *
  grind
theorem ins12 (a b:Int) (p:Bool):insnV p ⟨12,a,b⟩=(inI a 2 4&&inI b 0 (if p then 59 else 9)&&!(decide (a=3)&&decide (b≠0))):=by cases p<;>rfl
theorem rV12 (a b:Int) (p:Bool) (w:World):Calls Tryz.prog 96 #[.agg #[.int .i64 12,.int .i64 a,.int .i64 b],.bool p] w (Ret w (.bool (insnV p ⟨12,a,b⟩))):=by
 rcases hI:inI a 2 4 with _|_
 all_goals
  generalize hq:insnV p _=q
  have HQ:=Lib.hid hq
  clear hq
  go_enter Tryz.func96,Tryz.ntmps96
  go_wp2_with (first
   | (go_at_call 123;refine (operands_any _ _).mono ?_;rintro e w' ⟨rfl,rfl⟩;simp only [cntO])
   | (go_at_call 124;refine (rin3_any _ _ _ _).mono ?_;rintro e w' ⟨rfl,rfl⟩)
   | (go_at_call 125;refine (rmost3_any _ _ (by omega) (by omega) _).mono ?_;rintro e w' ⟨rfl,rfl⟩))
  all_goals
   first
    | go_ret
    | (go_quiet (first|(go_at_call 124;exact Calls.quiet_of_same (flip_same (rin3_any _ _ _ _)))|(go_at_call 125;exact Calls.quiet_of_same (flip_same (rmost3_any _ _ (by omega) (by omega) _))));go_wp2;all_goals go_ret)
  all_goals
   refine ret_ok (bool_eq ?_) bE
   rw [←HQ.out]
   rw [ins12]
   clear HQ
   unfold inI at *
   grind
theorem ins13 (a b:Int) (p:Bool):insnV p ⟨13,a,b⟩=(inI a 0 0&&inI b 0 0&&true):=by cases p<;>rfl
theorem rV13 (a b:Int) (p:Bool) (w:World):Calls Tryz.prog 96 #[.agg #[.int .i64 13,.int .i64 a,.int .i64 b],.bool p] w (Ret w (.bool (insnV p ⟨13,a,b⟩))):=by
 generalize hq:insnV p _=q
 have HQ:=Lib.hid hq
 clear hq
 go_enter Tryz.func96,Tryz.ntmps96
 go_wp2_with (first
  | (go_at_call 123;refine (operands_any _ _).mono ?_;rintro e w' ⟨rfl,rfl⟩;simp only [cntO])
  | (go_at_call 124;refine (rin3_any _ _ _ _).mono ?_;rintro e w' ⟨rfl,rfl⟩)
  | (go_at_call 125;refine (rmost3_any _ _ (by omega) (by omega) _).mono ?_;rintro e w' ⟨rfl,rfl⟩))
 all_goals
  first
   | go_ret
   | (go_quiet (first|(go_at_call 124;exact Calls.quiet_of_same (flip_same (rin3_any _ _ _ _)))|(go_at_call 125;exact Calls.quiet_of_same (flip_same (rmost3_any _ _ (by omega) (by omega) _))));go_wp2;all_goals go_ret)
 all_goals
  refine ret_ok (bool_eq ?_) bE
  rw [←HQ.out]
  rw [ins13]
  clear HQ
  unfold inI at *
  grind
theorem ins14 (a b:Int) (p:Bool):insnV p ⟨14,a,b⟩=(inI a 0 (if p then 59 else 9)&&inI b 0 0&&true):=by cases p<;>rfl
theorem rV14 (a b:Int) (p:Bool) (w:World):Calls Tryz.prog 96 #[.agg #[.int .i64 14,.int .i64 a,.int .i64 b],.bool p] w (Ret w (.bool (insnV p ⟨14,a,b⟩))):=by
 generalize hq:insnV p _=q
 have HQ:=Lib.hid hq
 clear hq
 go_enter Tryz.func96,Tryz.ntmps96
 go_wp2_with (first
  | (go_at_call 123;refine (operands_any _ _).mono ?_;rintro e w' ⟨rfl,rfl⟩;simp only [cntO])
  | (go_at_call 124;refine (rin3_any _ _ _ _).mono ?_;rintro e w' ⟨rfl,rfl⟩)
  | (go_at_call 125;refine (rmost3_any _ _ (by omega) (by omega) _).mono ?_;rintro e w' ⟨rfl,rfl⟩))
 all_goals
  first
   | go_ret
   | (go_quiet (first|(go_at_call 124;exact Calls.quiet_of_same (flip_same (rin3_any _ _ _ _)))|(go_at_call 125;exact Calls.quiet_of_same (flip_same (rmost3_any _ _ (by omega) (by omega) _))));go_wp2;all_goals go_ret)
 all_goals
  refine ret_ok (bool_eq ?_) bE
  rw [←HQ.out]
  rw [ins14]
  clear HQ
  unfold inI at *
  grind
theorem ins15 (a b:Int) (p:Bool):insnV p ⟨15,a,b⟩=(inI a 0 48&&inI b 0 0&&true):=by cases p<;>rfl
theorem rV15 (a b:Int) (p:Bool) (w:World):Calls Tryz.prog 96 #[.agg #[.int .i64 15,.int .i64 a,.int .i64 b],.bool p] w (Ret w (.bool (insnV p ⟨15,a,b⟩))):=by
 generalize hq:insnV p _=q
 have HQ:=Lib.hid hq
 clear hq
 go_enter Tryz.func96,Tryz.ntmps96
 go_wp2_with (first
  | (go_at_call 123;refine (operands_any _ _).mono ?_;rintro e w' ⟨rfl,rfl⟩;simp only [cntO])
  | (go_at_call 124;refine (rin3_any _ _ _ _).mono ?_;rintro e w' ⟨rfl,rfl⟩)
  | (go_at_call 125;refine (rmost3_any _ _ (by omega) (by omega) _).mono ?_;rintro e w' ⟨rfl,rfl⟩))
 all_goals
  first
   | go_ret
   | (go_quiet (first|(go_at_call 124;exact Calls.quiet_of_same (flip_same (rin3_any _ _ _ _)))|(go_at_call 125;exact Calls.quiet_of_same (flip_same (rmost3_any _ _ (by omega) (by omega) _))));go_wp2;all_goals go_ret)
 all_goals
  refine ret_ok (bool_eq ?_) bE
  rw [←HQ.out]
  rw [ins15]
  clear HQ
  unfold inI at *
  grind
end
section
open Go.RowKit
theorem ins16 (a b:Int) (p:Bool):insnV p ⟨16,a,b⟩=(inI a 0 48&&inI b 0 (if p then 59 else 9)&&true):=by cases p<;>rfl
theorem rV16 (a b:Int) (p:Bool) (w:World):Calls Tryz.prog 96 #[.agg #[.int .i64 16,.int .i64 a,.int .i64 b],.bool p] w (Ret w (.bool (insnV p ⟨16,a,b⟩))):=by
 rcases hI:inI a 0 48 with _|_
 all_goals
  generalize hq:insnV p _=q
  have HQ:=Lib.hid hq
  clear hq
  go_enter Tryz.func96,Tryz.ntmps96
  go_wp2_with (first
   | (go_at_call 123;refine (operands_any _ _).mono ?_;rintro e w' ⟨rfl,rfl⟩;simp only [cntO])
   | (go_at_call 124;refine (rin3_any _ _ _ _).mono ?_;rintro e w' ⟨rfl,rfl⟩)
   | (go_at_call 125;refine (rmost3_any _ _ (by omega) (by omega) _).mono ?_;rintro e w' ⟨rfl,rfl⟩))
  all_goals
   first
    | go_ret
    | (go_quiet (first|(go_at_call 124;exact Calls.quiet_of_same (flip_same (rin3_any _ _ _ _)))|(go_at_call 125;exact Calls.quiet_of_same (flip_same (rmost3_any _ _ (by omega) (by omega) _))));go_wp2;all_goals go_ret)
  all_goals
   refine ret_ok (bool_eq ?_) bE
   rw [←HQ.out]
   rw [ins16]
   clear HQ
   unfold inI at *
   grind
theorem ins17 (a b:Int) (p:Bool):insnV p ⟨17,a,b⟩=(inI a 0 (if p then 59 else 6)&&inI b 0 0&&true):=by cases p<;>rfl
theorem rV17 (a b:Int) (p:Bool) (w:World):Calls Tryz.prog 96 #[.agg #[.int .i64 17,.int .i64 a,.int .i64 b],.bool p] w (Ret w (.bool (insnV p ⟨17,a,b⟩))):=by
 generalize hq:insnV p _=q
 have HQ:=Lib.hid hq
 clear hq
 go_enter Tryz.func96,Tryz.ntmps96
 go_wp2_with (first
  | (go_at_call 123;refine (operands_any _ _).mono ?_;rintro e w' ⟨rfl,rfl⟩;simp only [cntO])
  | (go_at_call 124;refine (rin3_any _ _ _ _).mono ?_;rintro e w' ⟨rfl,rfl⟩)
  | (go_at_call 125;refine (rmost3_any _ _ (by omega) (by omega) _).mono ?_;rintro e w' ⟨rfl,rfl⟩))
 all_goals
  first
   | go_ret
   | (go_quiet (first|(go_at_call 124;exact Calls.quiet_of_same (flip_same (rin3_any _ _ _ _)))|(go_at_call 125;exact Calls.quiet_of_same (flip_same (rmost3_any _ _ (by omega) (by omega) _))));go_wp2;all_goals go_ret)
 all_goals
  refine ret_ok (bool_eq ?_) bE
  rw [←HQ.out]
  rw [ins17]
  clear HQ
  unfold inI at *
  grind
theorem ins18 (a b:Int) (p:Bool):insnV p ⟨18,a,b⟩=(inI a 0 (if p then 59 else 6)&&inI b 0 0&&true):=by cases p<;>rfl
theorem rV18 (a b:Int) (p:Bool) (w:World):Calls Tryz.prog 96 #[.agg #[.int .i64 18,.int .i64 a,.int .i64 b],.bool p] w (Ret w (.bool (insnV p ⟨18,a,b⟩))):=by
 generalize hq:insnV p _=q
 have HQ:=Lib.hid hq
 clear hq
 go_enter Tryz.func96,Tryz.ntmps96
 go_wp2_with (first
  | (go_at_call 123;refine (operands_any _ _).mono ?_;rintro e w' ⟨rfl,rfl⟩;simp only [cntO])
  | (go_at_call 124;refine (rin3_any _ _ _ _).mono ?_;rintro e w' ⟨rfl,rfl⟩)
  | (go_at_call 125;refine (rmost3_any _ _ (by omega) (by omega) _).mono ?_;rintro e w' ⟨rfl,rfl⟩))
 all_goals
  first
   | go_ret
   | (go_quiet (first|(go_at_call 124;exact Calls.quiet_of_same (flip_same (rin3_any _ _ _ _)))|(go_at_call 125;exact Calls.quiet_of_same (flip_same (rmost3_any _ _ (by omega) (by omega) _))));go_wp2;all_goals go_ret)
 all_goals
  refine ret_ok (bool_eq ?_) bE
  rw [←HQ.out]
  rw [ins18]
  clear HQ
  unfold inI at *
  grind
theorem ins19 (a b:Int) (p:Bool):insnV p ⟨19,a,b⟩=(inI a 0 0&&inI b 0 0&&true):=by cases p<;>rfl
theorem rV19 (a b:Int) (p:Bool) (w:World):Calls Tryz.prog 96 #[.agg #[.int .i64 19,.int .i64 a,.int .i64 b],.bool p] w (Ret w (.bool (insnV p ⟨19,a,b⟩))):=by
 generalize hq:insnV p _=q
 have HQ:=Lib.hid hq
 clear hq
 go_enter Tryz.func96,Tryz.ntmps96
 go_wp2_with (first
  | (go_at_call 123;refine (operands_any _ _).mono ?_;rintro e w' ⟨rfl,rfl⟩;simp only [cntO])
  | (go_at_call 124;refine (rin3_any _ _ _ _).mono ?_;rintro e w' ⟨rfl,rfl⟩)
  | (go_at_call 125;refine (rmost3_any _ _ (by omega) (by omega) _).mono ?_;rintro e w' ⟨rfl,rfl⟩))
 all_goals
  first
   | go_ret
   | (go_quiet (first|(go_at_call 124;exact Calls.quiet_of_same (flip_same (rin3_any _ _ _ _)))|(go_at_call 125;exact Calls.quiet_of_same (flip_same (rmost3_any _ _ (by omega) (by omega) _))));go_wp2;all_goals go_ret)
 all_goals
  refine ret_ok (bool_eq ?_) bE
  rw [←HQ.out]
  rw [ins19]
  clear HQ
  unfold inI at *
  grind
theorem ins20 (a b:Int) (p:Bool):insnV p ⟨20,a,b⟩=(inI a 0 0&&inI b 0 0&&true):=by cases p<;>rfl
theorem rV20 (a b:Int) (p:Bool) (w:World):Calls Tryz.prog 96 #[.agg #[.int .i64 20,.int .i64 a,.int .i64 b],.bool p] w (Ret w (.bool (insnV p ⟨20,a,b⟩))):=by
 generalize hq:insnV p _=q
 have HQ:=Lib.hid hq
 clear hq
 go_enter Tryz.func96,Tryz.ntmps96
 go_wp2_with (first
  | (go_at_call 123;refine (operands_any _ _).mono ?_;rintro e w' ⟨rfl,rfl⟩;simp only [cntO])
  | (go_at_call 124;refine (rin3_any _ _ _ _).mono ?_;rintro e w' ⟨rfl,rfl⟩)
  | (go_at_call 125;refine (rmost3_any _ _ (by omega) (by omega) _).mono ?_;rintro e w' ⟨rfl,rfl⟩))
 all_goals
  first
   | go_ret
   | (go_quiet (first|(go_at_call 124;exact Calls.quiet_of_same (flip_same (rin3_any _ _ _ _)))|(go_at_call 125;exact Calls.quiet_of_same (flip_same (rmost3_any _ _ (by omega) (by omega) _))));go_wp2;all_goals go_ret)
 all_goals
  refine ret_ok (bool_eq ?_) bE
  rw [←HQ.out]
  rw [ins20]
  clear HQ
  unfold inI at *
  grind
theorem ins21 (a b:Int) (p:Bool):insnV p ⟨21,a,b⟩=(inI a 0 0&&inI b 0 0&&true):=by cases p<;>rfl
theorem rV21 (a b:Int) (p:Bool) (w:World):Calls Tryz.prog 96 #[.agg #[.int .i64 21,.int .i64 a,.int .i64 b],.bool p] w (Ret w (.bool (insnV p ⟨21,a,b⟩))):=by
 generalize hq:insnV p _=q
 have HQ:=Lib.hid hq
 clear hq
 go_enter Tryz.func96,Tryz.ntmps96
 go_wp2_with (first
  | (go_at_call 123;refine (operands_any _ _).mono ?_;rintro e w' ⟨rfl,rfl⟩;simp only [cntO])
  | (go_at_call 124;refine (rin3_any _ _ _ _).mono ?_;rintro e w' ⟨rfl,rfl⟩)
  | (go_at_call 125;refine (rmost3_any _ _ (by omega) (by omega) _).mono ?_;rintro e w' ⟨rfl,rfl⟩))
 all_goals
  first
   | go_ret
   | (go_quiet (first|(go_at_call 124;exact Calls.quiet_of_same (flip_same (rin3_any _ _ _ _)))|(go_at_call 125;exact Calls.quiet_of_same (flip_same (rmost3_any _ _ (by omega) (by omega) _))));go_wp2;all_goals go_ret)
 all_goals
  refine ret_ok (bool_eq ?_) bE
  rw [←HQ.out]
  rw [ins21]
  clear HQ
  unfold inI at *
  grind
theorem ins22 (a b:Int) (p:Bool):insnV p ⟨22,a,b⟩=(inI a 0 (if p then 59 else 9)&&inI b 0 0&&true):=by cases p<;>rfl
theorem rV22 (a b:Int) (p:Bool) (w:World):Calls Tryz.prog 96 #[.agg #[.int .i64 22,.int .i64 a,.int .i64 b],.bool p] w (Ret w (.bool (insnV p ⟨22,a,b⟩))):=by
 generalize hq:insnV p _=q
 have HQ:=Lib.hid hq
 clear hq
 go_enter Tryz.func96,Tryz.ntmps96
 go_wp2_with (first
  | (go_at_call 123;refine (operands_any _ _).mono ?_;rintro e w' ⟨rfl,rfl⟩;simp only [cntO])
  | (go_at_call 124;refine (rin3_any _ _ _ _).mono ?_;rintro e w' ⟨rfl,rfl⟩)
  | (go_at_call 125;refine (rmost3_any _ _ (by omega) (by omega) _).mono ?_;rintro e w' ⟨rfl,rfl⟩))
 all_goals
  first
   | go_ret
   | (go_quiet (first|(go_at_call 124;exact Calls.quiet_of_same (flip_same (rin3_any _ _ _ _)))|(go_at_call 125;exact Calls.quiet_of_same (flip_same (rmost3_any _ _ (by omega) (by omega) _))));go_wp2;all_goals go_ret)
 all_goals
  refine ret_ok (bool_eq ?_) bE
  rw [←HQ.out]
  rw [ins22]
  clear HQ
  unfold inI at *
  grind
theorem ins23 (a b:Int) (p:Bool):insnV p ⟨23,a,b⟩=(inI a 0 (if p then 59 else 9)&&inI b 0 0&&true):=by cases p<;>rfl
theorem rV23 (a b:Int) (p:Bool) (w:World):Calls Tryz.prog 96 #[.agg #[.int .i64 23,.int .i64 a,.int .i64 b],.bool p] w (Ret w (.bool (insnV p ⟨23,a,b⟩))):=by
 generalize hq:insnV p _=q
 have HQ:=Lib.hid hq
 clear hq
 go_enter Tryz.func96,Tryz.ntmps96
 go_wp2_with (first
  | (go_at_call 123;refine (operands_any _ _).mono ?_;rintro e w' ⟨rfl,rfl⟩;simp only [cntO])
  | (go_at_call 124;refine (rin3_any _ _ _ _).mono ?_;rintro e w' ⟨rfl,rfl⟩)
  | (go_at_call 125;refine (rmost3_any _ _ (by omega) (by omega) _).mono ?_;rintro e w' ⟨rfl,rfl⟩))
 all_goals
  first
   | go_ret
   | (go_quiet (first|(go_at_call 124;exact Calls.quiet_of_same (flip_same (rin3_any _ _ _ _)))|(go_at_call 125;exact Calls.quiet_of_same (flip_same (rmost3_any _ _ (by omega) (by omega) _))));go_wp2;all_goals go_ret)
 all_goals
  refine ret_ok (bool_eq ?_) bE
  rw [←HQ.out]
  rw [ins23]
  clear HQ
  unfold inI at *
  grind
theorem ins24 (a b:Int) (p:Bool):insnV p ⟨24,a,b⟩=(inI a 0 (if p then 59 else 9)&&inI b 0 0&&true):=by cases p<;>rfl
theorem rV24 (a b:Int) (p:Bool) (w:World):Calls Tryz.prog 96 #[.agg #[.int .i64 24,.int .i64 a,.int .i64 b],.bool p] w (Ret w (.bool (insnV p ⟨24,a,b⟩))):=by
 generalize hq:insnV p _=q
 have HQ:=Lib.hid hq
 clear hq
 go_enter Tryz.func96,Tryz.ntmps96
 go_wp2_with (first
  | (go_at_call 123;refine (operands_any _ _).mono ?_;rintro e w' ⟨rfl,rfl⟩;simp only [cntO])
  | (go_at_call 124;refine (rin3_any _ _ _ _).mono ?_;rintro e w' ⟨rfl,rfl⟩)
  | (go_at_call 125;refine (rmost3_any _ _ (by omega) (by omega) _).mono ?_;rintro e w' ⟨rfl,rfl⟩))
 all_goals
  first
   | go_ret
   | (go_quiet (first|(go_at_call 124;exact Calls.quiet_of_same (flip_same (rin3_any _ _ _ _)))|(go_at_call 125;exact Calls.quiet_of_same (flip_same (rmost3_any _ _ (by omega) (by omega) _))));go_wp2;all_goals go_ret)
 all_goals
  refine ret_ok (bool_eq ?_) bE
  rw [←HQ.out]
  rw [ins24]
  clear HQ
  unfold inI at *
  grind
theorem ins25 (a b:Int) (p:Bool):insnV p ⟨25,a,b⟩=(inI a 0 (if p then 59 else 15)&&inI b 0 0&&true):=by cases p<;>rfl
theorem rV25 (a b:Int) (p:Bool) (w:World):Calls Tryz.prog 96 #[.agg #[.int .i64 25,.int .i64 a,.int .i64 b],.bool p] w (Ret w (.bool (insnV p ⟨25,a,b⟩))):=by
 generalize hq:insnV p _=q
 have HQ:=Lib.hid hq
 clear hq
 go_enter Tryz.func96,Tryz.ntmps96
 go_wp2_with (first
  | (go_at_call 123;refine (operands_any _ _).mono ?_;rintro e w' ⟨rfl,rfl⟩;simp only [cntO])
  | (go_at_call 124;refine (rin3_any _ _ _ _).mono ?_;rintro e w' ⟨rfl,rfl⟩)
  | (go_at_call 125;refine (rmost3_any _ _ (by omega) (by omega) _).mono ?_;rintro e w' ⟨rfl,rfl⟩))
 all_goals
  first
   | go_ret
   | (go_quiet (first|(go_at_call 124;exact Calls.quiet_of_same (flip_same (rin3_any _ _ _ _)))|(go_at_call 125;exact Calls.quiet_of_same (flip_same (rmost3_any _ _ (by omega) (by omega) _))));go_wp2;all_goals go_ret)
 all_goals
  refine ret_ok (bool_eq ?_) bE
  rw [←HQ.out]
  rw [ins25]
  clear HQ
  unfold inI at *
  grind
theorem ins26 (a b:Int) (p:Bool):insnV p ⟨26,a,b⟩=(inI a 0 (if p then 59 else 15)&&inI b 0 0&&true):=by cases p<;>rfl
theorem rV26 (a b:Int) (p:Bool) (w:World):Calls Tryz.prog 96 #[.agg #[.int .i64 26,.int .i64 a,.int .i64 b],.bool p] w (Ret w (.bool (insnV p ⟨26,a,b⟩))):=by
 generalize hq:insnV p _=q
 have HQ:=Lib.hid hq
 clear hq
 go_enter Tryz.func96,Tryz.ntmps96
 go_wp2_with (first
  | (go_at_call 123;refine (operands_any _ _).mono ?_;rintro e w' ⟨rfl,rfl⟩;simp only [cntO])
  | (go_at_call 124;refine (rin3_any _ _ _ _).mono ?_;rintro e w' ⟨rfl,rfl⟩)
  | (go_at_call 125;refine (rmost3_any _ _ (by omega) (by omega) _).mono ?_;rintro e w' ⟨rfl,rfl⟩))
 all_goals
  first
   | go_ret
   | (go_quiet (first|(go_at_call 124;exact Calls.quiet_of_same (flip_same (rin3_any _ _ _ _)))|(go_at_call 125;exact Calls.quiet_of_same (flip_same (rmost3_any _ _ (by omega) (by omega) _))));go_wp2;all_goals go_ret)
 all_goals
  refine ret_ok (bool_eq ?_) bE
  rw [←HQ.out]
  rw [ins26]
  clear HQ
  unfold inI at *
  grind
theorem ins27 (a b:Int) (p:Bool):insnV p ⟨27,a,b⟩=(inI a 0 3&&inI b 0 0&&true):=by cases p<;>rfl
theorem rV27 (a b:Int) (p:Bool) (w:World):Calls Tryz.prog 96 #[.agg #[.int .i64 27,.int .i64 a,.int .i64 b],.bool p] w (Ret w (.bool (insnV p ⟨27,a,b⟩))):=by
 generalize hq:insnV p _=q
 have HQ:=Lib.hid hq
 clear hq
 go_enter Tryz.func96,Tryz.ntmps96
 go_wp2_with (first
  | (go_at_call 123;refine (operands_any _ _).mono ?_;rintro e w' ⟨rfl,rfl⟩;simp only [cntO])
  | (go_at_call 124;refine (rin3_any _ _ _ _).mono ?_;rintro e w' ⟨rfl,rfl⟩)
  | (go_at_call 125;refine (rmost3_any _ _ (by omega) (by omega) _).mono ?_;rintro e w' ⟨rfl,rfl⟩))
 all_goals
  first
   | go_ret
   | (go_quiet (first|(go_at_call 124;exact Calls.quiet_of_same (flip_same (rin3_any _ _ _ _)))|(go_at_call 125;exact Calls.quiet_of_same (flip_same (rmost3_any _ _ (by omega) (by omega) _))));go_wp2;all_goals go_ret)
 all_goals
  refine ret_ok (bool_eq ?_) bE
  rw [←HQ.out]
  rw [ins27]
  clear HQ
  unfold inI at *
  grind
theorem ins28 (a b:Int) (p:Bool):insnV p ⟨28,a,b⟩=(inI a 0 9&&inI b 0 0&&true):=by cases p<;>rfl
theorem rV28 (a b:Int) (p:Bool) (w:World):Calls Tryz.prog 96 #[.agg #[.int .i64 28,.int .i64 a,.int .i64 b],.bool p] w (Ret w (.bool (insnV p ⟨28,a,b⟩))):=by
 generalize hq:insnV p _=q
 have HQ:=Lib.hid hq
 clear hq
 go_enter Tryz.func96,Tryz.ntmps96
 go_wp2_with (first
  | (go_at_call 123;refine (operands_any _ _).mono ?_;rintro e w' ⟨rfl,rfl⟩;simp only [cntO])
  | (go_at_call 124;refine (rin3_any _ _ _ _).mono ?_;rintro e w' ⟨rfl,rfl⟩)
  | (go_at_call 125;refine (rmost3_any _ _ (by omega) (by omega) _).mono ?_;rintro e w' ⟨rfl,rfl⟩))
 all_goals
  first
   | go_ret
   | (go_quiet (first|(go_at_call 124;exact Calls.quiet_of_same (flip_same (rin3_any _ _ _ _)))|(go_at_call 125;exact Calls.quiet_of_same (flip_same (rmost3_any _ _ (by omega) (by omega) _))));go_wp2;all_goals go_ret)
 all_goals
  refine ret_ok (bool_eq ?_) bE
  rw [←HQ.out]
  rw [ins28]
  clear HQ
  unfold inI at *
  grind
theorem ins29 (a b:Int) (p:Bool):insnV p ⟨29,a,b⟩=(inI a 0 0&&inI b 0 0&&true):=by cases p<;>rfl
theorem rV29 (a b:Int) (p:Bool) (w:World):Calls Tryz.prog 96 #[.agg #[.int .i64 29,.int .i64 a,.int .i64 b],.bool p] w (Ret w (.bool (insnV p ⟨29,a,b⟩))):=by
 generalize hq:insnV p _=q
 have HQ:=Lib.hid hq
 clear hq
 go_enter Tryz.func96,Tryz.ntmps96
 go_wp2_with (first
  | (go_at_call 123;refine (operands_any _ _).mono ?_;rintro e w' ⟨rfl,rfl⟩;simp only [cntO])
  | (go_at_call 124;refine (rin3_any _ _ _ _).mono ?_;rintro e w' ⟨rfl,rfl⟩)
  | (go_at_call 125;refine (rmost3_any _ _ (by omega) (by omega) _).mono ?_;rintro e w' ⟨rfl,rfl⟩))
 all_goals
  first
   | go_ret
   | (go_quiet (first|(go_at_call 124;exact Calls.quiet_of_same (flip_same (rin3_any _ _ _ _)))|(go_at_call 125;exact Calls.quiet_of_same (flip_same (rmost3_any _ _ (by omega) (by omega) _))));go_wp2;all_goals go_ret)
 all_goals
  refine ret_ok (bool_eq ?_) bE
  rw [←HQ.out]
  rw [ins29]
  clear HQ
  unfold inI at *
  grind
theorem ins30 (a b:Int) (p:Bool):insnV p ⟨30,a,b⟩=(inI a 0 50&&inI b 0 9&&true):=by cases p<;>rfl
theorem rV30 (a b:Int) (p:Bool) (w:World):Calls Tryz.prog 96 #[.agg #[.int .i64 30,.int .i64 a,.int .i64 b],.bool p] w (Ret w (.bool (insnV p ⟨30,a,b⟩))):=by
 rcases hI:inI a 0 50 with _|_
 all_goals
  generalize hq:insnV p _=q
  have HQ:=Lib.hid hq
  clear hq
  go_enter Tryz.func96,Tryz.ntmps96
  go_wp2_with (first
   | (go_at_call 123;refine (operands_any _ _).mono ?_;rintro e w' ⟨rfl,rfl⟩;simp only [cntO])
   | (go_at_call 124;refine (rin3_any _ _ _ _).mono ?_;rintro e w' ⟨rfl,rfl⟩)
   | (go_at_call 125;refine (rmost3_any _ _ (by omega) (by omega) _).mono ?_;rintro e w' ⟨rfl,rfl⟩))
  all_goals
   first
    | go_ret
    | (go_quiet (first|(go_at_call 124;exact Calls.quiet_of_same (flip_same (rin3_any _ _ _ _)))|(go_at_call 125;exact Calls.quiet_of_same (flip_same (rmost3_any _ _ (by omega) (by omega) _))));go_wp2;all_goals go_ret)
  all_goals
   refine ret_ok (bool_eq ?_) bE
   rw [←HQ.out]
   rw [ins30]
   clear HQ
   unfold inI at *
   grind
theorem ins31 (a b:Int) (p:Bool):insnV p ⟨31,a,b⟩=(inI a 0 5&&inI b 0 0&&true):=by cases p<;>rfl
theorem rV31 (a b:Int) (p:Bool) (w:World):Calls Tryz.prog 96 #[.agg #[.int .i64 31,.int .i64 a,.int .i64 b],.bool p] w (Ret w (.bool (insnV p ⟨31,a,b⟩))):=by
 generalize hq:insnV p _=q
 have HQ:=Lib.hid hq
 clear hq
 go_enter Tryz.func96,Tryz.ntmps96
 go_wp2_with (first
  | (go_at_call 123;refine (operands_any _ _).mono ?_;rintro e w' ⟨rfl,rfl⟩;simp only [cntO])
  | (go_at_call 124;refine (rin3_any _ _ _ _).mono ?_;rintro e w' ⟨rfl,rfl⟩)
  | (go_at_call 125;refine (rmost3_any _ _ (by omega) (by omega) _).mono ?_;rintro e w' ⟨rfl,rfl⟩))
 all_goals
  first
   | go_ret
   | (go_quiet (first|(go_at_call 124;exact Calls.quiet_of_same (flip_same (rin3_any _ _ _ _)))|(go_at_call 125;exact Calls.quiet_of_same (flip_same (rmost3_any _ _ (by omega) (by omega) _))));go_wp2;all_goals go_ret)
 all_goals
  refine ret_ok (bool_eq ?_) bE
  rw [←HQ.out]
  rw [ins31]
  clear HQ
  unfold inI at *
  grind
theorem ins32 (a b:Int) (p:Bool):insnV p ⟨32,a,b⟩=(inI a 1 24&&inI b 0 0&&true):=by cases p<;>rfl
theorem rV32 (a b:Int) (p:Bool) (w:World):Calls Tryz.prog 96 #[.agg #[.int .i64 32,.int .i64 a,.int .i64 b],.bool p] w (Ret w (.bool (insnV p ⟨32,a,b⟩))):=by
 generalize hq:insnV p _=q
 have HQ:=Lib.hid hq
 clear hq
 go_enter Tryz.func96,Tryz.ntmps96
 go_wp2_with (first
  | (go_at_call 123;refine (operands_any _ _).mono ?_;rintro e w' ⟨rfl,rfl⟩;simp only [cntO])
  | (go_at_call 124;refine (rin3_any _ _ _ _).mono ?_;rintro e w' ⟨rfl,rfl⟩)
  | (go_at_call 125;refine (rmost3_any _ _ (by omega) (by omega) _).mono ?_;rintro e w' ⟨rfl,rfl⟩))
 all_goals
  first
   | go_ret
   | (go_quiet (first|(go_at_call 124;exact Calls.quiet_of_same (flip_same (rin3_any _ _ _ _)))|(go_at_call 125;exact Calls.quiet_of_same (flip_same (rmost3_any _ _ (by omega) (by omega) _))));go_wp2;all_goals go_ret)
 all_goals
  refine ret_ok (bool_eq ?_) bE
  rw [←HQ.out]
  rw [ins32]
  clear HQ
  unfold inI at *
  grind
theorem ins33 (a b:Int) (p:Bool):insnV p ⟨33,a,b⟩=(inI a 0 0&&inI b 0 0&&true):=by cases p<;>rfl
theorem rV33 (a b:Int) (p:Bool) (w:World):Calls Tryz.prog 96 #[.agg #[.int .i64 33,.int .i64 a,.int .i64 b],.bool p] w (Ret w (.bool (insnV p ⟨33,a,b⟩))):=by
 generalize hq:insnV p _=q
 have HQ:=Lib.hid hq
 clear hq
 go_enter Tryz.func96,Tryz.ntmps96
 go_wp2_with (first
  | (go_at_call 123;refine (operands_any _ _).mono ?_;rintro e w' ⟨rfl,rfl⟩;simp only [cntO])
  | (go_at_call 124;refine (rin3_any _ _ _ _).mono ?_;rintro e w' ⟨rfl,rfl⟩)
  | (go_at_call 125;refine (rmost3_any _ _ (by omega) (by omega) _).mono ?_;rintro e w' ⟨rfl,rfl⟩))
 all_goals
  first
   | go_ret
   | (go_quiet (first|(go_at_call 124;exact Calls.quiet_of_same (flip_same (rin3_any _ _ _ _)))|(go_at_call 125;exact Calls.quiet_of_same (flip_same (rmost3_any _ _ (by omega) (by omega) _))));go_wp2;all_goals go_ret)
 all_goals
  refine ret_ok (bool_eq ?_) bE
  rw [←HQ.out]
  rw [ins33]
  clear HQ
  unfold inI at *
  grind
theorem ins34 (a b:Int) (p:Bool):insnV p ⟨34,a,b⟩=(inI a 0 0&&inI b 0 0&&true):=by cases p<;>rfl
theorem rV34 (a b:Int) (p:Bool) (w:World):Calls Tryz.prog 96 #[.agg #[.int .i64 34,.int .i64 a,.int .i64 b],.bool p] w (Ret w (.bool (insnV p ⟨34,a,b⟩))):=by
 generalize hq:insnV p _=q
 have HQ:=Lib.hid hq
 clear hq
 go_enter Tryz.func96,Tryz.ntmps96
 go_wp2_with (first
  | (go_at_call 123;refine (operands_any _ _).mono ?_;rintro e w' ⟨rfl,rfl⟩;simp only [cntO])
  | (go_at_call 124;refine (rin3_any _ _ _ _).mono ?_;rintro e w' ⟨rfl,rfl⟩)
  | (go_at_call 125;refine (rmost3_any _ _ (by omega) (by omega) _).mono ?_;rintro e w' ⟨rfl,rfl⟩))
 all_goals
  first
   | go_ret
   | (go_quiet (first|(go_at_call 124;exact Calls.quiet_of_same (flip_same (rin3_any _ _ _ _)))|(go_at_call 125;exact Calls.quiet_of_same (flip_same (rmost3_any _ _ (by omega) (by omega) _))));go_wp2;all_goals go_ret)
 all_goals
  refine ret_ok (bool_eq ?_) bE
  rw [←HQ.out]
  rw [ins34]
  clear HQ
  unfold inI at *
  grind
theorem ins35 (a b:Int) (p:Bool):insnV p ⟨35,a,b⟩=(inI a 0 0&&inI b 0 0&&true):=by cases p<;>rfl
theorem rV35 (a b:Int) (p:Bool) (w:World):Calls Tryz.prog 96 #[.agg #[.int .i64 35,.int .i64 a,.int .i64 b],.bool p] w (Ret w (.bool (insnV p ⟨35,a,b⟩))):=by
 generalize hq:insnV p _=q
 have HQ:=Lib.hid hq
 clear hq
 go_enter Tryz.func96,Tryz.ntmps96
 go_wp2_with (first
  | (go_at_call 123;refine (operands_any _ _).mono ?_;rintro e w' ⟨rfl,rfl⟩;simp only [cntO])
  | (go_at_call 124;refine (rin3_any _ _ _ _).mono ?_;rintro e w' ⟨rfl,rfl⟩)
  | (go_at_call 125;refine (rmost3_any _ _ (by omega) (by omega) _).mono ?_;rintro e w' ⟨rfl,rfl⟩))
 all_goals
  first
   | go_ret
   | (go_quiet (first|(go_at_call 124;exact Calls.quiet_of_same (flip_same (rin3_any _ _ _ _)))|(go_at_call 125;exact Calls.quiet_of_same (flip_same (rmost3_any _ _ (by omega) (by omega) _))));go_wp2;all_goals go_ret)
 all_goals
  refine ret_ok (bool_eq ?_) bE
  rw [←HQ.out]
  rw [ins35]
  clear HQ
  unfold inI at *
  grind
end
section
open Go.RowKit
theorem rValidI_any (i:In3) (p:Bool) (w:World):Calls Tryz.prog 96 #[.agg #[.int .i64 i.op,.int .i64 i.a,.int .i64 i.b],.bool p] w (Ret w (.bool (insnV p i))):=by
 obtain ⟨op,a,b⟩:=i
 dsimp only
 by_cases h:0≤op∧op<36
 ·rcases (show op=0∨op=1∨op=2∨op=3∨op=4∨op=5∨op=6∨op=7∨op=8∨op=9∨op=10∨op=11∨op=12∨op=13∨op=14∨op=15∨op=16∨op=17∨op=18∨op=19∨op=20∨op=21∨op=22∨op=23∨op=24∨op=25∨op=26∨op=27∨op=28∨op=29∨op=30∨op=31∨op=32∨op=33∨op=34∨op=35 by omega) with rfl|rfl|rfl|rfl|rfl|rfl|rfl|rfl|rfl|rfl|rfl|rfl|rfl|rfl|rfl|rfl|rfl|rfl|rfl|rfl|rfl|rfl|rfl|rfl|rfl|rfl|rfl|rfl|rfl|rfl|rfl|rfl|rfl|rfl|rfl|rfl
  ·exact rV0 a b p w
  ·exact rV1 a b p w
  ·exact rV2 a b p w
  ·exact rV3 a b p w
  ·exact rV4 a b p w
  ·exact rV5 a b p w
  ·exact rV6 a b p w
  ·exact rV7 a b p w
  ·exact rV8 a b p w
  ·exact rV9 a b p w
  ·exact rV10 a b p w
  ·exact rV11 a b p w
  ·exact rV12 a b p w
  ·exact rV13 a b p w
  ·exact rV14 a b p w
  ·exact rV15 a b p w
  ·exact rV16 a b p w
  ·exact rV17 a b p w
  ·exact rV18 a b p w
  ·exact rV19 a b p w
  ·exact rV20 a b p w
  ·exact rV21 a b p w
  ·exact rV22 a b p w
  ·exact rV23 a b p w
  ·exact rV24 a b p w
  ·exact rV25 a b p w
  ·exact rV26 a b p w
  ·exact rV27 a b p w
  ·exact rV28 a b p w
  ·exact rV29 a b p w
  ·exact rV30 a b p w
  ·exact rV31 a b p w
  ·exact rV32 a b p w
  ·exact rV33 a b p w
  ·exact rV34 a b p w
  ·exact rV35 a b p w
 ·have hq:insnV p ⟨op,a,b⟩=false:=by
   unfold insnV
   dsimp only
   by_cases h0:0≤op
   ·rw [decide_eq_false (show ¬ op<36 by omega)];simp
   ·rw [decide_eq_false h0];simp
  rw [hq]
  have ho:=operands_any op
  rw [if_pos (show op<0∨36≤op by omega)] at ho
  generalize cntO op=q at ho
  have HO:=Lib.hid ho
  clear ho hq h
  go_enter Tryz.func96,Tryz.ntmps96
  go_wp2_with fail
  refine (HO.out _).mono ?_
  rintro e w' ⟨rfl,rfl⟩
  go_wp2_with fail
  go_ret
  exact ret_ok rfl bE
end
section
theorem nestF_app (s:List Br × Nat):∀ (x y:List In3),nestF s (x++y)=match nestF s x with
  | none=>none
  | some t=>nestF t y:=by
 intro x
 induction x generalizing s with
 | nil=>intro y;rfl
 | cons i x ih=>
  intro y
  simp only [List.cons_append,nestF]
  cases nestS s i with
  | none=>rfl
  | some t=>exact ih t y
/-- the machine goes from place a to place b -/
def Run (l:List In3) (a b:Nat) (s t:List Br × Nat):Prop:=a≤b∧b≤l.length∧nestF s ((l.drop a).take (b-a))=some t
/-- the machine stops, or some bracket stays open -/
def Dead (l:List In3) (a:Nat) (s:List Br × Nat):Prop:=∀ t,nestF s (l.drop a)=some t→t.1≠[]
theorem drop_at {l:List In3}{a b:Nat} (h:a≤b):l.drop a=(l.drop a).take (b-a)++l.drop b:=by
 conv=>lhs;rw [←List.take_append_drop (b-a) (l.drop a)]
 rw [List.drop_drop,show a+(b-a)=b by omega]
section
variable {l:List In3}{a b c:Nat}{s t u:List Br × Nat}
theorem Run.refl (h:a≤l.length) (s:List Br × Nat):Run l a a s s:=⟨Nat.le_refl _,h,by simp [nestF]⟩
theorem Run.trans (h1:Run l a b s t) (h2:Run l b c t u):Run l a c s u:=by
 refine ⟨Nat.le_trans h1.1 h2.1,h2.2.1,?_⟩
 have e:(l.drop a).take (c-a)=(l.drop a).take (b-a)++(l.drop b).take (c-b):=by
  have:=h1.1;have:=h2.1
  rw [show c-a=(b-a)+(c-b) by omega,List.take_add,List.drop_drop,show a+(b-a)=b by omega]
 rw [e,nestF_app,h1.2.2]
 exact h2.2.2
theorem Run.step (h:a<l.length) (h1:nestS s (l.getD a default)=some t):Run l a (a+1) s t:=by
 refine ⟨by omega,by omega,?_⟩
 rw [show a+1-a=1 by omega,List.drop_eq_getElem_cons h]
 simp only [List.take_succ_cons,List.take_zero,nestF]
 rw [show l.getD a default=l[a] by simp [h]] at h1
 rw [h1]
theorem Run.dead (h:Run l a b s t) (hd:Dead l b t):Dead l a s:=by
 intro u hu
 rw [drop_at h.1,nestF_app,h.2.2] at hu
 exact hd u hu
theorem dead_step (h:a<l.length) (h1:nestS s (l.getD a default)=none):Dead l a s:=by
 intro u hu
 rw [List.drop_eq_getElem_cons h] at hu
 simp only [nestF] at hu
 rw [show l.getD a default=l[a] by simp [h]] at h1
 rw [h1] at hu
 cases hu
theorem dead_end (h:s.1≠[]):Dead l l.length s:=by
 intro u hu
 rw [List.drop_length] at hu
 cases hu
 exact h
end
def Good (l:List In3) (a b d:Nat):Prop:=∀ S D,S.length≤D→Run l a b (S,D) (S,max D (S.length+d))
def Stuck (l:List In3) (a:Nat):Prop:=∀ S D,S.length≤D→Dead l a (S,D)
section
variable {l:List In3}{a b n e d i:Nat}
theorem good_le (h:Good l a b d):a≤b∧b≤l.length:=by obtain ⟨h1,h2,_⟩:=h [] 0 (Nat.le_refl _);exact ⟨h1,h2⟩
theorem good_refl (h:a≤l.length):Good l a a 0:=fun S D hD=>by
 rw [show max D (S.length+0)=D by omega];exact Run.refl h _
theorem good_both (h1:Good l a b d) (h2:Good l b n e):Good l a n (max d e):=fun S D hD=>by
 have:=(h1 S D hD).trans (h2 S (max D (S.length+d)) (by omega))
 rwa [show max (max D (S.length+d)) (S.length+e)=max D (S.length+max d e) by omega] at this
theorem plain_step {i:In3}{s:List Br × Nat} (h1:opensV i.op=false) (h2:i.op≠34) (h3:i.op≠35):nestS s i=some s:=by
 unfold nestS;rw [h1,if_neg (by decide),if_neg h2,if_neg h3]
theorem good_plain (h:Good l a b d) (hb:b<l.length) (h1:opensV (l.getD b default).op=false) (h2:(l.getD b default).op≠34) (h3:(l.getD b default).op≠35):Good l a (b+1) d:=fun S D hD=>(h S D hD).trans (Run.step hb (plain_step h1 h2 h3))
theorem open_step {l:List In3}{a:Nat} (ha:a<l.length) (h1:opensV (l.getD a default).op=true) (S:List Br) (D:Nat):Run l a (a+1) (S,D) (⟨(l.getD a default).op,false⟩ :: S,max D (S.length+1)):=
 Run.step ha (by unfold nestS;rw [h1,if_pos rfl])
theorem opens_not {op:Int} (h:op=34∨op=35):opensV op=false:=by unfold opensV inI;rcases h with rfl|rfl<;>decide
theorem else_step {l:List In3}{n:Nat} (hn:n<l.length) (h:(l.getD n default).op=34) (b:Br) (S:List Br) (D:Nat) (hb:(b.op=29∨b.op=33)∧b.e=false):Run l n (n+1) (b :: S,D) (⟨b.op,true⟩ :: S,D):=
 Run.step hn (by unfold nestS;rw [opens_not (.inl h),if_neg (by decide),if_pos h];simp only [if_pos hb])
theorem else_dead {l:List In3}{n:Nat} (hn:n<l.length) (h:(l.getD n default).op=34) (b:Br) (S:List Br) (D:Nat) (hb:¬ ((b.op=29∨b.op=33)∧b.e=false)):Dead l n (b :: S,D):=
 dead_step hn (by unfold nestS;rw [opens_not (.inl h),if_neg (by decide),if_pos h];simp only [if_neg hb])
theorem end_step {l:List In3}{n:Nat} (hn:n<l.length) (h:(l.getD n default).op=35) (b:Br) (S:List Br) (D:Nat) (hb:¬ (b.op=33∧b.e=false)):Run l n (n+1) (b :: S,D) (S,D):=
 Run.step hn (by unfold nestS;rw [opens_not (.inr h),if_neg (by decide),if_neg (by omega),if_pos h];simp only [if_neg hb])
theorem end_dead {l:List In3}{n:Nat} (hn:n<l.length) (h:(l.getD n default).op=35) (b:Br) (S:List Br) (D:Nat) (hb:b.op=33∧b.e=false):Dead l n (b :: S,D):=
 dead_step hn (by unfold nestS;rw [opens_not (.inr h),if_neg (by decide),if_neg (by omega),if_pos h];simp only [if_pos hb])
theorem dead_nil {l:List In3}{n:Nat} (hn:n<l.length) (h:(l.getD n default).op=34∨(l.getD n default).op=35) (D:Nat):Dead l n ([],D):=
 dead_step hn (by
  unfold nestS
  rw [opens_not h,if_neg (by decide)]
  rcases h with h|h
  ·rw [if_pos h]
  ·rw [if_neg (by omega),if_pos h])
/-- through the first part of a bracket -/
theorem first_part (ha:a<l.length) (h1:opensV (l.getD a default).op=true) (hg:Good l (a+1) n d) (S:List Br) (D:Nat) (_hD:S.length≤D):Run l a n (S,D) (⟨(l.getD a default).op,false⟩ :: S,max (max D (S.length+1)) (S.length+1+d)):=
 (open_step ha h1 S D).trans (hg (⟨(l.getD a default).op,false⟩ :: S) (max D (S.length+1)) (by simp;omega))
theorem second_part (ha:a<l.length) (h1:opensV (l.getD a default).op=true) (hg:Good l (a+1) n d) (hn:n<l.length) (h34:(l.getD n default).op=34) (hop:(l.getD a default).op=29∨(l.getD a default).op=33) (hg2:Good l (n+1) e i) (S:List Br) (D:Nat) (hD:S.length≤D) :
  Run l a e (S,D) (⟨(l.getD a default).op,true⟩ :: S,max (max (max D (S.length+1)) (S.length+1+d)) (S.length+1+i)):=
 ((first_part ha h1 hg S D hD).trans (else_step hn h34 _ S _ ⟨hop,rfl⟩)).trans (hg2 _ _ (by simp;omega))
theorem br_one (ha:a<l.length) (h1:opensV (l.getD a default).op=true) (hg:Good l (a+1) n d) (hn:n<l.length) (h35:(l.getD n default).op=35) (hop:(l.getD a default).op≠33):Good l a (n+1) (d+1):=fun S D hD=>by
 have:=(first_part ha h1 hg S D hD).trans (end_step hn h35 _ S _ (fun h=>hop h.1))
 rwa [show max (max D (S.length+1)) (S.length+1+d)=max D (S.length+(d+1)) by omega] at this
theorem br_two (ha:a<l.length) (h1:opensV (l.getD a default).op=true) (hg:Good l (a+1) n d) (hn:n<l.length) (h34:(l.getD n default).op=34) (hop:(l.getD a default).op=29∨(l.getD a default).op=33) (hg2:Good l (n+1) e i) (he:e<l.length) (h35:(l.getD e default).op=35):Good l a (e+1) (max d i+1):=fun S D hD=>by
 have:=(second_part ha h1 hg hn h34 hop hg2 S D hD).trans (end_step he h35 _ S _ (fun h=>by cases h.2))
 rwa [show max (max (max D (S.length+1)) (S.length+1+d)) (S.length+1+i)=max D (S.length+(max d i+1)) by omega] at this
theorem st_good (h:Good l a b d) (h2:Stuck l b):Stuck l a:=fun S D hD=>(h S D hD).dead (h2 _ _ (by omega))
theorem st_open (ha:a<l.length) (h1:opensV (l.getD a default).op=true) (h:Stuck l (a+1)):Stuck l a:=fun S D hD=>(open_step ha h1 S D).dead (h _ _ (by simp;omega))
theorem st_never (ha:a<l.length) (h1:opensV (l.getD a default).op=true) (hg:Good l (a+1) l.length d):Stuck l a:=fun S D hD=>(first_part ha h1 hg S D hD).dead (dead_end (by simp))
theorem st_else (ha:a<l.length) (h1:opensV (l.getD a default).op=true) (hg:Good l (a+1) n d) (hn:n<l.length) (h34:(l.getD n default).op=34) (hop:¬ ((l.getD a default).op=29∨(l.getD a default).op=33)):Stuck l a:=fun S D hD=>(first_part ha h1 hg S D hD).dead (else_dead hn h34 _ S _ (fun h=>hop h.1))
theorem st_second (ha:a<l.length) (h1:opensV (l.getD a default).op=true) (hg:Good l (a+1) n d) (hn:n<l.length) (h34:(l.getD n default).op=34) (hop:(l.getD a default).op=29∨(l.getD a default).op=33) (h:Stuck l (n+1)):Stuck l a:=fun S D hD=>
 ((first_part ha h1 hg S D hD).trans (else_step hn h34 _ S _ ⟨hop,rfl⟩)).dead (h _ _ (by simp;omega))
theorem st_never2 (ha:a<l.length) (h1:opensV (l.getD a default).op=true) (hg:Good l (a+1) n d) (hn:n<l.length) (h34:(l.getD n default).op=34) (hop:(l.getD a default).op=29∨(l.getD a default).op=33) (hg2:Good l (n+1) l.length i):Stuck l a:=fun S D hD=>(second_part ha h1 hg hn h34 hop hg2 S D hD).dead (dead_end (by simp))
theorem st_else2 (ha:a<l.length) (h1:opensV (l.getD a default).op=true) (hg:Good l (a+1) n d) (hn:n<l.length) (h34:(l.getD n default).op=34) (hop:(l.getD a default).op=29∨(l.getD a default).op=33) (hg2:Good l (n+1) e i) (he:e<l.length) (h342:(l.getD e default).op=34):Stuck l a:=fun S D hD=>
 (second_part ha h1 hg hn h34 hop hg2 S D hD).dead (else_dead he h342 _ S _ (fun h=>by cases h.2))
theorem st_try (ha:a<l.length) (h1:opensV (l.getD a default).op=true) (hg:Good l (a+1) n d) (hn:n<l.length) (h35:(l.getD n default).op=35) (hop:(l.getD a default).op=33):Stuck l a:=fun S D hD=>(first_part ha h1 hg S D hD).dead (end_dead hn h35 _ S _ ⟨hop,rfl⟩)
theorem nestV_good (h:Good l 0 l.length d):nestV l=decide (d≤6):=by
 obtain ⟨_,_,h3⟩:=h [] 0 (Nat.le_refl _)
 simp only [List.drop_zero,Nat.sub_zero,List.take_length] at h3
 unfold nestV
 rw [h3]
 simp
theorem nestV_dead (h:Dead l 0 ([],0)):nestV l=false:=by
 unfold nestV
 cases hf:nestF ([],0) l with
 | none=>rfl
 | some t=>
  have:=h t (by rw [List.drop_zero];exact hf)
  obtain ⟨st,d⟩:=t
  cases st with
  | nil=>exact absurd rfl this
  | cons b r=>rfl
theorem nestV_stuck (h:Stuck l 0):nestV l=false:=nestV_dead (h [] 0 (Nat.le_refl _))
theorem nestV_stray (h:Good l 0 n d) (hn:n<l.length) (ho:(l.getD n default).op=34∨(l.getD n default).op=35):nestV l=false:=nestV_dead ((h [] 0 (Nat.le_refl _)).dead (dead_nil hn ho _))
end
theorem nestS_bound {s t:List Br × Nat}{i:In3} (h:nestS s i=some t):t.1.length≤s.1.length+1∧t.2≤max s.2 (s.1.length+1):=by
 obtain ⟨S,D⟩:=s
 unfold nestS at h
 split at h
 ·cases h;exact ⟨by simp,by dsimp only;omega⟩
 ·split at h
  ·cases S with
   | nil=>cases h
   | cons b r=>
    dsimp only at h
    split at h
    ·cases h;exact ⟨by simp,by dsimp only;omega⟩
    ·cases h
  ·split at h
   ·cases S with
    | nil=>cases h
    | cons b r=>
     dsimp only at h
     split at h
     ·cases h
     ·cases h;exact ⟨by simp only [List.length_cons];omega,by dsimp only;omega⟩
   ·cases h;exact ⟨by omega,by dsimp only;omega⟩
theorem nestF_bound:∀ (x:List In3) (s t:List Br × Nat),nestF s x=some t→t.1.length≤s.1.length+x.length∧t.2≤max s.2 (s.1.length+x.length)
 | [],s,t,h=>by cases h;exact ⟨by simp,by omega⟩
 | i :: x,s,t,h=>by
  unfold nestF at h
  split at h
  ·cases h
  ·rename_i u hu
   have h1:=nestS_bound hu
   have h2:=nestF_bound x u t h
   simp only [List.length_cons]
   omega
theorem good_depth {l:List In3}{a b d:Nat} (h:Good l a b d):d≤b-a:=by
 obtain ⟨h1,h2,h3⟩:=h [] 0 (Nat.le_refl _)
 have:=(nestF_bound _ _ _ h3).2
 simp only [List.length_nil,List.length_take,List.length_drop] at this
 omega
end
section
open Go.RowKit
def PartsP (l:List In3) (a:Nat) (e:Ending):Prop:=
 (∃ n d:Nat,e=.returned (.tuple #[.int .i64 n,.int .i64 d])∧Good l a n d∧(n<l.length→(l.getD n default).op=34∨(l.getD n default).op=35))∨(e=.returned (.tuple #[.int .i64 0,.int .i64 (-1)])∧Stuck l a)
def BrP (l:List In3) (a:Nat) (e:Ending):Prop:=
 (∃ (alt:Int) (n d:Nat),e=.returned (.tuple #[.int .i64 alt,.int .i64 n,.int .i64 d])∧a<n∧n<l.length∧Good l a (n+1) (d+1))∨(e=.returned (.tuple #[.int .i64 0,.int .i64 0,.int .i64 (-1)])∧Stuck l a)
theorem ret3_c {a b c d:Int} (h:c=d):Ending.returned (.tuple #[.int .i64 a,.int .i64 b,.int .i64 c])=.returned (.tuple #[.int .i64 a,.int .i64 b,.int .i64 d]):=by rw [h]
theorem max_nat (a b:Nat):max (a:Int) ((b:Int)+1)=((max a (b+1):Nat):Int):=by omega
theorem max_nat2 (a b:Nat):max (a:Int) (b:Int)=((max a b:Nat):Int):=by omega
theorem parts_of (l:List In3) (ao:Option Addr) (cap:Nat) (w:World) (hl:RowAt w ao cap l) (hlen:l.length≤1000) (m:Nat)
  (hb:∀ a,a<l.length→l.length-a≤m→opensV (l.getD a default).op=true→Calls Tryz.prog 127 #[.slice ao l.length cap,.int .i64 a] w fun e w'=>BrP l a e∧w=w')
  (a:Nat) (ha:a≤l.length) (ham:l.length-a≤m) :
  Calls Tryz.prog 97 #[.slice ao l.length cap,.int .i64 a] w fun e w'=>PartsP l a e∧w=w':=by
 have HL:=Lib.hid hl
 have HBr:=Lib.hid hb
 have HG0:=Lib.hid (good_refl (l:=l) ha)
 clear hl hb
 go_enter Tryz.func97,Tryz.ntmps97
 go_wp2
 go_loop [1,6] (fun i d=>∃ b k:Nat,i=.int .i64 b∧d=.int .i64 k∧a≤b∧b≤l.length∧Good l a b k) (fun i _=>l.length-(intOf i).toNat)
 case atStart=>exact ⟨a,0,rfl,rfl,Nat.le_refl _,ha,HG0.out⟩
 case round=>
  obtain ⟨b,k,rfl,rfl,hab,hbl,hg⟩:=hrel
  have HG:=Lib.hid hg
  clear hg
  by_cases hb:b<l.length
  ·obtain ⟨ad,rfl,e0,_,_⟩:=row_in HL.out hb
   have hb2:(b:Int) < l.length:=by omega
   have HBb:=HBr.out b hb (by omega)
   have HGp:=Lib.hid (good_plain HG.out hb)
   generalize hx:(l.getD b default).op=x at e0 HBb
   rw [hx] at HGp
   have HX:=Lib.hid hx
   have HB2:=Lib.hid HBb
   have hw:IntKind.i64.wrap ((b:Int)+1)=b+1:=IntWalk.i64_in _ (by omega)
   clear hx HBb
   by_cases h34:x=34
   ·subst h34
    go_wp2
    go_ret2
    exact ⟨.inl ⟨b,k,rfl,HG.out,fun _=>by rw [HX.out];exact .inl rfl⟩,rfl⟩
   by_cases h35:x=35
   ·subst h35
    go_wp2
    go_ret2
    exact ⟨.inl ⟨b,k,rfl,HG.out,fun _=>by rw [HX.out];exact .inr rfl⟩,rfl⟩
   have n34:(x != 34)=true:=by simp [h34]
   have n35:(x != 35)=true:=by simp [h35]
   rcases hop:opensV x with _|_
   ·have HO:=Lib.hid hop
    clear hop
    go_wp2_with (go_at_call 126;refine (ropens_any _ _).mono ?_;rintro e w' ⟨rfl,rfl⟩;rw [HO.out])
    go_round
    case rel=>exact ⟨b+1,k,by go_num,rfl,by omega,by omega,HGp.out HO.out h34 h35⟩
    case measure=>simp [intOf];omega
   ·have HO:=Lib.hid hop
    clear hop
    go_wp2_with (go_at_call 126;refine (ropens_any _ _).mono ?_;rintro e w' ⟨rfl,rfl⟩;rw [HO.out])
    refine (HB2.out HO.out).mono ?_
    rintro e w' ⟨⟨alt,n,d,rfl,hbn,hnl,hgn⟩|⟨rfl,hst⟩,rfl⟩
    ·have HGn:=Lib.hid (good_both HG.out hgn)
     have hdp:=good_depth hgn
     clear hgn
     have hw2:IntKind.i64.wrap ((n:Int)+1)=n+1:=IntWalk.i64_in _ (by omega)
     have hdl:d+1≤1000000:=by omega
     have hw3:IntKind.i64.wrap ((d:Int)+1)=d+1:=IntWalk.i64_in _ (by omega)
     go_wp2_with fail
     exact ⟨⟨n+1,max k (d+1),by go_num,int_eq (by split<;>omega),by omega,by omega,HGn.out⟩,by show l.length-((n:Int)+1).toNat<l.length-(b:Int).toNat;omega⟩
    ·have HSt:=Lib.hid (st_good HG.out hst)
     clear hst
     go_wp2_with fail
     go_ret2
     exact ⟨.inr ⟨rfl,HSt.out⟩,rfl⟩
  ·have hbe:b=l.length:=by omega
   subst hbe
   go_wp2
   go_ret2
   exact ⟨.inl ⟨l.length,k,rfl,HG.out,fun h=>by omega⟩,rfl⟩
theorem bracket_of (l:List In3) (ao:Option Addr) (cap:Nat) (w:World) (hl:RowAt w ao cap l) (hlen:l.length≤1000) (m:Nat)
  (hp:∀ a,a≤l.length→l.length-a≤m→Calls Tryz.prog 97 #[.slice ao l.length cap,.int .i64 a] w fun e w'=>PartsP l a e∧w=w')
  (a:Nat) (ha:a<l.length) (ham:l.length-a≤m+1) (hop:opensV (l.getD a default).op=true) :
  Calls Tryz.prog 127 #[.slice ao l.length cap,.int .i64 a] w fun e w'=>BrP l a e∧w=w':=by
 have HL:=Lib.hid hl
 have HP:=Lib.hid hp
 have HO:=Lib.hid hop
 have ha1:(a:Int) < l.length:=by omega
 have hw:IntKind.i64.wrap ((a:Int)+1)=(a:Int)+1:=IntWalk.i64_in _ (by omega)
 have hpa:=hp (a+1) (by omega) (by omega)
 rw [show ((a+1:Nat):Int)=(a:Int)+1 by omega] at hpa
 have HPa:=Lib.hid hpa
 obtain ⟨ad,rfl,e0,_,_⟩:=row_in hl ha
 clear hl hp hop hpa
 generalize hx:(l.getD a default).op=x at e0 HO
 have HX:=Lib.hid hx
 have HO2:=Lib.hid (show opensV (l.getD a default).op=true by rw [hx];exact HO.out)
 have hx1:29≤x∧x≤33:=by have:=HO.out;simpa [opensV,inI] using this
 obtain ⟨hx1,hx2⟩:=hx1
 clear hx
 go_enter Tryz.func127,Tryz.ntmps127
 go_wp2_with fail
 refine HPa.out.mono ?_
 rintro e w' ⟨⟨n,d,rfl,hg,hn⟩|⟨rfl,hst⟩,rfl⟩
 ·have HG:=Lib.hid hg
  have HN:=Lib.hid hn
  obtain ⟨hgn,hgl⟩:=good_le hg
  have hdp:=good_depth hg
  clear hg hn
  by_cases hnl:n<l.length
  ·have hnl2:(n:Int) < l.length:=by omega
   have hnl3:¬ ((l.length:Int)≤n):=by omega
   have hnl4:¬ (l.length≤n):=by omega
   have hw2:IntKind.i64.wrap ((n:Int)+1)=(n:Int)+1:=IntWalk.i64_in _ (by omega)
   obtain ⟨ad',hadd,f0,_,_⟩:=row_in HL.out hnl
   obtain rfl:=Option.some.inj hadd
   clear hadd
   have hy:=HN.out hnl
   generalize hyy:(l.getD n default).op=y at f0 hy
   have HY:=Lib.hid hyy
   clear hyy
   rcases hy with rfl|rfl
   ·have HS:=Lib.hid (fun h=>st_else ha HO2.out HG.out hnl HY.out h)
    by_cases h29:x=29∨x=33
    ·have HS1:=Lib.hid (show (l.getD a default).op=29∨(l.getD a default).op=33 by rw [HX.out];exact h29)
     have hpn:=HP.out (n+1) (by omega) (by omega)
     rw [show ((n+1:Nat):Int)=(n:Int)+1 by omega] at hpn
     have HPn:=Lib.hid hpn
     have hxx:¬ ((x != 29)=true∧(x != 33)=true):=by rcases h29 with rfl|rfl<;>simp
     clear hpn
     rcases h29 with rfl|rfl
     all_goals
      go_wp2_with fail
      refine HPn.out.mono ?_
      rintro e w' ⟨⟨q,i,rfl,hg,hn⟩|⟨rfl,hst⟩,rfl⟩
      ·have HG2:=Lib.hid hg
       have HN2:=Lib.hid hn
       obtain ⟨hgq,hgq2⟩:=good_le hg
       have hdp2:=good_depth hg
       clear hg hn
       by_cases hql:q<l.length
       ·have hql2:(q:Int) < l.length:=by omega
        have hql3:¬ ((l.length:Int)≤q):=by omega
        have hql4:¬ (l.length≤q):=by omega
        obtain ⟨ad',hadd,g0,_,_⟩:=row_in HL.out hql
        obtain rfl:=Option.some.inj hadd
        clear hadd
        have hz:=HN2.out hql
        generalize hzz:(l.getD q default).op=z at g0 hz
        have HZ:=Lib.hid hzz
        clear hzz
        rcases hz with rfl|rfl
        ·have HE:=Lib.hid (st_else2 ha HO2.out HG.out hnl HY.out HS1.out HG2.out hql HZ.out)
         go_wp2_with fail
         go_ret3
         exact ⟨.inr ⟨rfl,HE.out⟩,rfl⟩
        ·have HE:=Lib.hid (br_two ha HO2.out HG.out hnl HY.out HS1.out HG2.out hql HZ.out)
         go_wp2_with fail
         all_goals
          go_ret3
          exact ⟨.inl ⟨n,q,max d i,ret3_c (by omega),by omega,by omega,HE.out⟩,rfl⟩
       ·have hqe:q=l.length:=by omega
        subst hqe
        have HE:=Lib.hid (st_never2 ha HO2.out HG.out hnl HY.out HS1.out HG2.out)
        go_wp2_with fail
        go_ret3
        exact ⟨.inr ⟨rfl,HE.out⟩,rfl⟩
      ·have HE:=Lib.hid (st_second ha HO2.out HG.out hnl HY.out HS1.out hst)
       clear hst
       go_wp2_with fail
       go_ret3
       exact ⟨.inr ⟨rfl,HE.out⟩,rfl⟩
    ·have n29:(x != 29)=true:=by simp;omega
     have n33:(x != 33)=true:=by simp;omega
     have HE:=Lib.hid (HS.out (by rw [HX.out];exact h29))
     go_wp2_with fail
     go_ret3
     exact ⟨.inr ⟨rfl,HE.out⟩,rfl⟩
   ·by_cases h33:x=33
    ·subst h33
     have HE:=Lib.hid (st_try ha HO2.out HG.out hnl HY.out HX.out)
     go_wp2_with fail
     go_ret3
     exact ⟨.inr ⟨rfl,HE.out⟩,rfl⟩
    ·have n33:(x == 33)=false:=by simp [h33]
     have HE:=Lib.hid (br_one ha HO2.out HG.out hnl HY.out (by rw [HX.out];exact h33))
     go_wp2_with fail
     go_ret3
     exact ⟨.inl ⟨-1,n,d,rfl,by omega,by omega,HE.out⟩,rfl⟩
  ·have hne:n=l.length:=by omega
   subst hne
   have HE:=Lib.hid (st_never ha HO2.out HG.out)
   go_wp2_with fail
   go_ret3
   exact ⟨.inr ⟨rfl,HE.out⟩,rfl⟩
 ·have HE:=Lib.hid (st_open ha HO2.out hst)
  clear hst
  go_wp2_with fail
  go_ret3
  exact ⟨.inr ⟨rfl,HE.out⟩,rfl⟩
theorem pb_any (l:List In3) (ao:Option Addr) (cap:Nat) (w:World) (hl:RowAt w ao cap l) (hlen:l.length≤1000):∀ (m a:Nat),a≤l.length→l.length-a≤m →
  Calls Tryz.prog 97 #[.slice ao l.length cap,.int .i64 a] w fun e w'=>PartsP l a e∧w=w'
 | 0,a,ha,hm=>parts_of l ao cap w hl hlen 0 (fun b hb hbm _=>by omega) a ha hm
 | m+1,a,ha,hm=>parts_of l ao cap w hl hlen (m+1) (fun b hb hbm ho=>bracket_of l ao cap w hl hlen m (pb_any l ao cap w hl hlen m) b hb hbm ho) a ha hm
theorem parts_any (l:List In3) (ao:Option Addr) (cap:Nat) (w:World) (hl:RowAt w ao cap l) (hlen:l.length≤1000) (a:Nat) (ha:a≤l.length) :
  Calls Tryz.prog 97 #[.slice ao l.length cap,.int .i64 a] w fun e w'=>PartsP l a e∧w=w':=pb_any l ao cap w hl hlen _ a ha (Nat.le_refl _)
theorem rCheck3_any (l:List In3) (ao:Option Addr) (cap:Nat) (p:Bool) (w:World) (hl:RowAt w ao cap l) :
  Calls Tryz.prog 66 #[.slice ao l.length cap,.bool p] w (Ret w (.int .i64 (codeE p l))):=by
 have HL:=Lib.hid hl
 generalize hq:codeE p l=q
 have HQ:=Lib.hid hq
 clear hl hq
 by_cases hlen:l.length≤120
 ·have hl3:¬ (l.length:Int) > 120:=by omega
  have hl4:¬ (120:Int) < l.length:=by omega
  have hl5:¬ 120<l.length:=by omega
  go_enter Tryz.func66,Tryz.ntmps66
  go_wp2
  go_loopw [5] (fun i wr=>∃ (k:Nat),k≤l.length∧i=.int .i64 k∧Below w.heap.size w wr∧(∀ j,j<k→insnV p (l.getD j default)=true)) (fun i _=>l.length-(intOf i).toNat)
  case atStart=>exact ⟨0,by omega,rfl,Below.refl _ _,by omega⟩
  case round=>
   obtain ⟨k,hk,rfl,hbel,q1⟩:=hrel
   have Q1:=Lib.hid q1
   clear q1
   by_cases hkl:k<l.length
   ·obtain ⟨ad,rfl,e0,e1,e2⟩:=row_in (HL.out.old hbel) hkl
    have hva:=rValidI_any (l.getD k default) p wr
    obtain ⟨x,hx⟩:∃ x,x=l.getD k default:=⟨_,rfl⟩
    rw [←hx] at e0 e1 e2 hva
    have HX:=Lib.hid hx
    have HVa:=Lib.hid hva
    have hkl2:(k:Int) < l.length:=by omega
    have hkw:IntKind.i64.wrap ((k:Int)+1)=k+1:=IntWalk.i64_in _ (by omega)
    clear hx hva
    rcases hI:insnV p x with _|_
    ·rw [hI] at HVa
     have HP:=Lib.hid hI
     clear hI
     go_wp2_with fail
     refine HVa.out.mono ?_
     rintro e w1 ⟨rfl,hb1⟩
     go_wp2
     go_ret
     refine ret_ok (int_eq ?_) (bthen hbel hb1)
     rw [←HQ.out,codeE,if_neg (by omega),if_neg]
     intro hall
     have:=List.all_eq_true.1 hall x (by rw [HX.out,List.getD_eq_getElem?_getD,List.getElem?_eq_getElem hkl];exact List.getElem_mem hkl)
     rw [HP.out] at this
     cases this
    ·rw [hI] at HVa
     have HP:=Lib.hid hI
     clear hI
     go_wp2_with fail
     refine HVa.out.mono ?_
     rintro e w1 ⟨rfl,hb1⟩
     have hb2:=bthen hbel hb1
     clear hb1 hbel
     go_wp2
     go_roundw
     case rel=>
      refine ⟨k+1,by omega,by go_num,hb2,fun j hj=>?_⟩
      by_cases hjk:j<k
      ·exact Q1.out j hjk
      ·obtain rfl:j=k:=by omega
       rw [←HX.out];exact HP.out
     case measure=>simp [intOf];omega
   ·have hall:l.all (insnV p)=true:=by
     rw [List.all_eq_true]
     intro x hx
     obtain ⟨j,hj,rfl⟩:=List.mem_iff_getElem.1 hx
     have:=Q1.out j (by omega)
     simpa [hj] using this
    have HE:=Lib.hid (show q=if nestV l then 0 else 7 by rw [←HQ.out,codeE,if_neg (by omega),if_pos hall])
    have hpa:=parts_any l ao cap wr (HL.out.old hbel) (by omega) 0 (by omega)
    have HPa:=Lib.hid hpa
    clear hall hpa
    go_wp2_with fail
    refine HPa.out.mono ?_
    rintro e w' ⟨⟨n,d,rfl,hg,hn⟩|⟨rfl,hst⟩,rfl⟩
    ·have HG:=Lib.hid hg
     have HN:=Lib.hid hn
     obtain ⟨_,hgl⟩:=good_le hg
     clear hg hn
     by_cases hnl:n<l.length
     ·have hnl2:(n:Int) < l.length:=by omega
      have HV:=Lib.hid (nestV_stray HG.out hnl (HN.out hnl))
      go_wp2_with fail
      go_ret
      exact ret_ok (int_eq (by rw [HE.out,HV.out];rfl)) hbel
     ·have hne:n=l.length:=by omega
      subst hne
      have HV:=Lib.hid (nestV_good HG.out)
      go_wp2_with fail
      all_goals
       go_ret
       refine ret_ok (int_eq ?_) hbel
       rw [HE.out,HV.out]
       first
        | (rw [decide_eq_true (by omega)];rfl)
        | (rw [decide_eq_false (by omega)];rfl)
    ·have HV:=Lib.hid (nestV_stuck hst)
     clear hst
     go_wp2_with fail
     go_ret
     exact ret_ok (int_eq (by rw [HE.out,HV.out];rfl)) hbel
 ·have hl3:(120:Int) < l.length:=by omega
  have hl5:120<l.length:=by omega
  go_enter Tryz.func66,Tryz.ntmps66
  go_wp2
  go_ret
  exact ret_ok (int_eq (by rw [←HQ.out,codeE,if_pos hl5])) (Below.refl _ _)
end
end Go.Proofs.YtkdamjpbnmbeoaaGreat
