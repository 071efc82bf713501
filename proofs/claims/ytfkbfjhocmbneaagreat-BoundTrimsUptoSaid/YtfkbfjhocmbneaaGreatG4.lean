/- Joined texts. The first: The program's Check of code. -/
import Derived.Test.YtfkbfjhocmbneaaGreatG3
import Derived.Test.YtfkbfjhocmbneaaGreatG1
import Derived.Outline
import Derived.Laws.StructEq
import Derived.LoopTactic
import Derived.Test.YtfkbfjhocmbneaaGreatShelf
import Derived.Lib.OwnBridge
import Derived.Deep.RegionHeld
import Derived.Deep.Cut
import Derived.Deep.CutRange
set_option linter.all false
set_option linter.unusedVariables false
set_option linter.unusedSimpArgs false
set_option maxRecDepth 100000
set_option maxHeartbeats 8000000
namespace Go.Proofs.YtfkbfjhocmbneaaGreat
theorem k43{p:Prop}(h:p:=by
 have HR:=Lib.hid hrel2
 clear hrel2 hok
 go_wp2
 go_roundw
 case rel=>exact ⟨k+1,by omega,by go_num,HBL2.out,Lib.hid HR.out⟩
 case measure=>simp [intOf];omega):p:=h
theorem k47{p:Prop}(h:p:=by
 have hrel2:∀ i,i<s+1→selV m k i=true:=fun i hi=>by
  by_cases his:i<s
  ·exact q1.out i his
  ·obtain rfl:i=s:=by omega
   exact hsok
 have HR:=Lib.hid hrel2
 clear hrel2 hsok
 go_wp2
 go_roundw
 case rel=>exact ⟨s+1,by omega,by go_num,HBL.out,Lib.hid HR.out⟩
 case measure=>simp [intOf];omega):p:=h
theorem k56{p:Prop}(h:p:=by
 go_roundw
 case rel=>
  have h9:=HO9.out
  refine ⟨k+1,ao1,cap1,by omega,by go_num,by rw [HY.out,List.length_append];rfl,?_,HB9.out⟩
  rw [HY.out,List.length_append,List.map_append]
  exact h9
 case measure=>simp [intOf];omega):p:=h
theorem k61{p:Prop}(h:p:=by
 by_cases hik:i<k
 ·exact q1.out i hik
 ·obtain rfl:i=k:=by omega
  exact hok):p:=h
theorem k69{p:Prop}(h:p:=by
 go_wp2
 go_ret
 exact ret_ok (bool_eq (by rw [HQ.out,all_range_no hkl HQc.out];simp)) HBW2.out):p:=h
theorem k71{p:Prop}(h:p:=by
 unfold tgtL
 rw [take_snocR _ _ hk,List.map_append,List.filter_append,List.map_cons,List.map_nil]
 generalize (m.cl.getD k default).m.getD s 0=n at h ⊢
 simp [h]):p:=h
theorem k81{p:Prop}(h:p:=by
 have HN:=Lib.hid hn
 clear hn
 go_wp2_with fail
 go_ret
 exact ret_ok (int_eq (by rw [HE.out,HN.out];rfl)) (bthen hb01 hb2)):p:=h
theorem k82{p:Prop}(h:p:=by
 go_wp2_with fail
 refine HC.out.mono ?_
 rintro e1 w1 ⟨rfl,hb1⟩
 go_wp2
 go_ret
 exact ret_ok rfl (bthen HB0.out hb1)):p:=h
theorem k88{p:Prop}(h:p:=by
 go_wp2_with fail
 go_ret
 exact ret_ok (bool_eq (by rw [decide_eq_false (show ¬ a<m.sel by omega)];rfl)) bE):p:=h
theorem k90{p:Prop}(h:p:=by
 apply List.ext_getElem h
 intro i h2 h3
 have:=h1 i h2
 simpa [List.getD_eq_getElem?_getD,h2,h3] using this):p:=h
theorem k95{p:Prop}(h:p:=by
 go_wp2
 go_ret
 exact ret_ok (bool_eq (by rw [decide_eq_false (show ¬ a<(k:Int) by omega)];rfl)) bE):p:=h
theorem k100{p:Prop}(h:p:=by
 unfold RowAt
 rw [flatR_int]
 exact sla_blkV hR rfl):p:=h
section
open Go.RowKit
theorem any_all {α:Type} (l:List α) (p:α→Bool):(l.any fun x=>!p x)=!(l.all p):=by
 induction l with
 | nil=>rfl
 | cons x r ih=>simp only [List.any_cons,List.all_cons,ih,Bool.not_and]
theorem cCheck_any (l:List In3) (ao:Option Addr) (cap:Nat) (p:Bool) (w:World) (hl:RowAt w ao cap l) :
  Calls Tryz.prog 156 #[.slice ao l.length cap,.bool p] w (Ret w (.int .i64 (codeE p l))):=by
 have HL:=Lib.hid hl
 obtain ⟨B,hB⟩:∃ B,B=w.heap.size:=⟨_,rfl⟩
 generalize hq:codeE p l=q
 have HQ:=Lib.hid hq
 clear hl hq
 by_cases hlen:l.length≤120
 ·have hl3:¬ (l.length:Int) > 120:=by omega
  have hl4:¬ (120:Int) < l.length:=by omega
  have hl5:¬ 120<l.length:=by omega
  have cf:∀ A W,(callFunc 207 (A++#[.pointer (some ⟨B,0,none⟩)])).run Tryz.prog W=.ok (.enter 207 (A++#[.pointer (some ⟨B,0,none⟩)])) W:=fun A W=>by kernel_rfl
  have hb0:=(Below.refl w.heap.size w).alloc (Nat.le_refl _) (.cells #[.bool p] 4)
  have hX:=Blk.new' (w:=w) #[.bool p] 4 hB
  have hcon:=conIn_any l ao cap 207 #[.pointer (some ⟨B,0,none⟩)] (fun i=>!insnV p i) (w.alloc (.cells #[.bool p] 4)) (by omega) (HL.out.old hb0) cf (fun k hk w' hb=>check1_any (l.getD k default) p B w' ((hX.old hb).cell 0 rfl))
  rw [any_all] at hcon
  have HC:=Lib.hid hcon
  clear cf hcon
  rcases hall:l.all (insnV p) with _|_
  ·have HA:=Lib.hid hall
   clear hall
   go_enter Tryz.func156,Tryz.ntmps156
   go_wp2_with fail
   rw [←hB]
   have hc:=HC.out
   rw [HA.out] at hc
   refine hc.mono ?_
   clear hc
   rintro e w1 ⟨rfl,hb1⟩
   go_wp2_with fail
   go_ret
   refine ret_ok (int_eq ?_) (bthen hb0 hb1)
   rw [←HQ.out,codeE,if_neg hl5,HA.out];rfl
  ·have HA:=Lib.hid hall
   clear hall
   go_enter Tryz.func156,Tryz.ntmps156
   go_wp2_with fail
   rw [←hB]
   have hc:=HC.out
   rw [HA.out] at hc
   refine hc.mono ?_
   clear hc
   rintro e w1 ⟨rfl,hb1⟩
   have hb01:=bthen hb0 hb1
   have hsh:=shape_any l ao cap w1 (HL.out.old hb01) hlen
   have HS:=Lib.hid hsh
   clear hsh
   go_wp2_with fail
   refine HS.out.mono ?_
   rintro e w2 ⟨⟨v0,v1,v2,v3,n,rfl⟩,hb2⟩
   have hf:∀ (b:Bool) w,Sem.run Tryz.prog (Instr.field 137 (.agg #[v0,v1,v2,v3,.int .i64 n,.bool b]) 5) w=.ok (.bool b) w:=fun b w=>by kernel_rfl
   have hE:q=if nestV l then 0 else 7:=by rw [←HQ.out,codeE,if_neg hl5,HA.out];rfl
   have HE:=Lib.hid hE
   clear hE HQ
   rcases hn:nestV l with _|_
   ·exact k81
   ·exact k81
 ·have hl3:(120:Int) < l.length:=by omega
  have hl5:120<l.length:=by omega
  go_enter Tryz.func156,Tryz.ntmps156
  go_wp2_with fail
  go_ret
  exact ret_ok (int_eq (by rw [←HQ.out,codeE,if_pos hl5])) bE
end
section
def aboveR (m:Md):Nat→Int→Int→Bool
 | 0,_,_=>false
 | f+1,a,b=>if a<0 then false else if a=b then true else aboveR m f (m.sup a) b
def Desc (m:Md) (n:Nat):Prop:=∀ i:Int,0≤i→i<n→-1≤m.sup i∧m.sup i<i
theorem aboveV_lt {m:Md}{a b:Int} (h:a<b):∀ g,aboveV m g a b=false
 | 0=>by simp [aboveV];omega
 | g+1=>by unfold aboveV;rw [if_neg (by omega)];simp;omega
theorem above_eq {m:Md}{n:Nat} (hd:Desc m n) {b:Int} (hb:0≤b):∀ (k:Nat) (a:Int) (f g:Nat),a<k→k≤n→(0≤a→a.toNat<f∧a.toNat<g)→aboveR m f a b=aboveV m g a b:=by
 intro k
 induction k with
 | zero=>
  intro a f g ha _ _
  rw [aboveV_lt (by omega)]
  cases f with
  | zero=>rfl
  | succ f=>unfold aboveR;rw [if_pos (by omega)]
 | succ k ih=>
  intro a f g ha hk hfg
  by_cases h0:a<0
  ·rw [aboveV_lt (by omega)]
   cases f with
   | zero=>rfl
   | succ f=>unfold aboveR;rw [if_pos h0]
  ·obtain ⟨h1,h2⟩:=hfg (by omega)
   obtain ⟨h3,h4⟩:=hd a (by omega) (by omega)
   cases f with
   | zero=>omega
   | succ f=>
    cases g with
    | zero=>omega
    | succ g=>
     have e:=ih (m.sup a) f g (by omega) (by omega) (by omega)
     unfold aboveR
     rw [if_neg h0]
     by_cases hab:a=b
     ·subst hab
      rw [if_pos rfl]
      unfold aboveV
      rw [if_neg (by omega)]
      simp
     ·rw [if_neg hab,e]
      by_cases hlt:b<a
      ·conv=>rhs;unfold aboveV
       rw [if_pos hlt]
      ·rw [aboveV_lt (by omega),aboveV_lt (by omega)]
theorem aboveV_fuel {m:Md}{n:Nat} (hd:Desc m n) {a b:Int} (hb:0≤b) (ha:a<n) {f g:Nat} (hf:0≤a→a.toNat<f) (hg:0≤a→a.toNat<g):aboveV m f a b=aboveV m g a b:=by
 rw [←above_eq hd hb n a (f+1) f (by omega) (Nat.le_refl _) (fun h=>⟨by have:=hf h;omega,hf h⟩),above_eq hd hb n a (f+1) g (by omega) (Nat.le_refl _) (fun h=>⟨by have:=hf h;omega,hg h⟩)]
theorem clsV_sup {m:Md}{k:Nat} (h:clsV m k=true):-1≤m.sup k∧m.sup k<k:=by
 simp only [clsV,Bool.and_eq_true,decide_eq_true_eq] at h
 exact ⟨h.1.1.1.1.1.1,h.1.1.1.1.1.2⟩
theorem desc_of {m:Md}{n:Nat} (h:∀ k,k<n→clsV m k=true):Desc m n:=fun i h0 h1=>by
 have:=clsV_sup (h i.toNat (by omega))
 rwa [show ((i.toNat:Nat):Int)=i by omega] at this
end
section
open Go.RowKit
theorem isClass_any (m:Md) (h:Hd) (n:Int) (w:World):Calls Tryz.prog 246 #[.agg #[.slice h.co m.cl.length h.cc,.slice h.so m.st.length h.sc,.slice h.eo m.me.length h.ec,.int .i64 m.sel],.int .i64 n] w (Ret w (.bool (decide (0≤n)&&decide (n<m.cl.length)))):=by
 go_enter Tryz.func246,Tryz.ntmps246
 go_wp2
 all_goals
  go_ret
  exact ret_ok (bool_eq (by grind)) bE
theorem isType_any (m:Md) (h:Hd) (t:Ty) (least:Int) (w:World):Calls Tryz.prog 213 #[.agg #[.slice h.co m.cl.length h.cc,.slice h.so m.st.length h.sc,.slice h.eo m.me.length h.ec,.int .i64 m.sel],.agg #[.int .i64 t.k,.int .i64 t.c],.int .i64 least] w (Ret w (.bool (isTy m.cl.length t least))):=by
 go_enter Tryz.func213,Tryz.ntmps213
 go_wp2_with (go_at_call 246;refine (isClass_any _ _ _ _).mono ?_;rintro e w1 ⟨rfl,hb1⟩)
 all_goals
  go_ret
  exact ret_ok (bool_eq (by grind [isTy])) bE
def ChkAt (w:World) (B:Nat) (h:Hd) (m:Md):Prop:=Blk w B #[.slice h.co m.cl.length h.cc,.slice h.so m.st.length h.sc,.slice h.eo m.me.length h.ec,.int .i64 m.sel] 145
theorem chk_cells {w:World}{B:Nat}{h:Hd}{m:Md} (H:ChkAt w B h m):w.cell? ⟨B,0,none⟩=some (.slice h.co m.cl.length h.cc)∧w.cell? ⟨B,1,none⟩=some (.slice h.so m.st.length h.sc)∧w.cell? ⟨B,2,none⟩=some (.slice h.eo m.me.length h.ec)∧w.cell? ⟨B,3,none⟩=some (.int .i64 m.sel):=⟨H.cell 0 rfl,H.cell 1 rfl,H.cell 2 rfl,H.cell 3 rfl⟩
theorem ChkAt.old {w w':World}{B:Nat}{h:Hd}{m:Md} (H:ChkAt w B h m) (hb:Below w.heap.size w w'):ChkAt w' B h m:=Blk.old H hb
theorem ChkAt.lt {w:World}{B:Nat}{h:Hd}{m:Md} (H:ChkAt w B h m):B<w.heap.size:=Blk.lt H
theorem areTypes1_any (m:Md) (h:Hd) (t:Ty) (B:Nat) (w:World) (hB:ChkAt w B h m):Calls Tryz.prog 212 #[.agg #[.int .i64 t.k,.int .i64 t.c],.pointer (some ⟨B,0,none⟩)] w (Ret w (.bool (!isTy m.cl.length t 1))):=by
 obtain ⟨r0,r1,r2,r3⟩:=chk_cells hB
 have rl:=hB.lt
 clear hB
 go_enter Tryz.func212,Tryz.ntmps212
 go_wp2_with (go_at_call 213;refine (isType_any m h t 1 _).mono ?_;rintro e w1 ⟨rfl,hb1⟩)
 go_ret
 exact ret_ok rfl bE
theorem areTypes_any (m:Md) (h:Hd) (l:List Ty) (ao:Option Addr) (cap:Nat) (most:Int) (w:World) (hl:RowAt w ao cap l) (hm:most≤1000000):Calls Tryz.prog 166 #[.agg #[.slice h.co m.cl.length h.cc,.slice h.so m.st.length h.sc,.slice h.eo m.me.length h.ec,.int .i64 m.sel],.slice ao l.length cap,.int .i64 most] w (Ret w (.bool (decide ((l.length:Int)≤most)&&tysV m.cl.length l))):=by
 obtain ⟨B,hB⟩:∃ B,B=w.heap.size:=⟨_,rfl⟩
 by_cases hlen:(l.length:Int)≤most
 ·have hb0:=(Below.refl w.heap.size w).alloc (Nat.le_refl _) (.cells #[.slice h.co m.cl.length h.cc,.slice h.so m.st.length h.sc,.slice h.eo m.me.length h.ec,.int .i64 m.sel] 145)
  have hX:ChkAt _ B h m:=Blk.new' (w:=w) #[.slice h.co m.cl.length h.cc,.slice h.so m.st.length h.sc,.slice h.eo m.me.length h.ec,.int .i64 m.sel] 145 hB
  have hcon:=conTy_any l ao cap 212 #[.pointer (some ⟨B,0,none⟩)] (fun t=>!isTy m.cl.length t 1) (w.alloc (.cells #[.slice h.co m.cl.length h.cc,.slice h.so m.st.length h.sc,.slice h.eo m.me.length h.ec,.int .i64 m.sel] 145)) (by omega) (hl.old hb0) (fun A W=>by kernel_rfl) (fun k hk w' hb=>areTypes1_any m h (l.getD k default) B w' (hX.old hb))
  rw [any_all] at hcon
  have HC:=Lib.hid hcon
  have hL:decide ((l.length:Int)≤most)=true:=by simp;omega
  clear hl hX hcon
  go_enter Tryz.func166,Tryz.ntmps166
  go_wp2_with fail
  rw [←hB]
  refine HC.out.mono ?_
  rintro e w1 ⟨rfl,hb1⟩
  go_wp2
  go_ret
  exact ret_ok (bool_eq (by simp [hlen,tysV])) (bthen hb0 hb1)
 ·have hL:decide ((l.length:Int)≤most)=false:=by simp;omega
  go_enter Tryz.func166,Tryz.ntmps166
  go_wp2
  go_ret
  exact ret_ok (bool_eq (by simp [hlen])) bE
theorem above_any (m:Md) (h:Hd) (a b:Int) (w:World) (H:ModAt w h m) (hb0:0≤b) (ha:a<m.cl.length) (hd:Desc m (a.toNat+1)):Calls Tryz.prog 234 #[.agg #[.slice h.co m.cl.length h.cc,.slice h.so m.st.length h.sc,.slice h.eo m.me.length h.ec,.int .i64 m.sel],.int .i64 a,.int .i64 b] w (Ret w (.bool (aboveV m (a.toNat+1) a b))):=by
 obtain ⟨q,hq⟩:∃ q,q=aboveV m (a.toNat+1) a b:=⟨_,rfl⟩
 rw [←hq]
 have HQ:=Lib.hid hq
 clear hq
 obtain ⟨co,cc,so,sc,eo,ec,hc,he⟩:=h;dsimp only
 have HM:=Lib.hid H
 have HD:=Lib.hid hd
 have hbel:=(Below.refl w.heap.size w).alloc (Nat.le_refl _) (.cells #[.slice co m.cl.length cc,.slice so m.st.length sc,.slice eo m.me.length ec,.int .i64 m.sel] 145)
 have HM1:=Lib.hid (H.old hbel)
 clear H hd hbel
 go_enter Tryz.func234,Tryz.ntmps234
 go_wp2
 go_loop [1] (fun x=>∃ k:Int,x=.int .i64 k∧k≤a∧aboveV m (k.toNat+1) k b=q) (fun x=>(intOf x+1).toNat)
 case atStart=>exact ⟨a,rfl,by omega,HQ.out.symm⟩
 case round=>
  obtain ⟨k,rfl,hka,hkq⟩:=hrel
  have HK:=Lib.hid hkq
  clear hkq
  by_cases hlt:b<k
  ·obtain ⟨c,rfl⟩:∃ c:Nat,k=c:=⟨k.toNat,by omega⟩
   obtain ⟨ad,hco,e0,e1,e2,e3⟩:=HM1.out.cls (i:=c) (by omega)
   dsimp only at hco
   subst hco
   clear e0 e2 e3
   have hs:=HD.out c (by omega) (by omega)
   have hs':m.sup c=(m.cl.getD c default).sup:=rfl
   generalize (m.cl.getD c default).sup=s at e1 hs'
   have HS:=Lib.hid hs'
   clear hs'
   rw [HS.out] at hs
   go_wp2
   go_round
   case rel=>
    refine ⟨s,rfl,by omega,?_⟩
    have h1:=HK.out
    rw [aboveV,if_pos hlt,HS.out,Int.toNat_natCast] at h1
    rw [←h1]
    exact aboveV_fuel HD.out hb0 (by omega) (by omega) (by omega)
   case measure=>simp [intOf];omega
  ·have hlt2:¬ k > b:=by omega
   go_wp2
   go_ret
   refine ret_ok (bool_eq ?_) bE
   have h1:=HK.out
   rw [aboveV,if_neg (by omega)] at h1
   rw [←h1]
   grind
end
section
open Go.RowKit
theorem fieldsTy : Tryz.prog.fieldsOf 35 = #[⟨"Kind", 3, 0, false, "", "", 0⟩, ⟨"Class", 3, 1, false, "", "", 8⟩] := by kernel_rfl
theorem eqTyR (w:World) (a b c d:Int):Sem.run Tryz.prog (Op.equalIn 10000 35 (.agg #[.int .i64 a,.int .i64 b]) (.agg #[.int .i64 c,.int .i64 d])) w=.ok (decide ((⟨a,b⟩:Ty)=⟨c,d⟩)) w:=by
 have hu:Tryz.prog.underlying 35=some (.struct (Tryz.prog.fieldsOf 35)):=by kernel_rfl
 rw [run_equalIn_agg _ _ _ _ _ hu (by kernel_rfl),fieldsTy]
 have p0:∀ (x y:Int) w,Sem.run Tryz.prog (part 3 #[.int .i64 x,.int .i64 y] 0) w=.ok (.int .i64 x) w:=fun x y w=>by kernel_rfl
 have p1:∀ (x y:Int) w,Sem.run Tryz.prog (part 3 #[.int .i64 x,.int .i64 y] 1) w=.ok (.int .i64 y) w:=fun x y w=>by kernel_rfl
 have hi:∀ (x y:Int) w,Sem.run Tryz.prog (Op.equalIn 9999 3 (.int .i64 x) (.int .i64 y)) w=.ok (x == y) w:=fun x y w=>run_equalIn_int w 9998 3 .i64 .i64 x y Tryz.underlying3
 simp only [Op.eqFields,Sem.run_bind,p0,p1,hi,Result.andThen_ok]
 by_cases h1:a=c<;>by_cases h2:b=d<;>simp [h1,h2,Op.eqFields,p0,p1,hi]
theorem eqlTy (w:World) (a b c d:Int):Sem.run Tryz.prog (binOp .eql 35 (.agg #[.int .i64 a,.int .i64 b]) (.agg #[.int .i64 c,.int .i64 d])) w=.ok (.bool (decide ((⟨a,b⟩:Ty)=⟨c,d⟩))) w:=by
 rw [run_eql_struct,eqTyR];rfl
theorem neqTy (w:World) (a b c d:Int):Sem.run Tryz.prog (binOp .neq 35 (.agg #[.int .i64 a,.int .i64 b]) (.agg #[.int .i64 c,.int .i64 d])) w=.ok (.bool (!decide ((⟨a,b⟩:Ty)=⟨c,d⟩))) w:=by
 rw [run_neq_struct,eqTyR];rfl
theorem guardTy (w:World) (op:BinOp) (x y:Operand) (xs ys:Array Value):Sem.run Tryz.prog (eqGuard op 35 x y (.agg xs) (.agg ys)) w=.ok () w:=run_eqGuard_agg w op 35 x y xs ys (by kernel_rfl)
end
section
open Go.RowKit
theorem entry_any (m:Md) (h:Hd) (k s n:Nat) (w:World) (H:ModAt w h m) (hk:k<m.cl.length) (hn:n<m.me.length) (hd:Desc m (k+1)) (hs:s<m.sel) (hl:∀ j,j≤k→((m.cl.getD j default).m.length:Int)=m.sel):Calls Tryz.prog 214 #[.agg #[.slice h.co m.cl.length h.cc,.slice h.so m.st.length h.sc,.slice h.eo m.me.length h.ec,.int .i64 m.sel],.int .i64 k,.int .i64 s,.int .i64 n] w (Ret w (.bool (entryV m k s n))):=by
 have hbel:=(Below.refl w.heap.size w).alloc (Nat.le_refl _) (.cells #[.slice h.co m.cl.length h.cc,.slice h.so m.st.length h.sc,.slice h.eo m.me.length h.ec,.int .i64 m.sel] 145)
 have hX:ChkAt _ w.heap.size h m:=Blk.new w #[.slice h.co m.cl.length h.cc,.slice h.so m.st.length h.sc,.slice h.eo m.me.length h.ec,.int .i64 m.sel] 145
 obtain ⟨ad,heo,-,m1,-,-,-,-,-⟩:=(H.old hbel).mth hn
 have hown:m.own n=(m.me.getD n default).c:=rfl
 generalize (m.me.getD n default).c=own at m1 hown
 have hq:entryV m k s n=(decide (0≤own)&&decide (own≤k)&&aboveV m (k+1) k own&&decide (m.ent own s=n)):=by rw [←hown];rfl
 rw [hq]
 have HM:=Lib.hid H
 have HD:=Lib.hid hd
 have HL:=Lib.hid hl
 have HX:=Lib.hid hX
 clear hq hown hX H hl hd
 by_cases ho:0≤own∧own≤k
 ·obtain ⟨o,rfl⟩:∃ o:Nat,own=o:=⟨own.toNat,by omega⟩
  have hab:=fun w1 (hb:Below w.heap.size w w1)=>above_any m h k o w1 (HM.out.old hb) (by omega) (by omega) (by rw [Int.toNat_natCast];exact HD.out)
  rw [Int.toNat_natCast] at hab
  generalize aboveV m (k+1) k o=q at hab
  have HA:=Lib.hid hab
  clear hab
  have hlo:=HL.out o (by omega)
  have hent:m.ent o s=(m.cl.getD o default).m.getD s 0:=rfl
  generalize he:(m.cl.getD o default).m.getD s 0=e at hent
  rw [hent]
  have HEq:=Lib.hid he
  clear he hent
  obtain ⟨co,cc,so,sc,eo,ec,hc,he⟩:=h
  dsimp only at *
  subst heo
  have ho2:(o:Int)≤k:=by omega
  have ho3:o<m.cl.length:=by omega
  have ho4:(o:Int) < m.cl.length:=by omega
  go_enter Tryz.func214,Tryz.ntmps214
  go_wp2_with fail
  refine (HA.out _ hbel).mono ?_
  rintro e1 w1 ⟨rfl,hb1⟩
  obtain ⟨r0,r1,r2,r3⟩:=chk_cells (HX.out.old hb1)
  have rl:=(HX.out.old hb1).lt
  have hbw:=bthen hbel hb1
  obtain ⟨ad2,hco,-,-,-,c3⟩:=(HM.out.old hbw).cls (i:=o) (by omega)
  dsimp only at r0 r1 r2 r3 hco c3
  subst hco
  obtain ⟨ad3,hmo,t0⟩:=row_int ((HM.out.old hbw).t o (by omega)) (i:=s) (by omega)
  rw [HEq.out] at t0
  dsimp only at hmo
  rw [hmo] at c3
  have hso:(s:Int) < (m.cl.getD o default).m.length:=by omega
  have HMo:=Lib.hid hmo
  generalize (m.cl.getD o default).m.length=tl at c3 hso
  clear hmo HEq hlo
  rcases q with _|_
  all_goals
   go_wp2
   all_goals
    go_ret
    exact ret_ok (bool_eq (by grind)) hbw
 ·obtain ⟨co,cc,so,sc,eo,ec,hc,he⟩:=h
  dsimp only at *
  subst heo
  go_enter Tryz.func214,Tryz.ntmps214
  by_cases h0:0≤own
  ·have h1:¬ own≤k:=by omega
   go_wp2
   go_ret
   exact ret_ok (bool_eq (by grind)) hbel
  ·have h1:¬ own ≥ 0:=by omega
   go_wp2
   go_ret
   exact ret_ok (bool_eq (by grind)) hbel
theorem eqTy_no {a b:List Ty}{k:Nat} (h:a.getD k default≠b.getD k default):¬ a=b:=fun e=>h (by rw [e])
theorem eqTy_ok {a b:List Ty} (h:a.length=b.length) (h1:∀ i,i<a.length→a.getD i default=b.getD i default):a=b:=by
 exact k90
theorem eqTy_any (a b:List Ty) (ao bo:Option Addr) (ac bc:Nat) (w:World) (ha:RowAt w ao ac a) (hb:RowAt w bo bc b) (hm:a.length≤1000000):Calls Tryz.prog 215 #[.slice ao a.length ac,.slice bo b.length bc] w (Ret w (.bool (decide (a=b)))):=by
 by_cases hlen:a.length=b.length
 · have HA:=Lib.hid ha
   have HB:=Lib.hid hb
   have HLn:=Lib.hid hlen
   have hb3:((a.length:Int) != b.length)=false:=by simp [hlen]
   clear ha hb hlen
   go_enter Tryz.func215,Tryz.ntmps215
   go_wp2
   go_loopw [13] (fun i wr=>∃ k:Nat,k≤a.length∧i=.int .i64 k∧Below w.heap.size w wr∧Hid (∀ i,i<k→a.getD i default=b.getD i default)) (fun i _=>a.length-(intOf i).toNat)
   case atStart=>exact ⟨0,by omega,rfl,Below.refl _ _,Lib.hid (by omega)⟩
   case round=>
     obtain ⟨k,hk,rfl,hbel,q1⟩:=hrel
     have HL:=Lib.hid hbel
     clear hbel
     by_cases hkl:k<a.length
     · obtain ⟨ad,rfl,x0,x1⟩:=row_ty (HA.out.old HL.out) hkl
       obtain ⟨bd,rfl,y0,y1⟩:=row_ty (HB.out.old HL.out) (i:=k) (by have:=HLn.out;omega)
       have hkb:(k:Int) < b.length:=by have:=HLn.out;omega
       generalize hx:a.getD k default=x at x0 x1
       generalize hy:b.getD k default=y at y0 y1
       have HX:=Lib.hid hx
       have HY:=Lib.hid hy
       clear hx hy
       have hne:=neqTy
       have hgu:=guardTy
       obtain ⟨xk,xc⟩:=x
       obtain ⟨yk,yc⟩:=y
       dsimp only at x0 x1 y0 y1
       go_wp2
       go_quiet (fail)
       go_wp2
       all_goals first
         | (go_ret
            have hh:¬ ((⟨xk,xc⟩:Ty)=⟨yk,yc⟩):=by simp only [Ty.mk.injEq];grind
            exact ret_ok (bool_eq (decide_eq_false (eqTy_no (k:=k) (by rw [HX.out,HY.out];exact hh))).symm) (bdrewN HL.out _))
         | (go_roundw
            case rel=>
              refine ⟨k+1,by omega,by go_num,bdrewN HL.out _,Lib.hid fun i hi=>?_⟩
              by_cases hik:i<k
              · exact q1.out i hik
              · obtain rfl:i=k:=by omega
                rw [HX.out,HY.out,Ty.mk.injEq]
                grind
            case measure=>simp [intOf];omega)
     · go_wp2
       go_ret
       exact ret_ok (bool_eq (decide_eq_true (eqTy_ok HLn.out fun i hi=>q1.out i (by omega))).symm) HL.out
 · have hb3:((a.length:Int) != b.length)=true:=by simp;omega
   go_enter Tryz.func215,Tryz.ntmps215
   go_wp2
   go_ret
   exact ret_ok (bool_eq (decide_eq_false fun e=>hlen (by rw [e])).symm) bE
end
section
open Go.RowKit
theorem row_int' {w:World}{h:Hd}{m:Md} (H:ModAt w h m) {i s:Nat} (hi:i<m.cl.length) {tl:List Int} (ht:(m.cl.getD i default).m=tl) (hs:s<tl.length):∃ ad,(h.c i).mo=some ad∧w.cell? (ad.add s)=some (.int .i64 (tl.getD s 0)):=by
 subst ht
 exact row_int (H.t i hi) hs
theorem class_any (m:Md) (h:Hd) (k:Nat) (w:World) (H:ModAt w h m) (hk:k<m.cl.length) (hsm:m.cl.length≤10∧m.me.length≤16∧0≤m.sel∧m.sel≤16) (hd:Desc m k) (hl:∀ j,j<k→((m.cl.getD j default).m.length:Int)=m.sel):Calls Tryz.prog 167 #[.agg #[.slice h.co m.cl.length h.cc,.slice h.so m.st.length h.sc,.slice h.eo m.me.length h.ec,.int .i64 m.sel],.int .i64 k] w (Ret w (.bool (clsV m k))):=by
 have hbel:=(Below.refl w.heap.size w).alloc (Nat.le_refl _) (.cells #[.slice h.co m.cl.length h.cc,.slice h.so m.st.length h.sc,.slice h.eo m.me.length h.ec,.int .i64 m.sel] 145)
 have hX:ChkAt _ w.heap.size h m:=Blk.new w #[.slice h.co m.cl.length h.cc,.slice h.so m.st.length h.sc,.slice h.eo m.me.length h.ec,.int .i64 m.sel] 145
 obtain ⟨ad,hco,c0,c1,c2,c3⟩:=(H.old hbel).cls hk
 generalize hx:m.cl.getD k default=x at c0 c1 c2 c3
 obtain ⟨nm,sup,fl,tl⟩:=x
 have hq:clsV m k=(decide (-1≤sup)&&decide (sup<k)&&decide (fl.length≤7)&&tysV m.cl.length fl&&decide ((tl.length:Int)=m.sel)&&(List.range tl.length).all (selV m k)&&(decide (sup<0)||decide ((m.cl.getD sup.toNat default).f.length≤fl.length)&&decide ((m.cl.getD sup.toNat default).f=fl.take (m.cl.getD sup.toNat default).f.length))):=by simp only [clsV,Md.sup,hx,Int.toNat_natCast]
 have hsup:m.sup k=sup:=by simp only [Md.sup,hx,Int.toNat_natCast]
 have hfl:=H.f k hk
 have hcap:=H.bf k hk
 have htl:=H.t k hk
 rw [hx] at hfl htl hcap
 dsimp only at c0 c1 c2 c3 hfl htl hcap
 have hbx:=hbel.alloc hbel.size (.cells #[.string nm,.int .i64 sup,.slice (h.c k).fo fl.length (h.c k).fc,.slice (h.c k).mo tl.length (h.c k).mc] 63)
 have hY:Blk _ (w.heap.size+1) _ _:=Blk.new' (w:=w.alloc (.cells #[.slice h.co m.cl.length h.cc,.slice h.so m.st.length h.sc,.slice h.eo m.me.length h.ec,.int .i64 m.sel] 145)) #[.string nm,.int .i64 sup,.slice (h.c k).fo fl.length (h.c k).fc,.slice (h.c k).mo tl.length (h.c k).mc] 63 (by simp)
 have hX2:=hX.alloc (.cells #[.string nm,.int .i64 sup,.slice (h.c k).fo fl.length (h.c k).fc,.slice (h.c k).mo tl.length (h.c k).mc] 63)
 have hare:=areTypes_any m h fl (h.c k).fo (h.c k).fc 7 _ (hfl.old hbx) (by omega)
 have HQ:=Lib.hid hq
 have HX:=Lib.hid hX2
 have HY:=Lib.hid hY
 have HFL:=Lib.hid hfl
 have HTL:=Lib.hid htl
 have HC:=Lib.hid hx
 have HS:=Lib.hid hsup
 have HM:=Lib.hid H
 have HD:=Lib.hid hd
 have HL:=Lib.hid hl
 have HA:=Lib.hid hare
 have HBX:=Lib.hid hbx
 clear hq hX hX2 hY hfl htl hx hsup H hd hl hare hbx
 obtain ⟨co,cc,so,sc,eo,ec,hc,he⟩:=h
 dsimp only at *
 subst hco
 generalize hch:hc k=ch at HX HY HFL HTL HA HBX c2 c3 hcap
 obtain ⟨fo,fc,mo,mc⟩:=ch
 dsimp only at HX HY HFL HTL HA HBX c2 c3 hcap
 clear hch
 have hk2:(k:Int) < m.cl.length:=by omega
 by_cases hs:-1≤sup∧sup<k
 ·have hs1:¬ sup < -1:=by omega
  have hs2:¬ sup ≥ k:=by omega
  go_enter Tryz.func167,Tryz.ntmps167
  go_wp2_with fail
  refine HA.out.mono ?_
  rintro e1 w1 ⟨rfl,hb1⟩
  clear c0 c1 c2 c3 hbel HA
  have hY1:=HY.out.old hb1
  have x1:w1.cell? ⟨w.heap.size+1,1,none⟩=some (.int .i64 sup):=hY1.cell 1 rfl
  have x3:w1.cell? ⟨w.heap.size+1,3,none⟩=some (.slice mo tl.length mc):=hY1.cell 3 rfl
  have xl:=hY1.lt
  have hX1:=HX.out.old hb1
  have r3:w1.cell? ⟨w.heap.size,3,none⟩=some (.int .i64 m.sel):=hX1.cell 3 rfl
  have rl:=hX1.lt
  have HW1:=Lib.hid (bthen HBX.out hb1)
  have HX1:=Lib.hid hX1
  have HY1:=Lib.hid hY1
  clear hX1 hY1 HX HY HBX hb1
  rcases h7:decide ((fl.length:Int)≤7)&&tysV m.cl.length fl with _|_
  ·have H7:=Lib.hid h7
   clear h7
   go_wp2
   go_ret
   refine ret_ok (bool_eq ?_) HW1.out
   have h8:=H7.out
   rw [HQ.out]
   grind
  have H7:=Lib.hid h7
  clear h7
  by_cases hts':¬ (tl.length:Int)=m.sel
  ·have hts:=hts'
   have hts2:((tl.length:Int) != m.sel)=true:=by simpa using hts
   go_wp2
   go_ret
   refine ret_ok (bool_eq ?_) HW1.out
   rw [HQ.out,decide_eq_false hts]
   simp
  have hts:(tl.length:Int)=m.sel:=by omega
  clear hts'
  have hts2:((tl.length:Int) != m.sel)=false:=by simpa using hts
  have HT:=Lib.hid hts
  have htl:tl.length≤16:=by omega
  clear hts
  go_wp2
  go_loopw [43] (fun i wr=>∃ s:Nat,s≤tl.length∧i=.int .i64 s∧Below w1.heap.size w1 wr∧Hid (∀ i,i<s→selV m k i=true)) (fun i _=>tl.length-(intOf i).toNat)
  case atStart=>exact ⟨0,by omega,rfl,Below.refl _ _,Lib.hid (by omega)⟩
  case round=>
   obtain ⟨s,hs,rfl,hbl,q1⟩:=hrel
   clear x1 x3 xl r3 rl
   have hY2:=HY1.out.old hbl
   have hX2:ChkAt wr w.heap.size ⟨some ad,cc,so,sc,eo,ec,hc,he⟩ m:=HX1.out.old hbl
   have x1:wr.cell? ⟨w.heap.size+1,1,none⟩=some (.int .i64 sup):=hY2.cell 1 rfl
   have x2:wr.cell? ⟨w.heap.size+1,2,none⟩=some (.slice fo fl.length fc):=hY2.cell 2 rfl
   have xl:=hY2.lt
   obtain ⟨r0,r1,r2,r3⟩:=chk_cells hX2
   have rl:=hX2.lt
   dsimp only at r0 r1 r2 r3
   have hbw:=bthen HW1.out hbl
   have HB2:=Lib.hid hbw
   have HBL:=Lib.hid hbl
   have HX2:=Lib.hid hX2
   have HY2:=Lib.hid hY2
   clear hX2 hY2 hbl hbw
   by_cases hst:s<tl.length
   ·obtain ⟨ad3,rfl,t0⟩:=row_int (HTL.out.old HB2.out) hst
    generalize hn:tl.getD s 0=n at t0
    have hsel:selV m k s=(decide (-1≤n)&&decide (n<m.me.length)&&(decide (n<0)||entryV m k s n)&&!(decide (0≤sup)&&decide (n<0)&&decide (0≤m.ent sup s))):=by simp only [selV,Md.ent,Int.toNat_natCast,HC.out,hn,HS.out];rfl
    have HSel:=Lib.hid hsel
    clear hn hsel
    have hst2:(s:Int) < tl.length:=by omega
    have hwr:IntKind.i64.wrap ((s:Int)+1)=s+1:=IntWalk.i64_in _ (by omega)
    have hfalse:∀ w':World,selV m k s=false→Below w.heap.size w w'→Ret w (.bool (clsV m k)) (.returned (.bool false)) w':=fun w' hf hb=>ret_ok (bool_eq (by rw [HQ.out,all_range_no hst hf];simp)) hb
    have HF:=Lib.hid hfalse
    clear hfalse
    by_cases hn1:n < -1
    ·go_wp2
     go_ret
     exact HF.out _ (by rw [HSel.out,decide_eq_false (show ¬ -1≤n by omega)];rfl) HB2.out
    by_cases hn2:(m.me.length:Int)≤n
    ·have hn3:n ≥ m.me.length:=hn2
     go_wp2
     go_ret
     exact HF.out _ (by rw [HSel.out,decide_eq_false (show ¬ n<m.me.length by omega)];simp) HB2.out
    have hn4:¬ n ≥ m.me.length:=hn2
    by_cases hn5:0≤n
    ·obtain ⟨nn,rfl⟩:∃ nn:Nat,n=nn:=⟨n.toNat,by omega⟩
     have hent:=entry_any m ⟨some ad,cc,so,sc,eo,ec,hc,he⟩ k s nn wr (HM.out.old HB2.out) hk (by omega) (fun i h0 h1=>by
      by_cases hik:i<k
      ·exact HD.out i h0 hik
      ·obtain rfl:i=k:=by omega
       rw [HS.out];omega) (by have:=HT.out;omega) (fun j hj=>by
      by_cases hjk:j<k
      ·exact HL.out j hjk
      ·obtain rfl:j=k:=by omega
       rw [HC.out];exact HT.out)
     dsimp only at hent
     generalize entryV m k s nn=q at hent HSel
     have HE:=Lib.hid hent
     have hn6:¬ (nn:Int) < -1:=by omega
     clear hent
     go_wp2_with fail
     refine HE.out.mono ?_
     rintro e1 w2 ⟨rfl,hb2⟩
     have hX3:ChkAt w2 w.heap.size ⟨some ad,cc,so,sc,eo,ec,hc,he⟩ m:=HX2.out.old hb2
     have y1:w2.cell? ⟨w.heap.size+1,1,none⟩=some (.int .i64 sup):=(HY2.out.old hb2).cell 1 rfl
     have HB3:=Lib.hid (bthen HB2.out hb2)
     have HB4:=Lib.hid (bthen HBL.out hb2)
     clear x1 x2 xl r0 r1 r2 r3 rl hX3 hb2
     rcases q with _|_
     ·go_wp2
      go_ret
      exact HF.out _ (by rw [HSel.out];simp;omega) HB3.out
     ·have hn7:¬ (nn:Int) < 0:=by omega
      have hsok:selV m k s=true:=by rw [HSel.out];simp;omega
      have hrel2:∀ i,i<s+1→selV m k i=true:=fun i hi=>by
       by_cases his:i<s
       ·exact q1.out i his
       ·obtain rfl:i=s:=by omega
        exact hsok
      have HR:=Lib.hid hrel2
      clear hrel2 hsok
      by_cases hsn:0≤sup
      all_goals
       go_wp2
       go_roundw
       case rel=>exact ⟨s+1,by omega,by go_num,HB4.out,Lib.hid HR.out⟩
       case measure=>simp [intOf];omega
    ·obtain rfl:n=-1:=by omega
     by_cases hsn:0≤sup
     ·obtain ⟨u,rfl⟩:∃ u:Nat,sup=u:=⟨sup.toNat,by omega⟩
      have hu:u<m.cl.length:=by omega
      have hu2:(u:Int) < m.cl.length:=by omega
      obtain ⟨ad2,hco,-,-,-,k3⟩:=(HM.out.old HB2.out).cls hu
      have hul:=HL.out u (by omega)
      obtain ⟨ad4,hmo,t1⟩:=row_int ((HM.out.old HB2.out).t u hu) (i:=s) (by have:=HT.out;omega)
      have hsu:(s:Int) < (m.cl.getD u default).m.length:=by have:=HT.out;omega
      dsimp only at hmo k3 hco
      obtain rfl:=Option.some.inj hco
      have hent:m.ent u s=(m.cl.getD u default).m.getD s 0:=rfl
      generalize (m.cl.getD u default).m.getD s 0=e at t1 hent
      generalize (m.cl.getD u default).m.length=ul at k3 hsu
      rw [hmo] at k3
      have HEn:=Lib.hid hent
      clear hmo hco hul hent
      by_cases he0:0≤e
      ·have he1:e ≥ 0:=he0
       go_wp2
       go_ret
       exact HF.out _ (by rw [HSel.out,HEn.out];simp [he0]) HB2.out
      ·have he1:¬ e ≥ 0:=he0
       have hsok:selV m k s=true:=by rw [HSel.out,HEn.out];simp;omega
       exact k47
     ·have hsok:selV m k s=true:=by rw [HSel.out];simp;omega
      exact k47
   ·have hss:s=tl.length:=by omega
    subst hss
    have hall:(List.range tl.length).all (selV m k)=true:=all_range_ok q1.out
    have HAll:=Lib.hid hall
    clear hall
    by_cases hsn:sup<0
    ·go_wp2
     go_ret
     refine ret_ok (bool_eq ?_) HB2.out
     have h8:=H7.out
     have h9:=HT.out
     rw [HQ.out,HAll.out,decide_eq_true hsn,decide_eq_true h9]
     grind
    ·obtain ⟨u,rfl⟩:∃ u:Nat,sup=u:=⟨sup.toNat,by omega⟩
     have hu:u<m.cl.length:=by omega
     have hu2:(u:Int) < m.cl.length:=by omega
     obtain ⟨ad2,hco,-,-,k2,-⟩:=(HM.out.old HB2.out).cls hu
     have hfu:=HM.out.f u hu
     have huf:(m.cl.getD u default).f.length=(m.cl.getD u default).f.length:=rfl
     generalize hgf:(m.cl.getD u default).f=uf at k2 hfu
     have HGF:=Lib.hid hgf
     obtain rfl:=Option.some.inj hco
     dsimp only at k2 hfu
     have HFU:=Lib.hid hfu
     clear huf hgf hfu hco
     have hsel2:clsV m k=(decide (uf.length≤fl.length)&&decide (uf=fl.take uf.length)):=by
      have h8:=H7.out
      have h9:=HT.out
      rw [HQ.out,HAll.out,decide_eq_true h9,decide_eq_true hs1,decide_eq_true hs2,Int.toNat_natCast,HGF.out]
      grind
     have HSel:=Lib.hid hsel2
     clear hsel2
     by_cases hle:uf.length≤fl.length
     ·have hle2:(uf.length:Int)≤fl.length:=by omega
      have hle3:uf.length≤fc:=by omega
      have hle4:(uf.length:Int)≤fc:=by omega
      have hlt:(fl.take uf.length).length=uf.length:=by simp;omega
      have heq:=eqTy_any uf (fl.take uf.length) (hc u).fo fo (hc u).fc fc wr (HFU.out.old HB2.out) ((HFL.out.old HB2.out).take _ hle _ (fun h0=>((HFL.out.2.1 h0).2))) (by have h8:=H7.out;simp only [Bool.and_eq_true,decide_eq_true_eq] at h8;omega)
      rw [hlt] at heq
      have HEq:=Lib.hid heq
      clear heq hlt
      go_wp2_with fail
      refine HEq.out.mono ?_
      rintro e1 w2 ⟨rfl,hb2⟩
      go_wp2
      go_ret
      exact ret_ok (bool_eq (by rw [HSel.out,decide_eq_true hle];rfl)) (bthen HB2.out hb2)
     ·have hle2:¬ (uf.length:Int)≤fl.length:=by omega
      go_wp2
      go_ret
      exact ret_ok (bool_eq (by rw [HSel.out,decide_eq_false hle];rfl)) HB2.out
 ·by_cases hs1:sup < -1
  ·go_enter Tryz.func167,Tryz.ntmps167
   go_wp2
   go_ret
   exact ret_ok (bool_eq (by rw [HQ.out,decide_eq_false (show ¬ -1≤sup by omega)];rfl)) HBX.out
  ·have hs2:(k:Int)≤sup:=by omega
   go_enter Tryz.func167,Tryz.ntmps167
   go_wp2
   go_ret
   exact ret_ok (bool_eq (by rw [HQ.out,decide_eq_false (show ¬ sup<k by omega)];simp)) HBX.out
end
section
open Go.RowKit
def RetRow {α:Type} [Cells α] (W:World) (l:List α):Ending→World→Prop:=fun e w'=>(∃ ao cap,e=.returned (.slice ao l.length cap)∧RowAt w' ao cap l)∧Below W.heap.size W w'
def RetRowN {α:Type} [Cells α] (W:World) (l:List α):Ending→World→Prop:=fun e w'=>(∃ ao cap,e=.returned (.slice ao l.length cap)∧RowAt w' ao cap l∧∀ a,ao=some a→W.heap.size≤a.block)∧Below W.heap.size W w'
theorem tgtV_len (m:Md) (s:Int):(tgtV m s).length≤m.cl.length:=by
 have h1:=sortV_len ((m.cl.map fun c=>c.m.getD s.toNat 0).filter fun n=>decide (0≤n))
 have h2:=List.length_filter_le (fun n:Int=>decide (0≤n)) (m.cl.map fun c=>c.m.getD s.toNat 0)
 rw [List.length_map] at h2
 unfold tgtV;omega
theorem bgrowV {B:Nat}{w0 w:World} (h:Below B w0 w) (hB:B≤w0.heap.size) (os:Array Obj):Below B w0 (Sort.grow w os):=by
 refine ⟨h.os,h.tape,h.output,?_,fun k hk=>?_⟩
 ·have:=h.size
  have h2:(Sort.grow w os).heap.size=w.heap.size+os.size:=by simp [Sort.grow]
  omega
 ·rw [Sort.heap_grow_old w os (by have:=h.size;omega)]
  exact h.block k hk
theorem ogrowV {w:World}{base size n:Nat}{e:TypeId}{v:Value}{xs:List Value} (h:w.ownsRow base e size v n xs) (os:Array Obj):(Sort.grow w os).ownsRow base e size v n xs:=by
 obtain ⟨h1,h2⟩:=h
 refine ⟨h1,?_⟩
 rcases h2 with h2|⟨g,cap,cur,hv,hg,hh,h3⟩
 ·exact .inl h2
 ·exact .inr ⟨g,cap,cur,hv,hg,by rw [Sort.heap_grow_old w os (Blk.lt (t:=e) hh)];exact hh,h3⟩
section
variable {base:Nat}{e:TypeId}(ao:Option Addr)(n cap:Nat)(zs:List Int)(w:World)(h:w.ownsRow base e 1 (.slice ao n cap) n (zs.map (Value.int .i64)))(hn:n≤1000000)(hb:base≤w.heap.size)
include base e ao n cap zs w h hn hb
theorem sortOwn_any:
  Calls Tryz.prog 70 #[.slice ao n cap] w fun e1 w'=>e1=.returned (.tuple #[])∧w'.ownsRow base e 1 (.slice ao n cap) n ((zs.mergeSort fun x y=>decide (x≤y)).map (Value.int .i64))∧Below base w w':=by
 have hz:zs.length=n:=by simpa using h.1
 by_cases hv:(Value.slice ao n cap)=.slice none 0 0
 ·cases hv
  refine (Calls.mono (Tryz.slices_Sort_int_none none 0 w) ?_)
  rintro e1 w' ⟨rfl,rfl⟩
  obtain rfl:zs=[]:=List.eq_nil_of_length_eq_zero hz
  exact ⟨rfl,by simpa using h,Below.refl _ _⟩
 ·obtain ⟨g,c,hs,hg,hlt,hnc,hcm,hzn,hH⟩:=Lib.holds_of_ownsRow h hv
  cases hs
  subst hzn
  refine (Tryz.slices_Sort_int g 0 cap zs w hH hlt (by omega)).mono ?_
  rintro e1 w' ⟨rfl,q,os,rfl⟩
  have hl:(zs.mergeSort fun x y=>decide (x≤y)).length=zs.length:=List.length_mergeSort _
  refine ⟨rfl,ogrowV ?_ os,bgrowV (Lib.below_putRow (Below.refl _ _) hg) hb os⟩
  have:=Lib.ownsRow_putRow (q:=q) (ys:=zs.mergeSort fun x y=>decide (x≤y)) h hl (Nat.le_refl _)
  rwa [List.take_of_length_le (by omega)] at this
theorem compactOwn_any (hc:(Lib.compact zs).length≤n):
  Calls Tryz.prog 71 #[.slice ao n cap] w fun e1 w'=>e1=.returned (.slice ao (Lib.compact zs).length cap)∧w'.ownsRow base e 1 (.slice ao (Lib.compact zs).length cap) (Lib.compact zs).length ((Lib.compact zs).map (Value.int .i64))∧Below base w w':=by
 have hz:zs.length=n:=by simpa using h.1
 by_cases hv:(Value.slice ao n cap)=.slice none 0 0
 ·cases hv
  obtain rfl:zs=[]:=List.eq_nil_of_length_eq_zero hz
  have hl:(Lib.compact ([]:List Int))=[]:=List.eq_nil_of_length_eq_zero (by omega)
  rw [hl]
  refine (Calls.mono (Tryz.slices_Compact_int_empty none 0 w) ?_)
  rintro e1 w' ⟨rfl,rfl⟩
  exact ⟨rfl,by simpa using h,Below.refl _ _⟩
 ·obtain ⟨g,c,hs,hg,hlt,hnc,hcm,hzn,hH⟩:=Lib.holds_of_ownsRow h hv
  cases hs
  subst hzn
  refine (Tryz.slices_Compact_int g 0 cap zs w hH (by omega) hnc).mono ?_
  rintro e1 w' ⟨rfl,q,rfl⟩
  refine ⟨rfl,?_,Lib.below_putRow (Below.refl _ _) hg⟩
  have:=Lib.ownsRow_putRow (q:=q) (ys:=Lib.compact zs++List.replicate (zs.length-(Lib.compact zs).length) 0) h (by simp;omega) hc
  rwa [List.take_left'] at this
  rfl
end
theorem sla_blkV {w:World}{b:Nat}{xs:Array Value}{t:TypeId} (H:Blk w b xs t) {n size:Nat} (h:xs.size=n*size):SlA w size (some ⟨b,0,none⟩) n n xs.toList:=by
 refine ⟨by simpa using h,(fun h=>by cases h),fun j u hu=>⟨_,rfl,?_⟩⟩
 have hadd:(⟨b,0,none⟩:Addr).add j=⟨b,j,none⟩:=by unfold Addr.add;split<;>simp_all
 rw [hadd]
 exact H.cell j (by simpa using hu)
def tgtL (m:Md) (s k:Nat):List Int:=((m.cl.take k).map fun c=>c.m.getD s 0).filter fun n=>decide (0≤n)
theorem tgtL_all (m:Md) (s:Nat):tgtV m s=sortV (tgtL m s m.cl.length):=by unfold tgtV tgtL;rw [List.take_length,Int.toNat_natCast]
theorem tgtL_len (m:Md) (s k:Nat):(tgtL m s k).length≤k:=by
 unfold tgtL
 have h2:=List.length_filter_le (fun n:Int=>decide (0≤n)) ((m.cl.take k).map fun c=>c.m.getD s 0)
 rw [List.length_map,List.length_take] at h2
 omega
theorem tgtL_yes {m:Md}{s k:Nat} (hk:k<m.cl.length) (h:0≤(m.cl.getD k default).m.getD s 0):tgtL m s (k+1)=tgtL m s k++[(m.cl.getD k default).m.getD s 0]:=by
 exact k71
theorem tgtL_no {m:Md}{s k:Nat} (hk:k<m.cl.length) (h:¬ 0≤(m.cl.getD k default).m.getD s 0):tgtL m s (k+1)=tgtL m s k:=by
 exact k71
section
variable (m:Md)(h:Hd)(s:Int)(w:World)(H:ModAt w h m)(hs:0≤s∧s<m.sel)(hn:m.cl.length≤10)(hl:∀ j,j<m.cl.length→((m.cl.getD j default).m.length:Int)=m.sel)
include m h s w H hs hn hl
theorem targets_new:
  Calls Tryz.prog 165 #[.agg #[.slice h.co m.cl.length h.cc,.slice h.so m.st.length h.sc,.slice h.eo m.me.length h.ec,.int .i64 m.sel],.int .i64 s] w (RetRowN w (tgtV m s)):=by
 obtain ⟨hs0,hs1⟩:=hs
 obtain ⟨s,rfl⟩:∃ t:Nat,s=t:=⟨s.toNat,by omega⟩
 have hX:=Blk.new w #[.slice h.co m.cl.length h.cc,.slice h.so m.st.length h.sc,.slice h.eo m.me.length h.ec,.int .i64 m.sel] 26
 have hb0:Below w.heap.size w (w.alloc (.cells #[.slice h.co m.cl.length h.cc,.slice h.so m.st.length h.sc,.slice h.eo m.me.length h.ec,.int .i64 m.sel] 26)):=by exact bE
 have hz:(w.alloc (.cells #[.slice h.co m.cl.length h.cc,.slice h.so m.st.length h.sc,.slice h.eo m.me.length h.ec,.int .i64 m.sel] 26)).heap.size=w.heap.size+1:=by simp
 have HX:=Lib.hid hX
 have HM:=Lib.hid (H.old hb0)
 have HL:=Lib.hid hl
 have HB0:=Lib.hid hb0
 have HZ:=Lib.hid hz
 clear hX H hl hb0 hz
 obtain ⟨co,cc,so,sc,eo,ec,hc,he⟩:=h
 dsimp only at HX HM HB0 HZ ⊢
 go_enter Tryz.func165,Tryz.ntmps165
 go_upto_region 1 with fail
 generalize w.alloc _=w0 at HX HM HB0 HZ ⊢
 have r0:w0.cell? ⟨w.heap.size,0,none⟩=some (.slice co m.cl.length cc):=HX.out.cell 0 rfl
 have rl:=HX.out.lt
 go_wp2_with fail
 go_loopw [5,12] (fun o i wr=>∃ (k:Nat) (ao:Option Addr) (cap:Nat),k≤m.cl.length∧i=.int .i64 k∧o=.slice ao (tgtL m s k).length cap∧wr.ownsRow w0.heap.size 3 1 (.slice ao (tgtL m s k).length cap) (tgtL m s k).length ((tgtL m s k).map (Value.int .i64))∧Below w0.heap.size w0 wr) (fun _ i _=>m.cl.length-(intOf i).toNat)
 case atStart=>exact ⟨0,none,0,by omega,rfl,rfl,World.ownsRow_nil _ _ _ _,Below.refl _ _⟩
 case round=>
  obtain ⟨k,ao,cap,hk,rfl,rfl,hown,hbl⟩:=hrel
  have hlen:=tgtL_len m s k
  by_cases hkl:k<m.cl.length
  ·obtain ⟨ad,hco,c0,c1,c2,c3⟩:=(HM.out.old hbl).cls hkl
   obtain ⟨ad3,hmo,t0⟩:=row_int ((HM.out.old hbl).t k hkl) (i:=s) (by have:=HL.out k hkl;omega)
   have hst:s<(m.cl.getD k default).m.length:=by have:=HL.out k hkl;omega
   have hyes:=tgtL_yes (m:=m) (s:=s) hkl
   have hno:=tgtL_no (m:=m) (s:=s) hkl
   dsimp only at hco c2 c3 hmo
   subst hco
   rw [hmo] at c3
   have HMo:=Lib.hid hmo
   clear hmo
   generalize (m.cl.getD k default).m.getD s 0=n at t0 hyes hno
   generalize (m.cl.getD k default).m.length=tn at c3 hst
   generalize (m.cl.getD k default).n=nm at c0
   generalize (m.cl.getD k default).sup=sup at c1
   generalize (m.cl.getD k default).f.length=fl at c2
   generalize hzs:tgtL m s k=zs at hown hlen hyes hno ⊢
   have HZs:=Lib.hid hzs
   clear hzs
   have hkl2:(k:Int) < m.cl.length:=by omega
   have hst2:(s:Int) < tn:=by omega
   have hwr:IntKind.i64.wrap ((k:Int)+1)=k+1:=IntWalk.i64_in _ (by omega)
   have t1:∀ o,(wr.alloc o).cell? (ad3.add s)=some (.int .i64 n):=fun o=>by rw [(show Below wr.heap.size wr (wr.alloc o) by exact bE).cell (cell_lt t0)];exact t0
   by_cases hn0:0≤n
   ·have hy:=hyes hn0
    have hn1:n ≥ 0:=hn0
    have HY:=Lib.hid hy
    clear hyes hno hy
    go_wp2_with (at_builtin;refine wpList_append_sl rfl (.tmp 23) (.tmp 25) 29 rfl w0.heap.size 3 1 8 elIntV (.slice ao zs.length cap) zs.length (zs.map (Value.int .i64)) rfl ((hown.alloc _).alloc _) _ 1 1 [.int .i64 n] rfl (sla_blkV (Blk.new' #[.int .i64 n] 3 (by simp)) rfl) (by intro u hu;rw [List.mem_singleton.1 hu];rfl) (by omega) (by unfold maxLen;omega) (by have:=hbl.size;simp;omega) ?_;intro ao1 cap1 w10 hown9 hg9;have HO9:=Lib.hid hown9;have HB9:=Lib.hid (bgrown (bal (bal hbl _) _) hg9 (fun j hj=>(hown.lt j hj).1));clear hown9 hg9)
    exact k56
   ·have hy:=hno hn0
    have hn1:¬ n ≥ 0:=hn0
    have HY:=Lib.hid hy
    have HO:=Lib.hid hown
    have HB:=Lib.hid hbl
    clear hyes hno hy hown hbl
    go_wp2
    go_roundw
    case rel=>exact ⟨k+1,ao,cap,by omega,by go_num,by rw [HY.out],by rw [HY.out];exact HO.out.alloc _,bal HB.out _⟩
    case measure=>simp [intOf];omega
  ·obtain rfl:k=m.cl.length:=by omega
   have hall:=tgtL_all m s
   generalize tgtL m s m.cl.length=zs at hown hlen hall ⊢
   have HAll:=Lib.hid hall
   have HO:=Lib.hid hown
   have HB:=Lib.hid hbl
   have hcm:=compact_sortV zs
   have HC:=Lib.hid hcm
   have hsl:=sortV_len zs
   clear hall hown hbl hcm
   go_wp2_with fail
   refine (sortOwn_any ao zs.length cap zs _ HO.out (by omega) HB.out.size).mono ?_
   rintro e1 w1 ⟨rfl,hown1,hb1⟩
   have HO1:=Lib.hid hown1
   have HB1:=Lib.hid hb1
   clear hown1 hb1
   go_wp2_with fail
   refine (compactOwn_any ao zs.length cap (zs.mergeSort fun x y=>decide (x≤y)) _ HO1.out (by omega) (by have:=HB.out.size;have:=HB1.out.size;omega) (by rw [HC.out];exact hsl)).mono ?_
   rintro e2 w2 ⟨rfl,hown2,hb2⟩
   have HO2:=Lib.hid hown2
   have HB2:=Lib.hid hb2
   clear hown2 hb2
   go_wp2
   go_ret
   refine ⟨⟨ao,cap,by rw [HC.out,HAll.out];rfl,?_⟩,?_⟩
   ·have h2:=HO2.out
    rw [HC.out] at h2
    rw [HAll.out]
    refine ⟨RowAt.of_own (by rw [flatR_int];exact h2),fun a ha=>?_⟩
    subst ha
    have:=(h2.lt a.block rfl).1
    have:=HZ.out
    omega
   ·exact bthen HB0.out ((HB.out.trans HB1.out).trans HB2.out)
theorem targets_any:
  Calls Tryz.prog 165 #[.agg #[.slice h.co m.cl.length h.cc,.slice h.so m.st.length h.sc,.slice h.eo m.me.length h.ec,.int .i64 m.sel],.int .i64 s] w (RetRow w (tgtV m s)):=
 (targets_new m h s w H hs hn hl).mono fun e w' ⟨⟨ao,cap,h1,h2,_⟩,h3⟩=>⟨⟨ao,cap,h1,h2⟩,h3⟩
end
end
section
open Go.RowKit
theorem operand1_any (t:Int) (B:Nat) (k:Int) (w:World) (hB:w.cell? ⟨B,0,none⟩=some (.int .i64 k)):Calls Tryz.prog 247 #[.int .i64 t,.pointer (some ⟨B,0,none⟩)] w (Ret w (.bool (decide (k≤t)))):=by
 have hl:=cell_lt hB
 go_enter Tryz.func247,Tryz.ntmps247
 go_wp2
 go_ret
 exact ret_ok (bool_eq (by grind)) bE
theorem operand_any (m:Md) (h:Hd) (k:Nat) (i:In3) (w:World) (H:ModAt w h m) (hk:k<m.me.length) (hn:m.cl.length≤10) (hl:∀ j,j<m.cl.length→((m.cl.getD j default).m.length:Int)=m.sel) (ha:(i.op=25∨i.op=26→0≤i.a)) :
  Calls Tryz.prog 217 #[.agg #[.slice h.co m.cl.length h.cc,.slice h.so m.st.length h.sc,.slice h.eo m.me.length h.ec,.int .i64 m.sel],.int .i64 k,.agg #[.int .i64 i.op,.int .i64 i.a,.int .i64 i.b]] w (Ret w (.bool (opdV m k i))):=by
 obtain ⟨op,a,b⟩:=i
 dsimp only at ha ⊢
 have HM:=Lib.hid H
 have HL:=Lib.hid hl
 clear H hl
 by_cases h26:op=26
 ·subst h26
  have ha:=ha (.inr rfl)
  have hq:opdV m k ⟨26,a,b⟩=(decide (a<m.sel)&&(tgtV m a).all fun t=>decide (t<k)):=rfl
  rw [hq]
  by_cases hs:a<m.sel
  ·have hK:Blk (((w.alloc (.cells #[.slice h.co m.cl.length h.cc,.slice h.so m.st.length h.sc,.slice h.eo m.me.length h.ec,.int .i64 m.sel] 145)).alloc (.cells #[.int .i64 k] 3)).alloc (.cells #[.int .i64 26,.int .i64 a,.int .i64 b] 42)) (w.heap.size+1) #[.int .i64 k] 3:=(Blk.new' (w:=w.alloc (.cells #[.slice h.co m.cl.length h.cc,.slice h.so m.st.length h.sc,.slice h.eo m.me.length h.ec,.int .i64 m.sel] 145)) #[.int .i64 k] 3 (by simp)).alloc _
   have HK:=Lib.hid hK
   clear hK
   have htg:=fun w1 (hb:Below w.heap.size w w1)=>targets_any m h a w1 (HM.out.old hb) ⟨ha,hs⟩ hn HL.out
   have HT:=Lib.hid htg
   clear htg hq
   go_enter Tryz.func217,Tryz.ntmps217
   go_wp2_with fail
   refine (HT.out _ bE).mono ?_
   rintro e1 w1 ⟨⟨ao,cap,rfl,hr⟩,hb1⟩
   have hbw:=bthen (show Below w.heap.size w _ by exact bE) hb1
   have hcon:=conInt_any (tgtV m a) ao cap 247 #[.pointer (some ⟨w.heap.size+1,0,none⟩)] (fun t=>!decide (t<(k:Int))) w1 (by have:=tgtV_len m a;omega) hr (fun A W=>by kernel_rfl) (fun j hj w' hb=>by
    have h1:=operand1_any ((tgtV m a).getD j 0) (w.heap.size+1) k w' (((HK.out.old hb1).old hb).cell 0 rfl)
    rw [show decide ((k:Int)≤(tgtV m a).getD j 0)=!decide ((tgtV m a).getD j 0<(k:Int)) by grind] at h1
    exact h1)
   rw [any_all] at hcon
   have HC:=Lib.hid hcon
   clear hcon hr HT HK
   go_wp2_with fail
   refine HC.out.mono ?_
   rintro e2 w2 ⟨rfl,hb2⟩
   go_wp2
   go_ret
   exact ret_ok (bool_eq (by rw [decide_eq_true hs];simp)) (bthen hbw hb2)
  ·go_enter Tryz.func217,Tryz.ntmps217
   exact k88
 ·by_cases h25:op=25
  ·subst h25
   have ha:=ha (.inl rfl)
   have hq:opdV m k ⟨25,a,b⟩=(decide (a<k)&&decide (m.own a<0)):=rfl
   rw [hq]
   clear hq
   by_cases hs:a<k
   ·obtain ⟨c,rfl⟩:∃ c:Nat,a=c:=⟨a.toNat,by omega⟩
    obtain ⟨ad,heo,-,m1,-,-,-,-,-⟩:=HM.out.mth (i:=c) (by omega)
    have hown:m.own c=(m.me.getD c default).c:=rfl
    generalize (m.me.getD c default).c=own at m1 hown
    have m1':∀ o1 o2 o3,(((w.alloc o1).alloc o2).alloc o3).cell? ⟨(ad.add (c*7)).block,(ad.add (c*7)).off+1,none⟩=some (.int .i64 own):=fun o1 o2 o3=>by rw [(show Below w.heap.size w (((w.alloc o1).alloc o2).alloc o3) by exact bE).cell (cell_lt m1)];exact m1
    have HO:=Lib.hid hown
    clear hown
    obtain ⟨co,cc,so,sc,eo,ec,hc,he⟩:=h
    dsimp only at *
    subst heo
    have hcm:(c:Int) < m.me.length:=by omega
    go_enter Tryz.func217,Tryz.ntmps217
    go_wp2
    go_ret
    exact ret_ok (bool_eq (by rw [HO.out])) bE
   ·go_enter Tryz.func217,Tryz.ntmps217
    exact k95
  ·have n26:(op == 26)=false:=by simp [h26]
   have n25:(op == 25)=false:=by simp [h25]
   go_enter Tryz.func217,Tryz.ntmps217
   go_wp2_with (go_at_call 246;refine (isClass_any _ _ _ _).mono ?_;rintro e w1 ⟨rfl,hb1⟩)
   all_goals
    go_ret
    exact ret_ok (bool_eq (by grind [opdV])) bE
end
section
open Go.RowKit
theorem method1_any (m:Md) (h:Hd) (k:Nat) (i:In3) (B K:Nat) (w:World) (hB:ChkAt w B h m) (hK:w.cell? ⟨K,0,none⟩=some (.int .i64 k)) (H:ModAt w h m) (hk:k<m.me.length) (hn:m.cl.length≤10) (hl:∀ j,j<m.cl.length→((m.cl.getD j default).m.length:Int)=m.sel) (ha:(i.op=25∨i.op=26→0≤i.a)) :
  Calls Tryz.prog 216 #[.agg #[.int .i64 i.op,.int .i64 i.a,.int .i64 i.b],.pointer (some ⟨B,0,none⟩),.pointer (some ⟨K,0,none⟩)] w (Ret w (.bool (!opdV m k i))):=by
 obtain ⟨r0,r1,r2,r3⟩:=chk_cells hB
 have rl:=hB.lt
 have kl:=cell_lt hK
 have hop:=operand_any m h k i _ (H.old ((Below.refl w.heap.size w).alloc (Nat.le_refl _) (.cells #[.int .i64 i.op,.int .i64 i.a,.int .i64 i.b] 42))) hk hn hl ha
 have HO:=Lib.hid hop
 clear hop hB H hl ha
 go_enter Tryz.func216,Tryz.ntmps216
 go_wp2_with fail
 refine HO.out.mono ?_
 rintro e w1 ⟨rfl,hb1⟩
 go_wp2
 go_ret
 exact ret_ok rfl bE
theorem insnV_args {i:In3} (h:insnV false i=true):i.op=25∨i.op=26→0≤i.a:=by
 intro ho
 obtain ⟨op,a,b⟩:=i
 simp only [insnV,Bool.and_eq_true] at h
 have h1:=h.1.1.2
 dsimp only at ho h1 ⊢
 rcases ho with rfl|rfl
 ·simp [opA,inR,inI] at h1;exact h1.1
 ·simp [opA,inR,inI] at h1;exact h1.1
theorem codeE_all {p:Bool}{l:List In3} (h:codeE p l=0):l.length≤120∧(∀ i,i<l.length→insnV p (l.getD i default)=true)∧nestV l=true:=by
 unfold codeE at h
 split at h
 ·cases h
 ·split at h
  ·rename_i h1 h2
   split at h
   ·rename_i h3
    refine ⟨by omega,fun i hi=>?_,h3⟩
    rw [List.all_eq_true] at h2
    exact h2 _ (by rw [List.getD_eq_getElem?_getD,List.getElem?_eq_getElem hi];exact List.getElem_mem hi)
   ·cases h
  ·cases h
theorem method_any (m:Md) (h:Hd) (k:Nat) (w:World) (H:ModAt w h m) (hk:k<m.me.length) (hn:m.cl.length≤10) (hl:∀ j,j<m.cl.length→((m.cl.getD j default).m.length:Int)=m.sel) :
  Calls Tryz.prog 168 #[.agg #[.slice h.co m.cl.length h.cc,.slice h.so m.st.length h.sc,.slice h.eo m.me.length h.ec,.int .i64 m.sel],.int .i64 k] w (Ret w (.bool (mthV m k))):=by
 have hX0:ChkAt _ w.heap.size h m:=Blk.new w #[.slice h.co m.cl.length h.cc,.slice h.so m.st.length h.sc,.slice h.eo m.me.length h.ec,.int .i64 m.sel] 145
 have hK0:Blk _ (w.heap.size+1) #[.int .i64 k] 3:=Blk.new' (w:=w.alloc (.cells #[.slice h.co m.cl.length h.cc,.slice h.so m.st.length h.sc,.slice h.eo m.me.length h.ec,.int .i64 m.sel] 145)) #[.int .i64 k] 3 (by simp)
 have hb0:Below w.heap.size w ((w.alloc (.cells #[.slice h.co m.cl.length h.cc,.slice h.so m.st.length h.sc,.slice h.eo m.me.length h.ec,.int .i64 m.sel] 145)).alloc (.cells #[.int .i64 k] 3)):=by exact bE
 obtain ⟨ad,heo,c0,c1,c2,c3,c4,c5,c6⟩:=(H.old hb0).mth hk
 have hmb:=H.bm k hk
 have hpp:=H.p k hk
 have hpl:=H.l k hk
 have hpk:=H.k k hk
 generalize hx:m.me.getD k default=x at c0 c1 c2 c3 c4 c5 c6 hmb hpp hpl hpk
 obtain ⟨nm,c,pl,ll,⟨rk,rc⟩,kl⟩:=x
 generalize hey:h.e k=y at c0 c1 c2 c3 c4 c5 c6 hmb hpp hpl hpk
 obtain ⟨po,pc,lo,lc,ko,kc⟩:=y
 dsimp only at c0 c1 c2 c3 c4 c5 c6 hmb hpp hpl hpk
 have hq:mthV m k=(decide (-1≤c)&&decide (c<m.cl.length)&&decide (pl.length≤4)&&tysV m.cl.length pl&&decide ((ll.length:Int)≤10-pl.length-(if 0≤c then 1 else 0))&&tysV m.cl.length ll&&isTy m.cl.length ⟨rk,rc⟩ 0&&decide (codeE false kl=0)&&kl.all (opdV m k)):=by simp only [mthV,hx]
 have hY0:Blk _ (w.heap.size+1+1) #[.string nm,.int .i64 c,.slice po pl.length pc,.slice lo ll.length lc,.int .i64 rk,.int .i64 rc,.slice ko kl.length kc] 38:=Blk.new' (w:=(w.alloc (.cells #[.slice h.co m.cl.length h.cc,.slice h.so m.st.length h.sc,.slice h.eo m.me.length h.ec,.int .i64 m.sel] 145)).alloc (.cells #[.int .i64 k] 3)) #[.string nm,.int .i64 c,.slice po pl.length pc,.slice lo ll.length lc,.int .i64 rk,.int .i64 rc,.slice ko kl.length kc] 38 (by simp)
 have hX:=(hX0.old (show Below _ _ (((w.alloc (.cells #[.slice h.co m.cl.length h.cc,.slice h.so m.st.length h.sc,.slice h.eo m.me.length h.ec,.int .i64 m.sel] 145)).alloc (.cells #[.int .i64 k] 3)).alloc (.cells #[.string nm,.int .i64 c,.slice po pl.length pc,.slice lo ll.length lc,.int .i64 rk,.int .i64 rc,.slice ko kl.length kc] 38)) by exact bE))
 have hK:=hK0.alloc (.cells #[.string nm,.int .i64 c,.slice po pl.length pc,.slice lo ll.length lc,.int .i64 rk,.int .i64 rc,.slice ko kl.length kc] 38)
 have hb3:Below w.heap.size w (((w.alloc (.cells #[.slice h.co m.cl.length h.cc,.slice h.so m.st.length h.sc,.slice h.eo m.me.length h.ec,.int .i64 m.sel] 145)).alloc (.cells #[.int .i64 k] 3)).alloc (.cells #[.string nm,.int .i64 c,.slice po pl.length pc,.slice lo ll.length lc,.int .i64 rk,.int .i64 rc,.slice ko kl.length kc] 38)):=by exact bE
 have HQ:=Lib.hid hq
 have hA1:=areTypes_any m h pl po pc 4 _ (hpp.old hb3) (by omega)
 have HA1:=Lib.hid hA1
 have HX:=Lib.hid hX
 have HY:=Lib.hid hY0
 have HK:=Lib.hid hK
 have HM:=Lib.hid H
 have HL:=Lib.hid hl
 have HPL:=Lib.hid hpl
 have HPK:=Lib.hid hpk
 have HB3:=Lib.hid hb3
 clear hA1 hX hY0 hK H hl hpl hpk hpp hb3 hq hx hey hX0 hK0
 obtain ⟨co,cc,so,sc,eo,ec,hc,he⟩:=h
 dsimp only at *
 subst heo
 have hk2:(k:Int) < m.me.length:=by omega
 by_cases h1:-1≤c∧c<m.cl.length
 ·obtain ⟨h1,h2⟩:=h1
  have h3:c ≥ -1:=h1
  by_cases hc0:0≤c
  all_goals
   go_enter Tryz.func168,Tryz.ntmps168
   go_wp2_with fail
   refine HA1.out.mono ?_
   rintro e1 w1 ⟨rfl,hb1⟩
   clear c0 c1 c2 c3 c4 c5 c6
   have hB1:=bthen HB3.out hb1
   obtain ⟨r0,r1,r2,r3⟩:=chk_cells (show ChkAt w1 w.heap.size ⟨co,cc,so,sc,some ad,ec,hc,he⟩ m from HX.out.old hb1)
   dsimp only at r0 r1 r2 r3
   have rl:=(HX.out.old hb1).lt
   have x3:w1.cell? ⟨w.heap.size+1+1,3,none⟩=some (.slice lo ll.length lc):=(HY.out.old hb1).cell 3 rfl
   have HB1:=Lib.hid hB1
   have Hb1:=Lib.hid hb1
   clear hb1 hB1
   rcases hq1:decide ((pl.length:Int)≤4)&&tysV m.cl.length pl with _|_
   ·have HQ1:=Lib.hid hq1
    clear hq1
    go_wp2
    go_ret
    exact ret_ok (bool_eq (by have:=HQ1.out;rw [HQ.out];grind)) HB1.out
   have HQ1:=Lib.hid hq1
   have hp4:pl.length≤4:=by simp at hq1;omega
   clear hq1
   go_wp2_with fail
   refine (areTypes_any m ⟨co,cc,so,sc,some ad,ec,hc,he⟩ ll lo lc _ _ (HPL.out.old HB1.out) (by omega)).mono ?_
   rintro e2 w2 ⟨rfl,hb2⟩
   obtain ⟨r0,r1,r2,r3⟩:=chk_cells (show ChkAt w2 w.heap.size ⟨co,cc,so,sc,some ad,ec,hc,he⟩ m from (HX.out.old Hb1.out).old hb2)
   dsimp only at r0 r1 r2 r3
   have rl:=((HX.out.old Hb1.out).old hb2).lt
   have x4:w2.cell? ⟨w.heap.size+1+1,4,none⟩=some (.int .i64 rk):=((HY.out.old Hb1.out).old hb2).cell 4 rfl
   have x5:w2.cell? ⟨w.heap.size+1+1,5,none⟩=some (.int .i64 rc):=((HY.out.old Hb1.out).old hb2).cell 5 rfl
   have HB2:=Lib.hid (bthen HB1.out hb2)
   have Hb2:=Lib.hid (bthen Hb1.out hb2)
   clear hb2 x3
   generalize hq2:(decide ((ll.length:Int)≤_)&&tysV m.cl.length ll)=q2
   rcases q2 with _|_
   ·have HQ2:=Lib.hid hq2
    clear hq2
    go_wp2
    go_ret
    exact ret_ok (bool_eq (by have:=HQ2.out;rw [HQ.out];grind)) HB2.out
   have HQ2:=Lib.hid hq2
   clear hq2
   go_wp2_with fail
   refine (isType_any m ⟨co,cc,so,sc,some ad,ec,hc,he⟩ ⟨rk,rc⟩ 0 _).mono ?_
   rintro e3 w3 ⟨rfl,hb3⟩
   have x6:w3.cell? ⟨w.heap.size+1+1,6,none⟩=some (.slice ko kl.length kc):=((HY.out.old Hb2.out).old hb3).cell 6 rfl
   have HB3':=Lib.hid (bthen HB2.out hb3)
   have Hb3:=Lib.hid (bthen Hb2.out hb3)
   clear hb3 x4 x5 r0 r1 r2 r3 rl
   generalize hq3:isTy m.cl.length ⟨rk,rc⟩ 0=q3
   rcases q3 with _|_
   ·have HQ3:=Lib.hid hq3
    clear hq3
    go_wp2
    go_ret
    exact ret_ok (bool_eq (by rw [HQ.out,HQ3.out];simp)) HB3'.out
   have HQ3:=Lib.hid hq3
   clear hq3
   go_wp2_with fail
   refine (cCheck_any kl ko kc false _ (HPK.out.old HB3'.out)).mono ?_
   rintro e4 w4 ⟨rfl,hb4⟩
   have x6:w4.cell? ⟨w.heap.size+1+1,6,none⟩=some (.slice ko kl.length kc):=((HY.out.old Hb3.out).old hb4).cell 6 rfl
   have HB4:=Lib.hid (bthen HB3'.out hb4)
   have Hb4:=Lib.hid (bthen Hb3.out hb4)
   clear hb4
   by_cases hc4:codeE false kl=0
   ·obtain ⟨hk120,hins,-⟩:=codeE_all hc4
    have hcon:=conIn_any kl ko kc 216 #[.pointer (some ⟨w.heap.size,0,none⟩),.pointer (some ⟨w.heap.size+1,0,none⟩)] (fun i=>!opdV m k i) w4 (by omega) (HPK.out.old HB4.out) (fun A W=>by kernel_rfl)
     (fun j hj w' hb=>method1_any m ⟨co,cc,so,sc,some ad,ec,hc,he⟩ k (kl.getD j default) w.heap.size (w.heap.size+1) w' (ChkAt.old (h:=⟨co,cc,so,sc,some ad,ec,hc,he⟩) (HX.out.old Hb4.out) hb) (((HK.out.old Hb4.out).old hb).cell 0 rfl) (HM.out.old (bthen HB4.out hb)) hk hn HL.out (insnV_args (hins j hj)))
    rw [any_all] at hcon
    have HC:=Lib.hid hcon
    have hc40:(codeE false kl == 0)=true:=by simp [hc4]
    have HE4:=Lib.hid hc4
    clear hcon hins hc4
    go_wp2_with fail
    refine HC.out.mono ?_
    rintro e5 w5 ⟨rfl,hb5⟩
    go_wp2
    go_ret
    refine ret_ok (bool_eq ?_) (bthen HB4.out hb5)
    have h1:=HQ1.out
    have h2:=HQ2.out
    have h3:=HQ3.out
    have h4:=HE4.out
    rw [HQ.out]
    grind
   ·have hc40:(codeE false kl == 0)=false:=by simp [hc4]
    have HE4:=Lib.hid hc4
    clear hc4
    go_wp2
    go_ret
    exact ret_ok (bool_eq (by rw [HQ.out,decide_eq_false HE4.out];simp)) HB4.out
 ·by_cases h2:-1≤c
  ·have h3:¬ c<m.cl.length:=by omega
   have h4:c ≥ -1:=h2
   have h5:c ≥ 0:=by omega
   go_enter Tryz.func168,Tryz.ntmps168
   go_wp2_with fail
   go_ret
   exact ret_ok (bool_eq (by rw [HQ.out,decide_eq_false (show ¬ c<m.cl.length by omega)];simp)) HB3.out
  ·have h3:¬ c ≥ -1:=by omega
   have h5:¬ c ≥ 0:=by omega
   go_enter Tryz.func168,Tryz.ntmps168
   go_wp2_with fail
   go_ret
   exact ret_ok (bool_eq (by rw [HQ.out,decide_eq_false (show ¬ -1≤c by omega)];rfl)) HB3.out
end
section
open Go.RowKit
inductive Ord
 | done
 | plain (i:Nat) (t:Ord)
 | one (i:Nat) (t:Ord)
 | two (i j:Nat) (t u:Ord)
def oL:List Nat→Ord
 | []=>.done
 | n :: r=>if n<100 then .plain n (oL r) else .one (n-100) (oL r)
def Ord.len:Ord→Nat
 | .done=>0
 | .plain _ t=>t.len+1
 | .one _ t=>t.len+1
 | .two _ _ t _=>t.len+1
def Ord.inB (n:Nat):Ord→Bool
 | .done=>true
 | .plain i t=>decide (i<n)&&t.inB n
 | .one i t=>decide (i<n)&&t.inB n
 | .two i j t u=>decide (i<n)&&decide (j<n)&&t.inB n&&u.inB n
section
variable {P:Program}{ops:Array Oper}{md:Region.Mode}{S:World→Prop}{Q:Exit→Act→World→Prop}
def wpMixO (P:Program) (l:List Oper) (Q:Exit→Act→World→Prop) (S:World→Prop):Ord→Act→World→Prop
 | .done,a,w=>Q .normal a w
 | .plain i t,a,w=>∃ v,YieldsIf P l.toArray S (opAt l i) v a∧wpMixO P l Q S t (a.put (opAt l i).dst v) w
 | .one i t,a,w=>wpOp P l.toArray Q i (fun a' w'=>S w'∧wpMixO P l Q S t a' w') a w
 | .two i j t u,a,w=>wpOp P l.toArray Q i (fun a' w'=>S w'∧wpMixO P l Q S t a' w') a w∧wpOp P l.toArray Q j (fun a' w'=>S w'∧wpMixO P l Q S u a' w') a w
def lexO (md:Region.Mode) (ops:Array Oper):Ord→Array Bool→Bool
 | .done,listed=>decide (Region.ready md ops listed=[])
 | .plain k t,listed=>(Region.ready md ops listed).contains k&&Region.free md ops listed k&&lexO md ops t (listed.setIfInBounds k true)
 | .one k t,listed=>decide (Region.ready md ops listed=[k])&&lexO md ops t (listed.setIfInBounds k true)
 | .two i j t u,listed=>decide (Region.ready md ops listed=[i,j])&&decide (t.len=u.len)&&lexO md ops t (listed.setIfInBounds i true)&&lexO md ops u (listed.setIfInBounds j true)
theorem mixM_lexO {l:List Oper} (hQ:∀ c a d v w,Q (.panic c) (Act.put a d v) w→Q (.panic c) a w) (hsel:Region.noSelect l.toArray=true) :
  ∀ (t:Ord) (listed:Array Bool) (a:Act) (w:World),t.inB l.length=true→S w→lexO md l.toArray t listed=true→wpMixO P l Q S t a w→mixM P md l.toArray Q S t.len listed a w
 | .done,listed,a,w,_,_,hB,h=>⟨by simpa [lexO] using hB,h⟩
 | .plain k t,listed,a,w,hi,hS,hB,h=>by
  simp only [lexO,Bool.and_eq_true] at hB
  simp only [Ord.inB,Bool.and_eq_true,decide_eq_true_eq] at hi
  obtain ⟨⟨hr,hf⟩,hB'⟩:=hB
  obtain ⟨v,hy,hK⟩:=h
  have h0:l.toArray[k]?=some (opAt l k):=by simp [opAt,hi.1]
  exact mixM_first h0 (Region.noSelect_spec hsel) hQ t.len listed a w (Region.free_spec h0 hf) (by simpa using hr) hy hS (mixM_lexO hQ hsel t _ _ _ hi.2 hS hB' hK)
 | .one k t,listed,a,w,hi,hS,hB,h=>by
  simp only [lexO,Bool.and_eq_true,decide_eq_true_eq] at hB
  simp only [Ord.inB,Bool.and_eq_true,decide_eq_true_eq] at hi
  refine ⟨by rw [hB.1];simp,fun i hin=>?_⟩
  rw [hB.1] at hin
  obtain rfl:i=k:=by simpa using hin
  exact wpOp_mono (fun a' w' h'=>⟨h'.1,mixM_lexO hQ hsel t _ _ _ hi.2 h'.1 hB.2 h'.2⟩) h
 | .two i j t u,listed,a,w,hi,hS,hB,h=>by
  simp only [lexO,Bool.and_eq_true,decide_eq_true_eq] at hB
  simp only [Ord.inB,Bool.and_eq_true,decide_eq_true_eq] at hi
  refine ⟨by rw [hB.1.1.1];simp,fun k hin=>?_⟩
  rw [hB.1.1.1] at hin
  rcases (show k=i∨k=j by simpa using hin) with rfl|rfl
  ·exact wpOp_mono (fun a' w' h'=>⟨h'.1,mixM_lexO hQ hsel t _ _ _ hi.1.2 h'.1 hB.1.2 h'.2⟩) h.1
  ·have hlen:(Ord.two i k t u).len=u.len+1:=by rw [←hB.1.1.2];rfl
   show wpOp P l.toArray Q k (fun a' w'=>S w'∧mixM P md l.toArray Q S t.len (listed.setIfInBounds k true) a' w') a w
   rw [hB.1.1.2]
   exact wpOp_mono (fun a' w' h'=>⟨h'.1,mixM_lexO hQ hsel u _ _ _ hi.2 h'.1 hB.2 h'.2⟩) h.2
theorem wp_mixO {id:Nat}{a:Act}{w:World}{l:List Oper} (S:World→Prop) (t:Ord) (hm:P.follows .mixedOrders=true)
  (hB:(Region.noSelect l.toArray&&decide (t.len=l.length)&&t.inB l.length&&lexO .any l.toArray t (Array.replicate l.length false))=true) (hQ:∀ c a d v w,Q (.panic c) (Act.put a d v) w→Q (.panic c) a w) (hS:S w.drew)
  (h:wpMixO P l Q S t a w.drew):(Code.region id l.toArray true).wp P Q a w:=by
 simp only [Bool.and_eq_true,decide_eq_true_eq] at hB
 obtain ⟨⟨⟨hsel,hlen⟩,hin⟩,hlex⟩:=hB
 refine wp_region_any hm ?_
 have:=mixM_lexO (P:=P) (Q:=Q) (S:=S) (md:=.any) hQ hsel t _ a w.drew hin hS hlex h
 rw [hlen] at this
 have h2:=mixM_run _ _ _ _ this
 simpa using h2
theorem wpMixO_plain {l:List Oper}{k:Nat}{t:Ord}{a:Act}{w:World} (h:∃ v,YieldsIf P l.toArray S (opAt l k) v a∧wpMixO P l Q S t (a.put (opAt l k).dst v) w):wpMixO P l Q S (.plain k t) a w:=h
theorem wpOp_one {a:Act}{w:World}{k:Nat}{K:Act→World→Prop} (o:Oper) (ho:ops[k]?=some o) (hw:Region.wanted o (yielded ops a.tmps)=true) (h:∀ Kv:Act→World→Prop,(∀ a w,K a w→Kv a w)→o.wp P a w Kv Q):wpOp P ops Q k K a w:=by
 unfold wpOp
 simp only [ho,hw,if_true]
 exact .inl (h _ fun _ _ h1=>h1)
theorem wpMixO_one {l:List Oper}{k:Nat}{t:Ord}{a:Act}{w:World} (h:wpOp P l.toArray Q k (fun a' w'=>S w'∧wpMixO P l Q S t a' w') a w):wpMixO P l Q S (.one k t) a w:=h
theorem wpMixO_two {l:List Oper}{i j:Nat}{t u:Ord}{a:Act}{w:World} (h1:wpOp P l.toArray Q i (fun a' w'=>S w'∧wpMixO P l Q S t a' w') a w) (h2:wpOp P l.toArray Q j (fun a' w'=>S w'∧wpMixO P l Q S u a' w') a w):wpMixO P l Q S (.two i j t u) a w:=⟨h1,h2⟩
theorem wpMixO_done {l:List Oper}{a:Act}{w:World} (h:Q .normal a w):wpMixO P l Q S .done a w:=h
end
section
variable {P:Program}{S:World→Prop}{Q:Exit→Act→World→Prop}
def Cs:List (Addr × Value)→World→Prop
 | [],_=>True
 | (a,v) :: l,w=>w.cell? a=some v∧Cs l w
theorem pO {l:List Oper}{k:Nat}{t:Ord}{a a':Act}{w:World}{o:Oper}{v:Value} (h:wpMixO P l Q S t a' w) (ho:opAt l k=o:=by (simp only [opAt,List.getD_cons_zero,List.getD_cons_succ];rfl)) (hy:YieldsIf P l.toArray S o v a:=by first|(refine Or.inl ⟨by rfl,?_⟩;intro w hSw;(try dsimp only [Cs] at hSw);go_simp;(try with_reducible rfl);done)|exact Or.inr ⟨by rfl,rfl⟩) (ha:a.put o.dst v=a':=by ((try simp only [Act.put,List.setIfInBounds_toArray,List.set_cons_zero,List.set_cons_succ]);rfl)):wpMixO P l Q S (.plain k t) a w:=by
 subst ho ha
 exact ⟨v,hy,h⟩
theorem oO {l:List Oper}{k:Nat}{t:Ord}{a:Act}{w:World}{o:Oper} (h:∀ Kv:Act→World→Prop,(∀ a w,S w∧wpMixO P l Q S t a w→Kv a w)→o.wp P a w Kv Q) (ho:l.toArray[k]?=some o:=by rfl) (hw:Region.wanted o (yielded l.toArray a.tmps)=true:=by rfl):wpMixO P l Q S (.one k t) a w:=wpMixO_one (wpOp_one o ho hw h)
theorem rO {id:Nat}{a:Act}{w:World}{l:List Oper} (S:World→Prop) (t:Ord) (hS:S w.drew) (h:wpMixO P l Q S t a w.drew) (hm:P.follows .mixedOrders=true:=by kernel_rfl)
  (hB:(Region.noSelect l.toArray&&decide (t.len=l.length)&&t.inB l.length&&lexO .any l.toArray t (Array.replicate l.length false))=true:=by kernel_rfl) (hQ:∀ c a d v w,Q (.panic c) (Act.put a d v) w→Q (.panic c) a w:=by intro c a d v w h;cases d<;>exact h):(Code.region id l.toArray true).wp P Q a w:=wp_mixO S t hm hB hQ hS h
end
end
section
open Go.RowKit
attribute [local go_sem] World.cell?_alloc_some
theorem bcell2 {w w':World}{a:Addr}{v:Value} (hb:Below w.heap.size w w') (h:w.cell? a=some v):w'.cell? a=some v:=by rw [hb.cell (cell_lt h)];exact h
theorem alike1_any (m:Md) (h:Hd) (B L:Nat) (l:List Int) (ao:Option Addr) (cap t u:Nat) (w:World) (hB:ChkAt w B h m) (hL:w.cell? ⟨L,0,none⟩=some (.slice ao l.length cap)) (hr:RowAt w ao cap l) (H:ModAt w h m) (ht:t<m.me.length) (hu:u<m.me.length) (hl:0<l.length) (h0:l.getD 0 0=u) (hpl:(m.me.getD t default).p.length≤1000000) :
  Calls Tryz.prog 218 #[.int .i64 t,.pointer (some ⟨B,0,none⟩),.pointer (some ⟨L,0,none⟩)] w (Ret w (.bool (!(decide ((m.me.getD t default).r=(m.me.getD u default).r)&&decide ((m.me.getD t default).p=(m.me.getD u default).p))))):=by
 obtain ⟨r0,r1,r2,r3⟩:=chk_cells hB
 have rl:=hB.lt
 have ll:=cell_lt hL
 obtain ⟨ad,rfl,e0⟩:=row_int hr (i:=0) hl
 rw [h0,show ad.add 0=ad from by unfold Addr.add;simp] at e0
 obtain ⟨am,heo,c0,c1,c2,c3,c4,c5,c6⟩:=H.mth ht
 obtain ⟨am',heo',d0,d1,d2,d3,d4,d5,d6⟩:=H.mth hu
 have hpt:=H.p t ht
 have hpu:=H.p u hu
 generalize hxt:m.me.getD t default=x at *
 generalize hxu:m.me.getD u default=y at *
 obtain ⟨nx,cx,px,lx,⟨kx,rx⟩,kx'⟩:=x
 obtain ⟨ny,cy,py,ly,⟨ky,ry⟩,ky'⟩:=y
 generalize h.e t=et at *
 generalize h.e u=eu at *
 obtain ⟨po,pc,lo,lc,ko,kc⟩:=et
 obtain ⟨po',pc',lo',lc',ko',kc'⟩:=eu
 have HPT:=Lib.hid hpt
 have HPU:=Lib.hid hpu
 clear hpt hpu hxt hxu H hB hr
 obtain ⟨co,cc,so,sc,eo,ec,hc,he⟩:=h
 dsimp only at *
 subst heo
 obtain rfl:=Option.some.inj heo'
 clear heo' h0
 have hti:(t:Int) < m.me.length:=by omega
 have hui:(u:Int) < m.me.length:=by omega
 clear r0 r1 r3
 go_enter Tryz.func218,Tryz.ntmps218
 go_upto_region 1 with fail
 go_cut [5,6] from 7 to 20 (fun x y wc=>∃ (X Y:Nat),x=.pointer (some ⟨X,0,none⟩)∧y=.pointer (some ⟨Y,0,none⟩)∧Blk wc X #[.string nx,.int .i64 cx,.slice po px.length pc,.slice lo lx.length lc,.int .i64 kx,.int .i64 rx,.slice ko kx'.length kc] 38∧Blk wc Y #[.string ny,.int .i64 cy,.slice po' py.length pc',.slice lo' ly.length lc',.int .i64 ky,.int .i64 ry,.slice ko' ky'.length kc'] 38∧Below w.heap.size w wc)
 case first=>
  have hS:∀ w',Below w.heap.size w w'→(fun w':World=>w'.cell? ⟨B,2,none⟩=some (.slice (some am) m.me.length ec)∧w'.cell? ⟨L,0,none⟩=some (.slice (some ad) l.length cap)∧w'.cell? ad=some (.int .i64 u)∧w'.cell? (am.add (t*7))=some (.string nx)∧w'.cell? ⟨(am.add (t*7)).block,(am.add (t*7)).off+1,none⟩=some (.int .i64 cx)∧w'.cell? ⟨(am.add (t*7)).block,(am.add (t*7)).off+2,none⟩=some (.slice po px.length pc)∧w'.cell? ⟨(am.add (t*7)).block,(am.add (t*7)).off+3,none⟩=some (.slice lo lx.length lc)∧w'.cell? ⟨(am.add (t*7)).block,(am.add (t*7)).off+4,none⟩=some (.int .i64 kx)∧w'.cell? ⟨(am.add (t*7)).block,(am.add (t*7)).off+5,none⟩=some (.int .i64 rx)∧w'.cell? ⟨(am.add (t*7)).block,(am.add (t*7)).off+6,none⟩=some (.slice ko kx'.length kc)∧w'.cell? (am.add (u*7))=some (.string ny)∧w'.cell? ⟨(am.add (u*7)).block,(am.add (u*7)).off+1,none⟩=some (.int .i64 cy)∧w'.cell? ⟨(am.add (u*7)).block,(am.add (u*7)).off+2,none⟩=some (.slice po' py.length pc')∧w'.cell? ⟨(am.add (u*7)).block,(am.add (u*7)).off+3,none⟩=some (.slice lo' ly.length lc')∧w'.cell? ⟨(am.add (u*7)).block,(am.add (u*7)).off+4,none⟩=some (.int .i64 ky)∧w'.cell? ⟨(am.add (u*7)).block,(am.add (u*7)).off+5,none⟩=some (.int .i64 ry)∧w'.cell? ⟨(am.add (u*7)).block,(am.add (u*7)).off+6,none⟩=some (.slice ko' ky'.length kc')) w':=fun w' hb=>⟨bcell2 hb r2,bcell2 hb hL,bcell2 hb e0,bcell2 hb c0,bcell2 hb c1,bcell2 hb c2,bcell2 hb c3,bcell2 hb c4,bcell2 hb c5,bcell2 hb c6,bcell2 hb d0,bcell2 hb d1,bcell2 hb d2,bcell2 hb d3,bcell2 hb d4,bcell2 hb d5,bcell2 hb d6⟩
  have HS:=Lib.hid hS
  clear hS
  refine rO (fun w':World=>w'.cell? ⟨B,2,none⟩=some (.slice (some am) m.me.length ec)∧w'.cell? ⟨L,0,none⟩=some (.slice (some ad) l.length cap)∧w'.cell? ad=some (.int .i64 u)∧w'.cell? (am.add (t*7))=some (.string nx)∧w'.cell? ⟨(am.add (t*7)).block,(am.add (t*7)).off+1,none⟩=some (.int .i64 cx)∧w'.cell? ⟨(am.add (t*7)).block,(am.add (t*7)).off+2,none⟩=some (.slice po px.length pc)∧w'.cell? ⟨(am.add (t*7)).block,(am.add (t*7)).off+3,none⟩=some (.slice lo lx.length lc)∧w'.cell? ⟨(am.add (t*7)).block,(am.add (t*7)).off+4,none⟩=some (.int .i64 kx)∧w'.cell? ⟨(am.add (t*7)).block,(am.add (t*7)).off+5,none⟩=some (.int .i64 rx)∧w'.cell? ⟨(am.add (t*7)).block,(am.add (t*7)).off+6,none⟩=some (.slice ko kx'.length kc)∧w'.cell? (am.add (u*7))=some (.string ny)∧w'.cell? ⟨(am.add (u*7)).block,(am.add (u*7)).off+1,none⟩=some (.int .i64 cy)∧w'.cell? ⟨(am.add (u*7)).block,(am.add (u*7)).off+2,none⟩=some (.slice po' py.length pc')∧w'.cell? ⟨(am.add (u*7)).block,(am.add (u*7)).off+3,none⟩=some (.slice lo' ly.length lc')∧w'.cell? ⟨(am.add (u*7)).block,(am.add (u*7)).off+4,none⟩=some (.int .i64 ky)∧w'.cell? ⟨(am.add (u*7)).block,(am.add (u*7)).off+5,none⟩=some (.int .i64 ry)∧w'.cell? ⟨(am.add (u*7)).block,(am.add (u*7)).off+6,none⟩=some (.slice ko' ky'.length kc')) (.plain 0 (.plain 1 (.plain 2 (.plain 3 (.plain 4 (.plain 5 (.plain 6 (.plain 7 (.plain 8 (.plain 9 (.plain 10 (.plain 11 (.plain 12 (.plain 13 (.two 14 15 (oL [115,116,117]) (oL [114,116,117])))))))))))))))) (HS.out w.drew (Below.refl _ _).drew) ?_
  clear r2 hL e0 c0 c1 c2 c3 c4 c5 c6 d0 d1 d2 d3 d4 d5 d6
  repeat refine pO ?_
  refine wpMixO_two ?_ ?_
  all_goals
   refine wpOp_one _ (by rfl) (by rfl) fun K hK=>?_
   go_simp
   refine hK _ _ ⟨HS.out _ bE,?_⟩
   clear hK K
   refine oO fun K hK=>?_
   go_simp
   refine hK _ _ ⟨HS.out _ bE,?_⟩
   clear hK K
   refine oO fun K hK=>?_
   go_simp
   refine hK _ _ ⟨HS.out _ bE,?_⟩
   clear hK K
   refine oO fun K hK=>?_
   go_simp
   refine hK _ _ ⟨HS.out _ bE,?_⟩
   clear hK K
   refine wpMixO_done ?_
   go_wp2_with fail
   go_meet
   refine ⟨_,_,rfl,rfl,?_,?_,?_⟩
   ·repeat (first|(refine Blk.new' _ _ ?_;simp;done)|refine Blk.drew ?_|refine Blk.alloc ?_ _)
   ·repeat (first|(refine Blk.new' _ _ ?_;simp;done)|refine Blk.drew ?_|refine Blk.alloc ?_ _)
   ·exact bE
 case rest=>
  obtain ⟨X,Y,rfl,rfl,hX,hY,hb⟩:=hcut
  have x2:wc.cell? ⟨X,2,none⟩=some (.slice po px.length pc):=hX.cell 2 rfl
  have x4:wc.cell? ⟨X,4,none⟩=some (.int .i64 kx):=hX.cell 4 rfl
  have x5:wc.cell? ⟨X,5,none⟩=some (.int .i64 rx):=hX.cell 5 rfl
  have y2:wc.cell? ⟨Y,2,none⟩=some (.slice po' py.length pc'):=hY.cell 2 rfl
  have y4:wc.cell? ⟨Y,4,none⟩=some (.int .i64 ky):=hY.cell 4 rfl
  have y5:wc.cell? ⟨Y,5,none⟩=some (.int .i64 ry):=hY.cell 5 rfl
  have xl:=hX.lt
  have yl:=hY.lt
  have hne:=neqTy
  have hgu:=guardTy
  have HE:=Lib.hid (eqTy_any px py po po' pc pc' wc (HPT.out.old hb) (HPU.out.old hb) hpl)
  have HBc:=Lib.hid hb
  clear hX hY hb c0 c1 c2 c3 c4 c5 c6 d0 d1 d2 d3 d4 d5 d6 hL e0 r2
  go_wp2_with (go_at_call 215;refine HE.out.mono ?_;rintro e w1 ⟨rfl,hb1⟩)
  all_goals
   go_ret
   refine ret_ok (bool_eq ?_) (by first|exact HBc.out|exact bthen HBc.out (by assumption))
   simp only [Ty.mk.injEq]
   grind
end
section
open Go.RowKit
theorem alike_any (m:Md) (h:Hd) (s:Nat) (w:World) (H:ModAt w h m) (hs:(s:Int) < m.sel) (hn:m.cl.length≤10) (hl:∀ j,j<m.cl.length→((m.cl.getD j default).m.length:Int)=m.sel) (ht:∀ t∈tgtV m s,0≤t∧t<m.me.length) (hp:∀ k,k<m.me.length→(m.me.getD k default).p.length≤4) :
  Calls Tryz.prog 169 #[.agg #[.slice h.co m.cl.length h.cc,.slice h.so m.st.length h.sc,.slice h.eo m.me.length h.ec,.int .i64 m.sel],.int .i64 s] w (Ret w (.bool (alikeV m s))):=by
 have hX:ChkAt _ w.heap.size h m:=Blk.new w #[.slice h.co m.cl.length h.cc,.slice h.so m.st.length h.sc,.slice h.eo m.me.length h.ec,.int .i64 m.sel] 145
 have hb0:Below w.heap.size w (w.alloc (.cells #[.slice h.co m.cl.length h.cc,.slice h.so m.st.length h.sc,.slice h.eo m.me.length h.ec,.int .i64 m.sel] 145)):=by exact bE
 have htg:=targets_any m h s _ (H.old hb0) ⟨by omega,hs⟩ hn hl
 have hlen:=tgtV_len m s
 have hq:alikeV m s=(tgtV m s).all fun t=>decide ((m.me.getD t.toNat default).r=(m.me.getD ((tgtV m s).getD 0 0).toNat default).r)&&decide ((m.me.getD t.toNat default).p=(m.me.getD ((tgtV m s).getD 0 0).toNat default).p):=rfl
 generalize tgtV m s=l at htg hlen hq ht
 rw [hq]
 have HT:=Lib.hid htg
 have HX:=Lib.hid hX
 have HM:=Lib.hid (H.old hb0)
 have HB0:=Lib.hid hb0
 have HE:=Lib.hid ht
 have HP:=Lib.hid hp
 clear htg hX H hb0 ht hp hq hl
 go_enter Tryz.func169,Tryz.ntmps169
 go_wp2_with fail
 refine HT.out.mono ?_
 rintro e1 w1 ⟨⟨ao,cap,rfl,hr⟩,hb1⟩
 have hb2:Below _ _ (w1.alloc (.cells #[.slice ao l.length cap] 29)):=bal hb1 _
 have hL:Blk (w1.alloc (.cells #[.slice ao l.length cap] 29)) w1.heap.size #[.slice ao l.length cap] 29:=Blk.new w1 _ _
 have hr2:=hr.old (show Below w1.heap.size w1 (w1.alloc (.cells #[.slice ao l.length cap] 29)) by exact bE)
 have hcon:=conInt_any l ao cap 218 #[.pointer (some ⟨w.heap.size,0,none⟩),.pointer (some ⟨w1.heap.size,0,none⟩)] (fun t=>!(decide ((m.me.getD t.toNat default).r=(m.me.getD (l.getD 0 0).toNat default).r)&&decide ((m.me.getD t.toNat default).p=(m.me.getD (l.getD 0 0).toNat default).p))) (w1.alloc (.cells #[.slice ao l.length cap] 29)) (by omega) hr2 (fun A W=>by kernel_rfl) (fun j hj w' hb=>by
  have h1:=HE.out (l.getD j 0) (by rw [List.getD_eq_getElem?_getD,List.getElem?_eq_getElem hj];exact List.getElem_mem hj)
  have h2:=HE.out (l.getD 0 0) (by rw [List.getD_eq_getElem?_getD,List.getElem?_eq_getElem (by omega)];exact List.getElem_mem _)
  generalize hu:l.getD 0 0=u at h2
  generalize l.getD j 0=t at h1
  obtain ⟨t,rfl⟩:∃ x:Nat,t=x:=⟨t.toNat,by omega⟩
  obtain ⟨u,rfl⟩:∃ x:Nat,u=x:=⟨u.toNat,by omega⟩
  exact alike1_any m h w.heap.size w1.heap.size l ao cap t u w' ((HX.out.old hb2).old hb) ((hL.old hb).cell 0 rfl) (hr2.old hb) ((HM.out.old hb2).old hb) (by omega) (by omega) (by omega) hu (by have:=HP.out t (by omega);omega))
 rw [any_all] at hcon
 have HC:=Lib.hid hcon
 have HR:=Lib.hid hr
 have HB2:=Lib.hid hb2
 clear hcon hr hb2 hr2 hL HX HM HT
 go_wp2_with fail
 refine HC.out.mono ?_
 rintro e2 w2 ⟨rfl,hb3⟩
 go_wp2
 go_ret
 exact ret_ok (bool_eq (by simp)) (bthen (bthen HB0.out HB2.out) hb3)
end
section
open Go.RowKit
theorem clsV_len {m:Md}{k:Nat} (h:clsV m k=true):((m.cl.getD k default).m.length:Int)=m.sel:=by
 simp only [clsV,Bool.and_eq_true,decide_eq_true_eq] at h
 exact h.1.1.2
theorem clsV_ent {m:Md}{k s:Nat} (h:clsV m k=true) (hs:s<(m.cl.getD k default).m.length):-1≤m.ent k s∧m.ent k s<m.me.length:=by
 simp only [clsV,Bool.and_eq_true,decide_eq_true_eq] at h
 have h2:=all_range_iff.1 h.1.2 s hs
 simp only [selV,Bool.and_eq_true,decide_eq_true_eq] at h2
 exact ⟨h2.1.1.1,h2.1.1.2⟩
theorem mthV_p {m:Md}{k:Nat} (h:mthV m k=true):(m.me.getD k default).p.length≤4:=by
 simp only [mthV,Bool.and_eq_true,decide_eq_true_eq] at h
 exact h.1.1.1.1.1.1.2
theorem tgt_in {m:Md} (h:∀ k,k<m.cl.length→clsV m k=true) {s:Nat} (hs:(s:Int) < m.sel):∀ t∈tgtV m s,0≤t∧t<m.me.length:=by
 intro t ht
 unfold tgtV at ht
 rw [sortV_mem,Int.toNat_natCast,List.mem_filter,List.mem_map] at ht
 obtain ⟨⟨c,hc,rfl⟩,h0⟩:=ht
 obtain ⟨k,hk,hck⟩:=List.getElem_of_mem hc
 have hcd:m.cl.getD k default=c:=by rw [List.getD_eq_getElem?_getD,List.getElem?_eq_getElem hk];exact hck
 have h1:=clsV_len (h k hk)
 have h2:=clsV_ent (h k hk) (s:=s) (by omega)
 have h3:m.ent k s=c.m.getD s 0:=by unfold Md.ent;rw [Int.toNat_natCast,hcd]
 rw [h3] at h2
 exact ⟨by simpa using h0,h2.2⟩
theorem valid_any (m:Md) (h:Hd) (w:World) (H:ModAt w h m):Calls Tryz.prog 125 #[.agg #[.slice h.co m.cl.length h.cc,.slice h.so m.st.length h.sc,.slice h.eo m.me.length h.ec,.int .i64 m.sel]] w (Ret w (.bool (modV m))):=by
 have hb0:Below w.heap.size w ((w.alloc (.cells #[.slice h.co m.cl.length h.cc,.slice h.so m.st.length h.sc,.slice h.eo m.me.length h.ec,.int .i64 m.sel] 145)).alloc (.cells #[.slice h.co m.cl.length h.cc,.slice h.so m.st.length h.sc,.slice h.eo m.me.length h.ec,.int .i64 m.sel] 26)):=by exact bE
 have hX0:ChkAt (w.alloc (.cells #[.slice h.co m.cl.length h.cc,.slice h.so m.st.length h.sc,.slice h.eo m.me.length h.ec,.int .i64 m.sel] 145)) w.heap.size h m:=Blk.new w #[.slice h.co m.cl.length h.cc,.slice h.so m.st.length h.sc,.slice h.eo m.me.length h.ec,.int .i64 m.sel] 145
 have hX:ChkAt ((w.alloc (.cells #[.slice h.co m.cl.length h.cc,.slice h.so m.st.length h.sc,.slice h.eo m.me.length h.ec,.int .i64 m.sel] 145)).alloc (.cells #[.slice h.co m.cl.length h.cc,.slice h.so m.st.length h.sc,.slice h.eo m.me.length h.ec,.int .i64 m.sel] 26)) w.heap.size h m:=Blk.alloc hX0 _
 have hY:Blk ((w.alloc (.cells #[.slice h.co m.cl.length h.cc,.slice h.so m.st.length h.sc,.slice h.eo m.me.length h.ec,.int .i64 m.sel] 145)).alloc (.cells #[.slice h.co m.cl.length h.cc,.slice h.so m.st.length h.sc,.slice h.eo m.me.length h.ec,.int .i64 m.sel] 26)) (w.heap.size+1) #[.slice h.co m.cl.length h.cc,.slice h.so m.st.length h.sc,.slice h.eo m.me.length h.ec,.int .i64 m.sel] 26:=Blk.new' (w:=w.alloc (.cells #[.slice h.co m.cl.length h.cc,.slice h.so m.st.length h.sc,.slice h.eo m.me.length h.ec,.int .i64 m.sel] 145)) #[.slice h.co m.cl.length h.cc,.slice h.so m.st.length h.sc,.slice h.eo m.me.length h.ec,.int .i64 m.sel] 26 (by simp)
 have hare:=areTypes_any m h m.st h.so h.sc 10 _ (H.st.old hb0) (by omega)
 have hq:modV m=(sizesV m&&ownsV m&&(List.range m.cl.length).all (clsV m)&&(List.range m.me.length).all (mthV m)&&(List.range m.sel.toNat).all (alikeV m)):=rfl
 have hsz:sizesV m=(decide (m.cl.length≤10)&&decide (m.me.length≤16)&&decide (0≤m.sel)&&decide (m.sel≤16)&&decide (m.st.length≤10)&&tysV m.cl.length m.st):=rfl
 have HQ:=Lib.hid hq
 have HSz:=Lib.hid hsz
 have HX:=Lib.hid hX
 have HY:=Lib.hid hY
 have HM:=Lib.hid H
 have HA:=Lib.hid hare
 have HB0:=Lib.hid hb0
 have hbz:=H.bz
 clear hq hsz hX0 hX hY H hare hb0
 by_cases h1:m.cl.length≤10
 ·by_cases h2:m.me.length≤16
  ·by_cases h3:0≤m.sel
   ·by_cases h4:m.sel≤16
    ·have i1:¬ (m.cl.length:Int) > 10:=by omega
     have i2:¬ (m.me.length:Int) > 16:=by omega
     have i3:¬ m.sel<0:=by omega
     have i4:¬ m.sel > 16:=by omega
     go_enter Tryz.func125,Tryz.ntmps125
     go_wp2_with fail
     refine HA.out.mono ?_
     rintro e1 w1 ⟨rfl,hb1⟩
     have hX1:ChkAt w1 w.heap.size h m:=HX.out.old hb1
     have hY1:=HY.out.old hb1
     have hB1:=bthen HB0.out hb1
     have HX1:=Lib.hid hX1
     have HY1:=Lib.hid hY1
     have HB1:=Lib.hid hB1
     clear hX1 hY1 hB1 hb1 HA HX HY HB0
     rcases hq5:decide ((m.st.length:Int)≤10)&&tysV m.cl.length m.st with _|_
     ·have H5:=Lib.hid hq5
      clear hq5
      go_wp2
      go_ret
      exact ret_ok (bool_eq (by have h8:=H5.out;rw [HQ.out,HSz.out];grind)) HB1.out
     have hok:sizesV m=true:=by rw [HSz.out];simp [h1,h2,h3,h4];simp at hq5;exact ⟨by omega,hq5.2⟩
     have HOk:=Lib.hid hok
     clear hq5 hok
     have y2:w1.cell? ⟨w.heap.size+1,2,none⟩=some (.slice h.eo m.me.length h.ec):=HY1.out.cell 2 rfl
     have yl:=HY1.out.lt
     go_wp2_with fail
     clear y2 yl
     go_loopw [41] (fun i wr=>∃ k:Nat,k≤m.me.length∧i=.int .i64 k∧Below w1.heap.size w1 wr∧Hid (∀ i,i<k→(decide (-1≤m.own i)&&decide (m.own i<m.cl.length))=true)) (fun i _=>m.me.length-(intOf i).toNat)
     case atStart=>exact ⟨0,by omega,rfl,Below.refl _ _,Lib.hid (by omega)⟩
     case round=>
      obtain ⟨k,hk,rfl,hbl,q1⟩:=hrel
      have hX2:ChkAt wr w.heap.size h m:=HX1.out.old hbl
      have hY2:=HY1.out.old hbl
      obtain ⟨r0,r1,r2,r3⟩:=chk_cells hX2
      have rl:=hX2.lt
      have y0:wr.cell? ⟨w.heap.size+1,0,none⟩=some (.slice h.co m.cl.length h.cc):=hY2.cell 0 rfl
      have y2:wr.cell? ⟨w.heap.size+1,2,none⟩=some (.slice h.eo m.me.length h.ec):=hY2.cell 2 rfl
      have y3:wr.cell? ⟨w.heap.size+1,3,none⟩=some (.int .i64 m.sel):=hY2.cell 3 rfl
      have yl:=hY2.lt
      have HBW:=Lib.hid (bthen HB1.out hbl)
      have HBL:=Lib.hid hbl
      clear hX2 hY2 hbl
      by_cases hkl:k<m.me.length
      ·have hwr:IntKind.i64.wrap ((k:Int)+1)=k+1:=IntWalk.i64_in _ (by omega)
       have hkl2:(k:Int) < m.me.length:=by omega
       obtain ⟨ad,heo,-,c1,-,-,-,-,-⟩:=(HM.out.old HBW.out).mth hkl
       have hown:m.own k=(m.me.getD k default).c:=rfl
       generalize (m.me.getD k default).c=own at c1 hown
       have HOwn:=Lib.hid hown
       have HEo:=Lib.hid heo
       clear hown
       rw [heo] at y2
       clear heo
       by_cases hx:-1≤own∧own<m.cl.length
       ·obtain ⟨hx1,hx2⟩:=hx
        have hx3:¬ own < -1:=by omega
        have hx4:¬ own ≥ m.cl.length:=by omega
        have hok:(decide (-1≤m.own k)&&decide (m.own k<m.cl.length))=true:=by rw [HOwn.out];simp [hx1,hx2]
        have hrel2:∀ i,i<k+1→(decide (-1≤m.own i)&&decide (m.own i<m.cl.length))=true:=fun i hi=>by
         exact k61
        have HR:=Lib.hid hrel2
        clear hrel2 hok
        go_wp2
        go_roundw
        case rel=>exact ⟨k+1,by omega,by go_num,HBL.out,Lib.hid HR.out⟩
        case measure=>simp [intOf];omega
       ·have hno:ownsV m=false:=all_range_no hkl (by rw [HOwn.out];simp;omega)
        have HNo:=Lib.hid hno
        clear hno
        by_cases hx1:own < -1
        ·go_wp2
         go_ret
         exact ret_ok (bool_eq (by rw [HQ.out,HNo.out];simp)) HBW.out
        ·have hx2:own ≥ m.cl.length:=by omega
         go_wp2
         go_ret
         exact ret_ok (bool_eq (by rw [HQ.out,HNo.out];simp)) HBW.out
      ·obtain rfl:k=m.me.length:=by omega
       have hall:=q1.out
       have HAll41:=Lib.hid hall
       clear hall q1
       go_wp2_with fail
       go_loopw [63] (fun i wr=>∃ k:Nat,k≤m.cl.length∧i=.int .i64 k∧Below w1.heap.size w1 wr∧Hid (∀ i,i<k→clsV m i=true)) (fun i _=>m.cl.length-(intOf i).toNat)
       case atStart=>exact ⟨0,by omega,rfl,HBL.out,Lib.hid (by omega)⟩
       case round=>
        obtain ⟨k,hk,rfl,hbl,q1⟩:=hrel
        clear r0 r1 r2 r3 rl y0 y2 y3 yl HBL HBW
        have hX2:ChkAt wr w.heap.size h m:=HX1.out.old hbl
        have hY2:=HY1.out.old hbl
        obtain ⟨r0,r1,r2,r3⟩:=chk_cells hX2
        have rl:=hX2.lt
        have y0:wr.cell? ⟨w.heap.size+1,0,none⟩=some (.slice h.co m.cl.length h.cc):=hY2.cell 0 rfl
        have y2:wr.cell? ⟨w.heap.size+1,2,none⟩=some (.slice h.eo m.me.length h.ec):=hY2.cell 2 rfl
        have y3:wr.cell? ⟨w.heap.size+1,3,none⟩=some (.int .i64 m.sel):=hY2.cell 3 rfl
        have yl:=hY2.lt
        have HBW:=Lib.hid (bthen HB1.out hbl)
        have HBL:=Lib.hid hbl
        clear hX2 hY2 hbl
        by_cases hkl:k<m.cl.length
        ·have hwr:IntKind.i64.wrap ((k:Int)+1)=k+1:=IntWalk.i64_in _ (by omega)
         have hkl2:(k:Int) < m.cl.length:=by omega
         have hcall:=class_any m h k _ (HM.out.old HBW.out) hkl ⟨h1,h2,h3,h4⟩ (desc_of q1.out) (fun j hj=>clsV_len (q1.out j hj))
         generalize hqc:clsV m k=q at hcall
         have HC:=Lib.hid hcall
         have HQc:=Lib.hid hqc
         clear hcall hqc
         go_wp2_with fail
         refine HC.out.mono ?_
         rintro e2 w2 ⟨rfl,hb2⟩
         have HBW2:=Lib.hid (bthen HBW.out hb2)
         have HBL2:=Lib.hid (bthen HBL.out hb2)
         clear hb2
         rcases q with _|_
         ·exact k69
         ·have hok:clsV m k=true:=HQc.out
          have hrel2:∀ i,i<k+1→clsV m i=true:=fun i hi=>by
           exact k61
          exact k43
        ·obtain rfl:k=m.cl.length:=by omega
         have hall:=q1.out
         have HAll63:=Lib.hid hall
         clear hall q1
         go_wp2_with fail
         go_loopw [74] (fun i wr=>∃ k:Nat,k≤m.me.length∧i=.int .i64 k∧Below w1.heap.size w1 wr∧Hid (∀ i,i<k→mthV m i=true)) (fun i _=>m.me.length-(intOf i).toNat)
         case atStart=>exact ⟨0,by omega,rfl,HBL.out,Lib.hid (by omega)⟩
         case round=>
          obtain ⟨k,hk,rfl,hbl,q1⟩:=hrel
          clear r0 r1 r2 r3 rl y0 y2 y3 yl HBL HBW
          have hX2:ChkAt wr w.heap.size h m:=HX1.out.old hbl
          have hY2:=HY1.out.old hbl
          obtain ⟨r0,r1,r2,r3⟩:=chk_cells hX2
          have rl:=hX2.lt
          have y0:wr.cell? ⟨w.heap.size+1,0,none⟩=some (.slice h.co m.cl.length h.cc):=hY2.cell 0 rfl
          have y2:wr.cell? ⟨w.heap.size+1,2,none⟩=some (.slice h.eo m.me.length h.ec):=hY2.cell 2 rfl
          have y3:wr.cell? ⟨w.heap.size+1,3,none⟩=some (.int .i64 m.sel):=hY2.cell 3 rfl
          have yl:=hY2.lt
          have HBW:=Lib.hid (bthen HB1.out hbl)
          have HBL:=Lib.hid hbl
          clear hX2 hY2 hbl
          by_cases hkl:k<m.me.length
          ·have hwr:IntKind.i64.wrap ((k:Int)+1)=k+1:=IntWalk.i64_in _ (by omega)
           have hkl2:(k:Int) < m.me.length:=by omega
           have hcall:=method_any m h k _ (HM.out.old HBW.out) hkl h1 (fun j hj=>clsV_len (HAll63.out j hj))
           generalize hqc:mthV m k=q at hcall
           have HC:=Lib.hid hcall
           have HQc:=Lib.hid hqc
           clear hcall hqc
           go_wp2_with fail
           refine HC.out.mono ?_
           rintro e2 w2 ⟨rfl,hb2⟩
           have HBW2:=Lib.hid (bthen HBW.out hb2)
           have HBL2:=Lib.hid (bthen HBL.out hb2)
           clear hb2
           rcases q with _|_
           ·exact k69
           ·have hok:mthV m k=true:=HQc.out
            have hrel2:∀ i,i<k+1→mthV m i=true:=fun i hi=>by
             exact k61
            exact k43
          ·obtain rfl:k=m.me.length:=by omega
           have hall:=q1.out
           have HAll74:=Lib.hid hall
           clear hall q1
           go_wp2_with fail
           go_loopw [84] (fun i wr=>∃ k:Nat,k≤m.sel.toNat∧i=.int .i64 k∧Below w1.heap.size w1 wr∧Hid (∀ i,i<k→alikeV m i=true)) (fun i _=>m.sel.toNat-(intOf i).toNat)
           case atStart=>exact ⟨0,by omega,rfl,HBL.out,Lib.hid (by omega)⟩
           case round=>
            obtain ⟨k,hk,rfl,hbl,q1⟩:=hrel
            clear r0 r1 r2 r3 rl y0 y2 y3 yl HBL HBW
            have hX2:ChkAt wr w.heap.size h m:=HX1.out.old hbl
            have hY2:=HY1.out.old hbl
            obtain ⟨r0,r1,r2,r3⟩:=chk_cells hX2
            have rl:=hX2.lt
            have y0:wr.cell? ⟨w.heap.size+1,0,none⟩=some (.slice h.co m.cl.length h.cc):=hY2.cell 0 rfl
            have y2:wr.cell? ⟨w.heap.size+1,2,none⟩=some (.slice h.eo m.me.length h.ec):=hY2.cell 2 rfl
            have y3:wr.cell? ⟨w.heap.size+1,3,none⟩=some (.int .i64 m.sel):=hY2.cell 3 rfl
            have yl:=hY2.lt
            have HBW:=Lib.hid (bthen HB1.out hbl)
            have HBL:=Lib.hid hbl
            clear hX2 hY2 hbl
            by_cases hkl:k<m.sel.toNat
            ·have hwr:IntKind.i64.wrap ((k:Int)+1)=k+1:=IntWalk.i64_in _ (by omega)
             have hkl2:(k:Int) < m.sel:=by omega
             have hcall:=alike_any m h k _ (HM.out.old HBW.out) hkl2 h1 (fun j hj=>clsV_len (HAll63.out j hj)) (tgt_in HAll63.out hkl2) (fun j hj=>mthV_p (HAll74.out j hj))
             generalize hqc:alikeV m k=q at hcall
             have HC:=Lib.hid hcall
             have HQc:=Lib.hid hqc
             clear hcall hqc
             go_wp2_with fail
             refine HC.out.mono ?_
             rintro e2 w2 ⟨rfl,hb2⟩
             have HBW2:=Lib.hid (bthen HBW.out hb2)
             have HBL2:=Lib.hid (bthen HBL.out hb2)
             clear hb2
             rcases q with _|_
             ·exact k69
             ·have hok:alikeV m k=true:=HQc.out
              have hrel2:∀ i,i<k+1→alikeV m i=true:=fun i hi=>by
               exact k61
              exact k43
            ·obtain rfl:k=m.sel.toNat:=by omega
             have hall:=q1.out
             have HAll84:=Lib.hid hall
             clear hall q1
             have hkl2:¬ ((m.sel.toNat:Int) < m.sel):=by omega
             go_wp2
             go_ret
             exact ret_ok (bool_eq (by rw [HQ.out,HOk.out,show ownsV m=true from all_range_ok HAll41.out,all_range_ok HAll63.out,all_range_ok HAll74.out,all_range_ok HAll84.out];rfl)) HBW.out
    ·have i4:m.sel > 16:=by omega
     have i3:¬ m.sel<0:=by omega
     have i1:¬ (m.cl.length:Int) > 10:=by omega
     have i2:¬ (m.me.length:Int) > 16:=by omega
     go_enter Tryz.func125,Tryz.ntmps125
     go_wp2
     go_ret
     exact ret_ok (bool_eq (by rw [HQ.out,HSz.out,decide_eq_false (show ¬ m.sel≤16 by omega)];simp)) HB0.out
   ·have i3:m.sel<0:=by omega
    have i1:¬ (m.cl.length:Int) > 10:=by omega
    have i2:¬ (m.me.length:Int) > 16:=by omega
    go_enter Tryz.func125,Tryz.ntmps125
    go_wp2
    go_ret
    exact ret_ok (bool_eq (by rw [HQ.out,HSz.out,decide_eq_false (show ¬ 0≤m.sel by omega)];simp)) HB0.out
  ·have i1:¬ (m.cl.length:Int) > 10:=by omega
   have i2:(m.me.length:Int) > 16:=by omega
   go_enter Tryz.func125,Tryz.ntmps125
   go_wp2
   go_ret
   exact ret_ok (bool_eq (by rw [HQ.out,HSz.out,decide_eq_false (show ¬ m.me.length≤16 by omega)];simp)) HB0.out
 ·have i1:(m.cl.length:Int) > 10:=by omega
  go_enter Tryz.func125,Tryz.ntmps125
  go_wp2
  go_ret
  exact ret_ok (bool_eq (by rw [HQ.out,HSz.out,decide_eq_false (show ¬ m.cl.length≤10 by omega)];simp)) HB0.out
theorem lCheck_any (m:Md) (h:Hd) (w:World) (H:ModAt w h m):Calls Tryz.prog 92 #[.agg #[.slice h.co m.cl.length h.cc,.slice h.so m.st.length h.sc,.slice h.eo m.me.length h.ec,.int .i64 m.sel]] w (Ret w (.int .i64 (if modV m then 0 else 1))):=by
 have hb0:Below w.heap.size w (w.alloc (.cells #[.slice h.co m.cl.length h.cc,.slice h.so m.st.length h.sc,.slice h.eo m.me.length h.ec,.int .i64 m.sel] 26)):=by exact bE
 have hv:=valid_any m h _ (H.old hb0)
 generalize modV m=q at hv ⊢
 have HV:=Lib.hid hv
 clear hv H
 rcases q with _|_
 all_goals
  go_enter Tryz.func92,Tryz.ntmps92
  go_wp2_with fail
  refine HV.out.mono ?_
  rintro e1 w1 ⟨rfl,hb1⟩
  go_wp2_with fail
  go_ret
  exact ret_ok rfl (bthen hb0 hb1)
end
section
open Go.RowKit
attribute [local go_sem] World.cell?_alloc_some
def Ret2 (W:World) (v u:Value):Ending→World→Prop:=fun e w'=>e=.returned (.tuple #[v,u])∧Below W.heap.size W w'
theorem ret2_ok {W w':World}{v u v' u':Value} (h:v'=v) (h2:u'=u) (hb:Below W.heap.size W w'):Ret2 W v u (.returned (.tuple #[v',u'])) w':=⟨by rw [h,h2],hb⟩
def errV (b:Bool):Int:=if b then 0 else 1
def inV (n:Int) (x:Int):Bool:=decide (0≤x)&&decide (x<n)
theorem asked1_any (t:Int) (B:Nat) (n:Int) (w:World) (hB:w.cell? ⟨B,0,none⟩=some (.int .i64 n)):Calls Tryz.prog 196 #[.int .i64 t,.pointer (some ⟨B,0,none⟩)] w (Ret w (.bool (!inV n t))):=by
 have hl:=cell_lt hB
 go_enter Tryz.func196,Tryz.ntmps196
 go_wp2
 all_goals
  go_ret
  exact ret_ok (bool_eq (by grind [inV])) bE
theorem asked_any (m:Md) (h:Hd) (n:Int) (l:List Int) (ao:Option Addr) (cap:Nat) (w:World) (H:ModAt w h m) (hl:RowAt w ao cap l) (hlen:l.length≤1000000):Calls Tryz.prog 139 #[.agg #[.slice h.co m.cl.length h.cc,.slice h.so m.st.length h.sc,.slice h.eo m.me.length h.ec,.int .i64 m.sel],.int .i64 n,.slice ao l.length cap] w (Ret w (.int .i64 (errV (modV m&&l.all (inV n))))):=by
 have hK:Blk ((w.alloc (.cells #[.slice h.co m.cl.length h.cc,.slice h.so m.st.length h.sc,.slice h.eo m.me.length h.ec,.int .i64 m.sel] 26)).alloc (.cells #[.int .i64 n] 3)) (w.heap.size+1) #[.int .i64 n] 3:=Blk.new' (w:=w.alloc (.cells #[.slice h.co m.cl.length h.cc,.slice h.so m.st.length h.sc,.slice h.eo m.me.length h.ec,.int .i64 m.sel] 26)) #[.int .i64 n] 3 (by simp)
 have hb0:Below w.heap.size w ((w.alloc (.cells #[.slice h.co m.cl.length h.cc,.slice h.so m.st.length h.sc,.slice h.eo m.me.length h.ec,.int .i64 m.sel] 26)).alloc (.cells #[.int .i64 n] 3)):=by exact bE
 have hc:=lCheck_any m h _ (H.old hb0)
 have HK:=Lib.hid hK
 have HL:=Lib.hid hl
 have HB0:=Lib.hid hb0
 generalize modV m=qm at hc ⊢
 generalize hq:l.all (inV n)=q
 have HQ:=Lib.hid hq
 clear hq
 rcases qm with _|_
 ·have HC:=Lib.hid hc
  clear hc hK hl hb0 H
  go_enter Tryz.func139,Tryz.ntmps139
  exact k82
 ·have HC:=Lib.hid hc
  clear hc hK hl hb0 H
  go_enter Tryz.func139,Tryz.ntmps139
  go_wp2_with fail
  refine HC.out.mono ?_
  rintro e1 w1 ⟨rfl,hb1⟩
  have hcon:=conInt_any l ao cap 196 #[.pointer (some ⟨w.heap.size+1,0,none⟩)] (fun t=>!inV n t) w1 hlen (HL.out.old (bthen HB0.out hb1)) (fun A W=>by kernel_rfl) (fun j hj w' hb=>asked1_any _ (w.heap.size+1) n w' (((HK.out.old hb1).old hb).cell 0 rfl))
  rw [any_all] at hcon
  have HB1:=Lib.hid (bthen HB0.out hb1)
  rw [HQ.out] at hcon
  have HCn:=Lib.hid hcon
  clear hcon hb1
  go_wp2_with fail
  refine HCn.out.mono ?_
  rintro e2 w2 ⟨rfl,hb2⟩
  rcases q with _|_
  all_goals
   go_wp2
   go_ret
   exact ret_ok (by simp [errV]) (bthen HB1.out hb2)
theorem lBelow_any (m:Md) (h:Hd) (a b:Int) (w:World) (H:ModAt w h m):Calls Tryz.prog 188 #[.agg #[.slice h.co m.cl.length h.cc,.slice h.so m.st.length h.sc,.slice h.eo m.me.length h.ec,.int .i64 m.sel],.int .i64 a,.int .i64 b] w (Ret2 w (.bool (modV m&&inV m.cl.length a&&inV m.cl.length b&&aboveV m (a.toNat+1) a b)) (.int .i64 (errV (modV m&&inV m.cl.length a&&inV m.cl.length b)))):=by
 have hX:Blk (w.alloc (.cells #[.slice h.co m.cl.length h.cc,.slice h.so m.st.length h.sc,.slice h.eo m.me.length h.ec,.int .i64 m.sel] 26)) w.heap.size #[.slice h.co m.cl.length h.cc,.slice h.so m.st.length h.sc,.slice h.eo m.me.length h.ec,.int .i64 m.sel] 26:=Blk.new w _ _
 have hR:Blk ((w.alloc (.cells #[.slice h.co m.cl.length h.cc,.slice h.so m.st.length h.sc,.slice h.eo m.me.length h.ec,.int .i64 m.sel] 26)).alloc (.cells #[.int .i64 a,.int .i64 b] 3)) (w.heap.size+1) #[.int .i64 a,.int .i64 b] 3:=Blk.new' (w:=w.alloc (.cells #[.slice h.co m.cl.length h.cc,.slice h.so m.st.length h.sc,.slice h.eo m.me.length h.ec,.int .i64 m.sel] 26)) #[.int .i64 a,.int .i64 b] 3 (by simp)
 have hb0:Below w.heap.size w ((w.alloc (.cells #[.slice h.co m.cl.length h.cc,.slice h.so m.st.length h.sc,.slice h.eo m.me.length h.ec,.int .i64 m.sel] 26)).alloc (.cells #[.int .i64 a,.int .i64 b] 3)):=by exact bE
 have hrow:RowAt ((w.alloc (.cells #[.slice h.co m.cl.length h.cc,.slice h.so m.st.length h.sc,.slice h.eo m.me.length h.ec,.int .i64 m.sel] 26)).alloc (.cells #[.int .i64 a,.int .i64 b] 3)) (some ⟨w.heap.size+1,0,none⟩) 2 [a,b]:=by
  exact k100
 have hask:=asked_any m h m.cl.length [a,b] _ 2 _ (H.old hb0) hrow (by simp)
 have e:(modV m&&[a,b].all (inV m.cl.length))=(modV m&&inV m.cl.length a&&inV m.cl.length b):=by simp [Bool.and_assoc]
 rw [e] at hask
 generalize hq:(modV m&&inV m.cl.length a&&inV m.cl.length b)=q at hask ⊢
 have HA:=Lib.hid hask
 have HX:=Lib.hid (hX.alloc (.cells #[.int .i64 a,.int .i64 b] 3))
 have HM:=Lib.hid (H.old hb0)
 have HB0:=Lib.hid hb0
 have HQ:=Lib.hid hq
 clear hask hX hR hb0 hrow e hq H
 go_enter Tryz.func188,Tryz.ntmps188
 go_wp2_with fail
 refine HA.out.mono ?_
 rintro e1 w1 ⟨rfl,hb1⟩
 have HB1:=Lib.hid (bthen HB0.out hb1)
 rcases q with _|_
 ·go_wp2
  go_ret2
  exact ret2_ok rfl rfl HB1.out
 ·have h9:=HQ.out
  simp only [Bool.and_eq_true,inV,decide_eq_true_eq] at h9
  obtain ⟨⟨hmv,ha0,ha1⟩,hb0',hb1'⟩:=h9
  have hcv:∀ k,k<m.cl.length→clsV m k=true:=by
   simp only [modV,Bool.and_eq_true] at hmv
   exact all_range_iff.1 hmv.1.1.2
  have hab:=above_any m h a b w1 (HM.out.old hb1) hb0' ha1 (fun i h0 h1=>desc_of hcv i h0 (by omega))
  have HAb:=Lib.hid hab
  have hX1:=HX.out.old hb1
  have r0:w1.cell? ⟨w.heap.size,0,none⟩=some (.slice h.co m.cl.length h.cc):=hX1.cell 0 rfl
  have r1:w1.cell? ⟨w.heap.size,1,none⟩=some (.slice h.so m.st.length h.sc):=hX1.cell 1 rfl
  have r2:w1.cell? ⟨w.heap.size,2,none⟩=some (.slice h.eo m.me.length h.ec):=hX1.cell 2 rfl
  have r3:w1.cell? ⟨w.heap.size,3,none⟩=some (.int .i64 m.sel):=hX1.cell 3 rfl
  have rl:=hX1.lt
  clear hab hcv hmv hX1 hb1
  go_wp2_with fail
  refine HAb.out.mono ?_
  rintro e2 w2 ⟨rfl,hb2⟩
  go_wp2
  go_ret2
  exact ret2_ok rfl rfl (bthen HB1.out hb2)
end
end Go.Proofs.YtfkbfjhocmbneaaGreat
