/- Joined texts. The first: verify: local, element, fit. -/
import Derived.Test.YtcfjblcgceednaaGreatG9
import Derived.Deep.Upon
set_option linter.all false
set_option linter.unusedVariables false
set_option linter.unusedSimpArgs false
set_option maxRecDepth 100000
set_option maxHeartbeats 4000000
namespace Go.Proofs.YtcfjblcgceednaaGreat
theorem k24{p:Prop}(h:p:=by
 rintro r w' ⟨hv,hu,hq⟩
 refine ⟨hv,hu,?_⟩
 rw [hb] at hq
 unfold ZhO
 rw [hcn]
 dsimp only
 rcases hq with ⟨hq,hc⟩|⟨hq,so',sc',out,e',hp,ht,hc⟩
 ·exact k66
 ·rw [if_neg (by simp only [Zfd,Bool.and_eq_true,decide_eq_true_eq] at hq;omega)]
  have hlo:(s.stk.take (s.stk.length-tk)++out).length≤2000:=by
   have:=hp.1
   simp;omega
  obtain ⟨-,hp⟩:=hp
  split at hp
  ·subst hp
   exact ⟨so',sc',_,hc,ht,hlo,fun h0=>by cases h0⟩
  ·rename_i t hn
   obtain ⟨rfl,rfl⟩:=hp
   exact ⟨so',sc',_,hc,ht,hlo,fun _=>rfl⟩):p:=h
theorem k26{p:Prop}(h:p:=by
 rw [←HW.out]
 repeat refine pO ?_
 refine Zd5 ?_
 go_wp2_with (go_at_call 318;refine (ZeS K h m _ _ _ e 11 W1.drew HC.out).mono ?_;rintro e w2 ⟨⟨v,rfl⟩,hc,hu⟩;have hx:=Blk.upd (w:=W1.drew) HX1.out hu (by omega) (by omega);have y0:=hx.cell 0 (v:=.int .i64 0) rfl;have y1:=hx.cell 1 (v:=.int .i64 0) rfl;have g0:=hx.frozen 0;have g1:=hx.frozen 1)
 refine bodyPost_ret (v:=.agg #[.int .i64 0,.int .i64 0]) (by simp [results,Tryz.results323,go_sem,y0,y1]) rfl ⟨rfl,?_,?_⟩
 ·exact (Ck.other (Ck.other (hc) (by omega) 0 _) (by omega) 1 _)
 ·exact (((Upd.of HB0.out).drew.trans hu).setN (by omega) 0 _).setN (by omega) 1 _):p:=h
theorem k32{p:Prop}(h:p:=by
 go_wp2_with fail
 refine kR HS.out HU0 HC0 (oL [0,1,2,3,104,5,106]) fun HU1 HC1=>?_
 repeat refine pO ?_
 refine kB HS.out HU1 HC1 (Zhl _) fun w2 HU2 HC2=>?_
 repeat refine pO ?_
 refine kW HS.out HU2 HC2 (ZeU K h m L S O _ _ _ HC2.out) fun _ w3 HU3 HC3=>?_
 repeat refine pO ?_
 refine Zd5 ?_
 go_wp2
 go_ret
 refine ⟨none,0,[],_,rfl,ZeP.nil _,HC3.out,HU3.out,rfl,?_⟩
 exact k82):p:=h
theorem k34{p:Prop}(h:p:=by
 cases hh:(decide (ak=1)&&decide (ac=0))
 ·rfl
 ·simp only [Bool.and_eq_true,decide_eq_true_eq] at hh;exact absurd (by rw [hh.1,hh.2];rfl) h1):p:=h
theorem k39{p:Prop}(h:p:=by
 rw [ZhL,ZhM]
 congr 1
 apply List.ext_getElem
 ·simp [H.len]
 ·intro i h1 h2
  have h1':i<bs.length:=by simpa using h1
  have h2':i<os.length:=by simpa using h2
  have hb:=H.at_ i h1'
  rw [show bs.getD i default=bs[i] by simp [h1'],show os.getD i default=os[i] by simp [h2']] at hb
  simp only [List.getElem_map]
  rw [hb.op,hb.mid,hb.bn]):p:=h
theorem k41{p:Prop}(h:p:=by
 repeat refine pO ?_
 refine kV HS.out HU1 HC1 (HLo.out _ _ HC1.out HU1.out) fun w2 HU2 HC2=>?_
 repeat refine pO ?_
 refine kW HS.out HU2 HC2 (HFi.out _ _ HC2.out HU2.out) fun _ w3 HU3 HC3=>?_
 repeat refine pO ?_
 refine Zd5 ?_
 go_wp2
 go_ret
 refine ⟨none,0,[],_,rfl,ZeP.nil _,HC3.out,HU3.out,rfl,?_⟩
 rw [HFt.out,HLb.out,HLu.out]):p:=h
theorem k51{p:Prop}(h:p:=by
 refine ⟨ZhI H.own fun k hk=>?_,H.len,fun i hi=>(H.at_ i hi).upd hu hK hK⟩
 cases oo with
 | none=>cases hk
 | some a=>
  cases hk
  have hn:=hne a rfl
  obtain ⟨g,cur,rfl,_,hg⟩:=H.blk rfl
  exact hu.block _ (Array.getElem?_eq_some_iff.1 hg).1 hn hn):p:=h
theorem k57{p:Prop}(h:p:=by
 cases oo with
 | none=>exact hK
 | some a=>
  obtain ⟨g,cur,rfl,_,hg⟩:=H.blk rfl
  refine ⟨(Array.getElem?_eq_some_iff.1 hg).1,fun xs z hx=>?_⟩
  rw [show w.heap[ZhH K (some ⟨g,0,none⟩)]?=_ from hg] at hx
  cases hx):p:=h
theorem k66{p:Prop}(h:p:=by
 rw [if_pos (by simp only [Zfd,Bool.and_eq_false_iff,decide_eq_false_iff_not] at hq;omega)]
 exact ⟨so,sc,s.stk,hc,H.ts.upd hu H.ck.noTy H.ck.noTy,by omega,fun h0=>by cases h0⟩):p:=h
theorem k75{p:Prop}(h:p:=by
 rcases H.own.2 with ⟨hv,_⟩|⟨g,c,cur,hv,hb,hg,_⟩
 ·rw [ha] at hv;cases hv
 ·rw [ha] at hv;cases hv;exact ⟨g,cur,rfl,hb,hg⟩):p:=h
theorem k82{p:Prop}(h:p:=by
 rw [Zhp];first|rfl|(rw [Bool.not_and];rfl)|(simp [Zeu];done)):p:=h
theorem k86{p:Prop}(h:p:=by
 obtain ⟨g,cur,rfl,_,hg⟩:=H.blk ha
 intro e
 rw [show g=K from e,show w.heap[K]?=_ from hc] at hg
 cases hg):p:=h
section
open Go.RowKit
theorem Blk.upd {w w':World}{b:Nat}{xs:Array Value}{t:TypeId}{K B:Nat} (H:Blk w b xs t) (h:Upd K B w w') (hK:b≠K) (hB:b≠B):Blk w' b xs t:=by
 unfold Blk;rw [h.block b H.lt hK hB];exact H
theorem Upd.setN {K B:Nat}{a b:World} (h:Upd K B a b) {c:Nat} (hc:a.heap.size≤c) (j:Nat) (v:Value):Upd K B a (b.setCell ⟨c,j,none⟩ v):=
 ⟨h.os,h.tape,h.output,by simpa [World.setCell] using h.size,fun k hk h1 h2=>(Below.heap_setCell _ _ _ _ (by show k≠c;omega)).trans (h.block k hk h1 h2)⟩
theorem Ck.other {w:World}{K:Nat}{h:Hd}{m:Md}{L S O:Value}{e:Int} (H:Ck w K h m L S O e) {c:Nat} (hc:K≠c) (j:Nat) (v:Value):Ck (w.setCell ⟨c,j,none⟩ v) K h m L S O e:=Blk.other H hc v
theorem Zhu (K:Nat) (h:Hd) (m:Md) (S O:Value) (lo:Option Addr) (lc:Nat) (ls:List Ty) (e a:Int) (w:World) (H:Ck w K h m (.slice lo ls.length lc) S O e)
  (hl:Zar w lo lc ls) (ha:0≤a) :
  Calls Tryz.prog 251 #[.pointer (some ⟨K,0,none⟩),.int .i64 a] w fun r w'=>r=.returned (.agg #[.int .i64 (ls.getD a.toNat default).k,.int .i64 (ls.getD a.toNat default).c])∧Ck w' K h m (.slice lo ls.length lc) S O (ZeT e (decide (a<ls.length)))∧Upd K K w w':=by
 have HH:=Zh H
 by_cases h1:a<ls.length
 ·obtain ⟨c,rfl⟩:∃ c:Nat,a=c:=⟨a.toNat,by omega⟩
  have hc:c<ls.length:=by omega
  obtain ⟨ad,rfl,e0,e1⟩:=Zaz hl hc
  obtain ⟨kl,-,-,-,-,c4,-,-,-⟩:=H.cells
  rw [Int.toNat_natCast]
  generalize ls.getD c default=t at e0 e1 ⊢
  have hq:ZeT e (decide ((c:Int) < ls.length))=e:=by simp [ZeT,h1]
  rw [hq]
  have a0:=Zac e0
  clear hq H hl
  go_enter Tryz.func251,Tryz.ntmps251
  go_wp2
  refine bodyPost_ret (v:=.agg #[.int .i64 t.k,.int .i64 t.c]) (by simp [results,Tryz.results251,go_sem]) rfl ⟨rfl,?_,?_⟩
  ·exact HH.out.old bE
  ·exact Upd.of bE
 ·have hq:ZeT e (decide (a<ls.length))=ZeR e 11:=by simp [ZeT,h1]
  have hd:ls.getD a.toNat default=⟨0,0⟩:=by
   rw [List.getD_eq_getElem?_getD,List.getElem?_eq_none (by omega)]
   rfl
  obtain ⟨kl,-,-,-,-,c4,-,-,-⟩:=H.cells
  rw [hq,hd]
  clear hq hd H hl
  go_enter Tryz.func251,Tryz.ntmps251
  go_wp2_with (go_at_call 318;refine (ZeS K h m _ _ _ e 11 _ (HH.out.old bE)).mono ?_;rintro e w2 ⟨⟨v,rfl⟩,hc,hu⟩;have hx:=(Blk.new w #[.int .i64 0,.int .i64 0] 76).upd hu (by omega) (by omega);have x0:=hx.cell 0 (v:=.int .i64 0) rfl;have x1:=hx.cell 1 (v:=.int .i64 0) rfl;have g0:=hx.frozen 0;have g1:=hx.frozen 1)
  refine bodyPost_ret (v:=.agg #[.int .i64 0,.int .i64 0]) (by simp [results,Tryz.results251,go_sem,x0,x1]) rfl ⟨rfl,?_,?_⟩
  ·exact (hc.other (by omega) _ _).other (by omega) _ _
  ·exact (((Upd.of bE).trans hu).setN (Nat.le_refl _) _ _).setN (Nat.le_refl _) _ _
theorem Zhv (K:Nat) (h:Hd) (m:Md) (L S O:Value) (e:Int) (t:Ty) (w:World) (H:Ck w K h m L S O e) :
  Calls Tryz.prog 326 #[.pointer (some ⟨K,0,none⟩),.agg #[.int .i64 t.k,.int .i64 t.c]] w fun r w'=>r=.returned (.agg #[.int .i64 ((Zez t).getD default).k,.int .i64 ((Zez t).getD default).c])∧Ck w' K h m L S O (ZeT e (Zez t).isSome)∧Upd K K w w':=by
 have kl:=Blk.lt H
 have HH:=Zh H
 clear H
 cases t with|mk k c=>
 by_cases h1:k=3
 ·subst h1
  have hv:Zez ⟨3,c⟩=some ⟨1,0⟩:=rfl
  rw [hv]
  clear hv
  go_enter Tryz.func326,Tryz.ntmps326
  go_wp2_with (go_at_call 249;refine (Zhl _).mono ?_;rintro e w1 ⟨rfl,hb⟩;have hx:=(Blk.new' (w:=w.alloc (.cells #[.int .i64 3,.int .i64 c] 76)) (b:=w.heap.size+1) #[.int .i64 0,.int .i64 0] 76 (by simp)).old hb;have x0:=hx.cell 0 (v:=.int .i64 0) rfl;have x1:=hx.cell 1 (v:=.int .i64 0) rfl;have g0:=hx.frozen 0;have g1:=hx.frozen 1;clear hx)
  refine bodyPost_ret (v:=.agg #[.int .i64 1,.int .i64 0]) (by simp [results,Tryz.results326,go_sem,x0,x1]) rfl ⟨rfl,?_,?_⟩
  ·exact (Ck.other ((HH.out.old bE).old hb) (by omega) _ _).other (by omega) _ _
  ·exact (((Upd.of bE).bel hb).setN (by omega) _ _).setN (by omega) _ _
 ·by_cases h2:k=4
  ·subst h2
   have hv:Zez ⟨4,c⟩=some ⟨2,c⟩:=rfl
   rw [hv]
   clear hv
   go_enter Tryz.func326,Tryz.ntmps326
   go_wp2_with (go_at_call 191;refine (Zhn _ _).mono ?_;rintro e w1 ⟨rfl,hb⟩;have hx:=(Blk.new' (w:=w.alloc (.cells #[.int .i64 4,.int .i64 c] 76)) (b:=w.heap.size+1) #[.int .i64 0,.int .i64 0] 76 (by simp)).old hb;have x0:=hx.cell 0 (v:=.int .i64 0) rfl;have x1:=hx.cell 1 (v:=.int .i64 0) rfl;have g0:=hx.frozen 0;have g1:=hx.frozen 1;clear hx)
   refine bodyPost_ret (v:=.agg #[.int .i64 2,.int .i64 c]) (by simp [results,Tryz.results326,go_sem,x0,x1]) rfl ⟨rfl,?_,?_⟩
   ·exact (Ck.other ((HH.out.old bE).old hb) (by omega) _ _).other (by omega) _ _
   ·exact (((Upd.of bE).bel hb).setN (by omega) _ _).setN (by omega) _ _
  ·have hv:Zez ⟨k,c⟩=none:=by simp [Zez,h1,h2]
   have q1:(k == 3)=false:=by simpa using h1
   have q2:(k == 4)=false:=by simpa using h2
   rw [hv]
   clear hv h1 h2
   go_enter Tryz.func326,Tryz.ntmps326
   go_wp2_with (go_at_call 318;refine (ZeS K h m _ _ _ e 11 _ (HH.out.old bE)).mono ?_;rintro e w2 ⟨⟨v,rfl⟩,hc,hu⟩;have hx:=(Blk.new' (w:=w.alloc (.cells #[.int .i64 k,.int .i64 c] 76)) (b:=w.heap.size+1) #[.int .i64 0,.int .i64 0] 76 (by simp)).upd hu (by omega) (by omega);have x0:=hx.cell 0 (v:=.int .i64 0) rfl;have x1:=hx.cell 1 (v:=.int .i64 0) rfl;have g0:=hx.frozen 0;have g1:=hx.frozen 1;clear hx)
   refine bodyPost_ret (v:=.agg #[.int .i64 0,.int .i64 0]) (by simp [results,Tryz.results326,go_sem,x0,x1]) rfl ⟨rfl,?_,?_⟩
   ·exact (Ck.other (hc) (by omega) _ _).other (by omega) _ _
   ·exact (((Upd.of bE).trans hu).setN (by omega) _ _).setN (by omega) _ _
end
section
open Go.RowKit
def Zhw (W:World) (l:List Ty):Ending→World→Prop:=fun e w'=>∃ ro rc,e=.returned (.slice ro l.length rc)∧ZeP w' ro rc l∧(∀ a,ro=some a→W.heap.size≤a.block)∧Below W.heap.size W w'
theorem ZeP.nil (w:World):ZeP w none 0 []:=⟨Zar.nil w,Nat.le_refl _,fun a h=>by cases h⟩
theorem ZeP.one {w:World}{b:Nat}{t:Ty} (H:Blk w b #[.int .i64 t.k,.int .i64 t.c] 76):ZeP w (some ⟨b,0,none⟩) 1 [t]:=
 ⟨ZdL H rfl,Nat.le_refl _,fun a h=>by cases h;exact ⟨_,_,H⟩⟩
def Zhx (t:Ty):List Ty:=if t.k=0 then [] else [t]
theorem Zhy (t:Ty) (w:World):Calls Tryz.prog 188 #[.agg #[.int .i64 t.k,.int .i64 t.c]] w (Zhw w (Zhx t)):=by
 by_cases h0:t.k=0
 ·have hr:Zhx t=[]:=by simp [Zhx,h0]
  rw [hr]
  clear hr
  go_enter Tryz.func188,Tryz.ntmps188
  go_wp2
  go_ret
  exact ⟨none,0,rfl,ZeP.nil _,fun a h=>(by cases h),by exact bE⟩
 ·have hr:Zhx t=[t]:=by simp [Zhx,h0]
  have hk:(t.k == 0)=false:=by simpa using h0
  rw [hr]
  clear hr h0
  go_enter Tryz.func188,Tryz.ntmps188
  go_wp2
  go_ret
  exact ⟨some ⟨w.heap.size+1,0,none⟩,1,rfl,ZeP.one (Blk.new' (w:=w.alloc (.cells #[.int .i64 t.k,.int .i64 t.c] 76)) _ _ (by simp)),fun a h=>(by cases h;show _≤_+1;omega),by exact bE⟩
theorem Zhz (t:Ty) (B:Nat) (v:Value) (w:World) (hB:Blk w B #[.int .i64 t.k,.int .i64 t.c] 76):Calls Tryz.prog 319 #[v,.pointer (some ⟨B,0,none⟩)] w (Zhw w [t]):=by
 have b0:=hB.cell 0 (v:=.int .i64 t.k) rfl
 have b1:=hB.cell 1 (v:=.int .i64 t.c) rfl
 have bl:=hB.lt
 clear hB
 go_enter Tryz.func319,Tryz.ntmps319
 go_wp2
 go_ret
 exact ⟨some ⟨w.heap.size,0,none⟩,1,rfl,ZeP.one (Blk.new w _ _),fun a h=>(by cases h;exact Nat.le_refl _),by exact bE⟩
end
section
open Go.RowKit
theorem ZhA (W:World) (ao:Option Addr) (cap:Nat) (l:List Ty) (h:Zar W ao cap l) (hl:l.length≤1000000) :
    Calls Tryz.prog 183 #[.slice ao l.length cap] W (Zfg 76 W l):=by
 cases ao with
 | none=>
   have hlz:l.length=0:=(h.2.1 rfl).1
   have hcz:cap=0:=(h.2.1 rfl).2
   have hl0:l=[]:=by cases l with|nil=>rfl|cons x r=>simp at hlz
   subst hl0
   subst hcz
   clear h
   have hnil:=fun w=>Lib.run_eql_slice_nil (P:=Tryz.prog) w 23 76 none 0 0 0 0 Tryz.underlying23
   simp only [List.length_nil] at *
   go_enter Tryz.func183,Tryz.ntmps183
   go_wp2
   go_ret
   exact ⟨⟨none,0,rfl,⟨rfl,.inl ⟨rfl,rfl⟩⟩⟩,Below.refl _ _⟩
 | some a=>
   have HH:=Zh h
   clear h
   have HO:=Zh (World.ownsRow_made (e:=76) (size:=2) W #[] 0 (Nat.le_refl _) (by decide) rfl)
   have hnil:=fun w=>Lib.run_eql_slice_nil (P:=Tryz.prog) w 23 76 (some a) l.length cap 0 0 Tryz.underlying23
   go_enter Tryz.func183,Tryz.ntmps183
   go_wp2_with (first
     | (at_builtin;refine Zaj rfl (.tmp 5) (.tmp 6) 23 rfl W.heap.size 76 2 16 Zff (.slice (some ⟨W.heap.size,0,none⟩) 0 0) 0 [] rfl HO.out (some a) l.length cap (Zak l) rfl (SlA.alloc (w:=W) HH.out _) (Zaq l) (by omega) (by unfold maxLen;omega) (by simp) ?_
        intro ao1 cap1 w1 hown hg
        simp only [Nat.zero_add,List.nil_append] at hown ⊢
        have hb:=((Below.refl W.heap.size W).alloc (Nat.le_refl _) (.cells #[] 76)).grown hg (by simp) (by intro k hk;simp [Value.ownBlock] at hk;omega)
        have HR:=Zh (And.intro hown hb)
        clear hown hg hb))
   go_ret
   exact ⟨⟨ao1,cap1,rfl,HR.out.1⟩,HR.out.2⟩
theorem ZeP.own {w:World}{base:Nat}{ao:Option Addr}{cap:Nat}{l:List Ty} (h:w.ownsRow base 76 2 (.slice ao l.length cap) l.length (Zak l)):ZeP w ao cap l:=by
 refine ⟨Zar.of_own h,?_,?_⟩
 ·rcases h.2 with ⟨hv,hn⟩|⟨g,c,cur,hv,_,_,hle,_⟩
  ·omega
  ·rw [(Value.slice.inj hv).2.2];exact hle
 ·intro a ha
  rcases h.2 with ⟨hv,hn⟩|⟨g,c,cur,hv,_,hg,_⟩
  ·rw [(Value.slice.inj hv).1] at ha;cases ha
  ·rw [(Value.slice.inj hv).1] at ha;cases ha;exact ⟨_,_,hg⟩
end
section
open Go.RowKit
theorem ZhB {P:Program}{w:World}{o:Oper}{a:Act}{K:Act→World→Prop}{Q:Exit→Act→World→Prop} (s x:Operand) (t:TypeId)
  (ho:o.op=.call { callee:=.builtin .append,args:=#[s,x],argTypes:=#[t,t] })
  (e:TypeId) (size bytes:Nat) (hel:El P t e size bytes)
  (ao:Option Addr) (n cap:Nat) (hs:a.eval s=.slice ao n cap) (hle:n≤cap) (bo:Option Addr) (c:Nat) (hx:a.eval x=.slice bo 0 c)
  (h:K (a.put o.dst (.slice ao n cap)) w):o.wp P a w K Q:=by
 obtain ⟨i,z,hi,hz,hsize,hby,hzs⟩:=hel.info
 have hsrc:Src P i.size t (.slice bo 0 c) 0 [] w:=by
  cases bo with
  | none=>exact Src.ofNil w hel.und c
  | some ad=>exact Src.ofSlice w hel.und ad 0 c [] (by simp) (fun j u hu=>by simp at hu) (by simp)
 have hrun:=run_append_nothing (P:=P) w t t o.type e i hel.und hi ao n cap hle (.slice bo 0 c) hsrc
 unfold Oper.wp
 simp [execOp,ho,resolve,invoke,builtin,hs,hx,hrun,Result.andThen]
 exact h
theorem ZhC {P:Program}{ops:Array Oper}{Q:Exit→Act→World→Prop}{o:Oper}{rest:List Oper}{a:Act}{w:World} (hgd:o.guard=none) (h:o.wp P a w (wpList P ops Q rest) Q):wpList P ops Q (o :: rest) a w:=by
 show (if Region.wanted o (yielded ops a.tmps) then _ else _)
 rw [if_pos (by simp [Region.wanted,hgd])]
 exact .inl h
theorem ZeP.takeA {w:World}{ad:Addr}{sc:Nat}{st:List Ty} (H:ZeP w (some ad) sc st) {k:Nat} (hk:k≤st.length):ZeP w (some ad) k (st.take k):=
 ⟨H.1.take k hk k (fun h=>by cases h),by simp;omega,H.2.2⟩
theorem ZeP.dropA {w:World}{ad:Addr}{sc:Nat}{st:List Ty} (H:ZeP w (some ad) sc st) (k:Nat) (hk:k≤st.length):Zar w (some (ad.add (k*2))) (sc-k) (st.drop k):=by
 obtain ⟨h1,h2,h3⟩:=H
 refine ⟨by rw [Zam],(fun h=>by cases h),fun j u hu=>⟨_,rfl,?_⟩⟩
 have hf:Zak st=Zak (st.take k)++Zak (st.drop k):=by rw [←Zan,List.take_append_drop]
 obtain ⟨a',ha,hc⟩:=h1.2.2 (k*2+j) u (by
  rw [hf,List.getElem?_append_right (by rw [Zam];simp [Cells.n];omega),Zam]
  rw [←hu]
  congr 1
  simp [Cells.n];omega)
 cases ha
 have e:(ad.add (k*2)).add j=ad.add (k*2+j):=by
  unfold Addr.add
  split<;>split<;>split<;>simp_all<;>omega
 rw [e]
 exact hc
theorem ZhD (K:Nat) (h:Hd) (m:Md) (L:Value) (O:Value) (pushes:Int) (g:Nat) (caps:Array Value) (P:List Ty→Int→Prop) (w:World) (e:Int)
  (H:Ck w K h m L (.slice none 0 0) O e)
  (HC:Calls Tryz.prog 255 #[.pointer (some ⟨K,0,none⟩),.int .i64 0,.int .i64 pushes] w fun r w'=>r=.returned (.bool true)∧Ck w' K h m L (.slice none 0 0) O e∧Upd K K w w')
  (cf:∀ A W,(callFunc g (A++caps)).run Tryz.prog W=.ok (.enter g (A++caps)) W)
  (hP:∀ out e',P out e'→out.length≤1000)
  (hg:∀ w1 to' tc,Upd K K w w1→Ck w1 K h m L (.slice none 0 0) O e→w1.ownsRow w.heap.size 76 2 (.slice to' 0 tc) 0 (Zak ([]:List Ty)) →
   Calls Tryz.prog g (#[.slice to' 0 tc]++caps) w1 fun r w2=>∃ ro rc out e',r=.returned (.slice ro out.length rc)∧ZeP w2 ro rc out∧Ck w2 K h m L (.slice none 0 0) O e'∧Upd K K w w2∧P out e') :
  Calls Tryz.prog 246 #[.pointer (some ⟨K,0,none⟩),.int .i64 0,.int .i64 pushes,.func (Fn.func g) #[] caps] w fun r w'=>(∃ v,r=.returned v)∧Upd K K w w' ∧
   ∃ so' sc' out e',P out e'∧ZeP w' so' sc' out∧Ck w' K h m L (.slice so' out.length sc') O e':=by
 have HC:=Zh HC
 have HH:=Zh H
 have HG:=Zh hg
 have HP:=Zh hP
 clear H hg hP
 go_enter Tryz.func246,Tryz.ntmps246
 go_wp2_with (first|(go_at_call 255;refine HC.out.mono ?_;rintro r w1 ⟨rfl,hck,hu⟩;obtain ⟨c0,-,-,-,-,-,c5,c6,-⟩:=Ck.cells hck)|(go_at_call 183;refine (ZhA w1 none 0 [] (Zar.nil _) (by simp)).mono ?_;rintro r w2 ⟨⟨to',tc,rfl,hown⟩,hb2⟩))
 refine (HG.out w2 to' tc (hu.bel hb2) (hck.old hb2) (Zed hown hu.size)).mono ?_
 rintro r w3 ⟨ro,rc,out,e',rfl,hto,hck3,hu3,hpo⟩
 have HTo:=Zh hto
 have HC3:=Zh hck3
 have HU3:=Zh hu3
 have HPo:=Zh hpo
 obtain ⟨d0,-,-,-,-,-,d5,d6,-⟩:=hck3.cells
 have d5f:w3.frozen? ⟨K,5,none⟩=false:=Blk.frozen hck3 5
 clear hto hck3 hu3 hpo hown hck hu hb2 c0 c5 c6
 by_cases hout:out=[]
 ·subst hout
  simp only [List.length_nil] at *
  go_wp2_with (at_builtin;refine ZhC rfl ?_;refine ZhB (.tmp 38) (.tmp 39) 23 rfl 76 2 16 Zff _ _ _ rfl (Nat.le_refl _) _ _ rfl ?_)
  go_end0
  exact ⟨⟨_,rfl⟩,HU3.out.set 5 _,none,0,[],e',HPo.out,ZeP.nil _,HC3.out.setS _⟩
 ·have hom:0<out.length:=List.length_pos_iff.2 hout
  have hol2:=HP.out _ _ HPo.out
  have HOl:=Zh (show SlA w3 2 none 0 0 [] from ⟨rfl,fun _=>⟨rfl,rfl⟩,fun j u hu=>by simp at hu⟩)
  clear hout
  go_wp2_with (at_builtin;refine ZhC rfl ?_;refine Zef (.tmp 38) (.tmp 39) 23 rfl 76 2 16 Zff _ 0 _ [] rfl HOl.out _ out.length _ (Zak out) rfl HTo.out.1 (Zaq out) hom (by omega) (by omega) (by unfold maxLen;omega) ?_;intro ao2 cap2 w4 hown4 hg4;have d5g:w4.cell? ⟨K,5,none⟩=some (.slice none 0 0):=(World.cell?_of_block (a:=⟨K,5,none⟩) (hg4.block K d0 (by simp))).trans d5;have d5h:w4.frozen? ⟨K,5,none⟩=false:=(World.frozen?_of_block (a:=⟨K,5,none⟩) (hg4.block K d0 (by simp))).trans d5f;simp only [Nat.zero_add,List.nil_append] at hown4 ⊢)
  go_end0
  have hb4:Below w3.heap.size w3 w4:=(Below.refl _ _).grown hg4 (Nat.le_refl _) (fun j hj=>by cases hj)
  have hC4:=HC3.out.old hb4
  exact ⟨⟨_,rfl⟩,(HU3.out.bel hb4).set 5 _,ao2,cap2,out,e',HPo.out,(ZeP.own (base:=w3.heap.size) hown4).upd ((Upd.refl K K w4).set 5 _) hC4.noTy hC4.noTy,hC4.setS _⟩
theorem ZhE (K:Nat) (h:Hd) (m:Md) (L:Value) (so:Option Addr) (sc:Nat) (st:List Ty) (oo:Option Addr) (oc:Nat) (bs:List VB) (e:Int) (tk:Nat) (pushes:Int) (g:Nat) (caps:Array Value) (P:List Ty→Int→Prop) (w:World)
    (H:Ck w K h m L (.slice so st.length sc) (.slice oo bs.length oc) e) (hs:ZeP w so sc st) (hst:st.length≤1000) (ho:Zar w oo oc bs) (hlen:bs.length≤1000000) (ht:tk≤1000000000) (hp:0≤pushes∧pushes≤1000000000)
    (cf:∀ A W,(callFunc g (A++caps)).run Tryz.prog W=.ok (.enter g (A++caps)) W)
    (hP:∀ out e',P out e'→out.length≤1000)
    (hg:tk≤st.length→∀ w1 to' tc,Upd K K w w1→Ck w1 K h m L (.slice so st.length sc) (.slice oo bs.length oc) e→w1.ownsRow w.heap.size 76 2 (.slice to' tk tc) tk (Zak (st.drop (st.length-tk))) →
      Calls Tryz.prog g (#[.slice to' tk tc]++caps) w1 fun r w2=>∃ ro rc out e',r=.returned (.slice ro out.length rc)∧ZeP w2 ro rc out∧Ck w2 K h m L (.slice so st.length sc) (.slice oo bs.length oc) e'∧Upd K K w w2∧P out e') :
    Calls Tryz.prog 246 #[.pointer (some ⟨K,0,none⟩),.int .i64 tk,.int .i64 pushes,.func (Fn.func g) #[] caps] w fun r w'=>(∃ v,r=.returned v)∧Upd K K w w' ∧
      ((Zfd st.length tk pushes (Ze4 bs)=false∧Ck w' K h m L (.slice so st.length sc) (.slice oo bs.length oc) (ZeR e 12)) ∨
       (Zfd st.length tk pushes (Ze4 bs)=true∧∃ so' sc' out e',P out e'∧ZeP w' so' sc' (st.take (st.length-tk)++out)∧Ck w' K h m L (.slice so' (st.take (st.length-tk)++out).length sc') (.slice oo bs.length oc) e')):=by
 have hc:=Zfe K h m L so st.length sc oo oc bs e tk pushes w H ho hlen (by omega) (by omega) hp
 have HC:=Zh hc
 have HH:=Zh H
 have HT:=Zh hs
 have HG:=Zh hg
 have HP:=Zh hP
 clear hc H hs hg hP ho
 generalize hq:Zfd st.length tk pushes (Ze4 bs)=q at HC ⊢
 have HQ:=Zh hq
 clear hq
 rcases q with _|_
 · go_enter Tryz.func246,Tryz.ntmps246
   go_wp2_with (go_at_call 255;refine HC.out.mono ?_;rintro r w1 ⟨rfl,hck,hu⟩)
   refine bodyPost_ret (results_none rfl _ _ _) rfl ?_
   exact ⟨⟨_,rfl⟩,hu,.inl ⟨trivial,by simpa using hck⟩⟩
 · have hle:tk≤st.length:=by
     have:=HQ.out
     simp only [Zfd,Bool.and_eq_true,decide_eq_true_eq] at this
     omega
   have hcl:∀ w1,Upd K K w w1→∃ co cc,(so.map fun x=>if sc=st.length-tk then x else x.add ((st.length-tk)*2))=co∧sc-(st.length-tk)=cc∧Calls Tryz.prog 183 #[.slice co (st.length-(st.length-tk)) cc] w1 (Zfg 76 w1 (st.drop (st.length-tk))):=by
     intro w1 hu
     refine ⟨_,_,rfl,rfl,?_⟩
     have hT:=HT.out.upd hu HH.out.noTy HH.out.noTy
     have hcap:=hT.2.1
     rw [show st.length-(st.length-tk)=(st.drop (st.length-tk)).length by simp]
     refine ZhA w1 _ _ _ ?_ (by simp;omega)
     cases so with
     | none=>
       have h1:=(hT.1.2.1 rfl)
       have h2:st=[]:=by cases st with|nil=>rfl|cons x r=>simp at h1
       subst h2
       simp only [List.drop_nil,List.length_nil,Nat.zero_sub,Option.map_none,h1.2]
       exact Zar.nil _
     | some ad=>
       by_cases hsc:sc=st.length-tk
       · have h0:st.drop (st.length-tk)=[]:=by rw [List.drop_eq_nil_iff];omega
         rw [h0]
         exact ⟨by simp [Zak],(fun h=>by simp at h),fun j u hu=>by simp [Zak] at hu⟩
       · simp only [Option.map_some,if_neg hsc]
         exact hT.dropA _ (by omega)
   have HCl:=Zh hcl
   clear hcl
   by_cases hsc:sc=st.length-tk
   · cases so with
     | none=>
       have h0:=HT.out.1.2.1 rfl
       obtain rfl:st=[]:=List.length_eq_zero_iff.1 h0.1
       obtain rfl:sc=0:=h0.2
       obtain rfl:tk=0:=by simpa using hle
       refine (ZhD K h m L (.slice oo bs.length oc) pushes g caps P w e HH.out HC.out cf HP.out (fun w1 to' tc h1 h2 h3=>HG.out (Nat.le_refl _) w1 to' tc h1 h2 h3)).mono ?_
       rintro r w' ⟨hv,hu,so',sc',out,e',h1,h2,h3⟩
       exact ⟨hv,hu,.inr ⟨rfl,so',sc',out,e',h1,h2,h3⟩⟩
     | some ad=>
       go_enter Tryz.func246,Tryz.ntmps246
       go_wp2_with (first|(go_at_call 255;refine HC.out.mono ?_;rintro r w1 ⟨rfl,hck,hu⟩;obtain ⟨c0,-,-,-,-,-,c5,c6,-⟩:=Ck.cells (show Ck w1 K h m L (.slice (some ad) st.length sc) (.slice oo bs.length oc) e from hck))|(go_at_call 183;obtain ⟨co,cc,q1,q2,hcc⟩:=HCl.out w1 hu;simp only [Option.map_some,if_pos hsc] at q1;obtain rfl:cc=0:=(by omega);subst q1;refine hcc.mono ?_;rintro r w2 ⟨⟨to',tc,rfl,hown⟩,hb2⟩))
       have hlen2:(st.drop (st.length-tk)).length=tk:=by simp;omega
       rw [hlen2] at hown
       have hck1:Ck w1 K h m L (.slice (some ad) st.length sc) (.slice oo bs.length oc) e:=by simpa using hck
       rw [show st.length-(st.length-tk)=tk by omega]
       refine (HG.out hle w2 to' tc (hu.bel hb2) (hck1.old hb2) (Zed hown hu.size)).mono ?_
       rintro r w3 ⟨ro,rc,out,e',rfl,hto,hck3,hu3,hpo⟩
       have HTo:=Zh hto
       have HC3:=Zh hck3
       have HU3:=Zh hu3
       have HPo:=Zh hpo
       obtain ⟨d0,-,-,-,-,-,d5,d6,-⟩:=hck3.cells
       have d5f:w3.frozen? ⟨K,5,none⟩=false:=Blk.frozen hck3 5
       clear hto hck3 hu3 hpo hown hcc hck hck1 hu hb2 q2 c0 c5 c6 HC HCl
       have hT3:=Zh (HT.out.upd HU3.out HH.out.noTy HH.out.noTy)
       have hcap:st.length≤sc:=HT.out.2.1
       by_cases hout:out=[]
       · subst hout
         simp only [List.length_nil] at *
         go_wp2_with (at_builtin;refine ZhC rfl ?_;refine ZhB (.tmp 38) (.tmp 39) 23 rfl 76 2 16 Zff _ _ _ rfl (Nat.le_refl _) _ _ rfl ?_)
         go_end0
         refine ⟨⟨_,rfl⟩,HU3.out.set 5 _,.inr ⟨trivial,some ad,st.length-tk,[],e',HPo.out,?_,?_⟩⟩
         · rw [List.append_nil]
           exact (hT3.out.takeA (by omega)).upd ((Upd.refl K K w3).set 5 _) HC3.out.noTy HC3.out.noTy
         · rw [List.append_nil,List.length_take,Nat.min_eq_left (by omega)]
           exact HC3.out.setS _
       · have hom:0<out.length:=List.length_pos_iff.2 hout
         have hol2:=HP.out _ _ HPo.out
         have hol:SlA w3 2 (some ad) (st.length-tk) (st.length-tk) (Zak (st.take (st.length-tk))):=by
           have:=(hT3.out.takeA (k:=st.length-tk) (by omega)).1
           unfold Zar at this
           rw [List.length_take,Nat.min_eq_left (by omega)] at this
           exact this
         have HOl:=Zh hol
         clear hol hout
         go_wp2_with (at_builtin;refine ZhC rfl ?_;refine Zef (.tmp 38) (.tmp 39) 23 rfl 76 2 16 Zff _ (st.length-tk) _ (Zak (st.take (st.length-tk))) rfl HOl.out _ out.length _ (Zak out) rfl HTo.out.1 (Zaq out) hom (by omega) (by omega) (by unfold maxLen;omega) ?_;intro ao2 cap2 w4 hown4 hg4;have d5g:w4.cell? ⟨K,5,none⟩=some (.slice (some ad) st.length sc):=(World.cell?_of_block (a:=⟨K,5,none⟩) (hg4.block K d0 (by simp))).trans d5;have d5h:w4.frozen? ⟨K,5,none⟩=false:=(World.frozen?_of_block (a:=⟨K,5,none⟩) (hg4.block K d0 (by simp))).trans d5f)
         go_end0
         have hb4:Below w3.heap.size w3 w4:=(Below.refl _ _).grown hg4 (Nat.le_refl _) (fun j hj=>by cases hj)
         have hlen4:(st.take (st.length-tk)++out).length=st.length-tk+out.length:=by simp
         have hT4:ZeP w4 ao2 cap2 (st.take (st.length-tk)++out):=ZeP.own (base:=w3.heap.size) (by rw [hlen4,Zan];exact hown4)
         have hC4:=HC3.out.old hb4
         refine ⟨⟨_,rfl⟩,(HU3.out.bel hb4).set 5 _,.inr ⟨trivial,ao2,cap2,out,e',HPo.out,?_,?_⟩⟩
         · exact hT4.upd ((Upd.refl K K w4).set 5 _) hC4.noTy hC4.noTy
         · rw [hlen4]
           exact hC4.setS _
   · obtain ⟨ad,rfl⟩:∃ ad,so=some ad:=by
       cases so with
       | some ad=>exact ⟨ad,rfl⟩
       | none=>have:=HT.out.1.2.1 rfl;omega
     go_enter Tryz.func246,Tryz.ntmps246
     go_wp2_with (first|(go_at_call 255;refine HC.out.mono ?_;rintro r w1 ⟨rfl,hck,hu⟩;obtain ⟨c0,-,-,-,-,-,c5,c6,-⟩:=Ck.cells (show Ck w1 K h m L (.slice (some ad) st.length sc) (.slice oo bs.length oc) e from hck))|(go_at_call 183;obtain ⟨co,cc,q1,q2,hcc⟩:=HCl.out w1 hu;simp only [Option.map_some,if_neg hsc] at q1;rw [q1,q2];refine hcc.mono ?_;rintro r w2 ⟨⟨to',tc,rfl,hown⟩,hb2⟩))
     have hlen2:(st.drop (st.length-tk)).length=tk:=by simp;omega
     rw [hlen2] at hown
     have hck1:Ck w1 K h m L (.slice (some ad) st.length sc) (.slice oo bs.length oc) e:=by simpa using hck
     rw [show st.length-(st.length-tk)=tk by omega]
     refine (HG.out hle w2 to' tc (hu.bel hb2) (hck1.old hb2) (Zed hown hu.size)).mono ?_
     rintro r w3 ⟨ro,rc,out,e',rfl,hto,hck3,hu3,hpo⟩
     have HTo:=Zh hto
     have HC3:=Zh hck3
     have HU3:=Zh hu3
     have HPo:=Zh hpo
     obtain ⟨d0,-,-,-,-,-,d5,d6,-⟩:=hck3.cells
     have d5f:w3.frozen? ⟨K,5,none⟩=false:=Blk.frozen hck3 5
     clear hto hck3 hu3 hpo hown hcc hck hck1 hu hb2 q1 q2 c0 c5 c6 HC HCl
     have hT3:=Zh (HT.out.upd HU3.out HH.out.noTy HH.out.noTy)
     have hcap:st.length≤sc:=HT.out.2.1
     by_cases hout:out=[]
     · subst hout
       simp only [List.length_nil] at *
       go_wp2_with (at_builtin;refine ZhC rfl ?_;refine ZhB (.tmp 38) (.tmp 39) 23 rfl 76 2 16 Zff _ _ _ rfl (Nat.le_refl _) _ _ rfl ?_)
       go_end0
       refine ⟨⟨_,rfl⟩,HU3.out.set 5 _,.inr ⟨trivial,some ad,st.length-tk,[],e',HPo.out,?_,?_⟩⟩
       · rw [List.append_nil]
         exact (hT3.out.takeA (by omega)).upd ((Upd.refl K K w3).set 5 _) HC3.out.noTy HC3.out.noTy
       · rw [List.append_nil,List.length_take,Nat.min_eq_left (by omega)]
         exact HC3.out.setS _
     · have hom:0<out.length:=List.length_pos_iff.2 hout
       have hol2:=HP.out _ _ HPo.out
       have hol:SlA w3 2 (some ad) (st.length-tk) (st.length-tk) (Zak (st.take (st.length-tk))):=by
         have:=(hT3.out.takeA (k:=st.length-tk) (by omega)).1
         unfold Zar at this
         rw [List.length_take,Nat.min_eq_left (by omega)] at this
         exact this
       have HOl:=Zh hol
       clear hol hout
       go_wp2_with (at_builtin;refine ZhC rfl ?_;refine Zef (.tmp 38) (.tmp 39) 23 rfl 76 2 16 Zff _ (st.length-tk) _ (Zak (st.take (st.length-tk))) rfl HOl.out _ out.length _ (Zak out) rfl HTo.out.1 (Zaq out) hom (by omega) (by omega) (by unfold maxLen;omega) ?_;intro ao2 cap2 w4 hown4 hg4;have d5g:w4.cell? ⟨K,5,none⟩=some (.slice (some ad) st.length sc):=(World.cell?_of_block (a:=⟨K,5,none⟩) (hg4.block K d0 (by simp))).trans d5;have d5h:w4.frozen? ⟨K,5,none⟩=false:=(World.frozen?_of_block (a:=⟨K,5,none⟩) (hg4.block K d0 (by simp))).trans d5f)
       go_end0
       have hb4:Below w3.heap.size w3 w4:=(Below.refl _ _).grown hg4 (Nat.le_refl _) (fun j hj=>by cases hj)
       have hlen4:(st.take (st.length-tk)++out).length=st.length-tk+out.length:=by simp
       have hT4:ZeP w4 ao2 cap2 (st.take (st.length-tk)++out):=ZeP.own (base:=w3.heap.size) (by rw [hlen4,Zan];exact hown4)
       have hC4:=HC3.out.old hb4
       refine ⟨⟨_,rfl⟩,(HU3.out.bel hb4).set 5 _,.inr ⟨trivial,ao2,cap2,out,e',HPo.out,?_,?_⟩⟩
       · exact hT4.upd ((Upd.refl K K w4).set 5 _) hC4.noTy hC4.noTy
       · rw [hlen4]
         exact hC4.setS _
end
section
open Go.RowKit
structure ZhF (w:World) (b:VB) (o:Opn):Prop where
 op:b.op=o.op
 mid:b.mid=o.mid
 bn:b.bn=o.beg.length
 fn:b.fn=o.past.length
 bg:ZeP w b.bo b.bc o.beg
 ps:ZeP w b.fo b.fc o.past
structure ZhG (w:World) (N:Nat) (oo:Option Addr) (oc:Nat) (bs:List VB) (os:List Opn):Prop where
 own:w.ownsRow N 269 4 (.slice oo bs.length oc) bs.length (Zak bs)
 len:bs.length=os.length
 at_:∀ i,i<bs.length→ZhF w (bs.getD i default) (os.getD i default)
def ZhH (K:Nat):Option Addr→Nat
 | none=>K
 | some a=>a.block
theorem ZhI {w w':World}{base:Nat}{e:TypeId}{size:Nat}{v:Value}{n:Nat}{xs:List Value} (h:w.ownsRow base e size v n xs) (hk:∀ k,v.ownBlock=some k→w'.heap[k]?=w.heap[k]?):w'.ownsRow base e size v n xs:=by
 refine ⟨h.1,?_⟩
 rcases h.2 with h0|⟨g,c,cur,hv,hb,hg,h1,h2,h3,h4⟩
 ·exact .inl h0
 ·exact .inr ⟨g,c,cur,hv,hb,by rw [hk g (by rw [hv];rfl)];exact hg,h1,h2,h3,h4⟩
theorem ZhF.upd {w w':World}{b:VB}{o:Opn}{K B:Nat} (H:ZhF w b o) (h:Upd K B w w') (hK:ZeQ w K) (hB:ZeQ w B):ZhF w' b o:=
 ⟨H.op,H.mid,H.bn,H.fn,H.bg.upd h hK hB,H.ps.upd h hK hB⟩
section
variable {w:World}{N:Nat}{oo:Option Addr}{oc:Nat}{bs:List VB}{os:List Opn}(H:ZhG w N oo oc bs os)
include w N oo oc bs os H
theorem ZhG.blk {a:Addr} (ha:oo=some a):∃ g cur,a=⟨g,0,none⟩∧N≤g∧w.heap[g]?=some (.cells cur 269 (0,0)):=by
 exact k75
theorem ZhG.noTy {K:Nat} (hK:ZeQ w K):ZeQ w (ZhH K oo):=by
 exact k57
theorem ZhG.ne {K:Nat} {h:Hd} {m:Md} {L S O:Value} {e:Int} (hc:Ck w K h m L S O e) {a:Addr} (ha:oo=some a):a.block≠K:=by
 exact k86
end
theorem ZhG.upd {w w':World}{N:Nat}{oo:Option Addr}{oc:Nat}{bs:List VB}{os:List Opn}{K:Nat} (H:ZhG w N oo oc bs os) (hu:Upd K K w w') (hK:ZeQ w K) (hne:∀ a,oo=some a→a.block≠K):ZhG w' N oo oc bs os:=by
 exact k51
def ZhJ (x:Int × Bool × Nat):Bool:=decide (x.1=33)&&!x.2.1
def ZhK (l:List (Int × Bool × Nat)):Nat:=match l.reverse.find? ZhJ with
 | some x=>x.2.2
 | none=>0
theorem ZhL (bs:List VB):Ze4 bs=ZhK (bs.map fun b=>(b.op,b.mid,b.bn)):=by
 unfold Ze4 ZhK
 rw [←List.map_reverse,List.find?_map]
 have e:(ZhJ ∘ fun b:VB=>(b.op,b.mid,b.bn))=fun o:VB=>decide (o.op=33)&&!o.mid:=rfl
 rw [e]
 cases bs.reverse.find? (fun o:VB=>decide (o.op=33)&&!o.mid)<;>rfl
theorem ZhM (os:List Opn):Zev os=ZhK (os.map fun b=>(b.op,b.mid,b.beg.length)):=by
 unfold Zev ZhK
 rw [←List.map_reverse,List.find?_map]
 have e:(ZhJ ∘ fun b:Opn=>(b.op,b.mid,b.beg.length))=fun o:Opn=>decide (o.op=33)&&!o.mid:=rfl
 rw [e]
 cases os.reverse.find? (fun o:Opn=>decide (o.op=33)&&!o.mid)<;>rfl
theorem ZhN {w:World}{N:Nat}{oo:Option Addr}{oc:Nat}{bs:List VB}{os:List Opn} (H:ZhG w N oo oc bs os):Ze4 bs=Zev os:=by
 exact k39
structure St (w0 w:World) (K:Nat) (h:Hd) (m:Md) (lo:Option Addr) (lc:Nat) (ls:List Ty) (s:Ps) (so:Option Addr) (sc:Nat) (oo:Option Addr) (oc:Nat) (bs:List VB):Prop where
 ck:Ck w K h m (.slice lo ls.length lc) (.slice so s.stk.length sc) (.slice oo bs.length oc) 0
 ts:ZeP w so sc s.stk
 op:ZhG w w0.heap.size oo oc bs s.opn
 tl:ZeP w lo lc ls
 hb:Below w0.heap.size w0 w
 hK:w0.heap.size≤K
def ZhO (m:Md) (lo:List Ty) (i:In3) (s:Ps):Int × List Ty:=
 if s.stk.length<(Zex m i).1+Zev s.opn∨12<s.stk.length-(Zex m i).1+(Zex m i).2 then (12,s.stk)
 else match ZeB m lo i (s.stk.drop (s.stk.length-(Zex m i).1)) with
  | none=>(11,s.stk)
  | some t=>(0,s.stk.take (s.stk.length-(Zex m i).1)++List.replicate (Zex m i).2 t)
theorem ZhP {m:Md}{lo:List Ty}{i:In3}{s:Ps} (h1:i.op≠34) (h2:i.op≠35):ZeC m lo i s=((ZhO m lo i s).1,if (ZhO m lo i s).1=0 then ⟨(ZhO m lo i s).2,if ZaR i.op then s.opn++[⟨i.op,(ZhO m lo i s).2,[],false⟩] else s.opn⟩ else s):=by
 unfold ZeC ZhO
 rw [if_neg h1,if_neg h2]
 dsimp only
 split
 ·rfl
 ·cases ZeB m lo i (s.stk.drop (s.stk.length-(Zex m i).1))<;>rfl
def ZhQ (w':World) (K:Nat) (h:Hd) (m:Md) (lo:Option Addr) (lc:Nat) (ls:List Ty) (oo:Option Addr) (oc:Nat) (bs:List VB) (q:Int × List Ty):Prop:=
 ∃ so sc st,Ck w' K h m (.slice lo ls.length lc) (.slice so st.length sc) (.slice oo bs.length oc) q.1∧ZeP w' so sc st∧st.length≤2000∧(q.1=0→st=q.2)
def ZhR (w:World) (K:Nat) (h:Hd) (m:Md) (lo:Option Addr) (lc:Nat) (ls:List Ty) (oo:Option Addr) (oc:Nat) (bs:List VB) (q:Int × List Ty) (r:Ending) (w':World):Prop:=
 (∃ v,r=.returned v)∧Upd K K w w'∧ZhQ w' K h m lo lc ls oo oc bs q
def ZhS (w0 w':World) (K:Nat) (h:Hd) (m:Md) (lo:Option Addr) (lc:Nat) (ls:List Ty) (q:Int × Ps):Prop:=
 (q.1=0∧∃ so sc oo oc bs,St w0 w' K h m lo lc ls q.2 so sc oo oc bs)∨(q.1≠0∧∃ S O,Ck w' K h m (.slice lo ls.length lc) S O q.1)
def ZhT (w0 w:World) (K:Nat) (h:Hd) (m:Md) (lo:Option Addr) (lc:Nat) (ls:List Ty) (oo:Option Addr) (q:Int × Ps) (r:Ending) (w':World):Prop:=
 (∃ v,r=.returned v)∧Upd K (ZhH K oo) w w'∧ZhS w0 w' K h m lo lc ls q
section
variable {w0 w:World}{K:Nat}{h:Hd}{m:Md}{lo:Option Addr}{lc:Nat}{ls:List Ty}{s:Ps}{so:Option Addr}{sc:Nat}{oo:Option Addr}{oc:Nat}{bs:List VB}{i:In3}
section
variable (H:St w0 w K h m lo lc ls s so sc oo oc bs)
include H
theorem St.ne:∀ a,oo=some a→a.block≠K:=fun _ ha=>H.op.ne H.ck ha
theorem St.next {w':World} (hu:Upd K K w w') {so':Option Addr} {sc':Nat} {st:List Ty} (hc:Ck w' K h m (.slice lo ls.length lc) (.slice so' st.length sc') (.slice oo bs.length oc) 0) (ht:ZeP w' so' sc' st):
  St w0 w' K h m lo lc ls ⟨st,s.opn⟩ so' sc' oo oc bs:=
 ⟨hc,ht,H.op.upd hu H.ck.noTy H.ne,H.tl.upd hu H.ck.noTy H.ck.noTy,hu.below H.hb (Nat.le_refl _) H.hK H.hK,H.hK⟩
theorem ZhU (h1:i.op≠34) (h2:i.op≠35) (h3:ZaR i.op=false) {r:Ending} {w':World} (hd:ZhR w K h m lo lc ls oo oc bs (ZhO m ls i s) r w'):ZhT w0 w K h m lo lc ls oo (ZeC m ls i s) r w':=by
 obtain ⟨hv,hu,so',sc',st,hc,ht,_,he⟩:=hd
 refine ⟨hv,hu.more,?_⟩
 rw [ZhP h1 h2,h3]
 by_cases h0:(ZhO m ls i s).1=0
 ·refine .inl ⟨h0,so',sc',oo,oc,bs,?_⟩
  simp only [if_pos h0,Bool.false_eq_true,if_false]
  have:=he h0
  subst this
  exact H.next hu (by rw [←h0];exact hc) ht
 ·exact .inr ⟨h0,_,_,hc⟩
end
def ZhV (W:World) (K:Nat) (h:Hd) (m:Md) (L S O:Value) (P:List Ty→Int→Prop) (r:Ending) (w':World):Prop:=
 ∃ ro rc out e',r=.returned (.slice ro out.length rc)∧ZeP w' ro rc out∧Ck w' K h m L S O e'∧Upd K K W w'∧P out e'
def ZhW (n:Nat) (q:Option Ty) (out:List Ty) (e':Int):Prop:=out.length≤1000∧match q with
 | none=>e'=11
 | some t=>e'=0∧out=List.replicate n t
theorem ZhW.of {n:Nat}{q:Option Ty}{out:List Ty}{e':Int} (hl:out.length≤1000) (h0:q=none→e'=11) (h1:∀ t,q=some t→e'=0∧out=List.replicate n t):ZhW n q out e':=by
 refine ⟨hl,?_⟩
 cases q with
 | none=>exact h0 rfl
 | some t=>exact h1 t rfl
theorem ZhX (HW:Zfj m s.stk) (H:St w0 w K h m lo lc ls s so sc oo oc bs) (hd:s.opn.length≤6) (tk ps g:Nat) (caps:Array Value) (hcn:Zex m i=(tk,ps)) (htk:tk≤1000) (hps:ps≤1000)
  (cf:∀ A W,(callFunc g (A++caps)).run Tryz.prog W=.ok (.enter g (A++caps)) W)
  (hg:∀ l,l.length=tk→s.stk.drop (s.stk.length-tk)=l→∀ w1 to' tc,Upd K K w w1→Ck w1 K h m (.slice lo ls.length lc) (.slice so s.stk.length sc) (.slice oo bs.length oc) 0→w1.ownsRow w.heap.size 76 2 (.slice to' tk tc) tk (Zak l) →
   Calls Tryz.prog g (#[.slice to' tk tc]++caps) w1 (ZhV w1 K h m (.slice lo ls.length lc) (.slice so s.stk.length sc) (.slice oo bs.length oc) (ZhW ps (ZeB m ls i l)))) :
  Calls Tryz.prog 246 #[.pointer (some ⟨K,0,none⟩),.int .i64 tk,.int .i64 ps,.func (Fn.func g) #[] caps] w (ZhR w K h m lo lc ls oo oc bs (ZhO m ls i s)):=by
 have hb:=ZhN H.op
 have hlen:=H.op.len
 have hstk:=HW.1
 refine (ZhE K h m (.slice lo ls.length lc) so sc s.stk oo oc bs 0 tk ps g caps (ZhW ps (ZeB m ls i (s.stk.drop (s.stk.length-tk)))) w H.ck H.ts (by omega) (Zar.of_own H.op.own) (by omega) (by omega) ⟨by omega,by omega⟩ cf (fun out e' h=>h.1) ?_).mono ?_
 ·intro hle w1 to' tc hu hck hown
  refine (hg _ (by simp;omega) rfl w1 to' tc hu hck hown).mono ?_
  rintro r w2 ⟨ro,rc,out,e',hr,h1,h2,h3,h4⟩
  exact ⟨ro,rc,out,e',hr,h1,h2,hu.trans h3,h4⟩
 ·exact k24
end
end
section
open Go.RowKit
theorem ZhY (K:Nat) (h:Hd) (m:Md) (L S O:Value) (e a:Int) (t:Ty) (w:World) (H:Ck w K h m L S O e) (HM:Zay w h m) (ha:0≤a) (ht:t.k=2→0≤t.c∧t.c<m.cl.length) :
  Calls Tryz.prog 323 #[.pointer (some ⟨K,0,none⟩),.agg #[.int .i64 t.k,.int .i64 t.c],.int .i64 a] w fun r w'=>r=.returned (.agg #[.int .i64 ((Zey m t a).getD default).k,.int .i64 ((Zey m t a).getD default).c])∧Ck w' K h m L S O (ZeT e (Zey m t a).isSome)∧Upd K K w w':=by
 have kl:=Blk.lt H
 cases t with|mk k c=>
 have hb0:Below w.heap.size w ((w.alloc (.cells #[.int .i64 k,.int .i64 c] 76)).alloc (.cells #[.int .i64 0,.int .i64 0] 76)):=by exact bE
 have x0:=(Blk.new w #[.int .i64 k,.int .i64 c] 76).alloc (.cells #[.int .i64 0,.int .i64 0] 76)
 have x1:Blk ((w.alloc (.cells #[.int .i64 k,.int .i64 c] 76)).alloc (.cells #[.int .i64 0,.int .i64 0] 76)) (w.heap.size+1) #[.int .i64 0,.int .i64 0] 76:=Blk.new' (w:=w.alloc (.cells #[.int .i64 k,.int .i64 c] 76)) _ _ (by simp)
 have HX1:=Zh x1
 have HB0:=Zh hb0
 have HC:=Zh (H.old hb0)
 obtain ⟨W1,hW1⟩:∃ W1,W1=(w.alloc (.cells #[.int .i64 k,.int .i64 c] 76)).alloc (.cells #[.int .i64 0,.int .i64 0] 76):=⟨_,rfl⟩
 rw [←hW1] at HB0 HC x0 HX1
 have HW:=Zh hW1
 clear hb0 x1 hW1
 obtain ⟨-,k0,-,-,-,-,-,-,-⟩:=HC.out.cells
 have u0:=x0.cell 0 (v:=.int .i64 k) rfl
 have u1:=x0.cell 1 (v:=.int .i64 c) rfl
 have hsz:w.heap.size+1<W1.heap.size:=HX1.out.lt
 clear x0
 by_cases h2:k=2
 ·subst h2
  obtain ⟨hc0,hcl⟩:=ht rfl
  dsimp only at hc0 hcl
  clear ht
  obtain ⟨c,rfl⟩:∃ d:Nat,c=d:=⟨c.toNat,by omega⟩
  have hcl':c<m.cl.length:=by omega
  obtain ⟨ad,hco,-,-,e2,-⟩:=HM.cls hcl'
  have hf:=HM.f c hcl'
  rw [hco] at k0
  have hfv:Zey m ⟨2,c⟩ a=(m.cl.getD c default).f[a.toNat]?:=by simp [Zey]
  rw [hfv]
  generalize (m.cl.getD c default).f=fs at e2 hf ⊢
  have a1:(ad.add (c*4)).block<w.heap.size:=Zac (a:=⟨(ad.add (c*4)).block,(ad.add (c*4)).off+2,none⟩) e2
  by_cases h3:a<fs.length
  ·obtain ⟨a,rfl⟩:∃ d:Nat,a=d:=⟨a.toNat,by omega⟩
   have h3':a<fs.length:=by omega
   obtain ⟨fa,hfo,f0,f1⟩:=Zaz hf h3'
   have hg:fs[(a:Int).toNat]?=some (fs.getD a default):=by simp [h3']
   rw [hg]
   generalize fs.getD a default=u at f0 f1 ⊢
   rw [hfo] at e2
   have a0:(fa.add (a*2)).block<w.heap.size:=Zac f0
   simp only [Option.getD_some,Option.isSome_some]
   have hS:∀ w',Upd (w.heap.size+1) (w.heap.size+1) W1 w'→(fun w':World=>w'.cell? ⟨K,0,none⟩=some (.slice (some ad) m.cl.length h.cc)∧w'.cell? ⟨w.heap.size,0,none⟩=some (.int .i64 2)∧w'.cell? ⟨w.heap.size,1,none⟩=some (.int .i64 c)∧w'.cell? ⟨(ad.add (c*4)).block,(ad.add (c*4)).off+2,none⟩=some (.slice (some fa) fs.length (h.c c).fc)∧w'.cell? (fa.add (a*2))=some (.int .i64 u.k)∧w'.cell? ⟨(fa.add (a*2)).block,(fa.add (a*2)).off+1,none⟩=some (.int .i64 u.c)) w':=by
    intro w' hb
    have q:∀ {p:Addr}{v:Value},W1.cell? p=some v→p.block<w.heap.size+1→w'.cell? p=some v:=fun hc hp=>hb.cell hc (by omega) (by omega)
    exact ⟨q k0 (by show K<_;omega),q u0 (by show w.heap.size<_;omega),q u1 (by show w.heap.size<_;omega),q (p:=⟨(ad.add (c*4)).block,(ad.add (c*4)).off+2,none⟩) ((HB0.out.cell (p:=⟨(ad.add (c*4)).block,(ad.add (c*4)).off+2,none⟩) a1).trans e2) (by show (ad.add (c*4)).block<_;omega),q ((HB0.out.cell a0).trans f0) (by omega),q (p:=⟨(fa.add (a*2)).block,(fa.add (a*2)).off+1,none⟩) ((HB0.out.cell (p:=⟨(fa.add (a*2)).block,(fa.add (a*2)).off+1,none⟩) a0).trans f1) (by show (fa.add (a*2)).block<_;omega)⟩
   have HS:=Zh hS
   clear hf hg hS k0 u0 u1 e2 f0 f1 hfv
   go_enter Tryz.func323,Tryz.ntmps323
   go_wp2_with fail
   refine rO (fun w':World=>w'.cell? ⟨K,0,none⟩=some (.slice (some ad) m.cl.length h.cc)∧w'.cell? ⟨w.heap.size,0,none⟩=some (.int .i64 2)∧w'.cell? ⟨w.heap.size,1,none⟩=some (.int .i64 c)∧w'.cell? ⟨(ad.add (c*4)).block,(ad.add (c*4)).off+2,none⟩=some (.slice (some fa) fs.length (h.c c).fc)∧w'.cell? (fa.add (a*2))=some (.int .i64 u.k)∧w'.cell? ⟨(fa.add (a*2)).block,(fa.add (a*2)).off+1,none⟩=some (.int .i64 u.c)) (oL [0,1,2,3,4,5,6,7,8,9,10,11,12,13,14,15,16,17]) (HW.out▸HS.out _ (Upd.refl _ _ _).drew) ?_
   rw [←HW.out]
   repeat refine pO ?_
   refine Zd5 ?_
   go_wp2_with fail
   have y0:=HX1.out.cell 0 (v:=.int .i64 0) rfl
   have y1:=HX1.out.cell 1 (v:=.int .i64 0) rfl
   have g0:=HX1.out.frozen 0
   have g1:=HX1.out.frozen 1
   refine rO (fun w':World=>w'.cell? ⟨K,0,none⟩=some (.slice (some ad) m.cl.length h.cc)∧w'.cell? ⟨w.heap.size,0,none⟩=some (.int .i64 2)∧w'.cell? ⟨w.heap.size,1,none⟩=some (.int .i64 c)∧w'.cell? ⟨(ad.add (c*4)).block,(ad.add (c*4)).off+2,none⟩=some (.slice (some fa) fs.length (h.c c).fc)∧w'.cell? (fa.add (a*2))=some (.int .i64 u.k)∧w'.cell? ⟨(fa.add (a*2)).block,(fa.add (a*2)).off+1,none⟩=some (.int .i64 u.c)) (oL [0,1,2,3,4,5,6,7,8,9,10,11,12,113]) (HS.out _ (Upd.refl _ _ _).drew.drew) ?_
   repeat refine pO ?_
   refine oO fun Kv hK=>?_
   go_simp
   refine hK _ _ ⟨HS.out _ ((((Upd.refl _ _ _).drew.drew).set 0 _).set 1 _),?_⟩
   clear hK Kv
   refine Zd5 ?_
   go_wp2
   refine bodyPost_ret (v:=.agg #[.int .i64 u.k,.int .i64 u.c]) (by simp [results,Tryz.results323,go_sem,y0,y1]) rfl ⟨rfl,?_,?_⟩
   ·exact (Ck.other (Ck.other (HC.out) (by omega) 0 _) (by omega) 1 _)
   ·exact (((Upd.of HB0.out).setN (by omega) 0 _).setN (by omega) 1 _).drew.drew
  ·have hg:fs[a.toNat]?=none:=by rw [List.getElem?_eq_none];omega
   rw [hg]
   simp only [Option.getD_none,Option.isSome_none]
   have hS:∀ w',Upd (w.heap.size+1) (w.heap.size+1) W1 w'→(fun w':World=>w'.cell? ⟨K,0,none⟩=some (.slice (some ad) m.cl.length h.cc)∧w'.cell? ⟨w.heap.size,0,none⟩=some (.int .i64 2)∧w'.cell? ⟨w.heap.size,1,none⟩=some (.int .i64 c)∧w'.cell? ⟨(ad.add (c*4)).block,(ad.add (c*4)).off+2,none⟩=some (.slice (h.c c).fo fs.length (h.c c).fc)) w':=by
    intro w' hb
    have q:∀ {p:Addr}{v:Value},W1.cell? p=some v→p.block<w.heap.size+1→w'.cell? p=some v:=fun hc hp=>hb.cell hc (by omega) (by omega)
    exact ⟨q k0 (by show K<_;omega),q u0 (by show w.heap.size<_;omega),q u1 (by show w.heap.size<_;omega),q (p:=⟨(ad.add (c*4)).block,(ad.add (c*4)).off+2,none⟩) ((HB0.out.cell (p:=⟨(ad.add (c*4)).block,(ad.add (c*4)).off+2,none⟩) a1).trans e2) (by show (ad.add (c*4)).block<_;omega)⟩
   have HS:=Zh hS
   have hlt:decide ((fs.length:Int)≤a)=true:=by simp;omega
   clear hf hg hS k0 u0 u1 e2 hfv
   go_enter Tryz.func323,Tryz.ntmps323
   go_wp2_with fail
   refine rO (fun w':World=>w'.cell? ⟨K,0,none⟩=some (.slice (some ad) m.cl.length h.cc)∧w'.cell? ⟨w.heap.size,0,none⟩=some (.int .i64 2)∧w'.cell? ⟨w.heap.size,1,none⟩=some (.int .i64 c)∧w'.cell? ⟨(ad.add (c*4)).block,(ad.add (c*4)).off+2,none⟩=some (.slice (h.c c).fo fs.length (h.c c).fc)) (oL [0,1,2,3,4,5,6,7,8,9,10,11,12,13,14,15,16,17]) (HW.out▸HS.out _ (Upd.refl _ _ _).drew) ?_
   exact k26
 ·have hfv:Zey m ⟨k,c⟩ a=none:=by simp [Zey,h2]
  rw [hfv]
  simp only [Option.getD_none,Option.isSome_none]
  have hS:∀ w',Upd (w.heap.size+1) (w.heap.size+1) W1 w'→(fun w':World=>w'.cell? ⟨w.heap.size,0,none⟩=some (.int .i64 k)) w':=by
   intro w' hb
   have q:∀ {p:Addr}{v:Value},W1.cell? p=some v→p.block<w.heap.size+1→w'.cell? p=some v:=fun hc hp=>hb.cell hc (by omega) (by omega)
   exact q u0 (by show w.heap.size<_;omega)
  have HS:=Zh hS
  have hk2:(k != 2)=true:=by simpa using h2
  clear hS k0 u0 u1 hfv ht h2
  go_enter Tryz.func323,Tryz.ntmps323
  go_wp2_with fail
  refine rO (fun w':World=>w'.cell? ⟨w.heap.size,0,none⟩=some (.int .i64 k)) (oL [0,1,2,3,4,5,6,7,8,9,10,11,12,13,14,15,16,17]) (HW.out▸HS.out _ (Upd.refl _ _ _).drew) ?_
  exact k26
end
section
open Go.RowKit
theorem ZhZ {w:World}{a b:Nat}{xs ys:Array Value}{t u:TypeId} (h1:Blk w a xs t) (h2:Blk w b ys u) (hne:t≠u):a≠b:=by
 rintro rfl
 have h3:=h1.symm.trans h2
 cases h3
 exact hne rfl
theorem Zh0 {P:Program}{ops:Array Oper}{Q:Exit→Act→World→Prop}{a:Act}{w:World}{k:Nat}{K:Act→World→Prop} (d:Tmp) (hs:(ops[k]?.map fun o=>(o.dst,Region.wanted o (yielded ops a.tmps)))=some (some d,false)) (h:K { a with tmps:=a.tmps.setIfInBounds d undef } w):wpOp P ops Q k K a w:=by
 cases ho:ops[k]? with
 | none=>rw [ho] at hs;cases hs
 | some o=>
  rw [ho] at hs
  have h2:=Option.some.inj hs
  have h3:o.dst=some d:=congrArg Prod.fst h2
  refine Zhs o ho (congrArg Prod.snd h2) ?_
  rw [h3]
  exact h
theorem Ck.drew {w:World}{K:Nat}{h:Hd}{m:Md}{L S O:Value}{e:Int} (H:Ck w K h m L S O e):Ck w.drew K h m L S O e:=H
theorem Zh1 {W:World}{base:Nat}{to':Option Addr}{n tc:Nat}{xs:List Value} (h:W.ownsRow base 76 2 (.slice to' (n+1) tc) (n+1) xs) {K:Nat}{hd:Hd}{m:Md}{L S O:Value}{e:Int} (H:Ck W K hd m L S O e) :
  ∃ g,to'=some ⟨g,0,none⟩∧g≠K∧g<W.heap.size∧n+1≤tc∧∀ j v,xs[j]?=some v→W.cell? ⟨g,j,none⟩=some v:=by
 rcases h.2 with ⟨_,hn⟩|⟨g,c,cur,hv,hb,hg,hle,hm,hs,hx⟩
 ·omega
 ·cases hv
  refine ⟨g,rfl,fun q=>?_,(Array.getElem?_eq_some_iff.1 hg).1,hle,fun j v hj=>?_⟩
  ·rw [q,show W.heap[K]?=_ from H] at hg
   cases hg
  ·rw [cell_of_row W g j cur _ _ hg]
   rw [←hx,List.getElem?_take] at hj
   split at hj
   ·simpa using hj
   ·cases hj
section
variable {W w:World}{K:Nat}{h:Hd}{m:Md}{L St O:Value}{e:Int}
theorem clS {l:List (Addr × Value)} (hl:Cs l W) (hne:∀ p∈l,p.1.block≠K) (H:Ck W K h m L St O e):∀ w' e',Upd K K W w'→Ck w' K h m L St O e'→Cs l w':=by
 intro w' e' hu hc
 clear H hc
 induction l with
 | nil=>trivial
 | cons p l ih=>exact ⟨hu.cell hl.1 (hne p List.mem_cons_self) (hne p List.mem_cons_self),ih hl.2 fun q hq=>hne q (List.mem_cons_of_mem _ hq)⟩
variable {P:Program}{S:World→Prop}{Q:Exit→Act→World→Prop}{l:List Oper}{k:Nat}{t:Ord}{a a':Act}{o:Oper} (HS:∀ w' e',Upd K K W w'→Ck w' K h m L St O e'→S w') (HU:RowKit.Hid (Upd K K W w)) (HC:RowKit.Hid (Ck w K h m L St O e))
include HS HU HC
theorem kR {id:Nat} (t:Ord) (g:RowKit.Hid (Upd K K W w.drew)→RowKit.Hid (Ck w.drew K h m L St O e)→ZdY P l Q S t a w.drew) (hm:P.follows .mixedOrders=true:=by kernel_rfl)
  (hB:(Region.noSelect l.toArray&&decide (t.len=l.length)&&t.inB l.length&&ZdZ .any l.toArray t (Array.replicate l.length false))=true:=by kernel_rfl) (hQ:∀ c a d v w,Q (.panic c) (Act.put a d v) w→Q (.panic c) a w:=by intro c a d v w h;cases d<;>exact h):(Code.region id l.toArray true).wp P Q a w:=
 Zd1 S t hm hB hQ (HS _ _ HU.drew HC) (g HU.drew HC)
theorem kB {f:Nat}{args:Array Value}{v:Value} (hc:Calls P f args w (Ret w v)) (g:∀ w',RowKit.Hid (Upd K K W w')→RowKit.Hid (Ck w' K h m L St O e)→ZdY P l Q S t a' w') (ho:l.toArray[k]?=some o:=by rfl) (hw:Region.wanted o (yielded l.toArray a.tmps)=true:=by rfl)
  (hq:∀ Kv:Act→World→Prop,Calls P f args w (Ret w v)→(∀ w',Below w.heap.size w w'→Kv a' w')→o.wp P a w Kv Q:=by intro Kv hc hk;go_simp;refine hc.mono ?_;rintro _ w' ⟨rfl,hb⟩;exact hk w' hb):ZdY P l Q S (.one k t) a w:=
 oO (fun Kv hK=>hq Kv hc fun w' hb=>hK _ _ ⟨HS _ _ (HU.bel hb) (HC.old hb),g w' (HU.bel hb) (HC.old hb)⟩) ho hw
theorem kV {f:Nat}{args:Array Value}{v:Value}{e2:Int} (hc:Calls P f args w fun r w'=>r=.returned v∧Ck w' K h m L St O e2∧Upd K K w w') (g:∀ w',RowKit.Hid (Upd K K W w')→RowKit.Hid (Ck w' K h m L St O e2)→ZdY P l Q S t a' w') (ho:l.toArray[k]?=some o:=by rfl) (hw:Region.wanted o (yielded l.toArray a.tmps)=true:=by rfl)
  (hq:∀ Kv:Act→World→Prop,(Calls P f args w fun r w'=>r=.returned v∧Ck w' K h m L St O e2∧Upd K K w w')→(∀ w',Ck w' K h m L St O e2→Upd K K w w'→Kv a' w')→o.wp P a w Kv Q:=by intro Kv hc hk;go_simp;refine hc.mono ?_;rintro _ w' ⟨rfl,h1,h2⟩;exact hk w' h1 h2):ZdY P l Q S (.one k t) a w:=
 oO (fun Kv hK=>hq Kv hc fun w' h1 h2=>hK _ _ ⟨HS _ _ (HU.trans h2) h1,g w' (HU.trans h2) h1⟩) ho hw
theorem kW {f:Nat}{args:Array Value}{b':Value→Act}{e2:Int} (hc:Calls P f args w fun r w'=>(∃ v,r=.returned v)∧Ck w' K h m L St O e2∧Upd K K w w') (g:∀ v w',RowKit.Hid (Upd K K W w')→RowKit.Hid (Ck w' K h m L St O e2)→ZdY P l Q S t (b' v) w') (ho:l.toArray[k]?=some o:=by rfl) (hw:Region.wanted o (yielded l.toArray a.tmps)=true:=by rfl)
  (hq:∀ Kv:Act→World→Prop,(Calls P f args w fun r w'=>(∃ v,r=.returned v)∧Ck w' K h m L St O e2∧Upd K K w w')→(∀ v w',Ck w' K h m L St O e2→Upd K K w w'→Kv (b' v) w')→o.wp P a w Kv Q:=by intro Kv hc hk;go_simp;refine hc.mono ?_;rintro _ w' ⟨⟨v,rfl⟩,h1,h2⟩;exact hk v w' h1 h2):ZdY P l Q S (.one k t) a w:=
 oO (fun Kv hK=>hq Kv hc fun v w' h1 h2=>hK _ _ ⟨HS _ _ (HU.trans h2) h1,g v w' (HU.trans h2) h1⟩) ho hw
theorem kS (d:Tmp) (g:ZdY P l Q S t a' w) (hs:(l.toArray[k]?.map fun o=>(o.dst,Region.wanted o (yielded l.toArray a.tmps)))=some (some d,false):=by rfl)
  (ha:({ a with tmps:=a.tmps.setIfInBounds d undef }:Act)=a':=by ((try simp only [List.setIfInBounds_toArray,List.set_cons_zero,List.set_cons_succ]);rfl)):ZdY P l Q S (.one k t) a w:=
 Zd3 (Zh0 d hs (ha▸⟨HS _ _ HU HC,g⟩))
end
theorem ZeP.one_of {w:World}{ao:Option Addr}{cap:Nat}{a b:Ty} (H:ZeP w ao cap [a,b]):ZeP w ao cap [a]:=
 ⟨H.1.take 1 (by simp) cap (fun h=>by have:=(H.1.2.1 h).2;omega),by have:=H.2.1;simp at this ⊢;omega,H.2.2⟩
theorem ZhV.trans {w W:World}{K:Nat}{h:Hd}{m:Md}{L S O:Value}{P:List Ty→Int→Prop}{r:Ending}{w':World} (H:ZhV W K h m L S O P r w') (hu:Upd K K w W):ZhV w K h m L S O P r w':=by
 obtain ⟨ro,rc,out,e',h1,h2,h3,h4,h5⟩:=H
 exact ⟨ro,rc,out,e',h1,h2,h3,hu.trans h4,h5⟩
section
variable (K:Nat)(h:Hd)(m:Md)(L S O:Value)
include K h m L S O
theorem Zh2 (v:Value) (W:World) (H:Ck W K h m L S O 0):Calls Tryz.prog 253 #[v] W (ZhV W K h m L S O fun out e'=>out=[]∧e'=0):=by
 have HC:=Zh H
 clear H
 go_enter Tryz.func253,Tryz.ntmps253
 go_wp2
 go_ret
 exact ⟨none,0,[],_,rfl,ZeP.nil _,HC.out,Upd.refl K K W,rfl,rfl⟩
theorem Zh3 (a:Ty) (op ia ib:Int) (to':Option Addr) (tc base cb ib0:Nat) (W:World) (H:Ck W K h m L S O 0) (hcb:Blk W cb #[.pointer (some ⟨K,0,none⟩)] 211) (hown:W.ownsRow base 76 2 (.slice to' 1 tc) 1 (Zak [a])):
  Calls Tryz.prog 247 #[.slice to' 1 tc,.pointer (some ⟨cb,0,none⟩)] W (ZhV W K h m L S O fun out e'=>out=[]∧e'=ZeT 0 (decide (a=Zeu))):=by
 obtain ⟨g,rfl,hgK,hgl,htc,hcl⟩:=Zh1 hown H
 obtain ⟨ak,ac⟩:=a
 have HS:=Zh (clS (l:=[(⟨cb,0,none⟩,.pointer (some ⟨K,0,none⟩)),(⟨g,0,none⟩,.int .i64 ak),(⟨g,1,none⟩,.int .i64 ac)]) ⟨hcb.cell 0 rfl,hcl 0 _ rfl,hcl 1 _ rfl,trivial⟩ (by simp [hgK,ZhZ hcb H (by decide)]) (H:=H))
 have HU0:=Zh (Upd.refl K K W)
 have HC0:=Zh H
 clear H hcb
 clear hown hcl
 have hne:=ZdW
 have heq:=ZdV
 have hgu:=ZdX
 go_enter Tryz.func247,Tryz.ntmps247
 exact k32
theorem Zh4 (a:Ty) (op ia ib:Int) (to':Option Addr) (tc base cb ib0:Nat) (W:World) (H:Ck W K h m L S O 0) (hcb:Blk W cb #[.pointer (some ⟨K,0,none⟩)] 211) (hown:W.ownsRow base 76 2 (.slice to' 1 tc) 1 (Zak [a])):
  Calls Tryz.prog 261 #[.slice to' 1 tc,.pointer (some ⟨cb,0,none⟩)] W (ZhV W K h m L S O fun out e'=>out=[]∧e'=ZeT 0 (decide (a=Zeu))):=by
 obtain ⟨g,rfl,hgK,hgl,htc,hcl⟩:=Zh1 hown H
 obtain ⟨ak,ac⟩:=a
 have HS:=Zh (clS (l:=[(⟨cb,0,none⟩,.pointer (some ⟨K,0,none⟩)),(⟨g,0,none⟩,.int .i64 ak),(⟨g,1,none⟩,.int .i64 ac)]) ⟨hcb.cell 0 rfl,hcl 0 _ rfl,hcl 1 _ rfl,trivial⟩ (by simp [hgK,ZhZ hcb H (by decide)]) (H:=H))
 have HU0:=Zh (Upd.refl K K W)
 have HC0:=Zh H
 clear H hcb
 clear hown hcl
 have hne:=ZdW
 have heq:=ZdV
 have hgu:=ZdX
 go_enter Tryz.func261,Tryz.ntmps261
 exact k32
theorem Zh5 (a:Ty) (op ia ib:Int) (to':Option Addr) (tc base cb ib0:Nat) (W:World) (H:Ck W K h m L S O 0) (HMo:∀ w',Upd K K W w'→Zay w' h m) (hcb:Blk W cb #[.pointer (some ⟨K,0,none⟩)] 211) (hib:Blk W ib0 #[.int .i64 op,.int .i64 ia,.int .i64 ib] 78) (hown:W.ownsRow base 76 2 (.slice to' 1 tc) 1 (Zak [a])) (lo:Option Addr) (lc:Nat) (ls:List Ty) (hL:L=.slice lo ls.length lc) (hT:ZeP W lo lc ls) (ha:0≤ia):
  Calls Tryz.prog 256 #[.slice to' 1 tc,.pointer (some ⟨cb,0,none⟩),.pointer (some ⟨ib0,0,none⟩)] W (ZhV W K h m L S O fun out e'=>out=[]∧e'=ZeT (ZeT 0 (decide (ia<ls.length))) (decide (ZeT 0 (decide (ia<ls.length))=0)&&Zho m a (ls.getD ia.toNat default))):=by
 obtain ⟨g,rfl,hgK,hgl,htc,hcl⟩:=Zh1 hown H
 obtain ⟨ak,ac⟩:=a
 have HNo:=Zh H.noTy
 have HS:=Zh (clS (l:=[(⟨cb,0,none⟩,.pointer (some ⟨K,0,none⟩)),(⟨g,0,none⟩,.int .i64 ak),(⟨g,1,none⟩,.int .i64 ac),(⟨ib0,0,none⟩,.int .i64 op),(⟨ib0,1,none⟩,.int .i64 ia),(⟨ib0,2,none⟩,.int .i64 ib)]) ⟨hcb.cell 0 rfl,hcl 0 _ rfl,hcl 1 _ rfl,hib.cell 0 rfl,hib.cell 1 rfl,hib.cell 2 rfl,trivial⟩ (by simp [hgK,ZhZ hcb H (by decide),ZhZ hib H (by decide)]) (H:=H))
 have HU0:=Zh (Upd.refl K K W)
 have HC0:=Zh H
 have HM0:=Zh HMo
 clear H hcb hib
 obtain ⟨⟨uk,uc⟩,HLu'⟩:∃ x:Ty,x=ls.getD ia.toNat default:=⟨_,rfl⟩
 obtain ⟨lb,HLb'⟩:∃ x:Bool,x=decide (ia<ls.length):=⟨_,rfl⟩
 have HLo:=Zh (show ∀ e w',Ck w' K h m L S O e→Upd K K W w'→Calls Tryz.prog 251 #[.pointer (some ⟨K,0,none⟩),.int .i64 ia] w' fun r w''=>r=.returned (.agg #[.int .i64 uk,.int .i64 uc])∧Ck w'' K h m L S O (ZeT e lb)∧Upd K K w' w'' from fun e w' hc hu=>by have:=Zhu K h m S O lo lc ls e ia w' (hL▸hc) (hT.upd hu HNo.out HNo.out).1 ha;rw [←HLu',←HLb',←hL] at this;exact this)
 have HLu:=Zh HLu'
 clear HLu'
 have HLb:=Zh HLb'
 clear HLb'
 clear hT hL
 obtain ⟨ft,HFt'⟩:∃ x:Bool,x=Zho m ⟨ak,ac⟩ ⟨uk,uc⟩:=⟨_,rfl⟩
 have HFi:=Zh (show ∀ e w',Ck w' K h m L S O e→Upd K K W w'→Calls Tryz.prog 257 #[.pointer (some ⟨K,0,none⟩),.agg #[.int .i64 ak,.int .i64 ac],.agg #[.int .i64 uk,.int .i64 uc]] w' fun r w''=>(∃ v,r=.returned v)∧Ck w'' K h m L S O (ZeT e (decide (e=0)&&ft))∧Upd K K w' w'' from fun e w' hc hu=>by have:=Zht K h m L S O e ⟨ak,ac⟩ ⟨uk,uc⟩ w' hc (HMo w' hu);rw [←HFt'] at this;exact this)
 have HFt:=Zh HFt'
 clear HFt'
 clear hown hcl HMo
 have hne:=ZdW
 have heq:=ZdV
 have hgu:=ZdX
 go_enter Tryz.func256,Tryz.ntmps256
 go_wp2_with fail
 refine kR HS.out HU0 HC0 (oL [0,1,2,3,4,5,6,107,108]) fun HU1 HC1=>?_
 exact k41
theorem Zh6 (a b:Ty) (op ia ib:Int) (to':Option Addr) (tc base cb ib0:Nat) (W:World) (H:Ck W K h m L S O 0) (hcb:Blk W cb #[.pointer (some ⟨K,0,none⟩)] 211) (hown:W.ownsRow base 76 2 (.slice to' 2 tc) 2 (Zak [a,b])) (h1:a=Zeu):
  Calls Tryz.prog 259 #[.slice to' 2 tc,.pointer (some ⟨cb,0,none⟩)] W (ZhV W K h m L S O fun out e'=>out=[a]∧e'=ZeT 0 (decide (b=Zeu))):=by
 have HTy:=Zh (ZeP.own (l:=[a,b]) hown)
 have HNo:=Zh H.noTy
 obtain ⟨g,rfl,hgK,hgl,htc,hcl⟩:=Zh1 hown H
 obtain ⟨ak,ac⟩:=a
 obtain ⟨rfl,rfl⟩:ak=1∧ac=0:=by cases h1;exact ⟨rfl,rfl⟩
 clear h1
 obtain ⟨bk,bc⟩:=b
 have HS:=Zh (clS (l:=[(⟨cb,0,none⟩,.pointer (some ⟨K,0,none⟩)),(⟨g,0,none⟩,.int .i64 1),(⟨g,1,none⟩,.int .i64 0),(⟨g,2,none⟩,.int .i64 bk),(⟨g,3,none⟩,.int .i64 bc)]) ⟨hcb.cell 0 rfl,hcl 0 _ rfl,hcl 1 _ rfl,hcl 2 _ rfl,hcl 3 _ rfl,trivial⟩ (by simp [hgK,ZhZ hcb H (by decide)]) (H:=H))
 have HU0:=Zh (Upd.refl K K W)
 have HC0:=Zh H
 clear H hcb
 clear hown hcl
 have hne:=ZdW
 have heq:=ZdV
 have hgu:=ZdX
 go_enter Tryz.func259,Tryz.ntmps259
 go_wp2_with fail
 refine kR HS.out HU0 HC0 (oL [0,1,2,3,104,5,6,7,8,9,110,11,12,113]) fun HU1 HC1=>?_
 repeat refine pO ?_
 refine kB HS.out HU1 HC1 (Zhl _) fun w2 HU2 HC2=>?_
 repeat refine pO ?_
 refine kB HS.out HU2 HC2 (Zhl _) fun w3 HU3 HC3=>?_
 repeat refine pO ?_
 refine kW HS.out HU3 HC3 (ZeU K h m L S O _ _ _ HC3.out) fun _ w4 HU4 HC4=>?_
 repeat refine pO ?_
 refine Zd5 ?_
 go_wp2
 go_ret
 refine ⟨some ⟨g,0,none⟩,tc,[_],_,rfl,ZeP.one_of (HTy.out.upd HU4.out HNo.out HNo.out),HC4.out,HU4.out,rfl,?_⟩
 exact k82
theorem Zh7 (a b:Ty) (op ia ib:Int) (to':Option Addr) (tc base cb ib0:Nat) (W:World) (H:Ck W K h m L S O 0) (hcb:Blk W cb #[.pointer (some ⟨K,0,none⟩)] 211) (hown:W.ownsRow base 76 2 (.slice to' 2 tc) 2 (Zak [a,b])) (h1:a≠Zeu):
  Calls Tryz.prog 259 #[.slice to' 2 tc,.pointer (some ⟨cb,0,none⟩)] W (ZhV W K h m L S O fun out e'=>out=[a]∧e'=11):=by
 have HTy:=Zh (ZeP.own (l:=[a,b]) hown)
 have HNo:=Zh H.noTy
 obtain ⟨g,rfl,hgK,hgl,htc,hcl⟩:=Zh1 hown H
 obtain ⟨ak,ac⟩:=a
 obtain ⟨bk,bc⟩:=b
 have hd:(decide (ak=1)&&decide (ac=0))=false:=by
  exact k34
 clear h1
 have HS:=Zh (clS (l:=[(⟨cb,0,none⟩,.pointer (some ⟨K,0,none⟩)),(⟨g,0,none⟩,.int .i64 ak),(⟨g,1,none⟩,.int .i64 ac),(⟨g,2,none⟩,.int .i64 bk),(⟨g,3,none⟩,.int .i64 bc)]) ⟨hcb.cell 0 rfl,hcl 0 _ rfl,hcl 1 _ rfl,hcl 2 _ rfl,hcl 3 _ rfl,trivial⟩ (by simp [hgK,ZhZ hcb H (by decide)]) (H:=H))
 have HU0:=Zh (Upd.refl K K W)
 have HC0:=Zh H
 clear H hcb
 clear hown hcl
 have hne:=ZdW
 have heq:=ZdV
 have hgu:=ZdX
 go_enter Tryz.func259,Tryz.ntmps259
 go_wp2_with fail
 refine kR HS.out HU0 HC0 (oL [0,1,2,3,104,5,6,7,8,9,110,11,12,113]) fun HU1 HC1=>?_
 repeat refine pO ?_
 refine kB HS.out HU1 HC1 (Zhl _) fun w2 HU2 HC2=>?_
 repeat refine pO ?_
 refine kS HS.out HU2 HC2 14 ?_
 repeat refine pO ?_
 refine kW HS.out HU2 HC2 (ZeU K h m L S O _ _ _ HC2.out) fun _ w3 HU3 HC3=>?_
 repeat refine pO ?_
 refine Zd5 ?_
 go_wp2
 go_ret
 refine ⟨some ⟨g,0,none⟩,tc,[_],_,rfl,ZeP.one_of (HTy.out.upd HU3.out HNo.out HNo.out),HC3.out,HU3.out,rfl,?_⟩
 rfl
theorem Zh8 (a:Ty) (op ia ib:Int) (to':Option Addr) (tc base cb ib0:Nat) (W:World) (H:Ck W K h m L S O 0) (hcb:Blk W cb #[.pointer (some ⟨K,0,none⟩)] 211) (hown:W.ownsRow base 76 2 (.slice to' 1 tc) 1 (Zak [a])):
  Calls Tryz.prog 260 #[.slice to' 1 tc,.pointer (some ⟨cb,0,none⟩)] W (ZhV W K h m L S O fun out e'=>out=[Zeu]∧e'=ZeT 0 (!decide (a=Zeu))):=by
 obtain ⟨g,rfl,hgK,hgl,htc,hcl⟩:=Zh1 hown H
 obtain ⟨ak,ac⟩:=a
 have HS:=Zh (clS (l:=[(⟨cb,0,none⟩,.pointer (some ⟨K,0,none⟩)),(⟨g,0,none⟩,.int .i64 ak),(⟨g,1,none⟩,.int .i64 ac)]) ⟨hcb.cell 0 rfl,hcl 0 _ rfl,hcl 1 _ rfl,trivial⟩ (by simp [hgK,ZhZ hcb H (by decide)]) (H:=H))
 have HU0:=Zh (Upd.refl K K W)
 have HC0:=Zh H
 clear H hcb
 clear hown hcl
 have hne:=ZdW
 have heq:=ZdV
 have hgu:=ZdX
 go_enter Tryz.func260,Tryz.ntmps260
 go_wp2_with fail
 refine kR HS.out HU0 HC0 (oL [0,1,2,3,104,5,106]) fun HU1 HC1=>?_
 repeat refine pO ?_
 refine kB HS.out HU1 HC1 (Zhl _) fun w2 HU2 HC2=>?_
 repeat refine pO ?_
 refine kW HS.out HU2 HC2 (ZeU K h m L S O _ _ _ HC2.out) fun _ w3 HU3 HC3=>?_
 repeat refine pO ?_
 refine Zd5 ?_
 go_wp2_with (go_at_call 249;refine (Zhl _).mono ?_;rintro r w8 ⟨rfl,hb8⟩)
 go_ret
 refine ⟨some ⟨w8.heap.size,0,none⟩,1,[_],_,rfl,ZeP.one (t:=Zeu) (Blk.new w8 _ _),Ck.old (HC3.out.old hb8) bE,(HU3.out.bel hb8).alloc _,?_,?_⟩
 rfl
 exact k82
theorem Zh9 (a:Ty) (op ia ib:Int) (to':Option Addr) (tc base cb ib0:Nat) (W:World) (H:Ck W K h m L S O 0) (HMo:∀ w',Upd K K W w'→Zay w' h m) (hcb:Blk W cb #[.pointer (some ⟨K,0,none⟩)] 211) (hib:Blk W ib0 #[.int .i64 op,.int .i64 ia,.int .i64 ib] 78) (hown:W.ownsRow base 76 2 (.slice to' 1 tc) 1 (Zak [a])) (ha:0≤ia) (ht:a.k=2→0≤a.c∧a.c<m.cl.length):
  Calls Tryz.prog 322 #[.slice to' 1 tc,.pointer (some ⟨cb,0,none⟩),.pointer (some ⟨ib0,0,none⟩)] W (ZhV W K h m L S O fun out e'=>out=[(Zey m a ia).getD default]∧e'=ZeT 0 (Zey m a ia).isSome):=by
 obtain ⟨g,rfl,hgK,hgl,htc,hcl⟩:=Zh1 hown H
 obtain ⟨ak,ac⟩:=a
 have HS:=Zh (clS (l:=[(⟨cb,0,none⟩,.pointer (some ⟨K,0,none⟩)),(⟨g,0,none⟩,.int .i64 ak),(⟨g,1,none⟩,.int .i64 ac),(⟨ib0,0,none⟩,.int .i64 op),(⟨ib0,1,none⟩,.int .i64 ia),(⟨ib0,2,none⟩,.int .i64 ib)]) ⟨hcb.cell 0 rfl,hcl 0 _ rfl,hcl 1 _ rfl,hib.cell 0 rfl,hib.cell 1 rfl,hib.cell 2 rfl,trivial⟩ (by simp [hgK,ZhZ hcb H (by decide),ZhZ hib H (by decide)]) (H:=H))
 have HU0:=Zh (Upd.refl K K W)
 have HC0:=Zh H
 have HM0:=Zh HMo
 clear H hcb hib
 obtain ⟨⟨uk,uc⟩,HLu'⟩:∃ x:Ty,x=(Zey m ⟨ak,ac⟩ ia).getD default:=⟨_,rfl⟩
 obtain ⟨lb,HLb'⟩:∃ x:Bool,x=(Zey m ⟨ak,ac⟩ ia).isSome:=⟨_,rfl⟩
 have HLo:=Zh (show ∀ e w',Ck w' K h m L S O e→Upd K K W w'→Calls Tryz.prog 323 #[.pointer (some ⟨K,0,none⟩),.agg #[.int .i64 ak,.int .i64 ac],.int .i64 ia] w' fun r w''=>r=.returned (.agg #[.int .i64 uk,.int .i64 uc])∧Ck w'' K h m L S O (ZeT e lb)∧Upd K K w' w'' from fun e w' hc hu=>by have:=ZhY K h m L S O e ia ⟨ak,ac⟩ w' hc (HMo w' hu) ha ht;rw [←HLu',←HLb'] at this;exact this)
 have HLu:=Zh HLu'
 clear HLu'
 have HLb:=Zh HLb'
 clear HLb'
 clear ht
 clear hown hcl HMo
 have hne:=ZdW
 have heq:=ZdV
 have hgu:=ZdX
 go_enter Tryz.func322,Tryz.ntmps322
 go_wp2_with fail
 refine kR HS.out HU0 HC0 (oL [0,1,2,3,4,5,106,107,8]) fun HU1 HC1=>?_
 repeat refine pO ?_
 refine kV HS.out HU1 HC1 (HLo.out _ _ HC1.out HU1.out) fun w2 HU2 HC2=>?_
 repeat refine pO ?_
 refine oO fun Kv hK=>?_
 go_simp
 have HU3:=Zh (HU2.out.alloc (.cells #[.int .i64 uk,.int .i64 uc] 76))
 have HC3:=Zh (Ck.old (w':=w2.alloc (.cells #[.int .i64 uk,.int .i64 uc] 76)) HC2.out bE)
 refine hK _ _ ⟨HS.out _ _ HU3.out HC3.out,?_⟩
 clear hK Kv
 repeat refine pO ?_
 refine Zd5 ?_
 go_wp2
 go_ret
 refine ⟨some ⟨w2.heap.size,0,none⟩,1,[_],_,rfl,ZeP.one (t:=⟨uk,uc⟩) (Blk.new w2 _ _),HC3.out,HU3.out,?_,?_⟩
 rw [←HLu.out]
 rw [HLb.out]
theorem Zia (a b:Ty) (op ia ib:Int) (to':Option Addr) (tc base cb ib0:Nat) (W:World) (H:Ck W K h m L S O 0) (HMo:∀ w',Upd K K W w'→Zay w' h m) (hcb:Blk W cb #[.pointer (some ⟨K,0,none⟩)] 211) (hib:Blk W ib0 #[.int .i64 op,.int .i64 ia,.int .i64 ib] 78) (hown:W.ownsRow base 76 2 (.slice to' 2 tc) 2 (Zak [a,b])) (ha:0≤ia) (ht:a.k=2→0≤a.c∧a.c<m.cl.length):
  Calls Tryz.prog 324 #[.slice to' 2 tc,.pointer (some ⟨cb,0,none⟩),.pointer (some ⟨ib0,0,none⟩)] W (ZhV W K h m L S O fun out e'=>out=[]∧e'=ZeT (ZeT 0 (Zey m a ia).isSome) (decide (ZeT 0 (Zey m a ia).isSome=0)&&Zho m b ((Zey m a ia).getD default))):=by
 obtain ⟨g,rfl,hgK,hgl,htc,hcl⟩:=Zh1 hown H
 obtain ⟨ak,ac⟩:=a
 obtain ⟨bk,bc⟩:=b
 have HS:=Zh (clS (l:=[(⟨cb,0,none⟩,.pointer (some ⟨K,0,none⟩)),(⟨g,0,none⟩,.int .i64 ak),(⟨g,1,none⟩,.int .i64 ac),(⟨g,2,none⟩,.int .i64 bk),(⟨g,3,none⟩,.int .i64 bc),(⟨ib0,0,none⟩,.int .i64 op),(⟨ib0,1,none⟩,.int .i64 ia),(⟨ib0,2,none⟩,.int .i64 ib)]) ⟨hcb.cell 0 rfl,hcl 0 _ rfl,hcl 1 _ rfl,hcl 2 _ rfl,hcl 3 _ rfl,hib.cell 0 rfl,hib.cell 1 rfl,hib.cell 2 rfl,trivial⟩ (by simp [hgK,ZhZ hcb H (by decide),ZhZ hib H (by decide)]) (H:=H))
 have HU0:=Zh (Upd.refl K K W)
 have HC0:=Zh H
 have HM0:=Zh HMo
 clear H hcb hib
 obtain ⟨⟨uk,uc⟩,HLu'⟩:∃ x:Ty,x=(Zey m ⟨ak,ac⟩ ia).getD default:=⟨_,rfl⟩
 obtain ⟨lb,HLb'⟩:∃ x:Bool,x=(Zey m ⟨ak,ac⟩ ia).isSome:=⟨_,rfl⟩
 have HLo:=Zh (show ∀ e w',Ck w' K h m L S O e→Upd K K W w'→Calls Tryz.prog 323 #[.pointer (some ⟨K,0,none⟩),.agg #[.int .i64 ak,.int .i64 ac],.int .i64 ia] w' fun r w''=>r=.returned (.agg #[.int .i64 uk,.int .i64 uc])∧Ck w'' K h m L S O (ZeT e lb)∧Upd K K w' w'' from fun e w' hc hu=>by have:=ZhY K h m L S O e ia ⟨ak,ac⟩ w' hc (HMo w' hu) ha ht;rw [←HLu',←HLb'] at this;exact this)
 have HLu:=Zh HLu'
 clear HLu'
 have HLb:=Zh HLb'
 clear HLb'
 clear ht
 obtain ⟨ft,HFt'⟩:∃ x:Bool,x=Zho m ⟨bk,bc⟩ ⟨uk,uc⟩:=⟨_,rfl⟩
 have HFi:=Zh (show ∀ e w',Ck w' K h m L S O e→Upd K K W w'→Calls Tryz.prog 257 #[.pointer (some ⟨K,0,none⟩),.agg #[.int .i64 bk,.int .i64 bc],.agg #[.int .i64 uk,.int .i64 uc]] w' fun r w''=>(∃ v,r=.returned v)∧Ck w'' K h m L S O (ZeT e (decide (e=0)&&ft))∧Upd K K w' w'' from fun e w' hc hu=>by have:=Zht K h m L S O e ⟨bk,bc⟩ ⟨uk,uc⟩ w' hc (HMo w' hu);rw [←HFt'] at this;exact this)
 have HFt:=Zh HFt'
 clear HFt'
 clear hown hcl HMo
 have hne:=ZdW
 have heq:=ZdV
 have hgu:=ZdX
 go_enter Tryz.func324,Tryz.ntmps324
 go_wp2_with fail
 refine kR HS.out HU0 HC0 (oL [0,1,2,3,4,5,6,7,8,9,110,111]) fun HU1 HC1=>?_
 exact k41
theorem Zib (a b:Ty) (op ia ib:Int) (to':Option Addr) (tc base cb ib0:Nat) (W:World) (H:Ck W K h m L S O 0) (hcb:Blk W cb #[.pointer (some ⟨K,0,none⟩)] 211) (hown:W.ownsRow base 76 2 (.slice to' 2 tc) 2 (Zak [a,b])):
  Calls Tryz.prog 325 #[.slice to' 2 tc,.pointer (some ⟨cb,0,none⟩)] W (ZhV W K h m L S O fun out e'=>out=[(Zez a).getD default]∧e'=ZeT (ZeT 0 (decide (b=Zeu))) (Zez a).isSome):=by
 obtain ⟨g,rfl,hgK,hgl,htc,hcl⟩:=Zh1 hown H
 obtain ⟨ak,ac⟩:=a
 obtain ⟨bk,bc⟩:=b
 have HS:=Zh (clS (l:=[(⟨cb,0,none⟩,.pointer (some ⟨K,0,none⟩)),(⟨g,0,none⟩,.int .i64 ak),(⟨g,1,none⟩,.int .i64 ac),(⟨g,2,none⟩,.int .i64 bk),(⟨g,3,none⟩,.int .i64 bc)]) ⟨hcb.cell 0 rfl,hcl 0 _ rfl,hcl 1 _ rfl,hcl 2 _ rfl,hcl 3 _ rfl,trivial⟩ (by simp [hgK,ZhZ hcb H (by decide)]) (H:=H))
 have HU0:=Zh (Upd.refl K K W)
 have HC0:=Zh H
 clear H hcb
 obtain ⟨⟨uk,uc⟩,HLu'⟩:∃ x:Ty,x=(Zez ⟨ak,ac⟩).getD default:=⟨_,rfl⟩
 obtain ⟨lb,HLb'⟩:∃ x:Bool,x=(Zez ⟨ak,ac⟩).isSome:=⟨_,rfl⟩
 have HLo:=Zh (show ∀ e w',Ck w' K h m L S O e→Upd K K W w'→Calls Tryz.prog 326 #[.pointer (some ⟨K,0,none⟩),.agg #[.int .i64 ak,.int .i64 ac]] w' fun r w''=>r=.returned (.agg #[.int .i64 uk,.int .i64 uc])∧Ck w'' K h m L S O (ZeT e lb)∧Upd K K w' w'' from fun e w' hc hu=>by have:=Zhv K h m L S O e ⟨ak,ac⟩ w' hc;rw [←HLu',←HLb'] at this;exact this)
 have HLu:=Zh HLu'
 clear HLu'
 have HLb:=Zh HLb'
 clear HLb'
 clear hown hcl
 have hne:=ZdW
 have heq:=ZdV
 have hgu:=ZdX
 go_enter Tryz.func325,Tryz.ntmps325
 go_wp2_with fail
 refine kR HS.out HU0 HC0 (oL [0,1,2,3,104,5,106]) fun HU1 HC1=>?_
 repeat refine pO ?_
 refine kB HS.out HU1 HC1 (Zhl _) fun w2 HU2 HC2=>?_
 repeat refine pO ?_
 refine kW HS.out HU2 HC2 (ZeU K h m L S O _ _ _ HC2.out) fun _ w3 HU3 HC3=>?_
 repeat refine pO ?_
 refine Zd5 ?_
 go_wp2_with fail
 refine kR HS.out HU3 HC3 (oL [0,1,2,3,104,105,6]) fun HU4 HC4=>?_
 repeat refine pO ?_
 refine kV HS.out HU4 HC4 (HLo.out _ _ HC4.out HU4.out) fun w5 HU5 HC5=>?_
 repeat refine pO ?_
 refine oO fun Kv hK=>?_
 go_simp
 have HU6:=Zh (HU5.out.alloc (.cells #[.int .i64 uk,.int .i64 uc] 76))
 have HC6:=Zh (Ck.old (w':=w5.alloc (.cells #[.int .i64 uk,.int .i64 uc] 76)) HC5.out bE)
 refine hK _ _ ⟨HS.out _ _ HU6.out HC6.out,?_⟩
 clear hK Kv
 repeat refine pO ?_
 refine Zd5 ?_
 go_wp2
 go_ret
 refine ⟨some ⟨w5.heap.size,0,none⟩,1,[_],_,rfl,ZeP.one (t:=⟨uk,uc⟩) (Blk.new w5 _ _),HC6.out,HU6.out,?_,?_⟩
 rw [←HLu.out]
 rw [HLb.out,Zhp];rfl
theorem Zic (a b d:Ty) (op ia ib:Int) (to':Option Addr) (tc base cb ib0:Nat) (W:World) (H:Ck W K h m L S O 0) (HMo:∀ w',Upd K K W w'→Zay w' h m) (hcb:Blk W cb #[.pointer (some ⟨K,0,none⟩)] 211) (hown:W.ownsRow base 76 2 (.slice to' 3 tc) 3 (Zak [a,b,d])):
  Calls Tryz.prog 327 #[.slice to' 3 tc,.pointer (some ⟨cb,0,none⟩)] W (ZhV W K h m L S O fun out e'=>out=[]∧e'=ZeT (ZeT (ZeT 0 (decide (b=Zeu))) (Zez a).isSome) (decide (ZeT (ZeT 0 (decide (b=Zeu))) (Zez a).isSome=0)&&Zho m d ((Zez a).getD default))):=by
 obtain ⟨g,rfl,hgK,hgl,htc,hcl⟩:=Zh1 hown H
 obtain ⟨ak,ac⟩:=a
 obtain ⟨bk,bc⟩:=b
 obtain ⟨dk,dc⟩:=d
 have HS:=Zh (clS (l:=[(⟨cb,0,none⟩,.pointer (some ⟨K,0,none⟩)),(⟨g,0,none⟩,.int .i64 ak),(⟨g,1,none⟩,.int .i64 ac),(⟨g,2,none⟩,.int .i64 bk),(⟨g,3,none⟩,.int .i64 bc),(⟨g,4,none⟩,.int .i64 dk),(⟨g,5,none⟩,.int .i64 dc)]) ⟨hcb.cell 0 rfl,hcl 0 _ rfl,hcl 1 _ rfl,hcl 2 _ rfl,hcl 3 _ rfl,hcl 4 _ rfl,hcl 5 _ rfl,trivial⟩ (by simp [hgK,ZhZ hcb H (by decide)]) (H:=H))
 have HU0:=Zh (Upd.refl K K W)
 have HC0:=Zh H
 have HM0:=Zh HMo
 clear H hcb
 obtain ⟨⟨uk,uc⟩,HLu'⟩:∃ x:Ty,x=(Zez ⟨ak,ac⟩).getD default:=⟨_,rfl⟩
 obtain ⟨lb,HLb'⟩:∃ x:Bool,x=(Zez ⟨ak,ac⟩).isSome:=⟨_,rfl⟩
 have HLo:=Zh (show ∀ e w',Ck w' K h m L S O e→Upd K K W w'→Calls Tryz.prog 326 #[.pointer (some ⟨K,0,none⟩),.agg #[.int .i64 ak,.int .i64 ac]] w' fun r w''=>r=.returned (.agg #[.int .i64 uk,.int .i64 uc])∧Ck w'' K h m L S O (ZeT e lb)∧Upd K K w' w'' from fun e w' hc hu=>by have:=Zhv K h m L S O e ⟨ak,ac⟩ w' hc;rw [←HLu',←HLb'] at this;exact this)
 have HLu:=Zh HLu'
 clear HLu'
 have HLb:=Zh HLb'
 clear HLb'
 obtain ⟨ft,HFt'⟩:∃ x:Bool,x=Zho m ⟨dk,dc⟩ ⟨uk,uc⟩:=⟨_,rfl⟩
 have HFi:=Zh (show ∀ e w',Ck w' K h m L S O e→Upd K K W w'→Calls Tryz.prog 257 #[.pointer (some ⟨K,0,none⟩),.agg #[.int .i64 dk,.int .i64 dc],.agg #[.int .i64 uk,.int .i64 uc]] w' fun r w''=>(∃ v,r=.returned v)∧Ck w'' K h m L S O (ZeT e (decide (e=0)&&ft))∧Upd K K w' w'' from fun e w' hc hu=>by have:=Zht K h m L S O e ⟨dk,dc⟩ ⟨uk,uc⟩ w' hc (HMo w' hu);rw [←HFt'] at this;exact this)
 have HFt:=Zh HFt'
 clear HFt'
 clear hown hcl HMo
 have hne:=ZdW
 have heq:=ZdV
 have hgu:=ZdX
 go_enter Tryz.func327,Tryz.ntmps327
 go_wp2_with fail
 refine kR HS.out HU0 HC0 (oL [0,1,2,3,104,5,106]) fun HU1 HC1=>?_
 repeat refine pO ?_
 refine kB HS.out HU1 HC1 (Zhl _) fun w2 HU2 HC2=>?_
 repeat refine pO ?_
 refine kW HS.out HU2 HC2 (ZeU K h m L S O _ _ _ HC2.out) fun _ w3 HU3 HC3=>?_
 repeat refine pO ?_
 refine Zd5 ?_
 go_wp2_with fail
 refine kR HS.out HU3 HC3 (oL [0,1,2,3,4,5,6,7,108,109]) fun HU4 HC4=>?_
 repeat refine pO ?_
 refine kV HS.out HU4 HC4 (HLo.out _ _ HC4.out HU4.out) fun w5 HU5 HC5=>?_
 repeat refine pO ?_
 refine kW HS.out HU5 HC5 (HFi.out _ _ HC5.out HU5.out) fun _ w6 HU6 HC6=>?_
 repeat refine pO ?_
 refine Zd5 ?_
 go_wp2
 go_ret
 refine ⟨none,0,[],_,rfl,ZeP.nil _,HC6.out,HU6.out,rfl,?_⟩
 rw [HFt.out,HLb.out,HLu.out,Zhp];rfl
theorem Zid (a:Ty) (op ia ib:Int) (to':Option Addr) (tc base cb ib0:Nat) (W:World) (H:Ck W K h m L S O 0) (hcb:Blk W cb #[.pointer (some ⟨K,0,none⟩)] 211) (hown:W.ownsRow base 76 2 (.slice to' 1 tc) 1 (Zak [a])):
  Calls Tryz.prog 328 #[.slice to' 1 tc,.pointer (some ⟨cb,0,none⟩)] W (ZhV W K h m L S O fun out e'=>out=[Zeu]∧e'=ZeT 0 (Zez a).isSome):=by
 obtain ⟨g,rfl,hgK,hgl,htc,hcl⟩:=Zh1 hown H
 obtain ⟨ak,ac⟩:=a
 have HS:=Zh (clS (l:=[(⟨cb,0,none⟩,.pointer (some ⟨K,0,none⟩)),(⟨g,0,none⟩,.int .i64 ak),(⟨g,1,none⟩,.int .i64 ac)]) ⟨hcb.cell 0 rfl,hcl 0 _ rfl,hcl 1 _ rfl,trivial⟩ (by simp [hgK,ZhZ hcb H (by decide)]) (H:=H))
 have HU0:=Zh (Upd.refl K K W)
 have HC0:=Zh H
 clear H hcb
 obtain ⟨⟨uk,uc⟩,HLu'⟩:∃ x:Ty,x=(Zez ⟨ak,ac⟩).getD default:=⟨_,rfl⟩
 obtain ⟨lb,HLb'⟩:∃ x:Bool,x=(Zez ⟨ak,ac⟩).isSome:=⟨_,rfl⟩
 have HLo:=Zh (show ∀ e w',Ck w' K h m L S O e→Upd K K W w'→Calls Tryz.prog 326 #[.pointer (some ⟨K,0,none⟩),.agg #[.int .i64 ak,.int .i64 ac]] w' fun r w''=>r=.returned (.agg #[.int .i64 uk,.int .i64 uc])∧Ck w'' K h m L S O (ZeT e lb)∧Upd K K w' w'' from fun e w' hc hu=>by have:=Zhv K h m L S O e ⟨ak,ac⟩ w' hc;rw [←HLu',←HLb'] at this;exact this)
 have HLu:=Zh HLu'
 clear HLu'
 have HLb:=Zh HLb'
 clear HLb'
 clear hown hcl
 have hne:=ZdW
 have heq:=ZdV
 have hgu:=ZdX
 go_enter Tryz.func328,Tryz.ntmps328
 go_wp2_with fail
 refine kR HS.out HU0 HC0 (oL [0,1,2,3,104]) fun HU1 HC1=>?_
 repeat refine pO ?_
 refine kV HS.out HU1 HC1 (HLo.out _ _ HC1.out HU1.out) fun w2 HU2 HC2=>?_
 repeat refine pO ?_
 refine Zd5 ?_
 go_wp2_with (go_at_call 249;refine (Zhl _).mono ?_;rintro r w8 ⟨rfl,hb8⟩)
 go_ret
 refine ⟨some ⟨w8.heap.size,0,none⟩,1,[_],_,rfl,ZeP.one (t:=Zeu) (Blk.new w8 _ _),Ck.old (HC2.out.old hb8) bE,(HU2.out.bel hb8).alloc _,?_,?_⟩
 rfl
 rw [HLb.out]
theorem Zie (a:Ty) (op ia ib:Int) (to':Option Addr) (tc base cb ib0:Nat) (W:World) (H:Ck W K h m L S O 0) (hcb:Blk W cb #[.pointer (some ⟨K,0,none⟩)] 211) (hib:Blk W ib0 #[.int .i64 op,.int .i64 ia,.int .i64 ib] 78) (hown:W.ownsRow base 76 2 (.slice to' 1 tc) 1 (Zak [a])) (lo:Option Addr) (lc:Nat) (ls:List Ty) (hL:L=.slice lo ls.length lc) (hT:ZeP W lo lc ls) (ha:0≤ib) (h1:a=Zeu):
  Calls Tryz.prog 250 #[.slice to' 1 tc,.pointer (some ⟨cb,0,none⟩),.pointer (some ⟨ib0,0,none⟩)] W (ZhV W K h m L S O fun out e'=>out=[]∧e'=ZeT (ZeT 0 (decide (ib<ls.length))) (decide (ls.getD ib.toNat default=Zeu))):=by
 obtain ⟨g,rfl,hgK,hgl,htc,hcl⟩:=Zh1 hown H
 obtain ⟨ak,ac⟩:=a
 obtain ⟨rfl,rfl⟩:ak=1∧ac=0:=by cases h1;exact ⟨rfl,rfl⟩
 clear h1
 have HNo:=Zh H.noTy
 have HS:=Zh (clS (l:=[(⟨cb,0,none⟩,.pointer (some ⟨K,0,none⟩)),(⟨g,0,none⟩,.int .i64 1),(⟨g,1,none⟩,.int .i64 0),(⟨ib0,0,none⟩,.int .i64 op),(⟨ib0,1,none⟩,.int .i64 ia),(⟨ib0,2,none⟩,.int .i64 ib)]) ⟨hcb.cell 0 rfl,hcl 0 _ rfl,hcl 1 _ rfl,hib.cell 0 rfl,hib.cell 1 rfl,hib.cell 2 rfl,trivial⟩ (by simp [hgK,ZhZ hcb H (by decide),ZhZ hib H (by decide)]) (H:=H))
 have HU0:=Zh (Upd.refl K K W)
 have HC0:=Zh H
 clear H hcb hib
 obtain ⟨⟨uk,uc⟩,HLu'⟩:∃ x:Ty,x=ls.getD ib.toNat default:=⟨_,rfl⟩
 obtain ⟨lb,HLb'⟩:∃ x:Bool,x=decide (ib<ls.length):=⟨_,rfl⟩
 have HLo:=Zh (show ∀ e w',Ck w' K h m L S O e→Upd K K W w'→Calls Tryz.prog 251 #[.pointer (some ⟨K,0,none⟩),.int .i64 ib] w' fun r w''=>r=.returned (.agg #[.int .i64 uk,.int .i64 uc])∧Ck w'' K h m L S O (ZeT e lb)∧Upd K K w' w'' from fun e w' hc hu=>by have:=Zhu K h m S O lo lc ls e ib w' (hL▸hc) (hT.upd hu HNo.out HNo.out).1 ha;rw [←HLu',←HLb',←hL] at this;exact this)
 have HLu:=Zh HLu'
 clear HLu'
 have HLb:=Zh HLb'
 clear HLb'
 clear hT hL
 clear hown hcl
 have hne:=ZdW
 have heq:=ZdV
 have hgu:=ZdX
 go_enter Tryz.func250,Tryz.ntmps250
 go_wp2_with fail
 refine kR HS.out HU0 HC0 (oL [0,1,2,3,104,5,6,7,8,9,110,111,12,13,114]) fun HU1 HC1=>?_
 repeat refine pO ?_
 refine kB HS.out HU1 HC1 (Zhl _) fun w2 HU2 HC2=>?_
 repeat refine pO ?_
 refine kV HS.out HU2 HC2 (HLo.out _ _ HC2.out HU2.out) fun w3 HU3 HC3=>?_
 repeat refine pO ?_
 refine kB HS.out HU3 HC3 (Zhl _) fun w4 HU4 HC4=>?_
 repeat refine pO ?_
 refine kW HS.out HU4 HC4 (ZeU K h m L S O _ _ _ HC4.out) fun _ w5 HU5 HC5=>?_
 repeat refine pO ?_
 refine Zd5 ?_
 go_wp2
 go_ret
 refine ⟨none,0,[],_,rfl,ZeP.nil _,HC5.out,HU5.out,rfl,?_⟩
 rw [HLb.out,←HLu.out,Zhp];rfl
theorem Zif (a:Ty) (op ia ib:Int) (to':Option Addr) (tc base cb ib0:Nat) (W:World) (H:Ck W K h m L S O 0) (hcb:Blk W cb #[.pointer (some ⟨K,0,none⟩)] 211) (hib:Blk W ib0 #[.int .i64 op,.int .i64 ia,.int .i64 ib] 78) (hown:W.ownsRow base 76 2 (.slice to' 1 tc) 1 (Zak [a])) (h1:a≠Zeu):
  Calls Tryz.prog 250 #[.slice to' 1 tc,.pointer (some ⟨cb,0,none⟩),.pointer (some ⟨ib0,0,none⟩)] W (ZhV W K h m L S O fun out e'=>out=[]∧e'=11):=by
 obtain ⟨g,rfl,hgK,hgl,htc,hcl⟩:=Zh1 hown H
 obtain ⟨ak,ac⟩:=a
 have hd:(decide (ak=1)&&decide (ac=0))=false:=by
  exact k34
 clear h1
 have HS:=Zh (clS (l:=[(⟨cb,0,none⟩,.pointer (some ⟨K,0,none⟩)),(⟨g,0,none⟩,.int .i64 ak),(⟨g,1,none⟩,.int .i64 ac),(⟨ib0,0,none⟩,.int .i64 op),(⟨ib0,1,none⟩,.int .i64 ia),(⟨ib0,2,none⟩,.int .i64 ib)]) ⟨hcb.cell 0 rfl,hcl 0 _ rfl,hcl 1 _ rfl,hib.cell 0 rfl,hib.cell 1 rfl,hib.cell 2 rfl,trivial⟩ (by simp [hgK,ZhZ hcb H (by decide),ZhZ hib H (by decide)]) (H:=H))
 have HU0:=Zh (Upd.refl K K W)
 have HC0:=Zh H
 clear H hcb hib
 clear hown hcl
 have hne:=ZdW
 have heq:=ZdV
 have hgu:=ZdX
 go_enter Tryz.func250,Tryz.ntmps250
 go_wp2_with fail
 refine kR HS.out HU0 HC0 (oL [0,1,2,3,104,5,6,7,8,9,110,111,12,13,114]) fun HU1 HC1=>?_
 repeat refine pO ?_
 refine kB HS.out HU1 HC1 (Zhl _) fun w2 HU2 HC2=>?_
 repeat refine pO ?_
 refine kS HS.out HU2 HC2 15 ?_
 repeat refine pO ?_
 refine kS HS.out HU2 HC2 16 ?_
 repeat refine pO ?_
 refine kW HS.out HU2 HC2 (ZeU K h m L S O _ _ _ HC2.out) fun _ w3 HU3 HC3=>?_
 repeat refine pO ?_
 refine Zd5 ?_
 go_wp2
 go_ret
 refine ⟨none,0,[],_,rfl,ZeP.nil _,HC3.out,HU3.out,rfl,?_⟩
 rfl
end
end
end Go.Proofs.YtcfjblcgceednaaGreat
