import Derived.Test.YtfmcclhfnpcokaaGreatG9
import Derived.Deep.Upon
set_option linter.all false
set_option maxRecDepth 100000
set_option maxHeartbeats 4000000
namespace Go.Proofs.YtfmcclhfnpcokaaGreat
theorem k24{p:Prop}(h:p:=by
 rintro r w' ⟨hv,hu,hq⟩;refine ⟨hv,hu,?_⟩;rw [hb] at hq;unfold ZhS;rw [hcn];dsimp only;rcases hq with ⟨hq,hc⟩|⟨hq,so',sc',out,e',hp,ht,hc⟩
 ·exact k66
 ·rw [if_neg (by simp only [Zff,Bool.and_eq_true,decide_eq_true_eq] at hq;omega)];have hlo:(s.stk.take (s.stk.length-tk)++out).length≤2000:=by have:=hp.1;simp;omega
  obtain ⟨-,hp⟩:=hp;split at hp
  ·subst hp;exact ⟨so',sc',_,hc,ht,hlo,fun h0=>by cases h0⟩
  ·rename_i t hn;obtain ⟨rfl,rfl⟩:=hp;exact ⟨so',sc',_,hc,ht,hlo,fun _=>rfl⟩):p:=h
theorem k26{p:Prop}(h:p:=by
 rw [←HW.out]
 repeat refine pO ?_
 refine Zd7 ?_
 go_wp2_with (go_at_call 252;refine (ZeU K h m _ _ _ e 11 W1.drew HC.out).mono ?_;rintro e w2 ⟨⟨v,rfl⟩,hc,hu⟩;have hx:=Blk.upd (w:=W1.drew) HX1.out hu (by omega) (by omega);have y0:=hx.cell 0 (v:=.int .i64 0) rfl;have y1:=hx.cell 1 (v:=.int .i64 0) rfl;have g0:=hx.frozen 0;have g1:=hx.frozen 1)
 refine bodyPost_ret (v:=.agg #[.int .i64 0,.int .i64 0]) (by simp [results,Tryz.results258,go_sem,y0,y1]) rfl ⟨rfl,?_,?_⟩
 ·exact (Ck.other (Ck.other (hc) (by omega) 0 _) (by omega) 1 _)
 ·exact (((Upd.of HB0.out).drew.trans hu).setN (by omega) 0 _).setN (by omega) 1 _):p:=h
theorem k32{p:Prop}(h:p:=by
 go_wp2_with fail
 refine kR HS.out HU0 HC0 (oL [0,1,2,3,104,5,106]) fun HU1 HC1=>?_
 repeat refine pO ?_
 refine kB HS.out HU1 HC1 (Zho _) fun w2 HU2 HC2=>?_
 repeat refine pO ?_
 refine kW HS.out HU2 HC2 (ZeW K h m L S O _ _ _ HC2.out) fun _ w3 HU3 HC3=>?_
 repeat refine pO ?_
 refine Zd7 ?_;go_wp2;go_ret;refine ⟨none,0,[],_,rfl,ZeR.nil _,HC3.out,HU3.out,rfl,?_⟩;exact k82):p:=h
theorem k34{p:Prop}(h:p:=by
 cases hh:(decide (ak=1)&&decide (ac=0))
 ·rfl
 ·simp only [Bool.and_eq_true,decide_eq_true_eq] at hh;exact absurd (by rw [hh.1,hh.2];rfl) h1):p:=h
theorem k39{p:Prop}(h:p:=by
 rw [ZhP,ZhQ];congr 1;apply List.ext_getElem
 ·simp [H.len]
 ·intro i h1 h2;have h1':i<bs.length:=by simpa using h1
  have h2':i<os.length:=by simpa using h2
  have hb:=H.at_ i h1';rw [show bs.getD i default=bs[i] by simp [h1'],show os.getD i default=os[i] by simp [h2']] at hb;simp only [List.getElem_map];rw [hb.op,hb.mid,hb.bn]):p:=h
theorem k41{p:Prop}(h:p:=by
 repeat refine pO ?_
 refine kV HS.out HU1 HC1 (HLo.out _ _ HC1.out HU1.out) fun w2 HU2 HC2=>?_
 repeat refine pO ?_
 refine kW HS.out HU2 HC2 (HFi.out _ _ HC2.out HU2.out) fun _ w3 HU3 HC3=>?_
 repeat refine pO ?_
 refine Zd7 ?_;go_wp2;go_ret;refine ⟨none,0,[],_,rfl,ZeR.nil _,HC3.out,HU3.out,rfl,?_⟩;rw [HFt.out,HLb.out,HLu.out]):p:=h
theorem k51{p:Prop}(h:p:=by
 refine ⟨ZhM H.own fun k hk=>?_,H.len,fun i hi=>(H.at_ i hi).upd hu hK hK⟩;cases oo with
 | none=>cases hk
 | some a=>
  cases hk;have hn:=hne a rfl;obtain ⟨g,cur,rfl,_,hg⟩:=H.blk rfl;exact hu.block _ (Array.getElem?_eq_some_iff.1 hg).1 hn hn):p:=h
theorem k57{p:Prop}(h:p:=by
 cases oo with
 | none=>exact hK
 | some a=>
  obtain ⟨g,cur,rfl,_,hg⟩:=H.blk rfl;refine ⟨(Array.getElem?_eq_some_iff.1 hg).1,fun xs z hx=>?_⟩;rw [show w.heap[ZhL K (some ⟨g,0,none⟩)]?=_ from hg] at hx;cases hx):p:=h
theorem k66{p:Prop}(h:p:=by
 rw [if_pos (by simp only [Zff,Bool.and_eq_false_iff,decide_eq_false_iff_not] at hq;omega)];exact ⟨so,sc,s.stk,hc,H.ts.upd hu H.ck.noTy H.ck.noTy,by omega,fun h0=>by cases h0⟩):p:=h
theorem k75{p:Prop}(h:p:=by
 rcases H.own.2 with ⟨hv,_⟩|⟨g,c,cur,hv,hb,hg,_⟩
 ·rw [ha] at hv;cases hv
 ·rw [ha] at hv;cases hv;exact ⟨g,cur,rfl,hb,hg⟩):p:=h
theorem k82{p:Prop}(h:p:=by
 rw [Zhs];first|rfl|(rw [Bool.not_and];rfl)|(simp [Zew];done)):p:=h
theorem k86{p:Prop}(h:p:=by
 obtain ⟨g,cur,rfl,_,hg⟩:=H.blk ha;intro e;rw [show g=K from e,show w.heap[K]?=_ from hc] at hg;cases hg):p:=h
section
open Go.RowKit
theorem Blk.upd {w w':World}{b:Nat}{xs:Array Value}{t:TypeId}{K B:Nat} (H:Blk w b xs t) (h:Upd K B w w') (hK:b≠K) (hB:b≠B):Blk w' b xs t:=by unfold Blk;rw [h.block b H.lt hK hB];exact H
theorem Upd.setN {K B:Nat}{a b:World} (h:Upd K B a b) {c:Nat} (hc:a.heap.size≤c) (j:Nat) (v:Value):Upd K B a (b.setCell ⟨c,j,none⟩ v):=
 ⟨h.os,h.tape,h.output,by simpa [World.setCell] using h.size,fun k g d f=>(Below.heap_setCell _ _ _ _ (by show k≠c;omega)).trans (h.block k g d f)⟩
theorem Ck.other {w:World}{K:Nat}{h:Hd}{m:Md}{L S O:Value}{e:Int} (H:Ck w K h m L S O e) {c:Nat} (hc:K≠c) (j:Nat) (v:Value):Ck (w.setCell ⟨c,j,none⟩ v) K h m L S O e:=Blk.other H hc v
theorem Zhy (K:Nat) (h:Hd) (m:Md) (S O:Value) (lo:Option Addr) (lc:Nat) (ls:List Ty) (e a:Int) (w:World) (H:Ck w K h m (.slice lo ls.length lc) S O e)
  (g:Zas w lo lc ls) (G:0≤a) :
  Calls Tryz.prog 190 #[ZQ.p K,.int .i64 a] w fun r w'=>r=.returned (.agg #[.int .i64 (ls.getD a.toNat default).k,.int .i64 (ls.getD a.toNat default).c])∧Ck w' K h m (.slice lo ls.length lc) S O (ZeV e (decide (a<ls.length)))∧Upd K K w w':=by
 have j:=Zh H;by_cases h1:a<ls.length
 ·obtain ⟨c,rfl⟩:∃ c:Nat,a=c:=⟨a.toNat,by omega⟩;have f:c<ls.length:=by omega
  obtain ⟨D,rfl,n,y⟩:=ZaA g f;obtain ⟨z,-,-,-,-,x,-,-,-⟩:=H.cells;rw [Int.toNat_natCast];generalize ls.getD c default=t at n y ⊢;have b:ZeV e (decide ((c:Int) < ls.length))=e:=by simp [ZeV,h1]
  rw [b];have C:=Zad n;clear b H g;go_enter Tryz.func190,Tryz.ntmps190;go_wp2;refine bodyPost_ret (v:=.agg #[.int .i64 t.k,.int .i64 t.c]) (by simp [results,Tryz.results190,go_sem]) rfl ⟨rfl,?_,?_⟩
  ·exact j.out.old bE
  ·exact Upd.of bE
 ·have b:ZeV e (decide (a<ls.length))=ZeT e 11:=by simp [ZeV,h1]
  have q:ls.getD a.toNat default=⟨0,0⟩:=by rw [List.getD_eq_getElem?_getD,List.getElem?_eq_none (by omega)];rfl
  obtain ⟨z,-,-,-,-,x,-,-,-⟩:=H.cells;rw [b,q];clear b q H g;go_enter Tryz.func190,Tryz.ntmps190
  go_wp2_with (go_at_call 252;refine (ZeU K h m _ _ _ e 11 _ (j.out.old bE)).mono ?_;rintro e I ⟨⟨v,rfl⟩,f,u⟩;have d:=(Blk.new w #[.int .i64 0,.int .i64 0] 38).upd u (by omega) (by omega);have A:=d.cell 0 (v:=.int .i64 0) rfl;have B:=d.cell 1 (v:=.int .i64 0) rfl;have E:=d.frozen 0;have F:=d.frozen 1)
  refine bodyPost_ret (v:=.agg #[.int .i64 0,.int .i64 0]) (by simp [results,Tryz.results190,go_sem,A,B]) rfl ⟨rfl,?_,?_⟩
  ·exact (f.other (by omega) _ _).other (by omega) _ _
  ·exact (((Upd.of bE).trans u).setN (Nat.le_refl _) _ _).setN (Nat.le_refl _) _ _
theorem Zhz (K:Nat) (h:Hd) (m:Md) (L S O:Value) (e:Int) (t:Ty) (w:World) (H:Ck w K h m L S O e) :
  Calls Tryz.prog 261 #[ZQ.p K,.agg #[.int .i64 t.k,.int .i64 t.c]] w fun r w'=>r=.returned (.agg #[.int .i64 ((ZeB t).getD default).k,.int .i64 ((ZeB t).getD default).c])∧Ck w' K h m L S O (ZeV e (ZeB t).isSome)∧Upd K K w w':=by
 have B:=Blk.lt H;have q:=Zh H;clear H;cases t with|mk k c=>
 by_cases h1:k=3
 ·subst h1;have f:ZeB ⟨3,c⟩=some ⟨1,0⟩:=rfl;rw [f];clear f;go_enter Tryz.func261,Tryz.ntmps261
  go_wp2_with (go_at_call 188;refine (Zho _).mono ?_;rintro e A ⟨rfl,g⟩;have d:=(Blk.new' (w:=w.alloc (.cells #[.int .i64 3,.int .i64 c] 38)) (b:=w.heap.size+1) #[.int .i64 0,.int .i64 0] 38 (by simp)).old g;have j:=d.cell 0 (v:=.int .i64 0) rfl;have n:=d.cell 1 (v:=.int .i64 0) rfl;have u:=d.frozen 0;have x:=d.frozen 1;clear d)
  refine bodyPost_ret (v:=.agg #[.int .i64 1,.int .i64 0]) (by simp [results,Tryz.results261,go_sem,j,n]) rfl ⟨rfl,?_,?_⟩
  ·exact (Ck.other ((q.out.old bE).old g) (by omega) _ _).other (by omega) _ _
  ·exact (((Upd.of bE).bel g).setN (by omega) _ _).setN (by omega) _ _
 ·by_cases h2:k=4
  ·subst h2;have f:ZeB ⟨4,c⟩=some ⟨2,c⟩:=rfl;rw [f];clear f;go_enter Tryz.func261,Tryz.ntmps261
   go_wp2_with (go_at_call 213;refine (Zhq _ _).mono ?_;rintro e A ⟨rfl,g⟩;have d:=(Blk.new' (w:=w.alloc (.cells #[.int .i64 4,.int .i64 c] 38)) (b:=w.heap.size+1) #[.int .i64 0,.int .i64 0] 38 (by simp)).old g;have j:=d.cell 0 (v:=.int .i64 0) rfl;have n:=d.cell 1 (v:=.int .i64 0) rfl;have u:=d.frozen 0;have x:=d.frozen 1;clear d)
   refine bodyPost_ret (v:=.agg #[.int .i64 2,.int .i64 c]) (by simp [results,Tryz.results261,go_sem,j,n]) rfl ⟨rfl,?_,?_⟩
   ·exact (Ck.other ((q.out.old bE).old g) (by omega) _ _).other (by omega) _ _
   ·exact (((Upd.of bE).bel g).setN (by omega) _ _).setN (by omega) _ _
  ·have f:ZeB ⟨k,c⟩=none:=by simp [ZeB,h1,h2]
   have C:(k == 3)=false:=by simpa using h1
   have D:(k == 4)=false:=by simpa using h2
   rw [f];clear f h1 h2;go_enter Tryz.func261,Tryz.ntmps261
   go_wp2_with (go_at_call 252;refine (ZeU K h m _ _ _ e 11 _ (q.out.old bE)).mono ?_;rintro e E ⟨⟨v,rfl⟩,z,y⟩;have d:=(Blk.new' (w:=w.alloc (.cells #[.int .i64 k,.int .i64 c] 38)) (b:=w.heap.size+1) #[.int .i64 0,.int .i64 0] 38 (by simp)).upd y (by omega) (by omega);have j:=d.cell 0 (v:=.int .i64 0) rfl;have n:=d.cell 1 (v:=.int .i64 0) rfl;have u:=d.frozen 0;have x:=d.frozen 1;clear d)
   refine bodyPost_ret (v:=.agg #[.int .i64 0,.int .i64 0]) (by simp [results,Tryz.results261,go_sem,j,n]) rfl ⟨rfl,?_,?_⟩
   ·exact (Ck.other (z) (by omega) _ _).other (by omega) _ _
   ·exact (((Upd.of bE).trans y).setN (by omega) _ _).setN (by omega) _ _
end
section
open Go.RowKit
def ZhA (W:World) (l:List Ty):Ending→World→Prop:=fun e w'=>∃ ro rc,e=.returned (.slice ro l.length rc)∧ZeR w' ro rc l∧(∀ a,ro=some a→W.heap.size≤a.block)∧Below W.heap.size W w'
theorem ZeR.nil (w:World):ZeR w none 0 []:=⟨Zas.nil w,Nat.le_refl _,fun a h=>by cases h⟩
theorem ZeR.one {w:World}{b:Nat}{t:Ty} (H:Blk w b #[.int .i64 t.k,.int .i64 t.c] 38):ZeR w (some ⟨b,0,none⟩) 1 [t]:=
 ⟨ZdN H rfl,Nat.le_refl _,fun a h=>by cases h;exact ⟨_,_,H⟩⟩
def ZhB (t:Ty):List Ty:=if t.k=0 then [] else [t]
theorem ZhC (t:Ty) (w:World):Calls Tryz.prog 132 #[.agg #[.int .i64 t.k,.int .i64 t.c]] w (ZhA w (ZhB t)):=by
 by_cases h0:t.k=0
 ·have b:ZhB t=[]:=by simp [ZhB,h0]
  rw [b];clear b;go_enter Tryz.func132,Tryz.ntmps132;go_wp2;go_ret;exact ⟨none,0,rfl,ZeR.nil _,fun a h=>(by cases h),by exact bE⟩
 ·have b:ZhB t=[t]:=by simp [ZhB,h0]
  have c:(t.k == 0)=false:=by simpa using h0
  rw [b];clear b h0;go_enter Tryz.func132,Tryz.ntmps132;go_wp2;go_ret;exact ⟨some ⟨w.heap.size+1,0,none⟩,1,rfl,ZeR.one (Blk.new' (w:=w.alloc (.cells #[.int .i64 t.k,.int .i64 t.c] 38)) _ _ (by simp)),fun a h=>(by cases h;show _≤_+1;omega),by exact bE⟩
theorem ZhD (t:Ty) (B:Nat) (v:Value) (w:World) (b:Blk w B #[.int .i64 t.k,.int .i64 t.c] 38):Calls Tryz.prog 254 #[v,ZQ.p B] w (ZhA w [t]):=by have c:=b.cell 0 (v:=.int .i64 t.k) rfl;have d:=b.cell 1 (v:=.int .i64 t.c) rfl;have f:=b.lt;clear b;go_enter Tryz.func254,Tryz.ntmps254;go_wp2;go_ret;exact ⟨some ⟨w.heap.size,0,none⟩,1,rfl,ZeR.one (Blk.new w _ _),fun a h=>(by cases h;exact Nat.le_refl _),by exact bE⟩
end
section
open Go.RowKit
theorem ZhE (W:World) (ao:Option Addr) (cap:Nat) (l:List Ty) (h:Zas W ao cap l) (A:l.length≤1000000) :
    Calls Tryz.prog 126 #[.slice ao l.length cap] W (Zfi 38 W l):=by
 cases ao with
 | none=>
   have n:l.length=0:=(h.2.1 rfl).1;have g:cap=0:=(h.2.1 rfl).2;have j:l=[]:=by cases l with|nil=>rfl|cons x r=>simp at n
   subst j;subst g;clear h;have d:=fun w=>Lib.run_eql_slice_nil (P:=Tryz.prog) w 23 38 none 0 0 0 0 Tryz.underlying23;simp only [List.length_nil] at *;go_enter Tryz.func126,Tryz.ntmps126;go_wp2;go_ret;exact ⟨⟨none,0,rfl,⟨rfl,.inl ⟨rfl,rfl⟩⟩⟩,Below.refl _ _⟩
 | some a=>
   have v:=Zh h;clear h;have y:=Zh (World.ownsRow_made (e:=38) (size:=2) W #[] 0 (Nat.le_refl _) (by decide) rfl);have d:=fun w=>Lib.run_eql_slice_nil (P:=Tryz.prog) w 23 38 (some a) l.length cap 0 0 Tryz.underlying23;go_enter Tryz.func126,Tryz.ntmps126
   go_wp2_with (first
     | (at_builtin;refine Zak rfl (.tmp 5) (.tmp 6) 23 rfl W.heap.size 38 2 16 Zfh (.slice (some ⟨W.heap.size,0,none⟩) 0 0) 0 [] rfl y.out (some a) l.length cap (Zal l) rfl (SlA.alloc (w:=W) v.out _) (Zar l) (by omega) (by unfold maxLen;omega) (by simp) ?_
        intro f c B b u;simp only [Nat.zero_add,List.nil_append] at b ⊢;have q:=((Below.refl W.heap.size W).alloc (Nat.le_refl _) (.cells #[] 38)).grown u (by simp) (by intro k z;simp [Value.ownBlock] at z;omega);have p:=Zh (And.intro b q);clear b u q))
   go_ret;exact ⟨⟨f,c,rfl,p.out.1⟩,p.out.2⟩
theorem ZeR.own {w:World}{base:Nat}{ao:Option Addr}{cap:Nat}{l:List Ty} (h:w.ownsRow base 38 2 (.slice ao l.length cap) l.length (Zal l)):ZeR w ao cap l:=by
 refine ⟨Zas.of_own h,?_,?_⟩
 ·rcases h.2 with ⟨b,p⟩|⟨g,c,f,b,_,_,j,_⟩
  ·omega
  ·rw [(Value.slice.inj b).2.2];exact j
 ·intro a d;rcases h.2 with ⟨b,p⟩|⟨g,c,f,b,_,n,_⟩
  ·rw [(Value.slice.inj b).1] at d;cases d
  ·rw [(Value.slice.inj b).1] at d;cases d;exact ⟨_,_,n⟩
end
section
open Go.RowKit
theorem ZhF {P:Program}{w:World}{o:Oper}{a:Act}{K:Act→World→Prop}{Q:Exit→Act→World→Prop} (s x:Operand) (t:TypeId)
  (y:o.op=.call { callee:=.builtin .append,args:=#[s,x],argTypes:=#[t,t] })
  (e:TypeId) (size d:Nat) (b:El P t e size d)
  (ao:Option Addr) (n cap:Nat) (A:a.eval s=.slice ao n cap) (p:n≤cap) (bo:Option Addr) (c:Nat) (C:a.eval x=.slice bo 0 c)
  (h:K (a.put o.dst (.slice ao n cap)) w):o.wp P a w K Q:=by
 obtain ⟨i,z,v,E,q,r,D⟩:=b.info;have g:Src P i.size t (.slice bo 0 c) 0 [] w:=by
  cases bo with
  | none=>exact Src.ofNil w b.und c
  | some ad=>exact Src.ofSlice w b.und ad 0 c [] (by simp) (fun j u B=>by simp at B) (by simp)
 have f:=run_append_nothing (P:=P) w t t o.type e i b.und v ao n cap p (.slice bo 0 c) g;unfold Oper.wp;simp [execOp,y,resolve,invoke,builtin,A,C,f,Result.andThen];exact h
theorem ZhG {P:Program}{c:Array Oper}{Q:Exit→Act→World→Prop}{o:Oper}{b:List Oper}{a:Act}{w:World} (d:o.guard=none) (h:o.wp P a w (wpList P c Q b) Q):wpList P c Q (o :: b) a w:=by show (if Region.wanted o (yielded c a.tmps) then _ else _);rw [if_pos (by simp [Region.wanted,d])];exact .inl h
theorem ZeR.takeA {w:World}{ad:Addr}{sc:Nat}{st:List Ty} (H:ZeR w (some ad) sc st) {k:Nat} (hk:k≤st.length):ZeR w (some ad) k (st.take k):=
 ⟨H.1.take k hk k (fun h=>by cases h),by simp;omega,H.2.2⟩
theorem ZeR.dropA {w:World}{ad:Addr}{sc:Nat}{st:List Ty} (H:ZeR w (some ad) sc st) (k:Nat) (hk:k≤st.length):Zas w (some (ad.add (k*2))) (sc-k) (st.drop k):=by
 obtain ⟨b,n,p⟩:=H;refine ⟨by rw [Zan],(fun h=>by cases h),fun j u g=>⟨_,rfl,?_⟩⟩;have f:Zal st=Zal (st.take k)++Zal (st.drop k):=by rw [←Zao,List.take_append_drop]
 obtain ⟨a',c,d⟩:=b.2.2 (k*2+j) u (by
  rw [f,List.getElem?_append_right (by rw [Zan];simp [Cells.n];omega),Zan];rw [←g];congr 1;simp [Cells.n];omega)
 cases c;have e:(ad.add (k*2)).add j=ad.add (k*2+j):=by
  unfold Addr.add;split<;>split<;>split<;>simp_all<;>omega
 rw [e];exact d
theorem ZhH (K:Nat) (h:Hd) (m:Md) (L:Value) (O:Value) (f:Int) (g:Nat) (c:Array Value) (P:List Ty→Int→Prop) (w:World) (e:Int)
  (H:Ck w K h m L (.slice none 0 0) O e)
  (HC:Calls Tryz.prog 194 #[ZQ.p K,.int .i64 0,.int .i64 f] w fun r w'=>r=.returned (.bool true)∧Ck w' K h m L (.slice none 0 0) O e∧Upd K K w w')
  (cf:∀ A W,(callFunc g (A++c)).run Tryz.prog W=.ok (.enter g (A++c)) W)
  (hP:∀ b e',P b e'→b.length≤1000)
  (hg:∀ w1 p X,Upd K K w w1→Ck w1 K h m L (.slice none 0 0) O e→w1.ownsRow w.heap.size 38 2 (.slice p 0 X) 0 (Zal ([]:List Ty)) →
   Calls Tryz.prog g (#[.slice p 0 X]++c) w1 fun r w2=>∃ ro rc b e',r=.returned (.slice ro b.length rc)∧ZeR w2 ro rc b∧Ck w2 K h m L (.slice none 0 0) O e'∧Upd K K w w2∧P b e') :
  Calls Tryz.prog 185 #[ZQ.p K,.int .i64 0,.int .i64 f,.func (Fn.func g) #[] c] w fun r w'=>(∃ v,r=.returned v)∧Upd K K w w' ∧
   ∃ U T b e',P b e'∧ZeR w' U T b∧Ck w' K h m L (.slice U b.length T) O e':=by
 have HC:=Zh HC;have HH:=Zh H;have HG:=Zh hg;have HP:=Zh hP;clear H hg hP;go_enter Tryz.func185,Tryz.ntmps185
 go_wp2_with (first|(go_at_call 194;refine HC.out.mono ?_;rintro r w1 ⟨rfl,B,M⟩;obtain ⟨c0,-,-,-,-,-,c5,c6,-⟩:=Ck.cells B)|(go_at_call 126;refine (ZhE w1 none 0 [] (Zas.nil _) (by simp)).mono ?_;rintro r w2 ⟨⟨p,X,rfl,q⟩,z⟩))
 refine (HG.out w2 p X (M.bel z) (B.old z) (Zef q M.size)).mono ?_;rintro r V ⟨ro,rc,b,e',rfl,J,d,R,I⟩;have aa:=Zh J;have D:=Zh d;have E:=Zh R;have x:=Zh I;obtain ⟨d0,-,-,-,-,-,d5,d6,-⟩:=d.cells;have ac:V.frozen? ⟨K,5,none⟩=false:=Blk.frozen d 5;clear J d R I q B M z c0 c5 c6;by_cases hout:b=[]
 ·subst hout;simp only [List.length_nil] at *
  go_wp2_with (at_builtin;refine ZhG rfl ?_;refine ZhF (.tmp 38) (.tmp 39) 23 rfl 38 2 16 Zfh _ _ _ rfl (Nat.le_refl _) _ _ rfl ?_)
  go_end0;exact ⟨⟨_,rfl⟩,E.out.set 5 _,none,0,[],e',x.out,ZeR.nil _,D.out.setS _⟩
 ·have ad:0<b.length:=List.length_pos_iff.2 hout;have aj:=HP.out _ _ x.out;have Z:=Zh (show SlA V 2 none 0 0 [] from ⟨rfl,fun _=>⟨rfl,rfl⟩,fun j u M=>by simp at M⟩);clear hout
  go_wp2_with (at_builtin;refine ZhG rfl ?_;refine Zeh (.tmp 38) (.tmp 39) 23 rfl 38 2 16 Zfh _ 0 _ [] rfl Z.out _ b.length _ (Zal b) rfl aa.out.1 (Zar b) ad (by omega) (by omega) (by unfold maxLen;omega) ?_;intro ab F Y n C;have aq:Y.cell? ⟨K,5,none⟩=some (.slice none 0 0):=(World.cell?_of_block (a:=⟨K,5,none⟩) (C.block K d0 (by simp))).trans d5;have ar:Y.frozen? ⟨K,5,none⟩=false:=(World.frozen?_of_block (a:=⟨K,5,none⟩) (C.block K d0 (by simp))).trans ac;simp only [Nat.zero_add,List.nil_append] at n ⊢)
  go_end0;have G:Below V.heap.size V Y:=(Below.refl _ _).grown C (Nat.le_refl _) (fun j hj=>by cases hj);have y:=D.out.old G;exact ⟨⟨_,rfl⟩,(E.out.bel G).set 5 _,ab,F,b,e',x.out,(ZeR.own (base:=V.heap.size) n).upd ((Upd.refl K K Y).set 5 _) y.noTy y.noTy,y.setS _⟩
theorem ZhI (K:Nat) (h:Hd) (m:Md) (L:Value) (so:Option Addr) (sc:Nat) (b:List Ty) (oo:Option Addr) (oc:Nat) (bs:List VB) (e:Int) (d:Nat) (f:Int) (g:Nat) (D:Array Value) (P:List Ty→Int→Prop) (w:World)
    (H:Ck w K h m L (.slice so b.length sc) (.slice oo bs.length oc) e) (hs:ZeR w so sc b) (a5:b.length≤1000) (ho:Zas w oo oc bs) (aE:bs.length≤1000000) (ht:d≤1000000000) (hp:0≤f∧f≤1000000000)
    (cf:∀ A W,(callFunc g (A++D)).run Tryz.prog W=.ok (.enter g (A++D)) W)
    (hP:∀ c e',P c e'→c.length≤1000)
    (hg:d≤b.length→∀ w1 G tc,Upd K K w w1→Ck w1 K h m L (.slice so b.length sc) (.slice oo bs.length oc) e→w1.ownsRow w.heap.size 38 2 (.slice G d tc) d (Zal (b.drop (b.length-d))) →
      Calls Tryz.prog g (#[.slice G d tc]++D) w1 fun r w2=>∃ ro rc c e',r=.returned (.slice ro c.length rc)∧ZeR w2 ro rc c∧Ck w2 K h m L (.slice so b.length sc) (.slice oo bs.length oc) e'∧Upd K K w w2∧P c e') :
    Calls Tryz.prog 185 #[ZQ.p K,.int .i64 d,.int .i64 f,.func (Fn.func g) #[] D] w fun r w'=>(∃ v,r=.returned v)∧Upd K K w w' ∧
      ((Zff b.length d f (Ze6 bs)=false∧Ck w' K h m L (.slice so b.length sc) (.slice oo bs.length oc) (ZeT e 12)) ∨
       (Zff b.length d f (Ze6 bs)=true∧∃ al ak c e',P c e'∧ZeR w' al ak (b.take (b.length-d)++c)∧Ck w' K h m L (.slice al (b.take (b.length-d)++c).length ak) (.slice oo bs.length oc) e')):=by
 have hc:=Zfg K h m L so b.length sc oo oc bs e d f w H ho aE (by omega) (by omega) hp;have HC:=Zh hc;have HH:=Zh H;have HT:=Zh hs;have HG:=Zh hg;have HP:=Zh hP;clear hc H hs hg hP ho;generalize hq:Zff b.length d f (Ze6 bs)=q at HC ⊢;have HQ:=Zh hq;clear hq;rcases q with _|_
 · go_enter Tryz.func185,Tryz.ntmps185
   go_wp2_with (go_at_call 194;refine HC.out.mono ?_;rintro r w1 ⟨rfl,B,F⟩)
   refine bodyPost_ret (results_none rfl _ _ _) rfl ?_;exact ⟨⟨_,rfl⟩,F,.inl ⟨trivial,by simpa using B⟩⟩
 · have aw:d≤b.length:=by have:=HQ.out;simp only [Zff,Bool.and_eq_true,decide_eq_true_eq] at this;omega
   have aD:∀ w1,Upd K K w w1→∃ co cc,(so.map fun x=>if sc=b.length-d then x else x.add ((b.length-d)*2))=co∧sc-(b.length-d)=cc∧Calls Tryz.prog 126 #[.slice co (b.length-(b.length-d)) cc] w1 (Zfi 38 w1 (b.drop (b.length-d))):=by
     intro w1 F;refine ⟨_,_,rfl,rfl,?_⟩;have hT:=HT.out.upd F HH.out.noTy HH.out.noTy;have am:=hT.2.1;rw [show b.length-(b.length-d)=(b.drop (b.length-d)).length by simp];refine ZhE w1 _ _ _ ?_ (by simp;omega);cases so with
     | none=>
       have h1:=(hT.1.2.1 rfl);have h2:b=[]:=by cases b with|nil=>rfl|cons x r=>simp at h1
       subst h2;simp only [List.drop_nil,List.length_nil,Nat.zero_sub,Option.map_none,h1.2];exact Zas.nil _
     | some I=>
       by_cases hsc:sc=b.length-d
       · have h0:b.drop (b.length-d)=[]:=by rw [List.drop_eq_nil_iff];omega
         rw [h0];exact ⟨by simp [Zal],(fun h=>by simp at h),fun j u F=>by simp [Zal] at F⟩
       · simp only [Option.map_some,if_neg hsc];exact hT.dropA _ (by omega)
   have aj:=Zh aD;clear aD;by_cases hsc:sc=b.length-d
   · cases so with
     | none=>
       have h0:=HT.out.1.2.1 rfl;obtain rfl:b=[]:=List.length_eq_zero_iff.1 h0.1;obtain rfl:sc=0:=h0.2;obtain rfl:d=0:=by simpa using aw
       refine (ZhH K h m L (.slice oo bs.length oc) f g D P w e HH.out HC.out cf HP.out (fun w1 G tc h1 h2 h3=>HG.out (Nat.le_refl _) w1 G tc h1 h2 h3)).mono ?_;rintro r w' ⟨hv,F,al,ak,c,e',h1,h2,h3⟩;exact ⟨hv,F,.inr ⟨rfl,al,ak,c,e',h1,h2,h3⟩⟩
     | some I=>
       go_enter Tryz.func185,Tryz.ntmps185
       go_wp2_with (first|(go_at_call 194;refine HC.out.mono ?_;rintro r w1 ⟨rfl,B,F⟩;obtain ⟨c0,-,-,-,-,-,c5,c6,-⟩:=Ck.cells (show Ck w1 K h m L (.slice (some I) b.length sc) (.slice oo bs.length oc) e from B))|(go_at_call 126;obtain ⟨co,cc,q1,q2,ac⟩:=aj.out w1 F;simp only [Option.map_some,if_pos hsc] at q1;obtain rfl:cc=0:=(by omega);subst q1;refine ac.mono ?_;rintro r w2 ⟨⟨G,tc,rfl,y⟩,T⟩))
       have V:(b.drop (b.length-d)).length=d:=by simp;omega
       rw [V] at y;have E:Ck w1 K h m L (.slice (some I) b.length sc) (.slice oo bs.length oc) e:=by simpa using B
       rw [show b.length-(b.length-d)=d by omega];refine (HG.out aw w2 G tc (F.bel T) (E.old T) (Zef y F.size)).mono ?_;rintro r Y ⟨ro,rc,c,e',rfl,ag,n,ah,af⟩;have ar:=Zh ag;have z:=Zh n;have M:=Zh ah;have J:=Zh af;obtain ⟨d0,-,-,-,-,-,d5,d6,-⟩:=n.cells;have au:Y.frozen? ⟨K,5,none⟩=false:=Blk.frozen n 5;clear ag n ah af y ac B E F T q2 c0 c5 c6 HC aj;have aa:=Zh (HT.out.upd M.out HH.out.noTy HH.out.noTy);have am:b.length≤sc:=HT.out.2.1;by_cases hout:c=[]
       · subst hout;simp only [List.length_nil] at *
         go_wp2_with (at_builtin;refine ZhG rfl ?_;refine ZhF (.tmp 38) (.tmp 39) 23 rfl 38 2 16 Zfh _ _ _ rfl (Nat.le_refl _) _ _ rfl ?_)
         go_end0;refine ⟨⟨_,rfl⟩,M.out.set 5 _,.inr ⟨trivial,some I,b.length-d,[],e',J.out,?_,?_⟩⟩
         · rw [List.append_nil];exact (aa.out.takeA (by omega)).upd ((Upd.refl K K Y).set 5 _) z.out.noTy z.out.noTy
         · rw [List.append_nil,List.length_take,Nat.min_eq_left (by omega)];exact z.out.setS _
       · have ax:0<c.length:=List.length_pos_iff.2 hout;have aF:=HP.out _ _ J.out;have ae:SlA Y 2 (some I) (b.length-d) (b.length-d) (Zal (b.take (b.length-d))):=by have:=(aa.out.takeA (k:=b.length-d) (by omega)).1;unfold Zas at this;rw [List.length_take,Nat.min_eq_left (by omega)] at this;exact this
         have ap:=Zh ae;clear ae hout
         go_wp2_with (at_builtin;refine ZhG rfl ?_;refine Zeh (.tmp 38) (.tmp 39) 23 rfl 38 2 16 Zfh _ (b.length-d) _ (Zal (b.take (b.length-d))) rfl ap.out _ c.length _ (Zal c) rfl ar.out.1 (Zar c) ax (by omega) (by omega) (by unfold maxLen;omega) ?_;intro Z C w4 X U;have aR:w4.cell? ⟨K,5,none⟩=some (.slice (some I) b.length sc):=(World.cell?_of_block (a:=⟨K,5,none⟩) (U.block K d0 (by simp))).trans d5;have aS:w4.frozen? ⟨K,5,none⟩=false:=(World.frozen?_of_block (a:=⟨K,5,none⟩) (U.block K d0 (by simp))).trans au)
         go_end0;have ab:Below Y.heap.size Y w4:=(Below.refl _ _).grown U (Nat.le_refl _) (fun j hj=>by cases hj);have p:(b.take (b.length-d)++c).length=b.length-d+c.length:=by simp
         have av:ZeR w4 Z C (b.take (b.length-d)++c):=ZeR.own (base:=Y.heap.size) (by rw [p,Zao];exact X);have R:=z.out.old ab;refine ⟨⟨_,rfl⟩,(M.out.bel ab).set 5 _,.inr ⟨trivial,Z,C,c,e',J.out,?_,?_⟩⟩
         · exact av.upd ((Upd.refl K K w4).set 5 _) R.noTy R.noTy
         · rw [p];exact R.setS _
   · obtain ⟨I,rfl⟩:∃ I,so=some I:=by
       cases so with
       | some I=>exact ⟨I,rfl⟩
       | none=>have:=HT.out.1.2.1 rfl;omega
     go_enter Tryz.func185,Tryz.ntmps185
     go_wp2_with (first|(go_at_call 194;refine HC.out.mono ?_;rintro r w1 ⟨rfl,B,F⟩;obtain ⟨c0,-,-,-,-,-,c5,c6,-⟩:=Ck.cells (show Ck w1 K h m L (.slice (some I) b.length sc) (.slice oo bs.length oc) e from B))|(go_at_call 126;obtain ⟨co,cc,q1,q2,ac⟩:=aj.out w1 F;simp only [Option.map_some,if_neg hsc] at q1;rw [q1,q2];refine ac.mono ?_;rintro r w2 ⟨⟨G,tc,rfl,y⟩,T⟩))
     have V:(b.drop (b.length-d)).length=d:=by simp;omega
     rw [V] at y;have E:Ck w1 K h m L (.slice (some I) b.length sc) (.slice oo bs.length oc) e:=by simpa using B
     rw [show b.length-(b.length-d)=d by omega];refine (HG.out aw w2 G tc (F.bel T) (E.old T) (Zef y F.size)).mono ?_;rintro r Y ⟨ro,rc,c,e',rfl,ag,n,ah,af⟩;have ar:=Zh ag;have z:=Zh n;have M:=Zh ah;have J:=Zh af;obtain ⟨d0,-,-,-,-,-,d5,d6,-⟩:=n.cells;have au:Y.frozen? ⟨K,5,none⟩=false:=Blk.frozen n 5;clear ag n ah af y ac B E F T q1 q2 c0 c5 c6 HC aj;have aa:=Zh (HT.out.upd M.out HH.out.noTy HH.out.noTy);have am:b.length≤sc:=HT.out.2.1;by_cases hout:c=[]
     · subst hout;simp only [List.length_nil] at *
       go_wp2_with (at_builtin;refine ZhG rfl ?_;refine ZhF (.tmp 38) (.tmp 39) 23 rfl 38 2 16 Zfh _ _ _ rfl (Nat.le_refl _) _ _ rfl ?_)
       go_end0;refine ⟨⟨_,rfl⟩,M.out.set 5 _,.inr ⟨trivial,some I,b.length-d,[],e',J.out,?_,?_⟩⟩
       · rw [List.append_nil];exact (aa.out.takeA (by omega)).upd ((Upd.refl K K Y).set 5 _) z.out.noTy z.out.noTy
       · rw [List.append_nil,List.length_take,Nat.min_eq_left (by omega)];exact z.out.setS _
     · have ax:0<c.length:=List.length_pos_iff.2 hout;have aF:=HP.out _ _ J.out;have ae:SlA Y 2 (some I) (b.length-d) (b.length-d) (Zal (b.take (b.length-d))):=by have:=(aa.out.takeA (k:=b.length-d) (by omega)).1;unfold Zas at this;rw [List.length_take,Nat.min_eq_left (by omega)] at this;exact this
       have ap:=Zh ae;clear ae hout
       go_wp2_with (at_builtin;refine ZhG rfl ?_;refine Zeh (.tmp 38) (.tmp 39) 23 rfl 38 2 16 Zfh _ (b.length-d) _ (Zal (b.take (b.length-d))) rfl ap.out _ c.length _ (Zal c) rfl ar.out.1 (Zar c) ax (by omega) (by omega) (by unfold maxLen;omega) ?_;intro Z C w4 X U;have aR:w4.cell? ⟨K,5,none⟩=some (.slice (some I) b.length sc):=(World.cell?_of_block (a:=⟨K,5,none⟩) (U.block K d0 (by simp))).trans d5;have aS:w4.frozen? ⟨K,5,none⟩=false:=(World.frozen?_of_block (a:=⟨K,5,none⟩) (U.block K d0 (by simp))).trans au)
       go_end0;have ab:Below Y.heap.size Y w4:=(Below.refl _ _).grown U (Nat.le_refl _) (fun j hj=>by cases hj);have p:(b.take (b.length-d)++c).length=b.length-d+c.length:=by simp
       have av:ZeR w4 Z C (b.take (b.length-d)++c):=ZeR.own (base:=Y.heap.size) (by rw [p,Zao];exact X);have R:=z.out.old ab;refine ⟨⟨_,rfl⟩,(M.out.bel ab).set 5 _,.inr ⟨trivial,Z,C,c,e',J.out,?_,?_⟩⟩
       · exact av.upd ((Upd.refl K K w4).set 5 _) R.noTy R.noTy
       · rw [p];exact R.setS _
end
section
open Go.RowKit
structure ZhJ (w:World) (b:VB) (o:Opn):Prop where
 op:b.op=o.op
 mid:b.mid=o.mid
 bn:b.bn=o.beg.length
 fn:b.fn=o.past.length
 bg:ZeR w b.bo b.bc o.beg
 ps:ZeR w b.fo b.fc o.past
structure ZhK (w:World) (N:Nat) (oo:Option Addr) (oc:Nat) (bs:List VB) (os:List Opn):Prop where
 own:w.ownsRow N 232 4 (.slice oo bs.length oc) bs.length (Zal bs)
 len:bs.length=os.length
 at_:∀ i,i<bs.length→ZhJ w (bs.getD i default) (os.getD i default)
def ZhL (K:Nat):Option Addr→Nat
 | none=>K
 | some a=>a.block
theorem ZhM {w w':World}{base:Nat}{e:TypeId}{size:Nat}{v:Value}{n:Nat}{b:List Value} (h:w.ownsRow base e size v n b) (d:∀ k,v.ownBlock=some k→w'.heap[k]?=w.heap[k]?):w'.ownsRow base e size v n b:=by
 refine ⟨h.1,?_⟩;rcases h.2 with h0|⟨g,c,cur,hv,hb,hg,h1,h2,h3,h4⟩
 ·exact .inl h0
 ·exact .inr ⟨g,c,cur,hv,hb,by rw [d g (by rw [hv];rfl)];exact hg,h1,h2,h3,h4⟩
theorem ZhJ.upd {w w':World}{b:VB}{o:Opn}{K B:Nat} (H:ZhJ w b o) (h:Upd K B w w') (hK:ZeS w K) (hB:ZeS w B):ZhJ w' b o:=
 ⟨H.op,H.mid,H.bn,H.fn,H.bg.upd h hK hB,H.ps.upd h hK hB⟩
section
variable {w:World}{N:Nat}{oo:Option Addr}{oc:Nat}{bs:List VB}{os:List Opn}(H:ZhK w N oo oc bs os)
include w N oo oc bs os H
theorem ZhK.blk {a:Addr} (ha:oo=some a):∃ g cur,a=⟨g,0,none⟩∧N≤g∧w.heap[g]?=some (.cells cur 232 (0,0)):=by exact k75
theorem ZhK.noTy {K:Nat} (hK:ZeS w K):ZeS w (ZhL K oo):=by exact k57
theorem ZhK.ne {K:Nat} {h:Hd} {m:Md} {L S O:Value} {e:Int} (hc:Ck w K h m L S O e) {a:Addr} (ha:oo=some a):a.block≠K:=by exact k86
end
theorem ZhK.upd {w w':World}{N:Nat}{oo:Option Addr}{oc:Nat}{bs:List VB}{os:List Opn}{K:Nat} (H:ZhK w N oo oc bs os) (hu:Upd K K w w') (hK:ZeS w K) (hne:∀ a,oo=some a→a.block≠K):ZhK w' N oo oc bs os:=by exact k51
def ZhN (x:Int × Bool × Nat):Bool:=decide (x.1=33)&&!x.2.1
def ZhO (l:List (Int × Bool × Nat)):Nat:=match l.reverse.find? ZhN with
 | some x=>x.2.2
 | none=>0
theorem ZhP (bs:List VB):Ze6 bs=ZhO (bs.map fun b=>(b.op,b.mid,b.bn)):=by
 unfold Ze6 ZhO;rw [←List.map_reverse,List.find?_map];have e:(ZhN ∘ fun b:VB=>(b.op,b.mid,b.bn))=fun o:VB=>decide (o.op=33)&&!o.mid:=rfl;rw [e];cases bs.reverse.find? (fun o:VB=>decide (o.op=33)&&!o.mid)<;>rfl
theorem ZhQ (os:List Opn):Zex os=ZhO (os.map fun b=>(b.op,b.mid,b.beg.length)):=by
 unfold Zex ZhO;rw [←List.map_reverse,List.find?_map];have e:(ZhN ∘ fun b:Opn=>(b.op,b.mid,b.beg.length))=fun o:Opn=>decide (o.op=33)&&!o.mid:=rfl;rw [e];cases os.reverse.find? (fun o:Opn=>decide (o.op=33)&&!o.mid)<;>rfl
theorem ZhR {w:World}{N:Nat}{oo:Option Addr}{oc:Nat}{bs:List VB}{os:List Opn} (H:ZhK w N oo oc bs os):Ze6 bs=Zex os:=by exact k39
structure St (w0 w:World) (K:Nat) (h:Hd) (m:Md) (lo:Option Addr) (lc:Nat) (ls:List Ty) (s:Ps) (so:Option Addr) (sc:Nat) (oo:Option Addr) (oc:Nat) (bs:List VB):Prop where
 ck:Ck w K h m (.slice lo ls.length lc) (.slice so s.stk.length sc) (.slice oo bs.length oc) 0
 ts:ZeR w so sc s.stk
 op:ZhK w w0.heap.size oo oc bs s.opn
 tl:ZeR w lo lc ls
 hb:Below w0.heap.size w0 w
 hK:w0.heap.size≤K
def ZhS (m:Md) (lo:List Ty) (i:In3) (s:Ps):Int × List Ty:=
 if s.stk.length<(Zez m i).1+Zex s.opn∨12<s.stk.length-(Zez m i).1+(Zez m i).2 then (12,s.stk)
 else match ZeD m lo i (s.stk.drop (s.stk.length-(Zez m i).1)) with
  | none=>(11,s.stk)
  | some t=>(0,s.stk.take (s.stk.length-(Zez m i).1)++List.replicate (Zez m i).2 t)
theorem ZhT {m:Md}{lo:List Ty}{i:In3}{s:Ps} (b:i.op≠34) (c:i.op≠35):ZeE m lo i s=((ZhS m lo i s).1,if (ZhS m lo i s).1=0 then ⟨(ZhS m lo i s).2,if ZaS i.op then s.opn++[⟨i.op,(ZhS m lo i s).2,[],false⟩] else s.opn⟩ else s):=by
 unfold ZeE ZhS;rw [if_neg b,if_neg c];dsimp only;split
 ·rfl
 ·cases ZeD m lo i (s.stk.drop (s.stk.length-(Zez m i).1))<;>rfl
def ZhU (w':World) (K:Nat) (h:Hd) (m:Md) (lo:Option Addr) (lc:Nat) (ls:List Ty) (oo:Option Addr) (oc:Nat) (bs:List VB) (q:Int × List Ty):Prop:=
 ∃ so sc st,Ck w' K h m (.slice lo ls.length lc) (.slice so st.length sc) (.slice oo bs.length oc) q.1∧ZeR w' so sc st∧st.length≤2000∧(q.1=0→st=q.2)
def ZhV (w:World) (K:Nat) (h:Hd) (m:Md) (lo:Option Addr) (lc:Nat) (ls:List Ty) (oo:Option Addr) (oc:Nat) (bs:List VB) (q:Int × List Ty) (r:Ending) (w':World):Prop:=
 (∃ v,r=.returned v)∧Upd K K w w'∧ZhU w' K h m lo lc ls oo oc bs q
def ZhW (w0 w':World) (K:Nat) (h:Hd) (m:Md) (lo:Option Addr) (lc:Nat) (ls:List Ty) (q:Int × Ps):Prop:=
 (q.1=0∧∃ so sc oo oc bs,St w0 w' K h m lo lc ls q.2 so sc oo oc bs)∨(q.1≠0∧∃ S O,Ck w' K h m (.slice lo ls.length lc) S O q.1)
def ZhX (w0 w:World) (K:Nat) (h:Hd) (m:Md) (lo:Option Addr) (lc:Nat) (ls:List Ty) (oo:Option Addr) (q:Int × Ps) (r:Ending) (w':World):Prop:=
 (∃ v,r=.returned v)∧Upd K (ZhL K oo) w w'∧ZhW w0 w' K h m lo lc ls q
section
variable {w0 w:World}{K:Nat}{h:Hd}{m:Md}{lo:Option Addr}{lc:Nat}{ls:List Ty}{s:Ps}{so:Option Addr}{sc:Nat}{oo:Option Addr}{oc:Nat}{bs:List VB}{i:In3}
section
variable (H:St w0 w K h m lo lc ls s so sc oo oc bs)
include H
theorem St.ne:∀ a,oo=some a→a.block≠K:=fun _ b=>H.op.ne H.ck b
theorem St.next {w':World} (hu:Upd K K w w') {so':Option Addr} {sc':Nat} {st:List Ty} (hc:Ck w' K h m (.slice lo ls.length lc) (.slice so' st.length sc') (.slice oo bs.length oc) 0) (ht:ZeR w' so' sc' st):
  St w0 w' K h m lo lc ls ⟨st,s.opn⟩ so' sc' oo oc bs:=
 ⟨hc,ht,H.op.upd hu H.ck.noTy H.ne,H.tl.upd hu H.ck.noTy H.ck.noTy,hu.below H.hb (Nat.le_refl _) H.hK H.hK,H.hK⟩
theorem ZhY (g:i.op≠34) (j:i.op≠35) (n:ZaS i.op=false) {r:Ending} {w':World} (p:ZhV w K h m lo lc ls oo oc bs (ZhS m ls i s) r w'):ZhX w0 w K h m lo lc ls oo (ZeE m ls i s) r w':=by
 obtain ⟨v,f,c,b,x,d,u,_,q⟩:=p;refine ⟨v,f.more,?_⟩;rw [ZhT g j,n];by_cases h0:(ZhS m ls i s).1=0
 ·refine .inl ⟨h0,c,b,oo,oc,bs,?_⟩;simp only [if_pos h0,Bool.false_eq_true,if_false];have:=q h0;subst this;exact H.next f (by rw [←h0];exact d) u
 ·exact .inr ⟨h0,_,_,d⟩
end
def ZhZ (W:World) (K:Nat) (h:Hd) (m:Md) (L S O:Value) (P:List Ty→Int→Prop) (r:Ending) (w':World):Prop:=
 ∃ ro rc out e',r=.returned (.slice ro out.length rc)∧ZeR w' ro rc out∧Ck w' K h m L S O e'∧Upd K K W w'∧P out e'
def Zh0 (n:Nat) (q:Option Ty) (out:List Ty) (e':Int):Prop:=out.length≤1000∧match q with
 | none=>e'=11
 | some t=>e'=0∧out=List.replicate n t
theorem Zh0.of {n:Nat}{q:Option Ty}{out:List Ty}{e':Int} (hl:out.length≤1000) (h0:q=none→e'=11) (h1:∀ t,q=some t→e'=0∧out=List.replicate n t):Zh0 n q out e':=by
 refine ⟨hl,?_⟩;cases q with
 | none=>exact h0 rfl
 | some t=>exact h1 t rfl
theorem Zh1 (v:Zfl m s.stk) (H:St w0 w K h m lo lc ls s so sc oo oc bs) (R:s.opn.length≤6) (tk d g:Nat) (b:Array Value) (hcn:Zez m i=(tk,d)) (I:tk≤1000) (F:d≤1000)
  (x:∀ A W,(callFunc g (A++b)).run Tryz.prog W=.ok (.enter g (A++b)) W)
  (D:∀ l,l.length=tk→s.stk.drop (s.stk.length-tk)=l→∀ w1 c j,Upd K K w w1→Ck w1 K h m (.slice lo ls.length lc) (.slice so s.stk.length sc) (.slice oo bs.length oc) 0→w1.ownsRow w.heap.size 38 2 (.slice c tk j) tk (Zal l) →
   Calls Tryz.prog g (#[.slice c tk j]++b) w1 (ZhZ w1 K h m (.slice lo ls.length lc) (.slice so s.stk.length sc) (.slice oo bs.length oc) (Zh0 d (ZeD m ls i l)))) :
  Calls Tryz.prog 185 #[ZQ.p K,.int .i64 tk,.int .i64 d,.func (Fn.func g) #[] b] w (ZhV w K h m lo lc ls oo oc bs (ZhS m ls i s)):=by
 have hb:=ZhR H.op;have q:=H.op.len;have u:=v.1;refine (ZhI K h m (.slice lo ls.length lc) so sc s.stk oo oc bs 0 tk d g b (Zh0 d (ZeD m ls i (s.stk.drop (s.stk.length-tk)))) w H.ck H.ts (by omega) (Zas.of_own H.op.own) (by omega) (by omega) ⟨by omega,by omega⟩ x (fun out e' h=>h.1) ?_).mono ?_
 ·intro E w1 c j hu n f;refine (D _ (by simp;omega) rfl w1 c j hu n f).mono ?_;rintro r T ⟨M,J,out,e',G,y,z,B,C⟩;exact ⟨M,J,out,e',G,y,z,hu.trans B,C⟩
 ·exact k24
end
end
section
open Go.RowKit
theorem Zh2 (K:Nat) (h:Hd) (m:Md) (L S O:Value) (e a:Int) (t:Ty) (w:World) (H:Ck w K h m L S O e) (T:Zaz w h m) (ha:0≤a) (ht:t.k=2→0≤t.c∧t.c<m.cl.length) :
  Calls Tryz.prog 258 #[ZQ.p K,.agg #[.int .i64 t.k,.int .i64 t.c],.int .i64 a] w fun r w'=>r=.returned (.agg #[.int .i64 ((ZeA m t a).getD default).k,.int .i64 ((ZeA m t a).getD default).c])∧Ck w' K h m L S O (ZeV e (ZeA m t a).isSome)∧Upd K K w w':=by
 have kl:=Blk.lt H;cases t with|mk k c=>
 have A:Below w.heap.size w ((w.alloc (.cells #[.int .i64 k,.int .i64 c] 38)).alloc (.cells #[.int .i64 0,.int .i64 0] 38)):=by exact bE
 have x0:=(Blk.new w #[.int .i64 k,.int .i64 c] 38).alloc (.cells #[.int .i64 0,.int .i64 0] 38);have x1:Blk ((w.alloc (.cells #[.int .i64 k,.int .i64 c] 38)).alloc (.cells #[.int .i64 0,.int .i64 0] 38)) (w.heap.size+1) #[.int .i64 0,.int .i64 0] 38:=Blk.new' (w:=w.alloc (.cells #[.int .i64 k,.int .i64 c] 38)) _ _ (by simp);have HX1:=Zh x1;have HB0:=Zh A;have HC:=Zh (H.old A);obtain ⟨W1,z⟩:∃ W1,W1=(w.alloc (.cells #[.int .i64 k,.int .i64 c] 38)).alloc (.cells #[.int .i64 0,.int .i64 0] 38):=⟨_,rfl⟩;rw [←z] at HB0 HC x0 HX1;have HW:=Zh z;clear A x1 z;obtain ⟨-,k0,-,-,-,-,-,-,-⟩:=HC.out.cells;have u0:=x0.cell 0 (v:=.int .i64 k) rfl;have u1:=x0.cell 1 (v:=.int .i64 c) rfl;have Z:w.heap.size+1<W1.heap.size:=HX1.out.lt;clear x0;by_cases h2:k=2
 ·subst h2;obtain ⟨I,J⟩:=ht rfl;dsimp only at I J;clear ht;obtain ⟨c,rfl⟩:∃ d:Nat,c=d:=⟨c.toNat,by omega⟩;have j:c<m.cl.length:=by omega
  obtain ⟨b,M,-,-,y,-⟩:=T.cls j;have F:=T.f c j;rw [M] at k0;have g:ZeA m ⟨2,c⟩ a=(m.cl.getD c default).f[a.toNat]?:=by simp [ZeA]
  rw [g];generalize (m.cl.getD c default).f=fs at y F ⊢;have V:(b.add (c*4)).block<w.heap.size:=Zad (a:=⟨(b.add (c*4)).block,(b.add (c*4)).off+2,none⟩) y;by_cases h3:a<fs.length
  ·obtain ⟨a,rfl⟩:∃ d:Nat,a=d:=⟨a.toNat,by omega⟩;have B:a<fs.length:=by omega
   obtain ⟨f,R,E,G⟩:=ZaA F B;have D:fs[(a:Int).toNat]?=some (fs.getD a default):=by simp [B]
   rw [D];generalize fs.getD a default=u at E G ⊢;rw [R] at y;have U:(f.add (a*2)).block<w.heap.size:=Zad E;simp only [Option.getD_some,Option.isSome_some];have hS:∀ w',Upd (w.heap.size+1) (w.heap.size+1) W1 w'→(fun w':World=>w'.cell? ⟨K,0,none⟩=some (.slice (some b) m.cl.length h.cc)∧w'.cell? ⟨w.heap.size,0,none⟩=some (.int .i64 2)∧w'.cell? ⟨w.heap.size,1,none⟩=some (.int .i64 c)∧w'.cell? ⟨(b.add (c*4)).block,(b.add (c*4)).off+2,none⟩=some (.slice (some f) fs.length (h.c c).fc)∧w'.cell? (f.add (a*2))=some (.int .i64 u.k)∧w'.cell? ⟨(f.add (a*2)).block,(f.add (a*2)).off+1,none⟩=some (.int .i64 u.c)) w':=by intro w' C;have q:∀ {p:Addr}{v:Value},W1.cell? p=some v→p.block<w.heap.size+1→w'.cell? p=some v:=fun hc hp=>C.cell hc (by omega) (by omega);exact ⟨q k0 (by show K<_;omega),q u0 (by show w.heap.size<_;omega),q u1 (by show w.heap.size<_;omega),q (p:=⟨(b.add (c*4)).block,(b.add (c*4)).off+2,none⟩) ((HB0.out.cell (p:=⟨(b.add (c*4)).block,(b.add (c*4)).off+2,none⟩) V).trans y) (by show (b.add (c*4)).block<_;omega),q ((HB0.out.cell U).trans E) (by omega),q (p:=⟨(f.add (a*2)).block,(f.add (a*2)).off+1,none⟩) ((HB0.out.cell (p:=⟨(f.add (a*2)).block,(f.add (a*2)).off+1,none⟩) U).trans G) (by show (f.add (a*2)).block<_;omega)⟩
   have HS:=Zh hS;clear F D hS k0 u0 u1 y E G g;go_enter Tryz.func258,Tryz.ntmps258
   go_wp2_with fail
   refine rO (fun w':World=>w'.cell? ⟨K,0,none⟩=some (.slice (some b) m.cl.length h.cc)∧w'.cell? ⟨w.heap.size,0,none⟩=some (.int .i64 2)∧w'.cell? ⟨w.heap.size,1,none⟩=some (.int .i64 c)∧w'.cell? ⟨(b.add (c*4)).block,(b.add (c*4)).off+2,none⟩=some (.slice (some f) fs.length (h.c c).fc)∧w'.cell? (f.add (a*2))=some (.int .i64 u.k)∧w'.cell? ⟨(f.add (a*2)).block,(f.add (a*2)).off+1,none⟩=some (.int .i64 u.c)) (oL [0,1,2,3,4,5,6,7,8,9,10,11,12,13,14,15,16,17]) (HW.out▸HS.out _ (Upd.refl _ _ _).drew) ?_;rw [←HW.out]
   repeat refine pO ?_
   refine Zd7 ?_
   go_wp2_with fail
   have y0:=HX1.out.cell 0 (v:=.int .i64 0) rfl;have y1:=HX1.out.cell 1 (v:=.int .i64 0) rfl;have g0:=HX1.out.frozen 0;have g1:=HX1.out.frozen 1;refine rO (fun w':World=>w'.cell? ⟨K,0,none⟩=some (.slice (some b) m.cl.length h.cc)∧w'.cell? ⟨w.heap.size,0,none⟩=some (.int .i64 2)∧w'.cell? ⟨w.heap.size,1,none⟩=some (.int .i64 c)∧w'.cell? ⟨(b.add (c*4)).block,(b.add (c*4)).off+2,none⟩=some (.slice (some f) fs.length (h.c c).fc)∧w'.cell? (f.add (a*2))=some (.int .i64 u.k)∧w'.cell? ⟨(f.add (a*2)).block,(f.add (a*2)).off+1,none⟩=some (.int .i64 u.c)) (oL [0,1,2,3,4,5,6,7,8,9,10,11,12,113]) (HS.out _ (Upd.refl _ _ _).drew.drew) ?_
   repeat refine pO ?_
   refine oO fun Kv hK=>?_;go_simp;refine hK _ _ ⟨HS.out _ ((((Upd.refl _ _ _).drew.drew).set 0 _).set 1 _),?_⟩;clear hK Kv;refine Zd7 ?_;go_wp2;refine bodyPost_ret (v:=.agg #[.int .i64 u.k,.int .i64 u.c]) (by simp [results,Tryz.results258,go_sem,y0,y1]) rfl ⟨rfl,?_,?_⟩
   ·exact (Ck.other (Ck.other (HC.out) (by omega) 0 _) (by omega) 1 _)
   ·exact (((Upd.of HB0.out).setN (by omega) 0 _).setN (by omega) 1 _).drew.drew
  ·have D:fs[a.toNat]?=none:=by rw [List.getElem?_eq_none];omega
   rw [D];simp only [Option.getD_none,Option.isSome_none];have hS:∀ w',Upd (w.heap.size+1) (w.heap.size+1) W1 w'→(fun w':World=>w'.cell? ⟨K,0,none⟩=some (.slice (some b) m.cl.length h.cc)∧w'.cell? ⟨w.heap.size,0,none⟩=some (.int .i64 2)∧w'.cell? ⟨w.heap.size,1,none⟩=some (.int .i64 c)∧w'.cell? ⟨(b.add (c*4)).block,(b.add (c*4)).off+2,none⟩=some (.slice (h.c c).fo fs.length (h.c c).fc)) w':=by intro w' C;have q:∀ {p:Addr}{v:Value},W1.cell? p=some v→p.block<w.heap.size+1→w'.cell? p=some v:=fun hc hp=>C.cell hc (by omega) (by omega);exact ⟨q k0 (by show K<_;omega),q u0 (by show w.heap.size<_;omega),q u1 (by show w.heap.size<_;omega),q (p:=⟨(b.add (c*4)).block,(b.add (c*4)).off+2,none⟩) ((HB0.out.cell (p:=⟨(b.add (c*4)).block,(b.add (c*4)).off+2,none⟩) V).trans y) (by show (b.add (c*4)).block<_;omega)⟩
   have HS:=Zh hS;have Y:decide ((fs.length:Int)≤a)=true:=by simp;omega
   clear F D hS k0 u0 u1 y g;go_enter Tryz.func258,Tryz.ntmps258
   go_wp2_with fail
   refine rO (fun w':World=>w'.cell? ⟨K,0,none⟩=some (.slice (some b) m.cl.length h.cc)∧w'.cell? ⟨w.heap.size,0,none⟩=some (.int .i64 2)∧w'.cell? ⟨w.heap.size,1,none⟩=some (.int .i64 c)∧w'.cell? ⟨(b.add (c*4)).block,(b.add (c*4)).off+2,none⟩=some (.slice (h.c c).fo fs.length (h.c c).fc)) (oL [0,1,2,3,4,5,6,7,8,9,10,11,12,13,14,15,16,17]) (HW.out▸HS.out _ (Upd.refl _ _ _).drew) ?_;exact k26
 ·have g:ZeA m ⟨k,c⟩ a=none:=by simp [ZeA,h2]
  rw [g];simp only [Option.getD_none,Option.isSome_none];have hS:∀ w',Upd (w.heap.size+1) (w.heap.size+1) W1 w'→(fun w':World=>w'.cell? ⟨w.heap.size,0,none⟩=some (.int .i64 k)) w':=by intro w' C;have q:∀ {p:Addr}{v:Value},W1.cell? p=some v→p.block<w.heap.size+1→w'.cell? p=some v:=fun hc hp=>C.cell hc (by omega) (by omega);exact q u0 (by show w.heap.size<_;omega)
  have HS:=Zh hS;have X:(k != 2)=true:=by simpa using h2
  clear hS k0 u0 u1 g ht h2;go_enter Tryz.func258,Tryz.ntmps258
  go_wp2_with fail
  refine rO (fun w':World=>w'.cell? ⟨w.heap.size,0,none⟩=some (.int .i64 k)) (oL [0,1,2,3,4,5,6,7,8,9,10,11,12,13,14,15,16,17]) (HW.out▸HS.out _ (Upd.refl _ _ _).drew) ?_;exact k26
end
section
open Go.RowKit
theorem Zh3 {w:World}{a b:Nat}{j ys:Array Value}{t u:TypeId} (d:Blk w a j t) (f:Blk w b ys u) (c:t≠u):a≠b:=by rintro rfl;have g:=d.symm.trans f;cases g;exact c rfl
theorem Zh4 {P:Program}{b:Array Oper}{Q:Exit→Act→World→Prop}{a:Act}{w:World}{k:Nat}{K:Act→World→Prop} (d:Tmp) (c:(b[k]?.map fun o=>(o.dst,Region.wanted o (yielded b a.tmps)))=some (some d,false)) (h:K { a with tmps:=a.tmps.setIfInBounds d undef } w):wpOp P b Q k K a w:=by
 cases ho:b[k]? with
 | none=>rw [ho] at c;cases c
 | some o=>
  rw [ho] at c;have f:=Option.some.inj c;have g:o.dst=some d:=congrArg Prod.fst f;refine Zhw o ho (congrArg Prod.snd f) ?_;rw [g];exact h
theorem Ck.drew {w:World}{K:Nat}{h:Hd}{m:Md}{L S O:Value}{e:Int} (H:Ck w K h m L S O e):Ck w.drew K h m L S O e:=H
theorem Zh5 {W:World}{base:Nat}{b:Option Addr}{n u:Nat}{x:List Value} (h:W.ownsRow base 38 2 (.slice b (n+1) u) (n+1) x) {K:Nat}{y:Hd}{m:Md}{L S O:Value}{e:Int} (H:Ck W K y m L S O e) :
  ∃ g,b=some ⟨g,0,none⟩∧g≠K∧g<W.heap.size∧n+1≤u∧∀ j v,x[j]?=some v→W.cell? ⟨g,j,none⟩=some v:=by
 rcases h.2 with ⟨_,D⟩|⟨g,c,p,z,B,d,r,C,E,A⟩
 ·omega
 ·cases z;refine ⟨g,rfl,fun q=>?_,(Array.getElem?_eq_some_iff.1 d).1,r,fun j v f=>?_⟩
  ·rw [q,show W.heap[K]?=_ from H] at d;cases d
  ·rw [cell_of_row W g j p _ _ d];rw [←A,List.getElem?_take] at f;split at f
   ·simpa using f
   ·cases f
section
variable {W w:World}{K:Nat}{h:Hd}{m:Md}{L St O:Value}{e:Int}
theorem clS {l:List (Addr × Value)} (c:Cs l W) (b:∀ p∈l,p.1.block≠K) (H:Ck W K h m L St O e):∀ w' e',Upd K K W w'→Ck w' K h m L St O e'→Cs l w':=by
 intro w' e' g d;clear H d
 induction l with
 | nil=>trivial
 | cons p l ih=>exact ⟨g.cell c.1 (b p List.mem_cons_self) (b p List.mem_cons_self),ih c.2 fun q f=>b q (List.mem_cons_of_mem _ f)⟩
variable {P:Program}{S:World→Prop}{Q:Exit→Act→World→Prop}{l:List Oper}{k:Nat}{t:Ord}{a a':Act}{o:Oper} (HS:∀ w' e',Upd K K W w'→Ck w' K h m L St O e'→S w') (HU:RowKit.Hid (Upd K K W w)) (HC:RowKit.Hid (Ck w K h m L St O e))
include HS HU HC
theorem kR {id:Nat} (t:Ord) (g:RowKit.Hid (Upd K K W w.drew)→RowKit.Hid (Ck w.drew K h m L St O e)→Zd0 P l Q S t a w.drew) (hm:P.follows .mixedOrders=true:=by kernel_rfl)
  (hB:(Region.noSelect l.toArray&&decide (t.len=l.length)&&t.inB l.length&&Zd1 .any l.toArray t (Array.replicate l.length false))=true:=by kernel_rfl) (hQ:∀ c a d v w,Q (.panic c) (Act.put a d v) w→Q (.panic c) a w:=by intro c a d v w h;cases d<;>exact h):(Code.region id l.toArray true).wp P Q a w:=
 Zd3 S t hm hB hQ (HS _ _ HU.drew HC) (g HU.drew HC)
theorem kB {f:Nat}{args:Array Value}{v:Value} (hc:Calls P f args w (Ret w v)) (g:∀ w',RowKit.Hid (Upd K K W w')→RowKit.Hid (Ck w' K h m L St O e)→Zd0 P l Q S t a' w') (ho:l.toArray[k]?=some o:=by rfl) (hw:Region.wanted o (yielded l.toArray a.tmps)=true:=by rfl)
  (hq:∀ Kv:Act→World→Prop,Calls P f args w (Ret w v)→(∀ w',Below w.heap.size w w'→Kv a' w')→o.wp P a w Kv Q:=by intro Kv hc hk;go_simp;refine hc.mono ?_;rintro _ w' ⟨rfl,hb⟩;exact hk w' hb):Zd0 P l Q S (.one k t) a w:=
 oO (fun Kv b=>hq Kv hc fun w' hb=>b _ _ ⟨HS _ _ (HU.bel hb) (HC.old hb),g w' (HU.bel hb) (HC.old hb)⟩) ho hw
theorem kV {f:Nat}{args:Array Value}{v:Value}{e2:Int} (hc:Calls P f args w fun r w'=>r=.returned v∧Ck w' K h m L St O e2∧Upd K K w w') (g:∀ w',RowKit.Hid (Upd K K W w')→RowKit.Hid (Ck w' K h m L St O e2)→Zd0 P l Q S t a' w') (ho:l.toArray[k]?=some o:=by rfl) (hw:Region.wanted o (yielded l.toArray a.tmps)=true:=by rfl)
  (hq:∀ Kv:Act→World→Prop,(Calls P f args w fun r w'=>r=.returned v∧Ck w' K h m L St O e2∧Upd K K w w')→(∀ w',Ck w' K h m L St O e2→Upd K K w w'→Kv a' w')→o.wp P a w Kv Q:=by intro Kv hc hk;go_simp;refine hc.mono ?_;rintro _ w' ⟨rfl,h1,h2⟩;exact hk w' h1 h2):Zd0 P l Q S (.one k t) a w:=
 oO (fun Kv b=>hq Kv hc fun w' h1 h2=>b _ _ ⟨HS _ _ (HU.trans h2) h1,g w' (HU.trans h2) h1⟩) ho hw
theorem kW {f:Nat}{args:Array Value}{b':Value→Act}{e2:Int} (hc:Calls P f args w fun r w'=>(∃ v,r=.returned v)∧Ck w' K h m L St O e2∧Upd K K w w') (g:∀ v w',RowKit.Hid (Upd K K W w')→RowKit.Hid (Ck w' K h m L St O e2)→Zd0 P l Q S t (b' v) w') (ho:l.toArray[k]?=some o:=by rfl) (hw:Region.wanted o (yielded l.toArray a.tmps)=true:=by rfl)
  (hq:∀ Kv:Act→World→Prop,(Calls P f args w fun r w'=>(∃ v,r=.returned v)∧Ck w' K h m L St O e2∧Upd K K w w')→(∀ v w',Ck w' K h m L St O e2→Upd K K w w'→Kv (b' v) w')→o.wp P a w Kv Q:=by intro Kv hc hk;go_simp;refine hc.mono ?_;rintro _ w' ⟨⟨v,rfl⟩,h1,h2⟩;exact hk v w' h1 h2):Zd0 P l Q S (.one k t) a w:=
 oO (fun Kv b=>hq Kv hc fun v w' h1 h2=>b _ _ ⟨HS _ _ (HU.trans h2) h1,g v w' (HU.trans h2) h1⟩) ho hw
theorem kS (d:Tmp) (g:Zd0 P l Q S t a' w) (hs:(l.toArray[k]?.map fun o=>(o.dst,Region.wanted o (yielded l.toArray a.tmps)))=some (some d,false):=by rfl)
  (ha:({ a with tmps:=a.tmps.setIfInBounds d undef }:Act)=a':=by ((try simp only [List.setIfInBounds_toArray,List.set_cons_zero,List.set_cons_succ]);rfl)):Zd0 P l Q S (.one k t) a w:=
 Zd5 (Zh4 d hs (ha▸⟨HS _ _ HU HC,g⟩))
end
theorem ZeR.one_of {w:World}{ao:Option Addr}{cap:Nat}{a b:Ty} (H:ZeR w ao cap [a,b]):ZeR w ao cap [a]:=
 ⟨H.1.take 1 (by simp) cap (fun h=>by have:=(H.1.2.1 h).2;omega),by have:=H.2.1;simp at this ⊢;omega,H.2.2⟩
theorem ZhZ.trans {w W:World}{K:Nat}{h:Hd}{m:Md}{L S O:Value}{P:List Ty→Int→Prop}{r:Ending}{w':World} (H:ZhZ W K h m L S O P r w') (hu:Upd K K w W):ZhZ w K h m L S O P r w':=by obtain ⟨p,n,b,e',c,d,f,g,j⟩:=H;exact ⟨p,n,b,e',c,d,f,hu.trans g,j⟩
section
variable (K:Nat)(h:Hd)(m:Md)(L S O:Value)
include K h m L S O
theorem Zh6 (v:Value) (W:World) (H:Ck W K h m L S O 0):Calls Tryz.prog 192 #[v] W (ZhZ W K h m L S O fun b e'=>b=[]∧e'=0):=by have HC:=Zh H;clear H;go_enter Tryz.func192,Tryz.ntmps192;go_wp2;go_ret;exact ⟨none,0,[],_,rfl,ZeR.nil _,HC.out,Upd.refl K K W,rfl,rfl⟩
theorem Zh7 (a:Ty) (op ia ib:Int) (q:Option Addr) (z base u I:Nat) (W:World) (H:Ck W K h m L S O 0) (j:Blk W u #[ZQ.p K] 163) (b:W.ownsRow base 38 2 (.slice q 1 z) 1 (Zal [a])):
  Calls Tryz.prog 186 #[.slice q 1 z,ZQ.p u] W (ZhZ W K h m L S O fun y e'=>y=[]∧e'=ZeV 0 (decide (a=Zew))):=by
 obtain ⟨g,rfl,x,D,G,n⟩:=Zh5 b H;obtain ⟨B,A⟩:=a;have HS:=Zh (clS (l:=[(⟨u,0,none⟩,.pointer (some ⟨K,0,none⟩)),(⟨g,0,none⟩,.int .i64 B),(⟨g,1,none⟩,.int .i64 A)]) ⟨j.cell 0 rfl,n 0 _ rfl,n 1 _ rfl,trivial⟩ (by simp [x,Zh3 j H (by decide)]) (H:=H));have HU0:=Zh (Upd.refl K K W);have HC0:=Zh H;clear H j;clear b n;have F:=ZdY;have C:=ZdX;have E:=ZdZ;go_enter Tryz.func186,Tryz.ntmps186;exact k32
theorem Zh8 (a:Ty) (op ia ib:Int) (q:Option Addr) (z base u I:Nat) (W:World) (H:Ck W K h m L S O 0) (j:Blk W u #[ZQ.p K] 163) (b:W.ownsRow base 38 2 (.slice q 1 z) 1 (Zal [a])):
  Calls Tryz.prog 200 #[.slice q 1 z,ZQ.p u] W (ZhZ W K h m L S O fun y e'=>y=[]∧e'=ZeV 0 (decide (a=Zew))):=by
 obtain ⟨g,rfl,x,D,G,n⟩:=Zh5 b H;obtain ⟨B,A⟩:=a;have HS:=Zh (clS (l:=[(⟨u,0,none⟩,.pointer (some ⟨K,0,none⟩)),(⟨g,0,none⟩,.int .i64 B),(⟨g,1,none⟩,.int .i64 A)]) ⟨j.cell 0 rfl,n 0 _ rfl,n 1 _ rfl,trivial⟩ (by simp [x,Zh3 j H (by decide)]) (H:=H));have HU0:=Zh (Upd.refl K K W);have HC0:=Zh H;clear H j;clear b n;have F:=ZdY;have C:=ZdX;have E:=ZdZ;go_enter Tryz.func200,Tryz.ntmps200;exact k32
theorem Zh9 (a:Ty) (op ia ib:Int) (E:Option Addr) (tc base T u:Nat) (W:World) (H:Ck W K h m L S O 0) (A:∀ w',Upd K K W w'→Zaz w' h m) (B:Blk W T #[ZQ.p K] 163) (q:Blk W u #[.int .i64 op,.int .i64 ia,.int .i64 ib] 72) (z:W.ownsRow base 38 2 (.slice E 1 tc) 1 (Zal [a])) (lo:Option Addr) (lc:Nat) (ls:List Ty) (U:L=.slice lo ls.length lc) (Z:ZeR W lo lc ls) (ha:0≤ia):
  Calls Tryz.prog 195 #[.slice E 1 tc,ZQ.p T,ZQ.p u] W (ZhZ W K h m L S O fun Y e'=>Y=[]∧e'=ZeV (ZeV 0 (decide (ia<ls.length))) (decide (ZeV 0 (decide (ia<ls.length))=0)&&Zhr m a (ls.getD ia.toNat default))):=by
 obtain ⟨g,rfl,V,af,ai,C⟩:=Zh5 z H;obtain ⟨G,F⟩:=a;have D:=Zh H.noTy;have HS:=Zh (clS (l:=[(⟨T,0,none⟩,.pointer (some ⟨K,0,none⟩)),(⟨g,0,none⟩,.int .i64 G),(⟨g,1,none⟩,.int .i64 F),(⟨u,0,none⟩,.int .i64 op),(⟨u,1,none⟩,.int .i64 ia),(⟨u,2,none⟩,.int .i64 ib)]) ⟨B.cell 0 rfl,C 0 _ rfl,C 1 _ rfl,q.cell 0 rfl,q.cell 1 rfl,q.cell 2 rfl,trivial⟩ (by simp [V,Zh3 B H (by decide),Zh3 q H (by decide)]) (H:=H));have R:=Zh (Upd.refl K K W);have M:=Zh H;have ab:=Zh A;clear H B q;obtain ⟨⟨J,I⟩,n⟩:∃ x:Ty,x=ls.getD ia.toNat default:=⟨_,rfl⟩;obtain ⟨lb,j⟩:∃ x:Bool,x=decide (ia<ls.length):=⟨_,rfl⟩;have HLo:=Zh (show ∀ e w',Ck w' K h m L S O e→Upd K K W w'→Calls Tryz.prog 190 #[ZQ.p K,.int .i64 ia] w' fun r y=>r=.returned (.agg #[.int .i64 J,.int .i64 I])∧Ck y K h m L S O (ZeV e lb)∧Upd K K w' y from fun e w' hc X=>by have:=Zhy K h m S O lo lc ls e ia w' (U▸hc) (Z.upd X D.out D.out).1 ha;rw [←n,←j,←U] at this;exact this);have HLu:=Zh n;clear n;have HLb:=Zh j;clear j;clear Z U;obtain ⟨ft,b⟩:∃ x:Bool,x=Zhr m ⟨G,F⟩ ⟨J,I⟩:=⟨_,rfl⟩;have HFi:=Zh (show ∀ e w',Ck w' K h m L S O e→Upd K K W w'→Calls Tryz.prog 196 #[ZQ.p K,.agg #[.int .i64 G,.int .i64 F],.agg #[.int .i64 J,.int .i64 I]] w' fun r y=>(∃ v,r=.returned v)∧Ck y K h m L S O (ZeV e (decide (e=0)&&ft))∧Upd K K w' y from fun e w' hc X=>by have:=Zhx K h m L S O e ⟨G,F⟩ ⟨J,I⟩ w' hc (A w' X);rw [←b] at this;exact this);have HFt:=Zh b;clear b;clear z C A;have ah:=ZdY;have ae:=ZdX;have ag:=ZdZ;go_enter Tryz.func195,Tryz.ntmps195
 go_wp2_with fail
 refine kR HS.out R M (oL [0,1,2,3,4,5,6,107,108]) fun HU1 HC1=>?_;exact k41
theorem Zia (a b:Ty) (op ia ib:Int) (z:Option Addr) (U base M ag:Nat) (W:World) (H:Ck W K h m L S O 0) (q:Blk W M #[ZQ.p K] 163) (n:W.ownsRow base 38 2 (.slice z 2 U) 2 (Zal [a,b])) (h1:a=Zew):
  Calls Tryz.prog 198 #[.slice z 2 U,ZQ.p M] W (ZhZ W K h m L S O fun T e'=>T=[a]∧e'=ZeV 0 (decide (b=Zew))):=by
 have E:=Zh (ZeR.own (l:=[a,b]) n);have x:=Zh H.noTy;obtain ⟨g,rfl,R,ab,af,j⟩:=Zh5 n H;obtain ⟨X,V⟩:=a;obtain ⟨rfl,rfl⟩:X=1∧V=0:=by cases h1;exact ⟨rfl,rfl⟩
 clear h1;obtain ⟨Z,Y⟩:=b;have HS:=Zh (clS (l:=[(⟨M,0,none⟩,.pointer (some ⟨K,0,none⟩)),(⟨g,0,none⟩,.int .i64 1),(⟨g,1,none⟩,.int .i64 0),(⟨g,2,none⟩,.int .i64 Z),(⟨g,3,none⟩,.int .i64 Y)]) ⟨q.cell 0 rfl,j 0 _ rfl,j 1 _ rfl,j 2 _ rfl,j 3 _ rfl,trivial⟩ (by simp [R,Zh3 q H (by decide)]) (H:=H));have F:=Zh (Upd.refl K K W);have A:=Zh H;clear H q;clear n j;have ae:=ZdY;have aa:=ZdX;have ad:=ZdZ;go_enter Tryz.func198,Tryz.ntmps198
 go_wp2_with fail
 refine kR HS.out F A (oL [0,1,2,3,104,5,6,7,8,9,110,11,12,113]) fun G B=>?_
 repeat refine pO ?_
 refine kB HS.out G B (Zho _) fun w2 I C=>?_
 repeat refine pO ?_
 refine kB HS.out I C (Zho _) fun w3 J u=>?_
 repeat refine pO ?_
 refine kW HS.out J u (ZeW K h m L S O _ _ _ u.out) fun _ w4 y D=>?_
 repeat refine pO ?_
 refine Zd7 ?_;go_wp2;go_ret;refine ⟨some ⟨g,0,none⟩,U,[_],_,rfl,ZeR.one_of (E.out.upd y.out x.out x.out),D.out,y.out,rfl,?_⟩;exact k82
theorem Zib (a b:Ty) (op ia ib:Int) (A:Option Addr) (R base I ab:Nat) (W:World) (H:Ck W K h m L S O 0) (u:Blk W I #[ZQ.p K] 163) (n:W.ownsRow base 38 2 (.slice A 2 R) 2 (Zal [a,b])) (h1:a≠Zew):
  Calls Tryz.prog 198 #[.slice A 2 R,ZQ.p I] W (ZhZ W K h m L S O fun M e'=>M=[a]∧e'=11):=by
 have E:=Zh (ZeR.own (l:=[a,b]) n);have x:=Zh H.noTy;obtain ⟨g,rfl,J,X,aa,j⟩:=Zh5 n H;obtain ⟨ak,ac⟩:=a;obtain ⟨U,T⟩:=b;have hd:(decide (ak=1)&&decide (ac=0))=false:=by exact k34
 clear h1;have HS:=Zh (clS (l:=[(⟨I,0,none⟩,.pointer (some ⟨K,0,none⟩)),(⟨g,0,none⟩,.int .i64 ak),(⟨g,1,none⟩,.int .i64 ac),(⟨g,2,none⟩,.int .i64 U),(⟨g,3,none⟩,.int .i64 T)]) ⟨u.cell 0 rfl,j 0 _ rfl,j 1 _ rfl,j 2 _ rfl,j 3 _ rfl,trivial⟩ (by simp [J,Zh3 u H (by decide)]) (H:=H));have F:=Zh (Upd.refl K K W);have B:=Zh H;clear H u;clear n j;have Z:=ZdY;have V:=ZdX;have Y:=ZdZ;go_enter Tryz.func198,Tryz.ntmps198
 go_wp2_with fail
 refine kR HS.out F B (oL [0,1,2,3,104,5,6,7,8,9,110,11,12,113]) fun G C=>?_
 repeat refine pO ?_
 refine kB HS.out G C (Zho _) fun w2 y q=>?_
 repeat refine pO ?_
 refine kS HS.out y q 14 ?_
 repeat refine pO ?_
 refine kW HS.out y q (ZeW K h m L S O _ _ _ q.out) fun _ w3 z D=>?_
 repeat refine pO ?_
 refine Zd7 ?_;go_wp2;go_ret;refine ⟨some ⟨g,0,none⟩,R,[_],_,rfl,ZeR.one_of (E.out.upd z.out x.out x.out),D.out,z.out,rfl,?_⟩;rfl
theorem Zic (a:Ty) (op ia ib:Int) (x:Option Addr) (J base F aa:Nat) (W:World) (H:Ck W K h m L S O 0) (j:Blk W F #[ZQ.p K] 163) (b:W.ownsRow base 38 2 (.slice x 1 J) 1 (Zal [a])):
  Calls Tryz.prog 199 #[.slice x 1 J,ZQ.p F] W (ZhZ W K h m L S O fun I e'=>I=[Zew]∧e'=ZeV 0 (!decide (a=Zew))):=by
 obtain ⟨g,rfl,G,V,Z,n⟩:=Zh5 b H;obtain ⟨T,R⟩:=a;have HS:=Zh (clS (l:=[(⟨F,0,none⟩,.pointer (some ⟨K,0,none⟩)),(⟨g,0,none⟩,.int .i64 T),(⟨g,1,none⟩,.int .i64 R)]) ⟨j.cell 0 rfl,n 0 _ rfl,n 1 _ rfl,trivial⟩ (by simp [G,Zh3 j H (by decide)]) (H:=H));have B:=Zh (Upd.refl K K W);have y:=Zh H;clear H j;clear b n;have Y:=ZdY;have U:=ZdX;have X:=ZdZ;go_enter Tryz.func199,Tryz.ntmps199
 go_wp2_with fail
 refine kR HS.out B y (oL [0,1,2,3,104,5,106]) fun C z=>?_
 repeat refine pO ?_
 refine kB HS.out C z (Zho _) fun w2 D q=>?_
 repeat refine pO ?_
 refine kW HS.out D q (ZeW K h m L S O _ _ _ q.out) fun _ w3 E A=>?_
 repeat refine pO ?_
 refine Zd7 ?_
 go_wp2_with (go_at_call 188;refine (Zho _).mono ?_;rintro r M ⟨rfl,u⟩)
 go_ret;refine ⟨some ⟨M.heap.size,0,none⟩,1,[_],_,rfl,ZeR.one (t:=Zew) (Blk.new M _ _),Ck.old (A.out.old u) bE,(E.out.bel u).alloc _,?_,?_⟩;rfl;exact k82
theorem Zid (a:Ty) (op ia ib:Int) (I:Option Addr) (tc base cb q:Nat) (W:World) (H:Ck W K h m L S O 0) (y:∀ w',Upd K K W w'→Zaz w' h m) (z:Blk W cb #[ZQ.p K] 163) (n:Blk W q #[.int .i64 op,.int .i64 ia,.int .i64 ib] 72) (u:W.ownsRow base 38 2 (.slice I 1 tc) 1 (Zal [a])) (ha:0≤ia) (ht:a.k=2→0≤a.c∧a.c<m.cl.length):
  Calls Tryz.prog 257 #[.slice I 1 tc,ZQ.p cb,ZQ.p q] W (ZhZ W K h m L S O fun ae e'=>ae=[(ZeA m a ia).getD default]∧e'=ZeV 0 (ZeA m a ia).isSome):=by
 obtain ⟨g,rfl,ad,am,ap,A⟩:=Zh5 u H;obtain ⟨G,F⟩:=a;have HS:=Zh (clS (l:=[(⟨cb,0,none⟩,.pointer (some ⟨K,0,none⟩)),(⟨g,0,none⟩,.int .i64 G),(⟨g,1,none⟩,.int .i64 F),(⟨q,0,none⟩,.int .i64 op),(⟨q,1,none⟩,.int .i64 ia),(⟨q,2,none⟩,.int .i64 ib)]) ⟨z.cell 0 rfl,A 0 _ rfl,A 1 _ rfl,n.cell 0 rfl,n.cell 1 rfl,n.cell 2 rfl,trivial⟩ (by simp [ad,Zh3 z H (by decide),Zh3 n H (by decide)]) (H:=H));have Z:=Zh (Upd.refl K K W);have T:=Zh H;have aj:=Zh y;clear H z n;obtain ⟨⟨R,M⟩,j⟩:∃ x:Ty,x=(ZeA m ⟨G,F⟩ ia).getD default:=⟨_,rfl⟩;obtain ⟨lb,b⟩:∃ x:Bool,x=(ZeA m ⟨G,F⟩ ia).isSome:=⟨_,rfl⟩;have X:=Zh (show ∀ e w',Ck w' K h m L S O e→Upd K K W w'→Calls Tryz.prog 258 #[ZQ.p K,.agg #[.int .i64 G,.int .i64 F],.int .i64 ia] w' fun r J=>r=.returned (.agg #[.int .i64 R,.int .i64 M])∧Ck J K h m L S O (ZeV e lb)∧Upd K K w' J from fun e w' hc hu=>by have:=Zh2 K h m L S O e ia ⟨G,F⟩ w' hc (y w' hu) ha ht;rw [←j,←b] at this;exact this);have Y:=Zh j;clear j;have V:=Zh b;clear b;clear ht;clear u A y;have ao:=ZdY;have al:=ZdX;have an:=ZdZ;go_enter Tryz.func257,Tryz.ntmps257
 go_wp2_with fail
 refine kR HS.out Z T (oL [0,1,2,3,4,5,106,107,8]) fun D B=>?_
 repeat refine pO ?_
 refine kV HS.out D B (X.out _ _ B.out D.out) fun w2 aa U=>?_
 repeat refine pO ?_
 refine oO fun Kv hK=>?_;go_simp;have E:=Zh (aa.out.alloc (.cells #[.int .i64 R,.int .i64 M] 38));have C:=Zh (Ck.old (w':=w2.alloc (.cells #[.int .i64 R,.int .i64 M] 38)) U.out bE);refine hK _ _ ⟨HS.out _ _ E.out C.out,?_⟩;clear hK Kv
 repeat refine pO ?_
 refine Zd7 ?_;go_wp2;go_ret;refine ⟨some ⟨w2.heap.size,0,none⟩,1,[_],_,rfl,ZeR.one (t:=⟨R,M⟩) (Blk.new w2 _ _),C.out,E.out,?_,?_⟩;rw [←Y.out];rw [V.out]
theorem Zie (a b:Ty) (op ia ib:Int) (G:Option Addr) (tc base V z:Nat) (W:World) (H:Ck W K h m L S O 0) (B:∀ w',Upd K K W w'→Zaz w' h m) (D:Blk W V #[ZQ.p K] 163) (y:Blk W z #[.int .i64 op,.int .i64 ia,.int .i64 ib] 72) (C:W.ownsRow base 38 2 (.slice G 2 tc) 2 (Zal [a,b])) (ha:0≤ia) (ht:a.k=2→0≤a.c∧a.c<m.cl.length):
  Calls Tryz.prog 259 #[.slice G 2 tc,ZQ.p V,ZQ.p z] W (ZhZ W K h m L S O fun Z e'=>Z=[]∧e'=ZeV (ZeV 0 (ZeA m a ia).isSome) (decide (ZeV 0 (ZeA m a ia).isSome=0)&&Zhr m b ((ZeA m a ia).getD default))):=by
 obtain ⟨g,rfl,X,ag,aj,u⟩:=Zh5 C H;obtain ⟨F,E⟩:=a;obtain ⟨J,I⟩:=b;have HS:=Zh (clS (l:=[(⟨V,0,none⟩,.pointer (some ⟨K,0,none⟩)),(⟨g,0,none⟩,.int .i64 F),(⟨g,1,none⟩,.int .i64 E),(⟨g,2,none⟩,.int .i64 J),(⟨g,3,none⟩,.int .i64 I),(⟨z,0,none⟩,.int .i64 op),(⟨z,1,none⟩,.int .i64 ia),(⟨z,2,none⟩,.int .i64 ib)]) ⟨D.cell 0 rfl,u 0 _ rfl,u 1 _ rfl,u 2 _ rfl,u 3 _ rfl,y.cell 0 rfl,y.cell 1 rfl,y.cell 2 rfl,trivial⟩ (by simp [X,Zh3 D H (by decide),Zh3 y H (by decide)]) (H:=H));have U:=Zh (Upd.refl K K W);have T:=Zh H;have ad:=Zh B;clear H D y;obtain ⟨⟨R,M⟩,q⟩:∃ x:Ty,x=(ZeA m ⟨F,E⟩ ia).getD default:=⟨_,rfl⟩;obtain ⟨lb,n⟩:∃ x:Bool,x=(ZeA m ⟨F,E⟩ ia).isSome:=⟨_,rfl⟩;have HLo:=Zh (show ∀ e w',Ck w' K h m L S O e→Upd K K W w'→Calls Tryz.prog 258 #[ZQ.p K,.agg #[.int .i64 F,.int .i64 E],.int .i64 ia] w' fun r A=>r=.returned (.agg #[.int .i64 R,.int .i64 M])∧Ck A K h m L S O (ZeV e lb)∧Upd K K w' A from fun e w' hc Y=>by have:=Zh2 K h m L S O e ia ⟨F,E⟩ w' hc (B w' Y) ha ht;rw [←q,←n] at this;exact this);have HLu:=Zh q;clear q;have HLb:=Zh n;clear n;clear ht;obtain ⟨ft,j⟩:∃ x:Bool,x=Zhr m ⟨J,I⟩ ⟨R,M⟩:=⟨_,rfl⟩;have HFi:=Zh (show ∀ e w',Ck w' K h m L S O e→Upd K K W w'→Calls Tryz.prog 196 #[ZQ.p K,.agg #[.int .i64 J,.int .i64 I],.agg #[.int .i64 R,.int .i64 M]] w' fun r A=>(∃ v,r=.returned v)∧Ck A K h m L S O (ZeV e (decide (e=0)&&ft))∧Upd K K w' A from fun e w' hc Y=>by have:=Zhx K h m L S O e ⟨J,I⟩ ⟨R,M⟩ w' hc (B w' Y);rw [←j] at this;exact this);have HFt:=Zh j;clear j;clear C u B
 have ai:=ZdY;have af:=ZdX;have ah:=ZdZ;go_enter Tryz.func259,Tryz.ntmps259
 go_wp2_with fail
 refine kR HS.out U T (oL [0,1,2,3,4,5,6,7,8,9,110,111]) fun HU1 HC1=>?_;exact k41
theorem Zif (a b:Ty) (op ia ib:Int) (G:Option Addr) (tc base cb aw:Nat) (W:World) (H:Ck W K h m L S O 0) (y:Blk W cb #[ZQ.p K] 163) (u:W.ownsRow base 38 2 (.slice G 2 tc) 2 (Zal [a,b])):
  Calls Tryz.prog 260 #[.slice G 2 tc,ZQ.p cb] W (ZhZ W K h m L S O fun ai e'=>ai=[(ZeB a).getD default]∧e'=ZeV (ZeV 0 (decide (b=Zew))) (ZeB a).isSome):=by
 obtain ⟨g,rfl,ah,aq,av,q⟩:=Zh5 u H;obtain ⟨F,E⟩:=a;obtain ⟨bk,bc⟩:=b;have HS:=Zh (clS (l:=[(⟨cb,0,none⟩,.pointer (some ⟨K,0,none⟩)),(⟨g,0,none⟩,.int .i64 F),(⟨g,1,none⟩,.int .i64 E),(⟨g,2,none⟩,.int .i64 bk),(⟨g,3,none⟩,.int .i64 bc)]) ⟨y.cell 0 rfl,q 0 _ rfl,q 1 _ rfl,q 2 _ rfl,q 3 _ rfl,trivial⟩ (by simp [ah,Zh3 y H (by decide)]) (H:=H));have aa:=Zh (Upd.refl K K W);have R:=Zh H;clear H y;obtain ⟨⟨M,J⟩,n⟩:∃ x:Ty,x=(ZeB ⟨F,E⟩).getD default:=⟨_,rfl⟩;obtain ⟨lb,j⟩:∃ x:Bool,x=(ZeB ⟨F,E⟩).isSome:=⟨_,rfl⟩;have Y:=Zh (show ∀ e w',Ck w' K h m L S O e→Upd K K W w'→Calls Tryz.prog 261 #[ZQ.p K,.agg #[.int .i64 F,.int .i64 E]] w' fun r I=>r=.returned (.agg #[.int .i64 M,.int .i64 J])∧Ck I K h m L S O (ZeV e lb)∧Upd K K w' I from fun e w' hc hu=>by have:=Zhz K h m L S O e ⟨F,E⟩ w' hc;rw [←n,←j] at this;exact this);have Z:=Zh n;clear n;have X:=Zh j;clear j;clear u q;have au:=ZdY;have ap:=ZdX;have ar:=ZdZ;go_enter Tryz.func260,Tryz.ntmps260
 go_wp2_with fail
 refine kR HS.out aa R (oL [0,1,2,3,104,5,106]) fun ab T=>?_
 repeat refine pO ?_
 refine kB HS.out ab T (Zho _) fun w2 ad z=>?_
 repeat refine pO ?_
 refine kW HS.out ad z (ZeW K h m L S O _ _ _ z.out) fun _ w3 ae U=>?_
 repeat refine pO ?_
 refine Zd7 ?_
 go_wp2_with fail
 refine kR HS.out ae U (oL [0,1,2,3,104,105,6]) fun C A=>?_
 repeat refine pO ?_
 refine kV HS.out C A (Y.out _ _ A.out C.out) fun w5 af V=>?_
 repeat refine pO ?_
 refine oO fun Kv hK=>?_;go_simp;have D:=Zh (af.out.alloc (.cells #[.int .i64 M,.int .i64 J] 38));have B:=Zh (Ck.old (w':=w5.alloc (.cells #[.int .i64 M,.int .i64 J] 38)) V.out bE);refine hK _ _ ⟨HS.out _ _ D.out B.out,?_⟩;clear hK Kv
 repeat refine pO ?_
 refine Zd7 ?_;go_wp2;go_ret;refine ⟨some ⟨w5.heap.size,0,none⟩,1,[_],_,rfl,ZeR.one (t:=⟨M,J⟩) (Blk.new w5 _ _),B.out,D.out,?_,?_⟩;rw [←Z.out];rw [X.out,Zhs];rfl
theorem Zig (a b d:Ty) (op ia ib:Int) (J:Option Addr) (tc base cb aC:Nat) (W:World) (H:Ck W K h m L S O 0) (z:∀ w',Upd K K W w'→Zaz w' h m) (A:Blk W cb #[ZQ.p K] 163) (y:W.ownsRow base 38 2 (.slice J 3 tc) 3 (Zal [a,b,d])):
  Calls Tryz.prog 262 #[.slice J 3 tc,ZQ.p cb] W (ZhZ W K h m L S O fun ao e'=>ao=[]∧e'=ZeV (ZeV (ZeV 0 (decide (b=Zew))) (ZeB a).isSome) (decide (ZeV (ZeV 0 (decide (b=Zew))) (ZeB a).isSome=0)&&Zhr m d ((ZeB a).getD default))):=by
 obtain ⟨g,rfl,an,ay,aB,j⟩:=Zh5 y H;obtain ⟨I,G⟩:=a;obtain ⟨bk,bc⟩:=b;obtain ⟨R,M⟩:=d;have HS:=Zh (clS (l:=[(⟨cb,0,none⟩,.pointer (some ⟨K,0,none⟩)),(⟨g,0,none⟩,.int .i64 I),(⟨g,1,none⟩,.int .i64 G),(⟨g,2,none⟩,.int .i64 bk),(⟨g,3,none⟩,.int .i64 bc),(⟨g,4,none⟩,.int .i64 R),(⟨g,5,none⟩,.int .i64 M)]) ⟨A.cell 0 rfl,j 0 _ rfl,j 1 _ rfl,j 2 _ rfl,j 3 _ rfl,j 4 _ rfl,j 5 _ rfl,trivial⟩ (by simp [an,Zh3 A H (by decide)]) (H:=H));have ag:=Zh (Upd.refl K K W);have V:=Zh H;have ar:=Zh z;clear H A;obtain ⟨⟨U,T⟩,q⟩:∃ x:Ty,x=(ZeB ⟨I,G⟩).getD default:=⟨_,rfl⟩;obtain ⟨lb,p⟩:∃ x:Bool,x=(ZeB ⟨I,G⟩).isSome:=⟨_,rfl⟩;have ae:=Zh (show ∀ e w',Ck w' K h m L S O e→Upd K K W w'→Calls Tryz.prog 261 #[ZQ.p K,.agg #[.int .i64 I,.int .i64 G]] w' fun r u=>r=.returned (.agg #[.int .i64 U,.int .i64 T])∧Ck u K h m L S O (ZeV e lb)∧Upd K K w' u from fun e w' hc hu=>by have:=Zhz K h m L S O e ⟨I,G⟩ w' hc;rw [←q,←p] at this;exact this);have af:=Zh q;clear q;have ad:=Zh p;clear p;obtain ⟨ft,n⟩:∃ x:Bool,x=Zhr m ⟨R,M⟩ ⟨U,T⟩:=⟨_,rfl⟩;have aa:=Zh (show ∀ e w',Ck w' K h m L S O e→Upd K K W w'→Calls Tryz.prog 196 #[ZQ.p K,.agg #[.int .i64 R,.int .i64 M],.agg #[.int .i64 U,.int .i64 T]] w' fun r u=>(∃ v,r=.returned v)∧Ck u K h m L S O (ZeV e (decide (e=0)&&ft))∧Upd K K w' u from fun e w' hc hu=>by have:=Zhx K h m L S O e ⟨R,M⟩ ⟨U,T⟩ w' hc (z w' hu);rw [←n] at this;exact this);have ab:=Zh n;clear n;clear y j z;have aA:=ZdY;have ax:=ZdX;have az:=ZdZ;go_enter Tryz.func262,Tryz.ntmps262
 go_wp2_with fail
 refine kR HS.out ag V (oL [0,1,2,3,104,5,106]) fun ah X=>?_
 repeat refine pO ?_
 refine kB HS.out ah X (Zho _) fun w2 ai B=>?_
 repeat refine pO ?_
 refine kW HS.out ai B (ZeW K h m L S O _ _ _ B.out) fun _ w3 aj Y=>?_
 repeat refine pO ?_
 refine Zd7 ?_
 go_wp2_with fail
 refine kR HS.out aj Y (oL [0,1,2,3,4,5,6,7,108,109]) fun E C=>?_
 repeat refine pO ?_
 refine kV HS.out E C (ae.out _ _ C.out E.out) fun w5 F D=>?_
 repeat refine pO ?_
 refine kW HS.out F D (aa.out _ _ D.out F.out) fun _ w6 al Z=>?_
 repeat refine pO ?_
 refine Zd7 ?_;go_wp2;go_ret;refine ⟨none,0,[],_,rfl,ZeR.nil _,Z.out,al.out,rfl,?_⟩;rw [ab.out,ad.out,af.out,Zhs];rfl
theorem Zih (a:Ty) (op ia ib:Int) (D:Option Addr) (X base T ag:Nat) (W:World) (H:Ck W K h m L S O 0) (q:Blk W T #[ZQ.p K] 163) (n:W.ownsRow base 38 2 (.slice D 1 X) 1 (Zal [a])):
  Calls Tryz.prog 263 #[.slice D 1 X,ZQ.p T] W (ZhZ W K h m L S O fun V e'=>V=[Zew]∧e'=ZeV 0 (ZeB a).isSome):=by
 obtain ⟨g,rfl,U,ab,af,u⟩:=Zh5 n H;obtain ⟨B,A⟩:=a;have HS:=Zh (clS (l:=[(⟨T,0,none⟩,.pointer (some ⟨K,0,none⟩)),(⟨g,0,none⟩,.int .i64 B),(⟨g,1,none⟩,.int .i64 A)]) ⟨q.cell 0 rfl,u 0 _ rfl,u 1 _ rfl,trivial⟩ (by simp [U,Zh3 q H (by decide)]) (H:=H));have M:=Zh (Upd.refl K K W);have F:=Zh H;clear H q;obtain ⟨⟨uk,uc⟩,j⟩:∃ x:Ty,x=(ZeB ⟨B,A⟩).getD default:=⟨_,rfl⟩;obtain ⟨lb,b⟩:∃ x:Bool,x=(ZeB ⟨B,A⟩).isSome:=⟨_,rfl⟩;have J:=Zh (show ∀ e w',Ck w' K h m L S O e→Upd K K W w'→Calls Tryz.prog 261 #[ZQ.p K,.agg #[.int .i64 B,.int .i64 A]] w' fun r E=>r=.returned (.agg #[.int .i64 uk,.int .i64 uc])∧Ck E K h m L S O (ZeV e lb)∧Upd K K w' E from fun e w' hc hu=>by have:=Zhz K h m L S O e ⟨B,A⟩ w' hc;rw [←j,←b] at this;exact this);have Z:=Zh j;clear j;have I:=Zh b;clear b;clear n u;have ae:=ZdY;have aa:=ZdX;have ad:=ZdZ;go_enter Tryz.func263,Tryz.ntmps263
 go_wp2_with fail
 refine kR HS.out M F (oL [0,1,2,3,104]) fun z y=>?_
 repeat refine pO ?_
 refine kV HS.out z y (J.out _ _ y.out z.out) fun w2 R G=>?_
 repeat refine pO ?_
 refine Zd7 ?_
 go_wp2_with (go_at_call 188;refine (Zho _).mono ?_;rintro r Y ⟨rfl,C⟩)
 go_ret;refine ⟨some ⟨Y.heap.size,0,none⟩,1,[_],_,rfl,ZeR.one (t:=Zew) (Blk.new Y _ _),Ck.old (G.out.old C) bE,(R.out.bel C).alloc _,?_,?_⟩;rfl;rw [I.out]
theorem Zii (a:Ty) (op ia ib:Int) (D:Option Addr) (tc base cb p:Nat) (W:World) (H:Ck W K h m L S O 0) (u:Blk W cb #[ZQ.p K] 163) (n:Blk W p #[.int .i64 op,.int .i64 ia,.int .i64 ib] 72) (q:W.ownsRow base 38 2 (.slice D 1 tc) 1 (Zal [a])) (lo:Option Addr) (lc:Nat) (ls:List Ty) (hL:L=.slice lo ls.length lc) (hT:ZeR W lo lc ls) (ha:0≤ib) (h1:a=Zew):
  Calls Tryz.prog 189 #[.slice D 1 tc,ZQ.p cb,ZQ.p p] W (ZhZ W K h m L S O fun ae e'=>ae=[]∧e'=ZeV (ZeV 0 (decide (ib<ls.length))) (decide (ls.getD ib.toNat default=Zew))):=by
 obtain ⟨g,rfl,ad,al,ao,y⟩:=Zh5 q H;obtain ⟨ak,ac⟩:=a;obtain ⟨rfl,rfl⟩:ak=1∧ac=0:=by cases h1;exact ⟨rfl,rfl⟩
 clear h1;have B:=Zh H.noTy;have HS:=Zh (clS (l:=[(⟨cb,0,none⟩,.pointer (some ⟨K,0,none⟩)),(⟨g,0,none⟩,.int .i64 1),(⟨g,1,none⟩,.int .i64 0),(⟨p,0,none⟩,.int .i64 op),(⟨p,1,none⟩,.int .i64 ia),(⟨p,2,none⟩,.int .i64 ib)]) ⟨u.cell 0 rfl,y 0 _ rfl,y 1 _ rfl,n.cell 0 rfl,n.cell 1 rfl,n.cell 2 rfl,trivial⟩ (by simp [ad,Zh3 u H (by decide),Zh3 n H (by decide)]) (H:=H));have U:=Zh (Upd.refl K K W);have F:=Zh H;clear H u n;obtain ⟨⟨uk,uc⟩,j⟩:∃ x:Ty,x=ls.getD ib.toNat default:=⟨_,rfl⟩;obtain ⟨lb,b⟩:∃ x:Bool,x=decide (ib<ls.length):=⟨_,rfl⟩;have R:=Zh (show ∀ e w',Ck w' K h m L S O e→Upd K K W w'→Calls Tryz.prog 190 #[ZQ.p K,.int .i64 ib] w' fun r E=>r=.returned (.agg #[.int .i64 uk,.int .i64 uc])∧Ck E K h m L S O (ZeV e lb)∧Upd K K w' E from fun e w' hc hu=>by have:=Zhy K h m S O lo lc ls e ib w' (hL▸hc) (hT.upd hu B.out B.out).1 ha;rw [←j,←b,←hL] at this;exact this);have T:=Zh j;clear j;have M:=Zh b;clear b;clear hT hL;clear q y;have an:=ZdY;have aj:=ZdX;have am:=ZdZ;go_enter Tryz.func189,Tryz.ntmps189
 go_wp2_with fail
 refine kR HS.out U F (oL [0,1,2,3,104,5,6,7,8,9,110,111,12,13,114]) fun V G=>?_
 repeat refine pO ?_
 refine kB HS.out V G (Zho _) fun w2 C z=>?_
 repeat refine pO ?_
 refine kV HS.out C z (R.out _ _ z.out C.out) fun w3 X I=>?_
 repeat refine pO ?_
 refine kB HS.out X I (Zho _) fun w4 Y A=>?_
 repeat refine pO ?_
 refine kW HS.out Y A (ZeW K h m L S O _ _ _ A.out) fun _ w5 Z J=>?_
 repeat refine pO ?_
 refine Zd7 ?_;go_wp2;go_ret;refine ⟨none,0,[],_,rfl,ZeR.nil _,J.out,Z.out,rfl,?_⟩;rw [M.out,←T.out,Zhs];rfl
theorem Zij (a:Ty) (op ia ib:Int) (z:Option Addr) (M base G j:Nat) (W:World) (H:Ck W K h m L S O 0) (x:Blk W G #[ZQ.p K] 163) (b:Blk W j #[.int .i64 op,.int .i64 ia,.int .i64 ib] 72) (q:W.ownsRow base 38 2 (.slice z 1 M) 1 (Zal [a])) (h1:a≠Zew):
  Calls Tryz.prog 189 #[.slice z 1 M,ZQ.p G,ZQ.p j] W (ZhZ W K h m L S O fun J e'=>J=[]∧e'=11):=by
 obtain ⟨g,rfl,I,T,X,y⟩:=Zh5 q H;obtain ⟨ak,ac⟩:=a;have Y:(decide (ak=1)&&decide (ac=0))=false:=by exact k34
 clear h1;have HS:=Zh (clS (l:=[(⟨G,0,none⟩,.pointer (some ⟨K,0,none⟩)),(⟨g,0,none⟩,.int .i64 ak),(⟨g,1,none⟩,.int .i64 ac),(⟨j,0,none⟩,.int .i64 op),(⟨j,1,none⟩,.int .i64 ia),(⟨j,2,none⟩,.int .i64 ib)]) ⟨x.cell 0 rfl,y 0 _ rfl,y 1 _ rfl,b.cell 0 rfl,b.cell 1 rfl,b.cell 2 rfl,trivial⟩ (by simp [I,Zh3 x H (by decide),Zh3 b H (by decide)]) (H:=H));have D:=Zh (Upd.refl K K W);have A:=Zh H;clear H x b;clear q y;have V:=ZdY;have R:=ZdX;have U:=ZdZ;go_enter Tryz.func189,Tryz.ntmps189
 go_wp2_with fail
 refine kR HS.out D A (oL [0,1,2,3,104,5,6,7,8,9,110,111,12,13,114]) fun E B=>?_
 repeat refine pO ?_
 refine kB HS.out E B (Zho _) fun Z u n=>?_
 repeat refine pO ?_
 refine kS HS.out u n 15 ?_
 repeat refine pO ?_
 refine kS HS.out u n 16 ?_
 repeat refine pO ?_
 refine kW HS.out u n (ZeW K h m L S O _ _ _ n.out) fun _ w3 F C=>?_
 repeat refine pO ?_
 refine Zd7 ?_;go_wp2;go_ret;refine ⟨none,0,[],_,rfl,ZeR.nil _,C.out,F.out,rfl,?_⟩;rfl
end
end
