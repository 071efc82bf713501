/- Joined texts. The first: bound.parts: the nodes of a stretch of code. -/
import Derived.Test.YtcfjblcgceednaaGreatG10
import Derived.Test.YtcfjblcgceednaaGreatG26
import Derived.Test.YtcfjblcgceednaaGreatG12
import Derived.Test.YtcfjblcgceednaaGreatG25
set_option linter.all false
set_option linter.unusedVariables false
set_option linter.unusedSimpArgs false
set_option maxRecDepth 100000
set_option maxHeartbeats 16000000
namespace Go.Proofs.YtcfjblcgceednaaGreat
theorem j2{p:Prop}(h:p:=by
 clear hn3 hown3 hput hT
 go_wp2_with (at_mapUpdate;refine wpList_mapUpdate_own _ rfl _ _ _ 69 rfl 3 3 Zn1 Tryz.underlying69 _ M n _ rfl HO3.out (by unfold maxLen;omega) _ _ _ rfl rfl (Zn4 (by omega)) _ [] (plainElem_int Tryz.underlying3 (WalkArith.wf_i64 (by omega))) ?_;intro w4 hown4 hg4)
 go_ret
 exact ⟨rfl,HU3.out.trans ⟨hg4.os,hg4.tape,hg4.output,hg4.size,fun q hq h1 _=>hg4.block q hq fun e=>h1 (Option.some.inj e)⟩,HPt.out _ _ (fun j hj=>by rcases hj with (hj|hj)|hj<;>first|exact .inl hj.1|(right;omega)) hown4⟩):p:=h
theorem j9{p:Prop}(h:p:=by
 rw [if_neg (by have:=hm.z;omega),if_pos (List.all_eq_true.2 fun i hi=>(hm.i i hi).1),hm.n]
 rfl):p:=h
section
open Go.RowKit
theorem Znw {P:Program}{w:World}{ops:Array Oper}{rest:List Oper}{o:Oper}{a:Act}{Q:Exit→Act→World→Prop} (hgd:o.guard=none) (s x:Operand) (t:TypeId)
  (ho:o.op=.call { callee:=.builtin .append,args:=#[s,x],argTypes:=#[t,t] })
  (base:Nat) (e:TypeId) (size bytes:Nat) (hel:El P t e size bytes)
  (v:Value) (n:Nat) (xs:List Value) (hs:a.eval s=v) (hown:w.ownsRow base e size v n xs)
  (ad:Addr) (m c:Nat) (news:List Value) (hx:a.eval x=.slice (some ad) m c) (hsl:SlA w size (some ad) m c news) (h1:∀ u∈news,u.oneCell'=true)
  (hbytes:(n+m)*bytes≤140737488355328) (h63:n+m≤maxLen) (hbase:base≤w.heap.size) (hm:0<m)
  (h:∀ ao' cap' w',w'.ownsRow base e size (.slice ao' (n+m) cap') (n+m) (xs++news)→w.grownBy w' v.ownBlock→((Value.slice ao' (n+m) cap').ownBlock=v.ownBlock∨(Value.slice ao' (n+m) cap').ownBlock=some w.heap.size)→wpList P ops Q rest (a.put o.dst (.slice ao' (n+m) cap')) w'):wpList P ops Q (o :: rest) a w:=by
 obtain ⟨i,z,hi,hz,hsize,hby,hzs⟩:=hel.info
 refine wpList_append_own_at _ hgd s x t ho base e i z size bytes hel.und hi hz hsize hby hzs hel.pos v n xs hs hown ad m c news hx hsl.1 (fun j u hu=>?_) h1 h63 hbytes hbase ?_
 ·obtain ⟨a',ha',hc⟩:=hsl.2.2 j u hu
  obtain rfl:=Option.some.inj ha'
  exact hc
 ·intro v' w' hown' hg _ hat
  rcases hown'.2 with ⟨rfl,hnm⟩|⟨g,c,cur,rfl,hr⟩
  ·omega
  ·exact h _ c w' hown' hg hat
theorem Znx:El Tryz.prog 140 193 5 72:=El.mk' (z:=.agg #[.int .i64 0,.int .i64 0,.int .i64 0,.slice none 0 0,.slice none 0 0]) Tryz.underlying140 (by kernel_rfl) (by kernel_rfl) (by decide)
theorem Zny {l:List In3}{a b:Nat} (h:Seg l a b):a=b∨(a<b∧ZaR (l.getD a default).op=false∧(l.getD a default).op≠34∧(l.getD a default).op≠35∧Seg l (a+1) b) ∨
  (∃ en:Nat,Mat l a (-1) en∧a<en∧en<b∧Seg l (a+1) en∧Seg l (en+1) b)∨∃ n en:Nat,Mat l a n en∧a<n∧n<en∧en<b∧Seg l (a+1) n∧Seg l (n+1) en∧Seg l (en+1) b:=by
 cases h with
 | nil _ h=>exact .inl rfl
 | pl _ _ h1 h2 h3 h4 h5=>exact .inr (.inl ⟨(Zmo h5).1,h2,h3,h4,h5⟩)
 | one _ en _ h1 h2 h3=>exact .inr (.inr (.inl ⟨en,h1,ZbI h1,(Zmo h3).1,h2,h3⟩))
 | two _ n en _ h1 h2 h3 h4=>exact .inr (.inr (.inr ⟨n,en,h1,(Zmo h2).1,(Zmo h3).1,(Zmo h4).1,h2,h3,h4⟩))
theorem Znz (w:World) (xs:Array Value) (t:TypeId) {b n size:Nat}{ys:List Value} (hb:b=w.heap.size) (hx:xs.toList=ys∧ys.length=n*size):SlA (w.alloc (.cells xs t)) size (some ⟨b,0,none⟩) n n ys:=by
 subst hb
 obtain ⟨rfl,h⟩:=hx
 exact Zcr w xs t (by simpa using h)
structure ZnA (W w:World) (l:List In3) (a k:Nat) (ro:Option Addr) (rc:Nat) (rows:List VN):Prop where
 own:w.ownsRow W.heap.size 193 5 (.slice ro rows.length rc) rows.length (Zak rows)
 nds:Nds w l (fun q=>W.heap.size≤q∧q<w.heap.size∧(Value.slice ro rows.length rc).ownBlock≠some q) a k rows
 low:Below W.heap.size W w
theorem ZnA.old {W w w':World}{l:List In3}{a k:Nat}{ro:Option Addr}{rc:Nat}{rows:List VN} (H:ZnA W w l a k ro rc rows) (hb:Below w.heap.size w w'):ZnA W w' l a k ro rc rows:=
 ⟨ZhI H.own fun k hk=>hb.block k (H.own.lt k hk).2,(H.nds.old hb).weak fun q hq=>⟨hq.1,Nat.lt_of_lt_of_le hq.2.1 hb.size,hq.2.2⟩,Zaf H.low hb⟩
theorem ZnA.push {W w w2:World}{l:List In3}{a k k':Nat}{ro ao:Option Addr}{rc cap:Nat}{rows:List VN} (H:ZnA W w l a k ro rc rows) (x:VN)
  (hx:Nds w l (fun q=>W.heap.size≤q∧q<w.heap.size∧(Value.slice ro rows.length rc).ownBlock≠some q) a k' (rows++[x]))
  (hown:w2.ownsRow W.heap.size 193 5 (.slice ao (rows.length+1) cap) (rows.length+1) (Zak rows++Zak [x])) (hg:w.grownBy w2 (Value.slice ro rows.length rc).ownBlock)
  (hat:(Value.slice ao (rows.length+1) cap).ownBlock=(Value.slice ro rows.length rc).ownBlock∨(Value.slice ao (rows.length+1) cap).ownBlock=some w.heap.size):ZnA W w2 l a k' ao cap (rows++[x]):=by
 have hlen:(rows++[x]).length=rows.length+1:=by simp
 refine ⟨by rw [hlen,Zan];exact hown,hx.grow hg fun q h1 h2 h3=>⟨h1,Nat.lt_of_lt_of_le h2 hg.size,?_⟩,ZcV H.low hg fun q hq=>(H.own.lt q hq).1⟩
 rw [hlen]
 rcases hat with e|e
 ·rw [e];exact h3
 ·rw [e];intro q;cases q;omega
theorem ZnB {w w':World}{K B:Nat}{ao:Option Addr}{c:Nat}{L:List VN} (h:Zar w ao c L) (hu:Upd K B w w') (hne:∀ ad,ao=some ad→ad.block≠K∧ad.block≠B):Zar w' ao c L:=
 ⟨h.1,h.2.1,fun j u hu'=>by
  obtain ⟨a,ha,hc⟩:=h.2.2 j u hu'
  exact ⟨a,ha,(World.cell?_of_block (w:=w) (hu.block _ (Zac hc) (by rw [Zag];exact (hne a ha).1) (by rw [Zag];exact (hne a ha).2))).trans hc⟩⟩
theorem ZnC {W w w3 w4 w6:World}{l:List In3}{a k x y B:Nat}{ro fo:Option Addr}{rc fc:Nat}{rows F:List VN} (H:ZnA W w l a k ro rc rows) (hz:w.heap.size≤w3.heap.size) (hB:B<w3.heap.size)
  (hF:w4.ownsRow w3.heap.size 193 5 (.slice fo F.length fc) F.length (Zak F)∧Nds w4 l (fun q=>w3.heap.size≤q∧q<w4.heap.size) x y F) (hu:Upd B B w4 w6) :
  Zar w6 fo fc F∧(Lie (fun q=>W.heap.size≤q∧q<w6.heap.size∧(Value.slice ro rows.length rc).ownBlock≠some q) fo∧F.length≤fc)∧Nds w6 l (fun q=>W.heap.size≤q∧q<w6.heap.size∧(Value.slice ro rows.length rc).ownBlock≠some q) x y F:=by
 have hW:=H.low.size
 have hP:∀ q,w3.heap.size≤q∧q<w4.heap.size→W.heap.size≤q∧q<w6.heap.size∧(Value.slice ro rows.length rc).ownBlock≠some q:=fun q hq=>⟨by omega,Nat.lt_of_lt_of_le hq.2 hu.size,fun e=>by have:=(H.own.lt q e).2;omega⟩
 have hl:=ZmA hF.1
 have hr:∀ (ao:Option Addr) (c:Nat) (L:List VN),Zar w4 ao c L→Lie (fun q=>w3.heap.size≤q∧q<w4.heap.size) ao→Zar w6 ao c L∧Lie (fun q=>W.heap.size≤q∧q<w6.heap.size∧(Value.slice ro rows.length rc).ownBlock≠some q) ao:=
  fun ao c L h1 h2=>⟨ZnB h1 hu fun ad e=>by have:=(h2 ad e).1;omega,fun ad e=>hP _ (h2 ad e)⟩
 exact ⟨(hr _ _ _ (Zar.of_own hF.1) hl).1,⟨(hr _ _ _ (Zar.of_own hF.1) hl).2,ZmB hF.1⟩,hF.2.keep hr⟩
theorem ZnD (l:List In3) (ao:Option Addr) (cap a b:Nat) (w:World) (hl:Zar w ao cap l) (hv:ZaV false l=0) (hs:Seg l a b)
  (ih:∀ a' b' w',Seg l a' b'→a<a'→b' < b→Below w.heap.size w w'→Calls Tryz.prog 104 #[.slice ao l.length cap,.int .i64 a',.int .i64 b'] w' (Zmz w' l a' b')) :
  Calls Tryz.prog 104 #[.slice ao l.length cap,.int .i64 a,.int .i64 b] w (Zmz w l a b):=by
 have hlen:=(Znt hv).1
 have hsl:=Zmo hs
 have HL:=Zh (fun k (hk:k<l.length) w' hb=>ZaA (Zar.old hl (w':=w') hb) hk)
 have HMt:=Zh (fun w' hb k en alt hm=>Znv l ao cap w' (Zar.old hl (w':=w') hb) hv (k:=k) (en:=en) (alt:=alt) hm)
 have HS0:=Zh hs
 have HI:=Zh ih
 clear hl hv hs ih
 go_enter Tryz.func104,Tryz.ntmps104
 go_wp2
 go_loopw [7,8] (fun o i wr=>∃ (k:Nat) (ro:Option Addr) (rc:Nat) (rows:List VN),i=.int .i64 k∧o=.slice ro rows.length rc∧a≤k∧k≤b∧rows.length≤k∧Hid (Seg l k b)∧Hid (ZnA w wr l a k ro rc rows)) (fun _ i _=>b-(intOf i).toNat)
 case atStart=>exact ⟨a,none,0,[],rfl,rfl,Nat.le_refl _,hsl.1,Nat.zero_le _,HS0,⟨World.ownsRow_nil _ _ _ _,.nil _ (by omega),Below.refl _ _⟩⟩
 case round=>
  obtain ⟨k,ro,rc,rows,rfl,rfl,hak,hkb,hrk,HS,HN⟩:=hrel
  rcases Zny HS.out with hq|⟨hkb2,hop,h34,h35,hs2⟩|⟨en,hm,hken,henb,hs2,hs3⟩|⟨n,en,hm,hkn,hnen,henb,hs2,hs3,hs4⟩
  ·have hq2:¬ (k:Int) < b:=by omega
   clear HI HMt HL
   go_wp2
   go_ret
   obtain rfl:b=k:=hq.symm
   exact ⟨ro,rc,rows,rfl,HN.out.own,HN.out.nds.weak fun _ h=>⟨h.1,h.2.1⟩,HN.out.low⟩
  ·have hkl:k<l.length:=by omega
   have hkb3:(k:Int) < b:=by omega
   have hkl2:(k:Int) < l.length:=by omega
   have hwr:IntKind.i64.wrap ((k:Int)+1)=k+1:=IntWalk.i64_in _ (by omega)
   have HW:=Zh hwr
   have HP:=Zh (And.intro hop (And.intro h34 (And.intro h35 hs2)))
   obtain ⟨ad,rfl,o0,-,-⟩:=HL.out k hkl wr HN.out.low
   obtain ⟨op,hop2⟩:∃ o,o=(l.getD k default).op:=⟨_,rfl⟩
   rw [←hop2] at o0
   have HO:=Zh (show ZaR op=false by rw [hop2];exact hop)
   have hl0:=Zac o0
   have HNd:=Zh (Blk.new wr #[.int .i64 k,.int .i64 (-1),.int .i64 (-1),.slice none 0 0,.slice none 0 0] 193)
   have HB1:=Zh (show Below wr.heap.size wr ((wr.alloc (.cells #[.int .i64 k,.int .i64 (-1),.int .i64 (-1),.slice none 0 0,.slice none 0 0] 193)).alloc (.cells #[.int .i64 k,.int .i64 (-1),.int .i64 (-1),.slice none 0 0,.slice none 0 0] 193)) by exact bE)
   clear hwr hop h34 h35 hs2 hop2 HI HMt
   go_wp2_with (first
    | (go_at_call 162;refine (ZcP _ _).mono ?_;rintro e w2 ⟨rfl,rfl⟩;rw [HO.out])
    | (at_builtin;refine Znw rfl (.tmp 60) (.tmp 62) 140 rfl w.heap.size 193 5 72 Znx (.slice ro rows.length rc) rows.length (Zak rows) rfl (HN.out.old HB1.out).own ⟨wr.heap.size+1,0,none⟩ 1 1 (Zak [(⟨k,-1,-1,none,0,0,none,0,0⟩:VN)]) rfl (Znz _ _ _ (by simp) ⟨rfl,rfl⟩) (Zaq _) (by omega) (by unfold maxLen;omega) (by have:=HN.out.low.size;simp;omega) (by decide) ?_;intro ao' cap' w2 hown2 hg2 hat2))
   go_roundw
   case rel=>
    refine ⟨k+1,ao',cap',rows++[⟨k,-1,-1,none,0,0,none,0,0⟩],rfl,by simp,by omega,by omega,by simp;omega,HP.out.2.2.2,?_⟩
    exact (HN.out.old HB1.out).push _ ((HN.out.old HB1.out).nds.snoc_pl hkl HP.out.1 HP.out.2.1 HP.out.2.2.1) hown2 hg2 hat2
   case measure=>simp [intOf];omega
  ·have hkl:=hm.1
   have hkb3:(k:Int) < b:=by omega
   have hkl2:(k:Int) < l.length:=by omega
   have hwr:IntKind.i64.wrap ((k:Int)+1)=((k+1:Nat):Int):=IntWalk.i64_in _ (by omega)
   have hwe:IntKind.i64.wrap ((en:Int)+1)=((en+1:Nat):Int):=IntWalk.i64_in _ (by omega)
   have HW:=Zh (And.intro hwr hwe)
   have HMm:=Zh hm
   have HSs:=Zh (And.intro hs2 hs3)
   obtain ⟨ad,rfl,o0,-,-⟩:=HL.out k hkl wr HN.out.low
   obtain ⟨op,hop2⟩:∃ o,o=(l.getD k default).op:=⟨_,rfl⟩
   rw [←hop2] at o0
   have HO:=Zh (show ZaR op=true by rw [hop2];exact hm.2.1)
   have hl0:=Zac o0
   obtain ⟨B,hB⟩:∃ B,B=wr.heap.size:=⟨_,rfl⟩
   have HBB:=Zh hB
   have HX0:=Zh (Blk.new' (w:=wr) #[.int .i64 k,.int .i64 (-1),.int .i64 (-1),.slice none 0 0,.slice none 0 0] 193 hB)
   have HB0:=Zh (show Below wr.heap.size wr (wr.alloc (.cells #[.int .i64 k,.int .i64 (-1),.int .i64 (-1),.slice none 0 0,.slice none 0 0] 193)) by exact bE)
   have HC:=Zh (HMt.out _ (Zaf HN.out.low HB0.out) k en (-1) hm)
   clear hwr hwe hm hs2 hs3 hop2 hB
   go_upto_region 8 with (first
    | (go_at_call 162;refine (ZcP _ _).mono ?_;rintro e w2 ⟨rfl,rfl⟩;rw [HO.out])
    | (go_at_call 163;refine HC.out.mono ?_;rintro e w2 ⟨rfl,hb2⟩;have HB2:=Zh (Zaf HB0.out hb2);have HX2:=Zh (HX0.out.old hb2);clear hb2;rw [←HBB.out];have x1:=HX2.out.cell 1 (v:=.int .i64 (-1)) rfl;have x2:=HX2.out.cell 2 (v:=.int .i64 (-1)) rfl;have f1:=HX2.out.frozen 1;have f2:=HX2.out.frozen 2))
   obtain ⟨w3,hw3⟩:∃ w3,w3=(w2.setCell ⟨B,1,none⟩ (.int .i64 (-1))).setCell ⟨B,2,none⟩ (.int .i64 en):=⟨_,rfl⟩
   have HX3:=Zh (show Blk w3 B #[.int .i64 k,.int .i64 (-1),.int .i64 en,.slice none 0 0,.slice none 0 0] 193 by rw [hw3];exact (HX2.out.set 1 _).set 2 _)
   have HB3:=Zh (show Below wr.heap.size wr w3 by rw [hw3];have:=HBB.out;exact ZcW (ZcW HB2.out (by omega) _) (by omega) _)
   rw [←hw3]
   clear x1 x2 f1 f2 hw3
   have y1:=HX3.out.cell 1 (v:=.int .i64 (-1)) rfl
   have y2:=HX3.out.cell 2 (v:=.int .i64 en) rfl
   have hwr:=HW.out.1
   go_upto_region 11 with (first
    | (go_at_call 104;refine (HI.out (k+1) en _ HSs.out.1 (by omega) henb (Zaf HN.out.low HB3.out)).mono ?_;rintro e w4 ⟨fo,fc,F,rfl,hown4,hnd4,hb4⟩;have HF4:=Zh (And.intro hown4 hnd4);have HB4:=Zh (Zaf HB3.out hb4);have HX4:=Zh (HX3.out.old hb4);have HZ:=Zh HB3.out.size;clear hown4 hnd4 hb4 y1 y2;have y3:=HX4.out.cell 3 (v:=.slice none 0 0) rfl;have f3:=HX4.out.frozen 3))
   obtain ⟨w5,hw5⟩:∃ w5,w5=w4.setCell ⟨B,3,none⟩ (.slice fo F.length fc):=⟨_,rfl⟩
   have HX5:=Zh (show Blk w5 B #[.int .i64 k,.int .i64 (-1),.int .i64 en,.slice fo F.length fc,.slice none 0 0] 193 by rw [hw5];exact HX4.out.set 3 _)
   have HU5:=Zh (show Upd B B w4 w5 by rw [hw5];exact (Upd.refl B B w4).set 3 _)
   have HB5:=Zh (show Below wr.heap.size wr w5 by rw [hw5];have:=HBB.out;exact ZcW HB4.out (by omega) _)
   rw [←hw5]
   clear y3 f3 hw5 hwr
   have y0:=HX5.out.cell 0 (v:=.int .i64 k) rfl
   have y1:=HX5.out.cell 1 (v:=.int .i64 (-1)) rfl
   have y2:=HX5.out.cell 2 (v:=.int .i64 en) rfl
   have y3:=HX5.out.cell 3 (v:=.slice fo F.length fc) rfl
   have y4:=HX5.out.cell 4 (v:=.slice none 0 0) rfl
   have HB6:=Zh (show Below wr.heap.size wr (w5.alloc (.cells #[.int .i64 k,.int .i64 (-1),.int .i64 en,.slice fo F.length fc,.slice none 0 0] 193)) by have:=HB5.out;exact bE)
   have HN6:=Zh (HN.out.old HB6.out)
   have hwr:=HW.out.2
   go_wp2_with (at_builtin;refine Znw rfl (.tmp 60) (.tmp 62) 140 rfl w.heap.size 193 5 72 Znx (.slice ro rows.length rc) rows.length (Zak rows) rfl HN6.out.own ⟨w5.heap.size,0,none⟩ 1 1 (Zak [(⟨k,-1,en,fo,F.length,fc,none,0,0⟩:VN)]) rfl (Znz _ _ _ (by simp) ⟨rfl,rfl⟩) (Zaq _) (by omega) (by unfold maxLen;omega) (by have:=HN6.out.low.size;simp at this ⊢;omega) (by decide) ?_;intro ao' cap' w7 hown7 hg7 hat7)
   go_roundw
   case rel=>
    refine ⟨en+1,ao',cap',rows++[⟨k,-1,en,fo,F.length,fc,none,0,0⟩],rfl,by simp,by omega,by omega,by simp;omega,HSs.out.2,?_⟩
    have hz:=HZ.out
    have hp:=ZnC (w6:=w5.alloc (.cells #[.int .i64 k,.int .i64 (-1),.int .i64 en,.slice fo F.length fc,.slice none 0 0] 193)) HN.out hz HX3.out.lt HF4.out (HU5.out.alloc _)
    exact HN6.out.push _ (HN6.out.nds.snoc_one HMm.out hp.1 hp.2.1 hp.2.2) hown7 hg7 hat7
   case measure=>simp [intOf];omega
  ·have hkl:=hm.1
   have hkb3:(k:Int) < b:=by omega
   have hkl2:(k:Int) < l.length:=by omega
   have hwr:IntKind.i64.wrap ((k:Int)+1)=((k+1:Nat):Int):=IntWalk.i64_in _ (by omega)
   have hwe:IntKind.i64.wrap ((en:Int)+1)=((en+1:Nat):Int):=IntWalk.i64_in _ (by omega)
   have hwn:IntKind.i64.wrap ((n:Int)+1)=((n+1:Nat):Int):=IntWalk.i64_in _ (by omega)
   have HW:=Zh (And.intro hwr (And.intro hwe hwn))
   have HMm:=Zh hm
   have HSs:=Zh (And.intro hs2 (And.intro hs3 hs4))
   obtain ⟨ad,rfl,o0,-,-⟩:=HL.out k hkl wr HN.out.low
   obtain ⟨op,hop2⟩:∃ o,o=(l.getD k default).op:=⟨_,rfl⟩
   rw [←hop2] at o0
   have HO:=Zh (show ZaR op=true by rw [hop2];exact hm.2.1)
   have hl0:=Zac o0
   obtain ⟨B,hB⟩:∃ B,B=wr.heap.size:=⟨_,rfl⟩
   have HBB:=Zh hB
   have HX0:=Zh (Blk.new' (w:=wr) #[.int .i64 k,.int .i64 (-1),.int .i64 (-1),.slice none 0 0,.slice none 0 0] 193 hB)
   have HB0:=Zh (show Below wr.heap.size wr (wr.alloc (.cells #[.int .i64 k,.int .i64 (-1),.int .i64 (-1),.slice none 0 0,.slice none 0 0] 193)) by exact bE)
   have HC:=Zh (HMt.out _ (Zaf HN.out.low HB0.out) k en n hm)
   clear hwr hwe hwn hm hs2 hs3 hs4 hop2 hB
   go_upto_region 8 with (first
    | (go_at_call 162;refine (ZcP _ _).mono ?_;rintro e w2 ⟨rfl,rfl⟩;rw [HO.out])
    | (go_at_call 163;refine HC.out.mono ?_;rintro e w2 ⟨rfl,hb2⟩;have HB2:=Zh (Zaf HB0.out hb2);have HX2:=Zh (HX0.out.old hb2);clear hb2;rw [←HBB.out];have x1:=HX2.out.cell 1 (v:=.int .i64 (-1)) rfl;have x2:=HX2.out.cell 2 (v:=.int .i64 (-1)) rfl;have f1:=HX2.out.frozen 1;have f2:=HX2.out.frozen 2))
   obtain ⟨w3,hw3⟩:∃ w3,w3=(w2.setCell ⟨B,1,none⟩ (.int .i64 n)).setCell ⟨B,2,none⟩ (.int .i64 en):=⟨_,rfl⟩
   have HX3:=Zh (show Blk w3 B #[.int .i64 k,.int .i64 n,.int .i64 en,.slice none 0 0,.slice none 0 0] 193 by rw [hw3];exact (HX2.out.set 1 _).set 2 _)
   have HB3:=Zh (show Below wr.heap.size wr w3 by rw [hw3];have:=HBB.out;exact ZcW (ZcW HB2.out (by omega) _) (by omega) _)
   rw [←hw3]
   clear x1 x2 f1 f2 hw3
   have y1:=HX3.out.cell 1 (v:=.int .i64 n) rfl
   have y2:=HX3.out.cell 2 (v:=.int .i64 en) rfl
   have hwr:=HW.out.1
   have hwn:=HW.out.2.2
   have hn0:¬ (n:Int) < 0:=by omega
   go_upto_region 10 with fail
   refine rO (Cs [(⟨B,1,none⟩,.int .i64 n),(⟨B,2,none⟩,.int .i64 en)]) (oL [0,1,2,3,4,6,7,8,9,10,11,105,13,112,114,15,116]) ⟨y1,y2,trivial⟩ ?_
   repeat refine pO ?_
   refine oO fun Kv hK=>?_
   go_simp
   refine (HI.out (k+1) n _ HSs.out.1 (by omega) (by omega) (Zaf HN.out.low HB3.out.drew)).mono ?_
   rintro e w4 ⟨fo,fc,F,rfl,hown4,hnd4,hb4⟩
   have HF4:=Zh (And.intro hown4 hnd4)
   have HB4:=Zh (Zaf HB3.out.drew hb4)
   have HX4:=Zh (HX3.out.old (Zaf (Below.refl _ _).drew hb4))
   refine hK _ _ ⟨⟨HX4.out.cell 1 rfl,HX4.out.cell 2 rfl,trivial⟩,?_⟩
   clear hK Kv hown4 hnd4 hb4 y1 y2
   repeat refine pO ?_
   refine oO fun Kv hK=>?_
   go_simp
   refine (HI.out (n+1) en _ HSs.out.2.1 (by omega) henb (Zaf HN.out.low HB4.out)).mono ?_
   rintro e w5 ⟨so,sc,S,rfl,hown5,hnd5,hb5⟩
   have HF5:=Zh (And.intro hown5 hnd5)
   have HB45:=Zh hb5
   have HB5:=Zh (Zaf HB4.out hb5)
   have HX5:=Zh (HX4.out.old hb5)
   refine hK _ _ ⟨⟨HX5.out.cell 1 rfl,HX5.out.cell 2 rfl,trivial⟩,?_⟩
   clear hK Kv hown5 hnd5 hb5
   have y3:=HX5.out.cell 3 (v:=.slice none 0 0) rfl
   have f3:=HX5.out.frozen 3
   refine oO fun Kv hK=>?_
   go_simp
   obtain ⟨w6,hw6⟩:∃ w6,w6=w5.setCell ⟨B,3,none⟩ (.slice fo F.length fc):=⟨_,rfl⟩
   have HX6:=Zh (show Blk w6 B #[.int .i64 k,.int .i64 n,.int .i64 en,.slice fo F.length fc,.slice none 0 0] 193 by rw [hw6];exact HX5.out.set 3 _)
   have HU6:=Zh (show Upd B B w5 w6 by rw [hw6];exact (Upd.refl B B w5).set 3 _)
   have HB6:=Zh (show Below wr.heap.size wr w6 by rw [hw6];have:=HBB.out;exact ZcW HB5.out (by omega) _)
   rw [←hw6]
   refine hK _ _ ⟨⟨HX6.out.cell 1 rfl,HX6.out.cell 2 rfl,trivial⟩,?_⟩
   clear hK Kv y3 f3 hw6
   repeat refine pO ?_
   have y4:=HX6.out.cell 4 (v:=.slice none 0 0) rfl
   have f4:=HX6.out.frozen 4
   refine oO fun Kv hK=>?_
   go_simp
   obtain ⟨w7,hw7⟩:∃ w7,w7=w6.setCell ⟨B,4,none⟩ (.slice so S.length sc):=⟨_,rfl⟩
   have HX7:=Zh (show Blk w7 B #[.int .i64 k,.int .i64 n,.int .i64 en,.slice fo F.length fc,.slice so S.length sc] 193 by rw [hw7];exact HX6.out.set 4 _)
   have HU7:=Zh (show Upd B B w5 w7 by rw [hw7];exact HU6.out.set 4 _)
   have HB7:=Zh (show Below wr.heap.size wr w7 by rw [hw7];have:=HBB.out;exact ZcW HB6.out (by omega) _)
   rw [←hw7]
   refine hK _ _ ⟨⟨HX7.out.cell 1 rfl,HX7.out.cell 2 rfl,trivial⟩,?_⟩
   clear hK Kv y4 f4 hw7 hwr hwn
   refine Zd5 ?_
   have y0:=HX7.out.cell 0 (v:=.int .i64 k) rfl
   have y1:=HX7.out.cell 1 (v:=.int .i64 n) rfl
   have y2:=HX7.out.cell 2 (v:=.int .i64 en) rfl
   have y3:=HX7.out.cell 3 (v:=.slice fo F.length fc) rfl
   have y4:=HX7.out.cell 4 (v:=.slice so S.length sc) rfl
   have HB8:=Zh (show Below wr.heap.size wr (w7.alloc (.cells #[.int .i64 k,.int .i64 n,.int .i64 en,.slice fo F.length fc,.slice so S.length sc] 193)) by have:=HB7.out;exact bE)
   have HN8:=Zh (HN.out.old HB8.out)
   have hwr:=HW.out.2.1
   go_wp2_with (at_builtin;refine Znw rfl (.tmp 60) (.tmp 62) 140 rfl w.heap.size 193 5 72 Znx (.slice ro rows.length rc) rows.length (Zak rows) rfl HN8.out.own ⟨w7.heap.size,0,none⟩ 1 1 (Zak [(⟨k,n,en,fo,F.length,fc,so,S.length,sc⟩:VN)]) rfl (Znz _ _ _ (by simp) ⟨rfl,rfl⟩) (Zaq _) (by omega) (by unfold maxLen;omega) (by have:=HN8.out.low.size;simp at this ⊢;omega) (by decide) ?_;intro ao' cap' w9 hown9 hg9 hat9)
   go_roundw
   case rel=>
    refine ⟨en+1,ao',cap',rows++[⟨k,n,en,fo,F.length,fc,so,S.length,sc⟩],rfl,by simp,by omega,by omega,by simp;omega,HSs.out.2.2,?_⟩
    have h3:=HX3.out.lt
    have h4:=HX4.out.lt
    have hp:=ZnC (w6:=w7.alloc (.cells #[.int .i64 k,.int .i64 n,.int .i64 en,.slice fo F.length fc,.slice so S.length sc] 193)) HN.out HB3.out.size HX3.out.lt HF4.out (((Upd.of HB45.out).trans HU7.out).alloc _)
    have hq:=ZnC (w6:=w7.alloc (.cells #[.int .i64 k,.int .i64 n,.int .i64 en,.slice fo F.length fc,.slice so S.length sc] 193)) HN.out HB4.out.size HX4.out.lt HF5.out (HU7.out.alloc _)
    exact HN8.out.push _ (HN8.out.nds.snoc_two HMm.out hp.1 hp.2.1 hp.2.2 hq.1 hq.2.1 hq.2.2) hown9 hg9 hat9
   case measure=>simp [intOf];omega
theorem ZnE (l:List In3) (ao:Option Addr) (cap:Nat) (hv:ZaV false l=0):∀ (n a b:Nat) (w:World),b-a≤n→Zar w ao cap l→Seg l a b →
  Calls Tryz.prog 104 #[.slice ao l.length cap,.int .i64 a,.int .i64 b] w (Zmz w l a b)
 | 0,a,b,w,hn,hl,hs=>ZnD l ao cap a b w hl hv hs fun a' b' w' h1 h2 h3 h4=>by have:=(Zmo h1).1;omega
 | n+1,a,b,w,hn,hl,hs=>ZnD l ao cap a b w hl hv hs fun a' b' w' h1 h2 h3 h4=>ZnE l ao cap hv n a' b' w' (by have:=(Zmo h1).1;omega) (Zar.old hl h4) h1
end
section
open Go.RowKit
def ZnF (w w':World):Prop:=∀ p v,w.cell? p=some v→w'.cell? p=some v
theorem ZnF.refl (w:World):ZnF w w:=fun _ _ h=>h
theorem ZnF.trans {a b c:World} (h:ZnF a b) (k:ZnF b c):ZnF a c:=fun p v q=>k p v (h p v q)
theorem ZnF.of {a b:World} (h:Below a.heap.size a b):ZnF a b:=fun _ _ hc=>(h.cell (Zac hc)).trans hc
theorem ZnG {α:Type} [Cells α] {w w':World}{ao:Option Addr}{c:Nat}{L:List α} (h:Zar w ao c L) (hk:ZnF w w'):Zar w' ao c L:=
 ⟨h.1,h.2.1,fun j u hu=>by obtain ⟨a,ha,hc⟩:=h.2.2 j u hu;exact ⟨a,ha,hk _ _ hc⟩⟩
theorem Zay.keeps {w w':World}{h:Hd}{m:Md} (H:Zay w h m) (hk:ZnF w w'):Zay w' h m:=
 ⟨ZnG H.cl hk,ZnG H.st hk,ZnG H.me hk,fun i hi=>ZnG (H.f i hi) hk,fun i hi=>ZnG (H.t i hi) hk,fun i hi=>ZnG (H.p i hi) hk,fun i hi=>ZnG (H.l i hi) hk,fun i hi=>ZnG (H.k i hi) hk,H.bf,H.bm,H.bz⟩
theorem Nds.keeps {w w':World}{l:List In3}{P:Nat→Prop}{a b:Nat}{r:List VN} (h:Nds w l P a b r) (hk:ZnF w w'):Nds w' l P a b r:=h.keep fun _ _ _ h1 h2=>⟨ZnG h1 hk,h2⟩
theorem Cs.keeps {w w':World} (hk:ZnF w w'):∀ {l:List (Addr × Value)},Cs l w→Cs l w'
 | [],_=>trivial
 | (_,_) :: _,h=>⟨hk _ _ h.1,Cs.keeps hk h.2⟩
def IsMap (w:World) (M:Nat):Prop:=∃ es c,w.heap[M]?=some (.map es c)
theorem ZnF.upd {w w':World}{M:Nat} (hm:IsMap w M) (hu:Upd M M w w'):ZnF w w':=fun p v hc=>by
 obtain ⟨es,c,hm⟩:=hm
 have hne:p.block≠M:=fun e=>by unfold World.cell? at hc;rw [e,hm] at hc;simp at hc
 exact (World.cell?_of_block (w:=w) (hu.block _ (Zac hc) hne hne)).trans hc
theorem ZnH:∀ (n:Nat) (l:List Nat),l.Nodup→(∀ k∈l,k<n)→l.length≤n
 | 0,l,_,h=>by
  cases l with
  | nil=>simp
  | cons x r=>have:=h x (by simp);omega
 | n+1,l,hn,h=>by
  have h1:=ZnH n (l.filter fun x=>decide (x≠n)) (hn.filter _) (fun k hk=>by simp at hk;have:=h k hk.1;omega)
  have h2:∀ l:List Nat,l.Nodup→l.length≤(l.filter fun x=>decide (x≠n)).length+1:=by
   intro l
   induction l with
   | nil=>intro _;simp
   | cons x r ih=>
    intro hr
    rw [List.nodup_cons] at hr
    by_cases hx:x=n
    ·have:r.filter (fun x=>decide (x≠n))=r:=List.filter_eq_self.2 fun y hy=>by
      have:y≠n:=fun e=>hr.1 (by rw [hx,←e];exact hy)
      simp [this]
     rw [List.filter_cons_of_neg (by simp [hx]),this];simp
    ·have:=ih hr.2
     rw [List.filter_cons_of_pos (by simp [hx])];simp only [List.length_cons];omega
  have:=h2 l hn
  omega
def KnM (T:Nat→Int) (w:World) (M:Nat) (Q:Nat→Prop):Prop:=∃ (K:List Nat) (D:DataW Unit),K.Nodup∧(∀ k∈K,k<16∧Q k)∧w.ownsMap Tryz.prog 3 (plainElem Tryz.prog 3) M K.length D∧Maps.IsMap D∧(∀ k:Nat,Maps.has D (.int .i64 k)=decide (k∈K))∧∀ k∈K,D.atKey (.int .i64 k) (.lit (.int .i64 0))=.lit (.int .i64 (T k))
theorem KnM.map {T:Nat→Int}{w:World}{M:Nat}{Q:Nat→Prop} (H:KnM T w M Q):IsMap w M:=by
 obtain ⟨K,D,_,_,⟨es,c,h,_⟩,_⟩:=H
 exact ⟨es,c,h⟩
theorem KnM.eq {T:Nat→Int}{w w':World}{M:Nat}{Q:Nat→Prop} (H:KnM T w M Q) (h:w'.heap[M]?=w.heap[M]?):KnM T w' M Q:=by
 obtain ⟨K,D,h1,h2,⟨es,c,h3,h4⟩,h5⟩:=H
 exact ⟨K,D,h1,h2,⟨es,c,h.trans h3,h4⟩,h5⟩
theorem IsMap.lt {w:World}{M:Nat} (H:IsMap w M):M<w.heap.size:=by
 obtain ⟨es,c,h⟩:=H
 exact (Array.getElem?_eq_some_iff.1 h).1
theorem KnM.old {T:Nat→Int}{w w':World}{M:Nat}{Q:Nat→Prop} (H:KnM T w M Q) (hb:Below w.heap.size w w'):KnM T w' M Q:=H.eq (hb.block M H.map.lt)
theorem KnM.weak {T:Nat→Int}{w:World}{M:Nat}{Q R:Nat→Prop} (H:KnM T w M Q) (h:∀ k,Q k→R k):KnM T w M R:=by
 obtain ⟨K,D,h1,h2,h3⟩:=H
 exact ⟨K,D,h1,fun k hk=>⟨(h2 k hk).1,h k (h2 k hk).2⟩,h3⟩
theorem KnM.put {T:Nat→Int}{w:World}{M k:Nat}{Q:Nat→Prop} (H:KnM T w M Q) (hk:¬ Q k) (h16:k<16):∃ (n:Nat) (D:DataW Unit),w.ownsMap Tryz.prog 3 (plainElem Tryz.prog 3) M n D∧n≤16∧∀ (w':World) (R:Nat→Prop),(∀ j,Q j∨j=k→R j)→w'.ownsMap Tryz.prog 3 (plainElem Tryz.prog 3) M (n+1) (D.put (.int .i64 k) (.lit (.int .i64 (T k))))→KnM T w' M R:=by
 obtain ⟨K,D,h1,h2,h3,h4,h5,h6⟩:=H
 refine ⟨K.length,D,h3,ZnH 16 K h1 fun j hj=>(h2 j hj).1,fun w' R hR hw=>⟨k :: K,_,List.nodup_cons.2 ⟨fun e=>hk (h2 k e).2,h1⟩,fun j hj=>?_,hw,h4.put _ _,fun j=>?_,fun j hj=>?_⟩⟩
 ·rcases List.mem_cons.1 hj with rfl|e
  ·exact ⟨h16,hR _ (.inr rfl)⟩
  ·exact ⟨(h2 j e).1,hR _ (.inl (h2 j e).2)⟩
 ·by_cases e:j=k
  ·subst e;rw [Maps.has_put_same (k:=.int .i64 j) h4 trivial];simp
  ·rw [Maps.has_put_other (by intro q;cases q;omega),h5];simp [e]
 ·by_cases e:j=k
  ·subst e;exact Maps.atKey_put_same (k:=.int .i64 j) h4 trivial _ _
  ·rw [Maps.atKey_put_other (by intro q;cases q;omega)]
   exact h6 j ((List.mem_cons.1 hj).resolve_left e)
theorem ZnI {w:World}{B M:Nat}{xs:Array Value}{t:TypeId} (h:Blk w B xs t) (hm:IsMap w M):B≠M:=by
 rintro rfl
 obtain ⟨es,c,hm⟩:=hm
 unfold Blk at h
 rw [h] at hm
 cases hm
structure ZnJ (w:World) (B M:Nat) (h:Hd) (m:Md) (F:Value) (sc:Bool) (T:Nat→Int) (Q:Nat→Prop):Prop where
 wk:Blk w B #[.slice h.co m.cl.length h.cc,.slice h.so m.st.length h.sc,.slice h.eo m.me.length h.ec,.int .i64 m.sel,F,.bool sc,.map (some M)] 147
 md:Zay w h m
 kn:KnM T w M Q
def ZnK (w:World) (M:Nat) (T:Nat→Int) (Q:Nat→Prop) (v:Int):Ending→World→Prop:=fun e w'=>e=.returned (.int .i64 v)∧Upd M M w w'∧KnM T w' M Q
section
variable {w w':World}{B M:Nat}{h:Hd}{m:Md}{F:Value}{sc:Bool}{T:Nat→Int}{Q R:Nat→Prop}
section
variable (H:ZnJ w B M h m F sc T Q)
include H
theorem ZnJ.keeps (hu:Upd M M w w'):ZnF w w':=ZnF.upd H.kn.map hu
theorem ZnJ.next (hu:Upd M M w w') (hn:KnM T w' M R):ZnJ w' B M h m F sc T R:=
 ⟨(hu.block B (Blk.lt H.wk) (ZnI H.wk H.kn.map) (ZnI H.wk H.kn.map)).trans H.wk,H.md.keeps (H.keeps hu),hn⟩
theorem ZnJ.old (hb:Below w.heap.size w w'):ZnJ w' B M h m F sc T Q:=H.next (.of hb) (H.kn.old hb)
theorem ZnJ.drew:ZnJ w.drew B M h m F sc T Q:=⟨H.wk,H.md.keeps (fun _ _ h=>h),H.kn.eq rfl⟩
end
theorem ZnK.bel {W:World}{v:Int}{e:Ending} (H:ZnK w M T Q v e w') (hb:Below W.heap.size W w):ZnK W M T Q v e w':=⟨H.1,(Upd.of hb).trans H.2.1,H.2.2⟩
end
def Bd (n:Int):Prop:=0≤n∧n≤1000000001
theorem ZnL {a b:Int} (ha:Bd a) (hb:Bd b):Bd (ZmE a b):=by unfold Bd ZmE ZmD at *;omega
theorem ZnM {a b:Int} (ha:0≤a) (hb:Bd b):Bd (ZmF a b):=by
 have:=Int.mul_nonneg ha hb.1
 unfold Bd ZmF ZmD at *
 omega
theorem ZnN {a b:Int} (ha:Bd a) (hb:Bd b):Bd (max a b):=by unfold Bd at *;omega
theorem ZnO {T:Int→Int}{l:List Int} (h:∀ t∈l,Bd (T t)):Bd (ZmI T l):=by
 unfold ZmI
 have:∀ (l:List Int) (a:Int),Bd a→(∀ t∈l,Bd (T t))→Bd (l.foldl (fun a t=>max a (T t)) a):=by
  intro l
  induction l with
  | nil=>intro a ha _;exact ha
  | cons x r ih=>intro a ha h;exact ih _ (ZnN ha (h x (by simp))) fun t ht=>h t (by simp [ht])
 exact this l 0 (by unfold Bd;omega) h
section
variable {x:Ms}{m:Md}{T:Int→Int}{l:List In3} (hw:∀ i∈l,0≤x.wt i∧x.wt i≤1000) (ht:0≤x.tl∧x.tl≤1000) (hT:∀ t,Bd (T t)) (ha:∀ i∈l,i.op≠1→0≤i.a)
include hw ht hT ha
theorem ZnP:∀ i∈l,Bd ((gW x m T).pl i):=fun i hi=>by
 have h1:=hw i hi
 have hb:Bd (x.wt i):=by unfold Bd;omega
 show Bd (if i.op=25 then _ else if i.op=26 then _ else _)
 split
 ·exact ZnL hb (hT _)
 ·split
  ·exact ZnL hb (ZnO fun t _=>hT t)
  ·exact hb
theorem ZnQ:∀ i∈l,∀ f s,Bd f→Bd s→Bd ((gW x m T).brk i f s):=fun i hi f s hf hs=>by
 have h1:=hw i hi
 have hb:Bd (x.wt i):=by unfold Bd;omega
 have htl:Bd x.tl:=by unfold Bd;omega
 show Bd (if i.op=29 then _ else if i.op=30 then _ else if i.op=32∧x.sc=true then _ else if i.op=33 then _ else _)
 split
 ·exact ZnL hb (ZnN (ZnL hf htl) (ZnL hs htl))
 ·split
  ·exact ZnL hb (ZnM (ha i hi (by omega)) (ZnL hf htl))
  ·split
   ·exact hb
   ·split
    ·exact ZnL hb (ZnL (ZnL hf htl) hs)
    ·exact ZnL hb (ZnL hf htl)
theorem ZnR {a b:Nat} (hs:Seg l a b):∀ acc,Bd acc→Bd (WA (gW x m T) l a b acc):=by
 have hm:∀ k,k<l.length→l.getD k default∈l:=fun k hk=>ZfU _ hk
 have hpl:=ZnP (m:=m) hw ht hT ha
 have hbr:=ZnQ (m:=m) hw ht hT ha
 have h0:Bd 0:=by unfold Bd;omega
 induction hs with
 | nil a h=>intro acc hacc;rw [Zmv];exact hacc
 | pl a b q1 q2 q3 q4 q5 ih=>intro acc hacc;rw [Zmw q2 q5];exact ih _ (ZnL hacc (hpl _ (hm a q1)))
 | one a en b q1 q2 q3 i1 i2=>intro acc hacc;rw [Zmx q1 q2 q3];exact i2 _ (ZnL hacc (hbr _ (hm a q1.1) _ _ (i1 _ h0) h0))
 | two a n en b q1 q2 q3 q4 i1 i2 i3=>intro acc hacc;rw [Zmy q1 q2 q3 q4];exact i3 _ (ZnL hacc (hbr _ (hm a q1.1) _ _ (i1 _ h0) (i2 _ h0)))
end
inductive ZnS (w:World) (l:List In3) (p:Nat):VN→Nat→Prop
 | pl:p<l.length→ZaR (l.getD p default).op=false→ZnS w l p ⟨p,-1,-1,none,0,0,none,0,0⟩ (p+1)
 | one (en:Nat) (fo:Option Addr) (fc:Nat) (F:List VN):Mat l p (-1) en→Zar w fo fc F→Nds w l (fun _=>True) (p+1) en F→ZnS w l p ⟨p,-1,en,fo,F.length,fc,none,0,0⟩ (en+1)
 | two (n en:Nat) (fo so:Option Addr) (fc sc:Nat) (F S:List VN):Mat l p n en→Zar w fo fc F→Nds w l (fun _=>True) (p+1) n F→Zar w so sc S→Nds w l (fun _=>True) (n+1) en S→ZnS w l p ⟨p,n,en,fo,F.length,fc,so,S.length,sc⟩ (en+1)
def ZnT (g:Wg) (l:List In3) (p:Nat) (x:VN):Int:=if ZaR (l.getD p default).op=true then g.brk (l.getD p default) (WA g l (p+1) (if x.alt<0 then x.en.toNat else x.alt.toNat) 0) (if x.alt<0 then 0 else WA g l (x.alt.toNat+1) x.en.toNat 0) else g.pl (l.getD p default)
theorem ZnU {w:World}{l:List In3}{p b:Nat}{x:VN}{r:List VN} (H:Nds w l (fun _=>True) p b (x :: r)) (g:Wg):∃ p',ZnS w l p x p'∧Nds w l (fun _=>True) p' b r∧p<p'∧p'≤b∧∀ acc,WA g l p b acc=WA g l p' b (g.plus acc (ZnT g l p x)):=by
 cases H with
 | pl _ _ _ h1 h2 h3 h4 h5=>exact ⟨p+1,.pl h1 h2,h5,by omega,by have:=(h5.le).1;omega,fun acc=>by rw [Zmw h2 h5.seg];unfold ZnT;rw [if_neg (by rw [h2];decide)]⟩
 | one _ en _ fo fc F _ h1 h2 h3 h4 h5=>
  refine ⟨en+1,.one en fo fc F h1 h2 h4,h5,by have:=ZbI h1;omega,by have:=(h5.le).1;omega,fun acc=>?_⟩
  rw [Zmx h1 h4.seg h5.seg]
  unfold ZnT
  rw [if_pos (show ZaR (l.getD p default).op=true from h1.2.1)]
  dsimp only
  rw [if_pos (show (-1:Int) < 0 by decide),if_pos (show (-1:Int) < 0 by decide)]
  rfl
 | two _ n en _ fo so fc sc F S _ h1 h2 h3 h4 h5 h6 h7 h8=>
  refine ⟨en+1,.two n en fo so fc sc F S h1 h2 h4 h5 h7,h8,by have:=ZbI h1;omega,by have:=(h8.le).1;omega,fun acc=>?_⟩
  rw [Zmy h1 h4.seg h7.seg h8.seg]
  unfold ZnT
  have hn:¬ (n:Int) < 0:=by omega
  rw [if_pos (show ZaR (l.getD p default).op=true from h1.2.1)]
  dsimp only
  rw [if_neg hn,if_neg hn,Int.toNat_natCast,Int.toNat_natCast]
theorem ZnV {w:World}{x:Ms}{m:Md}{T:Int→Int}{l:List In3} (hw:∀ i∈l,0≤x.wt i∧x.wt i≤1000) (ht:0≤x.tl∧x.tl≤1000) (hT:∀ t,Bd (T t)) (ha:∀ i∈l,i.op≠1→0≤i.a) {p p':Nat}{y:VN} (H:ZnS w l p y p'):Bd (ZnT (gW x m T) l p y):=by
 have hm:∀ k,k<l.length→l.getD k default∈l:=fun k hk=>ZfU _ hk
 have h0:Bd 0:=by unfold Bd;omega
 unfold ZnT
 cases H with
 | pl h1 h2=>rw [if_neg (by rw [h2];decide)];exact ZnP hw ht hT ha _ (hm p h1)
 | one en fo fc F h1 h2 h3=>
  rw [if_pos (show ZaR (l.getD p default).op=true from h1.2.1)]
  dsimp only
  rw [if_pos (show (-1:Int) < 0 by decide),if_pos (show (-1:Int) < 0 by decide)]
  exact ZnQ hw ht hT ha _ (hm p h1.1) _ _ (ZnR hw ht hT ha h3.seg _ h0) h0
 | two n en fo so fc sc F S h1 h2 h3 h4 h5=>
  have hn:¬ (n:Int) < 0:=by omega
  rw [if_pos (show ZaR (l.getD p default).op=true from h1.2.1)]
  dsimp only
  rw [if_neg hn,if_neg hn]
  exact ZnQ hw ht hT ha _ (hm p h1.1) _ _ (ZnR hw ht hT ha h3.seg _ h0) (ZnR hw ht hT ha h5.seg _ h0)
theorem ZnS.keeps {w w':World}{l:List In3}{p p':Nat}{x:VN} (H:ZnS w l p x p') (hk:ZnF w w'):ZnS w' l p x p':=by
 cases H with
 | pl h1 h2=>exact .pl h1 h2
 | one en fo fc F h1 h2 h3=>exact .one en fo fc F h1 (ZnG h2 hk) (h3.keeps hk)
 | two n en fo so fc sc F S h1 h2 h3 h4 h5=>exact .two n en fo so fc sc F S h1 (ZnG h2 hk) (h3.keeps hk) (ZnG h4 hk) (h5.keeps hk)
end
section
open Go.RowKit
theorem ZnW {w:World}{ao:Option Addr}{cap:Nat}{l:List VN} (h:Zar w ao cap l) {i:Nat} (hi:i<l.length):∃ ad,ao=some ad ∧
  w.cell? (ad.add (i*5))=some (.int .i64 (l.getD i default).at_)∧w.cell? ⟨(ad.add (i*5)).block,(ad.add (i*5)).off+1,none⟩=some (.int .i64 (l.getD i default).alt)∧w.cell? ⟨(ad.add (i*5)).block,(ad.add (i*5)).off+2,none⟩=some (.int .i64 (l.getD i default).en) ∧
  w.cell? ⟨(ad.add (i*5)).block,(ad.add (i*5)).off+3,none⟩=some (.slice (l.getD i default).fo (l.getD i default).fn (l.getD i default).fc)∧w.cell? ⟨(ad.add (i*5)).block,(ad.add (i*5)).off+4,none⟩=some (.slice (l.getD i default).so (l.getD i default).sn (l.getD i default).sc):=by
 obtain ⟨ad,ha⟩:=h.some (by omega)
 subst ha
 have hx:l.getD i default=l[i]:=by simp [hi]
 rw [hx]
 exact ⟨ad,rfl,h.cell hi 0 rfl,h.cell hi 1 rfl,h.cell hi 2 rfl,h.cell hi 3 rfl,h.cell hi 4 rfl⟩
def cdM (m:Md) (k:Nat):List In3:=(m.me.getD k default).k
def gT (x:Ms) (m:Md) (T:Nat→Int):Wg:=gW x m fun t=>T t.toNat
structure Wkr (x:Ms) (m:Md) (T:Nat→Int) (g:Nat) (caps:Array Value) (W0:World):Prop where
 hm:Za1 m=true
 wt:∀ k,k<m.me.length→∀ i∈(cdM m k),0≤x.wt i∧x.wt i≤1000
 tl:0≤x.tl∧x.tl≤1000
 te:∀ i:In3,i.op=35→x.wt i=x.tl
 bd:∀ k,Bd (T k)
 eq:∀ k,k<m.me.length→T k=WA (gT x m T) (cdM m k) 0 (cdM m k).length 0
 cf:∀ A W,(callFunc g (A++caps)).run Tryz.prog W=.ok (.enter g (A++caps)) W
 fn:∀ k,k<m.me.length→∀ i∈(cdM m k),∀ w',ZnF W0 w'→Calls Tryz.prog g (#[.agg #[.int .i64 i.op,.int .i64 i.a,.int .i64 i.b]]++caps) w' (Ret w' (.int .i64 (x.wt i)))
def ZnX (x:Ms) (B M:Nat) (h:Hd) (m:Md) (T:Nat→Int) (g:Nat) (caps:Array Value) (W0:World) (k:Nat):Prop:=∀ w Q,ZnJ w B M h m (.func (Fn.func g) #[] caps) x.sc T Q→ZnF W0 w→Calls Tryz.prog 110 #[.pointer (some ⟨B,0,none⟩),.int .i64 k] w (ZnK w M T (fun j=>Q j∨j<k+1) (T k))
def ZnY (x:Ms) (B M:Nat) (h:Hd) (m:Md) (T:Nat→Int) (g:Nat) (caps:Array Value) (W0:World) (k a b:Nat):Prop:=∀ w Q ro rc rows,ZnJ w B M h m (.func (Fn.func g) #[] caps) x.sc T Q→ZnF W0 w→Zar w ro rc rows→Nds w (cdM m k) (fun _=>True) a b rows →
 Calls Tryz.prog 161 #[.pointer (some ⟨B,0,none⟩),.int .i64 k,.slice ro rows.length rc] w (ZnK w M T (fun j=>Q j∨j<k) (WA (gT x m T) (cdM m k) a b 0))
def ZnZ (x:Ms) (B M:Nat) (h:Hd) (m:Md) (T:Nat→Int) (g:Nat) (caps:Array Value) (W0:World) (k p:Nat) (y:VN) (p':Nat):Prop:=∀ w Q,ZnJ w B M h m (.func (Fn.func g) #[] caps) x.sc T Q→ZnF W0 w→ZnS w (cdM m k) p y p' →
 Calls Tryz.prog 223 #[.pointer (some ⟨B,0,none⟩),.int .i64 k,.agg #[.int .i64 y.at_,.int .i64 y.alt,.int .i64 y.en,.slice y.fo y.fn y.fc,.slice y.so y.sn y.sc]] w (ZnK w M T (fun j=>Q j∨j<k) (ZnT (gT x m T) (cdM m k) p y))
section
variable {x:Ms}{B M:Nat}{h:Hd}{m:Md}{T:Nat→Int}{g:Nat}{caps:Array Value}{W0:World}{k:Nat}
section
variable (H:Wkr x m T g caps W0)(hk:k<m.me.length)
include H hk
theorem Wkr.ok:ZfM m k:=ZfN H.hm hk
theorem Wkr.code:ZaV false (cdM m k)=0:=by
 have hm:=H.ok hk
 unfold ZaV
 unfold cdM
 exact j9
theorem Wkr.opd {i:In3} (hi:i∈(cdM m k)):ZfR m k i:=ZfS ((H.ok hk).i i hi).1 ((H.ok hk).i i hi).2
theorem Wkr.bdW {a b:Nat} (hs:Seg (cdM m k) a b) {acc:Int} (ha:Bd acc):Bd (WA (gT x m T) (cdM m k) a b acc):=
 ZnR (H.wt k hk) H.tl (fun _=>H.bd _) (fun i hi=>(H.opd hk hi).a0) hs _ ha
end
theorem Zn0 (HW:Wkr x m T g caps W0) (hk:k<m.me.length) {a b:Nat} (hn:∀ p y p',a≤p→p<p'→p'≤b→ZnZ x B M h m T g caps W0 k p y p'):ZnY x B M h m T g caps W0 k a b:=by
 intro w Q ro rc rows H hk0 hr hnd
 have hle:=hnd.le
 have hc:(cdM m k).length≤120:=(HW.ok hk).z.2.2
 have HNo:=Zh hn
 have HH:=Zh H
 have HK:=Zh hk0
 have HR:=Zh hr
 have HD:=Zh hnd
 have HWk:=Zh HW
 have hlen:rows.length≤120:=by omega
 clear hn H hk0 hr hnd hle hc
 go_enter Tryz.func161,Tryz.ntmps161
 go_wp2
 go_loopw [7,12] (fun s i wr=>∃ (j p:Nat) (sv:Int),i=.int .i64 j∧s=.int .i64 sv∧j≤rows.length∧Hid (a≤p∧Bd sv∧Nds wr (cdM m k) (fun _=>True) p b (rows.drop j)∧WA (gT x m T) (cdM m k) a b 0=WA (gT x m T) (cdM m k) p b sv)∧Hid (Upd M M w wr)∧Hid (KnM T wr M fun j=>Q j∨j<k)) (fun _ i _=>rows.length-(intOf i).toNat)
 case atStart=>exact ⟨0,a,0,rfl,rfl,Nat.zero_le _,⟨Nat.le_refl _,by unfold Bd;omega,HD.out,rfl⟩,Upd.refl _ _ _,HH.out.kn.weak fun _ h=>.inl h⟩
 case round=>
  obtain ⟨j,p,sv,rfl,rfl,hj,HS,HU,HN⟩:=hrel
  have HHr:=Zh (HH.out.next HU.out HN.out)
  have HKr:=Zh (HK.out.trans (HH.out.keeps HU.out))
  by_cases hjl:j<rows.length
  ·obtain ⟨hap,hsv,hnd,hwa⟩:=HS.out
   have hdr:rows.drop j=rows.getD j default :: rows.drop (j+1):=by
    rw [List.drop_eq_getElem_cons hjl];simp [hjl]
   rw [hdr] at hnd
   obtain ⟨p',hit,hnd',hpp,hpb,hwa'⟩:=ZnU hnd (gT x m T)
   obtain ⟨ad,rfl,c0,c1,c2,c3,c4⟩:=ZnW (ZnG HR.out (HH.out.keeps HU.out)) hjl
   obtain ⟨y,hy⟩:∃ y,y=rows.getD j default:=⟨_,rfl⟩
   rw [←hy] at hit hwa' c0 c1 c2 c3 c4
   have hbv:Bd (ZnT (gT x m T) (cdM m k) p y):=ZnV (HWk.out.wt k hk) HWk.out.tl (fun _=>HWk.out.bd _) (fun i hi=>(HWk.out.opd hk hi).a0) hit
   obtain ⟨v,hv⟩:∃ v,v=ZnT (gT x m T) (cdM m k) p y:=⟨_,rfl⟩
   have HC:=Zh (HNo.out p y p' hap hpp hpb)
   unfold ZnZ at HC
   rw [←hv] at HC hwa' hbv
   obtain ⟨ya,yl,ye,yf,yfn,yfc,ys,ysn,ysc⟩:=y
   dsimp only at c0 c1 c2 c3 c4 HC
   have HIt:=Zh (And.intro hit (And.intro hnd' (And.intro hbv (And.intro hsv (And.intro hpp hpb)))))
   have HWa:=Zh (hwa.trans (hwa' sv))
   have hl0:=Zac c0
   have hjl2:(j:Int) < rows.length:=by omega
   have hwj:IntKind.i64.wrap ((j:Int)+1)=((j+1:Nat):Int):=IntWalk.i64_in _ (by omega)
   clear hit hnd hnd' hwa hwa' hy hdr hv hbv hsv
   go_wp2_with (first
    | (go_at_call 223;refine (HC.out _ _ (HHr.out.old bE) (HKr.out.trans (ZnF.of bE)) (HIt.out.1.keeps (ZnF.of bE))).mono ?_;rintro e w2 ⟨rfl,hu2,hn2⟩;have HU2:=Zh ((HU.out.alloc _).trans hu2);have HN2:=Zh (hn2.weak (R:=fun j=>Q j∨j<k) fun _ h=>h.elim id .inr);have HKk:=Zh (ZnF.upd (HN.out.old bE).map hu2);clear hu2 hn2)
    | (go_at_call 160;refine (Znl _ _ _ HIt.out.2.2.2.1 HIt.out.2.2.1).mono ?_;rintro e w3 ⟨rfl,hb3⟩;have HB3:=Zh hb3;clear hb3))
   have hkk:=(ZnF.of (show Below wr.heap.size wr (wr.alloc (.cells #[.int .i64 ya,.int .i64 yl,.int .i64 ye,.slice yf yfn yfc,.slice ys ysn ysc] 193)) by exact bE)).trans (HKk.out.trans (ZnF.of HB3.out))
   exact ⟨⟨j+1,p',ZmE sv v,rfl,rfl,hjl,⟨by omega,ZnL HIt.out.2.2.2.1 HIt.out.2.2.1,HIt.out.2.1.keeps hkk,HWa.out⟩,HU2.out.bel HB3.out,HN2.out.old HB3.out⟩,by simp [intOf];omega⟩
  ·have hj2:¬ (j:Int) < rows.length:=by omega
   go_wp2
   go_ret
   obtain ⟨-,-,hnd,hwa⟩:=HS.out
   rw [List.drop_eq_nil_iff.2 (by omega)] at hnd
   cases hnd with
   | nil _ _=>exact ⟨by rw [hwa,Zmv];rfl,HU.out,HN.out⟩
theorem Zn1:Go.Maps.Keyed Tryz.prog 3:=Go.Maps.int_keyed Tryz.underlying3
theorem Zn2 (w:World):(zeroValue 3).run Tryz.prog w=.ok (.int .i64 0) w:=by kernel_rfl
theorem Zn3 {k:Nat} (h:k<1000000):(Lit.int .i64 (k:Int)).wf=true:=WalkArith.wf_i64 (by omega)
theorem Zn4 {k:Nat} (h:k<1000000):keyOf Tryz.prog 3 (.int .i64 k)=some (.int .i64 k):=Go.Maps.keyOf_int_mk Tryz.underlying3 (Zn3 h)
theorem KnM.look {Q:Nat→Prop}{w:World} (H:KnM T w M Q):∃ (K:List Nat) (D:DataW Unit),w.ownsMap Tryz.prog 3 (plainElem Tryz.prog 3) M K.length D∧(∀ k:Nat,Maps.has D (.int .i64 k)=decide (k∈K))∧(∀ k∈K,D.atKey (.int .i64 k) (.lit (.int .i64 0))=.lit (.int .i64 (T k)))∧∀ k,k ∉ K→KnM T w M fun j=>Q j∧j≠k:=by
 obtain ⟨K,D,h1,h2,h3,h4,h5,h6⟩:=H
 exact ⟨K,D,h3,h5,h6,fun k hk=>⟨K,D,h1,fun j hj=>⟨(h2 j hj).1,(h2 j hj).2,fun e=>hk (e▸hj)⟩,h3,h4,h5,h6⟩⟩
theorem Zn5 (HW:Wkr x m T g caps W0) (hk:k<m.me.length) (hl:ZnY x B M h m T g caps W0 k 0 (cdM m k).length):ZnX x B M h m T g caps W0 k:=by
 intro w Q H hk0
 have h16:k<16:=by have:=(Zin HW.hm).2.1;omega
 obtain ⟨K,D,hown,hhas,hat,hnk⟩:=H.kn.look
 have hhk:=hhas k
 have hT:=HW.eq k hk
 have HH:=Zh H
 have HK0:=Zh hk0
 have HL:=Zh hl
 have HO:=Zh hown
 have HNk:=Zh (hnk k)
 have HAt:=Zh (hat k)
 have HWk:=Zh HW
 have c6:=H.wk.cell 6 (v:=.map (some M)) rfl
 clear H hk0 hl hown hhas hnk hat HW
 by_cases hkK:k∈K
 ·rw [decide_eq_true hkK] at hhk
  have HHk:=Zh hhk
  clear hhk
  go_enter Tryz.func110,Tryz.ntmps110
  go_wp2_with (at_lookup;(refine wpList_lookup_own_ok_int _ rfl _ _ 69 rfl 3 3 .i64 Zn1 Tryz.underlying69 Tryz.underlying3 (Zn2 _) M K.length D rfl HO.out _ _ rfl (Zn4 (by omega)) ?_);intro c hc hwc;rw [HHk.out])
  go_ret
  have:=HAt.out hkK
  rw [this] at hc
  cases hc
  exact ⟨rfl,Upd.refl _ _ _,HH.out.kn.weak fun _ h=>.inl h⟩
 ·rw [decide_eq_false hkK] at hhk
  have HHk:=Zh hhk
  have HN0:=Zh (HNk.out hkK)
  clear hhk
  have hm2:=HH.out.md.mth hk
  obtain ⟨ea,he,-,-,-,-,-,-,e6⟩:=hm2
  have c2:=HH.out.wk.cell 2 (v:=.slice h.eo m.me.length h.ec) rfl
  rw [he] at c2
  clear he
  have hke:=HH.out.md.k k hk
  have HP:=Zh (fun w' hb=>ZnE (cdM m k) (h.e k).ko (h.e k).kc (HWk.out.code hk) (cdM m k).length 0 (cdM m k).length w' (by omega) (Zar.old hke (w':=w') hb) (Zmq (HWk.out.ok hk).n))
  have hcl:(m.me.getD k default).k.length=(cdM m k).length:=rfl
  rw [hcl] at e6
  have HLn:=Zh (show (cdM m k).length≤120 from (HWk.out.ok hk).z.2.2)
  have hkl:(k:Int) < m.me.length:=by omega
  clear hke hcl
  go_enter Tryz.func110,Tryz.ntmps110
  go_upto_region 4 with (at_lookup;refine wpList_lookup_own_ok_int _ rfl _ _ 69 rfl 3 3 .i64 Zn1 Tryz.underlying69 Tryz.underlying3 (Zn2 _) M K.length D rfl HO.out _ _ rfl (Zn4 (by omega)) ?_;intro c hc hwc;rw [HHk.out])
  have HCs:=Zh (show Cs [(⟨B,2,none⟩,.slice (some ea) m.me.length h.ec),(⟨(ea.add (k*7)).block,(ea.add (k*7)).off+6,none⟩,.slice (h.e k).ko (cdM m k).length (h.e k).kc)] w from ⟨c2,e6,trivial⟩)
  clear hc hwc
  refine rO (Cs [(⟨B,2,none⟩,.slice (some ea) m.me.length h.ec),(⟨(ea.add (k*7)).block,(ea.add (k*7)).off+6,none⟩,.slice (h.e k).ko (cdM m k).length (h.e k).kc)]) (oL [0,1,2,3,4,5,6,7,8,9,10,11,12,13,14,15,16,17,18,19,20,121,122,23]) ⟨c2,e6,trivial⟩ ?_
  clear c2 e6
  repeat refine pO ?_
  refine oO fun Kv hK=>?_
  go_simp
  refine (HP.out _ (Below.refl _ _).drew).mono ?_
  rintro e w2 ⟨ro,rc,rows,rfl,hown2,hnd2,hb2⟩
  have HB2:=Zh (Zaf (Below.refl w.heap.size w).drew hb2)
  have HR2:=Zh (Zar.of_own hown2)
  have HD2:=Zh (hnd2.weak (Q:=fun _=>True) fun _ _=>trivial)
  refine hK _ _ ⟨Cs.keeps (ZnF.of HB2.out) HCs.out,?_⟩
  clear hK Kv hown2 hnd2 hb2
  refine oO fun Kv hK=>?_
  go_simp
  refine (HL.out _ (fun j=>Q j∧j≠k) ro rc rows ⟨(HH.out.old HB2.out).wk,(HH.out.old HB2.out).md,HN0.out.old HB2.out⟩ (HK0.out.trans (ZnF.of HB2.out)) HR2.out HD2.out).mono ?_
  rintro e w3 ⟨rfl,hu3,hn3⟩
  have hkk:=(ZnF.of HB2.out).trans (ZnF.upd (HN0.out.old HB2.out).map hu3)
  have HU3:=Zh ((Upd.of HB2.out).trans hu3)
  refine hK _ _ ⟨Cs.keeps hkk HCs.out,?_⟩
  have hc6:=hkk _ _ c6
  clear hK Kv hu3 c6 hkk
  repeat refine pO ?_
  refine Zd5 ?_
  rw [←hT]
  obtain ⟨n,D3,hown3,hn16,hput⟩:=hn3.put (k:=k) (by omega) h16
  have HO3:=Zh hown3
  have HPt:=Zh hput
  have hbT:=HWk.out.bd k
  unfold Bd at hbT
  exact j2
end
end
section
open Go.RowKit
section
variable {x:Ms}{B M:Nat}{h:Hd}{m:Md}{T:Nat→Int}{g:Nat}{caps:Array Value}{W0:World}{k:Nat}
section
variable {i:In3}{f s:Int}
theorem Zn6 (q:i.op=25):(gT x m T).pl i=ZmE (x.wt i) (T i.a.toNat):=if_pos q
theorem Zn7 (q:i.op=26):(gT x m T).pl i=ZmE (x.wt i) (ZmI (fun t=>T t.toNat) (ZaN m i.a)):=(if_neg (by omega)).trans (if_pos q)
theorem Zn8 (q:i.op≠25) (q2:i.op≠26):(gT x m T).pl i=x.wt i:=(if_neg q).trans (if_neg q2)
theorem Zn9 (q:i.op=29):(gT x m T).brk i f s=ZmE (x.wt i) (max (ZmE f x.tl) (ZmE s x.tl)):=if_pos q
theorem Zoa (q:i.op=30):(gT x m T).brk i f s=ZmE (x.wt i) (ZmF i.a (ZmE f x.tl)):=(if_neg (by omega)).trans (if_pos q)
theorem Zob (q:i.op=31∨i.op=32∧x.sc=false):(gT x m T).brk i f s=ZmE (x.wt i) (ZmE f x.tl):=(if_neg (by omega)).trans ((if_neg (by omega)).trans ((if_neg (by rcases q with q|q;omega;simp [q.2])).trans (if_neg (by omega))))
theorem Zoc (q:i.op=32) (q2:x.sc=true):(gT x m T).brk i f s=x.wt i:=(if_neg (by omega)).trans ((if_neg (by omega)).trans (if_pos ⟨q,q2⟩))
theorem Zod (q:i.op=33):(gT x m T).brk i f s=ZmE (x.wt i) (ZmE (ZmE f x.tl) s):=(if_neg (by omega)).trans ((if_neg (by omega)).trans ((if_neg (by omega)).trans (if_pos q)))
end
theorem Zoe {T:Int→Int}{l:List Int}{j:Nat} (hj:j<l.length):ZmI T (l.take (j+1))=max (ZmI T (l.take j)) (T (l.getD j 0)):=by
 rw [List.take_succ_eq_append_getElem hj]
 unfold ZmI
 rw [List.foldl_append]
 simp [hj]
theorem Zof {w w':World}{M:Nat}{T:Nat→Int}{Q:Nat→Prop}{a b:Int} (e:a=b) (hu:Upd M M w w') (hn:KnM T w' M Q):ZnK w M T Q b (.returned (.int .i64 a)) w':=⟨by rw [e],hu,hn⟩
theorem Zog {op a b:Int} (h:ZaQ false ⟨op,a,b⟩=true) (ho:op=30):0≤a∧a≤1000:=by
 subst ho
 simp only [ZaQ,Bool.and_eq_true] at h
 have:=h.1.1.2
 unfold inR at this
 simp [opA,ZaO,ZaP,inI] at this
 omega
theorem Zoh {w:World}{l:List In3}{p p':Nat}{y:VN} (H:ZnS w l p y p') (G:Wg):y.at_=p∧p<l.length∧((y.en=-1∧ZaR (l.getD p default).op=false∧ZnT G l p y=G.pl (l.getD p default)) ∨
  ∃ (en:Nat) (F S:List VN) (a1 b1 a2 b2:Nat),y.en=en∧en<l.length∧(l.getD en default).op=35∧ZaR (l.getD p default).op=true∧(y.fn=F.length∧Zar w y.fo y.fc F∧Nds w l (fun _=>True) a1 b1 F∧p<a1∧b1<p')∧(y.sn=S.length∧Zar w y.so y.sc S∧Nds w l (fun _=>True) a2 b2 S∧p<a2∧b2<p') ∧
   ZnT G l p y=G.brk (l.getD p default) (WA G l a1 b1 0) (WA G l a2 b2 0)):=by
 cases H with
 | pl h1 h2=>exact ⟨rfl,h1,.inl ⟨rfl,h2,by unfold ZnT;rw [if_neg (by rw [h2];decide)]⟩⟩
 | one en fo fc F h1 h2 h3=>
  have hpe:=ZbI h1
  refine ⟨rfl,h1.1,.inr ⟨en,F,[],p+1,en,en,en,rfl,h1.2.2.1,h1.2.2.2.1,h1.2.1,⟨rfl,h2,h3,by omega,by omega⟩,⟨rfl,Zar.nil _,.nil _ (by have:=h1.2.2.1;omega),by omega,by omega⟩,?_⟩⟩
  unfold ZnT
  rw [if_pos (show ZaR (l.getD p default).op=true from h1.2.1),Zmv]
  dsimp only
  rw [if_pos (show (-1:Int) < 0 by decide),if_pos (show (-1:Int) < 0 by decide),Int.toNat_natCast]
 | two n en fo so fc sc F S h1 h2 h3 h4 h5=>
  have:=(h3.le).1
  have:=(h5.le).1
  refine ⟨rfl,h1.1,.inr ⟨en,F,S,p+1,n,n+1,en,rfl,h1.2.2.1,h1.2.2.2.1,h1.2.1,⟨rfl,h2,h3,by omega,by omega⟩,⟨rfl,h4,h5,by omega,by omega⟩,?_⟩⟩
  have hn:¬ (n:Int) < 0:=by omega
  unfold ZnT
  rw [if_pos (show ZaR (l.getD p default).op=true from h1.2.1)]
  dsimp only
  rw [if_neg hn,if_neg hn,Int.toNat_natCast,Int.toNat_natCast]
theorem Zoi (HW:Wkr x m T g caps W0) (hk:k<m.me.length) (hm:∀ j,j<k→ZnX x B M h m T g caps W0 j) {p p':Nat}{y:VN} (hlc:∀ a b,p<a→b<p'→ZnY x B M h m T g caps W0 k a b):ZnZ x B M h m T g caps W0 k p y p':=by
 intro w Q H hk0 hit
 obtain ⟨hya,hp,hyc⟩:=Zoh hit (gT x m T)
 obtain ⟨ya,yl,ye,yf,yfn,yfc,ys,ysn,ysc⟩:=y
 dsimp only at hya hyc ⊢
 subst hya
 clear hit
 obtain ⟨ea,he,-,-,-,-,-,-,e6⟩:=H.md.mth hk
 have c2:=H.wk.cell 2 (v:=.slice h.eo m.me.length h.ec) rfl
 rw [he] at c2
 have c4:=H.wk.cell 4 (v:=.func (Fn.func g) #[] caps) rfl
 rw [show (m.me.getD k default).k.length=(cdM m k).length from rfl] at e6
 obtain ⟨ca,hca,o0,o1,o2⟩:=ZaA (l:=cdM m k) (H.md.k k hk) hp
 rw [hca] at e6
 have HCa:=Zh hca
 clear hca
 have hin:(cdM m k).getD p default∈cdM m k:=ZfU _ hp
 have hod:=HW.opd hk hin
 have hwt:=HW.wt k hk _ hin
 have hiv:=((HW.ok hk).i _ hin).1
 have HFn:=Zh (HW.fn k hk _ hin)
 have HIv:=Zh hiv
 obtain ⟨i,hi⟩:∃ i,i=(cdM m k).getD p default:=⟨_,rfl⟩
 rw [←hi] at o0 o1 o2 hod hwt HFn hyc hiv HIv
 obtain ⟨op,ia,ib⟩:=i
 dsimp only at o0 o1 o2
 have hop:=Znp hiv
 dsimp only at hop
 obtain ⟨v,hv⟩:∃ v,v=x.wt ⟨op,ia,ib⟩:=⟨_,rfl⟩
 rw [←hv] at hwt
 rw [←hv] at HFn
 have cf:=HW.cf
 have HV:=Zh hv
 have HOd:=Zh hod
 have HWk:=Zh HW
 have HM:=Zh hm
 have HH:=Zh H
 have HK:=Zh hk0
 have hpl:(p:Int) < (cdM m k).length:=by omega
 have hkl:(k:Int) < m.me.length:=by omega
 have l0:=Zac o0
 have l2:=Zac c2
 have lz:=Zac e6
 dsimp only at l2 lz
 obtain ⟨hw0,hw1⟩:=hwt
 obtain ⟨w2,hw2⟩:∃ w2,w2=(w.alloc (.cells #[.int .i64 p,.int .i64 yl,.int .i64 ye,.slice yf yfn yfc,.slice ys ysn ysc] 193)).alloc (.cells #[.int .i64 op,.int .i64 ia,.int .i64 ib] 78):=⟨_,rfl⟩
 have HB2:=Zh (show Below w.heap.size w w2 by rw [hw2];exact bE)
 have HX2:=Zh (show Blk w2 w.heap.size #[.int .i64 p,.int .i64 yl,.int .i64 ye,.slice yf yfn yfc,.slice ys ysn ysc] 193 by rw [hw2];exact (Blk.new w _ _).alloc _)
 have HI2:=Zh (show Blk w2 (w.heap.size+1) #[.int .i64 op,.int .i64 ia,.int .i64 ib] 78 by rw [hw2];exact Blk.new' (w:=w.alloc (.cells #[.int .i64 p,.int .i64 yl,.int .i64 ye,.slice yf yfn yfc,.slice ys ysn ysc] 193)) _ _ (by simp))
 have HW2:=Zh hw2
 have HOp:=Zh hop
 have HYc:=Zh hyc
 have HLc:=Zh hlc
 obtain ⟨rw_,hrw⟩:∃ r,r=ZnT (gT x m T) (cdM m k) p ⟨p,yl,ye,yf,yfn,yfc,ys,ysn,ysc⟩:=⟨_,rfl⟩
 rw [←hrw] at HYc ⊢
 have HHi:=Zh hi
 clear HW hm H hk0 hv hod hin hiv he hw2 hi hop hyc hlc hrw
 go_enter Tryz.func223,Tryz.ntmps223
 go_upto_region 3 with fail
 rw [←HW2.out]
 have hCs:Cs [(⟨B,4,none⟩,.func (Fn.func g) #[] caps),(⟨w.heap.size+1,0,none⟩,.int .i64 op),(⟨w.heap.size+1,1,none⟩,.int .i64 ia),(⟨w.heap.size+1,2,none⟩,.int .i64 ib)] w2:=⟨ZnF.of HB2.out _ _ c4,HI2.out.cell 0 rfl,HI2.out.cell 1 rfl,HI2.out.cell 2 rfl,trivial⟩
 have HCs:=Zh hCs
 refine rO (Cs [(⟨B,4,none⟩,.func (Fn.func g) #[] caps),(⟨w.heap.size+1,0,none⟩,.int .i64 op),(⟨w.heap.size+1,1,none⟩,.int .i64 ia),(⟨w.heap.size+1,2,none⟩,.int .i64 ib)]) (oL [0,1,2,3,4,105,6]) hCs ?_
 clear hCs c2 c4 o0 o1 o2 e6 l0 l2 lz
 repeat refine pO ?_
 refine oO fun Kv hK=>?_
 go_simp
 refine (HFn.out _ (HK.out.trans (ZnF.of (HB2.out.drew)))).mono ?_
 rintro e w3 ⟨rfl,hb3⟩
 have HB3:=Zh (Zaf HB2.out.drew hb3)
 have HX3:=Zh (HX2.out.old (Zaf (Below.refl _ _).drew hb3))
 have HI3:=Zh (HI2.out.old (Zaf (Below.refl _ _).drew hb3))
 refine hK _ _ ⟨Cs.keeps (ZnF.of (Zaf (Below.refl _ _).drew hb3)) HCs.out,?_⟩
 clear hK Kv hb3
 repeat refine pO ?_
 refine Zd5 ?_
 have HN3:=Zh (HH.out.old HB3.out)
 have HK3:=Zh (HK.out.trans (ZnF.of HB3.out))
 have i0:=HI3.out.cell 0 (v:=.int .i64 op) rfl
 have i1:=HI3.out.cell 1 (v:=.int .i64 ia) rfl
 rcases HYc.out with ⟨hye,ho,hval⟩|⟨en,F,S,a1,b1,a2,b2,hye,hen,he35,ho,⟨hfn,hrF,hnF,hpa1,hbp1⟩,⟨hsn,hrS,hnS,hpa2,hbp2⟩,hval⟩
 ·subst hye
  have HO2:=Zh (And.intro ho hval)
  clear ho hval
  have x2:=HX3.out.cell 2 (v:=.int .i64 (-1)) rfl
  go_upto_region 8 with fail
  clear x2 i0
  by_cases h25:op=25
  ·subst h25
   as_aux_lemma=>
   have ha:=(HOd.out.o25 rfl).1
   have ha0:=HOd.out.a0 (by simp)
   dsimp only at ha ha0
   obtain ⟨j,rfl⟩:∃ j:Nat,ia=j:=⟨ia.toNat,by omega⟩
   have hjk:j<k:=by omega
   have HMj:=Zh (HM.out j hjk _ Q HN3.out HK3.out)
   go_wp2_with (first
    | (go_at_call 110;refine HMj.out.mono ?_;rintro e w4 ⟨rfl,hu4,hn4⟩;have HU4:=Zh ((Upd.of HB3.out).trans hu4);have HN4:=Zh hn4;clear hu4 hn4)
    | (go_at_call 160;refine (Znl _ _ _ ⟨by omega,by omega⟩ (HWk.out.bd j)).mono ?_;rintro e w5 ⟨rfl,hb5⟩))
   go_ret
   exact Zof (by rw [HO2.out.2,Zn6 rfl,HV.out];rfl) (HU4.out.bel hb5) ((HN4.out.old hb5).weak fun q hq=>hq.imp id (by omega))
  by_cases h26:op=26
  ·subst h26
   as_aux_lemma=>
   obtain ⟨ha,htg⟩:=HOd.out.o26 rfl
   have ha0:=HOd.out.a0 (by simp)
   dsimp only at ha ha0 htg
   obtain ⟨s,rfl⟩:∃ j:Nat,ia=j:=⟨ia.toNat,by omega⟩
   have c0:=HN3.out.wk.cell 0 (v:=.slice h.co m.cl.length h.cc) rfl
   have c1:=HN3.out.wk.cell 1 (v:=.slice h.so m.st.length h.sc) rfl
   have c2:=HN3.out.wk.cell 2 (v:=.slice h.eo m.me.length h.ec) rfl
   have c3:=HN3.out.wk.cell 3 (v:=.int .i64 m.sel) rfl
   have HTg:=Zh (Zir m h s w3.drew (HN3.out.md.old (Below.refl _ _).drew) HWk.out.hm ha)
   have HTt:=Zh htg
   have hln:=Nat.le_trans (ZdG m s) (Zin HWk.out.hm).1
   have HTn:=Zh (fun t (ht:t∈ZaN m s)=>ZfT ht)
   obtain ⟨tg,htq⟩:∃ tg,tg=ZaN m s:=⟨_,rfl⟩
   rw [←htq] at HTg HTt hln HTn
   have HTq:=Zh htq
   clear ha htg htq
   go_upto_region 12 with fail
   refine rO (Cs [(⟨B,0,none⟩,.slice h.co m.cl.length h.cc),(⟨B,1,none⟩,.slice h.so m.st.length h.sc),(⟨B,2,none⟩,.slice h.eo m.me.length h.ec),(⟨B,3,none⟩,.int .i64 m.sel),(⟨w.heap.size+1,1,none⟩,.int .i64 s)]) (oL [0,1,2,3,4,5,106,7,8,9,10,11]) ⟨c0,c1,c2,c3,i1,trivial⟩ ?_
   repeat refine pO ?_
   refine oO fun Kv hK=>?_
   go_simp
   refine HTg.out.mono ?_
   rintro e w4 ⟨⟨ao,cap,rfl,hr4⟩,hb4⟩
   have hb4':=Zaf (Below.refl w3.heap.size w3).drew hb4
   have HB4:=Zh (Zaf HB3.out hb4')
   have HR4:=Zh hr4
   have HN4:=Zh (HN3.out.old hb4')
   have HK4:=Zh (HK3.out.trans (ZnF.of hb4'))
   have hkk:=ZnF.of hb4'
   refine hK _ _ ⟨⟨hkk _ _ c0,hkk _ _ c1,hkk _ _ c2,hkk _ _ c3,hkk _ _ i1,trivial⟩,?_⟩
   clear hK Kv hb4 hb4' hr4 hkk c0 c1 c2 c3 i1
   repeat refine pO ?_
   refine Zd5 ?_
   have hTb:∀ l:List Int,Bd (ZmI (fun t=>T t.toNat) l):=fun l=>ZnO fun t _=>HWk.out.bd _
   have HTb:=Zh hTb
   clear hTb
   go_wp2_with fail
   go_loopw [11,73] (fun mo i wr=>∃ (j:Nat) (mv:Int),i=.int .i64 j∧mo=.int .i64 mv∧j≤tg.length∧Hid (mv=ZmI (fun t=>T t.toNat) (tg.take j))∧Hid (Upd M M w wr)∧Hid (Upd M M w4 wr)∧Hid (KnM T wr M fun j=>Q j∨j<k)) (fun _ i _=>tg.length-(intOf i).toNat)
   case atStart=>exact ⟨0,0,rfl,rfl,Nat.zero_le _,rfl,Upd.of HB4.out,Upd.refl _ _ _,HN4.out.kn.weak fun _ q=>.inl q⟩
   case round=>
    obtain ⟨j,mv,rfl,rfl,hj,HMv,HU,HU4,HKn⟩:=hrel
    by_cases hjl:j<tg.length
    ·obtain ⟨ad,rfl,t0⟩:=ZaB (ZnG HR4.out (HN4.out.keeps HU4.out)) hjl
     have hmem:tg.getD j 0∈tg:=ZfU _ hjl
     have h1:=HTt.out _ hmem
     have h2:=HTn.out _ hmem
     have hsn:=Zoe (T:=fun t=>T t.toNat) hjl
     obtain ⟨tj,htj⟩:∃ t,t=tg.getD j 0:=⟨_,rfl⟩
     rw [←htj] at t0 h1 h2 hsn
     obtain ⟨t,rfl⟩:∃ d:Nat,tj=d:=⟨tj.toNat,by omega⟩
     have htk:t<k:=by omega
     have HMj:=Zh (HM.out t htk _ (fun j=>Q j∨j<k) (HN4.out.next HU4.out HKn.out) (HK4.out.trans (HN4.out.keeps HU4.out)))
     have HSn:=Zh hsn
     have hjl2:(j:Int) < tg.length:=by omega
     have hwj:IntKind.i64.wrap ((j:Int)+1)=((j+1:Nat):Int):=IntWalk.i64_in _ (by omega)
     clear hsn hmem h1 h2 htj
     go_wp2_with (go_at_call 110;refine HMj.out.mono ?_;rintro e w5 ⟨rfl,hu5,hn5⟩;have HU5:=Zh hu5;have HN5:=Zh hn5;clear hu5 hn5)
     exact ⟨⟨j+1,max mv (T t),rfl,rfl,hjl,by rw [HSn.out,←HMv.out];rfl,HU.out.trans HU5.out,HU4.out.trans HU5.out,HN5.out.weak fun q hq=>hq.elim id fun e=>.inr (by omega)⟩,by simp [intOf];omega⟩
    ·obtain rfl:j=tg.length:=by omega
     have hmv:=HMv.out
     rw [List.take_length] at hmv
     have hmb:=HTb.out tg
     rw [←hmv] at hmb
     have HMb:=Zh hmb
     have HMq:=Zh hmv
     have hj2:¬ (tg.length:Int) < tg.length:=by omega
     clear hmv hmb
     go_wp2_with (go_at_call 160;refine (Znl _ _ _ ⟨by omega,by omega⟩ HMb.out).mono ?_;rintro e w5 ⟨rfl,hb5⟩)
     go_ret
     exact Zof (by rw [HO2.out.2,Zn7 rfl,HV.out,HMq.out,HTq.out]) (HU.out.bel hb5) (HKn.out.old hb5)
  have hn1:¬ op=29:=by have:=HO2.out.1;unfold ZaR inI at this;simp at this;omega
  have hn2:¬ op=30:=by have:=HO2.out.1;unfold ZaR inI at this;simp at this;omega
  have hn3:¬ op=31:=by have:=HO2.out.1;unfold ZaR inI at this;simp at this;omega
  have hn4:¬ op=32:=by have:=HO2.out.1;unfold ZaR inI at this;simp at this;omega
  have hn5:¬ op=33:=by have:=HO2.out.1;unfold ZaR inI at this;simp at this;omega
  go_wp2
  go_ret
  exact Zof (by rw [HO2.out.2,Zn8 h25 h26,HV.out]) (.of HB3.out) (HN3.out.kn.weak fun _ q=>.inl q)
 ·subst hye hfn hsn
  obtain ⟨ca2,hca2,q0,q1,q2⟩:=ZaA (l:=cdM m k) (HN3.out.md.k k hk) hen
  rw [HCa.out] at hca2
  cases hca2
  have hin2:(cdM m k).getD en default∈cdM m k:=ZfU _ hen
  have HFn2:=Zh (HWk.out.fn k hk _ hin2)
  have hte:=HWk.out.te _ he35
  obtain ⟨i2,hi2⟩:∃ i,i=(cdM m k).getD en default:=⟨_,rfl⟩
  rw [←hi2] at q0 q1 q2 HFn2 hte
  rw [hte] at HFn2
  obtain ⟨op2,ia2,ib2⟩:=i2
  dsimp only at q0 q1 q2
  have hF:=HWk.out.bdW hk hnF.seg (acc:=0) (by unfold Bd;omega)
  have hS:=HWk.out.bdW hk hnS.seg (acc:=0) (by unfold Bd;omega)
  have HLf:=Zh (show ∀ w' Q',ZnJ w' B M h m (.func (Fn.func g) #[] caps) x.sc T Q'→ZnF W0 w'→ZnF w w'→_ from fun w' Q' hH hK hk=>HLc.out a1 b1 hpa1 hbp1 w' Q' yf yfc F hH hK (ZnG hrF hk) (hnF.keeps hk))
  have HLs:=Zh (show ∀ w' Q',ZnJ w' B M h m (.func (Fn.func g) #[] caps) x.sc T Q'→ZnF W0 w'→ZnF w w'→_ from fun w' Q' hH hK hk=>HLc.out a2 b2 hpa2 hbp2 w' Q' ys ysc S hH hK (ZnG hrS hk) (hnS.keeps hk))
  obtain ⟨f,hf⟩:∃ f,f=WA (gT x m T) (cdM m k) a1 b1 0:=⟨_,rfl⟩
  obtain ⟨s,hs⟩:∃ f,f=WA (gT x m T) (cdM m k) a2 b2 0:=⟨_,rfl⟩
  rw [←hf] at hF HLf hval
  rw [←hs] at hS HLs hval
  have hbf:=hF
  have hbs:=hS
  have hbt:Bd x.tl:=by have:=HWk.out.tl;unfold Bd;omega
  have hbv:Bd v:=by unfold Bd;omega
  have HVal:=Zh hval
  have hop5:29≤op∧op≤33:=by have:=ho;unfold ZaR inI at this;simpa using this
  have HOpp:=Zh hop5
  have HBd:=Zh (And.intro hbf (And.intro hbs (And.intro hbt hbv)))
  have hle2:(en:Int) < (cdM m k).length:=by omega
  clear hF hS hf hs hte hi2 hin2 he35 ho hrF hnF hrS hnS hval hop5 hbf hbs hbt hbv HYc
  have x2:=HX3.out.cell 2 (v:=.int .i64 en) rfl
  have hen0:(0:Int)≤en:=by omega
  have c43:=HN3.out.wk.cell 4 (v:=.func (Fn.func g) #[] caps) rfl
  go_upto_region 6 with fail
  have hC3:Cs [(⟨B,4,none⟩,.func (Fn.func g) #[] caps),(⟨w.heap.size,2,none⟩,.int .i64 en),((ca.add (en*3)),.int .i64 op2),(⟨(ca.add (en*3)).block,(ca.add (en*3)).off+1,none⟩,.int .i64 ia2),(⟨(ca.add (en*3)).block,(ca.add (en*3)).off+2,none⟩,.int .i64 ib2)] w3:=⟨c43,x2,q0,q1,q2,trivial⟩
  have HC3:=Zh hC3
  refine rO (Cs [(⟨B,4,none⟩,.func (Fn.func g) #[] caps),(⟨w.heap.size,2,none⟩,.int .i64 en),((ca.add (en*3)),.int .i64 op2),(⟨(ca.add (en*3)).block,(ca.add (en*3)).off+1,none⟩,.int .i64 ia2),(⟨(ca.add (en*3)).block,(ca.add (en*3)).off+2,none⟩,.int .i64 ib2)]) (oL [0,1,2,3,4,5,6,7,8,109,10]) hC3 ?_
  clear hC3 c43 x2 q0 q1 q2 i0 i1
  repeat refine pO ?_
  refine oO fun Kv hK=>?_
  go_simp
  refine (HFn2.out _ (HK3.out.trans (ZnF.of ((Below.refl _ _).drew)))).mono ?_
  rintro e w4 ⟨rfl,hb4⟩
  have hb34:=Zaf (Below.refl w3.heap.size w3).drew hb4
  have HB4:=Zh (Zaf HB3.out hb34)
  have HX4:=Zh (HX3.out.old hb34)
  have HI4:=Zh (HI3.out.old hb34)
  have HN4:=Zh (HN3.out.old hb34)
  have HK4:=Zh (HK3.out.trans (ZnF.of hb34))
  have HKw:=Zh (ZnF.of HB4.out)
  refine hK _ _ ⟨Cs.keeps (ZnF.of hb34) HC3.out,?_⟩
  clear hK Kv hb4 hb34
  repeat refine pO ?_
  refine Zd5 ?_
  have i0:=HI4.out.cell 0 (v:=.int .i64 op) rfl
  have i1:=HI4.out.cell 1 (v:=.int .i64 ia) rfl
  have x3:=HX4.out.cell 3 (v:=.slice yf F.length yfc) rfl
  have x4:=HX4.out.cell 4 (v:=.slice ys S.length ysc) rfl
  have c5:=HN4.out.wk.cell 5 (v:=.bool x.sc) rfl
  have hop5:=HOpp.out
  have HLp:=Zh (show op=30→0≤ia∧ia≤1000 from fun q=>Zog HIv.out q)
  go_upto_region 8 with fail
  clear i0
  obtain ⟨hbf,hbs,hbt,hbv⟩:=HBd.out
  -- <ways>
  by_cases h29:op=29
  ·subst h29
   as_aux_lemma=>
   have HC4:=Zh (show Cs [(⟨w.heap.size,3,none⟩,.slice yf F.length yfc),(⟨w.heap.size,4,none⟩,.slice ys S.length ysc)] w4 from ⟨x3,x4,trivial⟩)
   go_upto_region 20 with fail
   refine rO (Cs [(⟨w.heap.size,3,none⟩,.slice yf F.length yfc),(⟨w.heap.size,4,none⟩,.slice ys S.length ysc)]) (oL [0,1,2,3,4,6,8,9,10,11,13,105,107,112,114,15,116,17]) HC4.out ?_
   have HD4:=Zh ((Upd.refl M M w4).drew)
   repeat refine pO ?_
   refine oO fun Kv hK=>?_
   go_simp
   refine (HLf.out _ _ (HN4.out.next HD4.out (HN4.out.kn.eq rfl)) (HK4.out.trans (HN4.out.keeps HD4.out)) (HKw.out.trans (HN4.out.keeps HD4.out))).mono ?_
   rintro e w5 ⟨rfl,hu5,hn5⟩
   have HD5:=Zh (HD4.out.trans hu5)
   have HQ5:=Zh hn5
   refine hK _ _ ⟨Cs.keeps (HN4.out.keeps HD5.out) HC4.out,?_⟩
   clear hK Kv hu5 hn5
   repeat refine pO ?_
   refine oO fun Kv hK=>?_
   go_simp
   refine (Znl f x.tl _ hbf hbt).mono ?_
   rintro e w6 ⟨rfl,hb6⟩
   have HD6:=Zh (HD5.out.bel hb6)
   have HQ6:=Zh (HQ5.out.old hb6)
   refine hK _ _ ⟨Cs.keeps (HN4.out.keeps HD6.out) HC4.out,?_⟩
   clear hK Kv hb6
   repeat refine pO ?_
   refine oO fun Kv hK=>?_
   go_simp
   refine (HLs.out _ _ (HN4.out.next HD6.out HQ6.out) (HK4.out.trans (HN4.out.keeps HD6.out)) (HKw.out.trans (HN4.out.keeps HD6.out))).mono ?_
   rintro e w7 ⟨rfl,hu7,hn7⟩
   have HD7:=Zh (HD6.out.trans hu7)
   have HQ7:=Zh hn7
   refine hK _ _ ⟨Cs.keeps (HN4.out.keeps HD7.out) HC4.out,?_⟩
   clear hK Kv hu7 hn7
   repeat refine pO ?_
   refine oO fun Kv hK=>?_
   go_simp
   refine (Znl s x.tl _ hbs hbt).mono ?_
   rintro e w8 ⟨rfl,hb8⟩
   have HD8:=Zh (HD7.out.bel hb8)
   have HQ8:=Zh (HQ7.out.old hb8)
   refine hK _ _ ⟨Cs.keeps (HN4.out.keeps HD8.out) HC4.out,?_⟩
   clear hK Kv hb8
   repeat refine pO ?_
   refine oO fun Kv hK=>?_
   go_simp
   refine (Znl v _ _ hbv (ZnN (ZnL hbf hbt) (ZnL hbs hbt))).mono ?_
   rintro e w9 ⟨rfl,hb9⟩
   have HD9:=Zh (HD8.out.bel hb9)
   have HQ9:=Zh (HQ8.out.old hb9)
   refine hK _ _ ⟨Cs.keeps (HN4.out.keeps HD9.out) HC4.out,?_⟩
   clear hK Kv hb9
   repeat refine pO ?_
   refine Zd5 ?_
   go_wp2
   go_ret
   exact Zof (by rw [HVal.out,Zn9 rfl,←HV.out]) ((Upd.of HB4.out).trans HD9.out) (HQ9.out.weak fun q hq=>hq.elim id .inr)
  by_cases h30:op=30
  ·subst h30
   as_aux_lemma=>
   have HC4:=Zh (show Cs [(⟨w.heap.size,3,none⟩,.slice yf F.length yfc),(⟨w.heap.size+1,1,none⟩,.int .i64 ia)] w4 from ⟨x3,i1,trivial⟩)
   have hia:=HLp.out rfl
   go_upto_region 22 with fail
   refine rO (Cs [(⟨w.heap.size,3,none⟩,.slice yf F.length yfc),(⟨w.heap.size+1,1,none⟩,.int .i64 ia)]) (oL [0,1,2,3,4,5,6,8,107,109,110,111,12]) HC4.out ?_
   have HD4:=Zh ((Upd.refl M M w4).drew)
   repeat refine pO ?_
   refine oO fun Kv hK=>?_
   go_simp
   refine (HLf.out _ _ (HN4.out.next HD4.out (HN4.out.kn.eq rfl)) (HK4.out.trans (HN4.out.keeps HD4.out)) (HKw.out.trans (HN4.out.keeps HD4.out))).mono ?_
   rintro e w5 ⟨rfl,hu5,hn5⟩
   have HD5:=Zh (HD4.out.trans hu5)
   have HQ5:=Zh hn5
   refine hK _ _ ⟨Cs.keeps (HN4.out.keeps HD5.out) HC4.out,?_⟩
   clear hK Kv hu5 hn5
   repeat refine pO ?_
   refine oO fun Kv hK=>?_
   go_simp
   refine (Znl f x.tl _ hbf hbt).mono ?_
   rintro e w6 ⟨rfl,hb6⟩
   have HD6:=Zh (HD5.out.bel hb6)
   have HQ6:=Zh (HQ5.out.old hb6)
   refine hK _ _ ⟨Cs.keeps (HN4.out.keeps HD6.out) HC4.out,?_⟩
   clear hK Kv hb6
   repeat refine pO ?_
   refine oO fun Kv hK=>?_
   go_simp
   refine (Znm ia _ _ hia (ZnL hbf hbt)).mono ?_
   rintro e w7 ⟨rfl,hb7⟩
   have HD7:=Zh (HD6.out.bel hb7)
   have HQ7:=Zh (HQ6.out.old hb7)
   refine hK _ _ ⟨Cs.keeps (HN4.out.keeps HD7.out) HC4.out,?_⟩
   clear hK Kv hb7
   repeat refine pO ?_
   refine oO fun Kv hK=>?_
   go_simp
   refine (Znl v _ _ hbv (ZnM hia.1 (ZnL hbf hbt))).mono ?_
   rintro e w8 ⟨rfl,hb8⟩
   have HD8:=Zh (HD7.out.bel hb8)
   have HQ8:=Zh (HQ7.out.old hb8)
   refine hK _ _ ⟨Cs.keeps (HN4.out.keeps HD8.out) HC4.out,?_⟩
   clear hK Kv hb8
   repeat refine pO ?_
   refine Zd5 ?_
   go_wp2
   go_ret
   exact Zof (by rw [HVal.out,Zoa rfl,←HV.out]) ((Upd.of HB4.out).trans HD8.out) (HQ8.out.weak fun q hq=>hq)
  by_cases h31:op=31
  ·subst h31
   as_aux_lemma=>
   go_wp2_with (first
    | (go_at_call 161;refine (HLf.out _ _ HN4.out HK4.out HKw.out).mono ?_;rintro e w5 ⟨rfl,hu5,hn5⟩;have HU5:=Zh ((Upd.of HB4.out).trans hu5);have HQ5:=Zh hn5;clear hu5 hn5)
    | (go_at_call 160;first|(refine (Znl f x.tl _ hbf hbt).mono ?_;rintro e w6 ⟨rfl,hb6⟩;have HB6:=Zh hb6;clear hb6)|(refine (Znl v _ _ hbv (ZnL hbf hbt)).mono ?_;rintro e w7 ⟨rfl,hb7⟩)))
   go_ret
   exact Zof (by rw [HVal.out,Zob (.inl rfl),←HV.out]) ((HU5.out.bel HB6.out).bel hb7) ((HQ5.out.old HB6.out).old hb7)
  by_cases h32:op=32
  ·subst h32
   as_aux_lemma=>
   rcases hsc:x.sc with _|_
   ·rw [hsc] at c5
    have HSc:=Zh hsc
    clear hsc
    go_wp2_with (first
     | (go_at_call 161;refine (HLf.out _ _ HN4.out HK4.out HKw.out).mono ?_;rintro e w5 ⟨rfl,hu5,hn5⟩;have HU5:=Zh ((Upd.of HB4.out).trans hu5);have HQ5:=Zh hn5;clear hu5 hn5)
     | (go_at_call 160;first|(refine (Znl f x.tl _ hbf hbt).mono ?_;rintro e w6 ⟨rfl,hb6⟩;have HB6:=Zh hb6;clear hb6)|(refine (Znl v _ _ hbv (ZnL hbf hbt)).mono ?_;rintro e w7 ⟨rfl,hb7⟩)))
    go_ret
    exact Zof (by rw [HVal.out,Zob (.inr ⟨rfl,HSc.out⟩),←HV.out]) ((HU5.out.bel HB6.out).bel hb7) ((HQ5.out.old HB6.out).old hb7)
   ·rw [hsc] at c5
    have HSc:=Zh hsc
    clear hsc
    go_wp2
    go_ret
    exact Zof (by rw [HVal.out,Zoc rfl HSc.out,←HV.out]) (.of HB4.out) (HN4.out.kn.weak fun _ q=>.inl q)
  obtain rfl:op=33:=by have:=hop5;omega
  have HC4:=Zh (show Cs [(⟨w.heap.size,3,none⟩,.slice yf F.length yfc),(⟨w.heap.size,4,none⟩,.slice ys S.length ysc)] w4 from ⟨x3,x4,trivial⟩)
  go_upto_region 30 with fail
  refine rO (Cs [(⟨w.heap.size,3,none⟩,.slice yf F.length yfc),(⟨w.heap.size,4,none⟩,.slice ys S.length ysc)]) (oL [0,1,2,3,4,6,8,9,10,11,105,107,112,113,114,15]) HC4.out ?_
  have HD4:=Zh ((Upd.refl M M w4).drew)
  repeat refine pO ?_
  refine oO fun Kv hK=>?_
  go_simp
  refine (HLf.out _ _ (HN4.out.next HD4.out (HN4.out.kn.eq rfl)) (HK4.out.trans (HN4.out.keeps HD4.out)) (HKw.out.trans (HN4.out.keeps HD4.out))).mono ?_
  rintro e w5 ⟨rfl,hu5,hn5⟩
  have HD5:=Zh (HD4.out.trans hu5)
  have HQ5:=Zh hn5
  refine hK _ _ ⟨Cs.keeps (HN4.out.keeps HD5.out) HC4.out,?_⟩
  clear hK Kv hu5 hn5
  repeat refine pO ?_
  refine oO fun Kv hK=>?_
  go_simp
  refine (Znl f x.tl _ hbf hbt).mono ?_
  rintro e w6 ⟨rfl,hb6⟩
  have HD6:=Zh (HD5.out.bel hb6)
  have HQ6:=Zh (HQ5.out.old hb6)
  refine hK _ _ ⟨Cs.keeps (HN4.out.keeps HD6.out) HC4.out,?_⟩
  clear hK Kv hb6
  repeat refine pO ?_
  refine oO fun Kv hK=>?_
  go_simp
  refine (HLs.out _ _ (HN4.out.next HD6.out HQ6.out) (HK4.out.trans (HN4.out.keeps HD6.out)) (HKw.out.trans (HN4.out.keeps HD6.out))).mono ?_
  rintro e w7 ⟨rfl,hu7,hn7⟩
  have HD7:=Zh (HD6.out.trans hu7)
  have HQ7:=Zh hn7
  refine hK _ _ ⟨Cs.keeps (HN4.out.keeps HD7.out) HC4.out,?_⟩
  clear hK Kv hu7 hn7
  repeat refine pO ?_
  refine oO fun Kv hK=>?_
  go_simp
  refine (Znl _ s _ (ZnL hbf hbt) hbs).mono ?_
  rintro e w8 ⟨rfl,hb8⟩
  have HD8:=Zh (HD7.out.bel hb8)
  have HQ8:=Zh (HQ7.out.old hb8)
  refine hK _ _ ⟨Cs.keeps (HN4.out.keeps HD8.out) HC4.out,?_⟩
  clear hK Kv hb8
  repeat refine pO ?_
  refine oO fun Kv hK=>?_
  go_simp
  refine (Znl v _ _ hbv (ZnL (ZnL hbf hbt) hbs)).mono ?_
  rintro e w9 ⟨rfl,hb9⟩
  have HD9:=Zh (HD8.out.bel hb9)
  have HQ9:=Zh (HQ8.out.old hb9)
  refine hK _ _ ⟨Cs.keeps (HN4.out.keeps HD9.out) HC4.out,?_⟩
  clear hK Kv hb9
  repeat refine pO ?_
  refine Zd5 ?_
  go_wp2
  go_ret
  exact Zof (by rw [HVal.out,Zod rfl,←HV.out]) ((Upd.of HB4.out).trans HD9.out) (HQ9.out.weak fun q hq=>hq.elim id .inr)
  -- </ways>
end
end
section
def tmS (l:List In3) (i:Nat) (acc:Int) (k:Nat):Int:=if (l.getD k default).op=30∧i≤(mtV l k).2 then ZmF (l.getD k default).a acc else acc
def tmV (l:List In3) (i:Nat):Int:=(List.range i).foldl (tmS l i) 1
def tmB (l:List In3) (a i:Nat):Int:=(List.range a).foldl (tmS l i) 1
theorem Zoj (l:List In3) (a i:Nat):tmB l (a+1) i=tmS l i (tmB l a i) a:=by unfold tmB;rw [List.range_succ,List.foldl_append];rfl
theorem Zok {l:List In3}{a b:Nat} (h:Seg l a b):∀ k,a≤k→k<b→ZaR (l.getD k default).op=true→(mtV l k).2<b:=by
 induction h with
 | nil a h=>intro k h1 h2;omega
 | pl a b h1 h2 h3 h4 h5 ih=>
  intro k q1 q2 q3
  by_cases e:k=a
  ·subst e;rw [h2] at q3;cases q3
  ·exact ih k (by omega) q2 q3
 | one a en b h1 h2 h3 i1 i2=>
  intro k q1 q2 q3
  have:=(Zmo h3).1
  by_cases e:k=a
  ·subst e;rw [Zmn h1];dsimp only;omega
  ·by_cases e2:k<en
   ·have:=i1 k (by omega) e2 q3;omega
   ·by_cases e3:k=en
    ·subst e3;rw [Zbf (.inr h1.2.2.2.1)] at q3;cases q3
    ·exact i2 k (by omega) q2 q3
 | two a n en b h1 h2 h3 h4 i1 i2 i3=>
  intro k q1 q2 q3
  have:=(Zmo h3).1
  have:=(Zmo h4).1
  obtain ⟨_,_,_,h35,hx⟩:=h1
  by_cases e:k=a
  ·subst e;rw [Zmn ⟨‹_›,‹_›,‹_›,h35,hx⟩];dsimp only;omega
  ·by_cases e2:k<n
   ·have:=i1 k (by omega) e2 q3;omega
   ·by_cases e3:k=n
    ·rcases hx with ⟨hx,_⟩|⟨n2,hx,_,h34,_⟩
     ·omega
     ·obtain rfl:n=n2:=by omega
      subst e3;rw [Zbf (.inl h34)] at q3;cases q3
    ·by_cases e4:k<en
     ·have:=i2 k (by omega) e4 q3;omega
     ·by_cases e5:k=en
      ·subst e5;rw [Zbf (.inr h35)] at q3;cases q3
      ·exact i3 k (by omega) q2 q3
theorem Zol {l:List In3}{a b i:Nat} (h:Seg l a b) (hi:b≤i):tmB l b i=tmB l a i:=by
 have hle:=(Zmo h).1
 have:∀ d,a+d≤b→tmB l (a+d) i=tmB l a i:=by
  intro d
  induction d with
  | zero=>intro _;rfl
  | succ d ih=>
   intro hd
   rw [←Nat.add_assoc,Zoj,ih (by omega)]
   unfold tmS
   by_cases ho:(l.getD (a+d) default).op=30
   ·have:=Zok h (a+d) (by omega) (by omega) (by rw [ho];decide)
    rw [if_neg (by omega)]
   ·rw [if_neg (fun q=>ho q.1)]
 have:=this (b-a) (by omega)
 rwa [show a+(b-a)=b by omega] at this
def Enc (l:List In3) (a b:Nat) (often:Int):Prop:=∀ i,a≤i→i<b→tmB l a i=often
theorem Enc.next {l:List In3}{a p b:Nat}{often:Int} (h:Enc l a b often) (hs:Seg l a p):Enc l p b often:=fun i h1 h2=>by
 have:=(Zmo hs).1
 rw [Zol hs h1]
 exact h i (by omega) h2
theorem Enc.here {l:List In3}{p b:Nat}{often:Int} (h:Enc l p b often) (hb:p<b):tmV l p=often:=h p (Nat.le_refl _) hb
def Zom (i:In3) (often:Int):Int:=if i.op=30 then ZmF i.a often else often
theorem Zon {l:List In3}{p b i:Nat}{often:Int} (h:Enc l p b often) (h1:p<i) (h2:i≤(mtV l p).2) (h3:i<b):tmB l (p+1) i=Zom (l.getD p default) often:=by
 rw [Zoj,h i (by omega) h3]
 unfold tmS Zom
 by_cases ho:(l.getD p default).op=30
 ·rw [if_pos ⟨ho,h2⟩,if_pos ho]
 ·rw [if_neg (fun q=>ho q.1),if_neg ho]
section
variable {l:List In3}{p b en:Nat}{often:Int} (h:Enc l p b often) (hb:en<b)
include h hb
theorem Zoo {alt:Int}{q:Nat} (hm:Mat l p alt en) (hq:q≤en):Enc l (p+1) q (Zom (l.getD p default) often):=fun i h1 h2=>Zon h (by omega) (by rw [Zmn hm];dsimp only;omega) (by omega)
theorem Zop {alt:Int}{q:Nat} (hm:Mat l p alt en) (hs:Seg l (p+1) q) (hq:q≤en) {r:Nat} (h1:q≤r) (h2:r≤en):tmB l q r=Zom (l.getD p default) often:=by
 have:=(Zmo hs).1
 rw [Zol hs h1]
 exact Zon h (by omega) (by rw [Zmn hm];dsimp only;omega) (by omega)
theorem Zoq (hm:Mat l p (-1) en) (hs:Seg l (p+1) en):tmV l en=Zom (l.getD p default) often:=Zop h hb hm hs (Nat.le_refl _) (Nat.le_refl _) (Nat.le_refl _)
section
variable {n:Nat}(hm:Mat l p n en)(hs:Seg l (p+1) n)
include n hm hs
theorem Zor (hne:n<en):tmV l n=often:=by
 have:=Zop h hb hm hs (by omega) (Nat.le_refl _) (by omega)
 rw [show tmV l n=tmB l n n from rfl,this]
 unfold Zom
 rw [if_neg]
 rcases hm.2.2.2.2 with ⟨q,_⟩|⟨n2,q,_,_,q2,_⟩
 ·omega
 ·omega
theorem Zos (hne:n<en):Enc l (n+1) en (Zom (l.getD p default) often):=fun i h1 h2=>by
 have h34:(l.getD n default).op=34:=by
  rcases hm.2.2.2.2 with ⟨q,_⟩|⟨n2,q,_,h34,_⟩
  ·omega
  ·obtain rfl:n=n2:=by omega
   exact h34
 rw [Zoj]
 have:tmS l i (tmB l n i) n=tmB l n i:=by unfold tmS;rw [if_neg (by omega)]
 rw [this]
 exact Zop h hb hm hs (by omega) (by omega) (by omega)
theorem Zot (hs2:Seg l (n+1) en):tmV l en=Zom (l.getD p default) often:=by
 have hne:=(Zmo hs2).1
 rw [show tmV l en=tmB l en en from rfl,Zol hs2 (Nat.le_refl _),Zoj]
 have h34:(l.getD n default).op=34:=by
  rcases hm.2.2.2.2 with ⟨q,_⟩|⟨n2,q,_,h34,_⟩
  ·omega
  ·obtain rfl:n=n2:=by omega
   exact h34
 have:tmS l en (tmB l n en) n=tmB l n en:=by unfold tmS;rw [if_neg (by omega)]
 rw [this]
 exact Zop h hb hm hs (by omega) (by omega) (by omega)
end
end
theorem Zou (l:List In3) (b:Nat):Enc l 0 b 1:=fun i _ _=>rfl
end
end Go.Proofs.YtcfjblcgceednaaGreat
