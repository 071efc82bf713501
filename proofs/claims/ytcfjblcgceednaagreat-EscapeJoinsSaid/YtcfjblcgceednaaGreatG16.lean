/- Joined texts. The first: verify: push; do, for a closure that writes into its own slice. -/
import Derived.Test.YtcfjblcgceednaaGreatG13
import Derived.Test.YtcfjblcgceednaaGreatG14
set_option linter.all false
set_option linter.unusedVariables false
set_option linter.unusedSimpArgs false
set_option maxRecDepth 100000
set_option maxHeartbeats 4000000
namespace Go.Proofs.YtcfjblcgceednaaGreat
theorem k4{p:Prop}(h:p:=by
 go_wp2_with (go_at_call 246;refine HD.out.mono ?_;rintro r w2 ⟨⟨v,rfl⟩,hu2,hd2⟩;have HU2:=Zh hu2;have HD2:=Zh hd2;clear hu2 hd2)
 go_end0
 exact ZhR.bel ⟨⟨_,rfl⟩,HU2.out,HD2.out⟩ HB1.out):p:=h
theorem k11{p:Prop}(h:p:=by
 have HD4:=Zh hd4
 have hck:∃ L S O e,Ck w4 K h m L S O e:=by obtain ⟨so2,sc2,st2,h1,-⟩:=HD4.out;exact ⟨_,_,_,_,h1⟩
 refine hK _ _ ⟨HS.out _ HU4.out hck,?_⟩
 clear hK Kv hu4 hd4 hck
 refine Zd5 ?_
 go_wp2
 go_end0
 exact ZhR.bel ⟨⟨_,rfl⟩,HU4.out,HD4.out⟩ HB1.out):p:=h
theorem k16{p:Prop}(h:p:=by
 have HB1:=Zh hb1
 clear hb1 hbx hbi H1 H HM hlo HW hi hm
 go_enter Tryz.func187,Tryz.ntmps187
 exact k4):p:=h
theorem k28{p:Prop}(h:p:=by
 have HB1:=Zh hb1
 clear hb1 hbx hbi H1 H HM hlo HW hi hm
 go_enter Tryz.func262,Tryz.ntmps262
 exact k4):p:=h
theorem k60{p:Prop}(h:p:=by
 go_wp2_with (go_at_call 254;refine HD.out.mono ?_;rintro r w2 ⟨⟨v,rfl⟩,hu2,hd2⟩;have HU2:=Zh hu2;have HD2:=Zh hd2;clear hu2 hd2)
 go_end0
 exact ZhR.bel ⟨⟨_,rfl⟩,HU2.out,HD2.out⟩ HB1.out):p:=h
theorem k67{p:Prop}(h:p:=by
 rintro r w4 ⟨⟨v4,rfl⟩,hu4,hd4⟩
 have HU4:=Zh ((Upd.of HB3.out).trans hu4)
 exact k11):p:=h
theorem k73{p:Prop}(h:p:=by
 refine ⟨h1.old hb,h2,fun a hx=>?_⟩
 obtain ⟨xs,z,hz⟩:=h3 a hx
 exact ⟨xs,z,(hb.block _ (Array.getElem?_eq_some_iff.1 hz).1).trans hz⟩):p:=h
theorem k95{p:Prop}(h:p:=by
 rintro r w4 ⟨⟨v4,rfl⟩,hu4,hd4⟩
 have HU4:=Zh ((Upd.of HB2.out).trans hu4)
 exact k11):p:=h
section
open Go.RowKit
theorem Zjp (K:Nat) (h:Hd) (m:Md) (L:Value) (so:Option Addr) (sc:Nat) (st:List Ty) (oo:Option Addr) (oc:Nat) (bs:List VB) (e:Int) (tv:Ty) (w:World)
    (H:Ck w K h m L (.slice so st.length sc) (.slice oo bs.length oc) e) (hs:ZeP w so sc st) (hst:st.length≤1000) (ho:Zar w oo oc bs) (hlen:bs.length≤1000000) :
    Calls Tryz.prog 254 #[.pointer (some ⟨K,0,none⟩),.agg #[.int .i64 tv.k,.int .i64 tv.c]] w fun r w'=>(∃ v,r=.returned v)∧Upd K K w w' ∧
      ((Zfd st.length 0 1 (Ze4 bs)=false∧Ck w' K h m L (.slice so st.length sc) (.slice oo bs.length oc) (ZeR e 12)) ∨
       (Zfd st.length 0 1 (Ze4 bs)=true∧∃ so' sc',ZeP w' so' sc' (st++[tv])∧Ck w' K h m L (.slice so' (st++[tv]).length sc') (.slice oo bs.length oc) e)):=by
 have hb1:Below w.heap.size w (w.alloc (.cells #[.int .i64 tv.k,.int .i64 tv.c] 76)):=by exact bE
 have hbx:=Blk.new w #[.int .i64 tv.k,.int .i64 tv.c] 76
 have kl:=Blk.lt H
 have HD:=Zh (ZhE K h m L so sc st oo oc bs e 0 1 319 #[.pointer (some ⟨w.heap.size,0,none⟩)] (fun out e'=>out=[tv]∧e'=e) _ (H.old hb1) (hs.upd (Upd.of (K:=K) (B:=K) hb1) H.noTy H.noTy) hst (ho.old hb1) hlen (by decide) ⟨by decide,by decide⟩ (fun _ _=>rfl) (fun out e' hp=>by rw [hp.1];simp)
   (fun _ w1 to' tc hu hck hown=>by
     refine (Zhz tv w.heap.size (.slice to' 0 tc) w1 (Blk.upd hbx hu (by omega) (by omega))).mono ?_
     rintro r w2 ⟨ro,rc,rfl,ht,_,hb⟩
     exact ⟨ro,rc,[tv],e,rfl,ht,hck.old hb,hu.bel hb,rfl,rfl⟩))
 have HB1:=Zh hb1
 clear hb1 hbx H hs ho
 go_enter Tryz.func254,Tryz.ntmps254
 go_wp2_with (go_at_call 246;refine HD.out.mono ?_;rintro r w2 ⟨⟨v,rfl⟩,hu2,hd2⟩;have HU2:=Zh hu2;have HD2:=Zh hd2;clear hu2 hd2)
 go_end0
 refine ⟨⟨_,rfl⟩,(Upd.of HB1.out).trans HU2.out,?_⟩
 rcases HD2.out with ⟨h1,h2⟩|⟨h1,so',sc',out,e',⟨rfl,rfl⟩,h3,h4⟩
 · exact .inl ⟨h1,h2⟩
 · rw [Nat.sub_zero,List.take_length] at h3 h4
   exact .inr ⟨h1,so',sc',h3,h4⟩
section
variable {w0 w:World}{K:Nat}{h:Hd}{m:Md}{lo:Option Addr}{lc:Nat}{ls:List Ty}{s:Ps}{so:Option Addr}{sc:Nat}{oo:Option Addr}{oc:Nat}{bs:List VB}{i:In3}(HW:Zfj m s.stk)(H:St w0 w K h m lo lc ls s so sc oo oc bs)(hd:s.opn.length≤6)
include w0 w K h m lo lc ls s so sc oo oc bs i HW H hd
theorem Zjq (tv:Ty) (hcn:Zex m i=(0,1)) (hpv:ZeB m ls i []=some tv):
  Calls Tryz.prog 254 #[.pointer (some ⟨K,0,none⟩),.agg #[.int .i64 tv.k,.int .i64 tv.c]] w (ZhR w K h m lo lc ls oo oc bs (ZhO m ls i s)):=by
 have hl:=HW.1
 have hlen:=H.op.len
 refine (Zjp K h m (.slice lo ls.length lc) so sc s.stk oo oc bs 0 tv w H.ck H.ts (by omega) (Zar.of_own H.op.own) (by omega)).mono ?_
 rintro r w' ⟨hv,hu,hq⟩
 refine ⟨hv,hu,?_⟩
 rw [ZhN H.op] at hq
 unfold ZhO
 rw [hcn]
 dsimp only
 rw [Nat.sub_zero,List.drop_length,List.take_length,hpv]
 rcases hq with ⟨hq,hc⟩|⟨hq,so',sc',ht,hc⟩
 ·exact k66
 ·rw [if_neg (by simp only [Zfd,Bool.and_eq_true,decide_eq_true_eq] at hq;omega)]
  exact ⟨so',sc',_,hc,ht,by simp;omega,fun _=>rfl⟩
theorem Zjr (tk ps g:Nat) (caps:Array Value) (hcn:Zex m i=(tk,ps)) (htk:tk≤1000) (hps:ps≤1000) (cf:∀ A W,(callFunc g (A++caps)).run Tryz.prog W=.ok (.enter g (A++caps)) W) (hg:∀ l,l.length=tk→s.stk.drop (s.stk.length-tk)=l→∀ w1 to' tc,Upd K K w w1→Ck w1 K h m (.slice lo ls.length lc) (.slice so s.stk.length sc) (.slice oo bs.length oc) 0→w1.ownsRow w.heap.size 76 2 (.slice to' tk tc) tk (Zak l) →
   Calls Tryz.prog g (#[.slice to' tk tc]++caps) w1 (ZhV w K h m (.slice lo ls.length lc) (.slice so s.stk.length sc) (.slice oo bs.length oc) (ZhW ps (ZeB m ls i l)))):
  Calls Tryz.prog 246 #[.pointer (some ⟨K,0,none⟩),.int .i64 tk,.int .i64 ps,.func (Fn.func g) #[] caps] w (ZhR w K h m lo lc ls oo oc bs (ZhO m ls i s)):=by
 have hb:=ZhN H.op
 have hlen:=H.op.len
 have hstk:=HW.1
 refine (ZhE K h m (.slice lo ls.length lc) so sc s.stk oo oc bs 0 tk ps g caps (ZhW ps (ZeB m ls i (s.stk.drop (s.stk.length-tk)))) w H.ck H.ts (by omega) (Zar.of_own H.op.own) (by omega) (by omega) ⟨by omega,by omega⟩ cf (fun out e' h=>h.1) ?_).mono ?_
 ·intro hle w1 to' tc hu hck hown
  refine (hg _ (by simp;omega) rfl w1 to' tc hu hck hown).mono ?_
  rintro r w2 ⟨ro,rc,out,e',hr,h1,h2,h3,h4⟩
  exact ⟨ro,rc,out,e',hr,h1,h2,h3,h4⟩
 ·exact k24
end
end
section
open Go.RowKit
section
variable {w0 w:World}{K:Nat}{h:Hd}{m:Md}{lo:Option Addr}{lc:Nat}{ls:List Ty}{s:Ps}{so:Option Addr}{sc:Nat}{oo:Option Addr}{oc:Nat}{bs:List VB}{i:In3}{k:Nat}(hm:Za1 m=true)(hlo:∀ t∈ls,Zfi m t)(HW:Zfj m s.stk)(H:St w0 w K h m lo lc ls s so sc oo oc bs)(HM:Zay w0 h m)(hd:s.opn.length≤6)(hi:ZfR m k i)
include w0 w K h m lo lc ls s so sc oo oc bs i k hm hlo HW H HM hd hi
theorem s_3 (hop:i.op=3):
  Calls Tryz.prog 187 #[.pointer (some ⟨K,0,none⟩),.agg #[.int .i64 i.op,.int .i64 i.a,.int .i64 i.b]] w (ZhR w K h m lo lc ls oo oc bs (ZhO m ls i s)):=by
 obtain ⟨op,ia,ib⟩:=i
 dsimp only at hop
 subst hop
 have hb1:Below w.heap.size w ((w.alloc (.cells #[.pointer (some ⟨K,0,none⟩)] 211)).alloc (.cells #[.int .i64 3,.int .i64 ia,.int .i64 ib] 78)):=by exact bE
 have hbx:=(Blk.new w #[.pointer (some ⟨K,0,none⟩)] 211).alloc (.cells #[.int .i64 3,.int .i64 ia,.int .i64 ib] 78)
 have hbi:Blk ((w.alloc (.cells #[.pointer (some ⟨K,0,none⟩)] 211)).alloc (.cells #[.int .i64 3,.int .i64 ia,.int .i64 ib] 78)) (w.heap.size+1) #[.int .i64 3,.int .i64 ia,.int .i64 ib] 78:=Blk.new' (w:=w.alloc (.cells #[.pointer (some ⟨K,0,none⟩)] 211)) _ _ (by simp)
 have kl:=Blk.lt H.ck
 have H1:=H.old hb1
 have HD:=Zh (ZhX (i:=⟨3,ia,ib⟩) HW H1 hd 1 0 256 #[.pointer (some ⟨w.heap.size,0,none⟩),.pointer (some ⟨w.heap.size+1,0,none⟩)] (Zge (.inl rfl)) (by decide) (by decide) (fun _ _=>rfl) (fun l hl hdr w1 to' tc hu hck hown=>by
  obtain ⟨a,rfl⟩:=one_of hl
  have ha:=HW.2 a (List.mem_of_mem_drop (by rw [hdr];simp))
  have hHM:∀ w',Upd K K w1 w'→Zay w' h m:=fun w' hu'=>HM.old ((hu.trans hu').below H1.hb (Nat.le_refl _) H1.hK H1.hK)
  have hx1:=Blk.upd hbx hu (by omega) (by omega)
  have hi1:=Blk.upd hbi hu (by omega) (by omega)
  have hT:=H1.tl.upd hu H1.ck.noTy H1.ck.noTy
  refine (Zh5 K h m _ _ _ a 3 ia ib to' tc _ w.heap.size (w.heap.size+1) w1 hck hHM hx1 hi1 hown lo lc ls rfl hT (hi.a0 (by simp))).mono ?_
  exact fun r w2 hp=>hp.imp fun out e' hq=>by obtain ⟨h1,h2⟩:=hq;rw [h1,h2];exact ZiB hm hlo rfl (hi.a0 (by simp)) ha))
 exact k16
theorem s_4 (hop:i.op=4):
  Calls Tryz.prog 187 #[.pointer (some ⟨K,0,none⟩),.agg #[.int .i64 i.op,.int .i64 i.a,.int .i64 i.b]] w (ZhR w K h m lo lc ls oo oc bs (ZhO m ls i s)):=by
 obtain ⟨op,ia,ib⟩:=i
 dsimp only at hop
 subst hop
 have hb1:Below w.heap.size w ((w.alloc (.cells #[.pointer (some ⟨K,0,none⟩)] 211)).alloc (.cells #[.int .i64 4,.int .i64 ia,.int .i64 ib] 78)):=by exact bE
 have hbx:=(Blk.new w #[.pointer (some ⟨K,0,none⟩)] 211).alloc (.cells #[.int .i64 4,.int .i64 ia,.int .i64 ib] 78)
 have hbi:Blk ((w.alloc (.cells #[.pointer (some ⟨K,0,none⟩)] 211)).alloc (.cells #[.int .i64 4,.int .i64 ia,.int .i64 ib] 78)) (w.heap.size+1) #[.int .i64 4,.int .i64 ia,.int .i64 ib] 78:=Blk.new' (w:=w.alloc (.cells #[.pointer (some ⟨K,0,none⟩)] 211)) _ _ (by simp)
 have kl:=Blk.lt H.ck
 have H1:=H.old hb1
 have HD:=Zh (ZhX (i:=⟨4,ia,ib⟩) HW H1 hd 1 0 253 #[] (Zge (.inr (.inl rfl))) (by decide) (by decide) (fun _ _=>rfl) (fun l hl hdr w1 to' tc hu hck hown=>by
  obtain ⟨a,rfl⟩:=one_of hl
  have ha:=HW.2 a (List.mem_of_mem_drop (by rw [hdr];simp))
  have hHM:∀ w',Upd K K w1 w'→Zay w' h m:=fun w' hu'=>HM.old ((hu.trans hu').below H1.hb (Nat.le_refl _) H1.hK H1.hK)
  have hx1:=Blk.upd hbx hu (by omega) (by omega)
  have hi1:=Blk.upd hbi hu (by omega) (by omega)
  have hT:=H1.tl.upd hu H1.ck.noTy H1.ck.noTy
  refine (Zh2 K h m _ _ _ (.slice to' 1 tc) w1 hck).mono ?_
  exact fun r w2 hp=>hp.imp fun out e' hq=>by obtain ⟨h1,h2⟩:=hq;rw [h1,h2];exact ZiC rfl))
 exact k16
theorem s_5 (hop:i.op=5):
  Calls Tryz.prog 187 #[.pointer (some ⟨K,0,none⟩),.agg #[.int .i64 i.op,.int .i64 i.a,.int .i64 i.b]] w (ZhR w K h m lo lc ls oo oc bs (ZhO m ls i s)):=by
 obtain ⟨op,ia,ib⟩:=i
 dsimp only at hop
 subst hop
 have hb1:Below w.heap.size w ((w.alloc (.cells #[.pointer (some ⟨K,0,none⟩)] 211)).alloc (.cells #[.int .i64 5,.int .i64 ia,.int .i64 ib] 78)):=by exact bE
 have hbx:=(Blk.new w #[.pointer (some ⟨K,0,none⟩)] 211).alloc (.cells #[.int .i64 5,.int .i64 ia,.int .i64 ib] 78)
 have hbi:Blk ((w.alloc (.cells #[.pointer (some ⟨K,0,none⟩)] 211)).alloc (.cells #[.int .i64 5,.int .i64 ia,.int .i64 ib] 78)) (w.heap.size+1) #[.int .i64 5,.int .i64 ia,.int .i64 ib] 78:=Blk.new' (w:=w.alloc (.cells #[.pointer (some ⟨K,0,none⟩)] 211)) _ _ (by simp)
 have kl:=Blk.lt H.ck
 have H1:=H.old hb1
 have HD:=Zh (Zjr (i:=⟨5,ia,ib⟩) HW H1 hd 1 2 258 #[] (Zgf rfl) (by decide) (by decide) (fun _ _=>rfl) (fun l hl hdr w1 to' tc hu hck hown=>by
  obtain ⟨a,rfl⟩:=one_of hl
  refine (Zi9 K h m _ _ _ a to' tc _ w1 hck hu hown).mono ?_
  exact fun r w2 hp=>hp.imp fun out e' hq=>by obtain ⟨h1,h2⟩:=hq;rw [h1,h2];exact ZiD rfl))
 exact k16
theorem s_6 (hop:i.op=6):
  Calls Tryz.prog 187 #[.pointer (some ⟨K,0,none⟩),.agg #[.int .i64 i.op,.int .i64 i.a,.int .i64 i.b]] w (ZhR w K h m lo lc ls oo oc bs (ZhO m ls i s)):=by
 obtain ⟨op,ia,ib⟩:=i
 dsimp only at hop
 subst hop
 have hb1:Below w.heap.size w ((w.alloc (.cells #[.pointer (some ⟨K,0,none⟩)] 211)).alloc (.cells #[.int .i64 6,.int .i64 ia,.int .i64 ib] 78)):=by exact bE
 have hbx:=(Blk.new w #[.pointer (some ⟨K,0,none⟩)] 211).alloc (.cells #[.int .i64 6,.int .i64 ia,.int .i64 ib] 78)
 have hbi:Blk ((w.alloc (.cells #[.pointer (some ⟨K,0,none⟩)] 211)).alloc (.cells #[.int .i64 6,.int .i64 ia,.int .i64 ib] 78)) (w.heap.size+1) #[.int .i64 6,.int .i64 ia,.int .i64 ib] 78:=Blk.new' (w:=w.alloc (.cells #[.pointer (some ⟨K,0,none⟩)] 211)) _ _ (by simp)
 have kl:=Blk.lt H.ck
 have H1:=H.old hb1
 have HD:=Zh (ZhX (i:=⟨6,ia,ib⟩) HW H1 hd 2 1 259 #[.pointer (some ⟨w.heap.size,0,none⟩)] (Zgg (by simp)) (by decide) (by decide) (fun _ _=>rfl) (fun l hl hdr w1 to' tc hu hck hown=>by
  obtain ⟨a,b,rfl⟩:=ZiY hl
  have hx1:=Blk.upd hbx hu (by omega) (by omega)
  by_cases hA:a=Zeu
  ·refine (Zh6 K h m _ _ _ a b 0 0 0 to' tc _ w.heap.size 0 w1 hck hx1 hown hA).mono ?_
   exact fun r w2 hp=>hp.imp fun out e' hq=>by obtain ⟨h1,h2⟩:=hq;rw [h1,h2];exact ZiE (by simp) hA
  ·refine (Zh7 K h m _ _ _ a b 0 0 0 to' tc _ w.heap.size 0 w1 hck hx1 hown hA).mono ?_
   exact fun r w2 hp=>hp.imp fun out e' hq=>by obtain ⟨h1,h2⟩:=hq;rw [h1,h2];exact ZiF (by simp) hA))
 exact k16
theorem s_7 (hop:i.op=7):
  Calls Tryz.prog 187 #[.pointer (some ⟨K,0,none⟩),.agg #[.int .i64 i.op,.int .i64 i.a,.int .i64 i.b]] w (ZhR w K h m lo lc ls oo oc bs (ZhO m ls i s)):=by
 obtain ⟨op,ia,ib⟩:=i
 dsimp only at hop
 subst hop
 have hb1:Below w.heap.size w ((w.alloc (.cells #[.pointer (some ⟨K,0,none⟩)] 211)).alloc (.cells #[.int .i64 7,.int .i64 ia,.int .i64 ib] 78)):=by exact bE
 have hbx:=(Blk.new w #[.pointer (some ⟨K,0,none⟩)] 211).alloc (.cells #[.int .i64 7,.int .i64 ia,.int .i64 ib] 78)
 have hbi:Blk ((w.alloc (.cells #[.pointer (some ⟨K,0,none⟩)] 211)).alloc (.cells #[.int .i64 7,.int .i64 ia,.int .i64 ib] 78)) (w.heap.size+1) #[.int .i64 7,.int .i64 ia,.int .i64 ib] 78:=Blk.new' (w:=w.alloc (.cells #[.pointer (some ⟨K,0,none⟩)] 211)) _ _ (by simp)
 have kl:=Blk.lt H.ck
 have H1:=H.old hb1
 have HD:=Zh (ZhX (i:=⟨7,ia,ib⟩) HW H1 hd 2 1 259 #[.pointer (some ⟨w.heap.size,0,none⟩)] (Zgg (by simp)) (by decide) (by decide) (fun _ _=>rfl) (fun l hl hdr w1 to' tc hu hck hown=>by
  obtain ⟨a,b,rfl⟩:=ZiY hl
  have hx1:=Blk.upd hbx hu (by omega) (by omega)
  by_cases hA:a=Zeu
  ·refine (Zh6 K h m _ _ _ a b 0 0 0 to' tc _ w.heap.size 0 w1 hck hx1 hown hA).mono ?_
   exact fun r w2 hp=>hp.imp fun out e' hq=>by obtain ⟨h1,h2⟩:=hq;rw [h1,h2];exact ZiE (by simp) hA
  ·refine (Zh7 K h m _ _ _ a b 0 0 0 to' tc _ w.heap.size 0 w1 hck hx1 hown hA).mono ?_
   exact fun r w2 hp=>hp.imp fun out e' hq=>by obtain ⟨h1,h2⟩:=hq;rw [h1,h2];exact ZiF (by simp) hA))
 exact k16
theorem s_8 (hop:i.op=8):
  Calls Tryz.prog 187 #[.pointer (some ⟨K,0,none⟩),.agg #[.int .i64 i.op,.int .i64 i.a,.int .i64 i.b]] w (ZhR w K h m lo lc ls oo oc bs (ZhO m ls i s)):=by
 obtain ⟨op,ia,ib⟩:=i
 dsimp only at hop
 subst hop
 have hb1:Below w.heap.size w ((w.alloc (.cells #[.pointer (some ⟨K,0,none⟩)] 211)).alloc (.cells #[.int .i64 8,.int .i64 ia,.int .i64 ib] 78)):=by exact bE
 have hbx:=(Blk.new w #[.pointer (some ⟨K,0,none⟩)] 211).alloc (.cells #[.int .i64 8,.int .i64 ia,.int .i64 ib] 78)
 have hbi:Blk ((w.alloc (.cells #[.pointer (some ⟨K,0,none⟩)] 211)).alloc (.cells #[.int .i64 8,.int .i64 ia,.int .i64 ib] 78)) (w.heap.size+1) #[.int .i64 8,.int .i64 ia,.int .i64 ib] 78:=Blk.new' (w:=w.alloc (.cells #[.pointer (some ⟨K,0,none⟩)] 211)) _ _ (by simp)
 have kl:=Blk.lt H.ck
 have H1:=H.old hb1
 have HD:=Zh (ZhX (i:=⟨8,ia,ib⟩) HW H1 hd 2 1 259 #[.pointer (some ⟨w.heap.size,0,none⟩)] (Zgg (by simp)) (by decide) (by decide) (fun _ _=>rfl) (fun l hl hdr w1 to' tc hu hck hown=>by
  obtain ⟨a,b,rfl⟩:=ZiY hl
  have hx1:=Blk.upd hbx hu (by omega) (by omega)
  by_cases hA:a=Zeu
  ·refine (Zh6 K h m _ _ _ a b 0 0 0 to' tc _ w.heap.size 0 w1 hck hx1 hown hA).mono ?_
   exact fun r w2 hp=>hp.imp fun out e' hq=>by obtain ⟨h1,h2⟩:=hq;rw [h1,h2];exact ZiE (by simp) hA
  ·refine (Zh7 K h m _ _ _ a b 0 0 0 to' tc _ w.heap.size 0 w1 hck hx1 hown hA).mono ?_
   exact fun r w2 hp=>hp.imp fun out e' hq=>by obtain ⟨h1,h2⟩:=hq;rw [h1,h2];exact ZiF (by simp) hA))
 exact k16
theorem s_9 (hop:i.op=9):
  Calls Tryz.prog 187 #[.pointer (some ⟨K,0,none⟩),.agg #[.int .i64 i.op,.int .i64 i.a,.int .i64 i.b]] w (ZhR w K h m lo lc ls oo oc bs (ZhO m ls i s)):=by
 obtain ⟨op,ia,ib⟩:=i
 dsimp only at hop
 subst hop
 have hb1:Below w.heap.size w ((w.alloc (.cells #[.pointer (some ⟨K,0,none⟩)] 211)).alloc (.cells #[.int .i64 9,.int .i64 ia,.int .i64 ib] 78)):=by exact bE
 have hbx:=(Blk.new w #[.pointer (some ⟨K,0,none⟩)] 211).alloc (.cells #[.int .i64 9,.int .i64 ia,.int .i64 ib] 78)
 have hbi:Blk ((w.alloc (.cells #[.pointer (some ⟨K,0,none⟩)] 211)).alloc (.cells #[.int .i64 9,.int .i64 ia,.int .i64 ib] 78)) (w.heap.size+1) #[.int .i64 9,.int .i64 ia,.int .i64 ib] 78:=Blk.new' (w:=w.alloc (.cells #[.pointer (some ⟨K,0,none⟩)] 211)) _ _ (by simp)
 have kl:=Blk.lt H.ck
 have H1:=H.old hb1
 have HD:=Zh (ZhX (i:=⟨9,ia,ib⟩) HW H1 hd 2 1 259 #[.pointer (some ⟨w.heap.size,0,none⟩)] (Zgg (by simp)) (by decide) (by decide) (fun _ _=>rfl) (fun l hl hdr w1 to' tc hu hck hown=>by
  obtain ⟨a,b,rfl⟩:=ZiY hl
  have hx1:=Blk.upd hbx hu (by omega) (by omega)
  by_cases hA:a=Zeu
  ·refine (Zh6 K h m _ _ _ a b 0 0 0 to' tc _ w.heap.size 0 w1 hck hx1 hown hA).mono ?_
   exact fun r w2 hp=>hp.imp fun out e' hq=>by obtain ⟨h1,h2⟩:=hq;rw [h1,h2];exact ZiE (by simp) hA
  ·refine (Zh7 K h m _ _ _ a b 0 0 0 to' tc _ w.heap.size 0 w1 hck hx1 hown hA).mono ?_
   exact fun r w2 hp=>hp.imp fun out e' hq=>by obtain ⟨h1,h2⟩:=hq;rw [h1,h2];exact ZiF (by simp) hA))
 exact k16
theorem Zjs (hop:i.op=10):
  Calls Tryz.prog 187 #[.pointer (some ⟨K,0,none⟩),.agg #[.int .i64 i.op,.int .i64 i.a,.int .i64 i.b]] w (ZhR w K h m lo lc ls oo oc bs (ZhO m ls i s)):=by
 obtain ⟨op,ia,ib⟩:=i
 dsimp only at hop
 subst hop
 have hb1:Below w.heap.size w ((w.alloc (.cells #[.pointer (some ⟨K,0,none⟩)] 211)).alloc (.cells #[.int .i64 10,.int .i64 ia,.int .i64 ib] 78)):=by exact bE
 have hbx:=(Blk.new w #[.pointer (some ⟨K,0,none⟩)] 211).alloc (.cells #[.int .i64 10,.int .i64 ia,.int .i64 ib] 78)
 have hbi:Blk ((w.alloc (.cells #[.pointer (some ⟨K,0,none⟩)] 211)).alloc (.cells #[.int .i64 10,.int .i64 ia,.int .i64 ib] 78)) (w.heap.size+1) #[.int .i64 10,.int .i64 ia,.int .i64 ib] 78:=Blk.new' (w:=w.alloc (.cells #[.pointer (some ⟨K,0,none⟩)] 211)) _ _ (by simp)
 have kl:=Blk.lt H.ck
 have H1:=H.old hb1
 have HD:=Zh (ZhX (i:=⟨10,ia,ib⟩) HW H1 hd 2 1 259 #[.pointer (some ⟨w.heap.size,0,none⟩)] (Zgg (by simp)) (by decide) (by decide) (fun _ _=>rfl) (fun l hl hdr w1 to' tc hu hck hown=>by
  obtain ⟨a,b,rfl⟩:=ZiY hl
  have hx1:=Blk.upd hbx hu (by omega) (by omega)
  by_cases hA:a=Zeu
  ·refine (Zh6 K h m _ _ _ a b 0 0 0 to' tc _ w.heap.size 0 w1 hck hx1 hown hA).mono ?_
   exact fun r w2 hp=>hp.imp fun out e' hq=>by obtain ⟨h1,h2⟩:=hq;rw [h1,h2];exact ZiE (by simp) hA
  ·refine (Zh7 K h m _ _ _ a b 0 0 0 to' tc _ w.heap.size 0 w1 hck hx1 hown hA).mono ?_
   exact fun r w2 hp=>hp.imp fun out e' hq=>by obtain ⟨h1,h2⟩:=hq;rw [h1,h2];exact ZiF (by simp) hA))
 exact k16
theorem Zjt (hop:i.op=11):
  Calls Tryz.prog 187 #[.pointer (some ⟨K,0,none⟩),.agg #[.int .i64 i.op,.int .i64 i.a,.int .i64 i.b]] w (ZhR w K h m lo lc ls oo oc bs (ZhO m ls i s)):=by
 obtain ⟨op,ia,ib⟩:=i
 dsimp only at hop
 subst hop
 have hb1:Below w.heap.size w ((w.alloc (.cells #[.pointer (some ⟨K,0,none⟩)] 211)).alloc (.cells #[.int .i64 11,.int .i64 ia,.int .i64 ib] 78)):=by exact bE
 have hbx:=(Blk.new w #[.pointer (some ⟨K,0,none⟩)] 211).alloc (.cells #[.int .i64 11,.int .i64 ia,.int .i64 ib] 78)
 have hbi:Blk ((w.alloc (.cells #[.pointer (some ⟨K,0,none⟩)] 211)).alloc (.cells #[.int .i64 11,.int .i64 ia,.int .i64 ib] 78)) (w.heap.size+1) #[.int .i64 11,.int .i64 ia,.int .i64 ib] 78:=Blk.new' (w:=w.alloc (.cells #[.pointer (some ⟨K,0,none⟩)] 211)) _ _ (by simp)
 have kl:=Blk.lt H.ck
 have H1:=H.old hb1
 have HD:=Zh (ZhX (i:=⟨11,ia,ib⟩) HW H1 hd 2 1 259 #[.pointer (some ⟨w.heap.size,0,none⟩)] (Zgg (by simp)) (by decide) (by decide) (fun _ _=>rfl) (fun l hl hdr w1 to' tc hu hck hown=>by
  obtain ⟨a,b,rfl⟩:=ZiY hl
  have hx1:=Blk.upd hbx hu (by omega) (by omega)
  by_cases hA:a=Zeu
  ·refine (Zh6 K h m _ _ _ a b 0 0 0 to' tc _ w.heap.size 0 w1 hck hx1 hown hA).mono ?_
   exact fun r w2 hp=>hp.imp fun out e' hq=>by obtain ⟨h1,h2⟩:=hq;rw [h1,h2];exact ZiE (by simp) hA
  ·refine (Zh7 K h m _ _ _ a b 0 0 0 to' tc _ w.heap.size 0 w1 hck hx1 hown hA).mono ?_
   exact fun r w2 hp=>hp.imp fun out e' hq=>by obtain ⟨h1,h2⟩:=hq;rw [h1,h2];exact ZiF (by simp) hA))
 exact k16
theorem Zju (hop:i.op=13):
  Calls Tryz.prog 187 #[.pointer (some ⟨K,0,none⟩),.agg #[.int .i64 i.op,.int .i64 i.a,.int .i64 i.b]] w (ZhR w K h m lo lc ls oo oc bs (ZhO m ls i s)):=by
 obtain ⟨op,ia,ib⟩:=i
 dsimp only at hop
 subst hop
 have hb1:Below w.heap.size w ((w.alloc (.cells #[.pointer (some ⟨K,0,none⟩)] 211)).alloc (.cells #[.int .i64 13,.int .i64 ia,.int .i64 ib] 78)):=by exact bE
 have hbx:=(Blk.new w #[.pointer (some ⟨K,0,none⟩)] 211).alloc (.cells #[.int .i64 13,.int .i64 ia,.int .i64 ib] 78)
 have hbi:Blk ((w.alloc (.cells #[.pointer (some ⟨K,0,none⟩)] 211)).alloc (.cells #[.int .i64 13,.int .i64 ia,.int .i64 ib] 78)) (w.heap.size+1) #[.int .i64 13,.int .i64 ia,.int .i64 ib] 78:=Blk.new' (w:=w.alloc (.cells #[.pointer (some ⟨K,0,none⟩)] 211)) _ _ (by simp)
 have kl:=Blk.lt H.ck
 have H1:=H.old hb1
 have HD:=Zh (ZhX (i:=⟨13,ia,ib⟩) HW H1 hd 1 1 260 #[.pointer (some ⟨w.heap.size,0,none⟩)] (Zgh (.inl rfl)) (by decide) (by decide) (fun _ _=>rfl) (fun l hl hdr w1 to' tc hu hck hown=>by
  obtain ⟨a,rfl⟩:=one_of hl
  have ha:=HW.2 a (List.mem_of_mem_drop (by rw [hdr];simp))
  have hHM:∀ w',Upd K K w1 w'→Zay w' h m:=fun w' hu'=>HM.old ((hu.trans hu').below H1.hb (Nat.le_refl _) H1.hK H1.hK)
  have hx1:=Blk.upd hbx hu (by omega) (by omega)
  have hi1:=Blk.upd hbi hu (by omega) (by omega)
  have hT:=H1.tl.upd hu H1.ck.noTy H1.ck.noTy
  refine (Zh8 K h m _ _ _ a 0 0 0 to' tc _ w.heap.size 0 w1 hck hx1 hown).mono ?_
  exact fun r w2 hp=>hp.imp fun out e' hq=>by obtain ⟨h1,h2⟩:=hq;rw [h1,h2];exact ZiG rfl))
 exact k16
theorem Zjv (hop:i.op=27):
  Calls Tryz.prog 187 #[.pointer (some ⟨K,0,none⟩),.agg #[.int .i64 i.op,.int .i64 i.a,.int .i64 i.b]] w (ZhR w K h m lo lc ls oo oc bs (ZhO m ls i s)):=by
 obtain ⟨op,ia,ib⟩:=i
 dsimp only at hop
 subst hop
 have hb1:Below w.heap.size w ((w.alloc (.cells #[.pointer (some ⟨K,0,none⟩)] 211)).alloc (.cells #[.int .i64 27,.int .i64 ia,.int .i64 ib] 78)):=by exact bE
 have hbx:=(Blk.new w #[.pointer (some ⟨K,0,none⟩)] 211).alloc (.cells #[.int .i64 27,.int .i64 ia,.int .i64 ib] 78)
 have hbi:Blk ((w.alloc (.cells #[.pointer (some ⟨K,0,none⟩)] 211)).alloc (.cells #[.int .i64 27,.int .i64 ia,.int .i64 ib] 78)) (w.heap.size+1) #[.int .i64 27,.int .i64 ia,.int .i64 ib] 78:=Blk.new' (w:=w.alloc (.cells #[.pointer (some ⟨K,0,none⟩)] 211)) _ _ (by simp)
 have kl:=Blk.lt H.ck
 have H1:=H.old hb1
 have HD:=Zh (ZhX (i:=⟨27,ia,ib⟩) HW H1 hd 1 0 261 #[.pointer (some ⟨w.heap.size,0,none⟩)] (Zge (by simp)) (by decide) (by decide) (fun _ _=>rfl) (fun l hl hdr w1 to' tc hu hck hown=>by
  obtain ⟨a,rfl⟩:=one_of hl
  have ha:=HW.2 a (List.mem_of_mem_drop (by rw [hdr];simp))
  have hHM:∀ w',Upd K K w1 w'→Zay w' h m:=fun w' hu'=>HM.old ((hu.trans hu').below H1.hb (Nat.le_refl _) H1.hK H1.hK)
  have hx1:=Blk.upd hbx hu (by omega) (by omega)
  have hi1:=Blk.upd hbi hu (by omega) (by omega)
  have hT:=H1.tl.upd hu H1.ck.noTy H1.ck.noTy
  refine (Zh4 K h m _ _ _ a 0 0 0 to' tc _ w.heap.size 0 w1 hck hx1 hown).mono ?_
  exact fun r w2 hp=>hp.imp fun out e' hq=>by obtain ⟨h1,h2⟩:=hq;rw [h1,h2];exact ZiH (.inl rfl)))
 exact k16
theorem s_1 (hop:i.op=1):
  Calls Tryz.prog 187 #[.pointer (some ⟨K,0,none⟩),.agg #[.int .i64 i.op,.int .i64 i.a,.int .i64 i.b]] w (ZhR w K h m lo lc ls oo oc bs (ZhO m ls i s)):=by
 obtain ⟨op,ia,ib⟩:=i
 dsimp only at hop
 subst hop
 have hb1:Below w.heap.size w ((w.alloc (.cells #[.pointer (some ⟨K,0,none⟩)] 211)).alloc (.cells #[.int .i64 1,.int .i64 ia,.int .i64 ib] 78)):=by exact bE
 have hbx:=(Blk.new w #[.pointer (some ⟨K,0,none⟩)] 211).alloc (.cells #[.int .i64 1,.int .i64 ia,.int .i64 ib] 78)
 have hbi:Blk ((w.alloc (.cells #[.pointer (some ⟨K,0,none⟩)] 211)).alloc (.cells #[.int .i64 1,.int .i64 ia,.int .i64 ib] 78)) (w.heap.size+1) #[.int .i64 1,.int .i64 ia,.int .i64 ib] 78:=Blk.new' (w:=w.alloc (.cells #[.pointer (some ⟨K,0,none⟩)] 211)) _ _ (by simp)
 have kl:=Blk.lt H.ck
 have H1:=H.old hb1
 have HB1:=Zh hb1
 have HH:=Zh H1
 have cc:=hbx.cell 0 (v:=.pointer (some ⟨K,0,none⟩)) rfl
 have i1:=hbi.cell 1 (v:=.int .i64 ia) rfl
 have hS:∀ w',Upd K K ((w.alloc (.cells #[.pointer (some ⟨K,0,none⟩)] 211)).alloc (.cells #[.int .i64 1,.int .i64 ia,.int .i64 ib] 78)) w'→(∃ L S O e,Ck w' K h m L S O e)→(fun w':World=>w'.cell? ⟨w.heap.size,0,none⟩=some (.pointer (some ⟨K,0,none⟩))) w':=fun w' hu hc=>hu.cell cc (by show w.heap.size≠K;omega) (by show w.heap.size≠K;omega)
 have HS:=Zh hS
 have HHM:=Zh HM
 obtain ⟨W1,hW1⟩:∃ W1,W1=((w.alloc (.cells #[.pointer (some ⟨K,0,none⟩)] 211)).alloc (.cells #[.int .i64 1,.int .i64 ia,.int .i64 ib] 78)):=⟨_,rfl⟩
 rw [←hW1] at HS HH HB1
 have HW1:=Zh hW1
 have HHW:=Zh HW
 have HI:=Zh hi
 have HHm:=Zh hm
 have HLo:=Zh hlo
 clear hb1 hbx hbi H1 H HM hlo HW hi hm cc i1 hS hW1
 go_enter Tryz.func187,Tryz.ntmps187
 go_wp2_with fail
 refine rO (fun w':World=>w'.cell? ⟨w.heap.size,0,none⟩=some (.pointer (some ⟨K,0,none⟩))) (oL [0,101,102]) (HW1.out▸HS.out _ (Upd.refl K K W1).drew ⟨_,_,_,_,Ck.drew HH.out.ck⟩) ?_
 rw [←HW1.out]
 have HB2:=Zh (show Below W1.heap.size W1 W1.drew by exact bE)
 repeat refine pO ?_
 refine oO fun Kv hK=>?_
 go_simp
 refine (Zhl _).mono ?_
 rintro r w3 ⟨rfl,hb3⟩
 have HB3:=Zh (Zaf HB2.out hb3)
 refine hK _ _ ⟨HS.out _ (Upd.of HB3.out) ⟨_,_,_,_,HH.out.ck.old HB3.out⟩,?_⟩
 clear hK Kv hb3
 repeat refine pO ?_
 refine oO fun Kv hK=>?_
 go_simp
 refine (Zjq (i:=⟨1,ia,ib⟩) HHW.out (HH.out.old HB3.out) hd (Zeu) (Zgd (by simp)) (pv1 rfl)).mono ?_
 exact k67
theorem Zjw (hop:i.op=12):
  Calls Tryz.prog 187 #[.pointer (some ⟨K,0,none⟩),.agg #[.int .i64 i.op,.int .i64 i.a,.int .i64 i.b]] w (ZhR w K h m lo lc ls oo oc bs (ZhO m ls i s)):=by
 obtain ⟨op,ia,ib⟩:=i
 dsimp only at hop
 subst hop
 have hb1:Below w.heap.size w ((w.alloc (.cells #[.pointer (some ⟨K,0,none⟩)] 211)).alloc (.cells #[.int .i64 12,.int .i64 ia,.int .i64 ib] 78)):=by exact bE
 have hbx:=(Blk.new w #[.pointer (some ⟨K,0,none⟩)] 211).alloc (.cells #[.int .i64 12,.int .i64 ia,.int .i64 ib] 78)
 have hbi:Blk ((w.alloc (.cells #[.pointer (some ⟨K,0,none⟩)] 211)).alloc (.cells #[.int .i64 12,.int .i64 ia,.int .i64 ib] 78)) (w.heap.size+1) #[.int .i64 12,.int .i64 ia,.int .i64 ib] 78:=Blk.new' (w:=w.alloc (.cells #[.pointer (some ⟨K,0,none⟩)] 211)) _ _ (by simp)
 have kl:=Blk.lt H.ck
 have H1:=H.old hb1
 have HD:=Zh (Zjq (i:=⟨12,ia,ib⟩) HW H1 hd ⟨ia,ib⟩ (Zgd (by simp)) (ZfW rfl))
 have HB1:=Zh hb1
 clear hb1 hbx hbi H1 H HM hlo HW hi hm
 go_enter Tryz.func187,Tryz.ntmps187
 exact k60
theorem s_2 (hop:i.op=2):
  Calls Tryz.prog 187 #[.pointer (some ⟨K,0,none⟩),.agg #[.int .i64 i.op,.int .i64 i.a,.int .i64 i.b]] w (ZhR w K h m lo lc ls oo oc bs (ZhO m ls i s)):=by
 obtain ⟨op,ia,ib⟩:=i
 dsimp only at hop
 subst hop
 have hb1:Below w.heap.size w ((w.alloc (.cells #[.pointer (some ⟨K,0,none⟩)] 211)).alloc (.cells #[.int .i64 2,.int .i64 ia,.int .i64 ib] 78)):=by exact bE
 have hbx:=(Blk.new w #[.pointer (some ⟨K,0,none⟩)] 211).alloc (.cells #[.int .i64 2,.int .i64 ia,.int .i64 ib] 78)
 have hbi:Blk ((w.alloc (.cells #[.pointer (some ⟨K,0,none⟩)] 211)).alloc (.cells #[.int .i64 2,.int .i64 ia,.int .i64 ib] 78)) (w.heap.size+1) #[.int .i64 2,.int .i64 ia,.int .i64 ib] 78:=Blk.new' (w:=w.alloc (.cells #[.pointer (some ⟨K,0,none⟩)] 211)) _ _ (by simp)
 have kl:=Blk.lt H.ck
 have H1:=H.old hb1
 have ha:=hi.a0 (by simp)
 dsimp only at ha
 have hl:=HW.1
 have hlen:=H.op.len
 have HCn:=Zh (Zfe K h m (.slice lo ls.length lc) so s.stk.length sc oo oc bs 0 0 1 _ H1.ck (Zar.of_own H1.op.own) (by omega) (by omega) (by omega) (by omega))
 have HB1:=Zh hb1
 have HH:=Zh H1
 have hbb:=ZhN H.op
 obtain ⟨q,hq⟩:∃ q,q=Zfd s.stk.length 0 1 (Ze4 bs):=⟨_,rfl⟩
 rw [←hq] at HCn
 have HQ:=Zh hq
 have HBB:=Zh hbb
 have HX:=Zh (And.intro hbx hbi)
 have HNT:=Zh H1.ck.noTy
 clear hb1 H HM hlo HW hi hm hbb hq hbx hbi H1
 rcases q with _|_
 ·go_enter Tryz.func187,Tryz.ntmps187
  go_wp2_with (go_at_call 255;refine HCn.out.mono ?_;rintro r w2 ⟨rfl,hc2,hu2⟩;have HU2:=Zh hu2;have HC2:=Zh hc2;clear hu2 hc2)
  go_end0
  refine ZhR.bel ⟨⟨_,rfl⟩,HU2.out,?_⟩ HB1.out
  have hm2:ZhO m ls ⟨2,ia,ib⟩ s=(12,s.stk):=by
   have h1:=HQ.out
   rw [HBB.out] at h1
   unfold ZhO
   rw [Zgd (by simp)]
   rw [if_pos (by
    have h2:=h1.symm
    simp only [Zfd,Bool.and_eq_false_iff,decide_eq_false_iff_not] at h2
    omega)]
  rw [hm2]
  exact ⟨so,sc,s.stk,HC2.out,HH.out.ts.upd HU2.out HNT.out HNT.out,by omega,fun h0=>by cases h0⟩
 ·go_enter Tryz.func187,Tryz.ntmps187
  go_upto_region 7 with fail
  go_wp2_with (go_at_call 255;refine HCn.out.mono ?_;rintro r w2 ⟨rfl,hc2,hu2⟩;have HU2:=Zh hu2;have HC2:=Zh (show Ck w2 K h m (.slice lo ls.length lc) (.slice so s.stk.length sc) (.slice oo bs.length oc) 0 from hc2);clear hu2 hc2;have cc:=(Blk.upd HX.out.1 HU2.out (by omega) (by omega)).cell 0 (v:=.pointer (some ⟨K,0,none⟩)) rfl;have i1:=(Blk.upd HX.out.2 HU2.out (by omega) (by omega)).cell 1 (v:=.int .i64 ia) rfl)
  have hsz:w.heap.size+1<w2.heap.size:=Zac i1
  have hS:∀ w',Upd K K w2 w'→(fun w':World=>w'.cell? ⟨w.heap.size,0,none⟩=some (.pointer (some ⟨K,0,none⟩))∧w'.cell? ⟨w.heap.size+1,1,none⟩=some (.int .i64 ia)) w':=fun w' hu=>⟨hu.cell cc (by show w.heap.size≠K;omega) (by show w.heap.size≠K;omega),hu.cell i1 (by show w.heap.size+1≠K;omega) (by show w.heap.size+1≠K;omega)⟩
  have HS:=Zh hS
  obtain ⟨⟨uk,uc⟩,hu⟩:∃ x:Ty,x=ls.getD ia.toNat default:=⟨_,rfl⟩
  obtain ⟨lb,hlb⟩:∃ x:Bool,x=decide (ia<ls.length):=⟨_,rfl⟩
  have HLo:=Zh (show ∀ w':World,Upd K K w2 w'→Ck w' K h m (.slice lo ls.length lc) (.slice so s.stk.length sc) (.slice oo bs.length oc) 0→Calls Tryz.prog 251 #[.pointer (some ⟨K,0,none⟩),.int .i64 ia] w' fun r w''=>r=.returned (.agg #[.int .i64 uk,.int .i64 uc])∧Ck w'' K h m (.slice lo ls.length lc) (.slice so s.stk.length sc) (.slice oo bs.length oc) (ZeT 0 lb)∧Upd K K w' w'' from fun w' hu' hc=>by
   have:=Zhu K h m (.slice so s.stk.length sc) (.slice oo bs.length oc) lo lc ls 0 ia w' hc ((HH.out.tl.upd HU2.out HNT.out HNT.out).upd hu' HC2.out.noTy HC2.out.noTy).1 ha
   rw [←hu,←hlb] at this
   exact this)
  have HPu:=Zh (show ∀ w':World,Upd K K w2 w'→Ck w' K h m (.slice lo ls.length lc) (.slice so s.stk.length sc) (.slice oo bs.length oc) (ZeT 0 lb)→Calls Tryz.prog 254 #[.pointer (some ⟨K,0,none⟩),.agg #[.int .i64 uk,.int .i64 uc]] w' fun r w''=>(∃ v,r=.returned v)∧Upd K K w' w''∧∃ so' sc',ZeP w'' so' sc' (s.stk++[⟨uk,uc⟩])∧Ck w'' K h m (.slice lo ls.length lc) (.slice so' (s.stk++[(⟨uk,uc⟩:Ty)]).length sc') (.slice oo bs.length oc) (ZeT 0 lb) from fun w' hu' hc=>by
   have hop':=(HH.out.op.upd HU2.out HNT.out HH.out.ne).upd hu' HC2.out.noTy HH.out.ne
   refine (Zjp K h m (.slice lo ls.length lc) so sc s.stk oo oc bs (ZeT 0 lb) ⟨uk,uc⟩ w' hc ((HH.out.ts.upd HU2.out HNT.out HNT.out).upd hu' HC2.out.noTy HC2.out.noTy) (by omega) (Zar.of_own hop'.own) (by omega)).mono ?_
   rintro r w'' ⟨h1,h2,h3⟩
   refine ⟨h1,h2,?_⟩
   rcases h3 with ⟨h3,_⟩|⟨_,h3⟩
   ·have h9:=HQ.out;rw [h3] at h9;cases h9
   ·exact h3)
  have HLu:=Zh hu
  have HLb:=Zh hlb
  clear hS cc i1 hu hlb
  refine rO (fun w':World=>w'.cell? ⟨w.heap.size,0,none⟩=some (.pointer (some ⟨K,0,none⟩))∧w'.cell? ⟨w.heap.size+1,1,none⟩=some (.int .i64 ia)) (oL [0,1,2,3,104,105]) (HS.out _ (Upd.refl K K w2).drew) ?_
  repeat refine pO ?_
  refine oO fun Kv hK=>?_
  go_simp
  refine (HLo.out _ (Upd.refl K K w2).drew (Ck.drew HC2.out)).mono ?_
  rintro r w3 ⟨rfl,hc3,hu3⟩
  have HU3:=Zh ((Upd.refl K K w2).drew.trans hu3)
  have HC3:=Zh hc3
  refine hK _ _ ⟨HS.out _ HU3.out,?_⟩
  clear hK Kv hc3 hu3
  repeat refine pO ?_
  refine oO fun Kv hK=>?_
  go_simp
  refine (HPu.out _ HU3.out HC3.out).mono ?_
  rintro r w4 ⟨⟨v4,rfl⟩,hu4,hd4⟩
  have HU4:=Zh (HU3.out.trans hu4)
  have HD4:=Zh hd4
  refine hK _ _ ⟨HS.out _ HU4.out,?_⟩
  clear hK Kv hu4 hd4
  refine Zd5 ?_
  go_wp2
  go_end0
  refine ZhR.bel ⟨⟨_,rfl⟩,HU2.out.trans HU4.out,?_⟩ HB1.out
  obtain ⟨so',sc',ht,hc⟩:=HD4.out
  have hm2:ZhO m ls ⟨2,ia,ib⟩ s=if ia<ls.length then (0,s.stk++[⟨uk,uc⟩]) else (11,s.stk):=by
   have h1:=HQ.out
   rw [HBB.out] at h1
   unfold ZhO
   rw [Zgd (by simp),pv2 (by rfl)]
   rw [if_neg (by
    have h2:=h1.symm
    simp only [Zfd,Bool.and_eq_true,decide_eq_true_eq] at h2
    omega)]
   dsimp only
   by_cases hlt:ia<ls.length
   ·rw [if_pos hlt,getD_some (by omega),←HLu.out]
    simp
   ·rw [if_neg hlt,List.getElem?_eq_none (by omega)]
  rw [hm2]
  have hlb:=HLb.out
  by_cases hlt:ia<ls.length
  ·rw [if_pos hlt]
   rw [decide_eq_true hlt] at hlb
   subst hlb
   exact ⟨so',sc',_,hc,ht,by simp;omega,fun _=>rfl⟩
  ·rw [if_neg hlt]
   rw [decide_eq_false hlt] at hlb
   subst hlb
   exact ⟨so',sc',_,hc,ht,by simp;omega,fun h0=>by cases h0⟩
end
end
section
open Go.RowKit
section
variable {w0 w:World}{K:Nat}{h:Hd}{m:Md}{lo:Option Addr}{lc:Nat}{ls:List Ty}{s:Ps}{so:Option Addr}{sc:Nat}{oo:Option Addr}{oc:Nat}{bs:List VB}{i:In3}{k:Nat}(hm:Za1 m=true)(hlo:∀ t∈ls,Zfi m t)(HW:Zfj m s.stk)(H:St w0 w K h m lo lc ls s so sc oo oc bs)(HM:Zay w0 h m)(hd:s.opn.length≤6)(hi:ZfR m k i)
include w0 w K h m lo lc ls s so sc oo oc bs i k hm hlo HW H HM hd hi
theorem Zjx (hop:i.op=17):
  Calls Tryz.prog 262 #[.pointer (some ⟨K,0,none⟩),.agg #[.int .i64 i.op,.int .i64 i.a,.int .i64 i.b]] w (ZhR w K h m lo lc ls oo oc bs (ZhO m ls i s)):=by
 obtain ⟨op,ia,ib⟩:=i
 dsimp only at hop
 subst hop
 have hb1:Below w.heap.size w ((w.alloc (.cells #[.pointer (some ⟨K,0,none⟩)] 211)).alloc (.cells #[.int .i64 17,.int .i64 ia,.int .i64 ib] 78)):=by exact bE
 have hbx:=(Blk.new w #[.pointer (some ⟨K,0,none⟩)] 211).alloc (.cells #[.int .i64 17,.int .i64 ia,.int .i64 ib] 78)
 have hbi:Blk ((w.alloc (.cells #[.pointer (some ⟨K,0,none⟩)] 211)).alloc (.cells #[.int .i64 17,.int .i64 ia,.int .i64 ib] 78)) (w.heap.size+1) #[.int .i64 17,.int .i64 ia,.int .i64 ib] 78:=Blk.new' (w:=w.alloc (.cells #[.pointer (some ⟨K,0,none⟩)] 211)) _ _ (by simp)
 have kl:=Blk.lt H.ck
 have H1:=H.old hb1
 have HD:=Zh (ZhX (i:=⟨17,ia,ib⟩) HW H1 hd 1 1 322 #[.pointer (some ⟨w.heap.size,0,none⟩),.pointer (some ⟨w.heap.size+1,0,none⟩)] (Zgh (by simp)) (by decide) (by decide) (fun _ _=>rfl) (fun l hl hdr w1 to' tc hu hck hown=>by
  obtain ⟨a,rfl⟩:=one_of hl
  have ha:=HW.2 a (List.mem_of_mem_drop (by rw [hdr];simp))
  have hHM:∀ w',Upd K K w1 w'→Zay w' h m:=fun w' hu'=>HM.old ((hu.trans hu').below H1.hb (Nat.le_refl _) H1.hK H1.hK)
  have hx1:=Blk.upd hbx hu (by omega) (by omega)
  have hi1:=Blk.upd hbi hu (by omega) (by omega)
  have hT:=H1.tl.upd hu H1.ck.noTy H1.ck.noTy
  refine (Zh9 K h m _ _ _ a 17 ia ib to' tc _ w.heap.size (w.heap.size+1) w1 hck hHM hx1 hi1 hown (hi.a0 (by simp)) (fun hk=>ZfF ha (.inl hk))).mono ?_
  exact fun r w2 hp=>hp.imp fun out e' hq=>by obtain ⟨h1,h2⟩:=hq;rw [h1,h2];exact ZiI rfl))
 exact k28
theorem Zjy (hop:i.op=18):
  Calls Tryz.prog 262 #[.pointer (some ⟨K,0,none⟩),.agg #[.int .i64 i.op,.int .i64 i.a,.int .i64 i.b]] w (ZhR w K h m lo lc ls oo oc bs (ZhO m ls i s)):=by
 obtain ⟨op,ia,ib⟩:=i
 dsimp only at hop
 subst hop
 have hb1:Below w.heap.size w ((w.alloc (.cells #[.pointer (some ⟨K,0,none⟩)] 211)).alloc (.cells #[.int .i64 18,.int .i64 ia,.int .i64 ib] 78)):=by exact bE
 have hbx:=(Blk.new w #[.pointer (some ⟨K,0,none⟩)] 211).alloc (.cells #[.int .i64 18,.int .i64 ia,.int .i64 ib] 78)
 have hbi:Blk ((w.alloc (.cells #[.pointer (some ⟨K,0,none⟩)] 211)).alloc (.cells #[.int .i64 18,.int .i64 ia,.int .i64 ib] 78)) (w.heap.size+1) #[.int .i64 18,.int .i64 ia,.int .i64 ib] 78:=Blk.new' (w:=w.alloc (.cells #[.pointer (some ⟨K,0,none⟩)] 211)) _ _ (by simp)
 have kl:=Blk.lt H.ck
 have H1:=H.old hb1
 have HD:=Zh (ZhX (i:=⟨18,ia,ib⟩) HW H1 hd 2 0 324 #[.pointer (some ⟨w.heap.size,0,none⟩),.pointer (some ⟨w.heap.size+1,0,none⟩)] (Zgi rfl) (by decide) (by decide) (fun _ _=>rfl) (fun l hl hdr w1 to' tc hu hck hown=>by
  obtain ⟨a,b,rfl⟩:=ZiY hl
  have ha:=HW.2 a (List.mem_of_mem_drop (by rw [hdr];simp))
  have hb:=HW.2 b (List.mem_of_mem_drop (by rw [hdr];simp))
  have hHM:∀ w',Upd K K w1 w'→Zay w' h m:=fun w' hu'=>HM.old ((hu.trans hu').below H1.hb (Nat.le_refl _) H1.hK H1.hK)
  have hx1:=Blk.upd hbx hu (by omega) (by omega)
  have hi1:=Blk.upd hbi hu (by omega) (by omega)
  have hT:=H1.tl.upd hu H1.ck.noTy H1.ck.noTy
  refine (Zia K h m _ _ _ a b 18 ia ib to' tc _ w.heap.size (w.heap.size+1) w1 hck hHM hx1 hi1 hown (hi.a0 (by simp)) (fun hk=>ZfF ha (.inl hk))).mono ?_
  exact fun r w2 hp=>hp.imp fun out e' hq=>by obtain ⟨h1,h2⟩:=hq;rw [h1,h2];exact ZiL hm ha hb rfl))
 exact k28
theorem Zjz (hop:i.op=19):
  Calls Tryz.prog 262 #[.pointer (some ⟨K,0,none⟩),.agg #[.int .i64 i.op,.int .i64 i.a,.int .i64 i.b]] w (ZhR w K h m lo lc ls oo oc bs (ZhO m ls i s)):=by
 obtain ⟨op,ia,ib⟩:=i
 dsimp only at hop
 subst hop
 have hb1:Below w.heap.size w ((w.alloc (.cells #[.pointer (some ⟨K,0,none⟩)] 211)).alloc (.cells #[.int .i64 19,.int .i64 ia,.int .i64 ib] 78)):=by exact bE
 have hbx:=(Blk.new w #[.pointer (some ⟨K,0,none⟩)] 211).alloc (.cells #[.int .i64 19,.int .i64 ia,.int .i64 ib] 78)
 have hbi:Blk ((w.alloc (.cells #[.pointer (some ⟨K,0,none⟩)] 211)).alloc (.cells #[.int .i64 19,.int .i64 ia,.int .i64 ib] 78)) (w.heap.size+1) #[.int .i64 19,.int .i64 ia,.int .i64 ib] 78:=Blk.new' (w:=w.alloc (.cells #[.pointer (some ⟨K,0,none⟩)] 211)) _ _ (by simp)
 have kl:=Blk.lt H.ck
 have H1:=H.old hb1
 have HD:=Zh (ZhX (i:=⟨19,ia,ib⟩) HW H1 hd 2 1 325 #[.pointer (some ⟨w.heap.size,0,none⟩)] (Zgg (by simp)) (by decide) (by decide) (fun _ _=>rfl) (fun l hl hdr w1 to' tc hu hck hown=>by
  obtain ⟨a,b,rfl⟩:=ZiY hl
  have ha:=HW.2 a (List.mem_of_mem_drop (by rw [hdr];simp))
  have hb:=HW.2 b (List.mem_of_mem_drop (by rw [hdr];simp))
  have hHM:∀ w',Upd K K w1 w'→Zay w' h m:=fun w' hu'=>HM.old ((hu.trans hu').below H1.hb (Nat.le_refl _) H1.hK H1.hK)
  have hx1:=Blk.upd hbx hu (by omega) (by omega)
  have hi1:=Blk.upd hbi hu (by omega) (by omega)
  have hT:=H1.tl.upd hu H1.ck.noTy H1.ck.noTy
  refine (Zib K h m _ _ _ a b 0 0 0 to' tc _ w.heap.size 0 w1 hck hx1 hown).mono ?_
  exact fun r w2 hp=>hp.imp fun out e' hq=>by obtain ⟨h1,h2⟩:=hq;rw [h1,h2];exact ZiM rfl))
 exact k28
theorem ZjA (hop:i.op=20):
  Calls Tryz.prog 262 #[.pointer (some ⟨K,0,none⟩),.agg #[.int .i64 i.op,.int .i64 i.a,.int .i64 i.b]] w (ZhR w K h m lo lc ls oo oc bs (ZhO m ls i s)):=by
 obtain ⟨op,ia,ib⟩:=i
 dsimp only at hop
 subst hop
 have hb1:Below w.heap.size w ((w.alloc (.cells #[.pointer (some ⟨K,0,none⟩)] 211)).alloc (.cells #[.int .i64 20,.int .i64 ia,.int .i64 ib] 78)):=by exact bE
 have hbx:=(Blk.new w #[.pointer (some ⟨K,0,none⟩)] 211).alloc (.cells #[.int .i64 20,.int .i64 ia,.int .i64 ib] 78)
 have hbi:Blk ((w.alloc (.cells #[.pointer (some ⟨K,0,none⟩)] 211)).alloc (.cells #[.int .i64 20,.int .i64 ia,.int .i64 ib] 78)) (w.heap.size+1) #[.int .i64 20,.int .i64 ia,.int .i64 ib] 78:=Blk.new' (w:=w.alloc (.cells #[.pointer (some ⟨K,0,none⟩)] 211)) _ _ (by simp)
 have kl:=Blk.lt H.ck
 have H1:=H.old hb1
 have HD:=Zh (ZhX (i:=⟨20,ia,ib⟩) HW H1 hd 3 0 327 #[.pointer (some ⟨w.heap.size,0,none⟩)] (Zgj rfl) (by decide) (by decide) (fun _ _=>rfl) (fun l hl hdr w1 to' tc hu hck hown=>by
  obtain ⟨a,b,d,rfl⟩:=ZiZ hl
  have ha:=HW.2 a (List.mem_of_mem_drop (by rw [hdr];simp))
  have hb:=HW.2 b (List.mem_of_mem_drop (by rw [hdr];simp))
  have hd':=HW.2 d (List.mem_of_mem_drop (by rw [hdr];simp))
  have hHM:∀ w',Upd K K w1 w'→Zay w' h m:=fun w' hu'=>HM.old ((hu.trans hu').below H1.hb (Nat.le_refl _) H1.hK H1.hK)
  have hx1:=Blk.upd hbx hu (by omega) (by omega)
  have hi1:=Blk.upd hbi hu (by omega) (by omega)
  have hT:=H1.tl.upd hu H1.ck.noTy H1.ck.noTy
  refine (Zic K h m _ _ _ a b d 0 0 0 to' tc _ w.heap.size 0 w1 hck hHM hx1 hown).mono ?_
  exact fun r w2 hp=>hp.imp fun out e' hq=>by obtain ⟨h1,h2⟩:=hq;rw [h1,h2];exact ZiN hm ha hd' rfl))
 exact k28
theorem ZjB (hop:i.op=21):
  Calls Tryz.prog 262 #[.pointer (some ⟨K,0,none⟩),.agg #[.int .i64 i.op,.int .i64 i.a,.int .i64 i.b]] w (ZhR w K h m lo lc ls oo oc bs (ZhO m ls i s)):=by
 obtain ⟨op,ia,ib⟩:=i
 dsimp only at hop
 subst hop
 have hb1:Below w.heap.size w ((w.alloc (.cells #[.pointer (some ⟨K,0,none⟩)] 211)).alloc (.cells #[.int .i64 21,.int .i64 ia,.int .i64 ib] 78)):=by exact bE
 have hbx:=(Blk.new w #[.pointer (some ⟨K,0,none⟩)] 211).alloc (.cells #[.int .i64 21,.int .i64 ia,.int .i64 ib] 78)
 have hbi:Blk ((w.alloc (.cells #[.pointer (some ⟨K,0,none⟩)] 211)).alloc (.cells #[.int .i64 21,.int .i64 ia,.int .i64 ib] 78)) (w.heap.size+1) #[.int .i64 21,.int .i64 ia,.int .i64 ib] 78:=Blk.new' (w:=w.alloc (.cells #[.pointer (some ⟨K,0,none⟩)] 211)) _ _ (by simp)
 have kl:=Blk.lt H.ck
 have H1:=H.old hb1
 have HD:=Zh (ZhX (i:=⟨21,ia,ib⟩) HW H1 hd 1 1 328 #[.pointer (some ⟨w.heap.size,0,none⟩)] (Zgh (by simp)) (by decide) (by decide) (fun _ _=>rfl) (fun l hl hdr w1 to' tc hu hck hown=>by
  obtain ⟨a,rfl⟩:=one_of hl
  have ha:=HW.2 a (List.mem_of_mem_drop (by rw [hdr];simp))
  have hHM:∀ w',Upd K K w1 w'→Zay w' h m:=fun w' hu'=>HM.old ((hu.trans hu').below H1.hb (Nat.le_refl _) H1.hK H1.hK)
  have hx1:=Blk.upd hbx hu (by omega) (by omega)
  have hi1:=Blk.upd hbi hu (by omega) (by omega)
  have hT:=H1.tl.upd hu H1.ck.noTy H1.ck.noTy
  refine (Zid K h m _ _ _ a 0 0 0 to' tc _ w.heap.size 0 w1 hck hx1 hown).mono ?_
  exact fun r w2 hp=>hp.imp fun out e' hq=>by obtain ⟨h1,h2⟩:=hq;rw [h1,h2];exact ZiO rfl))
 exact k28
theorem ZjC (hop:i.op=23):
  Calls Tryz.prog 262 #[.pointer (some ⟨K,0,none⟩),.agg #[.int .i64 i.op,.int .i64 i.a,.int .i64 i.b]] w (ZhR w K h m lo lc ls oo oc bs (ZhO m ls i s)):=by
 obtain ⟨op,ia,ib⟩:=i
 dsimp only at hop
 subst hop
 have hb1:Below w.heap.size w ((w.alloc (.cells #[.pointer (some ⟨K,0,none⟩)] 211)).alloc (.cells #[.int .i64 23,.int .i64 ia,.int .i64 ib] 78)):=by exact bE
 have hbx:=(Blk.new w #[.pointer (some ⟨K,0,none⟩)] 211).alloc (.cells #[.int .i64 23,.int .i64 ia,.int .i64 ib] 78)
 have hbi:Blk ((w.alloc (.cells #[.pointer (some ⟨K,0,none⟩)] 211)).alloc (.cells #[.int .i64 23,.int .i64 ia,.int .i64 ib] 78)) (w.heap.size+1) #[.int .i64 23,.int .i64 ia,.int .i64 ib] 78:=Blk.new' (w:=w.alloc (.cells #[.pointer (some ⟨K,0,none⟩)] 211)) _ _ (by simp)
 have kl:=Blk.lt H.ck
 have H1:=H.old hb1
 have HD:=Zh (ZhX (i:=⟨23,ia,ib⟩) HW H1 hd 1 0 329 #[.pointer (some ⟨w.heap.size,0,none⟩),.pointer (some ⟨w.heap.size+1,0,none⟩)] (Zge (by simp)) (by decide) (by decide) (fun _ _=>rfl) (fun l hl hdr w1 to' tc hu hck hown=>by
  obtain ⟨a,rfl⟩:=one_of hl
  have ha:=HW.2 a (List.mem_of_mem_drop (by rw [hdr];simp))
  have hHM:∀ w',Upd K K w1 w'→Zay w' h m:=fun w' hu'=>HM.old ((hu.trans hu').below H1.hb (Nat.le_refl _) H1.hK H1.hK)
  have hx1:=Blk.upd hbx hu (by omega) (by omega)
  have hi1:=Blk.upd hbi hu (by omega) (by omega)
  have hT:=H1.tl.upd hu H1.ck.noTy H1.ck.noTy
  refine (Zja K h m _ _ _ a 23 ia ib to' tc _ w.heap.size (w.heap.size+1) w1 hck hHM hx1 hi1 hown (hi.a0 (by simp)) (hi.o22 (.inr rfl))).mono ?_
  exact fun r w2 hp=>hp.imp fun out e' hq=>by obtain ⟨h1,h2⟩:=hq;rw [h1,h2];exact ZiP hm ha rfl (hi.a0 (by simp)) (hi.o22 (.inr rfl))))
 exact k28
theorem ZjD (hop:i.op=24):
  Calls Tryz.prog 262 #[.pointer (some ⟨K,0,none⟩),.agg #[.int .i64 i.op,.int .i64 i.a,.int .i64 i.b]] w (ZhR w K h m lo lc ls oo oc bs (ZhO m ls i s)):=by
 obtain ⟨op,ia,ib⟩:=i
 dsimp only at hop
 subst hop
 have hb1:Below w.heap.size w ((w.alloc (.cells #[.pointer (some ⟨K,0,none⟩)] 211)).alloc (.cells #[.int .i64 24,.int .i64 ia,.int .i64 ib] 78)):=by exact bE
 have hbx:=(Blk.new w #[.pointer (some ⟨K,0,none⟩)] 211).alloc (.cells #[.int .i64 24,.int .i64 ia,.int .i64 ib] 78)
 have hbi:Blk ((w.alloc (.cells #[.pointer (some ⟨K,0,none⟩)] 211)).alloc (.cells #[.int .i64 24,.int .i64 ia,.int .i64 ib] 78)) (w.heap.size+1) #[.int .i64 24,.int .i64 ia,.int .i64 ib] 78:=Blk.new' (w:=w.alloc (.cells #[.pointer (some ⟨K,0,none⟩)] 211)) _ _ (by simp)
 have kl:=Blk.lt H.ck
 have H1:=H.old hb1
 have HD:=Zh (ZhX (i:=⟨24,ia,ib⟩) HW H1 hd 1 1 330 #[.pointer (some ⟨w.heap.size+1,0,none⟩),.pointer (some ⟨w.heap.size,0,none⟩)] (Zgh (by simp)) (by decide) (by decide) (fun _ _=>rfl) (fun l hl hdr w1 to' tc hu hck hown=>by
  obtain ⟨a,rfl⟩:=one_of hl
  have ha:=HW.2 a (List.mem_of_mem_drop (by rw [hdr];simp))
  have hHM:∀ w',Upd K K w1 w'→Zay w' h m:=fun w' hu'=>HM.old ((hu.trans hu').below H1.hb (Nat.le_refl _) H1.hK H1.hK)
  have hx1:=Blk.upd hbx hu (by omega) (by omega)
  have hi1:=Blk.upd hbi hu (by omega) (by omega)
  have hT:=H1.tl.upd hu H1.ck.noTy H1.ck.noTy
  by_cases hk:a.k=2
  ·by_cases hf:Zho m a ⟨2,ia⟩=true
   ·refine (Zjc K h m _ _ _ a 24 ia ib to' tc _ w.heap.size (w.heap.size+1) w1 hck hHM hx1 hi1 hown hk hf).mono ?_
    exact fun r w2 hp=>hp.imp fun out e' hq=>by obtain ⟨h1,h2⟩:=hq;rw [h1];exact ZiQ hm ha rfl (hi.a0 (by simp)) (hi.o14 (.inr rfl)) (by rw [h2,if_pos hk,if_pos hf])
   ·refine (Zjd K h m _ _ _ a 24 ia ib to' tc _ w.heap.size (w.heap.size+1) w1 hck hHM hx1 hi1 hown hk (by simpa using hf)).mono ?_
    exact fun r w2 hp=>hp.imp fun out e' hq=>by obtain ⟨h1,h2⟩:=hq;rw [h1];exact ZiQ hm ha rfl (hi.a0 (by simp)) (hi.o14 (.inr rfl)) (by rw [h2,if_pos hk,if_neg hf])
  ·refine (Zjb K h m _ _ _ a 24 ia ib to' tc _ w.heap.size (w.heap.size+1) w1 hck hHM hx1 hi1 hown hk).mono ?_
   exact fun r w2 hp=>hp.imp fun out e' hq=>by obtain ⟨h1,h2⟩:=hq;rw [h1];exact ZiQ hm ha rfl (hi.a0 (by simp)) (hi.o14 (.inr rfl)) (by rw [h2,if_neg hk])))
 exact k28
theorem ZjE (hop:i.op=14):
  Calls Tryz.prog 262 #[.pointer (some ⟨K,0,none⟩),.agg #[.int .i64 i.op,.int .i64 i.a,.int .i64 i.b]] w (ZhR w K h m lo lc ls oo oc bs (ZhO m ls i s)):=by
 obtain ⟨op,ia,ib⟩:=i
 dsimp only at hop
 subst hop
 have hb1:Below w.heap.size w ((w.alloc (.cells #[.pointer (some ⟨K,0,none⟩)] 211)).alloc (.cells #[.int .i64 14,.int .i64 ia,.int .i64 ib] 78)):=by exact bE
 have hbx:=(Blk.new w #[.pointer (some ⟨K,0,none⟩)] 211).alloc (.cells #[.int .i64 14,.int .i64 ia,.int .i64 ib] 78)
 have hbi:Blk ((w.alloc (.cells #[.pointer (some ⟨K,0,none⟩)] 211)).alloc (.cells #[.int .i64 14,.int .i64 ia,.int .i64 ib] 78)) (w.heap.size+1) #[.int .i64 14,.int .i64 ia,.int .i64 ib] 78:=Blk.new' (w:=w.alloc (.cells #[.pointer (some ⟨K,0,none⟩)] 211)) _ _ (by simp)
 have kl:=Blk.lt H.ck
 have H1:=H.old hb1
 have HB1:=Zh hb1
 have HH:=Zh H1
 have cc:=hbx.cell 0 (v:=.pointer (some ⟨K,0,none⟩)) rfl
 have i1:=hbi.cell 1 (v:=.int .i64 ia) rfl
 have hS:∀ w',Upd K K ((w.alloc (.cells #[.pointer (some ⟨K,0,none⟩)] 211)).alloc (.cells #[.int .i64 14,.int .i64 ia,.int .i64 ib] 78)) w'→(∃ L S O e,Ck w' K h m L S O e)→(fun w':World=>w'.cell? ⟨w.heap.size,0,none⟩=some (.pointer (some ⟨K,0,none⟩))∧w'.cell? ⟨w.heap.size+1,1,none⟩=some (.int .i64 ia)) w':=fun w' hu hc=>⟨hu.cell cc (by show w.heap.size≠K;omega) (by show w.heap.size≠K;omega),hu.cell i1 (by show w.heap.size+1≠K;omega) (by show w.heap.size+1≠K;omega)⟩
 have HS:=Zh hS
 have HHM:=Zh HM
 obtain ⟨W1,hW1⟩:∃ W1,W1=((w.alloc (.cells #[.pointer (some ⟨K,0,none⟩)] 211)).alloc (.cells #[.int .i64 14,.int .i64 ia,.int .i64 ib] 78)):=⟨_,rfl⟩
 rw [←hW1] at HS HH HB1
 have HW1:=Zh hW1
 have HHW:=Zh HW
 have HI:=Zh hi
 have HHm:=Zh hm
 have HLo:=Zh hlo
 clear hb1 hbx hbi H1 H HM hlo HW hi hm cc i1 hS hW1
 go_enter Tryz.func262,Tryz.ntmps262
 go_wp2_with fail
 refine rO (fun w':World=>w'.cell? ⟨w.heap.size,0,none⟩=some (.pointer (some ⟨K,0,none⟩))∧w'.cell? ⟨w.heap.size+1,1,none⟩=some (.int .i64 ia)) (oL [0,1,2,103,104]) (HW1.out▸HS.out _ (Upd.refl K K W1).drew ⟨_,_,_,_,Ck.drew HH.out.ck⟩) ?_
 rw [←HW1.out]
 have HB2:=Zh (show Below W1.heap.size W1 W1.drew by exact bE)
 repeat refine pO ?_
 refine oO fun Kv hK=>?_
 go_simp
 refine (Zhn _ _).mono ?_
 rintro r w3 ⟨rfl,hb3⟩
 have HB3:=Zh (Zaf HB2.out hb3)
 refine hK _ _ ⟨HS.out _ (Upd.of HB3.out) ⟨_,_,_,_,HH.out.ck.old HB3.out⟩,?_⟩
 clear hK Kv hb3
 repeat refine pO ?_
 refine oO fun Kv hK=>?_
 go_simp
 refine (Zjq (i:=⟨14,ia,ib⟩) HHW.out (HH.out.old HB3.out) hd (⟨2,ia⟩) (Zgd (by simp)) (ZfY rfl)).mono ?_
 exact k67
theorem ZjF (hop:i.op=15):
  Calls Tryz.prog 262 #[.pointer (some ⟨K,0,none⟩),.agg #[.int .i64 i.op,.int .i64 i.a,.int .i64 i.b]] w (ZhR w K h m lo lc ls oo oc bs (ZhO m ls i s)):=by
 obtain ⟨op,ia,ib⟩:=i
 dsimp only at hop
 subst hop
 have hb1:Below w.heap.size w ((w.alloc (.cells #[.pointer (some ⟨K,0,none⟩)] 211)).alloc (.cells #[.int .i64 15,.int .i64 ia,.int .i64 ib] 78)):=by exact bE
 have hbx:=(Blk.new w #[.pointer (some ⟨K,0,none⟩)] 211).alloc (.cells #[.int .i64 15,.int .i64 ia,.int .i64 ib] 78)
 have hbi:Blk ((w.alloc (.cells #[.pointer (some ⟨K,0,none⟩)] 211)).alloc (.cells #[.int .i64 15,.int .i64 ia,.int .i64 ib] 78)) (w.heap.size+1) #[.int .i64 15,.int .i64 ia,.int .i64 ib] 78:=Blk.new' (w:=w.alloc (.cells #[.pointer (some ⟨K,0,none⟩)] 211)) _ _ (by simp)
 have kl:=Blk.lt H.ck
 have H1:=H.old hb1
 have HB1:=Zh hb1
 have HH:=Zh H1
 have cc:=hbx.cell 0 (v:=.pointer (some ⟨K,0,none⟩)) rfl
 have i1:=hbi.cell 1 (v:=.int .i64 ia) rfl
 have hS:∀ w',Upd K K ((w.alloc (.cells #[.pointer (some ⟨K,0,none⟩)] 211)).alloc (.cells #[.int .i64 15,.int .i64 ia,.int .i64 ib] 78)) w'→(∃ L S O e,Ck w' K h m L S O e)→(fun w':World=>w'.cell? ⟨w.heap.size,0,none⟩=some (.pointer (some ⟨K,0,none⟩))) w':=fun w' hu hc=>hu.cell cc (by show w.heap.size≠K;omega) (by show w.heap.size≠K;omega)
 have HS:=Zh hS
 have HHM:=Zh HM
 obtain ⟨W1,hW1⟩:∃ W1,W1=((w.alloc (.cells #[.pointer (some ⟨K,0,none⟩)] 211)).alloc (.cells #[.int .i64 15,.int .i64 ia,.int .i64 ib] 78)):=⟨_,rfl⟩
 rw [←hW1] at HS HH HB1
 have HW1:=Zh hW1
 have HHW:=Zh HW
 have HI:=Zh hi
 have HHm:=Zh hm
 have HLo:=Zh hlo
 clear hb1 hbx hbi H1 H HM hlo HW hi hm cc i1 hS hW1
 go_enter Tryz.func262,Tryz.ntmps262
 go_wp2_with fail
 refine rO (fun w':World=>w'.cell? ⟨w.heap.size,0,none⟩=some (.pointer (some ⟨K,0,none⟩))) (oL [0,101,102]) (HW1.out▸HS.out _ (Upd.refl K K W1).drew ⟨_,_,_,_,Ck.drew HH.out.ck⟩) ?_
 rw [←HW1.out]
 have HB2:=Zh (show Below W1.heap.size W1 W1.drew by exact bE)
 repeat refine pO ?_
 refine oO fun Kv hK=>?_
 go_simp
 refine (Zhm _).mono ?_
 rintro r w3 ⟨rfl,hb3⟩
 have HB3:=Zh (Zaf HB2.out hb3)
 refine hK _ _ ⟨HS.out _ (Upd.of HB3.out) ⟨_,_,_,_,HH.out.ck.old HB3.out⟩,?_⟩
 clear hK Kv hb3
 repeat refine pO ?_
 refine oO fun Kv hK=>?_
 go_simp
 refine (Zjq (i:=⟨15,ia,ib⟩) HHW.out (HH.out.old HB3.out) hd (⟨3,0⟩) (Zgd (by simp)) (ZfZ rfl)).mono ?_
 exact k67
theorem ZjG (hop:i.op=16):
  Calls Tryz.prog 262 #[.pointer (some ⟨K,0,none⟩),.agg #[.int .i64 i.op,.int .i64 i.a,.int .i64 i.b]] w (ZhR w K h m lo lc ls oo oc bs (ZhO m ls i s)):=by
 obtain ⟨op,ia,ib⟩:=i
 dsimp only at hop
 subst hop
 have hb1:Below w.heap.size w ((w.alloc (.cells #[.pointer (some ⟨K,0,none⟩)] 211)).alloc (.cells #[.int .i64 16,.int .i64 ia,.int .i64 ib] 78)):=by exact bE
 have hbx:=(Blk.new w #[.pointer (some ⟨K,0,none⟩)] 211).alloc (.cells #[.int .i64 16,.int .i64 ia,.int .i64 ib] 78)
 have hbi:Blk ((w.alloc (.cells #[.pointer (some ⟨K,0,none⟩)] 211)).alloc (.cells #[.int .i64 16,.int .i64 ia,.int .i64 ib] 78)) (w.heap.size+1) #[.int .i64 16,.int .i64 ia,.int .i64 ib] 78:=Blk.new' (w:=w.alloc (.cells #[.pointer (some ⟨K,0,none⟩)] 211)) _ _ (by simp)
 have kl:=Blk.lt H.ck
 have H1:=H.old hb1
 have HD:=Zh (Zjq (i:=⟨16,ia,ib⟩) HW H1 hd ⟨4,ib⟩ (Zgd (by simp)) (Zf0 rfl))
 have HB1:=Zh hb1
 clear hb1 hbx hbi H1 H HM hlo HW hi hm
 go_enter Tryz.func262,Tryz.ntmps262
 exact k60
theorem ZjH (hop:i.op=22):
  Calls Tryz.prog 262 #[.pointer (some ⟨K,0,none⟩),.agg #[.int .i64 i.op,.int .i64 i.a,.int .i64 i.b]] w (ZhR w K h m lo lc ls oo oc bs (ZhO m ls i s)):=by
 obtain ⟨op,ia,ib⟩:=i
 dsimp only at hop
 subst hop
 have ha0:=hi.a0 (by simp)
 dsimp only at ha0
 obtain ⟨ia,rfl⟩:∃ d:Nat,ia=d:=⟨ia.toNat,by omega⟩
 have hb1:Below w.heap.size w ((w.alloc (.cells #[.pointer (some ⟨K,0,none⟩)] 211)).alloc (.cells #[.int .i64 22,.int .i64 ia,.int .i64 ib] 78)):=by exact bE
 have hbx:=(Blk.new w #[.pointer (some ⟨K,0,none⟩)] 211).alloc (.cells #[.int .i64 22,.int .i64 ia,.int .i64 ib] 78)
 have hbi:Blk ((w.alloc (.cells #[.pointer (some ⟨K,0,none⟩)] 211)).alloc (.cells #[.int .i64 22,.int .i64 ia,.int .i64 ib] 78)) (w.heap.size+1) #[.int .i64 22,.int .i64 ia,.int .i64 ib] 78:=Blk.new' (w:=w.alloc (.cells #[.pointer (some ⟨K,0,none⟩)] 211)) _ _ (by simp)
 have kl:=Blk.lt H.ck
 have H1:=H.old hb1
 have hin:=hi.o22 (.inl rfl)
 dsimp only at hin
 have hi':ia<m.st.length:=by omega
 have hMo:∀ w',Upd K K ((w.alloc (.cells #[.pointer (some ⟨K,0,none⟩)] 211)).alloc (.cells #[.int .i64 22,.int .i64 ia,.int .i64 ib] 78)) w'→Zay w' h m:=fun w' hu'=>HM.old (hu'.below H1.hb (Nat.le_refl _) H1.hK H1.hK)
 obtain ⟨⟨uk,uc⟩,hlu⟩:∃ x:Ty,x=m.st.getD ia default:=⟨_,rfl⟩
 obtain ⟨sa,hso,-,-⟩:=Zaz (hMo _ (Upd.refl K K _)).st hi'
 have hst:∀ w',Upd K K ((w.alloc (.cells #[.pointer (some ⟨K,0,none⟩)] 211)).alloc (.cells #[.int .i64 22,.int .i64 ia,.int .i64 ib] 78)) w'→w'.cell? (sa.add (ia*2))=some (.int .i64 uk)∧w'.cell? ⟨(sa.add (ia*2)).block,(sa.add (ia*2)).off+1,none⟩=some (.int .i64 uc):=fun w' hu=>by
  obtain ⟨ad,h1,h2,h3⟩:=Zaz (hMo w' hu).st hi'
  rw [hso] at h1
  cases h1
  rw [←hlu] at h2 h3
  exact ⟨h2,h3⟩
 have hk1:∀ w',(∃ L S O e,Ck w' K h m L S O e)→w'.cell? ⟨K,1,none⟩=some (.slice (some sa) m.st.length h.sc):=fun w' hc=>by
  obtain ⟨L,S,O,e,hc⟩:=hc
  have:=hc.cells.2.2.1
  rwa [hso] at this
 have HLu:=Zh hlu
 clear hMo hlu
 have HB1:=Zh hb1
 have HH:=Zh H1
 have cc:=hbx.cell 0 (v:=.pointer (some ⟨K,0,none⟩)) rfl
 have i1:=hbi.cell 1 (v:=.int .i64 ia) rfl
 have hS:∀ w',Upd K K ((w.alloc (.cells #[.pointer (some ⟨K,0,none⟩)] 211)).alloc (.cells #[.int .i64 22,.int .i64 ia,.int .i64 ib] 78)) w'→(∃ L S O e,Ck w' K h m L S O e)→(fun w':World=>w'.cell? ⟨w.heap.size,0,none⟩=some (.pointer (some ⟨K,0,none⟩))∧w'.cell? ⟨w.heap.size+1,1,none⟩=some (.int .i64 ia)∧w'.cell? ⟨K,1,none⟩=some (.slice (some sa) m.st.length h.sc)∧w'.cell? (sa.add (ia*2))=some (.int .i64 uk)∧w'.cell? ⟨(sa.add (ia*2)).block,(sa.add (ia*2)).off+1,none⟩=some (.int .i64 uc)) w':=fun w' hu hc=>⟨hu.cell cc (by show w.heap.size≠K;omega) (by show w.heap.size≠K;omega),hu.cell i1 (by show w.heap.size+1≠K;omega) (by show w.heap.size+1≠K;omega),hk1 w' hc,(hst w' hu).1,(hst w' hu).2⟩
 have HS:=Zh hS
 have HHM:=Zh HM
 obtain ⟨W1,hW1⟩:∃ W1,W1=((w.alloc (.cells #[.pointer (some ⟨K,0,none⟩)] 211)).alloc (.cells #[.int .i64 22,.int .i64 ia,.int .i64 ib] 78)):=⟨_,rfl⟩
 rw [←hW1] at HS HH HB1
 have HW1:=Zh hW1
 have HHW:=Zh HW
 have HI:=Zh hi
 have HHm:=Zh hm
 have HLo:=Zh hlo
 clear hb1 hbx hbi H1 H HM hlo HW hi hm cc i1 hS hW1 hst hk1 hso
 go_enter Tryz.func262,Tryz.ntmps262
 go_wp2_with fail
 refine rO (fun w':World=>w'.cell? ⟨w.heap.size,0,none⟩=some (.pointer (some ⟨K,0,none⟩))∧w'.cell? ⟨w.heap.size+1,1,none⟩=some (.int .i64 ia)∧w'.cell? ⟨K,1,none⟩=some (.slice (some sa) m.st.length h.sc)∧w'.cell? (sa.add (ia*2))=some (.int .i64 uk)∧w'.cell? ⟨(sa.add (ia*2)).block,(sa.add (ia*2)).off+1,none⟩=some (.int .i64 uc)) (oL [0,1,2,3,4,5,6,7,8,9,110]) (HW1.out▸HS.out _ (Upd.refl K K W1).drew ⟨_,_,_,_,Ck.drew HH.out.ck⟩) ?_
 rw [←HW1.out]
 have HB2:=Zh (show Below W1.heap.size W1 W1.drew by exact bE)
 repeat refine pO ?_
 refine oO fun Kv hK=>?_
 go_simp
 refine (Zjq (i:=⟨22,ia,ib⟩) HHW.out (HH.out.old HB2.out) hd (⟨uk,uc⟩) (Zgd (by simp)) (by rw [Zf6 rfl,HLu.out];rfl)).mono ?_
 exact k95
theorem ZjI (hb:Zev s.opn≤s.stk.length) (hop:i.op=0∨i.op=28):
  Calls Tryz.prog 262 #[.pointer (some ⟨K,0,none⟩),.agg #[.int .i64 i.op,.int .i64 i.a,.int .i64 i.b]] w (ZhR w K h m lo lc ls oo oc bs (ZhO m ls i s)):=by
 have hl:=HW.1
 have hm2:ZhO m ls i s=(0,s.stk):=by
  unfold ZhO
  rw [cvx (by omega),pvx (by omega),if_neg (by dsimp only;omega)]
  simp
 obtain ⟨op,ia,ib⟩:=i
 have HM2:=Zh hm2
 have HH:=Zh H
 clear hm2 H HM hlo HW hi hm
 dsimp only at hop
 rcases hop with rfl|rfl
 all_goals
  go_enter Tryz.func262,Tryz.ntmps262
  go_wp2_with fail
  go_end0
  refine ZhR.bel ⟨⟨_,rfl⟩,Upd.refl K K _,?_⟩ bE
  rw [HM2.out]
  exact ⟨so,sc,s.stk,HH.out.ck.old bE,(HH.out.old bE).ts,by omega,fun _=>rfl⟩
end
end
section
open Go.RowKit
structure SH where
 ao:Option Addr
 n:Nat
 c:Nat
instance:Inhabited SH:=⟨⟨none,0,0⟩⟩
instance:Cells SH:=⟨1,by decide,fun t=>[.slice t.ao t.n t.c],fun _=>rfl,by
 intro x u hu;simp only [List.mem_cons,List.not_mem_nil,or_false] at hu;rcases hu with rfl;rfl⟩
structure ZjJ (w:World) (N:Nat) (so:Option Addr) (sc:Nat) (rows:List SH) (sts:List (List Ty)):Prop where
 own:w.ownsRow N 23 1 (.slice so rows.length sc) rows.length (Zak rows)
 len:rows.length=sts.length
 at_:∀ i,i<rows.length→(rows.getD i default).n=(sts.getD i []).length∧ZeP w (rows.getD i default).ao (rows.getD i default).c (sts.getD i [])
theorem ZjJ.nil (w:World) (N:Nat):ZjJ w N none 0 [] []:=⟨World.ownsRow_nil _ _ _ _,rfl,fun i hi=>by simp at hi⟩
section
variable {w:World}{N:Nat}{so:Option Addr}{sc:Nat}{rows:List SH}{sts:List (List Ty)}(H:ZjJ w N so sc rows sts){b:Nat}
include w N so sc rows sts H b
theorem ZjJ.ne {xs:Array Value} {t:TypeId} {z:Nat × Nat} (hb:w.heap[b]?=some (.cells xs t z)) (ht:t≠23):(Value.slice so rows.length sc).ownBlock≠some b:=by
 intro e
 rcases H.own.2 with ⟨hv,_⟩|⟨g,c,cur,hv,_,hg,_⟩
 ·rw [hv] at e;cases e
 ·rw [hv] at e
  have e':g=b:=Option.some.inj e
  rw [e',hb] at hg
  cases hg
  exact ht rfl
theorem ZjJ.noTy (e:(Value.slice so rows.length sc).ownBlock=some b):ZeQ w b:=by
 rcases H.own.2 with ⟨hv,_⟩|⟨g,c,cur,hv,_,hg,_⟩
 ·rw [hv] at e;cases e
 ·rw [hv] at e
  have e':g=b:=Option.some.inj e
  subst e'
  exact ⟨(Array.getElem?_eq_some_iff.1 hg).1,fun xs z hx=>by rw [hg] at hx;cases hx⟩
end
section
variable {w w':World}{N:Nat}{so:Option Addr}{sc:Nat}{rows:List SH}{sts:List (List Ty)}
include w w' N so sc rows sts
theorem ZjJ.upd {K B:Nat} (H:ZjJ w N so sc rows sts) (hu:Upd K B w w') (hK:ZeQ w K) (hB:ZeQ w B) (h1:(Value.slice so rows.length sc).ownBlock≠some K) (h2:(Value.slice so rows.length sc).ownBlock≠some B):ZjJ w' N so sc rows sts:=
 ⟨ZhI H.own fun k hk=>hu.block k (H.own.lt k hk).2 (fun e=>h1 (e▸hk)) (fun e=>h2 (e▸hk)),H.len,fun i hi=>⟨(H.at_ i hi).1,(H.at_ i hi).2.upd hu hK hB⟩⟩
theorem ZjJ.old (H:ZjJ w N so sc rows sts) (hb:Below w.heap.size w w'):ZjJ w' N so sc rows sts:=by
 have ha:∀ i,i<rows.length→ZeP w' (rows.getD i default).ao (rows.getD i default).c (sts.getD i []):=fun i hi=>by
  obtain ⟨h1,h2,h3⟩:=(H.at_ i hi).2
  exact k73
 exact ⟨ZhI H.own fun k hk=>hb.block k (H.own.lt k hk).2,H.len,fun i hi=>⟨(H.at_ i hi).1,ha i hi⟩⟩
theorem ZjJ.snoc (H:ZjJ w N so sc rows sts) {to':Option Addr} {tc:Nat} {l:List Ty} (hl:ZeP w to' tc l) {ao:Option Addr} {cap:Nat} (hown:w'.ownsRow N 23 1 (.slice ao (rows.length+1) cap) (rows.length+1) (Zak rows++[.slice to' l.length tc])) (hg:w.grownBy w' (Value.slice so rows.length sc).ownBlock):ZjJ w' N ao cap (rows++[⟨to',l.length,tc⟩]) (sts++[l]):=by
 have hlen:(rows++[(⟨to',l.length,tc⟩:SH)]).length=rows.length+1:=by simp
 have hty:∀ ao cap l,ZeP w ao cap l→ZeP w' ao cap l:=fun ao cap l ht=>by
  cases hb:(Value.slice so rows.length sc).ownBlock with
  | none=>
   rw [hb] at hg
   have hbel:Below w.heap.size w w':=(Below.refl _ _).grown hg (Nat.le_refl _) (fun j hj=>by cases hj)
   obtain ⟨h1,h2,h3⟩:=ht
   refine ⟨h1.old hbel,h2,fun a hx=>?_⟩
   obtain ⟨xs,z,hz⟩:=h3 a hx
   exact ⟨xs,z,(hbel.block _ (Array.getElem?_eq_some_iff.1 hz).1).trans hz⟩
  | some b=>
   have hn:=H.noTy hb
   rw [hb] at hg
   exact ht.upd ((Upd.refl b b w).grown hg (fun k hk=>.inl (Option.some.inj hk).symm)) hn hn
 refine ⟨by rw [hlen,Zan,Zao];exact hown,by simp [H.len],fun i hi=>?_⟩
 rw [hlen] at hi
 by_cases hil:i<rows.length
 ·rw [show (rows++[(⟨to',l.length,tc⟩:SH)]).getD i default=rows.getD i default by simp [List.getElem?_append_left hil],show (sts++[l]).getD i []=sts.getD i [] by simp [List.getElem?_append_left (show i<sts.length by rw [←H.len];exact hil)]]
  exact ⟨(H.at_ i hil).1,hty _ _ _ (H.at_ i hil).2⟩
 ·obtain rfl:i=rows.length:=by omega
  rw [show (rows++[(⟨to',l.length,tc⟩:SH)]).getD rows.length default=⟨to',l.length,tc⟩ by simp,show (sts++[l]).getD rows.length []=l by rw [H.len];simp]
  exact ⟨rfl,hty _ _ _ hl⟩
end
theorem ZjK:El Tryz.prog 82 23 1 24:=El.mk' (z:=.slice none 0 0) Tryz.underlying82 (by kernel_rfl) (by kernel_rfl) (by decide)
def ZjL (W:World) (q:List (List Ty) × Nat × Int):Ending→World→Prop:=fun e w'=>(∃ so sc rows,e=.returned (.tuple #[.slice so rows.length sc,.int .i64 q.2.1,.int .i64 q.2.2])∧ZjJ w' W.heap.size so sc rows q.1)∧Below W.heap.size W w'
theorem ZjL.no (W:World) {w':World} (hb:Below W.heap.size W w') (n:Nat) (e:Int):ZjL W ([],n,e) (.returned (.tuple #[.slice none 0 0,.int .i64 n,.int .i64 e])) w':=⟨⟨none,0,[],rfl,ZjJ.nil _ _⟩,hb⟩
theorem St.start {w w2:World}{h:Hd}{m:Md}{lo:Option Addr}{lc:Nat}{ls:List Ty} (hb:Below w.heap.size w w2) (hl:ZeP w2 lo lc ls) :
  St w (w2.alloc (.cells (ckC h m (.slice lo ls.length lc) (.slice none 0 0) (.slice none 0 0) 0) 214)) w2.heap.size h m lo lc ls ⟨[],[]⟩ none 0 none 0 []:=by
 have hbl:Below w2.heap.size w2 (w2.alloc (.cells (ckC h m (.slice lo ls.length lc) (.slice none 0 0) (.slice none 0 0) 0) 214)):=by exact bE
 have htl:ZeP (w2.alloc (.cells (ckC h m (.slice lo ls.length lc) (.slice none 0 0) (.slice none 0 0) 0) 214)) lo lc ls:=by
  obtain ⟨h1,h2,h3⟩:=hl
  refine ⟨h1.old hbl,h2,fun a hx=>?_⟩
  obtain ⟨xs,z,hz⟩:=h3 a hx
  exact ⟨xs,z,(hbl.block _ (Array.getElem?_eq_some_iff.1 hz).1).trans hz⟩
 exact ⟨Blk.new _ _ _,ZeP.nil _,⟨World.ownsRow_nil _ _ _ _,rfl,fun i hi=>by simp at hi⟩,htl,bal hb _,hb.size⟩
theorem ZjM {m:Md}{r:Ty} (h:r.k=0):ZeD m r []=0:=by simp [ZeD,h]
theorem ZjN {m:Md}{r:Ty} (h:r.k=0) {k:List Ty} (hk:k≠[]):ZeD m r k=12:=by simp [ZeD,h,hk]
theorem ZjO {m:Md}{r t:Ty} (h:r.k≠0):ZeD m r [t]=if Zet m t r then 0 else 11:=by simp [ZeD,h]
theorem ZjP {m:Md}{r:Ty} (h:r.k≠0) {k:List Ty} (hk:k.length≠1):ZeD m r k=12:=by
 unfold ZeD
 rw [if_neg h]
 split
 ·simp at hk
 ·rfl
end
section
open Go.RowKit
theorem ZjQ (a b:List Ty) (ao bo:Option Addr) (ac bc:Nat) (w:World) (ha:Zar w ao ac a) (hb:Zar w bo bc b) (hm:a.length≤1000000):Calls Tryz.prog 334 #[.slice ao a.length ac,.slice bo b.length bc] w (Ret w (.bool (decide (a=b)))):=by
 by_cases hlen:a.length=b.length
 · have HA:=Zh ha
   have HB:=Zh hb
   have HLn:=Zh hlen
   have hb3:((a.length:Int) != b.length)=false:=by simp [hlen]
   clear ha hb hlen
   go_enter Tryz.func334,Tryz.ntmps334
   go_wp2
   go_loopw [5] (fun i wr=>∃ k:Nat,k≤a.length∧i=.int .i64 k∧Below w.heap.size w wr∧Hid (∀ i,i<k→a.getD i default=b.getD i default)) (fun i _=>a.length-(intOf i).toNat)
   case atStart=>exact ⟨0,by omega,rfl,Below.refl _ _,Zh (by omega)⟩
   case round=>
     obtain ⟨k,hk,rfl,hbel,q1⟩:=hrel
     have HL:=Zh hbel
     clear hbel
     by_cases hkl:k<a.length
     · obtain ⟨ad,rfl,x0,x1⟩:=Zaz (HA.out.old HL.out) hkl
       obtain ⟨bd,rfl,y0,y1⟩:=Zaz (HB.out.old HL.out) (i:=k) (by have:=HLn.out;omega)
       have hkb:(k:Int) < b.length:=by have:=HLn.out;omega
       have hka:(k:Int) < a.length:=by omega
       have hwr:IntKind.i64.wrap ((k:Int)+1)=k+1:=IntWalk.i64_in _ (by omega)
       generalize hx:a.getD k default=x at x0 x1
       generalize hy:b.getD k default=y at y0 y1
       have HX:=Zh hx
       have HY:=Zh hy
       clear hx hy
       have hne:=ZdW
       have hgu:=ZdX
       obtain ⟨xk,xc⟩:=x
       obtain ⟨yk,yc⟩:=y
       dsimp only at x0 x1 y0 y1
       go_wp2
       go_quiet (fail)
       go_wp2
       all_goals first
         | (go_ret
            have hh:¬ ((⟨xk,xc⟩:Ty)=⟨yk,yc⟩):=by simp only [Ty.mk.injEq];grind
            exact ZcT (ZcX (decide_eq_false (Ze0 (k:=k) (by rw [HX.out,HY.out];exact hh))).symm) (ZcU HL.out _))
         | (go_roundw
            case rel=>
              refine ⟨k+1,by omega,by go_num,ZcU HL.out _,Zh fun i hi=>?_⟩
              by_cases hik:i<k
              · exact q1.out i hik
              · obtain rfl:i=k:=by omega
                rw [HX.out,HY.out,Ty.mk.injEq]
                grind
            case measure=>simp [intOf];omega)
     · go_wp2
       go_ret
       exact ZcT (ZcX (decide_eq_true (Ze1 HLn.out fun i hi=>q1.out i (by omega))).symm) HL.out
 · have hb3:((a.length:Int) != b.length)=true:=by simp;omega
   go_enter Tryz.func334,Tryz.ntmps334
   go_wp2
   go_ret
   exact ZcT (ZcX (decide_eq_false fun e=>hlen (by rw [e])).symm) bE
theorem ZjR (m:Md) (h:Hd) (a b:Int) (w:World) (H:Zay w h m) (ha:a<m.cl.length) (hb:0≤b) (hd:Zc3 m m.cl.length):Calls Tryz.prog 340 #[.agg #[.slice h.co m.cl.length h.cc,.slice h.so m.st.length h.sc,.slice h.eo m.me.length h.ec,.int .i64 m.sel],.int .i64 a,.int .i64 b] w (Ret w (.bool (ZaH m (a.toNat+1) a b))):=by
 obtain ⟨q,hq⟩:∃ q,q=ZaH m (a.toNat+1) a b:=⟨_,rfl⟩
 rw [←hq]
 have HQ:=Zh hq
 clear hq
 have hbel:=(Below.refl w.heap.size w).alloc (Nat.le_refl _) (.cells #[.slice h.co m.cl.length h.cc,.slice h.so m.st.length h.sc,.slice h.eo m.me.length h.ec,.int .i64 m.sel] 26)
 have HM1:=Zh (H.old hbel)
 have HD:=Zh hd
 clear H hd
 obtain ⟨co,cc,so,sc,eo,ec,hc,he⟩:=h;dsimp only
 dsimp only at HM1 hbel
 go_enter Tryz.func340,Tryz.ntmps340
 go_upto_region 1 with fail
 go_loop [1] (fun x=>∃ (k:Int),x=.int .i64 k∧k≤a∧ZaH m (k.toNat+1) k b=q) (fun x=>((intOf x)+1).toNat)
 case atStart=>exact ⟨a,rfl,by omega,HQ.out.symm⟩
 case round=>
  obtain ⟨k,rfl,hka,hkq⟩:=hrel
  have HK:=Zh hkq
  clear hkq
  by_cases hk0:0≤k
  ·have hk1:k ≥ 0:=hk0
   obtain ⟨c,rfl⟩:∃ c:Nat,k=c:=⟨k.toNat,by omega⟩
   have hcl:(c:Int) < m.cl.length:=by omega
   obtain ⟨ad,hco,e0,e1,e2,e3⟩:=HM1.out.cls (i:=c) (by omega)
   dsimp only at hco
   subst hco
   clear e0 e2 e3
   have hs:=HD.out c (by omega) (by omega)
   have hs':m.sup c=(m.cl.getD c default).sup:=rfl
   generalize (m.cl.getD c default).sup=s at e1 hs'
   have HS:=Zh hs'
   clear hs'
   rw [HS.out] at hs
   by_cases hcb:(c:Int)=b
   ·subst hcb
    go_wp2
    go_ret
    refine ZcT (ZcX ?_) bE
    have h1:=HK.out
    rw [ZaH,if_neg (by omega)] at h1
    rw [←h1];simp
   ·have hcb2:((c:Int) == b)=false:=by simp;omega
    go_wp2
    go_round
    case rel=>
     refine ⟨s,rfl,by omega,?_⟩
     have h1:=HK.out
     rw [ZaH] at h1
     rw [←h1]
     by_cases hlt:b<(c:Int)
     ·rw [if_pos hlt,HS.out]
      exact Zc6 HD.out hb (by omega) (fun _=>by omega) (fun _=>by omega)
     ·rw [if_neg hlt,Zc4 (by omega)]
      simp;omega
    case measure=>simp [intOf];omega
  ·have hk1:¬ k ≥ 0:=hk0
   go_wp2
   go_ret
   refine ZcT (ZcX ?_) bE
   rw [←HK.out,Zc4 (by omega)]
theorem ZjS (m:Md) (h:Hd) (t u:Ty) (w:World) (H:Zay w h m) (ht:t.k=2→0≤t.c∧t.c<m.cl.length) (hu:u.k=2→0≤u.c) (hd:Zc3 m m.cl.length):Calls Tryz.prog 274 #[.agg #[.slice h.co m.cl.length h.cc,.slice h.so m.st.length h.sc,.slice h.eo m.me.length h.ec,.int .i64 m.sel],.agg #[.int .i64 t.k,.int .i64 t.c],.agg #[.int .i64 u.k,.int .i64 u.c]] w (Ret w (.bool (Zet m t u))):=by
 obtain ⟨tk,tc⟩:=t
 obtain ⟨uk,uc⟩:=u
 dsimp only at ht hu ⊢
 by_cases hb:tk=2∧uk=2
 ·obtain ⟨rfl,rfl⟩:=hb
  have hf:Zet m ⟨2,tc⟩ ⟨2,uc⟩=ZaH m (tc.toNat+1) tc uc:=by simp [Zet]
  rw [hf]
  clear hf
  have hA:=fun w' (hb':Below w.heap.size w w')=>ZjR m h tc uc w' (H.old hb') (ht rfl).2 (hu rfl) hd
  generalize ZaH m (tc.toNat+1) tc uc=q at hA ⊢
  have HA:=Zh hA
  clear hA H ht hu hd
  go_enter Tryz.func274,Tryz.ntmps274
  go_wp2_with (go_at_call 340;refine (HA.out _ bE).mono ?_;rintro e w1 ⟨rfl,hb1⟩)
  go_ret
  exact ZcT rfl bE
 ·have hf:Zet m ⟨tk,tc⟩ ⟨uk,uc⟩=(decide (tk=uk)&&decide (tc=uc)):=by unfold Zet;rw [if_neg hb,Zhp]
  rw [hf]
  have heq:=ZdV
  have hgu:=ZdX
  clear hf H ht hu hd
  by_cases h1:tk=2
  ·have h2:(uk == 2)=false:=by simp;omega
   have h3:(tk == 2)=true:=by simp [h1]
   have H1:=Zh h1
   clear h1 hb
   go_enter Tryz.func274,Tryz.ntmps274
   go_wp2
   go_ret
   exact ZcT rfl bE
  ·have h3:(tk == 2)=false:=by simp;omega
   clear h1 hb
   go_enter Tryz.func274,Tryz.ntmps274
   go_wp2
   go_ret
   exact ZcT rfl bE
theorem ZjT (W:World) (ao:Option Addr) (cap:Nat) (l:List Ty) (h:Zar W ao cap l) (hl:l.length≤1000000) :
    Calls Tryz.prog 200 #[.slice ao l.length cap] W (Zfg 76 W l):=by
 have HH:=Zh h
 have HO:=Zh (World.ownsRow_made (e:=76) (size:=2) W #[] 0 (Nat.le_refl _) (by decide) rfl)
 clear h
 go_enter Tryz.func200,Tryz.ntmps200
 go_wp2_with (first
   | (at_builtin;refine Zaj rfl (.tmp 3) (.tmp 4) 23 rfl W.heap.size 76 2 16 Zff (.slice (some ⟨W.heap.size,0,none⟩) 0 0) 0 [] rfl HO.out ao l.length cap (Zak l) rfl (SlA.alloc (w:=W) HH.out _) (Zaq l) (by omega) (by unfold maxLen;omega) (by simp) ?_
      intro ao1 cap1 w1 hown hg
      simp only [Nat.zero_add,List.nil_append] at hown ⊢
      have hb:=((Below.refl W.heap.size W).alloc (Nat.le_refl _) (.cells #[] 76)).grown hg (by simp) (by intro k hk;simp [Value.ownBlock] at hk;omega)
      have HR:=Zh (And.intro hown hb)
      clear hown hg hb))
 go_ret
 exact ⟨⟨ao1,cap1,rfl,HR.out.1⟩,HR.out.2⟩
end
end Go.Proofs.YtcfjblcgceednaaGreat
