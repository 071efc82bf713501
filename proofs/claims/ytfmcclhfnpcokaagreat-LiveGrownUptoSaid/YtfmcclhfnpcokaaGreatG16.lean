import Derived.Test.YtfmcclhfnpcokaaGreatG13
import Derived.Test.YtfmcclhfnpcokaaGreatG14
set_option linter.all false
set_option maxRecDepth 100000
set_option maxHeartbeats 4000000
namespace Go.Proofs.YtfmcclhfnpcokaaGreat
theorem k4{p:Prop}(h:p:=by
 go_wp2_with (go_at_call 185;refine HD.out.mono ?_;rintro r w2 ⟨⟨v,rfl⟩,hu2,hd2⟩;have HU2:=Zh hu2;have HD2:=Zh hd2;clear hu2 hd2)
 go_end0;exact ZhV.bel ⟨⟨_,rfl⟩,HU2.out,HD2.out⟩ HB1.out):p:=h
theorem k11{p:Prop}(h:p:=by
 have HD4:=Zh hd4;have hck:∃ L S O e,Ck w4 K h m L S O e:=by obtain ⟨so2,sc2,st2,h1,-⟩:=HD4.out;exact ⟨_,_,_,_,h1⟩
 refine hK _ _ ⟨HS.out _ HU4.out hck,?_⟩;clear hK Kv hu4 hd4 hck;refine Zd7 ?_;go_wp2;go_end0;exact ZhV.bel ⟨⟨_,rfl⟩,HU4.out,HD4.out⟩ HB1.out):p:=h
theorem k16{p:Prop}(h:p:=by
 have HB1:=Zh hb1;clear hb1 hbx hbi H1 H Hj hlo HW hi hm;go_enter Tryz.func131,Tryz.ntmps131;exact k4):p:=h
theorem k28{p:Prop}(h:p:=by
 have HB1:=Zh hb1;clear hb1 hbx hbi H1 H Hj hlo HW hi hm;go_enter Tryz.func201,Tryz.ntmps201;exact k4):p:=h
theorem k60{p:Prop}(h:p:=by
 go_wp2_with (go_at_call 193;refine HD.out.mono ?_;rintro r w2 ⟨⟨v,rfl⟩,hu2,hd2⟩;have HU2:=Zh hu2;have HD2:=Zh hd2;clear hu2 hd2)
 go_end0;exact ZhV.bel ⟨⟨_,rfl⟩,HU2.out,HD2.out⟩ HB1.out):p:=h
theorem k67{p:Prop}(h:p:=by
 rintro r w4 ⟨⟨v4,rfl⟩,hu4,hd4⟩;have HU4:=Zh ((Upd.of HB3.out).trans hu4);exact k11):p:=h
theorem k73{p:Prop}(h:p:=by
 refine ⟨h1.old hb,h2,fun a hx=>?_⟩;obtain ⟨xs,z,hz⟩:=h3 a hx;exact ⟨xs,z,(hb.block _ (Array.getElem?_eq_some_iff.1 hz).1).trans hz⟩):p:=h
theorem k95{p:Prop}(h:p:=by
 rintro r w4 ⟨⟨v4,rfl⟩,hu4,hd4⟩;have HU4:=Zh ((Upd.of HB2.out).trans hu4);exact k11):p:=h
section
open Go.RowKit
theorem Zjs (K:Nat) (h:Hd) (m:Md) (L:Value) (so:Option Addr) (sc:Nat) (g:List Ty) (oo:Option Addr) (oc:Nat) (bs:List VB) (e:Int) (c:Ty) (w:World)
    (H:Ck w K h m L (.slice so g.length sc) (.slice oo bs.length oc) e) (O:ZeR w so sc g) (D:g.length≤1000) (J:Zas w oo oc bs) (o:bs.length≤1000000) :
    Calls Tryz.prog 193 #[ZQ.p K,.agg #[.int .i64 c.k,.int .i64 c.c]] w fun r w'=>(∃ v,r=.returned v)∧Upd K K w w' ∧
      ((Zff g.length 0 1 (Ze6 bs)=false∧Ck w' K h m L (.slice so g.length sc) (.slice oo bs.length oc) (ZeT e 12)) ∨
       (Zff g.length 0 1 (Ze6 bs)=true∧∃ f d,ZeR w' f d (g++[c])∧Ck w' K h m L (.slice f (g++[c]).length d) (.slice oo bs.length oc) e)):=by
 have a:Below w.heap.size w (w.alloc (.cells #[.int .i64 c.k,.int .i64 c.c] 38)):=by exact bE
 have l:=Blk.new w #[.int .i64 c.k,.int .i64 c.c] 38;have Z:=Blk.lt H;have Q:=Zh (ZhI K h m L so sc g oo oc bs e 0 1 254 #[.pointer (some ⟨w.heap.size,0,none⟩)] (fun j z=>j=[c]∧z=e) _ (H.old a) (O.upd (Upd.of (K:=K) (B:=K) a) H.noTy H.noTy) D (J.old a) o (by decide) ⟨by decide,by decide⟩ (fun _ _=>rfl) (fun j z S=>by rw [S.1];simp)
   (fun _ X E W P C M=>by
     refine (ZhD c w.heap.size (.slice E 0 W) X (Blk.upd l P (by omega) (by omega))).mono ?_;rintro r Y ⟨V,U,rfl,T,_,I⟩;exact ⟨V,U,[c],e,rfl,T,C.old I,P.bel I,rfl,rfl⟩))
 have u:=Zh a;clear a l H O J;go_enter Tryz.func193,Tryz.ntmps193
 go_wp2_with (go_at_call 185;refine Q.out.mono ?_;rintro r Y ⟨⟨v,rfl⟩,q,n⟩;have y:=Zh q;have x:=Zh n;clear q n)
 go_end0;refine ⟨⟨_,rfl⟩,(Upd.of u.out).trans y.out,?_⟩;rcases x.out with ⟨A,R⟩|⟨A,f,d,j,z,⟨rfl,rfl⟩,F,G⟩
 · exact .inl ⟨A,R⟩
 · rw [Nat.sub_zero,List.take_length] at F G;exact .inr ⟨A,f,d,F,G⟩
section
variable {w0 w:World}{K:Nat}{h:Hd}{m:Md}{lo:Option Addr}{lc:Nat}{ls:List Ty}{s:Ps}{so:Option Addr}{sc:Nat}{oo:Option Addr}{oc:Nat}{bs:List VB}{i:In3}(HW:Zfl m s.stk)(H:St w0 w K h m lo lc ls s so sc oo oc bs)(hd:s.opn.length≤6)
include w0 w K h m lo lc ls s so sc oo oc bs i HW H hd
theorem Zjt (a:Ty) (c:Zez m i=(0,1)) (d:ZeD m ls i []=some a):
  Calls Tryz.prog 193 #[ZQ.p K,.agg #[.int .i64 a.k,.int .i64 a.c]] w (ZhV w K h m lo lc ls oo oc bs (ZhS m ls i s)):=by
 have n:=HW.1;have g:=H.op.len;refine (Zjs K h m (.slice lo ls.length lc) so sc s.stk oo oc bs 0 a w H.ck H.ts (by omega) (Zas.of_own H.op.own) (by omega)).mono ?_;rintro r w' ⟨l,hu,hq⟩;refine ⟨l,hu,?_⟩;rw [ZhR H.op] at hq;unfold ZhS;rw [c];dsimp only;rw [Nat.sub_zero,List.drop_length,List.take_length,d];rcases hq with ⟨hq,hc⟩|⟨hq,f,e,j,hc⟩
 ·exact k66
 ·rw [if_neg (by simp only [Zff,Bool.and_eq_true,decide_eq_true_eq] at hq;omega)];exact ⟨f,e,_,hc,j,by simp;omega,fun _=>rfl⟩
theorem Zju (tk d g:Nat) (a:Array Value) (hcn:Zez m i=(tk,d)) (E:tk≤1000) (C:d≤1000) (q:∀ A W,(callFunc g (A++a)).run Tryz.prog W=.ok (.enter g (A++a)) W) (z:∀ l,l.length=tk→s.stk.drop (s.stk.length-tk)=l→∀ w1 c f,Upd K K w w1→Ck w1 K h m (.slice lo ls.length lc) (.slice so s.stk.length sc) (.slice oo bs.length oc) 0→w1.ownsRow w.heap.size 38 2 (.slice c tk f) tk (Zal l) →
   Calls Tryz.prog g (#[.slice c tk f]++a) w1 (ZhZ w K h m (.slice lo ls.length lc) (.slice so s.stk.length sc) (.slice oo bs.length oc) (Zh0 d (ZeD m ls i l)))):
  Calls Tryz.prog 185 #[ZQ.p K,.int .i64 tk,.int .i64 d,.func (Fn.func g) #[] a] w (ZhV w K h m lo lc ls oo oc bs (ZhS m ls i s)):=by
 have hb:=ZhR H.op;have n:=H.op.len;have o:=HW.1;refine (ZhI K h m (.slice lo ls.length lc) so sc s.stk oo oc bs 0 tk d g a (Zh0 d (ZeD m ls i (s.stk.drop (s.stk.length-tk)))) w H.ck H.ts (by omega) (Zas.of_own H.op.own) (by omega) (by omega) ⟨by omega,by omega⟩ q (fun out e' h=>h.1) ?_).mono ?_
 ·intro B w1 c f hu j e;refine (z _ (by simp;omega) rfl w1 c f hu j e).mono ?_;rintro r I ⟨G,F,out,e',D,u,v,x,y⟩;exact ⟨G,F,out,e',D,u,v,x,y⟩
 ·exact k24
end
end
section
open Go.RowKit
section
variable {w0 w:World}{K:Nat}{h:Hd}{m:Md}{lo:Option Addr}{lc:Nat}{ls:List Ty}{s:Ps}{so:Option Addr}{sc:Nat}{oo:Option Addr}{oc:Nat}{bs:List VB}{i:In3}{k:Nat}(hm:Za2 m=true)(hlo:∀ t∈ls,Zfk m t)(HW:Zfl m s.stk)(H:St w0 w K h m lo lc ls s so sc oo oc bs)(Hj:Zaz w0 h m)(hd:s.opn.length≤6)(hi:ZfU m k i)
include w0 w K h m lo lc ls s so sc oo oc bs i k hm hlo HW H Hj hd hi
theorem s_3 (e:i.op=3):
  Calls Tryz.prog 131 #[ZQ.p K,ZI.i i] w (ZhV w K h m lo lc ls oo oc bs (ZhS m ls i s)):=by
 obtain ⟨O,c,d⟩:=i;dsimp only at e;subst e;have hb1:Below w.heap.size w ((w.alloc (.cells #[ZQ.p K] 163)).alloc (.cells #[.int .i64 3,.int .i64 c,.int .i64 d] 72)):=by exact bE
 have hbx:=(Blk.new w #[ZQ.p K] 163).alloc (.cells #[.int .i64 3,.int .i64 c,.int .i64 d] 72);have hbi:Blk ((w.alloc (.cells #[ZQ.p K] 163)).alloc (.cells #[.int .i64 3,.int .i64 c,.int .i64 d] 72)) (w.heap.size+1) #[.int .i64 3,.int .i64 c,.int .i64 d] 72:=Blk.new' (w:=w.alloc (.cells #[ZQ.p K] 163)) _ _ (by simp);have M:=Blk.lt H.ck;have H1:=H.old hb1;have HD:=Zh (Zh1 (i:=⟨3,c,d⟩) HW H1 hd 1 0 195 #[.pointer (some ⟨w.heap.size,0,none⟩),.pointer (some ⟨w.heap.size+1,0,none⟩)] (Zgh (.inl rfl)) (by decide) (by decide) (fun _ _=>rfl) (fun l E o z y J g n f=>by
  obtain ⟨a,rfl⟩:=one_of E;have D:=HW.2 a (List.mem_of_mem_drop (by rw [o];simp));have j:∀ w',Upd K K z w'→Zaz w' h m:=fun w' u=>Hj.old ((g.trans u).below H1.hb (Nat.le_refl _) H1.hK H1.hK);have x:=Blk.upd hbx g (by omega) (by omega);have q:=Blk.upd hbi g (by omega) (by omega);have C:=H1.tl.upd g H1.ck.noTy H1.ck.noTy;refine (Zh9 K h m _ _ _ a 3 c d y J _ w.heap.size (w.heap.size+1) z n j x q f lo lc ls rfl C (hi.a0 (by simp))).mono ?_;exact fun r w2 F=>F.imp fun I L G=>by obtain ⟨A,B⟩:=G;rw [A,B];exact ZiE hm hlo rfl (hi.a0 (by simp)) D))
 exact k16
theorem s_4 (c:i.op=4):
  Calls Tryz.prog 131 #[ZQ.p K,ZI.i i] w (ZhV w K h m lo lc ls oo oc bs (ZhS m ls i s)):=by
 obtain ⟨O,d,e⟩:=i;dsimp only at c;subst c;have hb1:Below w.heap.size w ((w.alloc (.cells #[ZQ.p K] 163)).alloc (.cells #[.int .i64 4,.int .i64 d,.int .i64 e] 72)):=by exact bE
 have hbx:=(Blk.new w #[ZQ.p K] 163).alloc (.cells #[.int .i64 4,.int .i64 d,.int .i64 e] 72);have hbi:Blk ((w.alloc (.cells #[ZQ.p K] 163)).alloc (.cells #[.int .i64 4,.int .i64 d,.int .i64 e] 72)) (w.heap.size+1) #[.int .i64 4,.int .i64 d,.int .i64 e] 72:=Blk.new' (w:=w.alloc (.cells #[ZQ.p K] 163)) _ _ (by simp);have M:=Blk.lt H.ck;have H1:=H.old hb1;have HD:=Zh (Zh1 (i:=⟨4,d,e⟩) HW H1 hd 1 0 192 #[] (Zgh (.inr (.inl rfl))) (by decide) (by decide) (fun _ _=>rfl) (fun l B j u o G f g q=>by
  obtain ⟨a,rfl⟩:=one_of B;have L:=HW.2 a (List.mem_of_mem_drop (by rw [j];simp));have z:∀ w',Upd K K u w'→Zaz w' h m:=fun w' n=>Hj.old ((f.trans n).below H1.hb (Nat.le_refl _) H1.hK H1.hK);have E:=Blk.upd hbx f (by omega) (by omega);have A:=Blk.upd hbi f (by omega) (by omega);have J:=H1.tl.upd f H1.ck.noTy H1.ck.noTy;refine (Zh6 K h m _ _ _ (.slice o 1 G) u g).mono ?_;exact fun r w2 C=>C.imp fun F I D=>by obtain ⟨x,y⟩:=D;rw [x,y];exact ZiF rfl))
 exact k16
theorem s_5 (c:i.op=5):
  Calls Tryz.prog 131 #[ZQ.p K,ZI.i i] w (ZhV w K h m lo lc ls oo oc bs (ZhS m ls i s)):=by
 obtain ⟨F,e,f⟩:=i;dsimp only at c;subst c;have hb1:Below w.heap.size w ((w.alloc (.cells #[ZQ.p K] 163)).alloc (.cells #[.int .i64 5,.int .i64 e,.int .i64 f] 72)):=by exact bE
 have hbx:=(Blk.new w #[ZQ.p K] 163).alloc (.cells #[.int .i64 5,.int .i64 e,.int .i64 f] 72);have hbi:Blk ((w.alloc (.cells #[ZQ.p K] 163)).alloc (.cells #[.int .i64 5,.int .i64 e,.int .i64 f] 72)) (w.heap.size+1) #[.int .i64 5,.int .i64 e,.int .i64 f] 72:=Blk.new' (w:=w.alloc (.cells #[ZQ.p K] 163)) _ _ (by simp);have E:=Blk.lt H.ck;have H1:=H.old hb1;have HD:=Zh (Zju (i:=⟨5,e,f⟩) HW H1 hd 1 2 197 #[] (Zgi rfl) (by decide) (by decide) (fun _ _=>rfl) (fun l u q C j B z g d=>by
  obtain ⟨a,rfl⟩:=one_of u;refine (Zjc K h m _ _ _ a j B _ C g z d).mono ?_;exact fun r w2 x=>x.imp fun A D y=>by obtain ⟨n,o⟩:=y;rw [n,o];exact ZiG rfl))
 exact k16
theorem s_6 (e:i.op=6):
  Calls Tryz.prog 131 #[ZQ.p K,ZI.i i] w (ZhV w K h m lo lc ls oo oc bs (ZhS m ls i s)):=by
 obtain ⟨G,g,j⟩:=i;dsimp only at e;subst e;have hb1:Below w.heap.size w ((w.alloc (.cells #[ZQ.p K] 163)).alloc (.cells #[.int .i64 6,.int .i64 g,.int .i64 j] 72)):=by exact bE
 have hbx:=(Blk.new w #[ZQ.p K] 163).alloc (.cells #[.int .i64 6,.int .i64 g,.int .i64 j] 72);have hbi:Blk ((w.alloc (.cells #[ZQ.p K] 163)).alloc (.cells #[.int .i64 6,.int .i64 g,.int .i64 j] 72)) (w.heap.size+1) #[.int .i64 6,.int .i64 g,.int .i64 j] 72:=Blk.new' (w:=w.alloc (.cells #[ZQ.p K] 163)) _ _ (by simp);have F:=Blk.lt H.ck;have H1:=H.old hb1;have HD:=Zh (Zh1 (i:=⟨6,g,j⟩) HW H1 hd 2 1 198 #[.pointer (some ⟨w.heap.size,0,none⟩)] (Zgj (by simp)) (by decide) (by decide) (fun _ _=>rfl) (fun l D C A n z E d c=>by
  obtain ⟨a,b,rfl⟩:=Zi1 D;have f:=Blk.upd hbx E (by omega) (by omega);by_cases hA:a=Zew
  ·refine (Zia K h m _ _ _ a b 0 0 0 n z _ w.heap.size 0 A d f c hA).mono ?_;exact fun r w2 u=>u.imp fun y B x=>by obtain ⟨o,q⟩:=x;rw [o,q];exact ZiH (by simp) hA
  ·refine (Zib K h m _ _ _ a b 0 0 0 n z _ w.heap.size 0 A d f c hA).mono ?_;exact fun r w2 u=>u.imp fun y B x=>by obtain ⟨o,q⟩:=x;rw [o,q];exact ZiI (by simp) hA))
 exact k16
theorem s_7 (e:i.op=7):
  Calls Tryz.prog 131 #[ZQ.p K,ZI.i i] w (ZhV w K h m lo lc ls oo oc bs (ZhS m ls i s)):=by
 obtain ⟨G,g,j⟩:=i;dsimp only at e;subst e;have hb1:Below w.heap.size w ((w.alloc (.cells #[ZQ.p K] 163)).alloc (.cells #[.int .i64 7,.int .i64 g,.int .i64 j] 72)):=by exact bE
 have hbx:=(Blk.new w #[ZQ.p K] 163).alloc (.cells #[.int .i64 7,.int .i64 g,.int .i64 j] 72);have hbi:Blk ((w.alloc (.cells #[ZQ.p K] 163)).alloc (.cells #[.int .i64 7,.int .i64 g,.int .i64 j] 72)) (w.heap.size+1) #[.int .i64 7,.int .i64 g,.int .i64 j] 72:=Blk.new' (w:=w.alloc (.cells #[ZQ.p K] 163)) _ _ (by simp);have F:=Blk.lt H.ck;have H1:=H.old hb1;have HD:=Zh (Zh1 (i:=⟨7,g,j⟩) HW H1 hd 2 1 198 #[.pointer (some ⟨w.heap.size,0,none⟩)] (Zgj (by simp)) (by decide) (by decide) (fun _ _=>rfl) (fun l D C A n z E d c=>by
  obtain ⟨a,b,rfl⟩:=Zi1 D;have f:=Blk.upd hbx E (by omega) (by omega);by_cases hA:a=Zew
  ·refine (Zia K h m _ _ _ a b 0 0 0 n z _ w.heap.size 0 A d f c hA).mono ?_;exact fun r w2 u=>u.imp fun y B x=>by obtain ⟨o,q⟩:=x;rw [o,q];exact ZiH (by simp) hA
  ·refine (Zib K h m _ _ _ a b 0 0 0 n z _ w.heap.size 0 A d f c hA).mono ?_;exact fun r w2 u=>u.imp fun y B x=>by obtain ⟨o,q⟩:=x;rw [o,q];exact ZiI (by simp) hA))
 exact k16
theorem s_8 (e:i.op=8):
  Calls Tryz.prog 131 #[ZQ.p K,ZI.i i] w (ZhV w K h m lo lc ls oo oc bs (ZhS m ls i s)):=by
 obtain ⟨G,g,j⟩:=i;dsimp only at e;subst e;have hb1:Below w.heap.size w ((w.alloc (.cells #[ZQ.p K] 163)).alloc (.cells #[.int .i64 8,.int .i64 g,.int .i64 j] 72)):=by exact bE
 have hbx:=(Blk.new w #[ZQ.p K] 163).alloc (.cells #[.int .i64 8,.int .i64 g,.int .i64 j] 72);have hbi:Blk ((w.alloc (.cells #[ZQ.p K] 163)).alloc (.cells #[.int .i64 8,.int .i64 g,.int .i64 j] 72)) (w.heap.size+1) #[.int .i64 8,.int .i64 g,.int .i64 j] 72:=Blk.new' (w:=w.alloc (.cells #[ZQ.p K] 163)) _ _ (by simp);have F:=Blk.lt H.ck;have H1:=H.old hb1;have HD:=Zh (Zh1 (i:=⟨8,g,j⟩) HW H1 hd 2 1 198 #[.pointer (some ⟨w.heap.size,0,none⟩)] (Zgj (by simp)) (by decide) (by decide) (fun _ _=>rfl) (fun l D C A n z E d c=>by
  obtain ⟨a,b,rfl⟩:=Zi1 D;have f:=Blk.upd hbx E (by omega) (by omega);by_cases hA:a=Zew
  ·refine (Zia K h m _ _ _ a b 0 0 0 n z _ w.heap.size 0 A d f c hA).mono ?_;exact fun r w2 u=>u.imp fun y B x=>by obtain ⟨o,q⟩:=x;rw [o,q];exact ZiH (by simp) hA
  ·refine (Zib K h m _ _ _ a b 0 0 0 n z _ w.heap.size 0 A d f c hA).mono ?_;exact fun r w2 u=>u.imp fun y B x=>by obtain ⟨o,q⟩:=x;rw [o,q];exact ZiI (by simp) hA))
 exact k16
theorem s_9 (e:i.op=9):
  Calls Tryz.prog 131 #[ZQ.p K,ZI.i i] w (ZhV w K h m lo lc ls oo oc bs (ZhS m ls i s)):=by
 obtain ⟨G,g,j⟩:=i;dsimp only at e;subst e;have hb1:Below w.heap.size w ((w.alloc (.cells #[ZQ.p K] 163)).alloc (.cells #[.int .i64 9,.int .i64 g,.int .i64 j] 72)):=by exact bE
 have hbx:=(Blk.new w #[ZQ.p K] 163).alloc (.cells #[.int .i64 9,.int .i64 g,.int .i64 j] 72);have hbi:Blk ((w.alloc (.cells #[ZQ.p K] 163)).alloc (.cells #[.int .i64 9,.int .i64 g,.int .i64 j] 72)) (w.heap.size+1) #[.int .i64 9,.int .i64 g,.int .i64 j] 72:=Blk.new' (w:=w.alloc (.cells #[ZQ.p K] 163)) _ _ (by simp);have F:=Blk.lt H.ck;have H1:=H.old hb1;have HD:=Zh (Zh1 (i:=⟨9,g,j⟩) HW H1 hd 2 1 198 #[.pointer (some ⟨w.heap.size,0,none⟩)] (Zgj (by simp)) (by decide) (by decide) (fun _ _=>rfl) (fun l D C A n z E d c=>by
  obtain ⟨a,b,rfl⟩:=Zi1 D;have f:=Blk.upd hbx E (by omega) (by omega);by_cases hA:a=Zew
  ·refine (Zia K h m _ _ _ a b 0 0 0 n z _ w.heap.size 0 A d f c hA).mono ?_;exact fun r w2 u=>u.imp fun y B x=>by obtain ⟨o,q⟩:=x;rw [o,q];exact ZiH (by simp) hA
  ·refine (Zib K h m _ _ _ a b 0 0 0 n z _ w.heap.size 0 A d f c hA).mono ?_;exact fun r w2 u=>u.imp fun y B x=>by obtain ⟨o,q⟩:=x;rw [o,q];exact ZiI (by simp) hA))
 exact k16
theorem Zjv (e:i.op=10):
  Calls Tryz.prog 131 #[ZQ.p K,ZI.i i] w (ZhV w K h m lo lc ls oo oc bs (ZhS m ls i s)):=by
 obtain ⟨G,g,j⟩:=i;dsimp only at e;subst e;have hb1:Below w.heap.size w ((w.alloc (.cells #[ZQ.p K] 163)).alloc (.cells #[.int .i64 10,.int .i64 g,.int .i64 j] 72)):=by exact bE
 have hbx:=(Blk.new w #[ZQ.p K] 163).alloc (.cells #[.int .i64 10,.int .i64 g,.int .i64 j] 72);have hbi:Blk ((w.alloc (.cells #[ZQ.p K] 163)).alloc (.cells #[.int .i64 10,.int .i64 g,.int .i64 j] 72)) (w.heap.size+1) #[.int .i64 10,.int .i64 g,.int .i64 j] 72:=Blk.new' (w:=w.alloc (.cells #[ZQ.p K] 163)) _ _ (by simp);have F:=Blk.lt H.ck;have H1:=H.old hb1;have HD:=Zh (Zh1 (i:=⟨10,g,j⟩) HW H1 hd 2 1 198 #[.pointer (some ⟨w.heap.size,0,none⟩)] (Zgj (by simp)) (by decide) (by decide) (fun _ _=>rfl) (fun l D C A n z E d c=>by
  obtain ⟨a,b,rfl⟩:=Zi1 D;have f:=Blk.upd hbx E (by omega) (by omega);by_cases hA:a=Zew
  ·refine (Zia K h m _ _ _ a b 0 0 0 n z _ w.heap.size 0 A d f c hA).mono ?_;exact fun r w2 u=>u.imp fun y B x=>by obtain ⟨o,q⟩:=x;rw [o,q];exact ZiH (by simp) hA
  ·refine (Zib K h m _ _ _ a b 0 0 0 n z _ w.heap.size 0 A d f c hA).mono ?_;exact fun r w2 u=>u.imp fun y B x=>by obtain ⟨o,q⟩:=x;rw [o,q];exact ZiI (by simp) hA))
 exact k16
theorem Zjw (e:i.op=11):
  Calls Tryz.prog 131 #[ZQ.p K,ZI.i i] w (ZhV w K h m lo lc ls oo oc bs (ZhS m ls i s)):=by
 obtain ⟨G,g,j⟩:=i;dsimp only at e;subst e;have hb1:Below w.heap.size w ((w.alloc (.cells #[ZQ.p K] 163)).alloc (.cells #[.int .i64 11,.int .i64 g,.int .i64 j] 72)):=by exact bE
 have hbx:=(Blk.new w #[ZQ.p K] 163).alloc (.cells #[.int .i64 11,.int .i64 g,.int .i64 j] 72);have hbi:Blk ((w.alloc (.cells #[ZQ.p K] 163)).alloc (.cells #[.int .i64 11,.int .i64 g,.int .i64 j] 72)) (w.heap.size+1) #[.int .i64 11,.int .i64 g,.int .i64 j] 72:=Blk.new' (w:=w.alloc (.cells #[ZQ.p K] 163)) _ _ (by simp);have F:=Blk.lt H.ck;have H1:=H.old hb1;have HD:=Zh (Zh1 (i:=⟨11,g,j⟩) HW H1 hd 2 1 198 #[.pointer (some ⟨w.heap.size,0,none⟩)] (Zgj (by simp)) (by decide) (by decide) (fun _ _=>rfl) (fun l D C A n z E d c=>by
  obtain ⟨a,b,rfl⟩:=Zi1 D;have f:=Blk.upd hbx E (by omega) (by omega);by_cases hA:a=Zew
  ·refine (Zia K h m _ _ _ a b 0 0 0 n z _ w.heap.size 0 A d f c hA).mono ?_;exact fun r w2 u=>u.imp fun y B x=>by obtain ⟨o,q⟩:=x;rw [o,q];exact ZiH (by simp) hA
  ·refine (Zib K h m _ _ _ a b 0 0 0 n z _ w.heap.size 0 A d f c hA).mono ?_;exact fun r w2 u=>u.imp fun y B x=>by obtain ⟨o,q⟩:=x;rw [o,q];exact ZiI (by simp) hA))
 exact k16
theorem Zjx (c:i.op=13):
  Calls Tryz.prog 131 #[ZQ.p K,ZI.i i] w (ZhV w K h m lo lc ls oo oc bs (ZhS m ls i s)):=by
 obtain ⟨O,e,f⟩:=i;dsimp only at c;subst c;have hb1:Below w.heap.size w ((w.alloc (.cells #[ZQ.p K] 163)).alloc (.cells #[.int .i64 13,.int .i64 e,.int .i64 f] 72)):=by exact bE
 have hbx:=(Blk.new w #[ZQ.p K] 163).alloc (.cells #[.int .i64 13,.int .i64 e,.int .i64 f] 72);have hbi:Blk ((w.alloc (.cells #[ZQ.p K] 163)).alloc (.cells #[.int .i64 13,.int .i64 e,.int .i64 f] 72)) (w.heap.size+1) #[.int .i64 13,.int .i64 e,.int .i64 f] 72:=Blk.new' (w:=w.alloc (.cells #[ZQ.p K] 163)) _ _ (by simp);have M:=Blk.lt H.ck;have H1:=H.old hb1;have HD:=Zh (Zh1 (i:=⟨13,e,f⟩) HW H1 hd 1 1 199 #[.pointer (some ⟨w.heap.size,0,none⟩)] (Zgk (.inl rfl)) (by decide) (by decide) (fun _ _=>rfl) (fun l C n x u G g j d=>by
  obtain ⟨a,rfl⟩:=one_of C;have L:=HW.2 a (List.mem_of_mem_drop (by rw [n];simp));have A:∀ w',Upd K K x w'→Zaz w' h m:=fun w' o=>Hj.old ((g.trans o).below H1.hb (Nat.le_refl _) H1.hK H1.hK);have q:=Blk.upd hbx g (by omega) (by omega);have B:=Blk.upd hbi g (by omega) (by omega);have J:=H1.tl.upd g H1.ck.noTy H1.ck.noTy;refine (Zic K h m _ _ _ a 0 0 0 u G _ w.heap.size 0 x j q d).mono ?_;exact fun r w2 D=>D.imp fun F I E=>by obtain ⟨y,z⟩:=E;rw [y,z];exact ZiJ rfl))
 exact k16
theorem Zjy (c:i.op=27):
  Calls Tryz.prog 131 #[ZQ.p K,ZI.i i] w (ZhV w K h m lo lc ls oo oc bs (ZhS m ls i s)):=by
 obtain ⟨O,e,f⟩:=i;dsimp only at c;subst c;have hb1:Below w.heap.size w ((w.alloc (.cells #[ZQ.p K] 163)).alloc (.cells #[.int .i64 27,.int .i64 e,.int .i64 f] 72)):=by exact bE
 have hbx:=(Blk.new w #[ZQ.p K] 163).alloc (.cells #[.int .i64 27,.int .i64 e,.int .i64 f] 72);have hbi:Blk ((w.alloc (.cells #[ZQ.p K] 163)).alloc (.cells #[.int .i64 27,.int .i64 e,.int .i64 f] 72)) (w.heap.size+1) #[.int .i64 27,.int .i64 e,.int .i64 f] 72:=Blk.new' (w:=w.alloc (.cells #[ZQ.p K] 163)) _ _ (by simp);have M:=Blk.lt H.ck;have H1:=H.old hb1;have HD:=Zh (Zh1 (i:=⟨27,e,f⟩) HW H1 hd 1 0 200 #[.pointer (some ⟨w.heap.size,0,none⟩)] (Zgh (by simp)) (by decide) (by decide) (fun _ _=>rfl) (fun l C n x u G g j d=>by
  obtain ⟨a,rfl⟩:=one_of C;have L:=HW.2 a (List.mem_of_mem_drop (by rw [n];simp));have A:∀ w',Upd K K x w'→Zaz w' h m:=fun w' o=>Hj.old ((g.trans o).below H1.hb (Nat.le_refl _) H1.hK H1.hK);have q:=Blk.upd hbx g (by omega) (by omega);have B:=Blk.upd hbi g (by omega) (by omega);have J:=H1.tl.upd g H1.ck.noTy H1.ck.noTy;refine (Zh8 K h m _ _ _ a 0 0 0 u G _ w.heap.size 0 x j q d).mono ?_;exact fun r w2 D=>D.imp fun F I E=>by obtain ⟨y,z⟩:=E;rw [y,z];exact ZiK (.inl rfl)))
 exact k16
theorem s_1 (A:i.op=1):
  Calls Tryz.prog 131 #[ZQ.p K,ZI.i i] w (ZhV w K h m lo lc ls oo oc bs (ZhS m ls i s)):=by
 obtain ⟨X,f,n⟩:=i;dsimp only at A;subst A;have j:Below w.heap.size w ((w.alloc (.cells #[ZQ.p K] 163)).alloc (.cells #[.int .i64 1,.int .i64 f,.int .i64 n] 72)):=by exact bE
 have z:=(Blk.new w #[ZQ.p K] 163).alloc (.cells #[.int .i64 1,.int .i64 f,.int .i64 n] 72);have y:Blk ((w.alloc (.cells #[ZQ.p K] 163)).alloc (.cells #[.int .i64 1,.int .i64 f,.int .i64 n] 72)) (w.heap.size+1) #[.int .i64 1,.int .i64 f,.int .i64 n] 72:=Blk.new' (w:=w.alloc (.cells #[ZQ.p K] 163)) _ _ (by simp);have W:=Blk.lt H.ck;have E:=H.old j;have HB1:=Zh j;have B:=Zh E;have F:=z.cell 0 (v:=.pointer (some ⟨K,0,none⟩)) rfl;have T:=y.cell 1 (v:=.int .i64 f) rfl;have G:∀ w',Upd K K ((w.alloc (.cells #[ZQ.p K] 163)).alloc (.cells #[.int .i64 1,.int .i64 f,.int .i64 n] 72)) w'→(∃ L S O e,Ck w' K h m L S O e)→(fun w':World=>w'.cell? ⟨w.heap.size,0,none⟩=some (.pointer (some ⟨K,0,none⟩))) w':=fun w' R V=>R.cell F (by show w.heap.size≠K;omega) (by show w.heap.size≠K;omega);have HS:=Zh G;have I:=Zh Hj;obtain ⟨q,g⟩:∃ q,q=((w.alloc (.cells #[ZQ.p K] 163)).alloc (.cells #[.int .i64 1,.int .i64 f,.int .i64 n] 72)):=⟨_,rfl⟩;rw [←g] at HS B HB1;have u:=Zh g;have D:=Zh HW;have U:=Zh hi;have J:=Zh hm;have M:=Zh hlo;clear j z y E H Hj hlo HW hi hm F T G g;go_enter Tryz.func131,Tryz.ntmps131
 go_wp2_with fail
 refine rO (fun w':World=>w'.cell? ⟨w.heap.size,0,none⟩=some (.pointer (some ⟨K,0,none⟩))) (oL [0,101,102]) (u.out▸HS.out _ (Upd.refl K K q).drew ⟨_,_,_,_,Ck.drew B.out.ck⟩) ?_;rw [←u.out];have C:=Zh (show Below q.heap.size q q.drew by exact bE)
 repeat refine pO ?_
 refine oO fun Kv hK=>?_;go_simp;refine (Zho _).mono ?_;rintro r Y ⟨rfl,x⟩;have HB3:=Zh (Zag C.out x);refine hK _ _ ⟨HS.out _ (Upd.of HB3.out) ⟨_,_,_,_,B.out.ck.old HB3.out⟩,?_⟩;clear hK Kv x
 repeat refine pO ?_
 refine oO fun Kv hK=>?_;go_simp;refine (Zjt (i:=⟨1,f,n⟩) D.out (B.out.old HB3.out) hd (Zew) (Zgg (by simp)) (pv1 rfl)).mono ?_;exact k67
theorem Zjz (e:i.op=12):
  Calls Tryz.prog 131 #[ZQ.p K,ZI.i i] w (ZhV w K h m lo lc ls oo oc bs (ZhS m ls i s)):=by
 obtain ⟨n,c,d⟩:=i;dsimp only at e;subst e;have a:Below w.heap.size w ((w.alloc (.cells #[ZQ.p K] 163)).alloc (.cells #[.int .i64 12,.int .i64 c,.int .i64 d] 72)):=by exact bE
 have g:=(Blk.new w #[ZQ.p K] 163).alloc (.cells #[.int .i64 12,.int .i64 c,.int .i64 d] 72);have f:Blk ((w.alloc (.cells #[ZQ.p K] 163)).alloc (.cells #[.int .i64 12,.int .i64 c,.int .i64 d] 72)) (w.heap.size+1) #[.int .i64 12,.int .i64 c,.int .i64 d] 72:=Blk.new' (w:=w.alloc (.cells #[ZQ.p K] 163)) _ _ (by simp);have l:=Blk.lt H.ck;have j:=H.old a;have HD:=Zh (Zjt (i:=⟨12,c,d⟩) HW j hd ⟨c,d⟩ (Zgg (by simp)) (ZfZ rfl));have HB1:=Zh a;clear a g f j H Hj hlo HW hi hm;go_enter Tryz.func131,Tryz.ntmps131;exact k60
theorem s_2 (ah:i.op=2):
  Calls Tryz.prog 131 #[ZQ.p K,ZI.i i] w (ZhV w K h m lo lc ls oo oc bs (ZhS m ls i s)):=by
 obtain ⟨op,j,R⟩:=i;dsimp only at ah;subst ah;have I:Below w.heap.size w ((w.alloc (.cells #[ZQ.p K] 163)).alloc (.cells #[.int .i64 2,.int .i64 j,.int .i64 R] 72)):=by exact bE
 have ae:=(Blk.new w #[ZQ.p K] 163).alloc (.cells #[.int .i64 2,.int .i64 j,.int .i64 R] 72);have ad:Blk ((w.alloc (.cells #[ZQ.p K] 163)).alloc (.cells #[.int .i64 2,.int .i64 j,.int .i64 R] 72)) (w.heap.size+1) #[.int .i64 2,.int .i64 j,.int .i64 R] 72:=Blk.new' (w:=w.alloc (.cells #[ZQ.p K] 163)) _ _ (by simp);have kl:=Blk.lt H.ck;have V:=H.old I;have ha:=hi.a0 (by simp);dsimp only at ha;have hl:=HW.1;have aE:=H.op.len;have E:=Zh (Zfg K h m (.slice lo ls.length lc) so s.stk.length sc oo oc bs 0 0 1 _ V.ck (Zas.of_own V.op.own) (by omega) (by omega) (by omega) (by omega));have W:=Zh I;have L:=Zh V;have ac:=ZhR H.op;obtain ⟨q,hq⟩:∃ q,q=Zff s.stk.length 0 1 (Ze6 bs):=⟨_,rfl⟩;rw [←hq] at E;have HQ:=Zh hq;have X:=Zh ac;have HX:=Zh (And.intro ae ad);have n:=Zh V.ck.noTy;clear I H Hj hlo HW hi hm ac hq ae ad V;rcases q with _|_
 ·go_enter Tryz.func131,Tryz.ntmps131
  go_wp2_with (go_at_call 194;refine E.out.mono ?_;rintro r D ⟨rfl,y,z⟩;have e:=Zh z;have f:=Zh y;clear z y)
  go_end0;refine ZhV.bel ⟨⟨_,rfl⟩,e.out,?_⟩ W.out;have J:ZhS m ls ⟨2,j,R⟩ s=(12,s.stk):=by
   have G:=HQ.out;rw [X.out] at G;unfold ZhS;rw [Zgg (by simp)];rw [if_pos (by
    have Z:=G.symm;simp only [Zff,Bool.and_eq_false_iff,decide_eq_false_iff_not] at Z;omega)]
  rw [J];exact ⟨so,sc,s.stk,f.out,L.out.ts.upd e.out n.out n.out,by omega,fun h0=>by cases h0⟩
 ·go_enter Tryz.func131,Tryz.ntmps131
  go_upto_region 7 with fail
  go_wp2_with (go_at_call 194;refine E.out.mono ?_;rintro r D ⟨rfl,y,z⟩;have e:=Zh z;have f:=Zh (show Ck D K h m (.slice lo ls.length lc) (.slice so s.stk.length sc) (.slice oo bs.length oc) 0 from y);clear z y;have cc:=(Blk.upd HX.out.1 e.out (by omega) (by omega)).cell 0 (v:=.pointer (some ⟨K,0,none⟩)) rfl;have i1:=(Blk.upd HX.out.2 e.out (by omega) (by omega)).cell 1 (v:=.int .i64 j) rfl)
  have aG:w.heap.size+1<D.heap.size:=Zad i1;have hS:∀ w',Upd K K D w'→(fun w':World=>w'.cell? ⟨w.heap.size,0,none⟩=some (.pointer (some ⟨K,0,none⟩))∧w'.cell? ⟨w.heap.size+1,1,none⟩=some (.int .i64 j)) w':=fun w' O=>⟨O.cell cc (by show w.heap.size≠K;omega) (by show w.heap.size≠K;omega),O.cell i1 (by show w.heap.size+1≠K;omega) (by show w.heap.size+1≠K;omega)⟩;have HS:=Zh hS;obtain ⟨⟨U,T⟩,O⟩:∃ x:Ty,x=ls.getD j.toNat default:=⟨_,rfl⟩;obtain ⟨lb,g⟩:∃ x:Bool,x=decide (j<ls.length):=⟨_,rfl⟩;have ap:=Zh (show ∀ w':World,Upd K K D w'→Ck w' K h m (.slice lo ls.length lc) (.slice so s.stk.length sc) (.slice oo bs.length oc) 0→Calls Tryz.prog 190 #[ZQ.p K,.int .i64 j] w' fun r u=>r=.returned (.agg #[.int .i64 U,.int .i64 T])∧Ck u K h m (.slice lo ls.length lc) (.slice so s.stk.length sc) (.slice oo bs.length oc) (ZeV 0 lb)∧Upd K K w' u from fun w' C M=>by
   have:=Zhy K h m (.slice so s.stk.length sc) (.slice oo bs.length oc) lo lc ls 0 j w' M ((L.out.tl.upd e.out n.out n.out).upd C f.out.noTy f.out.noTy).1 ha;rw [←O,←g] at this;exact this)
  have ar:=Zh (show ∀ w':World,Upd K K D w'→Ck w' K h m (.slice lo ls.length lc) (.slice so s.stk.length sc) (.slice oo bs.length oc) (ZeV 0 lb)→Calls Tryz.prog 193 #[ZQ.p K,.agg #[.int .i64 U,.int .i64 T]] w' fun r u=>(∃ v,r=.returned v)∧Upd K K w' u∧∃ B A,ZeR u B A (s.stk++[⟨U,T⟩])∧Ck u K h m (.slice lo ls.length lc) (.slice B (s.stk++[(⟨U,T⟩:Ty)]).length A) (.slice oo bs.length oc) (ZeV 0 lb) from fun w' C M=>by
   have ai:=(L.out.op.upd e.out n.out L.out.ne).upd C f.out.noTy L.out.ne;refine (Zjs K h m (.slice lo ls.length lc) so sc s.stk oo oc bs (ZeV 0 lb) ⟨U,T⟩ w' M ((L.out.ts.upd e.out n.out n.out).upd C f.out.noTy f.out.noTy) (by omega) (Zas.of_own ai.own) (by omega)).mono ?_;rintro r u ⟨G,Z,h3⟩;refine ⟨G,Z,?_⟩;rcases h3 with ⟨h3,_⟩|⟨_,h3⟩
   ·have h9:=HQ.out;rw [h3] at h9;cases h9
   ·exact h3)
  have aq:=Zh O;have ao:=Zh g;clear hS cc i1 O g;refine rO (fun w':World=>w'.cell? ⟨w.heap.size,0,none⟩=some (.pointer (some ⟨K,0,none⟩))∧w'.cell? ⟨w.heap.size+1,1,none⟩=some (.int .i64 j)) (oL [0,1,2,3,104,105]) (HS.out _ (Upd.refl K K D).drew) ?_
  repeat refine pO ?_
  refine oO fun Kv hK=>?_;go_simp;refine (ap.out _ (Upd.refl K K D).drew (Ck.drew f.out)).mono ?_;rintro r w3 ⟨rfl,af,aj⟩;have F:=Zh ((Upd.refl K K D).drew.trans aj);have am:=Zh af;refine hK _ _ ⟨HS.out _ F.out,?_⟩;clear hK Kv af aj
  repeat refine pO ?_
  refine oO fun Kv hK=>?_;go_simp;refine (ar.out _ F.out am.out).mono ?_;rintro r w4 ⟨⟨v4,rfl⟩,ak,ag⟩;have Y:=Zh (F.out.trans ak);have an:=Zh ag;refine hK _ _ ⟨HS.out _ Y.out,?_⟩;clear hK Kv ak ag;refine Zd7 ?_;go_wp2;go_end0;refine ZhV.bel ⟨⟨_,rfl⟩,e.out.trans Y.out,?_⟩ W.out;obtain ⟨B,A,ht,M⟩:=an.out;have J:ZhS m ls ⟨2,j,R⟩ s=if j<ls.length then (0,s.stk++[⟨U,T⟩]) else (11,s.stk):=by
   have G:=HQ.out;rw [X.out] at G;unfold ZhS;rw [Zgg (by simp),pv2 (by rfl)];rw [if_neg (by
    have Z:=G.symm;simp only [Zff,Bool.and_eq_true,decide_eq_true_eq] at Z;omega)]
   dsimp only;by_cases hlt:j<ls.length
   ·rw [if_pos hlt,getD_some (by omega),←aq.out];simp
   ·rw [if_neg hlt,List.getElem?_eq_none (by omega)]
  rw [J];have g:=ao.out;by_cases hlt:j<ls.length
  ·rw [if_pos hlt];rw [decide_eq_true hlt] at g;subst g;exact ⟨B,A,_,M,ht,by simp;omega,fun _=>rfl⟩
  ·rw [if_neg hlt];rw [decide_eq_false hlt] at g;subst g;exact ⟨B,A,_,M,ht,by simp;omega,fun h0=>by cases h0⟩
end
end
section
open Go.RowKit
section
variable {w0 w:World}{K:Nat}{h:Hd}{m:Md}{lo:Option Addr}{lc:Nat}{ls:List Ty}{s:Ps}{so:Option Addr}{sc:Nat}{oo:Option Addr}{oc:Nat}{bs:List VB}{i:In3}{k:Nat}(hm:Za2 m=true)(hlo:∀ t∈ls,Zfk m t)(HW:Zfl m s.stk)(H:St w0 w K h m lo lc ls s so sc oo oc bs)(Hj:Zaz w0 h m)(hd:s.opn.length≤6)(hi:ZfU m k i)
include w0 w K h m lo lc ls s so sc oo oc bs i k hm hlo HW H Hj hd hi
theorem ZjA (e:i.op=17):
  Calls Tryz.prog 201 #[ZQ.p K,ZI.i i] w (ZhV w K h m lo lc ls oo oc bs (ZhS m ls i s)):=by
 obtain ⟨P,c,d⟩:=i;dsimp only at e;subst e;have hb1:Below w.heap.size w ((w.alloc (.cells #[ZQ.p K] 163)).alloc (.cells #[.int .i64 17,.int .i64 c,.int .i64 d] 72)):=by exact bE
 have hbx:=(Blk.new w #[ZQ.p K] 163).alloc (.cells #[.int .i64 17,.int .i64 c,.int .i64 d] 72);have hbi:Blk ((w.alloc (.cells #[ZQ.p K] 163)).alloc (.cells #[.int .i64 17,.int .i64 c,.int .i64 d] 72)) (w.heap.size+1) #[.int .i64 17,.int .i64 c,.int .i64 d] 72:=Blk.new' (w:=w.alloc (.cells #[ZQ.p K] 163)) _ _ (by simp);have O:=Blk.lt H.ck;have H1:=H.old hb1;have HD:=Zh (Zh1 (i:=⟨17,c,d⟩) HW H1 hd 1 1 257 #[.pointer (some ⟨w.heap.size,0,none⟩),.pointer (some ⟨w.heap.size+1,0,none⟩)] (Zgk (by simp)) (by decide) (by decide) (fun _ _=>rfl) (fun l E o z y J g n f=>by
  obtain ⟨a,rfl⟩:=one_of E;have C:=HW.2 a (List.mem_of_mem_drop (by rw [o];simp));have j:∀ w',Upd K K z w'→Zaz w' h m:=fun w' u=>Hj.old ((g.trans u).below H1.hb (Nat.le_refl _) H1.hK H1.hK);have x:=Blk.upd hbx g (by omega) (by omega);have q:=Blk.upd hbi g (by omega) (by omega);have M:=H1.tl.upd g H1.ck.noTy H1.ck.noTy;refine (Zid K h m _ _ _ a 17 c d y J _ w.heap.size (w.heap.size+1) z n j x q f (hi.a0 (by simp)) (fun D=>ZfH C (.inl D))).mono ?_;exact fun r w2 F=>F.imp fun I L G=>by obtain ⟨A,B⟩:=G;rw [A,B];exact ZiL rfl))
 exact k28
theorem ZjB (f:i.op=18):
  Calls Tryz.prog 201 #[ZQ.p K,ZI.i i] w (ZhV w K h m lo lc ls oo oc bs (ZhS m ls i s)):=by
 obtain ⟨Q,c,d⟩:=i;dsimp only at f;subst f;have hb1:Below w.heap.size w ((w.alloc (.cells #[ZQ.p K] 163)).alloc (.cells #[.int .i64 18,.int .i64 c,.int .i64 d] 72)):=by exact bE
 have hbx:=(Blk.new w #[ZQ.p K] 163).alloc (.cells #[.int .i64 18,.int .i64 c,.int .i64 d] 72);have hbi:Blk ((w.alloc (.cells #[ZQ.p K] 163)).alloc (.cells #[.int .i64 18,.int .i64 c,.int .i64 d] 72)) (w.heap.size+1) #[.int .i64 18,.int .i64 c,.int .i64 d] 72:=Blk.new' (w:=w.alloc (.cells #[ZQ.p K] 163)) _ _ (by simp);have P:=Blk.lt H.ck;have H1:=H.old hb1;have HD:=Zh (Zh1 (i:=⟨18,c,d⟩) HW H1 hd 2 0 259 #[.pointer (some ⟨w.heap.size,0,none⟩),.pointer (some ⟨w.heap.size+1,0,none⟩)] (Zgl rfl) (by decide) (by decide) (fun _ _=>rfl) (fun l F e A y L j o g=>by
  obtain ⟨a,b,rfl⟩:=Zi1 F;have z:=HW.2 a (List.mem_of_mem_drop (by rw [e];simp));have D:=HW.2 b (List.mem_of_mem_drop (by rw [e];simp));have n:∀ w',Upd K K A w'→Zaz w' h m:=fun w' u=>Hj.old ((j.trans u).below H1.hb (Nat.le_refl _) H1.hK H1.hK);have x:=Blk.upd hbx j (by omega) (by omega);have q:=Blk.upd hbi j (by omega) (by omega);have O:=H1.tl.upd j H1.ck.noTy H1.ck.noTy;refine (Zie K h m _ _ _ a b 18 c d y L _ w.heap.size (w.heap.size+1) A o n x q g (hi.a0 (by simp)) (fun E=>ZfH z (.inl E))).mono ?_;exact fun r w2 G=>G.imp fun J M I=>by obtain ⟨B,C⟩:=I;rw [B,C];exact ZiO hm z D rfl))
 exact k28
theorem ZjC (d:i.op=19):
  Calls Tryz.prog 201 #[ZQ.p K,ZI.i i] w (ZhV w K h m lo lc ls oo oc bs (ZhS m ls i s)):=by
 obtain ⟨P,f,g⟩:=i;dsimp only at d;subst d;have hb1:Below w.heap.size w ((w.alloc (.cells #[ZQ.p K] 163)).alloc (.cells #[.int .i64 19,.int .i64 f,.int .i64 g] 72)):=by exact bE
 have hbx:=(Blk.new w #[ZQ.p K] 163).alloc (.cells #[.int .i64 19,.int .i64 f,.int .i64 g] 72);have hbi:Blk ((w.alloc (.cells #[ZQ.p K] 163)).alloc (.cells #[.int .i64 19,.int .i64 f,.int .i64 g] 72)) (w.heap.size+1) #[.int .i64 19,.int .i64 f,.int .i64 g] 72:=Blk.new' (w:=w.alloc (.cells #[ZQ.p K] 163)) _ _ (by simp);have O:=Blk.lt H.ck;have H1:=H.old hb1;have HD:=Zh (Zh1 (i:=⟨19,f,g⟩) HW H1 hd 2 1 260 #[.pointer (some ⟨w.heap.size,0,none⟩)] (Zgj (by simp)) (by decide) (by decide) (fun _ _=>rfl) (fun l C c x u G j n e=>by
  obtain ⟨a,b,rfl⟩:=Zi1 C;have L:=HW.2 a (List.mem_of_mem_drop (by rw [c];simp));have M:=HW.2 b (List.mem_of_mem_drop (by rw [c];simp));have A:∀ w',Upd K K x w'→Zaz w' h m:=fun w' o=>Hj.old ((j.trans o).below H1.hb (Nat.le_refl _) H1.hK H1.hK);have q:=Blk.upd hbx j (by omega) (by omega);have B:=Blk.upd hbi j (by omega) (by omega);have J:=H1.tl.upd j H1.ck.noTy H1.ck.noTy;refine (Zif K h m _ _ _ a b 0 0 0 u G _ w.heap.size 0 x n q e).mono ?_;exact fun r w2 D=>D.imp fun F I E=>by obtain ⟨y,z⟩:=E;rw [y,z];exact ZiP rfl))
 exact k28
theorem ZjD (e:i.op=20):
  Calls Tryz.prog 201 #[ZQ.p K,ZI.i i] w (ZhV w K h m lo lc ls oo oc bs (ZhS m ls i s)):=by
 obtain ⟨R,g,j⟩:=i;dsimp only at e;subst e;have hb1:Below w.heap.size w ((w.alloc (.cells #[ZQ.p K] 163)).alloc (.cells #[.int .i64 20,.int .i64 g,.int .i64 j] 72)):=by exact bE
 have hbx:=(Blk.new w #[ZQ.p K] 163).alloc (.cells #[.int .i64 20,.int .i64 g,.int .i64 j] 72);have hbi:Blk ((w.alloc (.cells #[ZQ.p K] 163)).alloc (.cells #[.int .i64 20,.int .i64 g,.int .i64 j] 72)) (w.heap.size+1) #[.int .i64 20,.int .i64 g,.int .i64 j] 72:=Blk.new' (w:=w.alloc (.cells #[ZQ.p K] 163)) _ _ (by simp);have Q:=Blk.lt H.ck;have H1:=H.old hb1;have HD:=Zh (Zh1 (i:=⟨20,g,j⟩) HW H1 hd 3 0 262 #[.pointer (some ⟨w.heap.size,0,none⟩)] (Zgm rfl) (by decide) (by decide) (fun _ _=>rfl) (fun l F c A z L n q f=>by
  obtain ⟨a,b,d,rfl⟩:=Zi2 F;have D:=HW.2 a (List.mem_of_mem_drop (by rw [c];simp));have P:=HW.2 b (List.mem_of_mem_drop (by rw [c];simp));have u:=HW.2 d (List.mem_of_mem_drop (by rw [c];simp));have o:∀ w',Upd K K A w'→Zaz w' h m:=fun w' x=>Hj.old ((n.trans x).below H1.hb (Nat.le_refl _) H1.hK H1.hK);have y:=Blk.upd hbx n (by omega) (by omega);have E:=Blk.upd hbi n (by omega) (by omega);have O:=H1.tl.upd n H1.ck.noTy H1.ck.noTy;refine (Zig K h m _ _ _ a b d 0 0 0 z L _ w.heap.size 0 A q o y f).mono ?_;exact fun r w2 G=>G.imp fun J M I=>by obtain ⟨B,C⟩:=I;rw [B,C];exact ZiQ hm D u rfl))
 exact k28
theorem ZjE (c:i.op=21):
  Calls Tryz.prog 201 #[ZQ.p K,ZI.i i] w (ZhV w K h m lo lc ls oo oc bs (ZhS m ls i s)):=by
 obtain ⟨O,e,f⟩:=i;dsimp only at c;subst c;have hb1:Below w.heap.size w ((w.alloc (.cells #[ZQ.p K] 163)).alloc (.cells #[.int .i64 21,.int .i64 e,.int .i64 f] 72)):=by exact bE
 have hbx:=(Blk.new w #[ZQ.p K] 163).alloc (.cells #[.int .i64 21,.int .i64 e,.int .i64 f] 72);have hbi:Blk ((w.alloc (.cells #[ZQ.p K] 163)).alloc (.cells #[.int .i64 21,.int .i64 e,.int .i64 f] 72)) (w.heap.size+1) #[.int .i64 21,.int .i64 e,.int .i64 f] 72:=Blk.new' (w:=w.alloc (.cells #[ZQ.p K] 163)) _ _ (by simp);have M:=Blk.lt H.ck;have H1:=H.old hb1;have HD:=Zh (Zh1 (i:=⟨21,e,f⟩) HW H1 hd 1 1 263 #[.pointer (some ⟨w.heap.size,0,none⟩)] (Zgk (by simp)) (by decide) (by decide) (fun _ _=>rfl) (fun l C n x u G g j d=>by
  obtain ⟨a,rfl⟩:=one_of C;have L:=HW.2 a (List.mem_of_mem_drop (by rw [n];simp));have A:∀ w',Upd K K x w'→Zaz w' h m:=fun w' o=>Hj.old ((g.trans o).below H1.hb (Nat.le_refl _) H1.hK H1.hK);have q:=Blk.upd hbx g (by omega) (by omega);have B:=Blk.upd hbi g (by omega) (by omega);have J:=H1.tl.upd g H1.ck.noTy H1.ck.noTy;refine (Zih K h m _ _ _ a 0 0 0 u G _ w.heap.size 0 x j q d).mono ?_;exact fun r w2 D=>D.imp fun F I E=>by obtain ⟨y,z⟩:=E;rw [y,z];exact ZiR rfl))
 exact k28
theorem ZjF (e:i.op=23):
  Calls Tryz.prog 201 #[ZQ.p K,ZI.i i] w (ZhV w K h m lo lc ls oo oc bs (ZhS m ls i s)):=by
 obtain ⟨O,c,d⟩:=i;dsimp only at e;subst e;have hb1:Below w.heap.size w ((w.alloc (.cells #[ZQ.p K] 163)).alloc (.cells #[.int .i64 23,.int .i64 c,.int .i64 d] 72)):=by exact bE
 have hbx:=(Blk.new w #[ZQ.p K] 163).alloc (.cells #[.int .i64 23,.int .i64 c,.int .i64 d] 72);have hbi:Blk ((w.alloc (.cells #[ZQ.p K] 163)).alloc (.cells #[.int .i64 23,.int .i64 c,.int .i64 d] 72)) (w.heap.size+1) #[.int .i64 23,.int .i64 c,.int .i64 d] 72:=Blk.new' (w:=w.alloc (.cells #[ZQ.p K] 163)) _ _ (by simp);have M:=Blk.lt H.ck;have H1:=H.old hb1;have HD:=Zh (Zh1 (i:=⟨23,c,d⟩) HW H1 hd 1 0 264 #[.pointer (some ⟨w.heap.size,0,none⟩),.pointer (some ⟨w.heap.size+1,0,none⟩)] (Zgh (by simp)) (by decide) (by decide) (fun _ _=>rfl) (fun l D o z y I g n f=>by
  obtain ⟨a,rfl⟩:=one_of D;have C:=HW.2 a (List.mem_of_mem_drop (by rw [o];simp));have j:∀ w',Upd K K z w'→Zaz w' h m:=fun w' u=>Hj.old ((g.trans u).below H1.hb (Nat.le_refl _) H1.hK H1.hK);have x:=Blk.upd hbx g (by omega) (by omega);have q:=Blk.upd hbi g (by omega) (by omega);have L:=H1.tl.upd g H1.ck.noTy H1.ck.noTy;refine (Zjd K h m _ _ _ a 23 c d y I _ w.heap.size (w.heap.size+1) z n j x q f (hi.a0 (by simp)) (hi.o22 (.inr rfl))).mono ?_;exact fun r w2 E=>E.imp fun G J F=>by obtain ⟨A,B⟩:=F;rw [A,B];exact ZiS hm C rfl (hi.a0 (by simp)) (hi.o22 (.inr rfl))))
 exact k28
theorem ZjG (x:i.op=24):
  Calls Tryz.prog 201 #[ZQ.p K,ZI.i i] w (ZhV w K h m lo lc ls oo oc bs (ZhS m ls i s)):=by
 obtain ⟨O,d,e⟩:=i;dsimp only at x;subst x;have hb1:Below w.heap.size w ((w.alloc (.cells #[ZQ.p K] 163)).alloc (.cells #[.int .i64 24,.int .i64 d,.int .i64 e] 72)):=by exact bE
 have hbx:=(Blk.new w #[ZQ.p K] 163).alloc (.cells #[.int .i64 24,.int .i64 d,.int .i64 e] 72);have hbi:Blk ((w.alloc (.cells #[ZQ.p K] 163)).alloc (.cells #[.int .i64 24,.int .i64 d,.int .i64 e] 72)) (w.heap.size+1) #[.int .i64 24,.int .i64 d,.int .i64 e] 72:=Blk.new' (w:=w.alloc (.cells #[ZQ.p K] 163)) _ _ (by simp);have M:=Blk.lt H.ck;have H1:=H.old hb1;have HD:=Zh (Zh1 (i:=⟨24,d,e⟩) HW H1 hd 1 1 265 #[.pointer (some ⟨w.heap.size+1,0,none⟩),.pointer (some ⟨w.heap.size,0,none⟩)] (Zgk (by simp)) (by decide) (by decide) (fun _ _=>rfl) (fun l J E C o G B g c=>by
  obtain ⟨a,rfl⟩:=one_of J;have D:=HW.2 a (List.mem_of_mem_drop (by rw [E];simp));have f:∀ w',Upd K K C w'→Zaz w' h m:=fun w' F=>Hj.old ((B.trans F).below H1.hb (Nat.le_refl _) H1.hK H1.hK);have n:=Blk.upd hbx B (by omega) (by omega);have j:=Blk.upd hbi B (by omega) (by omega);have L:=H1.tl.upd B H1.ck.noTy H1.ck.noTy;by_cases hk:a.k=2
  ·by_cases hf:Zhr m a ⟨2,d⟩=true
   ·refine (Zjf K h m _ _ _ a 24 d e o G _ w.heap.size (w.heap.size+1) C g f n j c hk hf).mono ?_;exact fun r w2 y=>y.imp fun A I z=>by obtain ⟨q,u⟩:=z;rw [q];exact ZiT hm D rfl (hi.a0 (by simp)) (hi.o14 (.inr rfl)) (by rw [u,if_pos hk,if_pos hf])
   ·refine (Zjg K h m _ _ _ a 24 d e o G _ w.heap.size (w.heap.size+1) C g f n j c hk (by simpa using hf)).mono ?_;exact fun r w2 y=>y.imp fun A I z=>by obtain ⟨q,u⟩:=z;rw [q];exact ZiT hm D rfl (hi.a0 (by simp)) (hi.o14 (.inr rfl)) (by rw [u,if_pos hk,if_neg hf])
  ·refine (Zje K h m _ _ _ a 24 d e o G _ w.heap.size (w.heap.size+1) C g f n j c hk).mono ?_;exact fun r w2 y=>y.imp fun A I z=>by obtain ⟨q,u⟩:=z;rw [q];exact ZiT hm D rfl (hi.a0 (by simp)) (hi.o14 (.inr rfl)) (by rw [u,if_neg hk])))
 exact k28
theorem ZjH (A:i.op=14):
  Calls Tryz.prog 201 #[ZQ.p K,ZI.i i] w (ZhV w K h m lo lc ls oo oc bs (ZhS m ls i s)):=by
 obtain ⟨X,f,n⟩:=i;dsimp only at A;subst A;have j:Below w.heap.size w ((w.alloc (.cells #[ZQ.p K] 163)).alloc (.cells #[.int .i64 14,.int .i64 f,.int .i64 n] 72)):=by exact bE
 have z:=(Blk.new w #[ZQ.p K] 163).alloc (.cells #[.int .i64 14,.int .i64 f,.int .i64 n] 72);have y:Blk ((w.alloc (.cells #[ZQ.p K] 163)).alloc (.cells #[.int .i64 14,.int .i64 f,.int .i64 n] 72)) (w.heap.size+1) #[.int .i64 14,.int .i64 f,.int .i64 n] 72:=Blk.new' (w:=w.alloc (.cells #[ZQ.p K] 163)) _ _ (by simp);have W:=Blk.lt H.ck;have E:=H.old j;have HB1:=Zh j;have B:=Zh E;have F:=z.cell 0 (v:=.pointer (some ⟨K,0,none⟩)) rfl;have J:=y.cell 1 (v:=.int .i64 f) rfl;have G:∀ w',Upd K K ((w.alloc (.cells #[ZQ.p K] 163)).alloc (.cells #[.int .i64 14,.int .i64 f,.int .i64 n] 72)) w'→(∃ L S O e,Ck w' K h m L S O e)→(fun w':World=>w'.cell? ⟨w.heap.size,0,none⟩=some (.pointer (some ⟨K,0,none⟩))∧w'.cell? ⟨w.heap.size+1,1,none⟩=some (.int .i64 f)) w':=fun w' I V=>⟨I.cell F (by show w.heap.size≠K;omega) (by show w.heap.size≠K;omega),I.cell J (by show w.heap.size+1≠K;omega) (by show w.heap.size+1≠K;omega)⟩;have HS:=Zh G;have M:=Zh Hj;obtain ⟨q,g⟩:∃ q,q=((w.alloc (.cells #[ZQ.p K] 163)).alloc (.cells #[.int .i64 14,.int .i64 f,.int .i64 n] 72)):=⟨_,rfl⟩;rw [←g] at HS B HB1;have u:=Zh g;have D:=Zh HW;have U:=Zh hi;have R:=Zh hm;have T:=Zh hlo;clear j z y E H Hj hlo HW hi hm F J G g;go_enter Tryz.func201,Tryz.ntmps201
 go_wp2_with fail
 refine rO (fun w':World=>w'.cell? ⟨w.heap.size,0,none⟩=some (.pointer (some ⟨K,0,none⟩))∧w'.cell? ⟨w.heap.size+1,1,none⟩=some (.int .i64 f)) (oL [0,1,2,103,104]) (u.out▸HS.out _ (Upd.refl K K q).drew ⟨_,_,_,_,Ck.drew B.out.ck⟩) ?_;rw [←u.out];have C:=Zh (show Below q.heap.size q q.drew by exact bE)
 repeat refine pO ?_
 refine oO fun Kv hK=>?_;go_simp;refine (Zhq _ _).mono ?_;rintro r Y ⟨rfl,x⟩;have HB3:=Zh (Zag C.out x);refine hK _ _ ⟨HS.out _ (Upd.of HB3.out) ⟨_,_,_,_,B.out.ck.old HB3.out⟩,?_⟩;clear hK Kv x
 repeat refine pO ?_
 refine oO fun Kv hK=>?_;go_simp;refine (Zjt (i:=⟨14,f,n⟩) D.out (B.out.old HB3.out) hd (⟨2,f⟩) (Zgg (by simp)) (Zf1 rfl)).mono ?_;exact k67
theorem ZjI (A:i.op=15):
  Calls Tryz.prog 201 #[ZQ.p K,ZI.i i] w (ZhV w K h m lo lc ls oo oc bs (ZhS m ls i s)):=by
 obtain ⟨X,f,n⟩:=i;dsimp only at A;subst A;have j:Below w.heap.size w ((w.alloc (.cells #[ZQ.p K] 163)).alloc (.cells #[.int .i64 15,.int .i64 f,.int .i64 n] 72)):=by exact bE
 have z:=(Blk.new w #[ZQ.p K] 163).alloc (.cells #[.int .i64 15,.int .i64 f,.int .i64 n] 72);have y:Blk ((w.alloc (.cells #[ZQ.p K] 163)).alloc (.cells #[.int .i64 15,.int .i64 f,.int .i64 n] 72)) (w.heap.size+1) #[.int .i64 15,.int .i64 f,.int .i64 n] 72:=Blk.new' (w:=w.alloc (.cells #[ZQ.p K] 163)) _ _ (by simp);have W:=Blk.lt H.ck;have E:=H.old j;have HB1:=Zh j;have B:=Zh E;have F:=z.cell 0 (v:=.pointer (some ⟨K,0,none⟩)) rfl;have T:=y.cell 1 (v:=.int .i64 f) rfl;have G:∀ w',Upd K K ((w.alloc (.cells #[ZQ.p K] 163)).alloc (.cells #[.int .i64 15,.int .i64 f,.int .i64 n] 72)) w'→(∃ L S O e,Ck w' K h m L S O e)→(fun w':World=>w'.cell? ⟨w.heap.size,0,none⟩=some (.pointer (some ⟨K,0,none⟩))) w':=fun w' R V=>R.cell F (by show w.heap.size≠K;omega) (by show w.heap.size≠K;omega);have HS:=Zh G;have I:=Zh Hj;obtain ⟨q,g⟩:∃ q,q=((w.alloc (.cells #[ZQ.p K] 163)).alloc (.cells #[.int .i64 15,.int .i64 f,.int .i64 n] 72)):=⟨_,rfl⟩;rw [←g] at HS B HB1;have u:=Zh g;have D:=Zh HW;have U:=Zh hi;have J:=Zh hm;have M:=Zh hlo;clear j z y E H Hj hlo HW hi hm F T G g;go_enter Tryz.func201,Tryz.ntmps201
 go_wp2_with fail
 refine rO (fun w':World=>w'.cell? ⟨w.heap.size,0,none⟩=some (.pointer (some ⟨K,0,none⟩))) (oL [0,101,102]) (u.out▸HS.out _ (Upd.refl K K q).drew ⟨_,_,_,_,Ck.drew B.out.ck⟩) ?_;rw [←u.out];have C:=Zh (show Below q.heap.size q q.drew by exact bE)
 repeat refine pO ?_
 refine oO fun Kv hK=>?_;go_simp;refine (Zhp _).mono ?_;rintro r Y ⟨rfl,x⟩;have HB3:=Zh (Zag C.out x);refine hK _ _ ⟨HS.out _ (Upd.of HB3.out) ⟨_,_,_,_,B.out.ck.old HB3.out⟩,?_⟩;clear hK Kv x
 repeat refine pO ?_
 refine oO fun Kv hK=>?_;go_simp;refine (Zjt (i:=⟨15,f,n⟩) D.out (B.out.old HB3.out) hd (⟨3,0⟩) (Zgg (by simp)) (Zf2 rfl)).mono ?_;exact k67
theorem ZjJ (d:i.op=16):
  Calls Tryz.prog 201 #[ZQ.p K,ZI.i i] w (ZhV w K h m lo lc ls oo oc bs (ZhS m ls i s)):=by
 obtain ⟨n,e,c⟩:=i;dsimp only at d;subst d;have a:Below w.heap.size w ((w.alloc (.cells #[ZQ.p K] 163)).alloc (.cells #[.int .i64 16,.int .i64 e,.int .i64 c] 72)):=by exact bE
 have g:=(Blk.new w #[ZQ.p K] 163).alloc (.cells #[.int .i64 16,.int .i64 e,.int .i64 c] 72);have f:Blk ((w.alloc (.cells #[ZQ.p K] 163)).alloc (.cells #[.int .i64 16,.int .i64 e,.int .i64 c] 72)) (w.heap.size+1) #[.int .i64 16,.int .i64 e,.int .i64 c] 72:=Blk.new' (w:=w.alloc (.cells #[ZQ.p K] 163)) _ _ (by simp);have l:=Blk.lt H.ck;have j:=H.old a;have HD:=Zh (Zjt (i:=⟨16,e,c⟩) HW j hd ⟨4,c⟩ (Zgg (by simp)) (Zf3 rfl));have HB1:=Zh a;clear a g f j H Hj hlo HW hi hm;go_enter Tryz.func201,Tryz.ntmps201;exact k60
theorem ZjK (R:i.op=22):
  Calls Tryz.prog 201 #[ZQ.p K,ZI.i i] w (ZhV w K h m lo lc ls oo oc bs (ZhS m ls i s)):=by
 obtain ⟨op,f,j⟩:=i;dsimp only at R;subst R;have Y:=hi.a0 (by simp);dsimp only at Y;obtain ⟨f,rfl⟩:∃ d:Nat,f=d:=⟨f.toNat,by omega⟩;have u:Below w.heap.size w ((w.alloc (.cells #[ZQ.p K] 163)).alloc (.cells #[.int .i64 22,.int .i64 f,.int .i64 j] 72)):=by exact bE
 have G:=(Blk.new w #[ZQ.p K] 163).alloc (.cells #[.int .i64 22,.int .i64 f,.int .i64 j] 72);have F:Blk ((w.alloc (.cells #[ZQ.p K] 163)).alloc (.cells #[.int .i64 22,.int .i64 f,.int .i64 j] 72)) (w.heap.size+1) #[.int .i64 22,.int .i64 f,.int .i64 j] 72:=Blk.new' (w:=w.alloc (.cells #[ZQ.p K] 163)) _ _ (by simp);have kl:=Blk.lt H.ck;have D:=H.old u;have Z:=hi.o22 (.inl rfl);dsimp only at Z;have J:f<m.st.length:=by omega
 have n:∀ w',Upd K K ((w.alloc (.cells #[ZQ.p K] 163)).alloc (.cells #[.int .i64 22,.int .i64 f,.int .i64 j] 72)) w'→Zaz w' h m:=fun w' aa=>Hj.old (aa.below D.hb (Nat.le_refl _) D.hK D.hK);obtain ⟨⟨U,T⟩,y⟩:∃ x:Ty,x=m.st.getD f default:=⟨_,rfl⟩;obtain ⟨g,z,-,-⟩:=ZaA (n _ (Upd.refl K K _)).st J;have A:∀ w',Upd K K ((w.alloc (.cells #[ZQ.p K] 163)).alloc (.cells #[.int .i64 22,.int .i64 f,.int .i64 j] 72)) w'→w'.cell? (g.add (f*2))=some (.int .i64 U)∧w'.cell? ⟨(g.add (f*2)).block,(g.add (f*2)).off+1,none⟩=some (.int .i64 T):=fun w' C=>by obtain ⟨ad,h1,h2,h3⟩:=ZaA (n w' C).st J;rw [z] at h1;cases h1;rw [←y] at h2 h3;exact ⟨h2,h3⟩
 have M:∀ w',(∃ L S O e,Ck w' K h m L S O e)→w'.cell? ⟨K,1,none⟩=some (.slice (some g) m.st.length h.sc):=fun w' I=>by obtain ⟨L,S,O,e,I⟩:=I;have:=I.cells.2.2.1;rwa [z] at this
 have X:=Zh y;clear n y;have HB1:=Zh u;have V:=Zh D;have cc:=G.cell 0 (v:=.pointer (some ⟨K,0,none⟩)) rfl;have i1:=F.cell 1 (v:=.int .i64 f) rfl;have hS:∀ w',Upd K K ((w.alloc (.cells #[ZQ.p K] 163)).alloc (.cells #[.int .i64 22,.int .i64 f,.int .i64 j] 72)) w'→(∃ L S O e,Ck w' K h m L S O e)→(fun w':World=>w'.cell? ⟨w.heap.size,0,none⟩=some (.pointer (some ⟨K,0,none⟩))∧w'.cell? ⟨w.heap.size+1,1,none⟩=some (.int .i64 f)∧w'.cell? ⟨K,1,none⟩=some (.slice (some g) m.st.length h.sc)∧w'.cell? (g.add (f*2))=some (.int .i64 U)∧w'.cell? ⟨(g.add (f*2)).block,(g.add (f*2)).off+1,none⟩=some (.int .i64 T)) w':=fun w' C I=>⟨C.cell cc (by show w.heap.size≠K;omega) (by show w.heap.size≠K;omega),C.cell i1 (by show w.heap.size+1≠K;omega) (by show w.heap.size+1≠K;omega),M w' I,(A w' C).1,(A w' C).2⟩;have HS:=Zh hS;have ah:=Zh Hj;obtain ⟨B,q⟩:∃ B,B=((w.alloc (.cells #[ZQ.p K] 163)).alloc (.cells #[.int .i64 22,.int .i64 f,.int .i64 j] 72)):=⟨_,rfl⟩;rw [←q] at HS V HB1;have E:=Zh q;have W:=Zh HW;have HI:=Zh hi;have ai:=Zh hm;have aj:=Zh hlo;clear u G F D H Hj hlo HW hi hm cc i1 hS q A M z;go_enter Tryz.func201,Tryz.ntmps201
 go_wp2_with fail
 refine rO (fun w':World=>w'.cell? ⟨w.heap.size,0,none⟩=some (.pointer (some ⟨K,0,none⟩))∧w'.cell? ⟨w.heap.size+1,1,none⟩=some (.int .i64 f)∧w'.cell? ⟨K,1,none⟩=some (.slice (some g) m.st.length h.sc)∧w'.cell? (g.add (f*2))=some (.int .i64 U)∧w'.cell? ⟨(g.add (f*2)).block,(g.add (f*2)).off+1,none⟩=some (.int .i64 T)) (oL [0,1,2,3,4,5,6,7,8,9,110]) (E.out▸HS.out _ (Upd.refl K K B).drew ⟨_,_,_,_,Ck.drew V.out.ck⟩) ?_;rw [←E.out];have HB2:=Zh (show Below B.heap.size B B.drew by exact bE)
 repeat refine pO ?_
 refine oO fun Kv hK=>?_;go_simp;refine (Zjt (i:=⟨22,f,j⟩) W.out (V.out.old HB2.out) hd (⟨U,T⟩) (Zgg (by simp)) (by rw [Zf9 rfl,X.out];rfl)).mono ?_;exact k95
theorem ZjL (f:Zex s.opn≤s.stk.length) (c:i.op=0∨i.op=28):
  Calls Tryz.prog 201 #[ZQ.p K,ZI.i i] w (ZhV w K h m lo lc ls oo oc bs (ZhS m ls i s)):=by
 have g:=HW.1;have a:ZhS m ls i s=(0,s.stk):=by unfold ZhS;rw [cvx (by omega),pvx (by omega),if_neg (by dsimp only;omega)];simp
 obtain ⟨n,j,l⟩:=i;have d:=Zh a;have e:=Zh H;clear a H Hj hlo HW hi hm;dsimp only at c;rcases c with rfl|rfl
 all_goals
  go_enter Tryz.func201,Tryz.ntmps201
  go_wp2_with fail
  go_end0;refine ZhV.bel ⟨⟨_,rfl⟩,Upd.refl K K _,?_⟩ bE;rw [d.out];exact ⟨so,sc,s.stk,e.out.ck.old bE,(e.out.old bE).ts,by omega,fun _=>rfl⟩
end
end
section
open Go.RowKit
structure SH where
 ao:Option Addr
 n:Nat
 c:Nat
instance:Inhabited SH:=⟨⟨none,0,0⟩⟩
instance:Cells SH:=⟨1,by decide,fun t=>[.slice t.ao t.n t.c],fun _=>rfl,by
 intro x u hu;simp only [List.mem_cons,List.not_mem_nil,or_false] at hu;rcases hu with rfl;rfl⟩
structure ZjM (w:World) (N:Nat) (so:Option Addr) (sc:Nat) (rows:List SH) (sts:List (List Ty)):Prop where
 own:w.ownsRow N 23 1 (.slice so rows.length sc) rows.length (Zal rows)
 len:rows.length=sts.length
 at_:∀ i,i<rows.length→(rows.getD i default).n=(sts.getD i []).length∧ZeR w (rows.getD i default).ao (rows.getD i default).c (sts.getD i [])
theorem ZjM.nil (w:World) (N:Nat):ZjM w N none 0 [] []:=⟨World.ownsRow_nil _ _ _ _,rfl,fun i hi=>by simp at hi⟩
section
variable {w:World}{N:Nat}{so:Option Addr}{sc:Nat}{rows:List SH}{sts:List (List Ty)}(H:ZjM w N so sc rows sts){b:Nat}
include w N so sc rows sts H b
theorem ZjM.ne {xs:Array Value} {t:TypeId} {z:Nat × Nat} (hb:w.heap[b]?=some (.cells xs t z)) (ht:t≠23):(Value.slice so rows.length sc).ownBlock≠some b:=by
 intro e;rcases H.own.2 with ⟨a,_⟩|⟨g,c,f,a,_,d,_⟩
 ·rw [a] at e;cases e
 ·rw [a] at e;have j:g=b:=Option.some.inj e;rw [j,hb] at d;cases d;exact ht rfl
theorem ZjM.noTy (e:(Value.slice so rows.length sc).ownBlock=some b):ZeS w b:=by
 rcases H.own.2 with ⟨a,_⟩|⟨g,c,j,a,_,d,_⟩
 ·rw [a] at e;cases e
 ·rw [a] at e;have l:g=b:=Option.some.inj e;subst l;exact ⟨(Array.getElem?_eq_some_iff.1 d).1,fun n z f=>by rw [d] at f;cases f⟩
end
section
variable {w w':World}{N:Nat}{so:Option Addr}{sc:Nat}{rows:List SH}{sts:List (List Ty)}
include w w' N so sc rows sts
theorem ZjM.upd {K B:Nat} (H:ZjM w N so sc rows sts) (hu:Upd K B w w') (hK:ZeS w K) (hB:ZeS w B) (h1:(Value.slice so rows.length sc).ownBlock≠some K) (h2:(Value.slice so rows.length sc).ownBlock≠some B):ZjM w' N so sc rows sts:=
 ⟨ZhM H.own fun k a=>hu.block k (H.own.lt k a).2 (fun e=>h1 (e▸a)) (fun e=>h2 (e▸a)),H.len,fun i hi=>⟨(H.at_ i hi).1,(H.at_ i hi).2.upd hu hK hB⟩⟩
theorem ZjM.old (H:ZjM w N so sc rows sts) (hb:Below w.heap.size w w'):ZjM w' N so sc rows sts:=by
 have c:∀ i,i<rows.length→ZeR w' (rows.getD i default).ao (rows.getD i default).c (sts.getD i []):=fun i hi=>by obtain ⟨h1,h2,h3⟩:=(H.at_ i hi).2;exact k73
 exact ⟨ZhM H.own fun k d=>hb.block k (H.own.lt k d).2,H.len,fun i hi=>⟨(H.at_ i hi).1,c i hi⟩⟩
theorem ZjM.snoc (H:ZjM w N so sc rows sts) {to':Option Addr} {tc:Nat} {l:List Ty} (hl:ZeR w to' tc l) {ao:Option Addr} {cap:Nat} (hown:w'.ownsRow N 23 1 (.slice ao (rows.length+1) cap) (rows.length+1) (Zal rows++[.slice to' l.length tc])) (hg:w.grownBy w' (Value.slice so rows.length sc).ownBlock):ZjM w' N ao cap (rows++[⟨to',l.length,tc⟩]) (sts++[l]):=by
 have d:(rows++[(⟨to',l.length,tc⟩:SH)]).length=rows.length+1:=by simp
 have e:∀ ao cap l,ZeR w ao cap l→ZeR w' ao cap l:=fun ao cap l g=>by
  cases hb:(Value.slice so rows.length sc).ownBlock with
  | none=>
   rw [hb] at hg;have c:Below w.heap.size w w':=(Below.refl _ _).grown hg (Nat.le_refl _) (fun j r=>by cases r);obtain ⟨o,p,q⟩:=g;refine ⟨o.old c,p,fun a v=>?_⟩;obtain ⟨x,z,n⟩:=q a v;exact ⟨x,z,(c.block _ (Array.getElem?_eq_some_iff.1 n).1).trans n⟩
  | some b=>
   have f:=H.noTy hb;rw [hb] at hg;exact g.upd ((Upd.refl b b w).grown hg (fun k u=>.inl (Option.some.inj u).symm)) f f
 refine ⟨by rw [d,Zao,Zap];exact hown,by simp [H.len],fun i hi=>?_⟩;rw [d] at hi;by_cases hil:i<rows.length
 ·rw [show (rows++[(⟨to',l.length,tc⟩:SH)]).getD i default=rows.getD i default by simp [List.getElem?_append_left hil],show (sts++[l]).getD i []=sts.getD i [] by simp [List.getElem?_append_left (show i<sts.length by rw [←H.len];exact hil)]];exact ⟨(H.at_ i hil).1,e _ _ _ (H.at_ i hil).2⟩
 ·obtain rfl:i=rows.length:=by omega
  rw [show (rows++[(⟨to',l.length,tc⟩:SH)]).getD rows.length default=⟨to',l.length,tc⟩ by simp,show (sts++[l]).getD rows.length []=l by rw [H.len];simp];exact ⟨rfl,e _ _ _ hl⟩
end
theorem ZjN:El Tryz.prog 34 23 1 24:=El.mk' (z:=.slice none 0 0) Tryz.underlying34 (by kernel_rfl) (by kernel_rfl) (by decide)
def ZjO (W:World) (q:List (List Ty) × Nat × Int):Ending→World→Prop:=fun e w'=>(∃ so sc rows,e=.returned (.tuple #[.slice so rows.length sc,.int .i64 q.2.1,.int .i64 q.2.2])∧ZjM w' W.heap.size so sc rows q.1)∧Below W.heap.size W w'
theorem ZjO.no (W:World) {w':World} (hb:Below W.heap.size W w') (n:Nat) (e:Int):ZjO W ([],n,e) (.returned (.tuple #[.slice none 0 0,.int .i64 n,.int .i64 e])) w':=⟨⟨none,0,[],rfl,ZjM.nil _ _⟩,hb⟩
theorem St.start {w w2:World}{h:Hd}{m:Md}{lo:Option Addr}{lc:Nat}{ls:List Ty} (hb:Below w.heap.size w w2) (hl:ZeR w2 lo lc ls) :
  St w (w2.alloc (.cells (ckC h m (.slice lo ls.length lc) (.slice none 0 0) (.slice none 0 0) 0) 166)) w2.heap.size h m lo lc ls ⟨[],[]⟩ none 0 none 0 []:=by
 have c:Below w2.heap.size w2 (w2.alloc (.cells (ckC h m (.slice lo ls.length lc) (.slice none 0 0) (.slice none 0 0) 0) 166)):=by exact bE
 have d:ZeR (w2.alloc (.cells (ckC h m (.slice lo ls.length lc) (.slice none 0 0) (.slice none 0 0) 0) 166)) lo lc ls:=by obtain ⟨f,g,j⟩:=hl;refine ⟨f.old c,g,fun a l=>?_⟩;obtain ⟨n,z,e⟩:=j a l;exact ⟨n,z,(c.block _ (Array.getElem?_eq_some_iff.1 e).1).trans e⟩
 exact ⟨Blk.new _ _ _,ZeR.nil _,⟨World.ownsRow_nil _ _ _ _,rfl,fun i hi=>by simp at hi⟩,d,bal hb _,hb.size⟩
theorem ZjP {m:Md}{r:Ty} (h:r.k=0):ZeF m r []=0:=by simp [ZeF,h]
theorem ZjQ {m:Md}{r:Ty} (h:r.k=0) {k:List Ty} (a:k≠[]):ZeF m r k=12:=by simp [ZeF,h,a]
theorem ZjR {m:Md}{r t:Ty} (h:r.k≠0):ZeF m r [t]=if Zev m t r then 0 else 11:=by simp [ZeF,h]
theorem ZjS {m:Md}{r:Ty} (h:r.k≠0) {k:List Ty} (a:k.length≠1):ZeF m r k=12:=by
 unfold ZeF;rw [if_neg h];split
 ·simp at a
 ·rfl
end
section
open Go.RowKit
theorem ZjT (a b:List Ty) (ao bo:Option Addr) (n bc:Nat) (w:World) (o:Zas w ao n a) (q:Zas w bo bc b) (hm:a.length≤1000000):Calls Tryz.prog 225 #[.slice ao a.length n,.slice bo b.length bc] w (Ret w (.bool (decide (a=b)))):=by
 by_cases hlen:a.length=b.length
 · have B:=Zh o;have C:=Zh q;have d:=Zh hlen;have g:((a.length:Int) != b.length)=false:=by simp [hlen]
   clear o q hlen;go_enter Tryz.func225,Tryz.ntmps225;go_wp2
   go_loopw [5] (fun i wr=>∃ k:Nat,k≤a.length∧i=.int .i64 k∧Below w.heap.size w wr∧Hid (∀ i,i<k→a.getD i default=b.getD i default)) (fun i _=>a.length-(intOf i).toNat)
   case atStart=>exact ⟨0,by omega,rfl,Below.refl _ _,Zh (by omega)⟩
   case round=>
     obtain ⟨k,S,rfl,c,r⟩:=hrel;have f:=Zh c;clear c;by_cases hkl:k<a.length
     · obtain ⟨Q,rfl,u,v⟩:=ZaA (B.out.old f.out) hkl;obtain ⟨R,rfl,z,A⟩:=ZaA (C.out.old f.out) (i:=k) (by have:=d.out;omega);have G:(k:Int) < b.length:=by have:=d.out;omega
       have F:(k:Int) < a.length:=by omega
       have J:IntKind.i64.wrap ((k:Int)+1)=k+1:=IntWalk.i64_in _ (by omega);generalize hx:a.getD k default=x at u v;generalize hy:b.getD k default=y at z A;have j:=Zh hx;have l:=Zh hy;clear hx hy;have I:=ZdY;have D:=ZdZ;obtain ⟨M,L⟩:=x;obtain ⟨P,O⟩:=y;dsimp only at u v z A;go_wp2
       go_quiet (fail)
       go_wp2
       all_goals first
         | (go_ret
            have E:¬ ((⟨M,L⟩:Ty)=⟨P,O⟩):=by simp only [Ty.mk.injEq];grind
            exact ZcP (ZcT (decide_eq_false (Ze2 (k:=k) (by rw [j.out,l.out];exact E))).symm) (ZcQ f.out _))
         | (go_roundw
            case rel=>
              refine ⟨k+1,by omega,by go_num,ZcQ f.out _,Zh fun i hi=>?_⟩;by_cases hik:i<k
              · exact r.out i hik
              · obtain rfl:i=k:=by omega
                rw [j.out,l.out,Ty.mk.injEq];grind
            case measure=>simp [intOf];omega)
     · go_wp2;go_ret;exact ZcP (ZcT (decide_eq_true (Ze3 d.out fun i hi=>r.out i (by omega))).symm) f.out
 · have g:((a.length:Int) != b.length)=true:=by simp;omega
   go_enter Tryz.func225,Tryz.ntmps225;go_wp2;go_ret;exact ZcP (ZcT (decide_eq_false fun e=>hlen (by rw [e])).symm) bE
theorem ZjU (m:Md) (h:Hd) (a b:Int) (w:World) (H:Zaz w h m) (Q:a<m.cl.length) (E:0≤b) (hd:ZcZ m m.cl.length):Calls Tryz.prog 231 #[.agg (HM.mk h m),.int .i64 a,.int .i64 b] w (Ret w (.bool (ZaI m (a.toNat+1) a b))):=by
 obtain ⟨q,r⟩:∃ q,q=ZaI m (a.toNat+1) a b:=⟨_,rfl⟩;rw [←r];have z:=Zh r;clear r;have d:=(Below.refl w.heap.size w).alloc (Nat.le_refl _) (.cells (HM.mk h m) 26);have f:=Zh (H.old d);have u:=Zh hd;clear H hd;obtain ⟨M,L,so,sc,P,O,R,S⟩:=h;dsimp only;dsimp only at f d;go_enter Tryz.func231,Tryz.ntmps231
 go_upto_region 1 with fail
 go_loop [1] (fun x=>∃ (k:Int),x=.int .i64 k∧k≤a∧ZaI m (k.toNat+1) k b=q) (fun x=>((intOf x)+1).toNat)
 case atStart=>exact ⟨a,rfl,by omega,z.out.symm⟩
 case round=>
  obtain ⟨k,rfl,G,l⟩:=hrel;have n:=Zh l;clear l;by_cases hk0:0≤k
  ·have o:k ≥ 0:=hk0;obtain ⟨c,rfl⟩:∃ c:Nat,k=c:=⟨k.toNat,by omega⟩;have F:(c:Int) < m.cl.length:=by omega
   obtain ⟨J,j,A,B,C,D⟩:=f.out.cls (i:=c) (by omega);dsimp only at j;subst j;clear A C D;have I:=u.out c (by omega) (by omega);have e:m.sup c=(m.cl.getD c default).sup:=rfl;generalize (m.cl.getD c default).sup=s at B e;have v:=Zh e;clear e;rw [v.out] at I;by_cases hcb:(c:Int)=b
   ·subst hcb;go_wp2;go_ret;refine ZcP (ZcT ?_) bE;have g:=n.out;rw [ZaI,if_neg (by omega)] at g;rw [←g];simp
   ·have y:((c:Int) == b)=false:=by simp;omega
    go_wp2
    go_round
    case rel=>
     refine ⟨s,rfl,by omega,?_⟩;have g:=n.out;rw [ZaI] at g;rw [←g];by_cases hlt:b<(c:Int)
     ·rw [if_pos hlt,v.out];exact Zc2 u.out E (by omega) (fun _=>by omega) (fun _=>by omega)
     ·rw [if_neg hlt,Zc0 (by omega)];simp;omega
    case measure=>simp [intOf];omega
  ·have o:¬ k ≥ 0:=hk0;go_wp2;go_ret;refine ZcP (ZcT ?_) bE;rw [←n.out,Zc0 (by omega)]
theorem ZjV (m:Md) (h:Hd) (t u:Ty) (w:World) (H:Zaz w h m) (g:t.k=2→0≤t.c∧t.c<m.cl.length) (j:u.k=2→0≤u.c) (hd:ZcZ m m.cl.length):Calls Tryz.prog 168 #[.agg (HM.mk h m),.agg #[.int .i64 t.k,.int .i64 t.c],.agg #[.int .i64 u.k,.int .i64 u.c]] w (Ret w (.bool (Zev m t u))):=by
 obtain ⟨c,a⟩:=t;obtain ⟨l,d⟩:=u;dsimp only at g j ⊢;by_cases hb:c=2∧l=2
 ·obtain ⟨rfl,rfl⟩:=hb;have f:Zev m ⟨2,a⟩ ⟨2,d⟩=ZaI m (a.toNat+1) a d:=by simp [Zev]
  rw [f];clear f;have n:=fun w' (hb':Below w.heap.size w w')=>ZjU m h a d w' (H.old hb') (g rfl).2 (j rfl) hd;generalize ZaI m (a.toNat+1) a d=q at n ⊢;have o:=Zh n;clear n H g j hd;go_enter Tryz.func168,Tryz.ntmps168
  go_wp2_with (go_at_call 231;refine (o.out _ bE).mono ?_;rintro e B ⟨rfl,v⟩)
  go_ret;exact ZcP rfl bE
 ·have f:Zev m ⟨c,a⟩ ⟨l,d⟩=(decide (c=l)&&decide (a=d)):=by unfold Zev;rw [if_neg hb,Zhs]
  rw [f];have x:=ZdX;have y:=ZdZ;clear f H g j hd;by_cases h1:c=2
  ·have A:(l == 2)=false:=by simp;omega
   have r:(c == 2)=true:=by simp [h1]
   have z:=Zh h1;clear h1 hb;go_enter Tryz.func168,Tryz.ntmps168;go_wp2;go_ret;exact ZcP rfl bE
  ·have r:(c == 2)=false:=by simp;omega
   clear h1 hb;go_enter Tryz.func168,Tryz.ntmps168;go_wp2;go_ret;exact ZcP rfl bE
theorem ZjW (W:World) (ao:Option Addr) (cap:Nat) (l:List Ty) (h:Zas W ao cap l) (q:l.length≤1000000) :
    Calls Tryz.prog 103 #[.slice ao l.length cap] W (Zfi 38 W l):=by
 have n:=Zh h;have o:=Zh (World.ownsRow_made (e:=38) (size:=2) W #[] 0 (Nat.le_refl _) (by decide) rfl);clear h;go_enter Tryz.func103,Tryz.ntmps103
 go_wp2_with (first
   | (at_builtin;refine Zak rfl (.tmp 3) (.tmp 4) 23 rfl W.heap.size 38 2 16 Zfh (.slice (some ⟨W.heap.size,0,none⟩) 0 0) 0 [] rfl o.out ao l.length cap (Zal l) rfl (SlA.alloc (w:=W) n.out _) (Zar l) (by omega) (by unfold maxLen;omega) (by simp) ?_
      intro d c r a j;simp only [Nat.zero_add,List.nil_append] at a ⊢;have g:=((Below.refl W.heap.size W).alloc (Nat.le_refl _) (.cells #[] 38)).grown j (by simp) (by intro k p;simp [Value.ownBlock] at p;omega);have f:=Zh (And.intro a g);clear a j g))
 go_ret;exact ⟨⟨d,c,rfl,f.out.1⟩,f.out.2⟩
end
