import Derived.Test.YtfmcclhfnpcokaaGreatT38
import Derived.Test.YtfmcclhfnpcokaaGreatT35
import Derived.Test.YtfmcclhfnpcokaaGreatT26
set_option linter.all false
set_option maxRecDepth 100000
set_option maxHeartbeats 32000000
namespace Go.Proofs.YtfmcclhfnpcokaaGreat
theorem j12{p:Prop}(h:p:=by
 refine hK _ _ ⟨HCs.out _ HB5.out,?_⟩;clear hK Kv r0 r1 r2 g0 g1 g2 rl
 (refine pO ?_)
 refine Zd7 ?_
 go_wp2_with fail
 go_meet
 exact ⟨B,rfl,rfl,HZ5.out,HB5.out,HBw.out⟩):p:=h
theorem j18{p:Prop}(h:p:=by
 go_ret;exact ZcP rfl (Zag HB.out (Zag HBa.out hb2))):p:=h
section
open Go.RowKit
attribute [local go_sem] World.cell?_alloc_some
theorem ZtJ (m:Md) (h:Hd) (w:World) (H:Zaz w h m):Calls Tryz.prog 35 #[.agg (HM.mk h m)] w (Zin w (ZtE m).1 (ZtE m).2):=by
 obtain ⟨z,n⟩:∃ z,z=w.alloc (.cells (HM.mk h m) 26):=⟨_,rfl⟩;have Q:=Zh (show Below w.heap.size w z by rw [n];exact bE);obtain ⟨X,hX⟩:∃ X,X=w.heap.size:=⟨_,rfl⟩;have V:=Zh (show Blk z X (HM.mk h m) 26 by rw [n,hX];exact Blk.new _ _ _);have Hj:=Zh (H.old Q.out);have HW:=Zh n;have E:=Zh hX;clear n H hX;by_cases ho:okL m
 ·have q:=Zh (ZtA m h z Hj.out ho);rw [show ZtE m=(Zrm m m.cl.length,0) from if_pos ho];dsimp only;have D:=Zh (fun j=>Zrn m j);have A:=Zh (fun j=>ZtF m j);have ai:=(Zir ho.v).1;have W:=Zh (show Zrm m 0=[] from rfl);obtain ⟨C,hC⟩:∃ C,C=Zrm m:=⟨_,rfl⟩;rw [←hC] at D A W ⊢;clear hC ho;go_enter Tryz.func35,Tryz.ntmps35
  go_upto_region 1 with fail
  rw [←HW.out,←E.out];obtain ⟨O,x1,x2,x3⟩:=Zj8 V.out
  go_wp2_with (go_at_call 81;refine q.out.mono ?_;rintro e N ⟨⟨S,Z,s,rfl,L,-,K⟩,f⟩;have Y:=Zh L;have l:=Zh f;have U:=Zh K;clear L K f O x1 x2 x3)
  go_loopw [6,7] (fun o i wr=>∃ (j:Nat) (t:Option Addr) (d:Nat),j≤m.cl.length∧i=.int .i64 j∧o=.slice t (C j).length d∧Hid (wr.ownsRow N.heap.size 3 1 (.slice t (C j).length d) (C j).length ((C j).map (Value.int .i64)))∧Hid (Below N.heap.size N wr)) (fun _ i _=>m.cl.length-(intOf i).toNat)
  case atStart=>exact ⟨0,none,0,Nat.zero_le _,rfl,by rw [W.out];rfl,by rw [W.out];exact World.ownsRow_nil _ _ _ _,Below.refl _ _⟩
  case round=>
   obtain ⟨j,t,d,hj,rfl,rfl,P,b⟩:=hrel;rename World=>wo;have O:=(V.out.old (Zag l.out b.out)).cell 0 (v:=.slice h.co m.cl.length h.cc) rfl;have J:=A.out j;by_cases hjl:j<m.cl.length
   ·have ak:(j:Int) < m.cl.length:=by omega
    have ap:IntKind.i64.wrap ((j:Int)+1)=((j+1:Nat):Int):=IntWalk.i64_in _ (by omega);have B:=Zh (Y.out.old b.out);have y:=Zsc B.out.pb (c:=j) (by rw [Zsf];exact hjl);rw [Zsh _ hjl,U.out j hjl] at y;have s9:=B.out.bk.cell 9 (v:=.slice (some ⟨Z.p,0,none⟩) m.cl.length m.cl.length) rfl;have a:=D.out j;obtain ⟨r,M⟩:∃ r,r=C j:=⟨_,rfl⟩;rw [←M] at P J a ⊢;clear M;rcases hv:Zm3 m j with _|x
    ·rw [hv] at y a;have F:=Zh (show C (j+1)=r++[(j:Int)] from a);have g:=P.out;simp only [Option.isSome_none] at y;clear a hv
     go_wp2_with (at_builtin;refine Zak rfl (.tmp 31) (.tmp 33) 27 rfl N.heap.size 3 1 8 Zcm (.slice t r.length d) r.length (r.map (Value.int .i64)) rfl (g.alloc _) _ 1 1 [.int .i64 j] rfl (ZdN (Blk.new' #[.int .i64 j] 3 (by simp)) rfl) (by intro u hu;rw [List.mem_singleton.1 hu];rfl) (by omega) (by unfold maxLen;omega) (by have:=b.out.size;simp;omega) ?_;intro aa G ar k I;have T:=Zh k;have R:=Zh (ZcR (bal b.out _) I (fun j hj=>(g.lt j hj).1));clear k I y s9 O)
     clear g;go_roundw
     case rel=>
      have h9:=T.out;refine ⟨j+1,aa,G,by omega,by go_num,by rw [F.out,List.length_append];rfl,(show World.ownsRow _ _ _ _ _ _ _ from ?_),R.out⟩;rw [F.out,List.length_append,List.map_append];exact h9
     case measure=>simp [intOf];omega
    ·rw [hv] at y a;simp only [Option.isSome_some] at y;have F:=Zh (show C (j+1)=r by rw [a];simp);clear a hv;go_wp2;go_roundw
     case rel=>exact ⟨j+1,t,d,by omega,by go_num,by rw [F.out],(by rw [F.out];exact P.out),b.out⟩
     case measure=>simp [intOf];omega
   ·obtain rfl:j=m.cl.length:=by omega
    have am:¬ (m.cl.length:Int) < m.cl.length:=by omega
    go_wp2;go_ret2;exact ⟨⟨t,d,rfl,Zas.of_own (by rw [Zau];exact P.out)⟩,Zag Q.out (Zag l.out b.out)⟩
 ·have q:=Zh (Zty m h z Hj.out ho);rw [show ZtE m=([],1) from if_neg ho];dsimp only;clear ho;go_enter Tryz.func35,Tryz.ntmps35
  go_upto_region 1 with fail
  rw [←HW.out,←E.out];obtain ⟨O,x1,x2,x3⟩:=Zj8 V.out
  go_wp2_with (go_at_call 81;refine q.out.mono ?_;rintro e N ⟨rfl,f⟩;have l:=Zh f;clear f O x1 x2 x3)
  go_ret2;exact ⟨⟨none,0,rfl,Zas.nil _⟩,Zag Q.out l.out⟩
theorem ZtK (m:Md) (h:Hd) (t:Ty) (w:World) (a:Za2 m=true):Calls Tryz.prog 25 #[.agg (HM.mk h m),.agg #[.int .i64 t.k,.int .i64 t.c],.int .i64 3] w (Ret w (.bool (ZrG m t 3))):=by
 go_enter Tryz.func25,Tryz.ntmps25;go_wp2
 all_goals
  go_ret;exact ZcP (ZcT (by unfold ZrG;rw [a];grind [ZaG])) bE
theorem ZtL (m:Md) (h:Hd) (t:Ty) (w:World) (H:Zaz w h m):Calls Tryz.prog 32 #[.agg (HM.mk h m),.agg #[.int .i64 t.k,.int .i64 t.c]] w (Zhi w (.int .i64 (Ztj m t).1) (.int .i64 (Ztj m t).2)):=by
 obtain ⟨B,d⟩:∃ B,B=(w.alloc (.cells (HM.mk h m) 26)).alloc (.cells #[.int .i64 t.k,.int .i64 t.c] 38):=⟨_,rfl⟩;have HB:=Zh (show Below w.heap.size w B by rw [d];exact bE);obtain ⟨X,C⟩:∃ X,X=w.heap.size:=⟨_,rfl⟩;have HX:=Zh (show Blk B X (HM.mk h m) 26 by rw [d,C];exact (Blk.new _ _ _).alloc _);have s:=Zh (show Blk B (X+1) #[.int .i64 t.k,.int .i64 t.c] 38 by rw [d,C];exact Blk.new' (w:=w.alloc _) _ _ (by simp));have u:=Zh d;have q:=Zh C;clear C;have Hj:=Zh (H.old HB.out);have HFi:=Zh (fun r (h':Zaz r h m)=>ZnR m h r h');clear d H;by_cases ho:okL m
 ·rw [if_pos (show (Zmk m).2.2=0 from ho)] at HFi;have v:=ho.v;have b:=Zh (fun r=>ZtK m h t r v);by_cases hl:ZrG m t 3=true
  ·rw [show Ztj m t=(ZmU m t,0) from if_pos ⟨ho,hl⟩];rw [hl] at b;have j:=Zh (fun r (h':Zaz r h m)=>Zr5 m h t r h' v);have F:=Zh (ZoS v (t:=t));have I:(ZmS m t).length≤1000000:=ZrV v t;have E:=Zh (show ZmU m t=ZmT (ZmS m t) 0 from rfl);dsimp only;generalize ZmU m t=lg at E ⊢;generalize ZmS m t=l at j F E I;obtain ⟨M,L⟩:=t;dsimp only at s u b j;clear hl ho v;go_enter Tryz.func32,Tryz.ntmps32
   go_upto_region 1 with fail
   rw [←u.out,←q.out];obtain ⟨x0,x1,x2,x3⟩:=Zj8 HX.out
   go_wp2_with (first
    | (go_at_call 21;refine (HFi.out _ Hj.out).mono ?_;rintro e w1 ⟨rfl,hb1⟩;have HB1:=Zh hb1;clear hb1 x0 x1 x2 x3;obtain ⟨x0,x1,x2,x3⟩:=Zj8 (HX.out.old HB1.out);obtain ⟨z,A⟩:=Zj9 (s.out.old HB1.out))
    | (go_at_call 25;refine (b.out _).mono ?_;rintro e T ⟨rfl,c⟩;have a:=Zh (Zag HB1.out c);clear c x0 x1 x2 x3 z A;obtain ⟨x0,x1,x2,x3⟩:=Zj8 (HX.out.old a.out);obtain ⟨z,A⟩:=Zj9 (s.out.old a.out))
    | (go_at_call 88;refine (j.out _ (Hj.out.old a.out)).mono ?_;rintro e N ⟨⟨V,P,rfl,y,-⟩,x⟩;have G:=Zh y;have D:=Zh (Zag a.out x);clear x y x0 x1 x2 x3 z A))
   go_loopw [6,8] (fun n i wr=>∃ k:Nat,k≤l.length∧i=.int .i64 k∧n=.int .i64 (ZmT (l.take k) 0)∧Hid (Below N.heap.size N wr)) (fun _ i _=>l.length-(intOf i).toNat)
   case atStart=>exact ⟨0,Nat.zero_le _,rfl,rfl,Below.refl _ _⟩
   case round=>
    obtain ⟨k,W,rfl,rfl,g⟩:=hrel;by_cases hkl:k<l.length
    ·have J:(k:Int) < l.length:=by omega
     have S:IntKind.i64.wrap ((k:Int)+1)=((k+1:Nat):Int):=IntWalk.i64_in _ (by omega);obtain ⟨U,rfl,Q⟩:=ZaC (G.out.old g.out) hkl;have o:=Zh (ZsY hkl 0);have f:=ZsZ F.out k;have K:=F.out _ (ZfX (0:Int) hkl);generalize l.getD k 0=n at Q K o;generalize ZmT (l.take k) 0=mv at o f ⊢;have O:=Zh (show mv≤48∧0≤mv from ⟨f.2,f.1⟩);clear f K;go_wp2;refine ⟨⟨k+1,hkl,rfl,?_,g.out⟩,by simp [intOf];omega⟩;rw [o.out];unfold Zmt
     first|rfl|(exact congrArg _ (by simp only [Int.max_def];split<;>split<;>omega))|(exact congrArg _ (by split<;>split<;>omega))
    ·obtain rfl:k=l.length:=by omega
     have R:¬ (l.length:Int) < l.length:=by omega
     rw [List.take_length,←E.out];go_wp2;go_ret2;exact ⟨rfl,Zag HB.out (Zag D.out g.out)⟩
  ·rw [show Ztj m t=(0,1) from if_neg fun e=>hl e.2];rw [Bool.eq_false_iff.2 hl] at b;obtain ⟨M,L⟩:=t;dsimp only at s u b;clear hl ho v;go_enter Tryz.func32,Tryz.ntmps32
   go_upto_region 1 with fail
   rw [←u.out,←q.out];obtain ⟨x0,x1,x2,x3⟩:=Zj8 HX.out
   go_wp2_with (first
    | (go_at_call 21;refine (HFi.out _ Hj.out).mono ?_;rintro e w1 ⟨rfl,hb1⟩;have HB1:=Zh hb1;clear hb1 x0 x1 x2 x3;obtain ⟨x0,x1,x2,x3⟩:=Zj8 (HX.out.old HB1.out);obtain ⟨z,A⟩:=Zj9 (s.out.old HB1.out))
    | (go_at_call 25;refine (b.out _).mono ?_;rintro e T ⟨rfl,c⟩;have a:=Zh (Zag HB1.out c);clear c x0 x1 x2 x3 z A))
   go_ret2;exact ⟨rfl,Zag HB.out a.out⟩
 ·rw [show Ztj m t=(0,1) from if_neg fun e=>ho e.1];rw [if_neg (show ¬ (Zmk m).2.2=0 from ho)] at HFi;obtain ⟨M,L⟩:=t;dsimp only at s u;clear ho;go_enter Tryz.func32,Tryz.ntmps32
  go_upto_region 1 with fail
  rw [←u.out,←q.out];exact j9
end
section
open Go.RowKit
attribute [local go_sem] World.cell?_alloc_some
theorem ZtM (m:Md) (t:Ty):(¬ (ZtE m).2=0)∨((ZtE m).2=0∧¬ t.k=2)∨((ZtE m).2=0∧t.k=2∧(Zrl m t).2=1)∨((ZtE m).2=0∧t.k=2∧((Zrl m t).2=0∨(Zrl m t).2=6)∧t.c ∉ (ZtE m).1)∨((ZtE m).2=0∧t.k=2∧(Zrl m t).2=10∧t.c∈(ZtE m).1):=by
 by_cases ho:okL m
 ·rw [show ZtE m=(Zrm m m.cl.length,0) from if_pos ho];by_cases hk:t.k=2
  ·by_cases ht:Zfk m t
   ·rw [show Zrl m t=Zqf (Zm4 m t) from if_pos ⟨ho,ht⟩];have b:=ZfH ht (.inl hk);have d:Zm4 m t=Zm3 m t.c.toNat:=Zsw hk;have a:t.c∈Zrm m m.cl.length↔Zm3 m t.c.toNat=none:=by have:=Zro (m:=m) (j:=m.cl.length) (c:=t.c.toNat);rw [Int.toNat_of_nonneg b.1] at this;rw [this];exact ⟨fun h=>h.2,fun h=>⟨by omega,h⟩⟩
    rw [d];cases hx:Zm3 m t.c.toNat with
    | none=>exact .inr (.inr (.inr (.inr ⟨rfl,hk,rfl,a.2 hx⟩)))
    |some x=>
     refine .inr (.inr (.inr (.inl ⟨rfl,hk,?_,fun e=>by rw [a.1 e] at hx;cases hx⟩)));show (if ZpH x.1 x.2.1 x.2.2=true then (z3,(6:Int)) else (x,0)).2=0∨(if ZpH x.1 x.2.1 x.2.2=true then (z3,(6:Int)) else (x,0)).2=6;split
     ·exact .inr rfl
     ·exact .inl rfl
   ·exact .inr (.inr (.inl ⟨rfl,hk,by rw [show Zrl m t=(z3,1) from if_neg fun e=>ht e.2]⟩))
  ·exact .inr (.inl ⟨rfl,hk⟩)
 ·exact .inl (by rw [show ZtE m=([],1) from if_neg ho];decide)
theorem ZtN (m:Md) (b:m.cl.length≤2000000):(ZtE m).1.length≤1000000:=by
 unfold ZtE;split
 ·rename_i a;have:=ZtF m m.cl.length;have:=(Zir (okL.v a)).1;show (Zrm m m.cl.length).length≤_;omega
 ·simp
theorem ZtO (m:Md) (h:Hd) (t:Ty) (w:World) (H:Zaz w h m) (aa:ZnI m):Calls Tryz.prog 7 #[.agg (HM.mk h m),.agg #[.int .i64 t.k,.int .i64 t.c]] w (Ret w (.bool true)):=by
 obtain ⟨w0,v⟩:∃ w0,w0=(w.alloc (.cells (HM.mk h m) 26)).alloc (.cells #[.int .i64 t.k,.int .i64 t.c] 38):=⟨_,rfl⟩;have HB:=Zh (show Below w.heap.size w w0 by rw [v];exact bE);obtain ⟨X,hX⟩:∃ X,X=w.heap.size:=⟨_,rfl⟩;have HX:=Zh (show Blk w0 X (HM.mk h m) 26 by rw [v,hX];exact (Blk.new _ _ _).alloc _);have HT:=Zh (show Blk w0 (X+1) #[.int .i64 t.k,.int .i64 t.c] 38 by rw [v,hX];exact Blk.new' (w:=w.alloc _) _ _ (by simp));have HW:=Zh v;have aR:=Zh hX;clear hX;have Hj:=Zh (H.old HB.out);have W:=Zh aa;have i:=ZtM m t;have E:=ZtN m aa.cl;have Q:=Zh (fun w' h' (H':Zaz w' h' m)=>Ztm m h' t w' H');have R:=Zh (fun w' (H':Zaz w' h m)=>ZtL m h t w' H');have S:=Zh (fun w' h' (H':Zaz w' h' m)=>ZtI m h' t w' H');have T:=Zh (fun w' (H':Zaz w' h m)=>ZtB m h t w' H');have U:=Zh (fun w' h' (H':Zaz w' h' m)=>ZtG m h' w' H');have V:=Zh (fun w' (H':Zaz w' h m)=>ZtJ m h w' H');clear v H aa;generalize Ztj m t=ln at Q R;generalize Zrl m t=ty at S T i;generalize ZtE m=ci at U V i E;obtain ⟨l0,le⟩:=ln;obtain ⟨⟨y0,y1,y2⟩,ye⟩:=ty;obtain ⟨cl,ce⟩:=ci;obtain ⟨tk,tc⟩:=t;dsimp only at HT HW Q R S T U V i E;have ai:=Zh i;have aj:=Zh E;clear i E;have bf:=eq3;go_enter Tryz.func7,Tryz.ntmps7
 go_upto_region 1 with fail
 rw [←HW.out,←aR.out];obtain ⟨j,k,l,n⟩:=Zj8 HX.out
 go_upto_region 3 with (first
  | (go_at_call 20;refine (ZsQ m h _ Hj.out).mono ?_;rintro e w1 ⟨⟨b,rfl⟩,am⟩;have HBa:=Zh am;clear am j k l n;obtain ⟨j,k,l,n⟩:=Zj8 (HX.out.old HBa.out))
  | (go_at_call 22;refine (Zp9 _).mono ?_;rintro e w2 ⟨rfl,hb2⟩))
 ·exact j18
 go_upto_region 4 with (go_at_call 30;refine (Zov _ h m (Hj.out.old HBa.out) W.out).mono ?_;rintro r w2 ⟨f,rfl,ap,hb2⟩;have aL:=Zh (ap.at_ W.out);have aK:=Zh (Zag HBa.out hb2);clear ap hb2 j k l n)
 obtain ⟨W3,D⟩:∃ W3,W3=w2.alloc (.cells (HM.mk f m) 26):=⟨_,rfl⟩;have aq:Blk W3 w2.heap.size (HM.mk f m) 26:=by rw [D];exact Blk.new w2 _ _
 have Y:Below w2.heap.size w2 W3:=by rw [D];exact bE
 rw [←D];have q:=Zh aq;have x:=Zh (Zag aK.out Y);have o:=Zh (HX.out.old x.out);have u:=Zh (HT.out.old x.out);have B:=Zh (Hj.out.old x.out);have z:=Zh (aL.out.old Y);clear D aq Y;generalize w2.heap.size=NB at q ⊢;have d:=Zh (Below.refl W3.heap.size W3);obtain ⟨j,k,l,n⟩:=Zj8 o.out;obtain ⟨I,J,K,L⟩:=Zj8 (h:=f) q.out;obtain ⟨O,P⟩:=Zj9 u.out
 go_upto_region 6 with (first
  | (go_at_call 31;refine (Q.out _ f (z.out.old d.out)).mono ?_;rintro e w4 ⟨rfl,c⟩;have d:=Zh (Zag d.out c);clear c j k l n I J K L O P;obtain ⟨j,k,l,n⟩:=Zj8 (o.out.old d.out);obtain ⟨I,J,K,L⟩:=Zj8 (h:=f) (q.out.old d.out);obtain ⟨O,P⟩:=Zj9 (u.out.old d.out))
  | (go_at_call 32;refine (R.out _ (B.out.old d.out)).mono ?_;rintro e w5 ⟨rfl,c⟩;have d:=Zh (Zag d.out c);clear c j k l n I J K L O P;obtain ⟨j,k,l,n⟩:=Zj8 (o.out.old d.out);obtain ⟨I,J,K,L⟩:=Zj8 (h:=f) (q.out.old d.out);obtain ⟨O,P⟩:=Zj9 (u.out.old d.out)))
 go_upto_region 7 with (go_at_call 23;refine (S.out _ f (z.out.old d.out)).mono ?_;rintro e w6 ⟨rfl,c⟩;have aJ:=Zh (Zag d.out c);clear c j k l n I J K L O P)
 obtain ⟨A,hA⟩:∃ A,A=w6.heap.size:=⟨_,rfl⟩;obtain ⟨w7,F⟩:∃ w7,w7=w6.alloc (.cells #[.int .i64 y0,.int .i64 y1,.int .i64 y2] 45):=⟨_,rfl⟩;have an:Below w6.heap.size w6 w7:=by rw [F];exact bE
 have aF:=Zh (show Blk w7 A (cl3 y0 y1 y2) 45 by rw [F,hA];exact Blk.new _ _ _);have y:=Zh (Zag aJ.out an);rw [←F,←hA];clear F an hA;obtain ⟨j,k,l,n⟩:=Zj8 (o.out.old y.out);obtain ⟨O,P⟩:=Zj9 (u.out.old y.out)
 go_upto_region 8 with (go_at_call 33;refine (T.out _ (B.out.old y.out)).mono ?_;rintro e w8 ⟨rfl,c⟩;have aI:=Zh (Zag y.out c);have aG:=Zh (aF.out.old c);clear c j k l n O P)
 obtain ⟨C,hC⟩:∃ A,A=w8.heap.size:=⟨_,rfl⟩;obtain ⟨w9,G⟩:∃ w9,w9=w8.alloc (.cells #[.int .i64 y0,.int .i64 y1,.int .i64 y2] 45):=⟨_,rfl⟩;have Z:Below w8.heap.size w8 w9:=by rw [G];exact bE
 have aM:=Zh (show Blk w9 C (cl3 y0 y1 y2) 45 by rw [G,hC];exact Blk.new _ _ _);have aH:=Zh (aG.out.old Z);have g:=Zh (Zag aI.out Z);rw [←G,←hC];clear G Z hC;have a:=Zh (Below.refl w9.heap.size w9);obtain ⟨j,k,l,n⟩:=Zj8 (o.out.old g.out);obtain ⟨I,J,K,L⟩:=Zj8 (h:=f) (q.out.old g.out)
 go_upto_region 10 with (first
  | (go_at_call 34;refine (U.out _ f (z.out.old (Zag g.out a.out))).mono ?_;rintro e wa ⟨⟨ao,ac,rfl,hr⟩,c⟩;have aO:=Zh hr;have a:=Zh (Zag a.out c);clear hr c j k l n I J K L;obtain ⟨j,k,l,n⟩:=Zj8 (o.out.old (Zag g.out a.out)))
  | (go_at_call 35;refine (V.out _ (B.out.old (Zag g.out a.out))).mono ?_;rintro e wb ⟨⟨bo,bc,rfl,hr⟩,c⟩;have aP:=Zh hr;have N:=Zh (aO.out.old c);have a:=Zh (Zag a.out c);clear hr c j k l n))
 have hI:=ZnK wb ao bo ac bc cl cl N.out aP.out (by have:=aj.out;omega);rw [decide_eq_true rfl] at hI;have HI:=Zh hI;clear hI;obtain ⟨a0,a1,a2⟩:=(aH.out.old a.out).c3;obtain ⟨c0,c1,c2⟩:=(aM.out.old a.out).c3
 go_upto_region 12 with (first
  | (go_at_call 36;refine HI.out.mono ?_;rintro e wc ⟨rfl,c⟩;have ak:=Zh (N.out.old c);have a:=Zh (Zag a.out c);clear c a0 a1 a2 c0 c1 c2;obtain ⟨j,k,l,n⟩:=Zj8 (o.out.old (Zag g.out a.out));obtain ⟨I,J,K,L⟩:=Zj8 (h:=f) (q.out.old (Zag g.out a.out)))
  | (go_at_call 37;refine (Zq7 m h f _ (B.out.old (Zag g.out a.out)) (z.out.old (Zag g.out a.out)) W.out).mono ?_;rintro e wd ⟨rfl,c⟩;have al:=Zh (ak.out.old c);have a:=Zh (Zag a.out c);clear c j k l n I J K L))
 obtain ⟨O,P⟩:=Zj9 (u.out.old (Zag g.out a.out));have M:=Zh (ZnL cl ao ac tc wd al.out aj.out);have hl:((ce == 0)=false∧¬ ce=0)∨(ce=0∧(tk == 2)=false∧¬ tk=2)∨(ce=0∧tk=2∧ye=1)∨(ce=0∧tk=2∧(ye=0∨ye=6)∧decide (tc∈cl)=false)∨(ce=0∧tk=2∧ye=10∧decide (tc∈cl)=true):=by
  rcases ai.out with s|⟨s,f⟩|s|⟨s,f,h3,h4⟩|⟨s,f,h3,h4⟩
  ·exact .inl ⟨by simpa using s,s⟩
  ·exact .inr (.inl ⟨s,by simpa using f,f⟩)
  ·exact .inr (.inr (.inl s))
  ·exact .inr (.inr (.inr (.inl ⟨s,f,h3,decide_eq_false h4⟩)))
  ·exact .inr (.inr (.inr (.inr ⟨s,f,h3,decide_eq_true h4⟩)))
 generalize decide (tc∈cl)=c at M hl;rcases hl with ⟨s,aS⟩|⟨rfl,s,aS⟩|⟨rfl,rfl,rfl⟩|⟨rfl,rfl,(rfl|rfl),rfl⟩|⟨rfl,rfl,rfl,rfl⟩
 all_goals
  have ah:=a
  go_wp2_with (first
   | (go_at_call 38;refine M.out.mono ?_;rintro e we ⟨rfl,c⟩;have ah:=Zh (Zag a.out c);clear c)
   | (go_at_call 22;refine (Zp9 _).mono ?_;rintro e wf ⟨rfl,aW⟩))
  go_ret;exact ZcP rfl (Zag HB.out (Zag x.out (Zag g.out (Zag ah.out aW))))
end
section
open Go.RowKit
attribute [local go_sem] World.cell?_alloc_some
theorem ZtP {F:Ty→Option T3}:∀ {p:List Ty}{z a:T3} (r:List Ty),Zm0 F z p=some a→Zm0 F z (p++r)=Zm0 F a r
 | [],z,a,r,e=>by cases e;rfl
 |t :: p,z,a,r,e=>by
  obtain ⟨x,d,b⟩:=Zrk e;have c:Zm0 F z (t :: (p++r))=match F t with|none=>none|some x=>Zm0 F (plT z x) (p++r):=rfl
  show Zm0 F z (t :: (p++r))=_;rw [c,d];exact ZtP r b
theorem ZtQ {a b:Int} (h:Zms (a+b)≤1000000000):Zms (a+b)=a+b∧a+b≤1000000000:=by
 unfold Zms at h ⊢;split
 ·rename_i q;rw [if_pos q] at h;exact ⟨rfl,h⟩
 ·rename_i q;rw [if_neg q] at h;omega
theorem ZtR {m:Md} (D:okL m) {x:T3} (K:Zm0 (Zm4 m) z3 m.st=some x) (u:x.1≤1000000000∧x.2.1≤1000000000∧x.2.2≤1000000000) {i:Nat}{a:T3} (h:Zrz m z3 m.st i a) (l:i<m.st.length) :
  ∃ y,Zrl m (m.st.getD i default)=(y,0)∧ZpY a.1 a.2.1 a.2.2 y.1 y.2.1 y.2.2=(plT a y,0)∧Zrz m z3 m.st (i+1) (plT a y):=by
 have C:=D.v;have d:=(Ztk C).1;have c:=ZfX (default:Ty) l;have B:∀ t∈m.st,∀ y,Zm4 m t=some y→BdT y:=fun t v y e=>Zo3 C (d t v) e;have A:Zm0 (Zm4 m) a (m.st.drop i)=some x:=by rw [←ZtP (m.st.drop i) h.1,List.take_append_drop];exact K
 have J:m.st.drop i=m.st.getD i default :: m.st.drop (i+1):=by rw [List.drop_eq_getElem_cons l];simp [l]
 rw [J] at A;obtain ⟨y,z,H⟩:=Zrk A;have k:=B _ c y z;have I:=ZoY (h.2.pl k) (fun t v=>B t (List.mem_of_mem_drop v)) H;obtain ⟨q,r,s⟩:=I.2;obtain ⟨n,o,p⟩:=h.2;obtain ⟨f,g,j⟩:=k;have E:=ZtQ (a:=a.1) (b:=y.1) (Int.le_trans q u.1);have F:=ZtQ (a:=a.2.1) (b:=y.2.1) (Int.le_trans r u.2.1);have G:=ZtQ (a:=a.2.2) (b:=y.2.2) (Int.le_trans s u.2.2);unfold Bd at n o p f g j;refine ⟨y,?_,?_,h.next l z ⟨f,g,j⟩⟩
 ·rw [show Zrl m (m.st.getD i default)=Zqf (Zm4 m (m.st.getD i default)) from if_pos ⟨D,d _ c⟩,z];exact Zrq (by omega)
 ·have L:tB a.1 a.2.1 a.2.2=true:=Zpt.2 (by omega);have M:tB y.1 y.2.1 y.2.2=true:=Zpt.2 (by omega);unfold ZpY;rw [L,M,if_neg (by decide)];have N:ZpH (Zms (a.1+y.1)) (Zms (a.2.1+y.2.1)) (Zms (a.2.2+y.2.2))=false:=by rw [E.1,F.1,G.1];unfold ZpH;exact decide_eq_false (by omega)
  rw [N,if_neg (by decide)];rfl
theorem ZtS (m:Md) (h:Hd) (w:World) (H:Zaz w h m):Calls Tryz.prog 6 #[.agg (HM.mk h m)] w (Ret w (.bool true)):=by
 obtain ⟨w0,ak⟩:∃ w0,w0=w.alloc (.cells (HM.mk h m) 26):=⟨_,rfl⟩;have HB:=Zh (show Below w.heap.size w w0 by rw [ak];exact bE);obtain ⟨X,hX⟩:∃ X,X=w.heap.size:=⟨_,rfl⟩;have W:=Zh (show Blk w0 X (HM.mk h m) 26 by rw [ak,hX];exact Blk.new _ _ _);have Hj:=Zh (H.old HB.out);have HW:=Zh ak;have aQ:=Zh hX;clear hX;have HA:=Zh (fun E (H':Zaz E h m)=>Ztl m h E H');have aw:=Zh (fun E (H':Zaz E h m)=>ZtD m h E H');have bg:=Zh (fun t E (H':Zaz E h m)=>ZtI m h t E H');have aa:(¬ (Zti m).2=0)∨((Zti m).2=0∧okL m∧∃ x,Zm0 (Zm4 m) z3 m.st=some x∧(Zti m).1=x∧x.1≤1000000000∧x.2.1≤1000000000∧x.2.2≤1000000000):=by
  by_cases e:(Zti m).2=0
  ·by_cases ho:okL m
   ·have hq:Zqf (Zm0 (Zm4 m) z3 m.st)=Zti m:=(if_pos ho).symm;exact .inr ⟨e,ho,Zrp hq e⟩
   ·rw [show Zti m=(z3,1) from if_neg ho] at e;cases e
  ·exact .inl e
 obtain ⟨r,hr⟩:∃ r,r=Zti m:=⟨_,rfl⟩;rw [←hr] at HA aw aa;obtain ⟨⟨s0,s1,s2⟩,se⟩:=r;dsimp only at aa;have bM:=eq3;clear ak H hr;rcases aa with hse|⟨rfl,ho,x,hx,rfl,hxs⟩
 ·have bP:(se == 0)=false:=by simpa using hse
  go_enter Tryz.func6,Tryz.ntmps6
  go_upto_region 1 with fail
  rw [←HW.out,←aQ.out];obtain ⟨x0,F,x2,x3⟩:=Zj8 W.out
  go_upto_region 3 with (first
   | (go_at_call 20;refine (ZsQ m h _ Hj.out).mono ?_;rintro e w1 ⟨⟨b,rfl⟩,Y⟩;have HBa:=Zh Y;clear Y x0 F x2 x3;obtain ⟨x0,F,x2,x3⟩:=Zj8 (W.out.old HBa.out))
   | (go_at_call 22;refine (Zp9 _).mono ?_;rintro e w2 ⟨rfl,hb2⟩))
  ·exact j18
  go_upto_region 4 with (go_at_call 27;refine (HA.out _ (Hj.out.old HBa.out)).mono ?_;rintro e w6 ⟨rfl,f⟩;have aA:=Zh (Zag HBa.out f);clear f x0 F x2 x3)
  obtain ⟨A,hA⟩:∃ A,A=w6.heap.size:=⟨_,rfl⟩;obtain ⟨K,n⟩:∃ K,K=w6.alloc (.cells #[.int .i64 s0,.int .i64 s1,.int .i64 s2] 45):=⟨_,rfl⟩;have u:Below w6.heap.size w6 K:=by rw [n];exact bE
  have ax:=Zh (show Blk K A (cl3 s0 s1 s2) 45 by rw [n,hA];exact Blk.new _ _ _);have I:=Zh (Zag aA.out u);rw [←n,←hA];clear n u hA;obtain ⟨x0,F,x2,x3⟩:=Zj8 (W.out.old I.out)
  go_upto_region 5 with (go_at_call 28;refine (aw.out _ (Hj.out.old I.out)).mono ?_;rintro e w8 ⟨rfl,f⟩;have az:=Zh (Zag I.out f);have ay:=Zh (ax.out.old f);clear f x0 F x2 x3)
  obtain ⟨C,hC⟩:∃ A,A=w8.heap.size:=⟨_,rfl⟩;obtain ⟨G,s⟩:∃ G,G=w8.alloc (.cells #[.int .i64 s0,.int .i64 s1,.int .i64 s2] 45):=⟨_,rfl⟩;have J:Below w8.heap.size w8 G:=by rw [s];exact bE
  have aC:=Zh (show Blk G C (cl3 s0 s1 s2) 45 by rw [s,hC];exact Blk.new _ _ _);have L:=Zh (ay.out.old J);have ae:=Zh (Zag az.out J);rw [←s,←hC];clear s J hC;obtain ⟨a0,a1,a2⟩:=L.out.c3;obtain ⟨c0,c1,c2⟩:=aC.out.c3
  go_wp2_with (go_at_call 22;refine (Zp9 _).mono ?_;rintro e w2 ⟨rfl,hb2⟩)
  go_ret;exact ZcP rfl (Zag HB.out (Zag ae.out hb2))
 ·have bf:=Zh (fun i a (hI:Zrz m z3 m.st i a) (hi:i<m.st.length)=>ZtR ho hx hxs hI hi);have bd:=Zh (fun a (hI:Zrz m z3 m.st m.st.length a)=>Option.some.inj (hI.fin.symm.trans hx));have bQ:=(Ztk ho.v).2;clear hx hxs ho;go_enter Tryz.func6,Tryz.ntmps6
  go_upto_region 1 with fail
  rw [←HW.out,←aQ.out];obtain ⟨x0,F,x2,x3⟩:=Zj8 W.out
  go_upto_region 3 with (first
   | (go_at_call 20;refine (ZsQ m h _ Hj.out).mono ?_;rintro e w1 ⟨⟨b,rfl⟩,Y⟩;have HBa:=Zh Y;clear Y x0 F x2 x3;obtain ⟨x0,F,x2,x3⟩:=Zj8 (W.out.old HBa.out))
   | (go_at_call 22;refine (Zp9 _).mono ?_;rintro e w2 ⟨rfl,hb2⟩))
  ·exact j18
  go_upto_region 4 with (go_at_call 27;refine (HA.out _ (Hj.out.old HBa.out)).mono ?_;rintro e w6 ⟨rfl,f⟩;have aA:=Zh (Zag HBa.out f);clear f x0 F x2 x3)
  obtain ⟨A,hA⟩:∃ A,A=w6.heap.size:=⟨_,rfl⟩;obtain ⟨K,n⟩:∃ K,K=w6.alloc (.cells #[.int .i64 s0,.int .i64 s1,.int .i64 s2] 45):=⟨_,rfl⟩;have u:Below w6.heap.size w6 K:=by rw [n];exact bE
  have ax:=Zh (show Blk K A (cl3 s0 s1 s2) 45 by rw [n,hA];exact Blk.new _ _ _);have I:=Zh (Zag aA.out u);rw [←n,←hA];clear n u hA;obtain ⟨x0,F,x2,x3⟩:=Zj8 (W.out.old I.out)
  go_upto_region 5 with (go_at_call 28;refine (aw.out _ (Hj.out.old I.out)).mono ?_;rintro e w8 ⟨rfl,f⟩;have az:=Zh (Zag I.out f);have ay:=Zh (ax.out.old f);clear f x0 F x2 x3)
  obtain ⟨C,hC⟩:∃ A,A=w8.heap.size:=⟨_,rfl⟩;obtain ⟨G,s⟩:∃ G,G=w8.alloc (.cells #[.int .i64 s0,.int .i64 s1,.int .i64 s2] 45):=⟨_,rfl⟩;have J:Below w8.heap.size w8 G:=by rw [s];exact bE
  have aC:=Zh (show Blk G C (cl3 s0 s1 s2) 45 by rw [s,hC];exact Blk.new _ _ _);have L:=Zh (ay.out.old J);have ae:=Zh (Zag az.out J);rw [←s,←hC];clear s J hC;obtain ⟨a0,a1,a2⟩:=L.out.c3;obtain ⟨c0,c1,c2⟩:=aC.out.c3
  go_upto_region 10 with fail
  clear a0 a1 a2 c0 c1 c2;obtain ⟨D,hD⟩:∃ A,A=G.heap.size:=⟨_,rfl⟩;obtain ⟨wa,al⟩:∃ wa,wa=G.alloc (.cells #[.int .i64 0,.int .i64 0,.int .i64 0] 45):=⟨_,rfl⟩;have ai:Below G.heap.size G wa:=by rw [al];exact bE
  have ba:=Zh (show Blk wa D (cl3 0 0 0) 45 by rw [al,hD];exact Blk.new _ _ _);have bG:=Zh (L.out.old ai);have br:=Zh (Zag ae.out ai);have a9:=Zh ai;have bc:=Zh (show G.heap.size≤D by omega);have bI:=Zh (show A≠D by have:=L.out.lt;omega);rw [←al,←hD];clear al ai hD;go_wp2
  go_loopw [8] (fun i wr=>∃ (k:Nat) (a:T3),k≤m.st.length∧i=.int .i64 k∧Hid (Below G.heap.size G wr)∧Hid (Zrz m z3 m.st k a)∧Hid (Blk wr D (cl3 a.1 a.2.1 a.2.2) 45)) (fun i _=>m.st.length-(intOf i).toNat)
  case atStart=>exact ⟨0,z3,Nat.zero_le _,rfl,a9.out,.zero .z,ba.out⟩
  case round=>
   obtain ⟨k,a,hk,rfl,aB,aN,V⟩:=hrel;rename World=>wo;have g:=Zh (Zag ae.out aB.out);have a7:=Zh (L.out.old aB.out);by_cases hkl:k<m.st.length
   ·have bA:(k:Int) < m.st.length:=by omega
    have bR:IntKind.i64.wrap ((k:Int)+1)=((k+1:Nat):Int):=IntWalk.i64_in _ (by omega);obtain ⟨y,aX,aY,aF⟩:=bf.out k a aN.out hkl;have U:=Zh (fun E=>Zp0 a.1 a.2.1 a.2.2 y.1 y.2.1 y.2.2 E);rw [aY] at U;have aO:=Zh aF;have aL:=Zh aF.2;obtain ⟨sd,aj,f0,f1⟩:=ZaA (Hj.out.old g.out).st hkl;have T:=fun E (H':Zaz E h m)=>bg.out (m.st.getD k default) E H';rw [aX] at T;generalize m.st.getD k default=ty at f0 f1 T;obtain ⟨tk,tc⟩:=ty;dsimp only at f0 f1 T;rw [aj] at T;have aP:=Zh T;have F:=(W.out.old g.out).cell 1 (v:=.slice h.so m.st.length h.sc) rfl;rw [aj] at F;have HCs:=Zh (show ∀ E,Below wo.heap.size wo E→Cs [(⟨X,0,none⟩,.slice h.co m.cl.length h.cc),(⟨X,1,none⟩,.slice (some sd) m.st.length h.sc),(⟨X,2,none⟩,.slice h.eo m.me.length h.ec),(⟨X,3,none⟩,.int .i64 m.sel),(sd.add (k*2),.int .i64 tk),(⟨(sd.add (k*2)).block,(sd.add (k*2)).off+1,none⟩,.int .i64 tc)] E from fun E f=>⟨(W.out.old (Zag g.out f)).cell 0 rfl,(f.cell (Zad F)).trans F,(W.out.old (Zag g.out f)).cell 2 rfl,(W.out.old (Zag g.out f)).cell 3 rfl,(f.cell (Zad f0)).trans f0,(f.cell (Zad f1)).trans f1,trivial⟩);have bJ:=Zh aj;clear aX aY aF T f0 f1 aj;obtain ⟨y0,y1,y2⟩:=y;obtain ⟨a0,a1,a2⟩:=a;dsimp only at U V;generalize plT (a0,a1,a2) (y0,y1,y2)=p at U aO aL;obtain ⟨p0,p1,p2⟩:=p
    (try dsimp only at U)
    go_upto_region 13 with fail
    clear F
    go_cut [9,10] from 44 to 53 (fun q er wx=>∃ B:Nat,q=.pointer (some ⟨B,0,none⟩)∧er=.int .i64 0∧Hid (Blk wx B (cl3 y0 y1 y2) 45)∧Hid (Below wo.heap.size wo wx)∧Hid (wo.heap.size≤B))
    case first=>
     refine rO (Cs [(⟨X,0,none⟩,.slice h.co m.cl.length h.cc),(⟨X,1,none⟩,.slice (some sd) m.st.length h.sc),(⟨X,2,none⟩,.slice h.eo m.me.length h.ec),(⟨X,3,none⟩,.int .i64 m.sel),(sd.add (k*2),.int .i64 tk),(⟨(sd.add (k*2)).block,(sd.add (k*2)).off+1,none⟩,.int .i64 tc)]) (.plain 0 (.plain 1 (.plain 2 (.plain 3 (.plain 4 (.plain 5 (.two 6 10 (oL [7,8,9,110,111,12]) (oL [106,7,8,9,111,12])))))))) (HCs.out _ (Below.refl _ _).drew) ?_
     iterate 6 (refine pO ?_)
     refine Zd6 ?_ ?_
     ·refine Zd4 _ (by rfl) (by rfl) fun Kv hK=>?_;go_simp;refine (aP.out _ (Hj.out.old g.out.drew)).mono ?_;rintro e w3 ⟨rfl,R⟩;have M:=Zh (Zag (Below.refl wo.heap.size wo).drew R);refine hK _ _ ⟨HCs.out _ M.out,?_⟩;clear hK Kv R
      (refine pO ?_)
      (refine pO ?_)
      (refine pO ?_)
      refine oO fun Kv hK=>?_;go_simp;obtain ⟨w4,j⟩:∃ w4,w4=w3.alloc (.cells #[.int .i64 0,.int .i64 0,.int .i64 0] 45):=⟨_,rfl⟩;obtain ⟨B,hB⟩:∃ B,B=w3.heap.size:=⟨_,rfl⟩;have Z:Below w3.heap.size w3 w4:=by rw [j];exact bE
      have N:=Zh (Zag M.out Z);have O:=Zh (show Blk w4 B (cl3 0 0 0) 45 by rw [j,hB];exact Blk.new _ _ _);have HBw:=Zh (show wo.heap.size≤B by have:=M.out.size;omega);rw [←j,←hB];refine hK _ _ ⟨HCs.out _ N.out,?_⟩;clear hK Kv Z j hB;refine oO fun Kv hK=>?_;obtain ⟨r0,r1,r2⟩:=O.out.c3;obtain ⟨g0,g1,g2⟩:=O.out.f3;have rl:=O.out.lt;go_simp;have HZ5:=Zh (Zmx (x:=y0) (y:=y1) (z:=y2) O.out);have HB5:=Zh (Zmz N.out (.int .i64 y0) (.int .i64 y1) (.int .i64 y2) HBw.out);exact j12
     ·refine Zd4 _ (by rfl) (by rfl) fun Kv hK=>?_;go_simp;obtain ⟨w4,j⟩:∃ w4,w4=(wo.alloc (.cells #[.int .i64 0,.int .i64 0,.int .i64 0] 45)).drew:=⟨_,rfl⟩;obtain ⟨B,hB⟩:∃ B,B=wo.heap.size:=⟨_,rfl⟩;have Z:Below wo.heap.size wo w4:=by rw [j];exact bE
      have N:=Zh Z;have O:=Zh (show Blk w4 B (cl3 0 0 0) 45 by rw [j,hB];exact (Blk.new _ _ _).drew);have HBw:=Zh (show wo.heap.size≤B by omega);rw [←j,←hB];refine hK _ _ ⟨HCs.out _ N.out,?_⟩;clear hK Kv Z j hB;refine oO fun Kv hK=>?_;go_simp;refine (aP.out _ (Hj.out.old (Zag g.out N.out))).mono ?_;rintro e w3 ⟨rfl,R⟩;have M:=Zh (Zag N.out R);have ah:=Zh (O.out.old R);refine hK _ _ ⟨HCs.out _ M.out,?_⟩;clear hK Kv R
      (refine pO ?_)
      (refine pO ?_)
      (refine pO ?_)
      refine oO fun Kv hK=>?_;obtain ⟨r0,r1,r2⟩:=ah.out.c3;obtain ⟨g0,g1,g2⟩:=ah.out.f3;have rl:=ah.out.lt;go_simp;have HZ5:=Zh (Zmx (x:=y0) (y:=y1) (z:=y2) ah.out);have HB5:=Zh (Zmz M.out (.int .i64 y0) (.int .i64 y1) (.int .i64 y2) HBw.out);exact j12
    case rest=>
     obtain ⟨B,rfl,rfl,a8,aK,HBw⟩:=hcut;have bb:=Zh (V.out.old aK.out);obtain ⟨d0,d1,d2⟩:=bb.out.c3;obtain ⟨b0,b1,b2⟩:=a8.out.c3
     go_upto_region 15 with (go_at_call 29;refine (U.out _).mono ?_;rintro e K ⟨rfl,u⟩;have aJ:=Zh u;clear u d0 d1 d2 b0 b1 b2)
     obtain ⟨we,am⟩:∃ we,we=K.alloc (.cells #[.int .i64 p0,.int .i64 p1,.int .i64 p2] 45):=⟨_,rfl⟩;obtain ⟨P,hP⟩:∃ P,P=K.heap.size:=⟨_,rfl⟩;have aW:Below K.heap.size K we:=by rw [am];exact bE
     have be:=Zh (show Blk we P (cl3 p0 p1 p2) 45 by rw [am,hP];exact Blk.new _ _ _);have aM:=Zh (Zag aK.out (Zag aJ.out aW));have af:=Zh (V.out.old aM.out);rw [←am,←hP];clear am hP aW;obtain ⟨q0,q1,q2⟩:=be.out.c3;obtain ⟨d0,d1,d2⟩:=af.out.c3;obtain ⟨g0,g1,g2⟩:=af.out.f3;have dl:=af.out.lt;go_wp2;exact ⟨⟨k+1,(p0,p1,p2),hkl,rfl,Zmz (Zag aB.out aM.out) _ _ _ bc.out,aO.out,Zmx af.out⟩,by simp [intOf];omega⟩
   ·obtain rfl:k=m.st.length:=by omega
    have bN:¬ (m.st.length:Int) < m.st.length:=by omega
    have HE:=Zh (bd.out a aN.out);have F:=(W.out.old g.out).cell 1 (v:=.slice h.so m.st.length h.sc) rfl;obtain ⟨a0,a1,a2⟩:=a;have he:=HE.out;cases he;dsimp only at V;obtain ⟨d0,d1,d2⟩:=V.out.c3;obtain ⟨b0,b1,b2⟩:=a7.out.c3
    go_wp2_with (go_at_call 22;refine (Zp9 _).mono ?_;rintro e w2 ⟨rfl,hb2⟩)
    go_ret;exact ZcP rfl (Zag HB.out (Zag g.out hb2))
end
