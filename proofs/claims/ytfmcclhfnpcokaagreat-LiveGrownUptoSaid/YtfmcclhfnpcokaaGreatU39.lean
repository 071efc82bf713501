import Derived.Test.YtfmcclhfnpcokaaGreatU38
import Derived.Test.YtfmcclhfnpcokaaGreatU36
set_option linter.all false
set_option maxRecDepth 100000
set_option maxHeartbeats 32000000
namespace Go.Proofs.YtfmcclhfnpcokaaGreat
section
open Go.RowKit
attribute [local go_sem] World.cell?_alloc_some
def Zr8 (W:World) (x:T3):Ending→World→Prop:=fun e w'=>(∃ C,e=.returned (ag3 C)∧LeT C x∧BdT C)∧Below W.heap.size W w'
theorem Zr9 {x:T3} (h:BdT x):LeT (plT z3 x) x:=by
 have e:∀ a:Int,Bd a→Zms (0+a)≤a:=fun a b=>by rw [Int.zero_add,Zo1 b];exact Int.le_refl _
 exact ⟨e _ h.1,e _ h.2.1,e _ h.2.2⟩
theorem Zsa (m:Md) (h:Hd) (s:okL m) (t:Ty) (ht:Zfk m t) (x:T3) (hx:Zm3 m t=some x) (V:Option Addr) (O:Nat) (g:List Int) (hl:g.length≤1000) (w:World) (H:Zaz w h m) (hr:Zas w V O g) :
  Calls Tryz.prog 26 #[.agg (HM.mk h m),.agg #[.int .i64 t.k,.int .i64 t.c],.slice V g.length O] w (Zr8 w x):=by
 obtain ⟨f,i⟩:∃ f,f=((w.alloc (.cells (HM.mk h m) 26)).alloc (.cells #[.int .i64 t.k,.int .i64 t.c] 38)).alloc (.cells #[.int .i64 0,.int .i64 0,.int .i64 0] 45):=⟨_,rfl⟩;have HB:=Zh (show Below w.heap.size w f by rw [i];exact bE);obtain ⟨X,M⟩:∃ X,X=w.heap.size:=⟨_,rfl⟩;have Y:=Zh (show Blk f X (HM.mk h m) 26 by rw [i,M];exact ((Blk.new _ _ _).alloc _).alloc _);have HT:=Zh (show Blk f (X+1) #[.int .i64 t.k,.int .i64 t.c] 38 by rw [i,M];exact (Blk.new' (w:=w.alloc _) _ _ (by simp)).alloc _);have HR:=Zh (show Blk f (X+1+1) (cl3 0 0 0) 45 by rw [i,M];exact Blk.new' (w:=(w.alloc _).alloc _) _ _ (by simp));have HW:=Zh i;have aq:=Zh M;have K:=Zh (show w.heap.size≤X by omega);have Hj:=Zh (H.old HB.out);have an:=Zh (hr.old HB.out);have al:=Zh s;have ap:=Zh ht;have ar:=Zh hx;have HN:=Zh (fun A (h':Zaz A h m)=>ZrR m h A h' (okL.v s));have ag:=Zh hl;have ah:=Zh (fun (C:T3) (hC:LeT C (plT z3 x))=>hC.tr (Zr9 (ZoE (okL.v s) ht hx)));obtain ⟨tk,tc⟩:=t;dsimp only at HT HW;clear i M H hr s ht hx hl;go_enter Tryz.func26,Tryz.ntmps26
 go_upto_region 1 with fail
 rw [←HW.out,←aq.out];have B:=Zh (show ∀ A,Below f.heap.size f A→Cs [(⟨X,0,none⟩,.slice h.co m.cl.length h.cc),(⟨X,1,none⟩,.slice h.so m.st.length h.sc),(⟨X,2,none⟩,.slice h.eo m.me.length h.ec),(⟨X,3,none⟩,.int .i64 m.sel)] A from fun A hb=>⟨(Y.out.old hb).cell 0 rfl,(Y.out.old hb).cell 1 rfl,(Y.out.old hb).cell 2 rfl,(Y.out.old hb).cell 3 rfl,trivial⟩);refine rO (Cs [(⟨X,0,none⟩,.slice h.co m.cl.length h.cc),(⟨X,1,none⟩,.slice h.so m.st.length h.sc),(⟨X,2,none⟩,.slice h.eo m.me.length h.ec),(⟨X,3,none⟩,.int .i64 m.sel)]) (oL [0,1,3,102,4,105,6]) (B.out _ (Below.refl _ _).drew) ?_
 iterate 3 (refine pO ?_)
 refine oO fun Kv L=>?_;go_simp;refine (HN.out _ (Hj.out.old (Below.refl f.heap.size f).drew)).mono ?_;rintro e E ⟨⟨so,sc,j,rfl,T,W,ax,U⟩,N⟩;have b:=Zag (Below.refl f.heap.size f).drew N;have F:=Zh b;have aj:=Zh (show ZrV ⟨E,h,m,so,sc,j,V,O,g,f.drew.heap.size⟩ from ⟨al.out,Hj.out.old b,W,T,U,an.out.old b,ag.out⟩);refine L _ _ ⟨B.out _ b,?_⟩;clear L Kv N W b ax U T
 (refine pO ?_)
 refine oO fun Kv L=>?_;go_simp;obtain ⟨G,hG⟩:∃ G,G=E.heap.size:=⟨_,rfl⟩;obtain ⟨w2,u⟩:∃ w2,w2=E.alloc (.cells #[.slice h.co m.cl.length h.cc,.slice h.so m.st.length h.sc,.slice h.eo m.me.length h.ec,.int .i64 m.sel,.slice so j.length sc,.slice V g.length O,.int .i64 0,.int .i64 300,.int .i64 0,.int .i64 0,.int .i64 0] 109):=⟨_,rfl⟩;have D:Below E.heap.size E w2:=by rw [u];exact bE
 have ai:=Zh (show ZrW ⟨E,h,m,so,sc,j,V,O,g,f.drew.heap.size⟩ w2 G z3 0 300 from ⟨by rw [u,hG];exact Blk.new _ _ _,D,by show E.heap.size≤G;omega,Nat.zero_le _,Nat.le_refl _,.z⟩);have n:=Zh (Zag F.out D);have ao:=Zh (HT.out.old n.out);have am:=Zh (HR.out.old n.out);have J:=Zh (show X+1+1<G from by have:=HR.out.lt;have:=F.out.size;omega)
 (try rw [←u,←hG])
 refine L _ _ ⟨B.out _ n.out,?_⟩;clear L Kv D u hG
 (refine pO ?_)
 refine Zd7 ?_;obtain ⟨t0,t1⟩:=Zj9 ao.out;have I:=Zh (fun A h'=>Zr7 aj.out (G:=G) 300 A z3 0 300 ⟨tk,tc⟩ x (Nat.le_refl _) h' ap.out ar.out);dsimp only at I
 go_upto_region 3 with (go_at_call 79;refine (I.out _ ai.out).mono ?_;rintro e w3 ⟨rfl,⟨C,aP,aO,hg,R,ay⟩,hu⟩;have q:=Zh hg;have ak:=Zh (ah.out C R);have HU:=Zh hu;clear hg R ay hu t0 t1)
 have r:=Zh (HU.out.blk am.out (by have:=J.out;simp only [List.mem_singleton];omega));have af:=Zh q.out.bd;obtain ⟨Z,c1,c2⟩:=C;have g0:=q.out.bk.cell 8 (v:=.int .i64 Z) rfl;have g1:=q.out.bk.cell 9 (v:=.int .i64 c1) rfl;have g2:=q.out.bk.cell 10 (v:=.int .i64 c2) rfl;obtain ⟨r0,r1,r2⟩:=r.out.c3;obtain ⟨f0,f1,f2⟩:=r.out.f3;have rl:=r.out.lt
 go_wp2_with fail
 have hz:=Zmx (x:=Z) (y:=c1) (z:=c2) r.out;have z0:=hz.c3.1;have z1:=hz.c3.2.1;have z2:=hz.c3.2.2;refine bodyPost_ret (v:=ag3 (Z,c1,c2)) (by simp [results,Tryz.results26,go_sem,ag3,z0,z1,z2]) rfl ⟨⟨(Z,c1,c2),rfl,ak.out,af.out⟩,Zmz (HU.out.below (Zag HB.out n.out) (Nat.le_refl _) (by have:=J.out;have:=K.out;simp only [List.mem_singleton];omega)) _ _ _ (show w.heap.size≤X+1+1 by have:=K.out;omega)⟩
end
section
open Go.RowKit
attribute [local go_sem] World.cell?_alloc_some
theorem Zsb {w:World}{a:Option Addr}{cap:Nat}{b:List Int} (h:Sl .i64 w a b∧(a=none→cap=0)):Zas w a cap b:=by
 refine ⟨?_,fun e=>⟨?_,h.2 e⟩,fun j u d=>?_⟩
 ·rw [Zau,List.length_map];show b.length=b.length*1;omega
 ·by_cases hz:b.length=0
  ·exact hz
  ·obtain ⟨g,f,_⟩:=h.1 0 (by omega);rw [e] at f;cases f
 ·rw [Zau,List.getElem?_map] at d;have c:j<b.length:=by
   by_cases c:j<b.length
   ·exact c
   ·rw [List.getElem?_eq_none (by omega)] at d;cases d
  obtain ⟨g,f,i⟩:=h.1 j c;rw [List.getElem?_eq_getElem c] at d;cases d;refine ⟨g,f,?_⟩;rw [i,List.getD_eq_getElem?_getD,List.getElem?_eq_getElem c];rfl
theorem Zsc {m:Md}{t:Ty} (a:okL m) (b:Zfk m t):(ZqA m t).2=0∨(ZqA m t).2=10∨(ZqA m t).2=6:=by
 rw [show ZqA m t=ZpU (Zm3 m t) from if_pos ⟨a,b⟩];cases Zm3 m t with
 | none=>exact .inr (.inl rfl)
 | some x=>unfold ZpU;dsimp only;split<;>simp
theorem Zsd {m:Md}{t:Ty} (a:okL m) (d:Zfk m t) (e:(ZqA m t).2=0):Zm3 m t=some (ZqA m t).1:=by have h:=show ZpU (Zm3 m t)=ZqA m t from (if_pos ⟨a,d⟩).symm;obtain ⟨x,b,c,-⟩:=ZqB h e;rw [b,c]
theorem Zse (m:Md) (h:Hd) (t:Ty) (ho:Option Addr) (hc:Nat) (i:List Int) (w:World) (H:Zaz w h m) (hr:Zas w ho hc i):Calls Tryz.prog 5 #[.agg (HM.mk h m),.agg #[.int .i64 t.k,.int .i64 t.c],.slice ho i.length hc] w (Ret w (.bool true)):=by
 obtain ⟨w0,D⟩:∃ w0,w0=(w.alloc (.cells (HM.mk h m) 26)).alloc (.cells #[.int .i64 t.k,.int .i64 t.c] 38):=⟨_,rfl⟩;have HB:=Zh (show Below w.heap.size w w0 by rw [D];exact bE);obtain ⟨X,hX⟩:∃ X,X=w.heap.size:=⟨_,rfl⟩;have F:=Zh (show Blk w0 X (HM.mk h m) 26 by rw [D,hX];exact (Blk.new _ _ _).alloc _);have E:=Zh (show Blk w0 (X+1) #[.int .i64 t.k,.int .i64 t.c] 38 by rw [D,hX];exact Blk.new' (w:=w.alloc _) _ _ (by simp));have HW:=Zh D;have ak:=Zh hX;have Hj:=Zh (H.old HB.out);have HR:=Zh (hr.old HB.out);have O:=Zh (fun j (h':Zaz j h m)=>ZnC m h j h');have B:=Zh (fun j=>ZeY m h t 1 j (by omega));clear hX H hr;by_cases hA:okL m∧Zfk m t∧i.length≤1000
 ·obtain ⟨M,ht,hl⟩:=hA;have aO:¬ (1000:Int) < i.length:=by omega
  have Y:=Zh (Zsc M ht);have aa:=Zh (fun e=>Zsd M ht e);have Z:=Zh (fun j (h':Zaz j h m)=>ZrT m h t j h');have ai:=Zh (fun x (hx:Zm3 m t=some x) j (h':Zaz j h m) (hr':Zas j ho hc i)=>Zsa m h M t ht x hx ho hc i hl j h' hr');rw [if_pos (show (Zmk m).2.2=0 from M)] at O;rw [show ZaG m.cl.length t 1=true from ht] at B;generalize ZqA m t=r at Y aa Z;obtain ⟨⟨y0,y1,y2⟩,ye⟩:=r;obtain ⟨tk,tc⟩:=t;dsimp only at E HW B Z ai Y aa;clear M ht hl D;go_enter Tryz.func5,Tryz.ntmps5
  go_upto_region 1 with fail
  rw [←HW.out,←ak.out];obtain ⟨u,y,z,A⟩:=Zj8 F.out;obtain ⟨n,s⟩:=Zj9 E.out
  go_upto_region 3 with (first
   | (go_at_call 20;refine (Zrx m h _ Hj.out).mono ?_;rintro e w1 ⟨⟨b,rfl⟩,I⟩;have f:=Zh I;clear I u y z A n s;obtain ⟨u,y,z,A⟩:=Zj8 (F.out.old f.out);obtain ⟨n,s⟩:=Zj9 (E.out.old f.out))
   | (go_at_call 21;refine (O.out _ (Hj.out.old f.out)).mono ?_;rintro e w2 ⟨rfl,J⟩;have f:=Zh (Zag f.out J);clear J u y z A n s;obtain ⟨u,y,z,A⟩:=Zj8 (F.out.old f.out);obtain ⟨n,s⟩:=Zj9 (E.out.old f.out))
   | (go_at_call 25;refine (B.out _).mono ?_;rintro e w3 ⟨rfl,K⟩;have f:=Zh (Zag f.out K);clear K u y z A n s;obtain ⟨u,y,z,A⟩:=Zj8 (F.out.old f.out);obtain ⟨n,s⟩:=Zj9 (E.out.old f.out))
   | (go_at_call 22;refine (ZpO _).mono ?_;rintro e wz ⟨rfl,L⟩))
  ·go_ret;exact ZcP rfl (Zag HB.out (Zag f.out L))
  go_upto_region 4 with (go_at_call 23;refine (Z.out _ (Hj.out.old f.out)).mono ?_;rintro e w4 ⟨rfl,am⟩;have aE:=Zh (Zag f.out am);clear am u y z A n s)
  obtain ⟨R,ab⟩:∃ R,R=w4.heap.size:=⟨_,rfl⟩;obtain ⟨G,U⟩:∃ G,G=w4.alloc (.cells #[.int .i64 y0,.int .i64 y1,.int .i64 y2] 45):=⟨_,rfl⟩;have an:Below w4.heap.size w4 G:=by rw [U];exact bE
  have W:=Zh (show Blk G R (cl3 y0 y1 y2) 45 by rw [U,ab];exact Blk.new _ _ _);have g:=Zh (Zag aE.out an);rw [←U,←ab];clear U an ab;have N:=Zh (show ∀ j,Below G.heap.size G j→Cs [(⟨X,0,none⟩,.slice h.co m.cl.length h.cc),(⟨X,1,none⟩,.slice h.so m.st.length h.sc),(⟨X,2,none⟩,.slice h.eo m.me.length h.ec),(⟨X,3,none⟩,.int .i64 m.sel),(⟨X+1,0,none⟩,.int .i64 tk),(⟨X+1,1,none⟩,.int .i64 tc),(⟨R,0,none⟩,.int .i64 y0),(⟨R,1,none⟩,.int .i64 y1),(⟨R,2,none⟩,.int .i64 y2)] j from fun j T=>⟨(F.out.old (Zag g.out T)).cell 0 rfl,(F.out.old (Zag g.out T)).cell 1 rfl,(F.out.old (Zag g.out T)).cell 2 rfl,(F.out.old (Zag g.out T)).cell 3 rfl,(E.out.old (Zag g.out T)).cell 0 rfl,(E.out.old (Zag g.out T)).cell 1 rfl,(W.out.old T).c3.1,(W.out.old T).c3.2.1,(W.out.old T).c3.2.2,trivial⟩);by_cases he:ye=0
  ·subst he;have aj:=Zh (ai.out _ (aa.out rfl))
   go_upto_region 6 with fail
   refine rO (Cs [(⟨X,0,none⟩,.slice h.co m.cl.length h.cc),(⟨X,1,none⟩,.slice h.so m.st.length h.sc),(⟨X,2,none⟩,.slice h.eo m.me.length h.ec),(⟨X,3,none⟩,.int .i64 m.sel),(⟨X+1,0,none⟩,.int .i64 tk),(⟨X+1,1,none⟩,.int .i64 tc),(⟨R,0,none⟩,.int .i64 y0),(⟨R,1,none⟩,.int .i64 y1),(⟨R,2,none⟩,.int .i64 y2)]) (oL [0,1,2,4,103,105,6,107,8,9]) (N.out _ (Below.refl _ _).drew) ?_
   iterate 4 (refine pO ?_)
   refine oO fun Kv V=>?_;go_simp;refine (aj.out _ (Hj.out.old (Zag g.out (Below.refl G.heap.size G).drew)) (HR.out.old (Zag g.out (Below.refl G.heap.size G).drew))).mono ?_;rintro e w6 ⟨⟨C,rfl,ar,-⟩,ao⟩;have aF:=Zh (Zry.2 ar);have af:=Zh (Zag (Below.refl G.heap.size G).drew ao);refine V _ _ ⟨N.out _ af.out,?_⟩;clear V Kv ao ar;refine oO fun Kv V=>?_;go_simp;refine (Zrz C (y0,y1,y2) _).mono ?_;rintro e w7 ⟨rfl,ap⟩;rw [aF.out];have ag:=Zh (Zag af.out ap);refine V _ _ ⟨N.out _ ag.out,?_⟩;clear V Kv ap
   (refine pO ?_)
   refine oO fun Kv V=>?_;go_simp;refine (ZpO _).mono ?_;rintro e w8 ⟨rfl,aq⟩;have ah:=Zh (Zag ag.out aq);refine V _ _ ⟨N.out _ ah.out,?_⟩;clear V Kv aq
   (refine pO ?_)
   (refine pO ?_)
   refine Zd7 ?_;go_wp2;go_ret;exact ZcP rfl (Zag HB.out (Zag g.out ah.out))
  ·have aN:(ye == 0)=false:=by simpa using he
   rcases Y.out with q|q|q
   ·exact absurd q he
   all_goals
    subst q
    go_wp2_with (go_at_call 22;refine (ZpO _).mono ?_;rintro e wz ⟨rfl,L⟩)
    go_ret;exact ZcP rfl (Zag HB.out (Zag g.out L))
 ·have ac:((1000:Int) < i.length)∨(¬ (1000:Int) < i.length∧(if (Zmk m).2.2=0 then (0:Int) else 1)=1)∨(¬ (1000:Int) < i.length∧(if (Zmk m).2.2=0 then (0:Int) else 1)=0∧ZaG m.cl.length t 1=false):=by
   by_cases h1:(1000:Int) < i.length
   ·exact .inl h1
   ·by_cases h2:okL m
    ·refine .inr (.inr ⟨h1,if_pos h2,?_⟩);cases q:ZaG m.cl.length t 1 with
     | false=>rfl
     | true=>exact absurd ⟨h2,q,by omega⟩ hA
    ·exact .inr (.inl ⟨h1,if_neg h2⟩)
  generalize (if (Zmk m).2.2=0 then (0:Int) else 1)=fq at O ac;generalize ZaG m.cl.length t 1=bq at B ac;obtain ⟨tk,tc⟩:=t;dsimp only at E HW B;clear hA D;rcases ac with h1|⟨h1,rfl⟩|⟨h1,rfl,rfl⟩
  all_goals
   go_enter Tryz.func5,Tryz.ntmps5
   go_upto_region 1 with fail
   rw [←HW.out,←ak.out];obtain ⟨u,y,z,A⟩:=Zj8 F.out;obtain ⟨n,s⟩:=Zj9 E.out
   go_wp2_with (first
    | (go_at_call 20;refine (Zrx m h _ Hj.out).mono ?_;rintro e w1 ⟨⟨b,rfl⟩,I⟩;have f:=Zh I;clear I u y z A n s;obtain ⟨u,y,z,A⟩:=Zj8 (F.out.old f.out);obtain ⟨n,s⟩:=Zj9 (E.out.old f.out))
    | (go_at_call 21;refine (O.out _ (Hj.out.old f.out)).mono ?_;rintro e w2 ⟨rfl,J⟩;have f:=Zh (Zag f.out J);clear J u y z A n s;obtain ⟨u,y,z,A⟩:=Zj8 (F.out.old f.out);obtain ⟨n,s⟩:=Zj9 (E.out.old f.out))
    | (go_at_call 25;refine (B.out _).mono ?_;rintro e w3 ⟨rfl,K⟩;have f:=Zh (Zag f.out K);clear K u y z A n s;obtain ⟨u,y,z,A⟩:=Zj8 (F.out.old f.out);obtain ⟨n,s⟩:=Zj9 (E.out.old f.out))
    | (go_at_call 22;refine (ZpO _).mono ?_;rintro e wz ⟨rfl,L⟩))
   all_goals
    go_ret;exact ZcP rfl (Zag HB.out (Zag f.out L))
end
section
open Go.RowKit
attribute [local go_sem] World.cell?_alloc_some
end
