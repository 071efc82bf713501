import Derived.Test.YtfmcclhfnpcokaaGreatT29
import Derived.Test.YtfmcclhfnpcokaaGreatT30
import Derived.Test.YtfmcclhfnpcokaaGreatT33
set_option linter.all false
set_option maxRecDepth 100000
set_option maxHeartbeats 16000000
namespace Go.Proofs.YtfmcclhfnpcokaaGreat
theorem j14{p:Prop}(h:p:=by
 refine hK _ _ ⟨HCs.out _ HB5.out,Zd7 ?_⟩;clear hK Kv r0 r1 r2 f0 f1 f2 rl
 go_wp2_with fail
 go_meet
 exact ⟨B,rfl,HZ5.out,HB5.out,HBw.out⟩):p:=h
section
open Go.RowKit
attribute [local go_sem] World.cell?_alloc_some
def ZsR (F:Ty→Option T3) (m:Md) (d k:Nat) (b:T3):Prop:=Zm0 F (szC m d) ((fsC m d).take k)=some b∧BdT b
theorem ZsR.zero {F:Ty→Option T3}{m:Md} (hm:Za2 m=true) {d:Nat} (hd:d<m.cl.length):ZsR F m d 0 (szC m d):=⟨rfl,ZoX hm hd⟩
theorem ZsR.next {F:Ty→Option T3}{m:Md}{d k:Nat}{b x:T3} (h:ZsR F m d k b) (hk:k<(fsC m d).length) (hx:F ((fsC m d).getD k default)=some x) (hb:BdT x):ZsR F m d (k+1) (plT b x):=
 ⟨by rw [Zam _ _ hk,ZqM,h.1];dsimp only;rw [hx],h.2.pl hb⟩
theorem ZsR.fin {F:Ty→Option T3}{m:Md}{d:Nat}{b:T3} (h:ZsR F m d (fsC m d).length b):Zm0 F (szC m d) (fsC m d)=some b:=by have:=h.1;rwa [List.take_length] at this
def ZsS (F:Ty→Option T3) (m:Md) (l:List Nat) (i:Nat) (a:T3):Prop:=Zqj m F z3 (l.take i)=some a∧BdT a
theorem ZsS.zero {F:Ty→Option T3}{m:Md}{l:List Nat}:ZsS F m l 0 z3:=⟨rfl,.z⟩
theorem ZsS.next {F:Ty→Option T3}{m:Md}{l:List Nat}{i:Nat}{a b:T3} (h:ZsS F m l i a) (hi:i<l.length) (hs:ZsR F m (l.getD i 0) (fsC m (l.getD i 0)).length b):ZsS F m l (i+1) (mxT a b):=by refine ⟨?_,h.2.mx hs.2⟩;rw [Zam _ _ hi,ZqN,h.1];dsimp only;rw [show l.getD i default=l.getD i 0 from rfl,hs.fin]
theorem ZsS.fin {F:Ty→Option T3}{m:Md}{l:List Nat}{a:T3} (h:ZsS F m l l.length a):Zqj m F z3 l=some a:=by have:=h.1;rwa [List.take_length] at this
theorem ZsT {m:Md}{F:Ty→Option T3}:∀ {l:List Nat}{a:T3}{d:Nat},d∈l→Zm0 F (szC m d) (fsC m d)=none→Zqj m F a l=none
 |e :: r,a,d,hd,h=>by
  unfold Zqj;rcases List.mem_cons.1 hd with rfl|hd
  ·rw [h]
  ·cases Zm0 F (szC m e) (fsC m e) with
   | none=>rfl
   | some x=>exact ZsT hd h
theorem ZsU {f:Nat→Option T3}{c:Nat} (h:f c=none):Zqn f c none=f:=by
 funext j
 unfold Zqn;split
 ·rename_i q;subst q;exact h.symm
 ·rfl
def ZsV (wb w:World) (S:Nat) (Z:Zsp) (h:Hd) (m:Md) (s:Tbs):Ending→World→Prop:=fun e w'=>e=.returned (.tuple #[])∧Zsq wb w' S Z h m s∧UpL Z.s w w'
theorem ZsW {wb:World}{S:Nat}{Z:Zsp}{h:Hd}{m:Md} (hv:Za2 m=true) {s:Tbs} (hs:Snd m s) {c:Nat} (hc:c<m.cl.length) (hn:s.1 c=none) (ao:Option Addr) (cap:Nat) (w:World) (H:Zsq wb w S Z h m s) (hr:Zas w ao cap ((ZmY m c).map fun d:Nat=>(d:Int))) :
  Calls Tryz.prog 143 #[ZQ.p S,.int .i64 c,.slice ao (ZmY m c).length cap] w (ZsV wb w S Z h m (stepO m s c)):=by
 have a4:stepO m s c=(Zqn s.1 c (Zqj m (ofV m s.1 s.2) z3 (ZmY m c)),s.2):=by unfold stepO;rw [if_neg (by rw [hn];simp)]
 rw [a4];have HF:=Zh (fun t (ht:Zfk m t) x (e:ofV m s.1 s.2 t=some x)=>Zo3 hv ht (Zqr hs ht e));have aR:=Zh (fun w' (hb:Below w.heap.size w w') t (ht:Zfk m t)=>Zst t ht w' (H.old hb));have HBl:=Zh (fun w' (hb:Below w.heap.size w w') d (E:d<m.cl.length)=>by have:=Zrj m h ⟨14,d,0⟩ w' (H.mod.old hb) (ZrL hv E).2;rwa [(ZrL hv E).1] at this);have aP:=Zh (fun d (E:d∈ZmY m c)=>Zm9 E);have az:=Zh (fun d (E:d∈ZmY m c) (e:Zm0 (ofV m s.1 s.2) (szC m d) (fsC m d)=none)=>ZsT (F:=ofV m s.1 s.2) (a:=z3) E e);have bo:=Zh (ZsU hn);have bv:(ZmY m c).length≤10:=by have:=List.length_filter_le (fun d=>ZaI m (d+1) d c&&ZmX m d) (List.range m.cl.length);rw [List.length_range] at this;have:=(Zir hv).1;unfold ZmY;omega
 have bn:=Zh (fun d (E:d<m.cl.length)=>Zna hv E);have bg:=Zh (fun d (E:d<m.cl.length)=>Zra hv E);have aS:=Zh (fun d (E:d<m.cl.length)=>ZsR.zero (F:=ofV m s.1 s.2) hv E);have HH:=Zh H;have Hj:=Zh H.mod;have HR:=Zh hr;have HC:=Zh hc;generalize ZmY m c=l at aP az bv HR ⊢;obtain ⟨F,hF⟩:∃ F,F=ofV m s.1 s.2:=⟨_,rfl⟩;rw [←hF] at HF aR az aS ⊢;clear H hv hs hn hr a4 hF hc;obtain ⟨A,hA⟩:∃ A,A=w.heap.size:=⟨_,rfl⟩;obtain ⟨w0,aq⟩:∃ w0,w0=w.alloc (.cells #[.int .i64 0,.int .i64 0,.int .i64 0] 45):=⟨_,rfl⟩;have bb:=Zh (show Below w.heap.size w w0 by rw [aq];exact bE);have a8:=Zh (show Blk w0 A (cl3 0 0 0) 45 by rw [aq,hA];exact Blk.new _ _ _);have HW:=Zh aq;have ba:=Zh hA;have aK:=Zh (show w.heap.size≤A by omega);clear aq hA;go_enter Tryz.func143,Tryz.ntmps143
 go_upto_region 1 with fail
 rw [←HW.out,←ba.out];go_wp2
 go_loopw [7] (fun i wr=>∃ (j:Nat) (a:T3),j≤l.length∧i=.int .i64 j∧Hid (Below w.heap.size w wr)∧Hid (ZsS F m l j a)∧Hid (Blk wr A (cl3 a.1 a.2.1 a.2.2) 45)) (fun i _=>l.length-(intOf i).toNat)
 case atStart=>exact ⟨0,z3,Nat.zero_le _,rfl,bb.out,.zero,a8.out⟩
 case round=>
  obtain ⟨j,a,hj,rfl,f,aQ,T⟩:=hrel;rename World=>wo;by_cases hjl:j<l.length
  ·have bC:(j:Int) < l.length:=by omega
   have bQ:IntKind.i64.wrap ((j:Int)+1)=((j+1:Nat):Int):=IntWalk.i64_in _ (by omega);obtain ⟨d,E⟩:∃ d,d=l.getD j 0:=⟨_,rfl⟩;have aH:d∈l:=by rw [E,show l.getD j 0=l[j] by simp [hjl]];exact List.getElem_mem hjl
   have N:=aP.out d aH;have bd:=Zh aH;have be:=Zh E;obtain ⟨ad,rfl,ck⟩:=ZaC (HR.out.old f.out) (i:=j) (by rw [List.length_map];exact hjl);rw [show (l.map fun d:Nat=>(d:Int)).getD j 0=(d:Int) by rw [E];simp [hjl]] at ck;have aN:=Zh (show ∀ w',Below wo.heap.size wo w'→w'.cell? (ad.add j)=some (.int .i64 d) from fun w' hb=>(hb.cell (Zad ck)).trans ck);have av:=Zh (fun w' hb=>HBl.out w' hb d N);obtain ⟨v,hv⟩:∃ v,v=szC m d:=⟨_,rfl⟩;have aU:=Zh (aS.out d N);rw [←hv] at av aU;have bB:(d:Int) < m.cl.length:=by omega
   clear hv E aH ck;obtain ⟨v0,v1,v2⟩:=v;have HCs:=Zh (show ∀ w',Below wo.heap.size wo w'→Cs [(⟨S,0,none⟩,.slice h.co m.cl.length h.cc),(⟨S,1,none⟩,.slice h.so m.st.length h.sc),(⟨S,2,none⟩,.slice h.eo m.me.length h.ec),(⟨S,3,none⟩,.int .i64 m.sel),(ad.add j,.int .i64 d)] w' from fun w' hb=>⟨(HH.out.bk.old (Zag f.out hb)).cell 0 rfl,(HH.out.bk.old (Zag f.out hb)).cell 1 rfl,(HH.out.bk.old (Zag f.out hb)).cell 2 rfl,(HH.out.bk.old (Zag f.out hb)).cell 3 rfl,aN.out _ hb,trivial⟩)
   go_upto_region 4 with fail
   go_cut [8] from 19 to 28 (fun p wx=>∃ B:Nat,p=.pointer (some ⟨B,0,none⟩)∧Hid (Blk wx B (cl3 v0 v1 v2) 45)∧Hid (Below wo.heap.size wo wx)∧Hid (wo.heap.size≤B))
   case first=>
    refine rO (Cs [(⟨S,0,none⟩,.slice h.co m.cl.length h.cc),(⟨S,1,none⟩,.slice h.so m.st.length h.sc),(⟨S,2,none⟩,.slice h.eo m.me.length h.ec),(⟨S,3,none⟩,.int .i64 m.sel),(ad.add j,.int .i64 d)]) (.plain 0 (.plain 1 (.plain 2 (.plain 3 (.plain 4 (.plain 5 (.plain 6 (.plain 7 (.plain 8 (.two 9 10 (.one 10 (.one 11 .done)) (.one 9 (.one 11 .done)))))))))))) (HCs.out _ (Below.refl _ _).drew) ?_
    iterate 9 (refine pO ?_)
    refine Zd6 ?_ ?_
    ·refine Zd4 _ (by rfl) (by rfl) fun Kv hK=>?_;go_simp;refine (av.out _ f.out.drew).mono ?_;rintro e w3 ⟨rfl,hb3⟩;have HB3:=Zh (Zag (Below.refl wo.heap.size wo).drew hb3);refine hK _ _ ⟨HCs.out _ HB3.out,?_⟩;clear hK Kv hb3;refine oO fun Kv hK=>?_;go_simp;obtain ⟨w4,D⟩:∃ w4,w4=w3.alloc (.cells #[.int .i64 0,.int .i64 0,.int .i64 0] 45):=⟨_,rfl⟩;obtain ⟨B,hB⟩:∃ B,B=w3.heap.size:=⟨_,rfl⟩;have V:Below w3.heap.size w3 w4:=by rw [D];exact bE
     have I:=Zh (Zag HB3.out V);have M:=Zh (show Blk w4 B (cl3 0 0 0) 45 by rw [D,hB];exact Blk.new _ _ _);have HBw:=Zh (show wo.heap.size≤B by have:=HB3.out.size;omega);rw [←D,←hB];refine hK _ _ ⟨HCs.out _ I.out,?_⟩;clear hK Kv V D hB;refine oO fun Kv hK=>?_;obtain ⟨r0,r1,r2⟩:=M.out.c3;obtain ⟨f0,f1,f2⟩:=M.out.f3;have rl:=M.out.lt
     (try simp only [ag3])
     go_simp;have HZ5:=Zh (Zmx (x:=v0) (y:=v1) (z:=v2) M.out);have HB5:=Zh (Zmz I.out (.int .i64 v0) (.int .i64 v1) (.int .i64 v2) HBw.out);exact j14
    ·refine Zd4 _ (by rfl) (by rfl) fun Kv hK=>?_;go_simp;obtain ⟨w4,D⟩:∃ w4,w4=(wo.alloc (.cells #[.int .i64 0,.int .i64 0,.int .i64 0] 45)).drew:=⟨_,rfl⟩;obtain ⟨B,hB⟩:∃ B,B=wo.heap.size:=⟨_,rfl⟩;have V:Below wo.heap.size wo w4:=by rw [D];exact bE
     have I:=Zh V;have M:=Zh (show Blk w4 B (cl3 0 0 0) 45 by rw [D,hB];exact (Blk.new _ _ _).drew);have HBw:=Zh (show wo.heap.size≤B by omega);rw [←D,←hB];refine hK _ _ ⟨HCs.out _ I.out,?_⟩;clear hK Kv V D hB;refine oO fun Kv hK=>?_;go_simp;refine (av.out _ (Zag f.out I.out)).mono ?_;rintro e w3 ⟨rfl,hb3⟩;have HB3:=Zh (Zag I.out hb3);have af:=Zh (M.out.old hb3);refine hK _ _ ⟨HCs.out _ HB3.out,?_⟩;clear hK Kv hb3;refine oO fun Kv hK=>?_;obtain ⟨r0,r1,r2⟩:=af.out.c3;obtain ⟨f0,f1,f2⟩:=af.out.f3;have rl:=af.out.lt
     (try simp only [ag3])
     go_simp;have HZ5:=Zh (Zmx (x:=v0) (y:=v1) (z:=v2) af.out);have HB5:=Zh (Zmz HB3.out (.int .i64 v0) (.int .i64 v1) (.int .i64 v2) HBw.out);exact j14
   case rest=>
    obtain ⟨B,rfl,bc,au,HBw⟩:=hcut;have aw:=Zh (Zag f.out au.out);have a9:=Zh (T.out.old au.out);have aM:=Zh (show w.heap.size≤B by have:=f.out.size;have:=HBw.out;omega);have HNe:=Zh (show A≠B by have:=T.out.lt;have:=HBw.out;omega);obtain ⟨aG,aY,-,-,e2,-⟩:=(Hj.out.old aw.out).cls N;rw [show (m.cl.getD d default).f.length=(fsC m d).length from rfl] at e2;have s0:=(HH.out.bk.old aw.out).cell 0 (v:=.slice h.co m.cl.length h.cc) rfl;rw [aY] at s0;have c0:=aN.out _ au.out
    go_upto_region 5 with fail
    refine rO (Cs [(⟨S,0,none⟩,.slice (some aG) m.cl.length h.cc),(ad.add j,.int .i64 d),(⟨(aG.add (d*4)).block,(aG.add (d*4)).off+2,none⟩,.slice (h.c d).fo (fsC m d).length (h.c d).fc)]) (oL [0,1,2,3,4,5,6,7,8,9,10,11,12]) ⟨s0,c0,e2,trivial⟩ ?_;clear s0 c0 e2 aY
    repeat refine pO ?_
    refine Zd7 ?_;have ay:=Zh (show ∀ w',Below w.heap.size w w'→Zas w' (h.c d).fo (h.c d).fc (fsC m d) from fun w' hb=>(Hj.out.old hb).f d N);have bm:=Zh (bn.out d N);have bN:=bg.out d N;generalize (h.c d).fo=fo at ay ⊢;generalize (h.c d).fc=fc at ay ⊢;go_wp2
    go_loopw [10] (fun i wr=>∃ (k:Nat) (b:T3),k≤(fsC m d).length∧i=.int .i64 k∧Hid (Below w.heap.size w wr)∧Hid (ZsR F m d k b)∧Hid (Blk wr A (cl3 a.1 a.2.1 a.2.2) 45)∧Hid (Blk wr B (cl3 b.1 b.2.1 b.2.2) 45)) (fun i _=>(fsC m d).length-(intOf i).toNat)
    case atStart=>exact ⟨0,(v0,v1,v2),Nat.zero_le _,rfl,aw.out.drew,aU.out,a9.out.drew,bc.out.drew⟩
    case round=>
     obtain ⟨k,b,hk,rfl,J,aC,R,G⟩:=hrel;rename World=>wk;by_cases hkl:k<(fsC m d).length
     ·have hkl2:(k:Int) < (fsC m d).length:=by omega
      have bR:IntKind.i64.wrap ((k:Int)+1)=((k+1:Nat):Int):=IntWalk.i64_in _ (by omega);obtain ⟨fd,rfl,f0,f1⟩:=ZaA (ay.out _ J.out) hkl;have ap:=bm.out _ (ZfX (default:Ty) hkl);have aA:=Zh (fun x (e:F ((fsC m d).getD k default)=some x)=>ZsR.next aC.out hkl e (HF.out _ ap x e));have HNo:=Zh (fun (e:F ((fsC m d).getD k default)=none)=>az.out d bd.out (Zno (ZfX (default:Ty) hkl) e));have U:=Zh (fun w' hb=>aR.out w' hb _ ap);have ax:=Zh (fun x (e:F ((fsC m d).getD k default)=some x)=>HF.out _ ap x e);generalize (fsC m d).getD k default=ty at f0 f1 aA HNo U ax;obtain ⟨tk,tc⟩:=ty;dsimp only at f0 f1 U;obtain ⟨fx,aZ⟩:∃ fx,fx=F ⟨tk,tc⟩:=⟨_,rfl⟩;rw [←aZ] at U aA HNo ax;clear ap aZ;rcases fx with _|x
      ·have bk:=Zh (HNo.out rfl)
       go_wp2_with (go_at_call 89;refine (U.out _ J.out).mono ?_;rintro e w5 ⟨rfl,hb5⟩;(try simp only [ag3,Option.getD_none,Option.isSome_none,z3]);have HB5:=Zh (Zag J.out hb5);clear hb5)
       refine bodyPost_ret (v:=.tuple #[]) (by simp [results,Tryz.results143,go_sem]) rfl ⟨rfl,?_,?_⟩
       ·rw [bk.out,bo.out];exact HH.out.old (bal HB5.out _)
       ·exact UpL.of (bal HB5.out _)
      ·have bj:=Zh (aA.out x rfl);have bh:=Zh (ax.out x rfl);have aL:=Zh aC.out.2;obtain ⟨x0,x1,x2⟩:=x;obtain ⟨b0,b1,b2⟩:=b;obtain ⟨a0,a1,a2⟩:=a;dsimp only at G R
       go_upto_region 11 with (go_at_call 89;refine (U.out _ J.out).mono ?_;rintro e w5 ⟨rfl,hb5⟩;(try simp only [ag3,Option.getD_some,Option.isSome_some]);have bi:=Zh hb5;clear hb5)
       obtain ⟨w6,hw6⟩:∃ w6,w6=w5.alloc (.cells #[.int .i64 x0,.int .i64 x1,.int .i64 x2] 45):=⟨_,rfl⟩;obtain ⟨Y,hY⟩:∃ Y,Y=w5.heap.size:=⟨_,rfl⟩;have hb6:Below w5.heap.size w5 w6:=by rw [hw6];exact bE
       have bp:=Zh (show Blk w6 Y (cl3 x0 x1 x2) 45 by rw [hw6,hY];exact Blk.new _ _ _);have aO:=Zh (Zag bi.out hb6);rw [←hw6,←hY];clear hw6 hY hb6 f0 f1;have HB6:=Zh (G.out.old aO.out);obtain ⟨aD,aE,aF⟩:=HB6.out.c3;obtain ⟨bx,bz,bA⟩:=bp.out.c3
       go_wp2_with (go_at_call 140;refine (Zrc (b0,b1,b2) (x0,x1,x2) _ aL.out bh.out).mono ?_;rintro e w7 ⟨rfl,hb7⟩;(try simp only [ag3]);have ae:=Zh (Zag aO.out hb7);have HB7:=Zh (HB6.out.old hb7);clear hb7 aD aE aF bx bz bA;obtain ⟨r0,r1,r2⟩:=HB7.out.c3;obtain ⟨g0,g1,g2⟩:=HB7.out.f3;have rl:=HB7.out.lt)
       refine ⟨⟨k+1,plT (b0,b1,b2) (x0,x1,x2),hkl,rfl,Zmz (Zag J.out ae.out) _ _ _ aM.out,bj.out,?_,Zmx HB7.out⟩,by simp [intOf];omega⟩;exact (((R.out.old ae.out).other (a:=⟨B,0,none⟩) HNe.out _).other (a:=⟨B,1,none⟩) HNe.out _).other (a:=⟨B,2,none⟩) HNe.out _
     ·obtain rfl:k=(fsC m d).length:=by omega
      have bP:¬ ((fsC m d).length:Int) < (fsC m d).length:=by omega
      have bl:=Zh (ZsS.next aQ.out hjl (by rw [←be.out];exact aC.out));obtain ⟨b0,b1,b2⟩:=b;obtain ⟨a0,a1,a2⟩:=a;dsimp only at G R;obtain ⟨aD,aE,aF⟩:=G.out.c3;obtain ⟨ah,aj,al⟩:=R.out.c3
      go_wp2_with (go_at_call 154;refine (Zrd (a0,a1,a2) (b0,b1,b2) _).mono ?_;rintro e w7 ⟨rfl,hb7⟩;(try simp only [ag3]);have ae:=Zh hb7;have ac:=Zh (R.out.old hb7);clear hb7 aD aE aF ah aj al;obtain ⟨r0,r1,r2⟩:=ac.out.c3;obtain ⟨g0,g1,g2⟩:=ac.out.f3;have rl:=ac.out.lt)
      exact ⟨⟨j+1,mxT (a0,a1,a2) (b0,b1,b2),hjl,rfl,Zmz (Zag J.out ae.out) _ _ _ aK.out,bl.out,Zmx ac.out⟩,by simp [intOf];omega⟩
  ·obtain rfl:j=l.length:=by omega
   have bO:¬ (l.length:Int) < l.length:=by omega
   have HFi:=Zh aQ.out.fin;obtain ⟨a0,a1,a2⟩:=a;dsimp only at T;have C:=Zh (HH.out.old f.out);have bM:(c:Int) < m.cl.length:=by have:=HC.out;omega
   obtain ⟨ah,aj,al⟩:=T.out.c3;have s7:=C.out.bk.cell 7 (v:=.slice (some ⟨Z.o,0,none⟩) m.cl.length m.cl.length) rfl;have hT:=Zr9 C.out.ob (c:=c) (by rw [Zse];exact HC.out);obtain ⟨q0,q1,q2⟩:=hT;have k0:=C.out.ob.frozen (c*3);have k1:=C.out.ob.frozen (c*3+1);have k2:=C.out.ob.frozen (c*3+2);have kl:=C.out.ob.lt;have a3:=(HH.out.new aK.out);have aa:=a3.2.1;have X:=HH.out.nes;have an:=HH.out.ne3;simp only [Zsp.s,List.mem_cons,List.not_mem_nil,or_false,not_or] at aa X;have ar:=Zh (((T.out.other (a:=⟨Z.o,c*3,none⟩) aa.1 (.int .i64 a0)).other (a:=⟨Z.o,c*3+1,none⟩) aa.1 (.int .i64 a1)).other (a:=⟨Z.o,c*3+2,none⟩) aa.1 (.int .i64 a2));have aT:=Zh (((C.out.bk.other (a:=⟨Z.o,c*3,none⟩) X.1 (.int .i64 a0)).other (a:=⟨Z.o,c*3+1,none⟩) X.1 (.int .i64 a1)).other (a:=⟨Z.o,c*3+2,none⟩) X.1 (.int .i64 a2));have aB:=Zh (((C.out.pb.other (a:=⟨Z.o,c*3,none⟩) (fun e=>an.1 e.symm) (.int .i64 a0)).other (a:=⟨Z.o,c*3+1,none⟩) (fun e=>an.1 e.symm) (.int .i64 a1)).other (a:=⟨Z.o,c*3+2,none⟩) (fun e=>an.1 e.symm) (.int .i64 a2));clear a3 aa X an
   go_upto_region 13 with fail
   refine rO (Cs [(⟨S,7,none⟩,.slice (some ⟨Z.o,0,none⟩) m.cl.length m.cl.length),(⟨A,0,none⟩,.int .i64 a0),(⟨A,1,none⟩,.int .i64 a1),(⟨A,2,none⟩,.int .i64 a2)]) (oL [0,1,2,3,4,5,6,107]) ⟨s7,ah,aj,al,trivial⟩ ?_;clear s7 ah aj al
   iterate 7 (refine pO ?_)
   refine oO fun Kv hK=>?_;go_simp;refine hK _ _ ⟨⟨aT.out.cell 7 rfl,ar.out.c3.1,ar.out.c3.2.1,ar.out.c3.2.2,trivial⟩,Zd7 ?_⟩;clear hK Kv q0 q1 q2 k0 k1 k2 kl;have s9:=aT.out.cell 9 (v:=.slice (some ⟨Z.p,0,none⟩) m.cl.length m.cl.length) rfl;have p0:=Zsc aB.out (c:=c) (by rw [Zsf];exact HC.out);have pf:=aB.out.frozen c;have pl:=aB.out.lt
   go_wp2_with fail
   obtain ⟨hz,hu⟩:=C.out.setO HC.out (a0,a1,a2) (by simp [World.setCell]) rfl;refine bodyPost_ret (v:=.tuple #[]) (by simp [results,Tryz.results143,go_sem]) rfl ⟨rfl,?_,?_⟩
   ·rw [HFi.out];exact hz.old (Below.refl _ _).drew
   ·exact (UpL.of f.out).trans (hu.trans (UpL.of (Below.refl _ _).drew))
end
section
open Go.RowKit
attribute [local go_sem] World.cell?_alloc_some
theorem ZsX {m:Md}{o n b:Int} (c:o=15∨o=16) (a:0≤n) (d:n≤48):szV m ⟨o,n,b⟩=ZmE n true∧ZmH m ⟨o,n,b⟩:=by
 refine ⟨?_,⟨fun e=>?_,fun _=>⟨a,by show n≤1000;omega⟩⟩⟩
 ·unfold szV;rw [if_neg (show ¬ (⟨o,n,b⟩:In3).op=14 from by show ¬ o=14;omega),if_pos (show (⟨o,n,b⟩:In3).op=15∨(⟨o,n,b⟩:In3).op=16 from c)]
 ·have:o=14:=e;omega
theorem ZsY {l:List Int}{k:Nat} (a:k<l.length) (n:Int):ZmT (l.take (k+1)) n=Zmt (ZmT (l.take k) n) (l.getD k 0):=by rw [Zam _ _ a,ZqK];rfl
theorem ZsZ {l:List Int} (e:∀ n∈l,0≤n∧n≤48) (k:Nat):0≤ZmT (l.take k) 0∧ZmT (l.take k) 0≤48:=by
 have c:∀ (l:List Int),(∀ n∈l,0≤n∧n≤48)→∀ a:Int,0≤a∧a≤48→0≤ZmT l a∧ZmT l a≤48:=by
  intro l
  induction l with
  | nil=>intro _ a d;exact d
  |cons x r ih=>
   intro h a d;show 0≤ZmT r (Zmt a x)∧_;refine ih (fun n b=>h n (by simp [b])) _ ?_;have:=h x (by simp);unfold Zmt;split<;>omega
 exact c _ (fun n b=>e n (List.mem_of_mem_take b)) 0 (by omega)
theorem Zs0 {S:Nat}{h:Hd}{m:Md} (hv:Za2 m=true) (t:Ty) (w:World) {xs:Array Value}{ty:TypeId} (g:Blk w S xs ty) (x0:xs[0]?=some (.slice h.co m.cl.length h.cc)) (x1:xs[1]?=some (.slice h.so m.st.length h.sc)) (x2:xs[2]?=some (.slice h.eo m.me.length h.ec)) (x3:xs[3]?=some (.int .i64 m.sel)) (H:Zaz w h m) :
  Calls Tryz.prog 142 #[ZQ.p S,.agg #[.int .i64 t.k,.int .i64 t.c]] w (Zhi w (ag3 (ZmW m t)) (.int .i64 (ZmU m t))):=by
 obtain ⟨N,G⟩:∃ N,N=(w.alloc (.cells #[.int .i64 t.k,.int .i64 t.c] 38)).alloc (.cells #[.int .i64 0,.int .i64 0,.int .i64 0] 45):=⟨_,rfl⟩;have HB:=Zh (show Below w.heap.size w N by rw [G];exact bE);obtain ⟨X,hX⟩:∃ X,X=w.heap.size:=⟨_,rfl⟩;have HT:=Zh (show Blk N X #[.int .i64 t.k,.int .i64 t.c] 38 by rw [G,hX];exact (Blk.new _ _ _).alloc _);have HR:=Zh (show Blk N (X+1) (cl3 0 0 0) 45 by rw [G,hX];exact Blk.new' (w:=w.alloc _) _ _ (by simp));have HW:=Zh G;have a3:=Zh hX;have aw:=Zh (show w.heap.size≤X by omega);have r:=Zh (show ∀ w',Below w.heap.size w w'→w'.cell? ⟨S,0,none⟩=some (.slice h.co m.cl.length h.cc)∧w'.cell? ⟨S,1,none⟩=some (.slice h.so m.st.length h.sc)∧w'.cell? ⟨S,2,none⟩=some (.slice h.eo m.me.length h.ec)∧w'.cell? ⟨S,3,none⟩=some (.int .i64 m.sel) from fun w' f=>⟨(g.old f).cell 0 x0,(g.old f).cell 1 x1,(g.old f).cell 2 x2,(g.old f).cell 3 x3⟩);have Hj:=Zh (fun w' f=>H.old (w':=w') f);have U:=Zh (fun w' f=>Zr5 m h t w' (H.old (w':=w') f) hv);have HL:=Zh (ZoS hv (t:=t));have a7:(ZmS m t).length≤1000000:=ZrV hv t;have HA:=Zh (show ZmW m t=ZmV (ZmS m t) z3 from rfl);have HG:=Zh (show ZmU m t=ZmT (ZmS m t) 0 from rfl);generalize ZmW m t=ar at HA ⊢;generalize ZmU m t=lg at HG ⊢;generalize ZmS m t=l at U HL HA HG a7;have aN:=Zh (fun (o n b:Int) w' (f:Below w.heap.size w w') (ho:o=15∨o=16) (h0:0≤n) (h1:n≤48)=>by have:=Zrj m h ⟨o,n,b⟩ w' (H.old f) (ZsX ho h0 h1).2;rwa [(ZsX (m:=m) (b:=b) ho h0 h1).1] at this);obtain ⟨R,tc⟩:=t;dsimp only at HT HW U
 clear G g x0 x1 x2 x3 H hv hX;go_enter Tryz.func142,Tryz.ntmps142
 go_upto_region 1 with fail
 rw [←HW.out,←a3.out]
 go_upto_region 3 with fail
 obtain ⟨A,hA⟩:∃ A,A=N.heap.size:=⟨_,rfl⟩;obtain ⟨I,M⟩:∃ I,I=N.alloc (.cells #[.int .i64 0,.int .i64 0,.int .i64 0] 45):=⟨_,rfl⟩;have K:Below N.heap.size N I:=by rw [M];exact bE
 have am:=Zh (show Blk I A (cl3 0 0 0) 45 by rw [M,hA];exact Blk.new _ _ _);have C:=Zh (Zag HB.out K);have W:=Zh (HT.out.old K);have aT:=Zh (HR.out.old K);have u:=Zh (show X+1<A from by have:=HR.out.lt;omega);rw [←M,←hA];clear M K hA;have au:=Zh (show ∀ w',Below I.heap.size I w'→Cs [(⟨S,0,none⟩,.slice h.co m.cl.length h.cc),(⟨S,1,none⟩,.slice h.so m.st.length h.sc),(⟨S,2,none⟩,.slice h.eo m.me.length h.ec),(⟨S,3,none⟩,.int .i64 m.sel),(⟨X,0,none⟩,.int .i64 R),(⟨X,1,none⟩,.int .i64 tc)] w' from fun w' g=>⟨(r.out _ (Zag C.out g)).1,(r.out _ (Zag C.out g)).2.1,(r.out _ (Zag C.out g)).2.2.1,(r.out _ (Zag C.out g)).2.2.2,(W.out.old g).cell 0 rfl,(W.out.old g).cell 1 rfl,trivial⟩);refine rO (Cs [(⟨S,0,none⟩,.slice h.co m.cl.length h.cc),(⟨S,1,none⟩,.slice h.so m.st.length h.sc),(⟨S,2,none⟩,.slice h.eo m.me.length h.ec),(⟨S,3,none⟩,.int .i64 m.sel),(⟨X,0,none⟩,.int .i64 R),(⟨X,1,none⟩,.int .i64 tc)]) (oL [0,1,2,3,4,105,6]) (au.out _ (Below.refl _ _).drew) ?_
 iterate 5 (refine pO ?_)
 refine oO fun Z F=>?_;go_simp;refine (U.out _ C.out.drew).mono ?_;rintro e w2 ⟨⟨ao,ax,rfl,aD,aC⟩,az⟩;have aQ:=Zh (show ∀ a,ao=some a→a.block≠A from fun a ha=>by have:=aC a ha;have:A<I.heap.size:=am.out.lt;have:I.drew.heap.size=I.heap.size:=rfl;omega);have j:=Zag (Below.refl I.heap.size I).drew az;have aL:=Zh (Zag C.out j);have aW:=Zh aD;have aX:=Zh (W.out.old j);have aU:=Zh (aT.out.old j);have aK:=Zh (am.out.old j);refine F _ _ ⟨au.out _ j,?_⟩;clear F Z az aD j aC
 (refine pO ?_)
 refine Zd7 ?_;go_wp2
 go_loopw [7,9,10] (fun n i op wr=>∃ (k:Nat) (a:T3),k≤l.length∧i=.int .i64 k∧n=.int .i64 (ZmT (l.take k) 0)∧Hid (Below w.heap.size w wr)∧Hid (ZrA l k a)∧Hid (Zas wr ao ax l)∧Hid (Blk wr X #[.int .i64 R,.int .i64 tc] 38)∧Hid (Blk wr (X+1) (cl3 0 0 0) 45)∧Hid (Blk wr A (cl3 a.1 a.2.1 a.2.2) 45)) (fun _ i _ _=>l.length-(intOf i).toNat)
 case atStart=>exact ⟨0,z3,Nat.zero_le _,rfl,rfl,aL.out,rfl,aW.out,aX.out,aU.out,aK.out⟩
 case round=>
  obtain ⟨k,a,hk,rfl,rfl,B,an,av,Y,E,s⟩:=hrel;rename World=>wo;by_cases hkl:k<l.length
  ·have bg:(k:Int) < l.length:=by omega
   have bv:IntKind.i64.wrap ((k:Int)+1)=((k+1:Nat):Int):=IntWalk.i64_in _ (by omega);obtain ⟨ad,rfl,ck⟩:=ZaC av.out hkl;have hn:=HL.out _ (ZfX (0:Int) hkl);have HN:=Zh (ZrA.next an.out hkl);have V:=Zh (ZsY hkl 0);have L:=ZsZ HL.out k;obtain ⟨n,ae⟩:∃ n,n=l.getD k 0:=⟨_,rfl⟩;rw [←ae] at ck hn HN V;have aR:=Zh ae.symm;clear ae;generalize ZmT (l.take k) 0=mv at V L ⊢;have aZ:=Zh (ZmP (n:=n) (b:=true) hn.1 (by omega));have aq:=Zh (fun o (ho:o=15∨o=16) w' f=>aN.out o n tc w' f ho hn.1 hn.2);generalize ZmE n true=v at HN aZ aq;obtain ⟨a0,a1,a2⟩:=a;dsimp only at s;have T:=Zh (show ∀ w',Below wo.heap.size wo w'→Cs [(⟨A,0,none⟩,.int .i64 a0),(⟨A,1,none⟩,.int .i64 a1),(⟨A,2,none⟩,.int .i64 a2),(⟨S,0,none⟩,.slice h.co m.cl.length h.cc),(⟨S,1,none⟩,.slice h.so m.st.length h.sc),(⟨S,2,none⟩,.slice h.eo m.me.length h.ec),(⟨S,3,none⟩,.int .i64 m.sel),(ad.add k,.int .i64 n),(⟨X,1,none⟩,.int .i64 tc)] w' from fun w' g=>⟨(s.out.old g).c3.1,(s.out.old g).c3.2.1,(s.out.old g).c3.2.2,(r.out _ (Zag B.out g)).1,(r.out _ (Zag B.out g)).2.1,(r.out _ (Zag B.out g)).2.2.1,(r.out _ (Zag B.out g)).2.2.2,(g.cell (Zad ck)).trans ck,(Y.out.old g).cell 1 rfl,trivial⟩);have t0:=Y.out.cell 0 (v:=.int .i64 R) rfl;have hq:∃ o:Int,(o=15∨o=16)∧((R=4∧o=16)∨((R == 4)=false∧¬ R=4∧o=15)):=by
    by_cases q:R=4
    ·exact ⟨16,.inr rfl,.inl ⟨q,rfl⟩⟩
    ·exact ⟨15,.inl rfl,.inr ⟨by simpa using q,q,rfl⟩⟩
   obtain ⟨o,ho,hq⟩:=hq;have aO:=Zh (aq.out o ho);clear ck ho;rcases hq with ⟨rfl,rfl⟩|⟨qb,qn,rfl⟩
   all_goals
    go_upto_region 10 with fail
    refine rE (Cs [(⟨A,0,none⟩,.int .i64 a0),(⟨A,1,none⟩,.int .i64 a1),(⟨A,2,none⟩,.int .i64 a2),(⟨S,0,none⟩,.slice h.co m.cl.length h.cc),(⟨S,1,none⟩,.slice h.so m.st.length h.sc),(⟨S,2,none⟩,.slice h.eo m.me.length h.ec),(⟨S,3,none⟩,.int .i64 m.sel),(ad.add k,.int .i64 n),(⟨X,1,none⟩,.int .i64 tc)]) 15 (oL [0,1,2,3,4,5,6,7,8,9,10,11,12,113,114]) (T.out _ (Below.refl _ _).drew) ?_;clear t0
    iterate 13 (refine pE ?_)
    refine oE fun Z F=>?_;go_simp;refine (aO.out _ B.out.drew).mono ?_;rintro e w3 ⟨rfl,aA⟩;have ap:=Zh (Zag (Below.refl wo.heap.size wo).drew aA);refine F _ _ ⟨T.out _ ap.out,?_⟩;clear F Z aA;refine oE fun Z F=>?_;go_simp;refine (Zrd (a0,a1,a2) v _).mono ?_;rintro e w4 ⟨rfl,aB⟩;have D:=Zh (Zag ap.out aB);refine F _ _ ⟨T.out _ D.out,?_⟩;clear F Z aB;generalize mxT (a0,a1,a2) v=y at HN ⊢;obtain ⟨y0,y1,y2⟩:=y;have J:=Zh (s.out.old D.out);refine sE fun Z F=>?_;obtain ⟨r0,r1,r2⟩:=J.out.c3;obtain ⟨f0,f1,f2⟩:=J.out.f3;have rl:=J.out.lt
    (try simp only [ag3])
    go_simp;have hz:=Zmx (x:=y0) (y:=y1) (z:=y2) J.out;have HZ:=Zh hz;have aY:=Zh ((((Y.out.old D.out).other (a:=⟨A,0,none⟩) (show X≠A by have:=u.out;omega) (.int .i64 y0)).other (a:=⟨A,1,none⟩) (show X≠A by have:=u.out;omega) (.int .i64 y1)).other (a:=⟨A,2,none⟩) (show X≠A by have:=u.out;omega) (.int .i64 y2));have aV:=Zh ((((E.out.old D.out).other (a:=⟨A,0,none⟩) (show X+1≠A by have:=u.out;omega) (.int .i64 y0)).other (a:=⟨A,1,none⟩) (show X+1≠A by have:=u.out;omega) (.int .i64 y1)).other (a:=⟨A,2,none⟩) (show X+1≠A by have:=u.out;omega) (.int .i64 y2));have aM:=Zh (Zmz (Zag B.out D.out) (.int .i64 y0) (.int .i64 y1) (.int .i64 y2) (show w.heap.size≤A by have:=u.out;have:=aw.out;omega));have O:=Zh (show Zas (((w4.setCell ⟨A,0,none⟩ (.int .i64 y0)).setCell ⟨A,1,none⟩ (.int .i64 y1)).setCell ⟨A,2,none⟩ (.int .i64 y2)) (some ad) ax l from Zso (av.out.old D.out) aQ.out _ _ _);refine F _ _ ?_;clear F Z r0 r1 r2 f0 f1 f2 rl hz;have br:=Zh (show mv≤48∧0≤mv from ⟨L.2,L.1⟩);clear L;have a5:=ZaC O.out hkl;obtain ⟨bt,ay,ck⟩:=a5;obtain rfl:=Option.some.inj ay;rw [aR.out] at ck;clear ay;go_wp2;refine ⟨⟨k+1,(y0,y1,y2),hkl,rfl,?_,aM.out,HN.out,O.out,aY.out,aV.out,HZ.out⟩,by simp [intOf];omega⟩;rw [V.out];unfold Zmt
    first|rfl|(exact congrArg _ (by simp only [Int.max_def];split<;>split<;>omega))|(exact congrArg _ (by split<;>split<;>omega))
  ·obtain rfl:k=l.length:=by omega
   have bu:¬ (l.length:Int) < l.length:=by omega
   have HE:=Zh (show a=ar from by rw [HA.out];have:=an.out;unfold ZrA at this;rw [List.take_length] at this;exact this.symm);rw [List.take_length,←HG.out];obtain ⟨a0,a1,a2⟩:=a;dsimp only at s;obtain ⟨o0,o1,o2⟩:=s.out.c3;obtain ⟨r0,r1,r2⟩:=E.out.c3;obtain ⟨f0,f1,f2⟩:=E.out.f3;have rl:=E.out.lt
   go_wp2_with fail
   have hz:=Zmx (x:=a0) (y:=a1) (z:=a2) E.out;have z0:=hz.c3.1;have z1:=hz.c3.2.1;have z2:=hz.c3.2.2;refine bodyPost_ret (v:=.tuple #[ag3 (a0,a1,a2),.int .i64 lg]) (by simp [results,Tryz.results142,go_sem,ag3,z0,z1,z2]) rfl ⟨by rw [←HE.out],Zmz B.out _ _ _ (show w.heap.size≤X+1 by have:=aw.out;omega)⟩
end
section
open Go.RowKit
attribute [local go_sem] World.cell?_alloc_some
theorem Zs1 {v x:T3} (b:BdT v) (a:BdT x) (i:Nat):plT (plT v (mlT x i)) x=plT v (mlT x ((i+1:Nat):Int)):=by rw [Zpo b (a.ml (by omega)) a,←Zps a (by omega)];rfl
theorem Zs2 {v x:T3} (a:BdT v):plT v (mlT x ((0:Nat):Int))=v:=by
 have:mlT x ((0:Nat):Int)=z3:=by simp [mlT,z3,Zms]
 rw [this,Zpq a]
theorem Zs3 {v:T3}{n:Nat} (o:Option T3) (a:BdT v) (h:¬ (0<n∧o=none)):(if (n:Int)=0 then some v else match (generalizing:=false) o with|none=>none|some x=>some (plT v (mlT x n)))=some (plT v (mlT (o.getD z3) n)):=by
 by_cases q:n=0
 ·subst q;rw [if_pos (by rfl),Zs2 a]
 ·rw [if_neg (by omega)];cases o with
  | none=>exact absurd ⟨by omega,rfl⟩ h
  | some x=>rfl
theorem Zs4 {wb:World}{S:Nat}{Z:Zsp}{h:Hd}{m:Md} (hv:Za2 m=true) {s:Tbs} (hs:Snd m s) {c:Nat} (hc:c<m.cl.length) (hn:s.2 c=none) (w:World) (H:Zsq wb w S Z h m s) :
  Calls Tryz.prog 144 #[ZQ.p S,.int .i64 c] w (ZsV wb w S Z h m (stepR m s c)):=by
 have aw:stepR m s c=(s.1,Zqn s.2 c (rfV m s.1 c)):=by unfold stepR;rw [if_neg (by rw [hn];simp)]
 rw [aw];have av:rfV m s.1 c=if ZmU m ⟨4,c⟩=0 then some (ZmW m ⟨4,c⟩) else match s.1 c with|none=>none|some x=>some (plT (ZmW m ⟨4,c⟩) (mlT x (ZmU m ⟨4,c⟩))):=by
  unfold rfV ZmZ;rw [if_neg (show ¬ (4:Int)=3 by decide),if_neg (show ¬ (4:Int)=2 by decide),if_pos rfl,Int.toNat_natCast];cases s.1 c<;>rfl
 rw [av];have af:=Zh (fun x (e:s.1 c=some x)=>Zo2 hv hc (hs.o c x e).2);have D:=Zh (Zs0 hv ⟨4,c⟩ w H.bk rfl rfl rfl rfl H.mod);have ag:=ZoU hv ⟨4,c⟩;have E:=Zh (ZoW hv ⟨4,c⟩);have aG:=Zh (ZsU hn);have HH:=Zh H;have HC:=Zh hc;generalize ZmU m ⟨4,c⟩=ln at D ag ⊢;generalize ZmW m ⟨4,c⟩=v at D E ⊢;have C:=Zh (show ∀ w',Zsq wb w' S Z h m s→w'.cell? ⟨S,9,none⟩=some (.slice (some ⟨Z.p,0,none⟩) m.cl.length m.cl.length)∧w'.cell? ⟨Z.p,c,none⟩=some (.bool (s.1 c).isSome)∧w'.cell? ⟨S,7,none⟩=some (.slice (some ⟨Z.o,0,none⟩) m.cl.length m.cl.length)∧w'.cell? ⟨Z.o,c*3,none⟩=some (.int .i64 ((s.1 c).getD z3).1)∧w'.cell? ⟨Z.o,c*3+1,none⟩=some (.int .i64 ((s.1 c).getD z3).2.1)∧w'.cell? ⟨Z.o,c*3+2,none⟩=some (.int .i64 ((s.1 c).getD z3).2.2) from fun w' Hz=>by
  have hT:=Zr9 Hz.ob (c:=c) (by rw [Zse];exact hc);have hB:=Zsc Hz.pb (c:=c) (by rw [Zsf];exact hc);rw [Zsg _ hc] at hT;rw [Zsh _ hc] at hB;exact ⟨Hz.bk.cell 9 rfl,hB,Hz.bk.cell 7 rfl,hT.1,hT.2.1,hT.2.2⟩)
 obtain ⟨n,rfl⟩:∃ n:Nat,ln=n:=⟨ln.toNat,by omega⟩;have aS:(c:Int) < m.cl.length:=by omega
 obtain ⟨o,ho⟩:∃ o,o=s.1 c:=⟨_,rfl⟩;rw [←ho] at C af ⊢;clear H hv hs hn aw av hc ho;by_cases X:0<n∧o=none
 ·obtain ⟨hn0,rfl⟩:=X;have aU:(0:Int) < n:=by omega
  rw [if_neg (show ¬ (n:Int)=0 by omega)];dsimp only;rw [aG.out];obtain ⟨v0,v1,v2⟩:=v;go_enter Tryz.func144,Tryz.ntmps144
  go_wp2_with (go_at_call 142;refine D.out.mono ?_;rintro e w1 ⟨rfl,F⟩;(try simp only [ag3]);have HB1:=Zh (Zag F (show Below w1.heap.size w1 (w1.alloc (.cells #[.int .i64 v0,.int .i64 v1,.int .i64 v2] 45)) by exact bE));clear F;obtain ⟨s9,p0,-,-,-,-⟩:=C.out _ (HH.out.old HB1.out);simp only [Option.isSome_none] at p0)
  refine bodyPost_ret (v:=.tuple #[]) (by simp [results,Tryz.results144,go_sem]) rfl ⟨rfl,HH.out.old HB1.out,UpL.of HB1.out⟩
 ·rw [Zs3 o E.out X];have hb:(n=0∧¬ (0:Int) < n)∨((0:Int) < n∧o.isSome=true):=by
   by_cases q:n=0
   ·exact .inl ⟨q,by omega⟩
   ·refine .inr ⟨by omega,?_⟩;cases o with
    | none=>exact absurd ⟨by omega,rfl⟩ X
    | some x=>rfl
  have T:=Zh (show BdT (o.getD z3) from by
   cases o with
   | none=>exact .z
   | some x=>exact af.out x rfl)
  clear X af;generalize o.isSome=ok at C hb;generalize o.getD z3=x at C T ⊢;have aF:=Zh (fun i:Nat=>Zs1 E.out T.out i);have aH:=Zh (Zs2 (x:=x) E.out);have aD:=Zh (fun i:Nat=>E.out.pl (T.out.ml (n:=i) (by omega)));obtain ⟨x0,x1,x2⟩:=x;dsimp only at C;rcases hb with ⟨-,hb⟩|⟨hb,rfl⟩
  all_goals
   go_enter Tryz.func144,Tryz.ntmps144
   go_upto_region 1 with (go_at_call 142;refine D.out.mono ?_;rintro e w1 ⟨rfl,F⟩;(try simp only [ag3]);have HB1:=Zh F;clear F)
   obtain ⟨w2,V⟩:∃ w2,w2=w1.alloc (.cells #[.int .i64 v.1,.int .i64 v.2.1,.int .i64 v.2.2] 45):=⟨_,rfl⟩;obtain ⟨A,X⟩:∃ A,A=w1.heap.size:=⟨_,rfl⟩;have aq:Below w1.heap.size w1 w2:=by rw [V];exact bE
   have aA:=Zh (show Blk w2 A (cl3 v.1 v.2.1 v.2.2) 45 by rw [V,X];exact Blk.new _ _ _);have HB2:=Zh (Zag HB1.out aq);have ai:=Zh (show w.heap.size≤A by have:=HB1.out.size;omega);rw [←V,←X];clear V aq X;obtain ⟨s9,p0,-,-,-,-⟩:=C.out _ (HH.out.old HB2.out)
   go_upto_region 3 with fail
   clear s9 p0;clear hb
   go_loopw [6] (fun i wr=>∃ (k:Nat) (a:T3),k≤n∧i=.int .i64 k∧Hid (a=plT v (mlT (x0,x1,x2) k))∧Hid (Below w.heap.size w wr)∧Hid (Blk wr A (cl3 a.1 a.2.1 a.2.2) 45)) (fun i _=>n-(intOf i).toNat)
   case atStart=>exact ⟨0,v,Nat.zero_le _,rfl,aH.out.symm,HB2.out,aA.out⟩
   case round=>
    obtain ⟨k,a,hk,rfl,aa,ac,z⟩:=hrel;rename World=>wo;have f:=Zh (HH.out.old ac.out);have aC:=Zh (show BdT a by rw [aa.out];exact aD.out k);by_cases hkl:k<n
    ·have hkl2:(k:Int) < n:=by omega
     have aV:IntKind.i64.wrap ((k:Int)+1)=((k+1:Nat):Int):=IntWalk.i64_in _ (by omega);have ak:=Zh (show plT a (x0,x1,x2)=plT v (mlT (x0,x1,x2) ((k+1:Nat):Int)) by rw [aa.out];exact aF.out k);obtain ⟨J,M,N⟩:=a;dsimp only at z;have aj:=Zh (show ∀ w',Below wo.heap.size wo w'→Cs [(⟨A,0,none⟩,.int .i64 J),(⟨A,1,none⟩,.int .i64 M),(⟨A,2,none⟩,.int .i64 N),(⟨S,7,none⟩,.slice (some ⟨Z.o,0,none⟩) m.cl.length m.cl.length),(⟨Z.o,c*3,none⟩,.int .i64 x0),(⟨Z.o,c*3+1,none⟩,.int .i64 x1),(⟨Z.o,c*3+2,none⟩,.int .i64 x2)] w' from fun w' hb=>by
      obtain ⟨-,-,s7,q0,q1,q2⟩:=C.out _ (f.out.old hb);exact ⟨(z.out.old hb).c3.1,(z.out.old hb).c3.2.1,(z.out.old hb).c3.2.2,s7,q0,q1,q2,trivial⟩)
     go_upto_region 5 with fail
     refine rE (Cs [(⟨A,0,none⟩,.int .i64 J),(⟨A,1,none⟩,.int .i64 M),(⟨A,2,none⟩,.int .i64 N),(⟨S,7,none⟩,.slice (some ⟨Z.o,0,none⟩) m.cl.length m.cl.length),(⟨Z.o,c*3,none⟩,.int .i64 x0),(⟨Z.o,c*3+1,none⟩,.int .i64 x1),(⟨Z.o,c*3+2,none⟩,.int .i64 x2)]) 9 (oL [0,1,2,3,4,5,6,7,108]) (aj.out _ (Below.refl _ _).drew) ?_
     iterate 8 (refine pE ?_)
     refine oE fun Kv hK=>?_;go_simp;refine (Zrc (J,M,N) (x0,x1,x2) _ aC.out T.out).mono ?_;rintro e w4 ⟨rfl,ar⟩;have ab:=Zh (Zag (Below.refl wo.heap.size wo).drew ar);refine hK _ _ ⟨aj.out _ ab.out,?_⟩;clear hK Kv ar;generalize plT (J,M,N) (x0,x1,x2)=y at ak ⊢;obtain ⟨y0,y1,y2⟩:=y;have R:=Zh (z.out.old ab.out);refine sE fun Kv hK=>?_;obtain ⟨r0,r1,r2⟩:=R.out.c3;obtain ⟨f0,f1,f2⟩:=R.out.f3;have rl:=R.out.lt
     (try simp only [ag3])
     go_simp;refine hK _ _ ?_;clear hK Kv r0 r1 r2 f0 f1 f2 rl;go_wp2;exact ⟨⟨k+1,(y0,y1,y2),hkl,rfl,ak.out,Zmz (Zag ac.out ab.out) _ _ _ ai.out,Zmx R.out⟩,by simp [intOf];omega⟩
    ·obtain rfl:k=n:=by omega
     have aT:¬ (k:Int) < k:=by omega
     have aB:=Zh aa.out;obtain ⟨J,M,N⟩:=a;dsimp only at z;obtain ⟨an,ao,ap⟩:=z.out.c3;have s8:=f.out.bk.cell 8 (v:=.slice (some ⟨Z.r,0,none⟩) m.cl.length m.cl.length) rfl;have hT:=Zr9 f.out.rb (c:=c) (by rw [Zse];exact HC.out);obtain ⟨q0,q1,q2⟩:=hT;have k0:=f.out.rb.frozen (c*3);have k1:=f.out.rb.frozen (c*3+1);have k2:=f.out.rb.frozen (c*3+2);have kl:=f.out.rb.lt;have au:=(HH.out.new ai.out);have I:=au.2.1;have G:=HH.out.nes;have U:=HH.out.ne3;simp only [Zsp.s,List.mem_cons,List.not_mem_nil,or_false,not_or] at I G;have Y:=Zh (((z.out.other (a:=⟨Z.r,c*3,none⟩) I.2.1 (.int .i64 J)).other (a:=⟨Z.r,c*3+1,none⟩) I.2.1 (.int .i64 M)).other (a:=⟨Z.r,c*3+2,none⟩) I.2.1 (.int .i64 N));have al:=Zh (((f.out.bk.other (a:=⟨Z.r,c*3,none⟩) G.2.1 (.int .i64 J)).other (a:=⟨Z.r,c*3+1,none⟩) G.2.1 (.int .i64 M)).other (a:=⟨Z.r,c*3+2,none⟩) G.2.1 (.int .i64 N));have ae:=Zh (((f.out.qb.other (a:=⟨Z.r,c*3,none⟩) (fun e=>U.2.2.2 e.symm) (.int .i64 J)).other (a:=⟨Z.r,c*3+1,none⟩) (fun e=>U.2.2.2 e.symm) (.int .i64 M)).other (a:=⟨Z.r,c*3+2,none⟩) (fun e=>U.2.2.2 e.symm) (.int .i64 N));clear au I G U
     go_upto_region 6 with fail
     refine rO (Cs [(⟨S,8,none⟩,.slice (some ⟨Z.r,0,none⟩) m.cl.length m.cl.length),(⟨A,0,none⟩,.int .i64 J),(⟨A,1,none⟩,.int .i64 M),(⟨A,2,none⟩,.int .i64 N)]) (oL [0,1,2,3,4,5,6,107]) ⟨s8,an,ao,ap,trivial⟩ ?_;clear s8 an ao ap
     iterate 7 (refine pO ?_)
     refine oO fun Kv hK=>?_;go_simp;refine hK _ _ ⟨⟨al.out.cell 8 rfl,Y.out.c3.1,Y.out.c3.2.1,Y.out.c3.2.2,trivial⟩,Zd7 ?_⟩;clear hK Kv q0 q1 q2 k0 k1 k2 kl;have aY:=al.out.cell 10 (v:=.slice (some ⟨Z.q,0,none⟩) m.cl.length m.cl.length) rfl;have p0:=Zsc ae.out (c:=c) (by rw [Zsf];exact HC.out);have pf:=ae.out.frozen c;have pl:=ae.out.lt
     go_wp2_with fail
     obtain ⟨hz,hu⟩:=f.out.setR HC.out (J,M,N) (by simp [World.setCell]) rfl;refine bodyPost_ret (v:=.tuple #[]) (by simp [results,Tryz.results144,go_sem]) rfl ⟨rfl,?_,?_⟩
     ·rw [←aB.out];exact hz.old (Below.refl _ _).drew
     ·exact (UpL.of ac.out).trans (hu.trans (UpL.of (Below.refl _ _).drew))
end
