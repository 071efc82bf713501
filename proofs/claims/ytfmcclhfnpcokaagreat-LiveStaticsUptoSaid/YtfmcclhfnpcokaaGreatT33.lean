import Derived.Test.YtfmcclhfnpcokaaGreatT31
set_option linter.all false
set_option maxRecDepth 100000
set_option maxHeartbeats 32000000
namespace Go.Proofs.YtfmcclhfnpcokaaGreat
theorem j0{p:Prop}(h:p:=by
 intro st w1 hg1 hE1;rw [HWl.out];have HE1:=Zh hE1;have HG1:=Zh hg1;have HS5:=Zh (HS4.out.map HFb.out.map hg1);have HO1:=Zh (HOb.out.grown hg1 fun q hq e=>HOb.out.map HFb.out.map q hq (Option.some.inj e).symm);have HB1:=Zh (Zr2 HBl.out hg1 fun e=>Zpc HBl.out HFb.out.map (Option.some.inj e).symm);refine hK _ _ ⟨HS5.out.cs,?_⟩;clear hK Kv hg1 hE1
 (refine pO ?_)
 (refine pO ?_)
 refine oO fun Kv hK=>?_;refine Zrv _ _ rfl w0.heap.size ao cap zs rfl HO1.out b ia rfl (Zr3 HB1.out) HZl.out (by have:=HIb.out.bw.size;have:=HG1.out.size;omega) ?_;intro ao' cap' w3 ho3 hg3 hat3;have HS6:=Zh (HS5.out.app HO1.out hg3);have HE3:=Zh (HE1.out.eq (hg3.block _ HE1.out.1.lt fun e=>HO1.out.map HE1.out.1 _ e.symm rfl));have HA3:=Zh (And.intro ho3 (And.intro hg3 hat3));refine hK _ _ ⟨HS6.out.cs,?_⟩;clear hK Kv ho3 hg3 hat3;refine oO fun Kv hK=>?_;refine ZoL _ _ _ rfl (M:=MM.l) rfl HE3.out rfl _ rfl ?_;intro w4 hs4 hg4;refine hK _ _ ⟨(HS6.out.map HE3.out.1 hg4).cs,Zd7 ?_⟩;have HEnd:=Zh (HFin.out wb w1 w1 w3 w4 ao' cap' HIb.out HLb.out HNe.out HOb.out HG1.out HE1.out.1 (Below.refl _ _) HA3.out.2.1 HA3.out.2.2 HA3.out.1 hg4 hs4);clear hK Kv hs4 hg4
 go_wp2_with fail
 exact ⟨⟨p+1,hpl,rfl,HEnd.out⟩,by simp [intOf];omega⟩):p:=h
theorem j3{p:Prop}(h:p:=by
 iterate 16 (refine pO ?_)
 refine oO fun Kv hK=>?_;have HR2:=Zh (HR.out.drew);obtain ⟨r0,r1,r2⟩:=HR.out.c3;obtain ⟨f0,f1,f2⟩:=HR.out.f3;have rl:=HR.out.lt;go_simp;have hz:=(Zmx (x:=x0) (y:=x1) (z:=x2) HR.out).drew;refine hK _ _ ⟨HCs.out _ ((HRz.out.old (Below.refl _ _).drew).out3 HR2.out HNw.out.1 HNw.out.2.1 HNw.out.2.2 _ _ _) (((HT.out.drew.other (a:=⟨X+1,0,none⟩) (show X≠X+1 by omega) _).other (a:=⟨X+1,1,none⟩) (show X≠X+1 by omega) _).other (a:=⟨X+1,2,none⟩) (show X≠X+1 by omega) _),?_⟩;clear hK Kv r0 r1 r2 f0 f1 f2 rl
 (refine pO ?_)
 refine Zd7 ?_
 go_wp2_with fail
 have z0:=hz.c3.1;have z1:=hz.c3.2.1;have z2:=hz.c3.2.2;exact bodyPost_ret (v:=.tuple #[ag3 (x0,x1,x2),.bool ok]) (by simp [results,Tryz.results89,go_sem,ag3,z0,z1,z2]) rfl ⟨rfl,(Zmz HB.out _ _ _ (show w.heap.size≤X+1 by have:=HXs.out;omega)).drew⟩):p:=h
section
open Go.RowKit
attribute [local go_sem] World.cell?_alloc_some
def SzR (w:World) (h:Hd) (m:Md):Ending→World→Prop:=fun e w'=>∃ S M,e=.returned (.pointer (some ⟨S,0,none⟩))∧Zpf w' S M h m []∧Below w.heap.size w w'∧w.heap.size≤S∧∀ x∈M.s,w.heap.size≤x
theorem ZrZ {i:In3} (h:i.op=15):∀ u,LnT u→(ZmQ u i=true↔u=⟨3,0⟩):=fun u a=>by
 obtain ⟨k,c⟩:=u
 unfold ZmQ LnT at *
 simp only [decide_eq_true_eq,Ty.mk.injEq] at *
 omega
theorem Zr0 {i:In3} (h:i.op=16):∀ u,LnT u→(ZmQ u i=true↔u=⟨4,i.b⟩):=fun u a=>by
 obtain ⟨k,c⟩:=u
 unfold ZmQ LnT at *
 simp only [decide_eq_true_eq,Ty.mk.injEq] at *
 omega
theorem Zr1 {m:Md} (hm:Za2 m=true) {t:Ty}{k p:Nat} (b:k<m.me.length) (g:p<(cdM m k).length):(ZqQ m t k p).length≤1000000:=by
 have a:∀ n,n≤m.me.length→(ZqQ m t n 0).length≤120*n:=by exact j5
 have h1:=a k (by omega);have h2:(cdM m k).length≤120:=(ZfQ hm b).z.2.2;have d:=(Zir hm).2.1;have h3:=ZrU t ((cdM m k).take p);have h4:(ZqQ m t k p).length=(ZqQ m t k 0).length+(ZmR t ((cdM m k).take p)).length:=by unfold ZqQ;simp [ZmR]
 have e:((cdM m k).take p).length≤p:=by rw [List.length_take];omega
 omega
theorem Zr2 {w w':World}{B:Nat}{b:Array Value}{t:TypeId}{a:Option Nat} (h:Blk w B b t) (d:w.grownBy w' a) (g:a≠some B):Blk w' B b t:=(d.block _ h.lt fun e=>g e.symm).trans h
theorem Zr3 {w:World}{b:Nat}{n:Int} (h:Blk w b #[.int .i64 n] 3):Zas w (some ⟨b,0,none⟩) 1 [n]:=ZdN (n:=1) (size:=1) h rfl
def B3L (w:World) (S T I:Nat) (h:Hd) (m:Md) (M:MsL) (t:Ty) (i:In3):Prop:=Blk w S #[.slice h.co m.cl.length h.cc,.slice h.so m.st.length h.sc,.slice h.eo m.me.length h.ec,.int .i64 m.sel,.map (some M.l),.map (some M.a),.map (some M.u),.map (some M.k),.map (some M.t)] 176∧Blk w T #[.int .i64 t.k,.int .i64 t.c] 38∧Blk w I #[.int .i64 i.op,.int .i64 i.a,.int .i64 i.b] 72
section
variable {w w':World}{S T I:Nat}{h:Hd}{m:Md}{M:MsL}{t:Ty}{i:In3}(H:B3L w S T I h m M t i)
include w w' S T I h m M t i H
theorem B3L.old (hb:Below w.heap.size w w'):B3L w' S T I h m M t i:=⟨H.1.old hb,H.2.1.old hb,H.2.2.old hb⟩
theorem B3L.map {X:Nat} (hm:ZmL w X) (hg:w.grownBy w' (some X)):B3L w' S T I h m M t i:=
 ⟨Zr2 H.1 hg fun e=>Zpc H.1 hm (Option.some.inj e).symm,Zr2 H.2.1 hg fun e=>Zpc H.2.1 hm (Option.some.inj e).symm,Zr2 H.2.2 hg fun e=>Zpc H.2.2 hm (Option.some.inj e).symm⟩
theorem B3L.app {base:Nat} {ao:Option Addr} {cap:Nat} {zs:List Int} (ho:Zrr w base ao cap zs) (hg:w.grownBy w' (Zrs ao)):B3L w' S T I h m M t i:=
 ⟨Zr2 H.1 hg (ho.ne_blk H.1 (by decide)),Zr2 H.2.1 hg (ho.ne_blk H.2.1 (by decide)),Zr2 H.2.2 hg (ho.ne_blk H.2.2 (by decide))⟩
end
theorem B3L.cs {w:World}{S T I:Nat}{h:Hd}{m:Md}{M:MsL}{t:Ty}{i:In3} (H:B3L w S T I h m M t i):Cs [(⟨S,4,none⟩,.map (some M.l)),(⟨T,0,none⟩,.int .i64 t.k),(⟨T,1,none⟩,.int .i64 t.c),(⟨I,1,none⟩,.int .i64 i.a)] w:=
 ⟨H.1.cell 4 rfl,H.2.1.cell 0 rfl,H.2.1.cell 1 rfl,H.2.2.cell 1 rfl,trivial⟩
theorem Zr4 (m:Md) (h:Hd) (w0:World) (H:Zaz w0 h m) (hv:Za2 m=true):Calls Tryz.prog 76 #[.agg (HM.mk h m)] w0 (SzR w0 h m):=by
 obtain ⟨X,hX⟩:∃ X,X=w0.heap.size:=⟨_,rfl⟩;obtain ⟨w1,ah⟩:∃ w1,w1=w0.alloc (.cells (HM.mk h m) 26):=⟨_,rfl⟩;have HB:=Zh (show Below w0.heap.size w0 w1 by rw [ah];exact bE);have HX:=Zh (show Blk w1 X (HM.mk h m) 26 by rw [ah,hX];exact Blk.new _ _ _);have HW:=Zh ah;have a0:=Zh hX;obtain ⟨B,hB⟩:∃ B,B=w1.heap.size:=⟨_,rfl⟩;obtain ⟨C,ay⟩:∃ C,C=B+1+1+1+1+1:=⟨_,rfl⟩;obtain ⟨MM,ax⟩:∃ MM:MsL,MM=⟨B,B+1,B+1+1,B+1+1+1,B+1+1+1+1⟩:=⟨_,rfl⟩;obtain ⟨w2,ai⟩:∃ w2,w2=(((((w1.alloc (.map #[] 0)).alloc (.map #[] 0)).alloc (.map #[] 0)).alloc (.map #[] 0)).alloc (.map #[] 0)).alloc (.cells #[.slice h.co m.cl.length h.cc,.slice h.so m.st.length h.sc,.slice h.eo m.me.length h.ec,.int .i64 m.sel,.map (some B),.map (some (B+1)),.map (some (B+1+1)),.map (some (B+1+1+1)),.map (some (B+1+1+1+1))] 176):=⟨_,rfl⟩;have HI:=Zh (show SzI w0 w2 C MM h m 0 0 by rw [ai,ay,ax];exact SzI.init H HB.out hB);have aY:=Zh ai;have aZ:=Zh (show Blk w2 X (HM.mk h m) 26 by rw [ai];exact ((((((HX.out.alloc _).alloc _).alloc _).alloc _).alloc _).alloc _));have aE:=Zh (show w0.heap.size≤C∧∀ x∈MM.s,w0.heap.size≤x from by
  have:=HB.out.size;refine ⟨by omega,fun x hx=>?_⟩;rw [ax] at hx;simp only [MsL.s,List.mem_cons,List.not_mem_nil,or_false] at hx;omega)
 have HV:=Zh hv;have Hj:=Zh H;have HN:=Zh (Zir hv).2.1;have aT:=Zh hB;have aW:=Zh ay;clear ah ai hX hB H ax hv ay;have bb:=@run_makeMap Tryz.prog;go_enter Tryz.func76,Tryz.ntmps76
 go_upto_region 1 with fail
 rw [←HW.out,←a0.out];obtain ⟨x0,x1,x2,x3⟩:=Zj8 HX.out
 go_upto_region 2 with fail
 clear bb x0 x1 x2 x3;rw [←aT.out,←aY.out,←aW.out];have x2:=aZ.out.cell 2 (v:=.slice h.eo m.me.length h.ec) rfl
 go_wp2_with fail
 clear x2
 go_loopw [21] (fun i wr=>∃ k:Nat,k≤m.me.length∧i=.int .i64 k∧Hid (SzI w0 wr C MM h m k 0)) (fun i _=>m.me.length-(intOf i).toNat)
 case atStart=>exact ⟨0,Nat.zero_le _,rfl,HI.out⟩
 case round=>
  obtain ⟨k,bI,rfl,ac⟩:=hrel;rename World=>wo;by_cases hk:k<m.me.length
  ·have a8:(k:Int) < m.me.length:=by omega
   have bJ:IntKind.i64.wrap ((k:Int)+1)=((k+1:Nat):Int):=IntWalk.i64_in _ (by have:=HN.out;omega);obtain ⟨ad,aL,e0,e1,e2,e3,e4,e5,e6⟩:=(Hj.out.old ac.out.bw).mth hk;have ag:=ZfQ HV.out hk;have aD:=Zh (show (cdM m k).length≤120 from ag.z.2.2);have aF:=Zh (show ∀ i∈cdM m k,ZfU m k i from fun i hi=>ZfV (ag.i i hi).1 (ag.i i hi).2);have ae:=Zh (show ∀ w',Zaz w' h m→Zas w' (h.e k).ko (h.e k).kc (cdM m k) from fun w' h'=>h'.k k hk);have am:=Zh (fun w' (h':SzI w0 w' C MM h m k (cdM m k).length)=>h'.next hk);rw [show (m.me.getD k default).k.length=(cdM m k).length from rfl] at e6;generalize h.e k=y at e2 e3 e6 ae;generalize m.me.getD k default=x at e0 e1 e2 e3 e4 e5;obtain ⟨nm,c,pl,ll,⟨rk,rc⟩,bM⟩:=x;obtain ⟨po,pc,lo,lc,ko,kc⟩:=y;dsimp only at e0 e1 e2 e3 e4 e5 e6 ae;generalize hcd:cdM m k=cd at e6 ae aD aF am;have aC:=Zh hcd;clear ag hcd;rw [aL];clear aL
   go_upto_region 5 with fail
   obtain ⟨Z,hZ⟩:∃ Z,Z=wo.heap.size:=⟨_,rfl⟩;obtain ⟨w3,aj⟩:∃ w3,w3=wo.alloc (.cells #[.string nm,.int .i64 c,.slice po pl.length pc,.slice lo ll.length lc,.int .i64 rk,.int .i64 rc,.slice ko cd.length kc] 70):=⟨_,rfl⟩;have aJ:Below wo.heap.size wo w3:=by rw [aj];exact bE
   have a1:=Zh (show Blk w3 Z #[.string nm,.int .i64 c,.slice po pl.length pc,.slice lo ll.length lc,.int .i64 rk,.int .i64 rc,.slice ko cd.length kc] 70 by rw [aj,hZ];exact Blk.new _ _ _);have aU:=Zh (ac.out.old aJ);rw [←aj,←hZ];clear aj aJ hZ e0 e1 e2 e3 e4 e5 e6;have z6:=a1.out.cell 6 (v:=.slice ko cd.length kc) rfl
   go_wp2_with fail
   clear z6
   go_loopw [28] (fun i wr=>∃ p:Nat,p≤cd.length∧i=.int .i64 p∧Hid (SzI w0 wr C MM h m k p)) (fun i _=>cd.length-(intOf i).toNat)
   case atStart=>exact ⟨0,Nat.zero_le _,rfl,aU.out⟩
   case round=>
    obtain ⟨p,hp,rfl,aq⟩:=hrel;rename World=>wp;by_cases hpl:p<cd.length
    ·have aO:(p:Int) < cd.length:=by omega
     have bK:IntKind.i64.wrap ((p:Int)+1)=((p+1:Nat):Int):=IntWalk.i64_in _ (by have:=aD.out;omega);obtain ⟨kd,ba,o0,o1,o2⟩:=ZaB (ae.out _ (Hj.out.old aq.out.bw)) hpl;have an:=aF.out _ (ZfX (default:In3) hpl);have O:p<(cdM m k).length:=by rw [aC.out];exact hpl
     have Y:cd.getD p default=(cdM m k).getD p default:=by rw [aC.out]
     obtain ⟨it,aN⟩:∃ q,q=cd.getD p default:=⟨_,rfl⟩;rw [←aN] at o0 o1 o2 an Y;have j:=Zh Y;subst ba;obtain ⟨op,ia,K⟩:=it;dsimp only at o0 o1 o2;clear aN Y
     go_upto_region 8 with fail
     obtain ⟨I,hI⟩:∃ I,I=wp.heap.size:=⟨_,rfl⟩;obtain ⟨L,ak⟩:∃ L,L=wp.alloc (.cells #[.int .i64 op,.int .i64 ia,.int .i64 K] 72):=⟨_,rfl⟩;have aK:Below wp.heap.size wp L:=by rw [ak];exact bE
     have z:=Zh (show Blk L I #[.int .i64 op,.int .i64 ia,.int .i64 K] 72 by rw [ak,hI];exact Blk.new _ _ _);have HS5:=Zh (aq.out.old aK);rw [←ak,←hI];clear ak aK hI o0 o1 o2;have i0:=z.out.cell 0 (v:=.int .i64 op) rfl;have i1:=z.out.cell 1 (v:=.int .i64 ia) rfl;have i2:=z.out.cell 2 (v:=.int .i64 K) rfl;by_cases q14:op=14
     ·subst q14;have aI:=an.a0 (show (14:Int)≠1 by decide);dsimp only at aI;have ar:=Zh (fun w w' (h':SzI w0 w C MM h m k p)=>h'.new (w':=w') O (by rw [←j.out]) (by rw [←j.out];exact aI));rw [←j.out] at ar;dsimp only at ar
      go_upto_region 10 with fail
      clear i0 i1 i2;have s5:=HS5.out.bk.cell 5 (v:=.map (some MM.a)) rfl;have i1:=z.out.cell 1 (v:=.int .i64 ia) rfl;refine rO (Cs [(⟨C,5,none⟩,.map (some MM.a)),(⟨I,1,none⟩,.int .i64 ia)]) (oL [0,1,2,3,4,5,106]) ⟨s5,i1,trivial⟩ ?_
      repeat refine pO ?_
      have N:=Zh (HS5.out.old (Below.refl _ L).drew);refine oO fun Kv hK=>?_;refine ZoN ZoE Tryz.underlying150 _ _ _ rfl (M:=MM.a) rfl N.out.ma ia rfl (.bool true) rfl ?_;intro w7 aP af;refine hK _ _ ⟨⟨(Zr2 N.out.bk af fun e=>Zpc N.out.bk N.out.ma.map (Option.some.inj e).symm).cell 5 rfl,(Zr2 z.out.drew af fun e=>Zpc z.out.drew N.out.ma.map (Option.some.inj e).symm).cell 1 rfl,trivial⟩,Zd7 ?_⟩;have HEnd:=Zh (ar.out L.drew w7 N.out af aP);clear hK Kv aP af s5 i1
      go_wp2_with fail
      exact ⟨⟨p+1,hpl,rfl,HEnd.out⟩,by simp [intOf];omega⟩
     have bx:(op == 14)=false:=by simpa using q14
     by_cases q15:op=15
     ·subst q15
      go_upto_region 13 with fail
      clear i0 i1 i2;obtain ⟨T,hT⟩:∃ T,T=L.heap.size:=⟨_,rfl⟩;obtain ⟨J,r⟩:∃ J,J=L.alloc (.cells #[.int .i64 3,.int .i64 0] 38):=⟨_,rfl⟩;have G:Below L.heap.size L J:=by rw [r];exact bE
      have au:=Zh (show Blk J T #[.int .i64 3,.int .i64 0] 38 by rw [r,hT];exact Blk.new _ _ _);have U:=Zh (HS5.out.old G);have ap:=Zh (z.out.old G);rw [←r,←hT];clear r G hT;have W:LnT ⟨3,0⟩:=.inl ⟨rfl,rfl⟩;have F:=Zh (show B3L J.drew C T I h m MM ⟨3,0⟩ ⟨15,ia,K⟩ from ⟨U.out.bk.drew,au.out.drew,ap.out.drew⟩);have D:=Zh (U.out.old (Below.refl _ J).drew);obtain ⟨f,hf,hL⟩:=D.out.ln;have R:=Zh hf;have V:=Zh hL;obtain ⟨ao,cap,A,ab,aa⟩:=hL.get W;have HWl:=Zh A;have E:=Zh ab;have HNe:=Zh aa;have HZl:=Zh (Zr1 HV.out (t:=⟨3,0⟩) hk O);have HFin:=Zh (fun w w1 w2 w3 w4 ao' cap' (hI:SzI w0 w C MM h m k p)=>hI.len (t:=⟨3,0⟩) (f:=f) (w1:=w1) (w2:=w2) (w3:=w3) (w4:=w4) (ao:=ao) (ao':=ao') (cap':=cap') (cap:=cap) O W (by rw [←j.out];exact ZrZ rfl) (by rw [←j.out];show (15:Int)≠14;decide));rw [←j.out] at HFin;dsimp only at HFin;generalize ZqQ m ⟨3,0⟩ k p=zs at HWl E HZl HFin;clear hf hL A ab aa;refine rO (Cs [(⟨C,4,none⟩,.map (some MM.l)),(⟨T,0,none⟩,.int .i64 3),(⟨T,1,none⟩,.int .i64 0),(⟨I,1,none⟩,.int .i64 ia)]) (oL [0,1,2,3,4,5,6,107,108,9,11,110,112]) F.out.cs ?_
      repeat refine pO ?_
      generalize J.drew=wd at F D R V E ⊢;refine oO fun Kv hK=>?_;go_simp;obtain ⟨b,hb⟩:∃ b,b=wd.heap.size:=⟨_,rfl⟩;obtain ⟨wb,u⟩:∃ wb,wb=wd.alloc (.cells #[.int .i64 ia] 3):=⟨_,rfl⟩;have g:Below wd.heap.size wd wb:=by rw [u];exact bE
      have HBl:=Zh (show Blk wb b #[.int .i64 ia] 3 by rw [u,hb];exact Blk.new _ _ _);rw [←u,←hb];have HIb:=Zh (D.out.old g);have HS4:=Zh (F.out.old g);have HOb:=Zh (E.out.old g);have HFb:=Zh (R.out.old g);have HLb:=Zh (V.out.old g);refine hK _ _ ⟨HS4.out.cs,?_⟩;clear hK Kv u hb g;refine oO fun Kv hK=>?_;refine ZoK ZoG Tryz.underlying173 _ _ rfl (M:=MM.l) (f:=f) rfl HFb.out (ZrR _) ⟨3,0⟩ rfl ?_;exact j0
     have bz:(op == 15)=false:=by simpa using q15
     by_cases q16:op=16
     ·subst q16
      go_upto_region 16 with fail
      clear i0 i1 i2;obtain ⟨T,hT⟩:∃ T,T=L.heap.size:=⟨_,rfl⟩;obtain ⟨J,r⟩:∃ J,J=L.alloc (.cells #[.int .i64 4,.int .i64 K] 38):=⟨_,rfl⟩;have G:Below L.heap.size L J:=by rw [r];exact bE
      have au:=Zh (show Blk J T #[.int .i64 4,.int .i64 K] 38 by rw [r,hT];exact Blk.new _ _ _);have U:=Zh (HS5.out.old G);have ap:=Zh (z.out.old G);rw [←r,←hT];clear r G hT;have W:LnT ⟨4,K⟩:=.inr rfl;have F:=Zh (show B3L J.drew C T I h m MM ⟨4,K⟩ ⟨16,ia,K⟩ from ⟨U.out.bk.drew,au.out.drew,ap.out.drew⟩);have D:=Zh (U.out.old (Below.refl _ J).drew);obtain ⟨f,hf,hL⟩:=D.out.ln;have R:=Zh hf;have V:=Zh hL;obtain ⟨ao,cap,A,ab,aa⟩:=hL.get W;have HWl:=Zh A;have E:=Zh ab;have HNe:=Zh aa;have HZl:=Zh (Zr1 HV.out (t:=⟨4,K⟩) hk O);have HFin:=Zh (fun w w1 w2 w3 w4 ao' cap' (hI:SzI w0 w C MM h m k p)=>hI.len (t:=⟨4,K⟩) (f:=f) (w1:=w1) (w2:=w2) (w3:=w3) (w4:=w4) (ao:=ao) (ao':=ao') (cap':=cap') (cap:=cap) O W (by rw [←j.out];exact Zr0 rfl) (by rw [←j.out];show (16:Int)≠14;decide));rw [←j.out] at HFin;dsimp only at HFin;generalize ZqQ m ⟨4,K⟩ k p=zs at HWl E HZl HFin;clear hf hL A ab aa;refine rO (Cs [(⟨C,4,none⟩,.map (some MM.l)),(⟨T,0,none⟩,.int .i64 4),(⟨T,1,none⟩,.int .i64 K),(⟨I,1,none⟩,.int .i64 ia)]) (oL [0,1,2,3,4,5,6,107,108,9,11,110,112]) F.out.cs ?_
      repeat refine pO ?_
      generalize J.drew=wd at F D R V E ⊢;refine oO fun Kv hK=>?_;go_simp;obtain ⟨b,hb⟩:∃ b,b=wd.heap.size:=⟨_,rfl⟩;obtain ⟨wb,u⟩:∃ wb,wb=wd.alloc (.cells #[.int .i64 ia] 3):=⟨_,rfl⟩;have g:Below wd.heap.size wd wb:=by rw [u];exact bE
      have HBl:=Zh (show Blk wb b #[.int .i64 ia] 3 by rw [u,hb];exact Blk.new _ _ _);rw [←u,←hb];have HIb:=Zh (D.out.old g);have HS4:=Zh (F.out.old g);have HOb:=Zh (E.out.old g);have HFb:=Zh (R.out.old g);have HLb:=Zh (V.out.old g);refine hK _ _ ⟨HS4.out.cs,?_⟩;clear hK Kv u hb g;refine oO fun Kv hK=>?_;refine ZoK ZoG Tryz.underlying173 _ _ rfl (M:=MM.l) (f:=f) rfl HFb.out (ZrR _) ⟨4,K⟩ rfl ?_;exact j0
     have bA:(op == 16)=false:=by simpa using q16
     have aV:=Zh (HS5.out.skip O (by rw [←j.out];exact ⟨q14,q15,q16⟩))
     go_wp2_with fail
     exact ⟨⟨p+1,hpl,rfl,aV.out⟩,by simp [intOf];omega⟩
    ·have aO:¬ (p:Int) < cd.length:=by omega
     have bc:p=cd.length:=by omega
     subst bc
     go_wp2_with fail
     exact ⟨⟨k+1,hk,rfl,am.out _ aq.out⟩,by simp [intOf];omega⟩
  ·have a8:¬ (k:Int) < m.me.length:=by omega
   have a9:k=m.me.length:=by omega
   subst a9
   go_wp2_with fail
   go_ret;exact ⟨C,MM,rfl,ac.out.fin,ac.out.bw,aE.out.1,aE.out.2⟩
end
section
open Go.RowKit
attribute [local go_sem] World.cell?_alloc_some
theorem Zr5 (m:Md) (h:Hd) (t:Ty) (w:World) (H:Zaz w h m) (hv:Za2 m=true):Calls Tryz.prog 88 #[.agg (HM.mk h m),.agg #[.int .i64 t.k,.int .i64 t.c]] w (ZdH w (ZmS m t)):=by
 obtain ⟨w0,F⟩:∃ w0,w0=(w.alloc (.cells (HM.mk h m) 26)).alloc (.cells #[.int .i64 t.k,.int .i64 t.c] 38):=⟨_,rfl⟩;have HB:=Zh (show Below w.heap.size w w0 by rw [F];exact bE);obtain ⟨X,hX⟩:∃ X,X=w.heap.size:=⟨_,rfl⟩;have HX:=Zh (show Blk w0 X (HM.mk h m) 26 by rw [F,hX];exact (Blk.new _ _ _).alloc _);have HT:=Zh (show Blk w0 (X+1) #[.int .i64 t.k,.int .i64 t.c] 38 by rw [F,hX];exact Blk.new' (w:=w.alloc _) _ _ (by simp));have Hj:=Zh (H.old HB.out);have HW:=Zh F;have aI:=Zh hX;have al:=Zir hv;have Y:=Zh (fun k (hk:k<m.me.length) p (hp:p<(cdM m k).length)=>Zr1 (t:=t) hv hk hp);have aC:=Zh (fun k (hk:k<m.me.length)=>(ZfQ hv hk).z.2.2);have O:=Zh (fun i j (Q:j<(cdM m i).length)=>ZqS (t:=t) Q);have ab:=Zh (fun i (U:i<m.me.length)=>ZqT (t:=t) U);have aH:=Zh al;rw [←ZqU m t];have HZ:=Zh (ZqR m t);have B:=Zh (show ∀ i:In3,ZmQ t i=decide (t.k=3∧i.op=15∨t.k=4∧i.op=16∧i.b=t.c) from fun i=>rfl);obtain ⟨b,ah⟩:∃ b,b=ZqQ m t:=⟨_,rfl⟩;obtain ⟨IL,ag⟩:∃ IL,IL=ZmQ t:=⟨_,rfl⟩;rw [←ag] at O B;rw [←ah] at Y O ab HZ ⊢;obtain ⟨g,tc⟩:=t;dsimp only at HT HW B;clear F H hX al hv ah ag;go_enter Tryz.func88,Tryz.ntmps88
 go_upto_region 1 with fail
 rw [←HW.out,←aI.out];go_wp2
 go_loopw [5,6] (fun o i wr=>∃ (k:Nat) (L:Option Addr) (d:Nat),k≤m.me.length∧i=.int .i64 k∧o=.slice L (b k 0).length d∧Hid (wr.ownsRow w0.heap.size 3 1 (.slice L (b k 0).length d) (b k 0).length ((b k 0).map (Value.int .i64)))∧Hid (Below w0.heap.size w0 wr)) (fun _ i _=>m.me.length-(intOf i).toNat)
 case atStart=>exact ⟨0,none,0,Nat.zero_le _,rfl,by rw [HZ.out];rfl,by rw [HZ.out];exact World.ownsRow_nil _ _ _ _,Below.refl _ _⟩
 case round=>
  obtain ⟨k,L,d,hk,rfl,rfl,HO,G⟩:=hrel;rename World=>wo;have x2:=(HX.out.old G.out).cell 2 (v:=.slice h.eo m.me.length h.ec) rfl;by_cases hkl:k<m.me.length
  ·have aV:(k:Int) < m.me.length:=by omega
   have a8:IntKind.i64.wrap ((k:Int)+1)=((k+1:Nat):Int):=IntWalk.i64_in _ (by have:=aH.out;omega);obtain ⟨ea,ai,-,-,-,-,-,-,e6⟩:=(Hj.out.old G.out).mth hkl;rw [ai] at x2;obtain ⟨C,P⟩:∃ C,C=cdM m k:=⟨_,rfl⟩;rw [show (m.me.getD k default).k=C from P.symm] at e6;have N:=Zh (show ∀ w',Below w0.heap.size w0 w'→Zas w' (h.e k).ko (h.e k).kc C from fun w' hb=>by rw [P];exact (Hj.out.old hb).k k hkl);have aD:=Zh (show ∀ p,p<C.length→(b k p).length≤1000000 from fun p hp=>Y.out k hkl p (by rw [←P];exact hp));have aG:=Zh (show ∀ j,j<C.length→b k (j+1)=b k j++if IL (C.getD j default)=true then [(C.getD j default).a] else [] from fun j Q=>by rw [P] at Q ⊢;exact O.out k j Q);have aa:=Zh (show b (k+1) 0=b k C.length by rw [P];exact ab.out k hkl);have a4:C.length≤120:=by rw [P];exact aC.out k hkl
   clear ai P;generalize (h.e k).ko=ko at e6 N;generalize (h.e k).kc=kc at e6 N;go_wp2;clear x2 e6
   go_loopw [5,8] (fun o i wr=>∃ (j:Nat) (L:Option Addr) (d:Nat),j≤C.length∧i=.int .i64 j∧o=.slice L (b k j).length d∧Hid (wr.ownsRow w0.heap.size 3 1 (.slice L (b k j).length d) (b k j).length ((b k j).map (Value.int .i64)))∧Hid (Below w0.heap.size w0 wr)) (fun _ i _=>C.length-(intOf i).toNat)
   case atStart=>exact ⟨0,L,d,Nat.zero_le _,rfl,rfl,HO.out,G.out⟩
   case round=>
    obtain ⟨j,bo,bc,Q,rfl,rfl,J,z⟩:=hrel;rename World=>wj;by_cases hjl:j<C.length
    ·have aU:(j:Int) < C.length:=by omega
     have a7:IntKind.i64.wrap ((j:Int)+1)=((j+1:Nat):Int):=IntWalk.i64_in _ (by omega);obtain ⟨ca,ak,o0,o1,o2⟩:=ZaB (N.out _ z.out) hjl;have aN:=aD.out j hjl;have r:=aG.out j hjl;have q:=B.out (C.getD j default);obtain ⟨t0,t1⟩:=Zj9 (HT.out.old z.out);obtain ⟨i,U⟩:∃ i,i=C.getD j default:=⟨_,rfl⟩;rw [←U] at o0 o1 o2 r q;obtain ⟨x,ia,V⟩:=i;dsimp only at o0 o1 o2 q;have a0:=Zh U;obtain ⟨y,R⟩:∃ y,y=b k j:=⟨_,rfl⟩;rw [←R] at J aN r ⊢;have W:=Zh ak;subst ak;by_cases hq:IL ⟨x,ia,V⟩=true
     ·have HY:=Zh (show b k (j+1)=y++[ia] by rw [r,if_pos hq]);have l:(g=3∧x=15)∨(g=4∧x=16∧V=tc):=by rw [hq] at q;have:=of_decide_eq_true q.symm;omega
      clear r q hq U R;rcases l with ⟨rfl,rfl⟩|⟨rfl,rfl,rfl⟩
      all_goals
       clear B W;go_wp2
       go_quiet (fail)
       have A:=Zh (ZcQ z.out nq);have K:=Zh (show (wj.drewN nq).ownsRow w0.heap.size 3 1 (.slice bo y.length bc) y.length (y.map (Value.int .i64)) from J.out);have q1:(wj.drewN nq).cell? ⟨(ca.add (j*3)).block,(ca.add (j*3)).off+1,none⟩=some (.int .i64 ia):=o1;clear o0 o1 o2 t0 t1;generalize wj.drewN nq=wq at A K q1 ⊢;have D:=K.out
       go_wp2_with (at_builtin;refine Zak rfl (.tmp 62) (.tmp 68) 27 rfl w0.heap.size 3 1 8 Zcm (.slice bo y.length bc) y.length (y.map (Value.int .i64)) rfl (D.alloc _) _ 1 1 [.int .i64 ia] rfl (ZdN (Blk.new' #[.int .i64 ia] 3 (by simp)) rfl) (by intro u hu;rw [List.mem_singleton.1 hu];rfl) (by omega) (by unfold maxLen;omega) (by have:=A.out.size;simp;omega) ?_;intro aK af a9 E aj;have aF:=Zh E;have aB:=Zh (ZcR (bal A.out _) aj (fun j Q=>(D.lt j Q).1));clear E aj q1)
       clear D;go_roundw
       case rel=>
        have h9:=aF.out;refine ⟨j+1,aK,af,by omega,by go_num,by rw [HY.out,List.length_append];rfl,(show World.ownsRow _ _ _ _ _ _ _ from ?_),aB.out⟩;rw [HY.out,List.length_append,List.map_append];exact h9
       case measure=>simp [intOf];omega
     ·have HY:=Zh (show b k (j+1)=y by rw [r,if_neg hq,List.append_nil]);have l:(g=3∧¬ x=15)∨(g=4∧¬ x=16)∨(g=4∧x=16∧¬ V=tc)∨(¬ g=3∧¬ g=4):=by have:¬ (g=3∧x=15∨g=4∧x=16∧V=tc):=fun e=>hq (by rw [q];exact decide_eq_true e);omega
      clear r q hq U R;have hb:(g=3∧(x == 15)=false∧¬ x=15)∨(g=4∧(x == 16)=false∧¬ x=16)∨(g=4∧x=16∧(V == tc)=false∧¬ V=tc)∨(((g == 3)=false∧(g == 4)=false)∧¬ g=3∧¬ g=4):=by simp only [beq_eq_false_iff_ne,ne_eq];omega
      clear l;rcases hb with ⟨rfl,b1,n1⟩|⟨rfl,b1,n1⟩|⟨rfl,rfl,b1,n1⟩|⟨⟨b1,b2⟩,n1,n2⟩
      all_goals
       clear B W;go_wp2
       go_quiet (fail)
       have A:=Zh (ZcQ z.out nq);have K:=Zh (show (wj.drewN nq).ownsRow w0.heap.size 3 1 (.slice bo y.length bc) y.length (y.map (Value.int .i64)) from J.out);clear o0 o1 o2 t0 t1;go_wp2;go_roundw
       case rel=>exact ⟨j+1,bo,bc,by omega,by go_num,by rw [HY.out],(by rw [HY.out];exact K.out),A.out⟩
       case measure=>simp [intOf];omega
    ·obtain rfl:j=C.length:=by omega
     go_wp2;go_roundw
     case rel=>exact ⟨k+1,bo,bc,by omega,by go_num,by rw [aa.out],(by rw [aa.out];exact J.out),z.out⟩
     case measure=>simp [intOf];omega
  ·obtain rfl:k=m.me.length:=by omega
   have a5:¬ (m.me.length:Int) < m.me.length:=by omega
   go_wp2;go_ret;refine ⟨⟨L,d,rfl,Zas.of_own (by rw [Zau];exact HO.out),fun a ha=>?_⟩,Zag HB.out G.out⟩;subst ha;have h1:=(HO.out.lt a.block rfl).1;have h2:=HB.out.size;omega
end
section
open Go.RowKit
instance:Cells T3:=⟨3,by decide,fun t=>[.int .i64 t.1,.int .i64 t.2.1,.int .i64 t.2.2],fun _=>rfl,by
 intro x u hu;simp only [List.mem_cons,List.not_mem_nil,or_false] at hu;rcases hu with rfl|rfl|rfl<;>rfl⟩
abbrev Zr6 (L:List T3):Array Value:=(Zal L).toArray
abbrev Zr7 (L:List Bool):Array Value:=(L.map Value.bool).toArray
theorem Zr8 (L:List T3) (c:Nat) (a:c<L.length):(Zr6 L)[c*3]?=some (.int .i64 (L.getD c z3).1)∧(Zr6 L)[c*3+1]?=some (.int .i64 (L.getD c z3).2.1)∧(Zr6 L)[c*3+2]?=some (.int .i64 (L.getD c z3).2.2):=by
 have b:L.getD c z3=L[c]:=by simp [a]
 rw [b];refine ⟨?_,?_,?_⟩
 ·have:=Zaq L c a 0 (by decide);simp only [List.getElem?_toArray];exact this
 ·have:=Zaq L c a 1 (by decide);simp only [List.getElem?_toArray];exact this
 ·have:=Zaq L c a 2 (by decide);simp only [List.getElem?_toArray];exact this
theorem Zr9 {w:World}{g:Nat}{L:List T3}{t:TypeId} (h:Blk w g (Zr6 L) t) {c:Nat} (a:c<L.length):w.cell? ⟨g,c*3,none⟩=some (.int .i64 (L.getD c z3).1)∧w.cell? ⟨g,c*3+1,none⟩=some (.int .i64 (L.getD c z3).2.1)∧w.cell? ⟨g,c*3+2,none⟩=some (.int .i64 (L.getD c z3).2.2):=
 ⟨h.cell _ (Zr8 L c a).1,h.cell _ (Zr8 L c a).2.1,h.cell _ (Zr8 L c a).2.2⟩
theorem Zsa:∀ (L:List T3) (c:Nat) (x:T3),c<L.length→Zal (L.set c x)=(((Zal L).set (c*3) (.int .i64 x.1)).set (c*3+1) (.int .i64 x.2.1)).set (c*3+2) (.int .i64 x.2.2)
 | [],_,_,h=>by simp at h
 | a :: r,0,x,_=>rfl
 |a :: r,c+1,x,h=>by have b:=Zsa r c x (by simpa using h);rw [List.set_cons_succ,show Zal (a :: r.set c x)=(Cells.cells a++Zal (r.set c x)) from rfl,b];rw [show (c+1)*3=c*3+1+1+1 by omega];rfl
theorem Zsb {w:World}{g c:Nat}{L:List T3}{t:TypeId} (h:Blk w g (Zr6 L) t) (a:c<L.length) (x:T3):Blk (((w.setCell ⟨g,c*3,none⟩ (.int .i64 x.1)).setCell ⟨g,c*3+1,none⟩ (.int .i64 x.2.1)).setCell ⟨g,c*3+2,none⟩ (.int .i64 x.2.2)) g (Zr6 (L.set c x)) t:=by have:=((h.set (c*3) (.int .i64 x.1)).set (c*3+1) (.int .i64 x.2.1)).set (c*3+2) (.int .i64 x.2.2);rw [Zr6,Zsa L c x a];simpa [Zr6] using this
theorem Zsc {w:World}{g:Nat}{L:List Bool}{t:TypeId} (h:Blk w g (Zr7 L) t) {c:Nat} (a:c<L.length):w.cell? ⟨g,c,none⟩=some (.bool (L.getD c false)):=h.cell c (by simp [Zr7,a])
theorem Zsd {w:World}{g c:Nat}{L:List Bool}{t:TypeId} (h:Blk w g (Zr7 L) t) (b:Bool):Blk (w.setCell ⟨g,c,none⟩ (.bool b)) g (Zr7 (L.set c b)) t:=by have:=h.set c (.bool b);simpa [Zr7,List.map_set] using this
def tbT (n:Nat) (f:Nat→Option T3):List T3:=(List.range n).map fun c=>(f c).getD z3
def tbB (n:Nat) (f:Nat→Option T3):List Bool:=(List.range n).map fun c=>(f c).isSome
theorem Zse (n:Nat) (f:Nat→Option T3):(tbT n f).length=n:=by simp [tbT]
theorem Zsf (n:Nat) (f:Nat→Option T3):(tbB n f).length=n:=by simp [tbB]
section
variable {n c:Nat}(f:Nat→Option T3)
include n c f
theorem Zsg (a:c<n):(tbT n f).getD c z3=(f c).getD z3:=by simp [tbT,a]
theorem Zsh (a:c<n):(tbB n f).getD c false=(f c).isSome:=by simp [tbB,a]
theorem Zsi (x:T3):(tbT n f).set c x=tbT n (Zqn f c (some x)):=by
 apply List.ext_getElem (by simp [tbT]);intro i a b;simp only [tbT,List.getElem_map,List.getElem_range,Zqn,List.getElem_set];by_cases e:c=i
 ·subst e;simp
 ·rw [if_neg e,if_neg (fun q=>e q.symm)]
theorem Zsj (x:T3):(tbB n f).set c true=tbB n (Zqn f c (some x)):=by
 apply List.ext_getElem (by simp [tbB]);intro i a b;simp only [tbB,List.getElem_map,List.getElem_range,Zqn,List.getElem_set];by_cases e:c=i
 ·subst e;simp
 ·rw [if_neg e,if_neg (fun q=>e q.symm)]
end
theorem Zsk (n:Nat):tbT n (fun _=>none)=List.replicate n z3:=by apply List.ext_getElem (by simp [tbT]);intro i a b;simp [tbT]
theorem Zsl (n:Nat):tbB n (fun _=>none)=List.replicate n false:=by apply List.ext_getElem (by simp [tbB]);intro i a b;simp [tbB]
theorem Zsm {α:Type} [Cells α] {w w':World}{S:List Nat}{ao:Option Addr}{cap:Nat}{l:List α} (h:Zas w ao cap l) (o:UpL S w w') (k:∀ a,ao=some a→a.block ∉ S):Zas w' ao cap l:=by
 refine ⟨h.1,h.2.1,fun j u g=>?_⟩;obtain ⟨a,b,d⟩:=h.2.2 j u g;refine ⟨a,b,(World.cell?_of_block (w:=w) (o.block _ (Zad d) ?_)).trans d⟩;have e:(a.add j).block=a.block:=by unfold Addr.add;split<;>rfl
 rw [e];exact k a b
theorem Zsn {α:Type} [Cells α] {w:World}{ao:Option Addr}{cap:Nat}{l:List α} (h:Zas w ao cap l) {B:Nat} (k:∀ a,ao=some a→a.block≠B) (i:Nat) (v:Value):Zas (w.setCell ⟨B,i,none⟩ v) ao cap l:=by
 refine ⟨h.1,h.2.1,fun j u g=>?_⟩;obtain ⟨a,b,e⟩:=h.2.2 j u g;have d:(a.add j).block=a.block:=by unfold Addr.add;split<;>rfl
 refine ⟨a,b,(World.cell?_of_block (w:=w) (heap_setCell_other w _ _ v ?_)).trans e⟩;rw [d];exact k a b
theorem Zso {α:Type} [Cells α] {w:World}{ao:Option Addr}{cap:Nat}{l:List α} (h:Zas w ao cap l) {B:Nat} (b:∀ a,ao=some a→a.block≠B) (x y z:Value):Zas (((w.setCell ⟨B,0,none⟩ x).setCell ⟨B,1,none⟩ y).setCell ⟨B,2,none⟩ z) ao cap l:=
 Zsn (Zsn (Zsn h b _ _) b _ _) b _ _
structure Zsp where
 o:Nat
 r:Nat
 p:Nat
 q:Nat
def Zsp.s (Z:Zsp):List Nat:=[Z.o,Z.r,Z.p,Z.q]
structure Zsq (w0 w:World) (S:Nat) (Z:Zsp) (h:Hd) (m:Md) (s:Tbs):Prop where
 bk:Blk w S #[.slice h.co m.cl.length h.cc,.slice h.so m.st.length h.sc,.slice h.eo m.me.length h.ec,.int .i64 m.sel,.int .i64 (ZmW m ⟨3,0⟩).1,.int .i64 (ZmW m ⟨3,0⟩).2.1,.int .i64 (ZmW m ⟨3,0⟩).2.2,.slice (some ⟨Z.o,0,none⟩) m.cl.length m.cl.length,.slice (some ⟨Z.r,0,none⟩) m.cl.length m.cl.length,.slice (some ⟨Z.p,0,none⟩) m.cl.length m.cl.length,.slice (some ⟨Z.q,0,none⟩) m.cl.length m.cl.length] 124
 md:Zaz w0 h m
 bw:Below w0.heap.size w0 w
 ob:Blk w Z.o (Zr6 (tbT m.cl.length s.1)) 45
 rb:Blk w Z.r (Zr6 (tbT m.cl.length s.2)) 45
 pb:Blk w Z.p (Zr7 (tbB m.cl.length s.1)) 4
 qb:Blk w Z.q (Zr7 (tbB m.cl.length s.2)) 4
 nd:Z.o≠Z.r∧Z.p≠Z.q
 ge:w0.heap.size≤S∧w0.heap.size≤Z.o∧w0.heap.size≤Z.r∧w0.heap.size≤Z.p∧w0.heap.size≤Z.q
theorem Zsr {w:World}{B C:Nat}{b ys:Array Value}{t u:TypeId} (h:Blk w B b t) (g:Blk w C ys u) (a:t≠u):B≠C:=by rintro rfl;have:=Option.some.inj ((show w.heap[B]?=_ from h).symm.trans g);cases this;exact a rfl
section
variable {w0 w w':World}{S:Nat}{Z:Zsp}{h:Hd}{m:Md}{s:Tbs}
section
variable (H:Zsq w0 w S Z h m s)
include H
theorem Zsq.old (hb:Below w.heap.size w w'):Zsq w0 w' S Z h m s:=
 ⟨H.bk.old hb,H.md,Zag H.bw hb,H.ob.old hb,H.rb.old hb,H.pb.old hb,H.qb.old hb,H.nd,H.ge⟩
theorem Zsq.mod:Zaz w h m:=H.md.old H.bw
theorem Zsq.nes:S ∉ Z.s:=by
 intro q;simp only [Zsp.s,List.mem_cons,List.not_mem_nil,or_false] at q;rcases q with q|q|q|q
 ·exact Zsr H.bk H.ob (by decide) q
 ·exact Zsr H.bk H.rb (by decide) q
 ·exact Zsr H.bk H.pb (by decide) q
 ·exact Zsr H.bk H.qb (by decide) q
theorem Zsq.ne3:Z.o≠Z.p∧Z.o≠Z.q∧Z.r≠Z.p∧Z.r≠Z.q:=⟨Zsr H.ob H.pb (by decide),Zsr H.ob H.qb (by decide),Zsr H.rb H.pb (by decide),Zsr H.rb H.qb (by decide)⟩
theorem Zsq.out {B:Nat} {xs:Array Value} {t:TypeId} (hB:Blk w B xs t) (hS:B≠S) (hn:B ∉ Z.s) (hg:w0.heap.size≤B) (i:Nat) (v:Value):Zsq w0 (w.setCell ⟨B,i,none⟩ v) S Z h m s:=by simp only [Zsp.s,List.mem_cons,List.not_mem_nil,or_false,not_or] at hn;exact ⟨H.bk.other (fun e=>hS e.symm) v,H.md,H.bw.setCell (p:=⟨B,i,none⟩) hg v,H.ob.other (fun e=>hn.1 e.symm) v,H.rb.other (fun e=>hn.2.1 e.symm) v,H.pb.other (fun e=>hn.2.2.1 e.symm) v,H.qb.other (fun e=>hn.2.2.2 e.symm) v,H.nd,H.ge⟩
theorem Zsq.out3 {B:Nat} {xs:Array Value} {t:TypeId} (hB:Blk w B xs t) (hS:B≠S) (hn:B ∉ Z.s) (hg:w0.heap.size≤B) (x y z:Value):Zsq w0 (((w.setCell ⟨B,0,none⟩ x).setCell ⟨B,1,none⟩ y).setCell ⟨B,2,none⟩ z) S Z h m s:=
 ((H.out hB hS hn hg 0 x).out (hB.set 0 x) hS hn hg 1 y).out ((hB.set 0 x).set 1 y) hS hn hg 2 z
theorem Zsq.new {B:Nat} (hB:w.heap.size≤B):B≠S∧B ∉ Z.s∧w0.heap.size≤B:=by have a:=H.bk.lt;have b:=H.ob.lt;have d:=H.rb.lt;have e:=H.pb.lt;have g:=H.qb.lt;have j:=H.ge.1;refine ⟨by omega,?_,by omega⟩;simp only [Zsp.s,List.mem_cons,List.not_mem_nil,or_false,not_or];omega
theorem Zsq.setO {c:Nat} (hc:c<m.cl.length) (x:T3) (hb:w'.heap.size=w.heap.size) (e:w'=(((w.setCell ⟨Z.o,c*3,none⟩ (.int .i64 x.1)).setCell ⟨Z.o,c*3+1,none⟩ (.int .i64 x.2.1)).setCell ⟨Z.o,c*3+2,none⟩ (.int .i64 x.2.2)).setCell ⟨Z.p,c,none⟩ (.bool true)):Zsq w0 w' S Z h m (Zqn s.1 c (some x),s.2)∧UpL Z.s w w':=by
 subst e;have g:=H.nes;have b:=H.ne3;simp only [Zsp.s,List.mem_cons,List.not_mem_nil,or_false,not_or] at g;refine ⟨⟨?_,H.md,?_,?_,?_,?_,?_,H.nd,H.ge⟩,?_⟩
 ·exact ((((H.bk.other (a:=⟨Z.o,c*3,none⟩) g.1 _).other (a:=⟨Z.o,c*3+1,none⟩) g.1 _).other (a:=⟨Z.o,c*3+2,none⟩) g.1 _).other (a:=⟨Z.p,c,none⟩) g.2.2.1 _)
 ·exact (((H.bw.setCell (p:=⟨Z.o,c*3,none⟩) H.ge.2.1 _).setCell (p:=⟨Z.o,c*3+1,none⟩) H.ge.2.1 _).setCell (p:=⟨Z.o,c*3+2,none⟩) H.ge.2.1 _).setCell (p:=⟨Z.p,c,none⟩) H.ge.2.2.2.1 _
 ·have:=(Zsb H.ob (c:=c) (by rw [Zse];exact hc) x).other (a:=⟨Z.p,c,none⟩) b.1 (.bool true);rwa [Zsi] at this
 ·exact ((((H.rb.other (a:=⟨Z.o,c*3,none⟩) (fun e=>H.nd.1 e.symm) _).other (a:=⟨Z.o,c*3+1,none⟩) (fun e=>H.nd.1 e.symm) _).other (a:=⟨Z.o,c*3+2,none⟩) (fun e=>H.nd.1 e.symm) _).other (a:=⟨Z.p,c,none⟩) b.2.2.1 _)
 ·have:=Zsd (c:=c) (((H.pb.other (a:=⟨Z.o,c*3,none⟩) (fun e=>b.1 e.symm) (.int .i64 x.1)).other (a:=⟨Z.o,c*3+1,none⟩) (fun e=>b.1 e.symm) (.int .i64 x.2.1)).other (a:=⟨Z.o,c*3+2,none⟩) (fun e=>b.1 e.symm) (.int .i64 x.2.2)) true;rwa [Zsj _ x] at this
 ·exact ((((H.qb.other (a:=⟨Z.o,c*3,none⟩) (fun e=>b.2.1 e.symm) _).other (a:=⟨Z.o,c*3+1,none⟩) (fun e=>b.2.1 e.symm) _).other (a:=⟨Z.o,c*3+2,none⟩) (fun e=>b.2.1 e.symm) _).other (a:=⟨Z.p,c,none⟩) (fun e=>H.nd.2 e.symm) _)
 ·refine ⟨rfl,rfl,rfl,by rw [hb];exact Nat.le_refl _,fun k j d=>?_⟩;simp only [Zsp.s,List.mem_cons,List.not_mem_nil,or_false,not_or] at d;rw [heap_setCell_other _ _ _ _ (show k≠(⟨Z.p,c,none⟩:Addr).block from d.2.2.1),heap_setCell_other _ _ _ _ (show k≠(⟨Z.o,c*3+2,none⟩:Addr).block from d.1),heap_setCell_other _ _ _ _ (show k≠(⟨Z.o,c*3+1,none⟩:Addr).block from d.1),heap_setCell_other _ _ _ _ (show k≠(⟨Z.o,c*3,none⟩:Addr).block from d.1)]
theorem Zsq.setR {c:Nat} (hc:c<m.cl.length) (x:T3) (hb:w'.heap.size=w.heap.size) (e:w'=(((w.setCell ⟨Z.r,c*3,none⟩ (.int .i64 x.1)).setCell ⟨Z.r,c*3+1,none⟩ (.int .i64 x.2.1)).setCell ⟨Z.r,c*3+2,none⟩ (.int .i64 x.2.2)).setCell ⟨Z.q,c,none⟩ (.bool true)):Zsq w0 w' S Z h m (s.1,Zqn s.2 c (some x))∧UpL Z.s w w':=by
 subst e;have g:=H.nes;have b:=H.ne3;simp only [Zsp.s,List.mem_cons,List.not_mem_nil,or_false,not_or] at g;refine ⟨⟨?_,H.md,?_,?_,?_,?_,?_,H.nd,H.ge⟩,?_⟩
 ·exact ((((H.bk.other (a:=⟨Z.r,c*3,none⟩) g.2.1 _).other (a:=⟨Z.r,c*3+1,none⟩) g.2.1 _).other (a:=⟨Z.r,c*3+2,none⟩) g.2.1 _).other (a:=⟨Z.q,c,none⟩) g.2.2.2 _)
 ·exact (((H.bw.setCell (p:=⟨Z.r,c*3,none⟩) H.ge.2.2.1 _).setCell (p:=⟨Z.r,c*3+1,none⟩) H.ge.2.2.1 _).setCell (p:=⟨Z.r,c*3+2,none⟩) H.ge.2.2.1 _).setCell (p:=⟨Z.q,c,none⟩) H.ge.2.2.2.2 _
 ·exact ((((H.ob.other (a:=⟨Z.r,c*3,none⟩) H.nd.1 _).other (a:=⟨Z.r,c*3+1,none⟩) H.nd.1 _).other (a:=⟨Z.r,c*3+2,none⟩) H.nd.1 _).other (a:=⟨Z.q,c,none⟩) b.2.1 _)
 ·have:=(Zsb H.rb (c:=c) (by rw [Zse];exact hc) x).other (a:=⟨Z.q,c,none⟩) b.2.2.2 (.bool true);rwa [Zsi] at this
 ·exact ((((H.pb.other (a:=⟨Z.r,c*3,none⟩) (fun e=>b.2.2.1 e.symm) _).other (a:=⟨Z.r,c*3+1,none⟩) (fun e=>b.2.2.1 e.symm) _).other (a:=⟨Z.r,c*3+2,none⟩) (fun e=>b.2.2.1 e.symm) _).other (a:=⟨Z.q,c,none⟩) H.nd.2 _)
 ·have:=Zsd (c:=c) (((H.qb.other (a:=⟨Z.r,c*3,none⟩) (fun e=>b.2.2.2 e.symm) (.int .i64 x.1)).other (a:=⟨Z.r,c*3+1,none⟩) (fun e=>b.2.2.2 e.symm) (.int .i64 x.2.1)).other (a:=⟨Z.r,c*3+2,none⟩) (fun e=>b.2.2.2 e.symm) (.int .i64 x.2.2)) true;rwa [Zsj _ x] at this
 ·refine ⟨rfl,rfl,rfl,by rw [hb];exact Nat.le_refl _,fun k j d=>?_⟩;simp only [Zsp.s,List.mem_cons,List.not_mem_nil,or_false,not_or] at d;rw [heap_setCell_other _ _ _ _ (show k≠(⟨Z.q,c,none⟩:Addr).block from d.2.2.2),heap_setCell_other _ _ _ _ (show k≠(⟨Z.r,c*3+2,none⟩:Addr).block from d.2.1),heap_setCell_other _ _ _ _ (show k≠(⟨Z.r,c*3+1,none⟩:Addr).block from d.2.1),heap_setCell_other _ _ _ _ (show k≠(⟨Z.r,c*3,none⟩:Addr).block from d.2.1)]
end
end
end
section
open Go.RowKit
attribute [local go_sem] World.cell?_alloc_some
theorem Zss {m:Md}{t:Ty} (h:Zfk m t) (a:t.k=1∨t.k=3):t.c=0:=by unfold Zfk ZaG at h;rw [if_neg (by omega),if_pos (by omega)] at h;simp only [Bool.and_eq_true,decide_eq_true_eq] at h;exact h.2
theorem Zst {O:World}{S:Nat}{Z:Zsp}{h:Hd}{m:Md}{s:Tbs} (t:Ty) (R:Zfk m t) (w:World) (H:Zsq O w S Z h m s) :
  Calls Tryz.prog 89 #[ZQ.p S,.agg #[.int .i64 t.k,.int .i64 t.c]] w (Zhi w (ag3 ((ofV m s.1 s.2 t).getD z3)) (.bool (ofV m s.1 s.2 t).isSome)):=by
 obtain ⟨w0,j⟩:∃ w0,w0=(w.alloc (.cells #[.int .i64 t.k,.int .i64 t.c] 38)).alloc (.cells #[.int .i64 0,.int .i64 0,.int .i64 0] 45):=⟨_,rfl⟩;have HB:=Zh (show Below w.heap.size w w0 by rw [j];exact bE);obtain ⟨X,J⟩:∃ X,X=w.heap.size:=⟨_,rfl⟩;have HT:=Zh (show Blk w0 X #[.int .i64 t.k,.int .i64 t.c] 38 by rw [j,J];exact (Blk.new _ _ _).alloc _);have HR:=Zh (show Blk w0 (X+1) (cl3 0 0 0) 45 by rw [j,J];exact Blk.new' (w:=w.alloc _) _ _ (by simp));have G:=Zh j;have q:=Zh J;have HXs:=Zh (show w.heap.size≤X by omega);have HRz:=Zh (H.old HB.out);have C:=Zh R;have HNw:=Zh (H.new (show w.heap.size≤X+1 by omega));have aa:=Zh (show S<X∧Z.o<X∧Z.r<X∧Z.p<X∧Z.q<X from by rw [J];exact ⟨H.bk.lt,H.ob.lt,H.rb.lt,H.pb.lt,H.qb.lt⟩);have Y:=Zh H.mod.bz.1;have hN:=Y.out;obtain ⟨B,F⟩:=t;dsimp only at HT G;clear j H J R;by_cases q4:B=4
 ·subst q4;have e:=ZfH C.out (.inr rfl);dsimp only at e;obtain ⟨d,rfl⟩:∃ d:Nat,F=d:=⟨F.toNat,by omega⟩;have A:d<m.cl.length:=by omega
  have N:(d:Int) < m.cl.length:=by omega
  have g:ofV m s.1 s.2 ⟨4,d⟩=s.2 d:=by unfold ofV;rw [if_neg (show ¬ (4:Int)=3 by decide),if_pos rfl,Int.toNat_natCast]
  rw [g];obtain ⟨ok,b⟩:∃ ok,ok=(s.2 d).isSome:=⟨_,rfl⟩;obtain ⟨x,E⟩:∃ x,x=(s.2 d).getD z3:=⟨_,rfl⟩;rw [←b,←E];obtain ⟨x0,x1,x2⟩:=x;have HCs:=Zh (show ∀ w',Zsq O w' S Z h m s→Blk w' X #[.int .i64 4,.int .i64 d] 38→Cs [(⟨S,8,none⟩,.slice (some ⟨Z.r,0,none⟩) m.cl.length m.cl.length),(⟨S,10,none⟩,.slice (some ⟨Z.q,0,none⟩) m.cl.length m.cl.length),(⟨Z.r,d*3,none⟩,.int .i64 x0),(⟨Z.r,d*3+1,none⟩,.int .i64 x1),(⟨Z.r,d*3+2,none⟩,.int .i64 x2),(⟨Z.q,d,none⟩,.bool ok),(⟨X,1,none⟩,.int .i64 d)] w' from fun w' r D=>by
   have u:=Zr9 (r.rb) (c:=d) (by rw [Zse];exact A);have hB:=Zsc (r.qb) (c:=d) (by rw [Zsf];exact A);rw [Zsg _ A,←E] at u;rw [Zsh _ A,←b] at hB;exact ⟨r.bk.cell 8 rfl,r.bk.cell 10 rfl,u.1,u.2.1,u.2.2,hB,D.cell 1 rfl,trivial⟩)
  clear e g b E;go_enter Tryz.func89,Tryz.ntmps89
  go_upto_region 1 with fail
  rw [←G.out,←q.out];have K:=HT.out.cell 0 (v:=.int .i64 4) rfl
  go_upto_region 5 with fail
  clear K;refine rO (Cs [(⟨S,8,none⟩,.slice (some ⟨Z.r,0,none⟩) m.cl.length m.cl.length),(⟨S,10,none⟩,.slice (some ⟨Z.q,0,none⟩) m.cl.length m.cl.length),(⟨Z.r,d*3,none⟩,.int .i64 x0),(⟨Z.r,d*3+1,none⟩,.int .i64 x1),(⟨Z.r,d*3+2,none⟩,.int .i64 x2),(⟨Z.q,d,none⟩,.bool ok),(⟨X,1,none⟩,.int .i64 d)]) (oL [0,1,2,3,4,5,6,7,8,9,10,11,12,13,14,15,116,17]) (HCs.out _ (HRz.out.old (Below.refl _ _).drew) HT.out.drew) ?_;exact j3
 by_cases q2:B=2
 ·subst q2;have e:=ZfH C.out (.inl rfl);dsimp only at e;obtain ⟨d,rfl⟩:∃ d:Nat,F=d:=⟨F.toNat,by omega⟩;have A:d<m.cl.length:=by omega
  have N:(d:Int) < m.cl.length:=by omega
  have g:ofV m s.1 s.2 ⟨2,d⟩=s.1 d:=by unfold ofV;rw [if_neg (show ¬ (2:Int)=3 by decide),if_neg (show ¬ (2:Int)=4 by decide),if_pos rfl,Int.toNat_natCast]
  rw [g];obtain ⟨ok,b⟩:∃ ok,ok=(s.1 d).isSome:=⟨_,rfl⟩;obtain ⟨x,E⟩:∃ x,x=(s.1 d).getD z3:=⟨_,rfl⟩;rw [←b,←E];obtain ⟨x0,x1,x2⟩:=x;have HCs:=Zh (show ∀ w',Zsq O w' S Z h m s→Blk w' X #[.int .i64 2,.int .i64 d] 38→Cs [(⟨S,7,none⟩,.slice (some ⟨Z.o,0,none⟩) m.cl.length m.cl.length),(⟨S,9,none⟩,.slice (some ⟨Z.p,0,none⟩) m.cl.length m.cl.length),(⟨Z.o,d*3,none⟩,.int .i64 x0),(⟨Z.o,d*3+1,none⟩,.int .i64 x1),(⟨Z.o,d*3+2,none⟩,.int .i64 x2),(⟨Z.p,d,none⟩,.bool ok),(⟨X,1,none⟩,.int .i64 d)] w' from fun w' r D=>by
   have u:=Zr9 (r.ob) (c:=d) (by rw [Zse];exact A);have hB:=Zsc (r.pb) (c:=d) (by rw [Zsf];exact A);rw [Zsg _ A,←E] at u;rw [Zsh _ A,←b] at hB;exact ⟨r.bk.cell 7 rfl,r.bk.cell 9 rfl,u.1,u.2.1,u.2.2,hB,D.cell 1 rfl,trivial⟩)
  clear e g b E;go_enter Tryz.func89,Tryz.ntmps89
  go_upto_region 1 with fail
  rw [←G.out,←q.out];have K:=HT.out.cell 0 (v:=.int .i64 2) rfl
  go_upto_region 7 with fail
  clear K;refine rO (Cs [(⟨S,7,none⟩,.slice (some ⟨Z.o,0,none⟩) m.cl.length m.cl.length),(⟨S,9,none⟩,.slice (some ⟨Z.p,0,none⟩) m.cl.length m.cl.length),(⟨Z.o,d*3,none⟩,.int .i64 x0),(⟨Z.o,d*3+1,none⟩,.int .i64 x1),(⟨Z.o,d*3+2,none⟩,.int .i64 x2),(⟨Z.p,d,none⟩,.bool ok),(⟨X,1,none⟩,.int .i64 d)]) (oL [0,1,2,3,4,5,6,7,8,9,10,11,12,13,14,15,116,17]) (HCs.out _ (HRz.out.old (Below.refl _ _).drew) HT.out.drew) ?_;exact j3
 by_cases q3:B=3
 ·subst q3;have L:F=0:=Zss C.out (.inr rfl);subst L;rw [show ofV m s.1 s.2 ⟨3,0⟩=some (ZmW m ⟨3,0⟩) from if_pos rfl];have U:=HRz.out.bk.cell 4 (v:=.int .i64 (ZmW m ⟨3,0⟩).1) rfl;have V:=HRz.out.bk.cell 5 (v:=.int .i64 (ZmW m ⟨3,0⟩).2.1) rfl;have W:=HRz.out.bk.cell 6 (v:=.int .i64 (ZmW m ⟨3,0⟩).2.2) rfl;generalize ZmW m ⟨3,0⟩=x at U V W ⊢;obtain ⟨x0,x1,x2⟩:=x;dsimp only at U V W;go_enter Tryz.func89,Tryz.ntmps89
  go_upto_region 1 with fail
  rw [←G.out,←q.out];have K:=HT.out.cell 0 (v:=.int .i64 3) rfl;obtain ⟨r0,r1,r2⟩:=HR.out.c3;obtain ⟨f0,f1,f2⟩:=HR.out.f3;have rl:=HR.out.lt
  go_wp2_with fail
  have hz:=Zmx (x:=x0) (y:=x1) (z:=x2) HR.out;have z0:=hz.c3.1;have z1:=hz.c3.2.1;have z2:=hz.c3.2.2;exact bodyPost_ret (v:=.tuple #[ag3 (x0,x1,x2),.bool true]) (by simp [results,Tryz.results89,go_sem,ag3,z0,z1,z2]) rfl ⟨rfl,Zmz HB.out _ _ _ (by have:=HXs.out;omega)⟩
 ·rw [show ofV m s.1 s.2 ⟨B,F⟩=some z3 by unfold ofV;rw [if_neg q3,if_neg q4,if_neg q2]];have b2:(B == 2)=false:=by simpa using q2
  have b3:(B == 3)=false:=by simpa using q3
  have b4:(B == 4)=false:=by simpa using q4
  go_enter Tryz.func89,Tryz.ntmps89
  go_upto_region 1 with fail
  rw [←G.out,←q.out];have K:=HT.out.cell 0 (v:=.int .i64 B) rfl;obtain ⟨r0,r1,r2⟩:=HR.out.c3;obtain ⟨f0,f1,f2⟩:=HR.out.f3;have rl:=HR.out.lt
  go_wp2_with fail
  have hz:=Zmx (x:=0) (y:=0) (z:=0) HR.out;have z0:=hz.c3.1;have z1:=hz.c3.2.1;have z2:=hz.c3.2.2;exact bodyPost_ret (v:=.tuple #[ag3 z3,.bool true]) (by simp [results,Tryz.results89,go_sem,ag3,z3,z0,z1,z2]) rfl ⟨rfl,Zmz HB.out _ _ _ (by have:=HXs.out;omega)⟩
end
