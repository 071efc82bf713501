import Derived.Test.YtfmcclhfnpcokaaGreatU30
set_option linter.all false
set_option maxRecDepth 100000
set_option maxHeartbeats 32000000
namespace Go.Proofs.YtfmcclhfnpcokaaGreat
theorem j0{p:Prop}(h:p:=by
 intro st w1 hg1 hE1;rw [HWl.out];have HE1:=Zh hE1;have HG1:=Zh hg1;have HS5:=Zh (HS4.out.map HFb.out.map hg1);have HO1:=Zh (HOb.out.grown hg1 fun q hq e=>HOb.out.map HFb.out.map q hq (Option.some.inj e).symm);have HB1:=Zh (Zrc HBl.out hg1 fun e=>ZoO HBl.out HFb.out.map (Option.some.inj e).symm);refine hK _ _ ⟨HS5.out.cs,?_⟩;clear hK Kv hg1 hE1
 (refine pO ?_)
 (refine pO ?_)
 refine oO fun Kv hK=>?_;refine ZqF _ _ rfl w0.heap.size ao cap zs rfl HO1.out b ia rfl (Zrd HB1.out) HZl.out (by have:=HIb.out.bw.size;have:=HG1.out.size;omega) ?_;intro ao' cap' w3 ho3 hg3 hat3;have HS6:=Zh (HS5.out.app HO1.out hg3);have HE3:=Zh (HE1.out.eq (hg3.block _ HE1.out.1.lt fun e=>HO1.out.map HE1.out.1 _ e.symm rfl));have HA3:=Zh (And.intro ho3 (And.intro hg3 hat3));refine hK _ _ ⟨HS6.out.cs,?_⟩;clear hK Kv ho3 hg3 hat3;refine oO fun Kv hK=>?_;refine Zoj _ _ _ rfl (M:=MM.l) rfl HE3.out rfl _ rfl ?_;intro w4 hs4 hg4;refine hK _ _ ⟨(HS6.out.map HE3.out.1 hg4).cs,Zd7 ?_⟩;have HEnd:=Zh (HFin.out wb w1 w1 w3 w4 ao' cap' HIb.out HLb.out HNe.out HOb.out HG1.out HE1.out.1 (Below.refl _ _) HA3.out.2.1 HA3.out.2.2 HA3.out.1 hg4 hs4);clear hK Kv hs4 hg4
 go_wp2_with fail
 exact ⟨⟨p+1,hpl,rfl,HEnd.out⟩,by simp [intOf];omega⟩):p:=h
section
open Go.RowKit
attribute [local go_sem] World.cell?_alloc_some
def SzR (w:World) (h:Hd) (m:Md):Ending→World→Prop:=fun e w'=>∃ S M,e=.returned (.pointer (some ⟨S,0,none⟩))∧ZoR w' S M h m []∧Below w.heap.size w w'∧w.heap.size≤S∧∀ x∈M.s,w.heap.size≤x
theorem Zq9 {i:In3} (h:i.op=15):∀ u,LnT u→(ZmP u i=true↔u=⟨3,0⟩):=fun u a=>by
 obtain ⟨k,c⟩:=u
 unfold ZmP LnT at *
 simp only [decide_eq_true_eq,Ty.mk.injEq] at *
 omega
theorem Zra {i:In3} (h:i.op=16):∀ u,LnT u→(ZmP u i=true↔u=⟨4,i.b⟩):=fun u a=>by
 obtain ⟨k,c⟩:=u
 unfold ZmP LnT at *
 simp only [decide_eq_true_eq,Ty.mk.injEq] at *
 omega
theorem Zrb {m:Md} (hm:Za2 m=true) {t:Ty}{k p:Nat} (b:k<m.me.length) (e:p<(cdM m k).length):(Zqa m t k p).length≤1000000:=by
 have a:∀ n,n≤m.me.length→(Zqa m t n 0).length≤120*n:=by exact j1
 have h1:=a k (by omega);have h2:(cdM m k).length≤120:=(ZfQ hm b).z.2.2;have c:=(Zir hm).2.1;have h3:=Zq4 t ((cdM m k).take p);have h4:(Zqa m t k p).length=(Zqa m t k 0).length+(ZmQ t ((cdM m k).take p)).length:=by unfold Zqa;simp [ZmQ]
 have d:((cdM m k).take p).length≤p:=by rw [List.length_take];omega
 omega
theorem Zrc {w w':World}{B:Nat}{b:Array Value}{t:TypeId}{a:Option Nat} (h:Blk w B b t) (c:w.grownBy w' a) (d:a≠some B):Blk w' B b t:=(c.block _ h.lt fun e=>d e.symm).trans h
theorem Zrd {w:World}{b:Nat}{n:Int} (h:Blk w b #[.int .i64 n] 3):Zas w (some ⟨b,0,none⟩) 1 [n]:=ZdN (n:=1) (size:=1) h rfl
def B3L (w:World) (S T I:Nat) (h:Hd) (m:Md) (M:MsL) (t:Ty) (i:In3):Prop:=Blk w S #[.slice h.co m.cl.length h.cc,.slice h.so m.st.length h.sc,.slice h.eo m.me.length h.ec,.int .i64 m.sel,.map (some M.l),.map (some M.a),.map (some M.u),.map (some M.k),.map (some M.t)] 176∧Blk w T #[.int .i64 t.k,.int .i64 t.c] 38∧Blk w I #[.int .i64 i.op,.int .i64 i.a,.int .i64 i.b] 72
section
variable {w w':World}{S T I:Nat}{h:Hd}{m:Md}{M:MsL}{t:Ty}{i:In3}(H:B3L w S T I h m M t i)
include w w' S T I h m M t i H
theorem B3L.old (hb:Below w.heap.size w w'):B3L w' S T I h m M t i:=⟨H.1.old hb,H.2.1.old hb,H.2.2.old hb⟩
theorem B3L.map {X:Nat} (hm:ZmK w X) (hg:w.grownBy w' (some X)):B3L w' S T I h m M t i:=
 ⟨Zrc H.1 hg fun e=>ZoO H.1 hm (Option.some.inj e).symm,Zrc H.2.1 hg fun e=>ZoO H.2.1 hm (Option.some.inj e).symm,Zrc H.2.2 hg fun e=>ZoO H.2.2 hm (Option.some.inj e).symm⟩
theorem B3L.app {base:Nat} {ao:Option Addr} {cap:Nat} {zs:List Int} (ho:ZqC w base ao cap zs) (hg:w.grownBy w' (ZqD ao)):B3L w' S T I h m M t i:=
 ⟨Zrc H.1 hg (ho.ne_blk H.1 (by decide)),Zrc H.2.1 hg (ho.ne_blk H.2.1 (by decide)),Zrc H.2.2 hg (ho.ne_blk H.2.2 (by decide))⟩
end
theorem B3L.cs {w:World}{S T I:Nat}{h:Hd}{m:Md}{M:MsL}{t:Ty}{i:In3} (H:B3L w S T I h m M t i):Cs [(⟨S,4,none⟩,.map (some M.l)),(⟨T,0,none⟩,.int .i64 t.k),(⟨T,1,none⟩,.int .i64 t.c),(⟨I,1,none⟩,.int .i64 i.a)] w:=
 ⟨H.1.cell 4 rfl,H.2.1.cell 0 rfl,H.2.1.cell 1 rfl,H.2.2.cell 1 rfl,trivial⟩
theorem Zre (m:Md) (h:Hd) (w0:World) (H:Zaz w0 h m) (hv:Za2 m=true):Calls Tryz.prog 76 #[.agg (HM.mk h m)] w0 (SzR w0 h m):=by
 obtain ⟨X,hX⟩:∃ X,X=w0.heap.size:=⟨_,rfl⟩;obtain ⟨w1,af⟩:∃ w1,w1=w0.alloc (.cells (HM.mk h m) 26):=⟨_,rfl⟩;have HB:=Zh (show Below w0.heap.size w0 w1 by rw [af];exact bE);have HX:=Zh (show Blk w1 X (HM.mk h m) 26 by rw [af,hX];exact Blk.new _ _ _);have HW:=Zh af;have aY:=Zh hX;obtain ⟨B,hB⟩:∃ B,B=w1.heap.size:=⟨_,rfl⟩;obtain ⟨z,aw⟩:∃ z,z=B+1+1+1+1+1:=⟨_,rfl⟩;obtain ⟨MM,av⟩:∃ MM:MsL,MM=⟨B,B+1,B+1+1,B+1+1+1,B+1+1+1+1⟩:=⟨_,rfl⟩;obtain ⟨w2,ag⟩:∃ w2,w2=(((((w1.alloc (.map #[] 0)).alloc (.map #[] 0)).alloc (.map #[] 0)).alloc (.map #[] 0)).alloc (.map #[] 0)).alloc (.cells #[.slice h.co m.cl.length h.cc,.slice h.so m.st.length h.sc,.slice h.eo m.me.length h.ec,.int .i64 m.sel,.map (some B),.map (some (B+1)),.map (some (B+1+1)),.map (some (B+1+1+1)),.map (some (B+1+1+1+1))] 176):=⟨_,rfl⟩;have HI:=Zh (show SzI w0 w2 z MM h m 0 0 by rw [ag,aw,av];exact SzI.init H HB.out hB);have aW:=Zh ag;have aX:=Zh (show Blk w2 X (HM.mk h m) 26 by rw [ag];exact ((((((HX.out.alloc _).alloc _).alloc _).alloc _).alloc _).alloc _));have aC:=Zh (show w0.heap.size≤z∧∀ x∈MM.s,w0.heap.size≤x from by
  have:=HB.out.size;refine ⟨by omega,fun x hx=>?_⟩;rw [av] at hx;simp only [MsL.s,List.mem_cons,List.not_mem_nil,or_false] at hx;omega)
 have HV:=Zh hv;have Hj:=Zh H;have HN:=Zh (Zir hv).2.1;have aR:=Zh hB;have aU:=Zh aw;clear af ag hX hB H av hv aw;have a9:=@run_makeMap Tryz.prog;go_enter Tryz.func76,Tryz.ntmps76
 go_upto_region 1 with fail
 rw [←HW.out,←aY.out];obtain ⟨x0,x1,x2,x3⟩:=Zj8 HX.out
 go_upto_region 2 with fail
 clear a9 x0 x1 x2 x3;rw [←aR.out,←aW.out,←aU.out];have x2:=aX.out.cell 2 (v:=.slice h.eo m.me.length h.ec) rfl
 go_wp2_with fail
 clear x2
 go_loopw [21] (fun i wr=>∃ k:Nat,k≤m.me.length∧i=.int .i64 k∧Hid (SzI w0 wr z MM h m k 0)) (fun i _=>m.me.length-(intOf i).toNat)
 case atStart=>exact ⟨0,Nat.zero_le _,rfl,HI.out⟩
 case round=>
  obtain ⟨k,bG,rfl,aa⟩:=hrel;rename World=>wo;by_cases hk:k<m.me.length
  ·have a6:(k:Int) < m.me.length:=by omega
   have bH:IntKind.i64.wrap ((k:Int)+1)=((k+1:Nat):Int):=IntWalk.i64_in _ (by have:=HN.out;omega);obtain ⟨ad,aJ,e0,e1,e2,e3,e4,e5,e6⟩:=(Hj.out.old aa.out.bw).mth hk;have ae:=ZfQ HV.out hk;have aB:=Zh (show (cdM m k).length≤120 from ae.z.2.2);have aD:=Zh (show ∀ i∈cdM m k,ZfU m k i from fun i hi=>ZfV (ae.i i hi).1 (ae.i i hi).2);have ab:=Zh (show ∀ w',Zaz w' h m→Zas w' (h.e k).ko (h.e k).kc (cdM m k) from fun w' h'=>h'.k k hk);have ak:=Zh (fun w' (h':SzI w0 w' z MM h m k (cdM m k).length)=>h'.next hk);rw [show (m.me.getD k default).k.length=(cdM m k).length from rfl] at e6;generalize h.e k=y at e2 e3 e6 ab;generalize m.me.getD k default=x at e0 e1 e2 e3 e4 e5;obtain ⟨nm,c,pl,ll,⟨rk,rc⟩,bK⟩:=x;obtain ⟨po,pc,lo,lc,ko,kc⟩:=y;dsimp only at e0 e1 e2 e3 e4 e5 e6 ab;generalize hcd:cdM m k=cd at e6 ab aB aD ak;have aA:=Zh hcd;clear ae hcd;rw [aJ];clear aJ
   go_upto_region 5 with fail
   obtain ⟨Z,hZ⟩:∃ Z,Z=wo.heap.size:=⟨_,rfl⟩;obtain ⟨w3,ah⟩:∃ w3,w3=wo.alloc (.cells #[.string nm,.int .i64 c,.slice po pl.length pc,.slice lo ll.length lc,.int .i64 rk,.int .i64 rc,.slice ko cd.length kc] 70):=⟨_,rfl⟩;have aH:Below wo.heap.size wo w3:=by rw [ah];exact bE
   have aZ:=Zh (show Blk w3 Z #[.string nm,.int .i64 c,.slice po pl.length pc,.slice lo ll.length lc,.int .i64 rk,.int .i64 rc,.slice ko cd.length kc] 70 by rw [ah,hZ];exact Blk.new _ _ _);have aS:=Zh (aa.out.old aH);rw [←ah,←hZ];clear ah aH hZ e0 e1 e2 e3 e4 e5 e6;have z6:=aZ.out.cell 6 (v:=.slice ko cd.length kc) rfl
   go_wp2_with fail
   clear z6
   go_loopw [28] (fun i wr=>∃ p:Nat,p≤cd.length∧i=.int .i64 p∧Hid (SzI w0 wr z MM h m k p)) (fun i _=>cd.length-(intOf i).toNat)
   case atStart=>exact ⟨0,Nat.zero_le _,rfl,aS.out⟩
   case round=>
    obtain ⟨p,hp,rfl,an⟩:=hrel;rename World=>wp;by_cases hpl:p<cd.length
    ·have aM:(p:Int) < cd.length:=by omega
     have bI:IntKind.i64.wrap ((p:Int)+1)=((p+1:Nat):Int):=IntWalk.i64_in _ (by have:=aB.out;omega);obtain ⟨kd,a8,o0,o1,o2⟩:=ZaB (ab.out _ (Hj.out.old an.out.bw)) hpl;have al:=aD.out _ (ZfX (default:In3) hpl);have L:p<(cdM m k).length:=by rw [aA.out];exact hpl
     have V:cd.getD p default=(cdM m k).getD p default:=by rw [aA.out]
     obtain ⟨it,aL⟩:∃ q,q=cd.getD p default:=⟨_,rfl⟩;rw [←aL] at o0 o1 o2 al V;have j:=Zh V;subst a8;obtain ⟨op,ia,G⟩:=it;dsimp only at o0 o1 o2;clear aL V
     go_upto_region 8 with fail
     obtain ⟨I,hI⟩:∃ I,I=wp.heap.size:=⟨_,rfl⟩;obtain ⟨J,ai⟩:∃ J,J=wp.alloc (.cells #[.int .i64 op,.int .i64 ia,.int .i64 G] 72):=⟨_,rfl⟩;have aI:Below wp.heap.size wp J:=by rw [ai];exact bE
     have s:=Zh (show Blk J I #[.int .i64 op,.int .i64 ia,.int .i64 G] 72 by rw [ai,hI];exact Blk.new _ _ _);have HS5:=Zh (an.out.old aI);rw [←ai,←hI];clear ai aI hI o0 o1 o2;have i0:=s.out.cell 0 (v:=.int .i64 op) rfl;have i1:=s.out.cell 1 (v:=.int .i64 ia) rfl;have i2:=s.out.cell 2 (v:=.int .i64 G) rfl;by_cases q14:op=14
     ·subst q14;have aG:=al.a0 (show (14:Int)≠1 by decide);dsimp only at aG;have ap:=Zh (fun w w' (h':SzI w0 w z MM h m k p)=>h'.new (w':=w') L (by rw [←j.out]) (by rw [←j.out];exact aG));rw [←j.out] at ap;dsimp only at ap
      go_upto_region 10 with fail
      clear i0 i1 i2;have s5:=HS5.out.bk.cell 5 (v:=.map (some MM.a)) rfl;have i1:=s.out.cell 1 (v:=.int .i64 ia) rfl;refine rO (Cs [(⟨z,5,none⟩,.map (some MM.a)),(⟨I,1,none⟩,.int .i64 ia)]) (oL [0,1,2,3,4,5,106]) ⟨s5,i1,trivial⟩ ?_
      repeat refine pO ?_
      have K:=Zh (HS5.out.old (Below.refl _ J).drew);refine oO fun Kv hK=>?_;refine Zol Zoc Tryz.underlying150 _ _ _ rfl (M:=MM.a) rfl K.out.ma ia rfl (.bool true) rfl ?_;intro w7 aN ac;refine hK _ _ ⟨⟨(Zrc K.out.bk ac fun e=>ZoO K.out.bk K.out.ma.map (Option.some.inj e).symm).cell 5 rfl,(Zrc s.out.drew ac fun e=>ZoO s.out.drew K.out.ma.map (Option.some.inj e).symm).cell 1 rfl,trivial⟩,Zd7 ?_⟩;have HEnd:=Zh (ap.out J.drew w7 K.out ac aN);clear hK Kv aN ac s5 i1
      go_wp2_with fail
      exact ⟨⟨p+1,hpl,rfl,HEnd.out⟩,by simp [intOf];omega⟩
     have bv:(op == 14)=false:=by simpa using q14
     by_cases q15:op=15
     ·subst q15
      go_upto_region 13 with fail
      clear i0 i1 i2;obtain ⟨T,hT⟩:∃ T,T=J.heap.size:=⟨_,rfl⟩;obtain ⟨F,n⟩:∃ F,F=J.alloc (.cells #[.int .i64 3,.int .i64 0] 38):=⟨_,rfl⟩;have E:Below J.heap.size J F:=by rw [n];exact bE
      have aq:=Zh (show Blk F T #[.int .i64 3,.int .i64 0] 38 by rw [n,hT];exact Blk.new _ _ _);have O:=Zh (HS5.out.old E);have am:=Zh (s.out.old E);rw [←n,←hT];clear n E hT;have U:LnT ⟨3,0⟩:=.inl ⟨rfl,rfl⟩;have D:=Zh (show B3L F.drew z T I h m MM ⟨3,0⟩ ⟨15,ia,G⟩ from ⟨O.out.bk.drew,aq.out.drew,am.out.drew⟩);have A:=Zh (O.out.old (Below.refl _ F).drew);obtain ⟨f,hf,hL⟩:=A.out.ln;have N:=Zh hf;have R:=Zh hL;obtain ⟨ao,cap,u,Y,W⟩:=hL.get U;have HWl:=Zh u;have C:=Zh Y;have HNe:=Zh W;have HZl:=Zh (Zrb HV.out (t:=⟨3,0⟩) hk L);have HFin:=Zh (fun w w1 w2 w3 w4 ao' cap' (hI:SzI w0 w z MM h m k p)=>hI.len (t:=⟨3,0⟩) (f:=f) (w1:=w1) (w2:=w2) (w3:=w3) (w4:=w4) (ao:=ao) (ao':=ao') (cap':=cap') (cap:=cap) L U (by rw [←j.out];exact Zq9 rfl) (by rw [←j.out];show (15:Int)≠14;decide));rw [←j.out] at HFin;dsimp only at HFin;generalize Zqa m ⟨3,0⟩ k p=zs at HWl C HZl HFin;clear hf hL u Y W;refine rO (Cs [(⟨z,4,none⟩,.map (some MM.l)),(⟨T,0,none⟩,.int .i64 3),(⟨T,1,none⟩,.int .i64 0),(⟨I,1,none⟩,.int .i64 ia)]) (oL [0,1,2,3,4,5,6,107,108,9,11,110,112]) D.out.cs ?_
      repeat refine pO ?_
      generalize F.drew=wd at D A N R C ⊢;refine oO fun Kv hK=>?_;go_simp;obtain ⟨b,hb⟩:∃ b,b=wd.heap.size:=⟨_,rfl⟩;obtain ⟨wb,r⟩:∃ wb,wb=wd.alloc (.cells #[.int .i64 ia] 3):=⟨_,rfl⟩;have g:Below wd.heap.size wd wb:=by rw [r];exact bE
      have HBl:=Zh (show Blk wb b #[.int .i64 ia] 3 by rw [r,hb];exact Blk.new _ _ _);rw [←r,←hb];have HIb:=Zh (A.out.old g);have HS4:=Zh (D.out.old g);have HOb:=Zh (C.out.old g);have HFb:=Zh (N.out.old g);have HLb:=Zh (R.out.old g);refine hK _ _ ⟨HS4.out.cs,?_⟩;clear hK Kv r hb g;refine oO fun Kv hK=>?_;refine Zoi Zoe Tryz.underlying173 _ _ rfl (M:=MM.l) (f:=f) rfl HFb.out (Zq1 _) ⟨3,0⟩ rfl ?_;exact j0
     have bw:(op == 15)=false:=by simpa using q15
     by_cases q16:op=16
     ·subst q16
      go_upto_region 16 with fail
      clear i0 i1 i2;obtain ⟨T,hT⟩:∃ T,T=J.heap.size:=⟨_,rfl⟩;obtain ⟨F,n⟩:∃ F,F=J.alloc (.cells #[.int .i64 4,.int .i64 G] 38):=⟨_,rfl⟩;have E:Below J.heap.size J F:=by rw [n];exact bE
      have aq:=Zh (show Blk F T #[.int .i64 4,.int .i64 G] 38 by rw [n,hT];exact Blk.new _ _ _);have O:=Zh (HS5.out.old E);have am:=Zh (s.out.old E);rw [←n,←hT];clear n E hT;have U:LnT ⟨4,G⟩:=.inr rfl;have D:=Zh (show B3L F.drew z T I h m MM ⟨4,G⟩ ⟨16,ia,G⟩ from ⟨O.out.bk.drew,aq.out.drew,am.out.drew⟩);have A:=Zh (O.out.old (Below.refl _ F).drew);obtain ⟨f,hf,hL⟩:=A.out.ln;have N:=Zh hf;have R:=Zh hL;obtain ⟨ao,cap,u,Y,W⟩:=hL.get U;have HWl:=Zh u;have C:=Zh Y;have HNe:=Zh W;have HZl:=Zh (Zrb HV.out (t:=⟨4,G⟩) hk L);have HFin:=Zh (fun w w1 w2 w3 w4 ao' cap' (hI:SzI w0 w z MM h m k p)=>hI.len (t:=⟨4,G⟩) (f:=f) (w1:=w1) (w2:=w2) (w3:=w3) (w4:=w4) (ao:=ao) (ao':=ao') (cap':=cap') (cap:=cap) L U (by rw [←j.out];exact Zra rfl) (by rw [←j.out];show (16:Int)≠14;decide));rw [←j.out] at HFin;dsimp only at HFin;generalize Zqa m ⟨4,G⟩ k p=zs at HWl C HZl HFin;clear hf hL u Y W;refine rO (Cs [(⟨z,4,none⟩,.map (some MM.l)),(⟨T,0,none⟩,.int .i64 4),(⟨T,1,none⟩,.int .i64 G),(⟨I,1,none⟩,.int .i64 ia)]) (oL [0,1,2,3,4,5,6,107,108,9,11,110,112]) D.out.cs ?_
      repeat refine pO ?_
      generalize F.drew=wd at D A N R C ⊢;refine oO fun Kv hK=>?_;go_simp;obtain ⟨b,hb⟩:∃ b,b=wd.heap.size:=⟨_,rfl⟩;obtain ⟨wb,r⟩:∃ wb,wb=wd.alloc (.cells #[.int .i64 ia] 3):=⟨_,rfl⟩;have g:Below wd.heap.size wd wb:=by rw [r];exact bE
      have HBl:=Zh (show Blk wb b #[.int .i64 ia] 3 by rw [r,hb];exact Blk.new _ _ _);rw [←r,←hb];have HIb:=Zh (A.out.old g);have HS4:=Zh (D.out.old g);have HOb:=Zh (C.out.old g);have HFb:=Zh (N.out.old g);have HLb:=Zh (R.out.old g);refine hK _ _ ⟨HS4.out.cs,?_⟩;clear hK Kv r hb g;refine oO fun Kv hK=>?_;refine Zoi Zoe Tryz.underlying173 _ _ rfl (M:=MM.l) (f:=f) rfl HFb.out (Zq1 _) ⟨4,G⟩ rfl ?_;exact j0
     have bx:(op == 16)=false:=by simpa using q16
     have aT:=Zh (HS5.out.skip L (by rw [←j.out];exact ⟨q14,q15,q16⟩))
     go_wp2_with fail
     exact ⟨⟨p+1,hpl,rfl,aT.out⟩,by simp [intOf];omega⟩
    ·have aM:¬ (p:Int) < cd.length:=by omega
     have ba:p=cd.length:=by omega
     subst ba
     go_wp2_with fail
     exact ⟨⟨k+1,hk,rfl,ak.out _ an.out⟩,by simp [intOf];omega⟩
  ·have a6:¬ (k:Int) < m.me.length:=by omega
   have a7:k=m.me.length:=by omega
   subst a7
   go_wp2_with fail
   go_ret;exact ⟨z,MM,rfl,aa.out.fin,aa.out.bw,aC.out.1,aC.out.2⟩
end
section
open Go.RowKit
attribute [local go_sem] World.cell?_alloc_some
theorem Zrf (m:Md) (h:Hd) (t:Ty) (w:World) (H:Zaz w h m) (hv:Za2 m=true):Calls Tryz.prog 88 #[.agg (HM.mk h m),.agg #[.int .i64 t.k,.int .i64 t.c]] w (ZdH w (ZmR m t)):=by
 obtain ⟨f,B⟩:∃ f,f=(w.alloc (.cells (HM.mk h m) 26)).alloc (.cells #[.int .i64 t.k,.int .i64 t.c] 38):=⟨_,rfl⟩;have HB:=Zh (show Below w.heap.size w f by rw [B];exact bE);obtain ⟨X,hX⟩:∃ X,X=w.heap.size:=⟨_,rfl⟩;have HX:=Zh (show Blk f X (HM.mk h m) 26 by rw [B,hX];exact (Blk.new _ _ _).alloc _);have HT:=Zh (show Blk f (X+1) #[.int .i64 t.k,.int .i64 t.c] 38 by rw [B,hX];exact Blk.new' (w:=w.alloc _) _ _ (by simp));have Hj:=Zh (H.old HB.out);have HW:=Zh B;have aE:=Zh hX;have ah:=Zir hv;have U:=Zh (fun k (hk:k<m.me.length) p (hp:p<(cdM m k).length)=>Zrb (t:=t) hv hk hp);have ay:=Zh (fun k (hk:k<m.me.length)=>(ZfQ hv hk).z.2.2);have K:=Zh (fun i j (N:j<(cdM m i).length)=>Zqc (t:=t) N);have W:=Zh (fun i (P:i<m.me.length)=>Zqd (t:=t) P);have aD:=Zh ah;rw [←Zqe m t];have HZ:=Zh (Zqb m t);have y:=Zh (show ∀ i:In3,ZmP t i=decide (t.k=3∧i.op=15∨t.k=4∧i.op=16∧i.b=t.c) from fun i=>rfl);obtain ⟨b,ad⟩:∃ b,b=Zqa m t:=⟨_,rfl⟩;obtain ⟨IL,ac⟩:∃ IL,IL=ZmP t:=⟨_,rfl⟩;rw [←ac] at K y;rw [←ad] at U K W HZ ⊢;obtain ⟨d,tc⟩:=t;dsimp only at HT HW y;clear B H hX ah hv ad ac;go_enter Tryz.func88,Tryz.ntmps88
 go_upto_region 1 with fail
 rw [←HW.out,←aE.out];go_wp2
 go_loopw [5,6] (fun o i wr=>∃ (k:Nat) (G:Option Addr) (c:Nat),k≤m.me.length∧i=.int .i64 k∧o=.slice G (b k 0).length c∧Hid (wr.ownsRow f.heap.size 3 1 (.slice G (b k 0).length c) (b k 0).length ((b k 0).map (Value.int .i64)))∧Hid (Below f.heap.size f wr)) (fun _ i _=>m.me.length-(intOf i).toNat)
 case atStart=>exact ⟨0,none,0,Nat.zero_le _,rfl,by rw [HZ.out];rfl,by rw [HZ.out];exact World.ownsRow_nil _ _ _ _,Below.refl _ _⟩
 case round=>
  obtain ⟨k,G,c,hk,rfl,rfl,HO,D⟩:=hrel;rename World=>wo;have x2:=(HX.out.old D.out).cell 2 (v:=.slice h.eo m.me.length h.ec) rfl;by_cases hkl:k<m.me.length
  ·have aR:(k:Int) < m.me.length:=by omega
   have a4:IntKind.i64.wrap ((k:Int)+1)=((k+1:Nat):Int):=IntWalk.i64_in _ (by have:=aD.out;omega);obtain ⟨ea,ae,-,-,-,-,-,-,e6⟩:=(Hj.out.old D.out).mth hkl;rw [ae] at x2;obtain ⟨C,L⟩:∃ C,C=cdM m k:=⟨_,rfl⟩;rw [show (m.me.getD k default).k=C from L.symm] at e6;have J:=Zh (show ∀ w',Below f.heap.size f w'→Zas w' (h.e k).ko (h.e k).kc C from fun w' hb=>by rw [L];exact (Hj.out.old hb).k k hkl);have az:=Zh (show ∀ p,p<C.length→(b k p).length≤1000000 from fun p hp=>U.out k hkl p (by rw [←L];exact hp));have aC:=Zh (show ∀ j,j<C.length→b k (j+1)=b k j++if IL (C.getD j default)=true then [(C.getD j default).a] else [] from fun j N=>by rw [L] at N ⊢;exact K.out k j N);have V:=Zh (show b (k+1) 0=b k C.length by rw [L];exact W.out k hkl);have a0:C.length≤120:=by rw [L];exact ay.out k hkl
   clear ae L;generalize (h.e k).ko=ko at e6 J;generalize (h.e k).kc=kc at e6 J;go_wp2;clear x2 e6
   go_loopw [5,8] (fun o i wr=>∃ (j:Nat) (G:Option Addr) (c:Nat),j≤C.length∧i=.int .i64 j∧o=.slice G (b k j).length c∧Hid (wr.ownsRow f.heap.size 3 1 (.slice G (b k j).length c) (b k j).length ((b k j).map (Value.int .i64)))∧Hid (Below f.heap.size f wr)) (fun _ i _=>C.length-(intOf i).toNat)
   case atStart=>exact ⟨0,G,c,Nat.zero_le _,rfl,rfl,HO.out,D.out⟩
   case round=>
    obtain ⟨j,bo,Z,N,rfl,rfl,E,s⟩:=hrel;rename World=>wj;by_cases hjl:j<C.length
    ·have aQ:(j:Int) < C.length:=by omega
     have a3:IntKind.i64.wrap ((j:Int)+1)=((j+1:Nat):Int):=IntWalk.i64_in _ (by omega);obtain ⟨ca,ag,o0,o1,o2⟩:=ZaB (J.out _ s.out) hjl;have aJ:=az.out j hjl;have n:=aC.out j hjl;have l:=y.out (C.getD j default);obtain ⟨t0,t1⟩:=Zj9 (HT.out.old s.out);obtain ⟨i,P⟩:∃ i,i=C.getD j default:=⟨_,rfl⟩;rw [←P] at o0 o1 o2 n l;obtain ⟨q,ia,Q⟩:=i;dsimp only at o0 o1 o2 l;have aW:=Zh P;obtain ⟨r,O⟩:∃ r,r=b k j:=⟨_,rfl⟩;rw [←O] at E aJ n ⊢;have R:=Zh ag;subst ag;by_cases hq:IL ⟨q,ia,Q⟩=true
     ·have Y:=Zh (show b k (j+1)=r++[ia] by rw [n,if_pos hq]);have g:(d=3∧q=15)∨(d=4∧q=16∧Q=tc):=by rw [hq] at l;have:=of_decide_eq_true l.symm;omega
      clear n l hq P O;rcases g with ⟨rfl,rfl⟩|⟨rfl,rfl,rfl⟩
      all_goals
       clear y R;go_wp2
       go_quiet (fail)
       have x:=Zh (ZcQ s.out nq);have F:=Zh (show (wj.drewN nq).ownsRow f.heap.size 3 1 (.slice bo r.length Z) r.length (r.map (Value.int .i64)) from E.out);have q1:(wj.drewN nq).cell? ⟨(ca.add (j*3)).block,(ca.add (j*3)).off+1,none⟩=some (.int .i64 ia):=o1;clear o0 o1 o2 t0 t1;generalize wj.drewN nq=wq at x F q1 ⊢;have z:=F.out
       go_wp2_with (at_builtin;refine Zak rfl (.tmp 62) (.tmp 68) 27 rfl f.heap.size 3 1 8 Zcm (.slice bo r.length Z) r.length (r.map (Value.int .i64)) rfl (z.alloc _) _ 1 1 [.int .i64 ia] rfl (ZdN (Blk.new' #[.int .i64 ia] 3 (by simp)) rfl) (by intro u hu;rw [List.mem_singleton.1 hu];rfl) (by omega) (by unfold maxLen;omega) (by have:=x.out.size;simp;omega) ?_;intro aG ab a5 A af;have aB:=Zh A;have ax:=Zh (ZcR (bal x.out _) af (fun j N=>(z.lt j N).1));clear A af q1)
       clear z;go_roundw
       case rel=>
        have h9:=aB.out;refine ⟨j+1,aG,ab,by omega,by go_num,by rw [Y.out,List.length_append];rfl,(show World.ownsRow _ _ _ _ _ _ _ from ?_),ax.out⟩;rw [Y.out,List.length_append,List.map_append];exact h9
       case measure=>simp [intOf];omega
     ·have Y:=Zh (show b k (j+1)=r by rw [n,if_neg hq,List.append_nil]);have g:(d=3∧¬ q=15)∨(d=4∧¬ q=16)∨(d=4∧q=16∧¬ Q=tc)∨(¬ d=3∧¬ d=4):=by have:¬ (d=3∧q=15∨d=4∧q=16∧Q=tc):=fun e=>hq (by rw [l];exact decide_eq_true e);omega
      clear n l hq P O;have hb:(d=3∧(q == 15)=false∧¬ q=15)∨(d=4∧(q == 16)=false∧¬ q=16)∨(d=4∧q=16∧(Q == tc)=false∧¬ Q=tc)∨(((d == 3)=false∧(d == 4)=false)∧¬ d=3∧¬ d=4):=by simp only [beq_eq_false_iff_ne,ne_eq];omega
      clear g;rcases hb with ⟨rfl,b1,n1⟩|⟨rfl,b1,n1⟩|⟨rfl,rfl,b1,n1⟩|⟨⟨b1,b2⟩,n1,n2⟩
      all_goals
       clear y R;go_wp2
       go_quiet (fail)
       have x:=Zh (ZcQ s.out nq);have F:=Zh (show (wj.drewN nq).ownsRow f.heap.size 3 1 (.slice bo r.length Z) r.length (r.map (Value.int .i64)) from E.out);clear o0 o1 o2 t0 t1;go_wp2;go_roundw
       case rel=>exact ⟨j+1,bo,Z,by omega,by go_num,by rw [Y.out],(by rw [Y.out];exact F.out),x.out⟩
       case measure=>simp [intOf];omega
    ·obtain rfl:j=C.length:=by omega
     go_wp2;go_roundw
     case rel=>exact ⟨k+1,bo,Z,by omega,by go_num,by rw [V.out],(by rw [V.out];exact E.out),s.out⟩
     case measure=>simp [intOf];omega
  ·obtain rfl:k=m.me.length:=by omega
   have a1:¬ (m.me.length:Int) < m.me.length:=by omega
   go_wp2;go_ret;refine ⟨⟨G,c,rfl,Zas.of_own (by rw [Zau];exact HO.out),fun a ha=>?_⟩,Zag HB.out D.out⟩;subst ha;have h1:=(HO.out.lt a.block rfl).1;have h2:=HB.out.size;omega
end
section
open Go.RowKit
instance:Cells T3:=⟨3,by decide,fun t=>[.int .i64 t.1,.int .i64 t.2.1,.int .i64 t.2.2],fun _=>rfl,by
 intro x u hu;simp only [List.mem_cons,List.not_mem_nil,or_false] at hu;rcases hu with rfl|rfl|rfl<;>rfl⟩
theorem Zrg {α:Type} [Cells α] {w w':World}{S:List Nat}{ao:Option Addr}{cap:Nat}{l:List α} (h:Zas w ao cap l) (g:UpL S w w') (f:∀ a,ao=some a→a.block ∉ S):Zas w' ao cap l:=by
 refine ⟨h.1,h.2.1,fun j u e=>?_⟩;obtain ⟨a,b,c⟩:=h.2.2 j u e;refine ⟨a,b,(World.cell?_of_block (w:=w) (g.block _ (Zad c) ?_)).trans c⟩;have d:(a.add j).block=a.block:=by unfold Addr.add;split<;>rfl
 rw [d];exact f a b
end
section
open Go.RowKit
attribute [local go_sem] World.cell?_alloc_some
end
