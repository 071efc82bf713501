import Derived.Test.YtfmcclhfnpcokaaGreatG9
set_option linter.all false
set_option maxRecDepth 100000
set_option maxHeartbeats 20000000
namespace Go.Proofs.YtfmcclhfnpcokaaGreat
theorem k1{p:Prop}(h:p:=by
 obtain ⟨nn,rfl⟩:∃ nn:Nat,n=nn:=⟨n.toNat,by omega⟩;have hnn:nn<m.me.length:=by omega
 have hnn2:(nn:Int) < m.me.length:=by omega
 have hn6:((nn:Int) == -1)=false:=by first|(simp;done)|(simp;omega)
 have hn7:(nn:Int) ≥ 0:=by omega
 have hmi:=Hj.out.old HWi.out;obtain ⟨am,heo,-,m1,-,-,-,-,-⟩:=hmi.mth hnn;have hown:m.own nn=(m.me.getD nn default).c:=rfl;generalize (m.me.getD nn default).c=own at m1 hown;dsimp only at heo;have HOw:=Zh hown;clear hown;rw [heo] at r2;have hent:ZaJ m k s nn=(decide (0≤own)&&decide (own≤k)&&ZaI m (k+1) k own&&decide (m.ent own s=nn)):=by rw [←HOw.out];rfl
 have HEnt:=Zh hent;have HEo:=Zh heo;clear hent heo;by_cases ho1:own<0
 ·as_aux_lemma=>
  go_upto_region 17 with fail
  refine rO (fun w'=>w'.cell? ⟨B,0,none⟩=some (.slice (some ad) m.cl.length cc)∧w'.cell? ⟨B,1,none⟩=some (.slice so m.st.length sc)∧w'.cell? ⟨B,2,none⟩=some (.slice (some am) m.me.length ec)∧w'.cell? ⟨B,3,none⟩=some (.int .i64 m.sel)∧w'.cell? ⟨(am.add (nn*7)).block,(am.add (nn*7)).off+1,none⟩=some (.int .i64 own)) (oL [0,1,2,3,4,5,6,7,8,9,10,11,12,13,14,15,16,17,18,19,20,21,22,23,24,25,26,27,28,29,30,31,32,33,34,35,36,37,38,39,40,41,42,43,44,45,46,47,48,49,50,51,52]) ⟨r0,r1,r2,r3,m1⟩ ?_
  repeat refine pO ?_
  refine Zd7 ?_;go_wp2;go_ret;exact HNo.out _ (by rw [HSel.out,HEnt.out,decide_eq_false (show ¬ 0≤own by omega)];first|(simp;done)|(simp;intros;omega)) HWi.out.drew
 by_cases ho2:own ≥ m.cl.length
 ·as_aux_lemma=>
  go_upto_region 17 with fail
  refine rO (fun w'=>w'.cell? ⟨B,0,none⟩=some (.slice (some ad) m.cl.length cc)∧w'.cell? ⟨B,1,none⟩=some (.slice so m.st.length sc)∧w'.cell? ⟨B,2,none⟩=some (.slice (some am) m.me.length ec)∧w'.cell? ⟨B,3,none⟩=some (.int .i64 m.sel)∧w'.cell? ⟨(am.add (nn*7)).block,(am.add (nn*7)).off+1,none⟩=some (.int .i64 own)) (oL [0,1,2,3,4,5,6,7,8,9,10,11,12,13,14,15,16,17,18,19,20,21,22,23,24,25,26,27,28,29,30,31,32,33,34,35,36,37,38,39,40,41,42,43,44,45,46,47,48,49,50,51,52]) ⟨r0,r1,r2,r3,m1⟩ ?_
  repeat refine pO ?_
  refine Zd7 ?_;go_wp2;go_ret;exact HNo.out _ (by rw [HSel.out,HEnt.out,decide_eq_false (show ¬ own≤k by omega)];first|(simp;done)|(simp;intros;omega)) HWi.out.drew
 obtain ⟨o,rfl⟩:∃ o:Nat,own=o:=⟨own.toNat,by omega⟩;have ho3:o<m.cl.length:=by omega
 have ho4:(o:Int) < m.cl.length:=by omega
 have hcall:=fun w' hb=>Ze5 m ⟨some ad,cc,so,sc,eo,ec,hc,he⟩ k o w' (Hj.out.old hb) hk2 (by rw [Int.toNat_natCast];exact HD.out);rw [Zc1 HD.out (show (0:Int)≤o by omega) (k+1) k (m.cl.length+1) (k+1) (by omega) (Nat.le_refl _) (fun _=>⟨by omega,by omega⟩)] at hcall;dsimp only at hcall;rw [HEo.out] at hcall;by_cases ho5:o≤k
 ·as_aux_lemma=>
  generalize hqv:ZaI m (k+1) k o=q at hcall;have HCall:=Zh hcall;have HQv:=Zh hqv;clear hcall hqv;obtain ⟨ad5,hco5,-,-,-,k3⟩:=hmi.cls ho3;have hlo:=HL.out o ho5;obtain ⟨ad4,hmo,t1⟩:=ZaC (hmi.t o ho3) (i:=s) (by omega);have hsu:(s:Int) < (m.cl.getD o default).m.length:=by omega
  dsimp only at hmo k3 hco5;obtain rfl:=Option.some.inj hco5;have henv:m.ent o s=(m.cl.getD o default).m.getD s 0:=rfl;generalize (m.cl.getD o default).m.getD s 0=e at t1 henv;generalize (m.cl.getD o default).m.length=ul at k3 hsu hlo;rw [hmo] at k3;have HEv:=Zh henv;clear hmo hco5 hlo henv hmi
  go_upto_region 17 with fail
  refine rO (fun w'=>w'.cell? ⟨B,0,none⟩=some (.slice (some ad) m.cl.length cc)∧w'.cell? ⟨B,1,none⟩=some (.slice so m.st.length sc)∧w'.cell? ⟨B,2,none⟩=some (.slice (some am) m.me.length ec)∧w'.cell? ⟨B,3,none⟩=some (.int .i64 m.sel)∧w'.cell? ⟨(am.add (nn*7)).block,(am.add (nn*7)).off+1,none⟩=some (.int .i64 o)∧w'.cell? ⟨(ad.add (o*4)).block,(ad.add (o*4)).off+3,none⟩=some (.slice (some ad4) ul (hc o).mc)∧w'.cell? (ad4.add s)=some (.int .i64 e)) (oL [0,1,2,3,4,5,6,7,8,9,10,11,12,13,14,15,16,17,18,19,20,21,22,23,24,25,26,27,28,29,30,131,32,33,34,35,36,37,38,39,40,41,42,43,44,45,46,47,48,49,50,51,52]) ⟨r0,r1,r2,r3,m1,k3,t1⟩ ?_
  repeat refine pO ?_
  refine oO fun K hK=>?_;go_simp;refine (HCall.out _ HWi.out.drew).mono ?_;rintro e3 w3 ⟨rfl,hb3'⟩;have hb3:Below wr.heap.size wr w3:=Zag (Below.refl _ _).drew hb3';go_simp;refine hK _ _ ⟨⟨ZeX hb3 r0,ZeX hb3 r1,ZeX hb3 r2,ZeX hb3 r3,ZeX hb3 m1,ZeX hb3 k3,ZeX hb3 t1⟩,?_⟩;clear hK K;have HW3:=Zh (Zag HWi.out hb3);have HBl3:=Zh (Zag HBl.out hb3);clear hb3 hb3' r0 r1 r2 r3 rl m1 k3 t1 x1 x2 x3 t0;rcases q with _|_
  ·repeat refine pO ?_
   refine Zd7 ?_;go_wp2;go_ret;exact HNo.out _ (by rw [HSel.out,HEnt.out,HQv.out];first|(simp;done)|(simp;intros;omega)) HW3.out
  by_cases hev:¬ e=nn
  ·have hev2:(e != (nn:Int))=true:=by simpa using hev
   repeat refine pO ?_
   refine Zd7 ?_;go_wp2;go_ret;exact HNo.out _ (by rw [HSel.out,HEnt.out,HEv.out,decide_eq_false hev];first|(simp;done)|(simp;intros;omega)) HW3.out
  have hev3:e=nn:=by omega
  have hev2:(e != (nn:Int))=false:=by simpa using hev
  have hsok:ZaK m k s=true:=by rw [HSel.out,HEnt.out,HEv.out,HQv.out,decide_eq_true hev3];first|(simp;done)|(simp;omega)
  have hrel2:∀ i,i<s+1→ZaK m k i=true:=fun i hi=>by
   by_cases his:i<s
   ·exact q2.out i his
   ·obtain rfl:i=s:=by omega
    exact hsok
  have HR:=Zh hrel2;clear hrel2 hsok;clear hev3
  repeat refine pO ?_
  refine Zd7 ?_;go_wp2;go_roundw
  case rel=>exact ⟨s+1,by omega,by go_num,Zh HBl3.out,Zh HR.out⟩
  case measure=>simp [intOf];omega
 ·as_aux_lemma=>
  rw [Zc0 (show (k:Int) < o by omega)] at hcall;have HCall:=Zh hcall;clear hcall hmi
  go_upto_region 17 with fail
  refine rO (fun w'=>w'.cell? ⟨B,0,none⟩=some (.slice (some ad) m.cl.length cc)∧w'.cell? ⟨B,1,none⟩=some (.slice so m.st.length sc)∧w'.cell? ⟨B,2,none⟩=some (.slice (some am) m.me.length ec)∧w'.cell? ⟨B,3,none⟩=some (.int .i64 m.sel)∧w'.cell? ⟨(am.add (nn*7)).block,(am.add (nn*7)).off+1,none⟩=some (.int .i64 o)) (oL [0,1,2,3,4,5,6,7,8,9,10,11,12,13,14,15,16,17,18,19,20,21,22,23,24,25,26,27,28,29,30,131,32,33,34,35,36,37,38,39,40,41,42,43,44,45,46,47,48,49,50,51,52]) ⟨r0,r1,r2,r3,m1⟩ ?_
  repeat refine pO ?_
  refine oO fun K hK=>?_;go_simp;refine (HCall.out _ HWi.out.drew).mono ?_;rintro e3 w3 ⟨rfl,hb3'⟩;have hb3:Below wr.heap.size wr w3:=Zag (Below.refl _ _).drew hb3';go_simp;refine hK _ _ ⟨⟨ZeX hb3 r0,ZeX hb3 r1,ZeX hb3 r2,ZeX hb3 r3,ZeX hb3 m1⟩,?_⟩;clear hK K
  repeat refine pO ?_
  refine Zd7 ?_;go_wp2;go_ret;exact HNo.out _ (by rw [HSel.out,HEnt.out,decide_eq_false (show ¬ (o:Int)≤k by omega)];first|(simp;done)|(simp;intros;omega)) (Zag HWi.out hb3)):p:=h
theorem k18{p:Prop}(h:p:=by
 have hrel2:∀ i,i<s+1→ZaK m k i=true:=fun i hi=>by
  by_cases his:i<s
  ·exact q2.out i his
  ·obtain rfl:i=s:=by omega
   exact hsok
 have HR:=Zh hrel2;clear hrel2 hsok
 go_upto_region 17 with fail
 refine rO (fun w'=>w'.cell? ⟨B,0,none⟩=some (.slice (some ad) m.cl.length cc)∧w'.cell? ⟨B,1,none⟩=some (.slice so m.st.length sc)∧w'.cell? ⟨B,2,none⟩=some (.slice eo m.me.length ec)∧w'.cell? ⟨B,3,none⟩=some (.int .i64 m.sel)) (oL [0,1,2,3,4,5,6,7,8,9,10,11,12,13,14,15,16,17,18,19,20,21,22,23,24,25,26,27,28,29,30,31,32,33,34,35,36,37,38,39,40,41,42,43,44,45,46,47,48,49,50,51,52]) ⟨r0,r1,r2,r3⟩ ?_
 repeat refine pO ?_
 refine Zd7 ?_;go_wp2;go_roundw
 case rel=>exact ⟨s+1,by omega,by go_num,Zh HBl.out.drew,Zh HR.out⟩
 case measure=>simp [intOf];omega):p:=h
theorem k30{p:Prop}(h:p:=by
 have hss:s=tl.length:=by omega
 subst hss;have hx2:¬ (tl.length:Int) < m.sel:=by have:=HT.out;omega
 have hall:ZaL m k=true:=by rw [HCq.out];exact ZaE q2.out
 have hrel2:∀ i,i<k+1→ZaL m i=true:=fun i hi=>by
  by_cases hik:i<k
  ·exact q1.out i hik
  ·obtain rfl:i=k:=by omega
   exact hall
 have HR:=Zh hrel2;clear hrel2 hall;go_wp2;go_roundw
 case rel=>exact ⟨k+1,by omega,by go_num,HWi.out,Zh HR.out⟩
 case measure=>simp [intOf];omega):p:=h
theorem k72{p:Prop}(h:p:=by
 go_wp2;go_ret;exact HNo.out _ (by rw [HSel.out,decide_eq_false (show ¬ n<m.me.length by omega)];first|(simp;done)|(simp;intros;omega)) HWi.out):p:=h
theorem k92{p:Prop}(h:p:=by
 go_wp2;go_ret;exact HNo.out _ (by rw [HSel.out,decide_eq_false (show ¬ -1≤n by omega)];rfl) HWi.out):p:=h
section
open Go.RowKit
attribute [local go_sem] World.cell?_alloc_some
theorem Zik (m:Md) (h:Hd) (w:World) (H:Zaz w h m) (bf:m.cl.length≤10∧m.me.length≤16∧0≤m.sel∧m.sel≤16):Calls Tryz.prog 115 #[.agg (HM.mk h m)] w (Ret w (.bool ((List.range m.cl.length).all (ZaL m)))):=by
 have hX:=Blk.new w (HM.mk h m) 26;have ao:Below w.heap.size w (w.alloc (.cells (HM.mk h m) 26)):=by exact bE
 have HX:=Zh hX;have Hj:=Zh (H.old ao);have X:=Zh ao;have au:w.heap.size<(w.alloc (.cells (HM.mk h m) 26)).heap.size:=hX.lt;obtain ⟨qa,aq⟩:∃ q,q=(List.range m.cl.length).all (ZaL m):=⟨_,rfl⟩;rw [←aq];have ay:=Zh aq;clear hX H ao aq;obtain ⟨co,cc,so,sc,eo,ec,hc,he⟩:=h;dsimp only at HX Hj X au ⊢;go_enter Tryz.func115,Tryz.ntmps115
 go_upto_region 1 with fail
 generalize w.alloc _=w0 at HX Hj X au ⊢;generalize w.heap.size=B at HX au ⊢
 go_wp2_with fail
 go_loopw [3] (fun i wr=>∃ k:Nat,k≤m.cl.length∧i=.int .i64 k∧Below w0.heap.size w0 wr∧Hid (∀ i,i<k→ZaL m i=true)) (fun i _=>m.cl.length-(intOf i).toNat)
 case atStart=>exact ⟨0,by omega,rfl,Below.refl _ _,Zh (by omega)⟩
 case round=>
  obtain ⟨k,bd,rfl,J,q1⟩:=hrel;have D:=Zh J;have r0:wr.cell? ⟨B,0,none⟩=some (.slice co m.cl.length cc):=(HX.out.old J).cell 0 rfl;have r1:wr.cell? ⟨B,1,none⟩=some (.slice so m.st.length sc):=(HX.out.old J).cell 1 rfl;have r2:wr.cell? ⟨B,2,none⟩=some (.slice eo m.me.length ec):=(HX.out.old J).cell 2 rfl;have r3:wr.cell? ⟨B,3,none⟩=some (.int .i64 m.sel):=(HX.out.old J).cell 3 rfl;have rl:B<wr.heap.size:=by have:=J.size;omega
  clear J;by_cases hk:k<m.cl.length
  ·have N:∀ w':World,ZaL m k=false→Below w0.heap.size w0 w'→Ret w (.bool qa) (.returned (.bool false)) w':=fun w' hf hb=>ZcP (ZcT (by rw [ay.out,ZaD hk hf])) (Zag X.out hb);have Y:=Zh N;clear N;have E:=Hj.out.old D.out;obtain ⟨ad,aG,c0,c1,c2,c3⟩:=E.cls hk;have R:=E.f k hk;have L:=E.t k hk;have M:=E.bf k hk;generalize hx:m.cl.getD k default=x at c0 c1 c2 c3 R L M;obtain ⟨nm,y,z,tl⟩:=x;have hq:ZaL m k=(decide (-1≤y)&&decide (y<k)&&decide (z.length≤7)&&ZaH m.cl.length z&&decide ((tl.length:Int)=m.sel)&&(List.range tl.length).all (ZaK m k)&&(decide (y<0)||decide ((m.cl.getD y.toNat default).f.length≤z.length)&&decide ((m.cl.getD y.toNat default).f=z.take (m.cl.getD y.toNat default).f.length))):=by simp only [ZaL,Md.sup,hx,Int.toNat_natCast]
   have ai:m.sup k=y:=by simp only [Md.sup,hx,Int.toNat_natCast]
   dsimp only at c2 c3 R L M;generalize hch:hc k=ch at c2 c3 R L M;obtain ⟨fo,U,mo,mc⟩:=ch;dsimp only at c0 c1 c2 c3 R L M aG;subst aG;have Z:=Zh hq;have HC:=Zh hx;have HS:=Zh ai;have ak:=Zh R;have aA:=Zh L;clear hq hx ai R L hch E;have hk2:(k:Int) < m.cl.length:=by omega
   have bi:IntKind.i64.wrap ((k:Int)+1)=k+1:=IntWalk.i64_in _ (by omega);by_cases hs1:y < -1
   ·go_wp2;go_ret;exact Y.out _ (by rw [Z.out,decide_eq_false (show ¬ -1≤y by omega)];rfl) (bal D.out _)
   by_cases hs2:y ≥ k
   ·go_wp2;go_ret;exact Y.out _ (by rw [Z.out,decide_eq_false (show ¬ y<k by omega)];simp) (bal D.out _)
   by_cases h7:(z.length:Int) > 7
   ·go_wp2;go_ret;exact Y.out _ (by rw [Z.out,decide_eq_false (show ¬ z.length≤7 by omega)];simp) (bal D.out _)
   have hW:Below wr.heap.size wr (wr.alloc (.cells #[.string nm,.int .i64 y,.slice fo z.length U,.slice mo tl.length mc] 44)):=by exact bE
   have hY:=Blk.new wr #[.string nm,.int .i64 y,.slice fo z.length U,.slice mo tl.length mc] 44;have ar:=Ze1 m ⟨some ad,cc,so,sc,eo,ec,hc,he⟩ z fo U _ (ak.out.old hW) (by omega);generalize hq5:ZaH m.cl.length z=q5 at ar;have aB:=Zh ar;have an:=Zh hq5;have HY:=Zh hY;have HW:=Zh (Zag D.out hW);clear ar hq5 hY hW
   go_wp2_with fail
   refine aB.out.mono ?_;rintro e1 w1 ⟨rfl,ab⟩;clear c0 c1 c2 c3 r0 r1 r2 r3 rl;generalize hC:wr.heap.size=C at HY ⊢;have aV:C<(wr.alloc (.cells #[.string nm,.int .i64 y,.slice fo z.length U,.slice mo tl.length mc] 44)).heap.size:=HY.out.lt;have bc:B<C:=by have:=D.out.size;omega
   have O:=Zh (HY.out.old ab);have G:=Zh (Zag HW.out ab);have T:=Zh (show Below wr.heap.size wr w1 from Zag (show Below wr.heap.size wr (wr.alloc (.cells #[.string nm,.int .i64 y,.slice fo z.length U,.slice mo tl.length mc] 44)) by exact bE) ab);have a3:C<w1.heap.size:=O.out.lt;clear ab hC aV HY HW aB D;rcases q5 with _|_
   ·go_wp2;go_ret;exact Y.out _ (by rw [Z.out,an.out];simp) G.out
   have f:=HX.out.old G.out;have r0:w1.cell? ⟨B,0,none⟩=some (.slice (some ad) m.cl.length cc):=f.cell 0 rfl;have r1:w1.cell? ⟨B,1,none⟩=some (.slice so m.st.length sc):=f.cell 1 rfl;have r2:w1.cell? ⟨B,2,none⟩=some (.slice eo m.me.length ec):=f.cell 2 rfl;have r3:w1.cell? ⟨B,3,none⟩=some (.int .i64 m.sel):=f.cell 3 rfl;have rl:=f.lt;have x1:w1.cell? ⟨C,1,none⟩=some (.int .i64 y):=O.out.cell 1 rfl;have x2:w1.cell? ⟨C,2,none⟩=some (.slice fo z.length U):=O.out.cell 2 rfl;have x3:w1.cell? ⟨C,3,none⟩=some (.slice mo tl.length mc):=O.out.cell 3 rfl;clear f;by_cases hts:¬ (tl.length:Int)=m.sel
   ·have aL:((tl.length:Int) != m.sel)=true:=by simpa using hts
    go_wp2;go_ret;exact Y.out _ (by rw [Z.out,decide_eq_false hts];simp) G.out
   have aL:((tl.length:Int) != m.sel)=false:=by simpa using hts
   have aj:(tl.length:Int)=m.sel:=by omega
   have HT:=Zh aj;have L:tl.length≤16:=by omega
   clear hts aj;have V:ZcZ m (k+1):=fun i h0 h1=>by
    by_cases hik:i<k
    ·exact (Zc4 (fun j hj=>q1.out j hj):ZcZ m k) i h0 hik
    ·obtain rfl:i=k:=by omega
     rw [HS.out];omega
   have HD:=Zh V;have hlen:∀ j,j≤k→((m.cl.getD j default).m.length:Int)=m.sel:=fun j hj=>by
    by_cases hjk:j<k
    ·exact Zhc (q1.out j hjk)
    ·obtain rfl:j=k:=by omega
     rw [HC.out];exact HT.out
   have HL:=Zh hlen;clear V hlen;by_cases hsn:y<0
   ·obtain rfl:y=-1:=by omega
    have A:ZaL m k=(List.range tl.length).all (ZaK m k):=by
     rw [Z.out,an.out,decide_eq_true HT.out,decide_eq_true (show z.length≤7 by omega)];simp
     intros
     omega
    have HCq:=Zh A;clear A
    go_wp2_with fail
    go_loopw [6] (fun i wi=>∃ s:Nat,s≤tl.length∧i=.int .i64 s∧Hid (Below w1.heap.size w1 wi)∧Hid (∀ i,i<s→ZaK m k i=true)) (fun i _=>tl.length-(intOf i).toNat)
    case atStart=>exact ⟨0,by omega,rfl,Zh (Below.refl _ _),Zh (by omega)⟩
    case round=>
     obtain ⟨s,hs,rfl,HBl,q2⟩:=hrel;clear r0 r1 r2 r3 rl x1 x2 x3;have HWi:=Zh (Zag G.out HBl.out);have I:=Zh (O.out.old HBl.out);have f:=HX.out.old HWi.out;have r0:wr.cell? ⟨B,0,none⟩=some (.slice (some ad) m.cl.length cc):=f.cell 0 rfl;have r1:wr.cell? ⟨B,1,none⟩=some (.slice so m.st.length sc):=f.cell 1 rfl;have r2:wr.cell? ⟨B,2,none⟩=some (.slice eo m.me.length ec):=f.cell 2 rfl;have r3:wr.cell? ⟨B,3,none⟩=some (.int .i64 m.sel):=f.cell 3 rfl;have rl:=f.lt;have x1:wr.cell? ⟨C,1,none⟩=some (.int .i64 (-1)):=I.out.cell 1 rfl;have x2:wr.cell? ⟨C,2,none⟩=some (.slice fo z.length U):=I.out.cell 2 rfl;have x3:wr.cell? ⟨C,3,none⟩=some (.slice mo tl.length mc):=I.out.cell 3 rfl;clear f;by_cases hst:s<tl.length
     ·have aK:(s:Int) < m.sel:=by have:=HT.out;omega
      have aJ:(s:Int) < tl.length:=by omega
      have aY:IntKind.i64.wrap ((s:Int)+1)=s+1:=IntWalk.i64_in _ (by omega);obtain ⟨aS,rfl,t0⟩:=ZaC ((aA.out.old T.out).old (show Below w1.heap.size w1 wr from HBl.out)) hst;generalize hn:tl.getD s 0=n at t0;have F:ZaK m k s=(decide (-1≤n)&&decide (n<m.me.length)&&(decide (n<0)||ZaJ m k s n)&&!(decide (0≤((-1):Int))&&decide (n<0)&&decide (0≤m.ent (-1) s))):=by simp only [ZaK,Md.ent,Int.toNat_natCast,HC.out,hn,HS.out];rfl
      have HSel:=Zh F;clear hn F;have W:∀ w':World,ZaK m k s=false→Below w0.heap.size w0 w'→Ret w (.bool qa) (.returned (.bool false)) w':=fun w' hf hb=>Y.out w' (by rw [HCq.out,ZaD hst hf]) hb;have HNo:=Zh W;clear W;by_cases hn1:n < -1
      ·exact k92
      by_cases hn2:n ≥ m.me.length
      ·exact k72
      by_cases hn5:0≤n
      ·exact k1
      ·as_aux_lemma=>
       obtain rfl:n=-1:=by omega
       have hsok:ZaK m k s=true:=by rw [HSel.out];first|(simp;done)|(simp;omega)
       exact k18
     ·exact k30
   ·obtain ⟨u,rfl⟩:∃ u:Nat,y=u:=⟨y.toNat,by omega⟩;have hu:u<m.cl.length:=by omega
    have bh:(u:Int) < m.cl.length:=by omega
    have ap:=Hj.out.old G.out;obtain ⟨ba,ag,-,-,k2,-⟩:=ap.cls hu;have af:=ap.f u hu;generalize hgf:(m.cl.getD u default).f=uf at k2 af;have al:=Zh hgf;obtain rfl:=Option.some.inj ag;dsimp only at k2 af;have aR:=Zh af;clear hgf af ag ap;by_cases hle:(uf.length:Int) > z.length
    ·go_wp2;go_ret;exact Y.out _ (by rw [Z.out,Int.toNat_natCast,al.out,decide_eq_false (show ¬ uf.length≤z.length by omega)];simp) G.out
    have ah:uf.length≤z.length:=by omega
    have a6:uf.length≤U:=by omega
    have a7:(uf.length:Int)≤U:=by omega
    have a8:decide (z.length<uf.length)=false:=by simp;omega
    have aI:(z.take uf.length).length=uf.length:=by simp;omega
    have ae:=Ze4 uf (z.take uf.length) (hc u).fo fo (hc u).fc U w1 aR.out ((ak.out.old (show Below wr.heap.size wr w1 from T.out)).take _ ah _ (fun h0=>((ak.out.2.1 h0).2))) (by omega);rw [aI] at ae;generalize hqe:decide (uf=z.take uf.length)=qe at ae;have aQ:=Zh ae;have az:=Zh hqe;clear ae aI hqe
    go_wp2_with fail
    refine aQ.out.mono ?_;rintro e2 w2 ⟨rfl,ac⟩;have aC:=Zh (Zag G.out ac);have aD:=Zh (O.out.old ac);have ax:=Zh ac;have a4:C<w2.heap.size:=aD.out.lt;clear ac k2 r0 r1 r2 r3 rl x1 x2 x3;rcases qe with _|_
    ·go_wp2;go_ret;exact Y.out _ (by rw [Z.out,Int.toNat_natCast,al.out,az.out];simp) aC.out
    have A:ZaL m k=(List.range tl.length).all (ZaK m k):=by
     rw [Z.out,Int.toNat_natCast,al.out,az.out,an.out,decide_eq_true HT.out,decide_eq_true (show z.length≤7 by omega),decide_eq_true ah];simp
     intros
     omega
    have HCq:=Zh A;clear A
    go_wp2_with fail
    go_loopw [6] (fun i wi=>∃ s:Nat,s≤tl.length∧i=.int .i64 s∧Hid (Below w2.heap.size w2 wi)∧Hid (∀ i,i<s→ZaK m k i=true)) (fun i _=>tl.length-(intOf i).toNat)
    case atStart=>exact ⟨0,by omega,rfl,Zh (Below.refl _ _),Zh (by omega)⟩
    case round=>
     obtain ⟨s,hs,rfl,HBl,q2⟩:=hrel;have HWi:=Zh (Zag aC.out HBl.out);have I:=Zh (aD.out.old HBl.out);have f:=HX.out.old HWi.out;have r0:wr.cell? ⟨B,0,none⟩=some (.slice (some ad) m.cl.length cc):=f.cell 0 rfl;have r1:wr.cell? ⟨B,1,none⟩=some (.slice so m.st.length sc):=f.cell 1 rfl;have r2:wr.cell? ⟨B,2,none⟩=some (.slice eo m.me.length ec):=f.cell 2 rfl;have r3:wr.cell? ⟨B,3,none⟩=some (.int .i64 m.sel):=f.cell 3 rfl;have rl:=f.lt;have x1:wr.cell? ⟨C,1,none⟩=some (.int .i64 u):=I.out.cell 1 rfl;have x2:wr.cell? ⟨C,2,none⟩=some (.slice fo z.length U):=I.out.cell 2 rfl;have x3:wr.cell? ⟨C,3,none⟩=some (.slice mo tl.length mc):=I.out.cell 3 rfl;clear f;by_cases hst:s<tl.length
     ·have aK:(s:Int) < m.sel:=by have:=HT.out;omega
      have aJ:(s:Int) < tl.length:=by omega
      have aY:IntKind.i64.wrap ((s:Int)+1)=s+1:=IntWalk.i64_in _ (by omega);obtain ⟨aS,rfl,t0⟩:=ZaC ((aA.out.old T.out).old (show Below w1.heap.size w1 wr from Zag ax.out HBl.out)) hst;generalize hn:tl.getD s 0=n at t0;have F:ZaK m k s=(decide (-1≤n)&&decide (n<m.me.length)&&(decide (n<0)||ZaJ m k s n)&&!(decide (0≤(u:Int))&&decide (n<0)&&decide (0≤m.ent u s))):=by simp only [ZaK,Md.ent,Int.toNat_natCast,HC.out,hn,HS.out];rfl
      have HSel:=Zh F;clear hn F;have W:∀ w':World,ZaK m k s=false→Below w0.heap.size w0 w'→Ret w (.bool qa) (.returned (.bool false)) w':=fun w' hf hb=>Y.out w' (by rw [HCq.out,ZaD hst hf]) hb;have HNo:=Zh W;clear W;by_cases hn1:n < -1
      ·exact k92
      by_cases hn2:n ≥ m.me.length
      ·exact k72
      by_cases hn5:0≤n
      ·exact k1
      ·as_aux_lemma=>
       obtain rfl:n=-1:=by omega
       have hmi:=Hj.out.old HWi.out;obtain ⟨ad5,hco5,-,-,-,k3⟩:=hmi.cls hu;have hlo:=HL.out u (by omega);obtain ⟨ad4,hmo,t1⟩:=ZaC (hmi.t u hu) (i:=s) (by omega);have hsu:(s:Int) < (m.cl.getD u default).m.length:=by omega
       have aM:=Zhd (q1.out u (by omega)) (s:=s) (by omega);dsimp only at hmo k3 hco5;obtain rfl:=Option.some.inj hco5;have henv:m.ent u s=(m.cl.getD u default).m.getD s 0:=rfl;rw [henv] at aM;generalize (m.cl.getD u default).m.getD s 0=e at t1 henv aM;generalize (m.cl.getD u default).m.length=ul at k3 hsu hlo;rw [hmo] at k3;have HEv:=Zh henv;clear hmo hco5 hlo henv hmi;have bg:(u:Int) ≥ 0:=by omega
       by_cases hev:¬ e=-1
       ·have hev2:(e != (-1:Int))=true:=by simpa using hev
        go_wp2;go_ret;exact HNo.out _ (by rw [HSel.out,HEv.out,decide_eq_true (show 0≤e by omega)];first|(simp;done)|(simp;intros;omega)) HWi.out
       have hev2:(e != (-1:Int))=false:=by simpa using hev
       have hsok:ZaK m k s=true:=by rw [HSel.out,HEv.out,decide_eq_false (show ¬ 0≤e by omega)];first|(simp;done)|(simp;omega)
       exact k18
     ·exact k30
  ·obtain rfl:k=m.cl.length:=by omega
   have hall:=ZaE q1.out;go_wp2;go_ret;exact ZcP (ZcT (by rw [ay.out,hall])) (Zag X.out D.out)
end
