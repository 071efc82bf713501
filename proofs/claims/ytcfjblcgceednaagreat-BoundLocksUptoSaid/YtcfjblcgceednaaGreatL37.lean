import Derived.Test.YtcfjblcgceednaaGreatL36
set_option linter.all false
set_option maxRecDepth 100000
set_option maxHeartbeats 32000000
namespace Go.Proofs.YtcfjblcgceednaaGreat
theorem j0{p:Prop}(h:p:=by
 obtain ⟨f,no,nc,ns,rfl,hf,rfl,hnl4,HRn,HIn4,HBf⟩:=hrel;rename World=>wf;have c2:=(HC6.out.old HBf.out).cell 2 (v:=.slice fo fs.length fc) rfl;by_cases hfl:f<fs.length
 ·have hfl2:(f:Int) < fs.length:=by omega
  have hwf:IntKind.i64.wrap ((f:Int)+1)=((f+1:Nat):Int):=IntWalk.i64_in _ (by omega);obtain ⟨fd,hfd,t0,t1⟩:=Zaz (HF6.out.old HBf.out) hfl;have hty:=ZpK (HFt.out _ (ZfU default hfl));obtain ⟨t,ht⟩:∃ t,t=fs.getD f default:=⟨_,rfl⟩;rw [←ht] at t0 t1 hty;rw [hfd] at c2;have HRw:=Zh (show Zar wf no ns.length ns from ZsM HRn.out.1);have HNm:=Zh (fun w' (hb:Below wf.heap.size wf w')=>Zoj t no ns w' (HRw.out.old hb) (by omega));have HI2:=Zh (Zof HIn4.out hty);have hnl5:=Zog ns t;obtain ⟨us,hus⟩:∃ z,z=nmV ns t:=⟨_,rfl⟩;rw [←hus] at HNm HI2 hnl5;obtain ⟨tk,tc⟩:=t;dsimp only at t0 t1 HNm;have hcap:=HRn.out.2;clear hty ht hus hfd
  go_upto_region 39 with fail
  have HCf:=Zh (show Cs [(⟨I,2,none⟩,.slice (some fd) fs.length fc),(fd.add (f*2),.int .i64 tk),(⟨(fd.add (f*2)).block,(fd.add (f*2)).off+1,none⟩,.int .i64 tc)] wf.drew from ⟨c2,t0,t1,trivial⟩);refine rO (Cs [(⟨I,2,none⟩,.slice (some fd) fs.length fc),(fd.add (f*2),.int .i64 tk),(⟨(fd.add (f*2)).block,(fd.add (f*2)).off+1,none⟩,.int .i64 tc)]) (oL [0,1,2,3,4,5,6,7,8,9,10,111,12]) HCf.out ?_;clear c2 t0 t1
  iterate 5 (refine pO ?_)
  refine pO (v:=.slice no ns.length ns.length) ?_ (hy:=Or.inl ⟨by rfl,by intro w hSw;go_simp⟩)
  repeat refine pO ?_
  refine oO fun Kv hK=>?_;go_simp;refine (HNm.out _ (Below.refl _ _).drew).mono ?_;rintro e w8 ⟨⟨ao',cap',rfl,hr8,hc8⟩,hb8⟩;have HR8:=Zh (And.intro hr8 hc8);have HB8:=Zh (Zaf HBf.out ((Below.refl _ wf).drew.trans hb8));refine hK _ _ ⟨Cs.keeps (Znz.of hb8) HCf.out,?_⟩;clear hK Kv hr8 hc8 hb8
  repeat refine pO ?_
  refine Zd5 ?_;go_wp2;exact ⟨⟨f+1,ao',cap',us,rfl,hfl,rfl,by omega,HR8.out,HI2.out,HB8.out⟩,by simp [intOf];omega⟩
 ·have hfl2:¬ (f:Int) < fs.length:=by omega
  go_wp2;exact ⟨⟨p+1,no,nc,ns,rfl,hpl,rfl,by omega,HRn.out,HIn4.out,Zaf HBw6.out HBf.out⟩,by simp [intOf];omega⟩):p:=h
section
open Go.RowKit
attribute [local go_sem] World.cell?_alloc_some
def bmL (n:Nat) (me:List Int):List Bool:=(List.range n).map fun j:Nat=>decide ((j:Int)∈me)
theorem ZsH {n:Nat}{a:List Int}{j:Nat} (b:j<n):((bmL n a).getD j false=true)↔(j:Int)∈a:=by unfold bmL;rw [List.getD_eq_getElem?_getD,List.getElem?_map,List.getElem?_range b];simp
def MeI (m:Md) (k:Nat) (me:List Int) (q:Nat):Prop:=MkP m k (bmL m.me.length me) q∧InR m.me.length me∧Asc me
theorem ZsI {l:List Int}{n:Nat} (h:Asc l) (g:InR n l):l.length≤n:=by
 have c:(l.map Int.toNat).Nodup:=by refine List.pairwise_map.2 (List.Pairwise.imp_of_mem (fun {a b} ha hb (hab:a<b)=>?_) h);have f:=g a ha;have i:=g b hb;omega
 have:=ZnB n _ c fun x d=>by obtain ⟨y,e,rfl⟩:=List.mem_map.1 d;have:=g y e;omega
 rwa [List.length_map] at this
section
variable {m:Md}(hv:Za1 m=true){k:Nat}(hk:k<m.me.length)
include m hv k hk
theorem MeI.start:MeI m k (ZaM [(k:Int)]) m.me.length:=by
 refine ⟨⟨by simp [bmL],fun j b=>?_⟩,InR.sort (.one ⟨by omega,by omega⟩),Zdv _⟩;rw [ZsH b,Zdw,List.mem_singleton];constructor
 ·intro e;exact .inl (by omega)
 ·rintro (rfl|⟨i,c,a,_⟩)
  ·rfl
  ·have:=a.le hv hk;omega
theorem MeI.skip {me:List Int} {q:Nat} (hq:q<m.me.length) (H:MeI m k me (q+1)) (h:¬ (q:Int)∈me):MeI m k me q:=
 ⟨H.1.skip hv hk hq (by rw [ZsH hq];exact h),H.2⟩
theorem MeI.add {me:List Int} {q:Nat} (hq:q<m.me.length) (H:MeI m k me (q+1)) (h:(q:Int)∈me):MeI m k (ZaM (me++Zn8 m q)) q:=by refine ⟨H.1.add hv hk hq (by rw [ZsH hq];exact h) (by simp [bmL]) fun j a=>?_,InR.sort (H.2.1.app fun x b=>by have:=Zp3 hv hq b;omega),Zdv _⟩;rw [ZsH a,ZsH a,Zdw,List.mem_append]
end
theorem MeI.done {m:Md}{k:Nat}{me:List Int} (hv:Za1 m=true) (hk:k<m.me.length) (H:MeI m k me 0):Zsl m k me:=fun x=>by
 constructor
 ·intro c
  have d:=H.2.1 x c
  obtain ⟨j,rfl⟩:∃ j:Nat,x=j:=⟨x.toNat,by omega⟩
  exact ⟨j,rfl,(H.1.done (by omega)).1 ((ZsH (by omega)).2 c)⟩
 ·rintro ⟨j,rfl,a⟩
  have b:j<m.me.length:=by have:=a.le hv hk;omega
  exact (ZsH b).1 ((H.1.done b).2 a)
theorem ZsJ {m:Md} (hv:Za1 m=true) {n:Nat} (c:n<m.cl.length):(-1≤(m.cl.getD n default).sup∧(m.cl.getD n default).sup<n)∧(m.cl.getD n default).f.length≤7∧n<10:=by
 have b:=Zil hv n c;have d:=(Zin hv).1;simp only [ZaK,Bool.and_eq_true,decide_eq_true_eq] at b;have a:-1≤m.sup n∧m.sup n<n:=by omega
 unfold Md.sup at a;rw [Int.toNat_natCast] at a;exact ⟨a,by omega,by omega⟩
def ZsK (w:World) (m:Md) (k:Nat):Ending→World→Prop:=fun e w'=>(∃ (o1 o2 o3:Option Addr) (c1 c2 c3 n2 n3:Nat) (me:List Int),e=.returned (.tuple #[.slice o1 me.length c1,.slice o2 n2 c2,.slice o3 n3 c3,.int .i64 0])∧Zar w' o1 c1 me∧Zsl m k me∧me.length≤16)∧Below w.heap.size w w'
theorem ZsL {w w':World}{row:Option Nat}{b:Option Addr}{c:Nat}{L:List Int} (h:Zar w b c L) (g:w.grownBy w' row) (d:∀ a,b=some a→some a.block≠row):Zar w' b c L:=
 ⟨h.1,h.2.1,fun j u i=>by
  obtain ⟨a,e,f⟩:=h.2.2 j u i
  exact ⟨a,e,(World.cell?_of_block (w:=w) (g.block (a.add j).block (Zac f) (by rw [Zag];exact d a e))).trans f⟩⟩
theorem ZsM {w:World}{a:Option Addr}{c:Nat}{L:List Int} (h:Zar w a c L):Zar w a L.length L:=⟨h.1,fun e=>⟨(h.2.1 e).1,(h.2.1 e).1⟩,h.2.2⟩
theorem ZsN {w:World}{o:Oper}{a:Act}{Q:Exit→Act→World→Prop}{H:Act→World→Prop} (s x:Operand)
  (V:o.op=.call { callee:=.builtin .append,args:=#[s,x],argTypes:=#[34,34] })
  (I:Option Addr) (d:List Int) (X:a.eval s=.slice I d.length d.length) (L:Zar w I d.length d) (b:Nat) (c:Int) (Y:a.eval x=.slice (some ⟨b,0,none⟩) 1 1) (hb:Blk w b #[.int .i64 c] 3) (hl:d.length≤1000001)
  (h:∀ y e w' G,Hid (G=d++[c])→G.length≤d.length+1→Zoh w' w.heap.size y e G→G.length≤e→Below w.heap.size w w'→H (a.put o.dst (.slice y G.length e)) w'):o.wp Tryz.prog a w H Q:=by
 obtain ⟨i,z,U,Z,r,B,F⟩:=Zcq.info;have M:=L.1;have N:=L.2.1;have D:=L.2.2;rw [Zat] at M D;have f:∀ j u,([.int .i64 c]:List Value)[j]?=some u→w.cell? ((⟨b,0,none⟩:Addr).add j)=some u:=fun j u E=>by obtain ⟨a',t,K⟩:=(ZdL hb (n:=1) (size:=1) rfl).2.2 j u E;cases t;exact K
 have h1c:∀ u∈([.int .i64 c]:List Value),u.oneCell'=true:=by intro u E;rw [List.mem_singleton.1 E];rfl
 have A:∀ v w',w'.ownsRow w.heap.size 3 1 v (d.length+1) (d.map (Value.int .i64)++[.int .i64 c])→w.grownBy w' none→H (a.put o.dst v) w':=by
  intro v w' l C;have J:Below w.heap.size w w':=⟨C.os,C.tape,C.output,C.size,fun q W=>C.block q W (by simp)⟩;rcases l.2 with ⟨rfl,ae⟩|⟨g,cp,ac,rfl,W⟩
  ·omega
  ·have:=h _ cp w' (d++[c]) rfl (by simp) (by unfold Zoh;rw [List.length_append,List.map_append];exact l) (by rw [List.length_append];exact ZmB l) J;rwa [List.length_append] at this
 cases I with
 |some b'=>
  obtain ⟨v,w',p,S,T⟩:=run_append_arg_grows (P:=Tryz.prog) w 34 o.type 3 i z 1 8 Zcq.und U Z r B F (by decide) b' d.length d.length (d.map (Value.int .i64)) (by simp) (fun j u E=>by
   obtain ⟨a',t,K⟩:=D j u E;cases t;exact K) ⟨b,0,none⟩ 1 1 [.int .i64 c] rfl f (by omega) (by unfold maxLen;omega) (by omega)
  unfold Oper.wp;simp [execOp,V,resolve,invoke,builtin,X,Y,p,Result.andThen];exact A v w' S T
 |none=>
  have R:=(N rfl).1;obtain rfl:d=[]:=List.eq_nil_of_length_eq_zero R;obtain ⟨v,w',p,S,T,_⟩:=run_append_own (P:=Tryz.prog) w w.heap.size 34 o.type 3 i z 1 8 Zcq.und U Z r B F (by decide) (.slice none 0 0) 0 [] (World.ownsRow_nil w _ 3 1) ⟨b,0,none⟩ 1 1 [.int .i64 c] rfl f h1c (by unfold maxLen;omega) (by omega) (Nat.le_refl _);unfold Oper.wp;have O:a.eval s=.slice none 0 0:=X;simp [execOp,V,resolve,invoke,builtin,O,Y,p,Result.andThen];exact A v w' S T
theorem ZsO {w:World}{n:Array Oper}{f:List Oper}{o:Oper}{a:Act}{Q:Exit→Act→World→Prop} (q:o.guard=none) (s x:Operand)
  (z:o.op=.call { callee:=.builtin .append,args:=#[s,x],argTypes:=#[34,34] })
  (base:Nat) (j:Option Addr) (g:Nat) (i:List Int) (B:a.eval s=.slice j i.length g) (l:Zoh w base j g i) (bo:Option Addr) (c:Nat) (ys:List Int) (C:a.eval x=.slice bo ys.length c) (A:Zar w bo c ys) (y:i.length≤1000000∧ys.length≤1000000) (v:base≤w.heap.size)
  (h:∀ e d w' p,Hid (p=i++ys)→p.length≤i.length+ys.length→Zoh w' base e d p→w.grownBy w' (obk j)→(∀ b,obk e=some b→obk j=some b∨w.heap.size≤b)→wpList Tryz.prog n Q f (a.put o.dst (.slice e p.length d)) w'):wpList Tryz.prog n Q (o :: f) a w:=
 Zon q s x z base j g i B l bo c ys C A y v fun e d w' r t u=>h e d w' _ rfl (by rw [List.length_append];exact Nat.le_refl _) r t u
theorem ZsP (m:Md) (h:Hd) (k:Nat) (w:World) (A:Nat) (bu:Nat) (H:Zay w h m) (hv:Za1 m=true) (hk:k<m.me.length) (hr:Zar w (some ⟨A,0,none⟩) bu [(k:Int)]):Calls Tryz.prog 111 #[.agg (HM.mk h m),.slice (some ⟨A,0,none⟩) 1 bu] w (ZsK w m k):=by
 obtain ⟨G,a0⟩:∃ G,G=w.alloc (.cells (HM.mk h m) 26):=⟨_,rfl⟩;have HB:=Zh (show Below w.heap.size w G by rw [a0];exact bE);have HX:=Zh (show Blk G w.heap.size (HM.mk h m) 26 by rw [a0];exact Blk.new _ _ _);have Hj:=Zh (H.old HB.out);have HW:=Zh a0;have HR:=Zh (hr.old HB.out);have cN:=Zh (show Calls Tryz.prog 60 #[.agg (HM.mk h m)] G (Ret G (.int .i64 0)) by have:=Zjj m h G Hj.out;rwa [hv] at this);have c5:=Zh (fun w' (hb:Below G.heap.size G w')=>Zjk m h k m.me.length w' (Hj.out.old hb) hv ⟨by omega,by omega⟩);have HV:=Zh hv;have df:=Zin hv;clear a0 H hr hv;go_enter Tryz.func111,Tryz.ntmps111
 go_upto_region 1 with fail
 rw [←HW.out];obtain ⟨x0,R,x2,x3⟩:=Zj5 HX.out
 go_upto_region 3 with (go_at_call 60;refine cN.out.mono ?_;rintro e w1 ⟨rfl,cb⟩;have cM:=Zh cb;clear cb x0 R x2 x3)
 go_loopw [8,9] (fun e i wr=>∃ q:Nat,q≤1∧i=.int .i64 q∧e=.int .i64 0∧Hid (Below G.heap.size G wr)) (fun _ i _=>1-(intOf i).toNat)
 case atStart=>exact ⟨0,Nat.zero_le _,rfl,rfl,cM.out⟩
 case round=>
  obtain ⟨q,hq,rfl,rfl,X⟩:=hrel;rename World=>wr;have cq:q=0∨q=1:=by omega
  rcases cq with rfl|rfl
  ·obtain ⟨x0,R,x2,x3⟩:=Zj5 (HX.out.old X.out);obtain ⟨ad,db,t0⟩:=ZaB (HR.out.old X.out) (i:=0) (by simp);cases db;have t0:wr.cell? ⟨A,0,none⟩=some (.int .i64 k):=t0
   go_upto_region 5 with fail
   refine rO (Cs [(⟨w.heap.size,0,none⟩,.slice h.co m.cl.length h.cc),(⟨w.heap.size,1,none⟩,.slice h.so m.st.length h.sc),(⟨w.heap.size,2,none⟩,.slice h.eo m.me.length h.ec),(⟨w.heap.size,3,none⟩,.int .i64 m.sel),(⟨A,0,none⟩,.int .i64 k)]) (oL [0,1,2,3,4,5,6,7,108,9]) ⟨x0,R,x2,x3,t0,trivial⟩ ?_
   repeat refine pO ?_
   refine oO fun Kv hK=>?_;go_simp;refine (c5.out _ X.out.drew).mono ?_;rintro e w2 ⟨rfl,aF⟩;have aG:Below wr.heap.size wr w2:=(Below.refl _ wr).drew.trans aF;have am:=Znz.of aG;have aM:=Zh (Zaf X.out aG);refine hK _ _ ⟨⟨am _ _ x0,am _ _ R,am _ _ x2,am _ _ x3,am _ _ t0,trivial⟩,?_⟩;clear hK Kv aF aG am x0 R x2 x3 t0
   repeat refine pO ?_
   refine Zd5 ?_;go_wp2;exact ⟨⟨1,Nat.le_refl _,rfl,rfl,aM.out⟩,by simp [intOf]⟩
  ·have b3:=Zh (Zek [(k:Int)] (some ⟨A,0,none⟩) bu wr (HR.out.old X.out) (by simp))
   go_upto_region 9 with (go_at_call 124;refine b3.out.mono ?_;rintro e w2 ⟨⟨ao,ac,rfl,bh⟩,aF⟩;have bW:=Zh bh;have aM:=Zh (Zaf X.out aF);clear bh aF)
   have x2:=(HX.out.old aM.out).cell 2 (v:=.slice h.eo m.me.length h.ec) rfl;have bV:=Zh (MeI.start HV.out hk);obtain ⟨s0,bC⟩:∃ s,s=ZaM [(k:Int)]:=⟨_,rfl⟩;rw [←bC] at bW bV ⊢;clear bC b3;have dX:IntKind.i64.wrap ((m.me.length:Int)-1)=(m.me.length:Int)-1:=IntWalk.i64_in _ (by omega)
   go_wp2_with fail
   clear x2
   go_loopw [10,11] (fun o i wr=>∃ (q:Nat) (ao:Option Addr) (ac:Nat) (K:List Int),q≤m.me.length∧i=.int .i64 ((q:Int)-1)∧o=.slice ao K.length ac∧Hid (MeI m k K q)∧Hid (Zoh wr G.heap.size ao ac K)∧Hid (Below G.heap.size G wr)) (fun _ i _=>(intOf i+1).toNat)
   case atStart=>exact ⟨m.me.length,ao,ac,s0,Nat.le_refl _,rfl,rfl,bV.out,Zed bW.out X.out.size,aM.out⟩
   case round=>
    obtain ⟨q,bo,bc,K,hq,rfl,rfl,Y,aA,W⟩:=hrel;rename World=>wq;have dd:K.length≤16:=Nat.le_trans (ZsI Y.out.2.2 Y.out.2.1) df.2.1;rcases q with _|q
    ·have e1:((0:Nat):Int)-1=-1:=rfl;rw [e1];have cR:=Zh (MeI.done HV.out hk Y.out);have cQ:=Zh Y.out.2.1;have bX:=Zh aA.out.row;clear Y aA
     go_wp2_with fail
     go_loopw [12,13,14] (fun c s i wr=>∃ (j:Nat) (a1:Option Addr) (c1:Nat) (zs:List Int) (a2:Option Addr) (c2:Nat) (T:List Int),i=.int .i64 j∧j≤K.length∧c=.slice a1 zs.length c1∧s=.slice a2 T.length c2∧zs.length≤j*200∧T.length≤j*200∧Hid (Zok wr wq.heap.size a1 c1 zs a2 c2 T)∧Hid (InR m.cl.length zs∧InR m.st.length T)∧Hid (Below wq.heap.size wq wr)) (fun _ _ i _=>K.length-(intOf i).toNat)
     case atStart=>exact ⟨0,none,0,[],none,0,[],rfl,Nat.zero_le _,rfl,rfl,Nat.zero_le _,Nat.zero_le _,Zok.nil _ _,⟨fun x hx=>by simp at hx,fun x hx=>by simp at hx⟩,Below.refl _ _⟩
     case round=>
      obtain ⟨j,a1,c1,zs,a2,c2,T,rfl,hj,rfl,rfl,d4,d0,aU,ay,aN⟩:=hrel;rename World=>ws;have bQ:=Zh (Zaf W.out aN.out);by_cases hjl:j<K.length
      ·have cl:(j:Int) < K.length:=by omega
       have dW:IntKind.i64.wrap ((j:Int)+1)=((j+1:Nat):Int):=IntWalk.i64_in _ (by omega);obtain ⟨md,rfl,t0⟩:=ZaB (bX.out.old aN.out) hjl;have cm:=cQ.out _ (ZfU (0:Int) hjl);obtain ⟨n,hn⟩:∃ n:Nat,K.getD j 0=n:=⟨(K.getD j 0).toNat,by omega⟩;rw [hn] at t0 cm;have cT:=Zh (fun w' (hb:Below G.heap.size G w')=>ZpM m h n w' (Hj.out.old hb) HV.out (by omega));obtain ⟨x0,R,x2,x3⟩:=Zj5 (HX.out.old bQ.out);clear hn cm
       go_upto_region 18 with fail
       refine rO (Cs [(⟨w.heap.size,0,none⟩,.slice h.co m.cl.length h.cc),(⟨w.heap.size,1,none⟩,.slice h.so m.st.length h.sc),(⟨w.heap.size,2,none⟩,.slice h.eo m.me.length h.ec),(⟨w.heap.size,3,none⟩,.int .i64 m.sel),(md.add j,.int .i64 n)]) (oL [0,1,2,3,4,105,6,7,8,9,10]) ⟨x0,R,x2,x3,t0,trivial⟩ ?_
       repeat refine pO ?_
       refine oO fun Kv hK=>?_;go_simp;refine (cT.out _ bQ.out.drew).mono ?_;rintro e w3 ⟨⟨b1,d1,us,b2,d2,vs,rfl,cr,ct,cj,ck,dO,dP,-,ci⟩,b⟩;have ai:Below ws.heap.size ws w3:=(Below.refl _ ws).drew.trans b;have an:=Znz.of ai;have aj:=Zh (aU.out.old ai);have g:=Zh (Zaf aN.out ai);have aT:=Zh (And.intro cr (And.intro ct (And.intro cj ck)));refine hK _ _ ⟨⟨an _ _ x0,an _ _ R,an _ _ x2,an _ _ x3,an _ _ t0,trivial⟩,?_⟩;clear hK Kv b ai an x0 R x2 x3 t0 cr ct cj ck
       repeat refine pO ?_
       refine Zd5 ?_;have d3:=g.out.size;have cO:=Zh (show ∀ ad,b2=some ad→some ad.block≠obk a1 from fun ad e q=>by
        have h1:ws.heap.size≤ad.block:=ci ad e;have h2:=(World.ownsRow.lt aU.out.1 ad.block (by rw [Zol];exact q.symm)).2;omega)
       clear ci
       go_wp2_with (first
        | (at_builtin;refine ZsO rfl (.tmp 84) (.tmp 85) rfl wq.heap.size a2 c2 T rfl bq.out.2.1 b2 d2 vs rfl cY.out ⟨by omega,by omega⟩ D.out.size ?_;intro bt aE V dq di dx C bA bg;have c3:=Zh (bq.out.swap.left C bA bg).swap;have M:=Zh (D.out.trans (Zom bq.out.2.1 bA D.out.size));clear C bA bg)
        | (at_builtin;refine ZsO rfl (.tmp 81) (.tmp 82) rfl wq.heap.size a1 c1 zs rfl aj.out.1 b1 d1 us rfl aT.out.1 ⟨by omega,by omega⟩ g.out.size ?_;intro bs aD w5 dr dk dz B aa ah;have bq:=Zh (aj.out.left B aa ah);have cY:=Zh (ZsL aT.out.2.1 aa cO.out);have D:=Zh (g.out.trans (Zom aj.out.1 aa g.out.size));clear B aa ah))
       exact ⟨⟨j+1,bs,aD,dr,bt,aE,dq,rfl,hjl,rfl,rfl,by omega,by omega,c3.out,⟨by rw [dk.out];exact ay.out.1.app aT.out.2.2.1,by rw [di.out];exact ay.out.2.app aT.out.2.2.2⟩,M.out⟩,by simp [intOf];omega⟩
      ·have cl:¬ (j:Int) < K.length:=by omega
       go_wp2_with fail
       have dC:=Zh aU.out.2.1.row;have dy:zs.length≤3200:=by omega
       have dw:T.length≤3200:=by omega
       go_loopw [12,17] (fun c i wr=>∃ (p:Nat) (a1:Option Addr) (c1:Nat) (us:List Int),i=.int .i64 p∧p≤T.length∧c=.slice a1 us.length c1∧us.length≤3200+p∧Hid (Zok wr wq.heap.size a1 c1 us a2 c2 T)∧Hid (InR m.cl.length us)∧Hid (Below wq.heap.size wq wr)) (fun _ i _=>T.length-(intOf i).toNat)
       case atStart=>exact ⟨0,a1,c1,zs,rfl,Nat.zero_le _,rfl,by omega,aU.out,ay.out.1,aN.out⟩
       case round=>
        obtain ⟨p,b1,d1,us,rfl,hp,rfl,cy,ak,bn,aw⟩:=hrel;rename World=>wu;have a9:=Zh (Zaf W.out aw.out);by_cases hpl:p<T.length
        ·have aJ:(p:Int) < T.length:=by omega
         have dg:IntKind.i64.wrap ((p:Int)+1)=((p+1:Nat):Int):=IntWalk.i64_in _ (by omega);obtain ⟨yd,dj,t0⟩:=ZaB ak.out.2.1.row hpl;have cA:=ay.out.2 _ (ZfU (0:Int) hpl);obtain ⟨n,hn⟩:∃ n:Nat,T.getD p 0=n:=⟨(T.getD p 0).toNat,by omega⟩;rw [hn] at t0 cA;have ab:n<m.st.length:=by omega
         have cn:(n:Int) < m.st.length:=by omega
         obtain ⟨sd,bD,s0,s1⟩:=Zaz (Hj.out.old a9.out).st ab;have hty:=ZpK (ZfL HV.out _ (ZfU default ab));obtain ⟨t,ht⟩:∃ t,t=m.st.getD n default:=⟨_,rfl⟩;rw [←ht] at s0 s1 hty;have R:=(HX.out.old a9.out).cell 1 (v:=.slice h.so m.st.length h.sc) rfl;rw [bD] at R;subst dj;have HNm:=Zh (fun w' (hb:Below wu.heap.size wu w')=>Zop t wq.heap.size b1 d1 us w' (ak.out.old hb).1 (Nat.le_trans aw.out.size hb.size) (by omega));have HI2:=Zh (Zof bn.out hty);have cp:=Zog us t;obtain ⟨dp,cx⟩:∃ z,z=nmV us t:=⟨_,rfl⟩;rw [←cx] at HNm HI2 cp;obtain ⟨tk,tc⟩:=t;dsimp only at s0 s1 HNm;have b0:=Zh bD;have c4:=Zh ht;have cU:=Zh hn;clear hn cA hty ht cx bD
         go_upto_region 24 with fail
         refine rO (Cs [(⟨w.heap.size,1,none⟩,.slice (some sd) m.st.length h.sc),(yd.add p,.int .i64 n),(sd.add (n*2),.int .i64 tk),(⟨(sd.add (n*2)).block,(sd.add (n*2)).off+1,none⟩,.int .i64 tc)]) (oL [0,1,2,3,4,5,6,7,8,109,10]) ⟨R,t0,s0,s1,trivial⟩ ?_
         repeat refine pO ?_
         refine oO fun Kv hK=>?_;go_simp;refine (HNm.out _ (Below.refl _ _).drew).mono ?_;rintro e w3 ⟨ao',cap',rfl,y,bz,bf⟩;have b:=Zom (ak.out.old (Below.refl _ wu).drew).1 bz aw.out.size;have aj:=Zh ((ak.out.old (Below.refl _ wu).drew).left y bz bf);have g:=Zh (aw.out.trans (show Below wq.heap.size wu w3 from ((Below.refl wq.heap.size wu).drew).trans b));have a8:=Zh (Zaf W.out g.out);have y1:=(HX.out.old a8.out).cell 1 (v:=.slice h.so m.st.length h.sc) rfl;rw [b0.out] at y1;obtain ⟨d6,bi,q0,q1⟩:=Zaz (Hj.out.old a8.out).st ab;rw [b0.out] at bi;cases bi;obtain ⟨ed,cz,r0⟩:=ZaB aj.out.2.1.row hpl;cases cz;rw [←c4.out] at q0 q1;rw [cU.out] at r0;refine hK _ _ ⟨⟨y1,r0,q0,q1,trivial⟩,?_⟩;clear hK Kv y bz bf b R t0 s0 s1 y1 q0 q1 r0
         repeat refine pO ?_
         refine Zd5 ?_;go_wp2;exact ⟨⟨p+1,ao',cap',dp,rfl,hpl,rfl,by omega,aj.out,HI2.out,g.out⟩,by simp [intOf];omega⟩
        ·have aJ:¬ (p:Int) < T.length:=by omega
         have dE:=Zh ay.out.2
         go_upto_region 26 with (go_at_call 124;refine (Zek us b1 d1 _ ak.out.1.row (by omega)).mono ?_;rintro e w3 ⟨⟨b6,bd,rfl,y⟩,b⟩;have N:=Zh y;have c6:=Zh (ak.out.2.1.row.old b);have g:=Zh (Zaf aw.out b);clear y b)
         have aX:=ZsI (Zdv us) bn.out.sort;have bU:=Zh bn.out.sort;have bN:=Zh (Zdv us);obtain ⟨c0,cf⟩:∃ c,c=ZaM us:=⟨_,rfl⟩;rw [←cf] at N aX bU bN ⊢;have cZ:=Zh (And.intro (show Zar w3 b6 bd c0 from Zoh.row (base:=wu.heap.size) N.out) (ZmB N.out));clear cf N;have a7:=Zh (Zaf W.out g.out);have bx:c0.length≤10:=by omega
         clear bN aX
         go_wp2_with fail
         go_loopw [12,18] (fun c i wr=>∃ (r:Nat) (ao:Option Addr) (ac:Nat) (Z:List Int),i=.int .i64 r∧r≤m.cl.length∧c=.slice ao Z.length ac∧Z.length≤10∧Hid (Zar wr ao ac Z∧Z.length≤ac)∧Hid (InR m.cl.length Z)∧Hid (Below w3.heap.size w3 wr)) (fun _ i _=>m.cl.length-(intOf i).toNat)
         case atStart=>exact ⟨0,b6,bd,c0,rfl,Nat.zero_le _,rfl,bx,cZ.out,bU.out,Below.refl _ _⟩
         case round=>
          obtain ⟨r,ao,ac,Z,rfl,hr,rfl,dN,bY,ba,af⟩:=hrel;rename World=>wv;have bP:=Zh (Zaf a7.out af.out);have z0:=(HX.out.old bP.out).cell 0 (v:=.slice h.co m.cl.length h.cc) rfl;by_cases hrl:r<m.cl.length
          ·have cw:(r:Int) < m.cl.length:=by omega
           have dZ:IntKind.i64.wrap ((r:Int)+1)=((r+1:Nat):Int):=IntWalk.i64_in _ (by omega)
           go_upto_region 31 with fail
           clear z0
           go_loopw [19,20] (fun c i wr=>∃ (p:Nat) (mo:Option Addr) (mc:Nat) (O:List Int),i=.int .i64 p∧p≤Z.length∧c=.slice mo O.length mc∧O.length≤10+p*8∧Hid (Zar wr mo mc O∧O.length≤mc)∧Hid (InR m.cl.length O)∧Hid (Below wv.heap.size wv wr)) (fun _ i _=>Z.length-(intOf i).toNat)
           case atStart=>exact ⟨0,ao,ac,Z,rfl,Nat.zero_le _,rfl,by omega,bY.out,ba.out,Below.refl _ _⟩
           case round=>
            obtain ⟨p,mo,mc,O,rfl,hp,rfl,dv,aB,aR,aO⟩:=hrel;rename World=>wx;have ax:=Zh (Zaf bP.out aO.out);by_cases hpl:p<Z.length
            ·have aJ:(p:Int) < Z.length:=by omega
             have dg:IntKind.i64.wrap ((p:Int)+1)=((p+1:Nat):Int):=IntWalk.i64_in _ (by omega);obtain ⟨cd,rfl,t0⟩:=ZaB (bY.out.1.old aO.out) hpl;have ch:=ba.out _ (ZfU (0:Int) hpl);obtain ⟨n,hn⟩:∃ n:Nat,Z.getD p 0=n:=⟨(Z.getD p 0).toNat,by omega⟩;rw [hn] at t0 ch;have ab:n<m.cl.length:=by omega
             have cn:(n:Int) < m.cl.length:=by omega
             obtain ⟨U,cg,e0,e1,e2,e3⟩:=(Hj.out.old ax.out).cls ab;have z0:=(HX.out.old ax.out).cell 0 (v:=.slice h.co m.cl.length h.cc) rfl;rw [cg] at z0;have HF:=Zh ((Hj.out.old ax.out).f n ab);have al:=ZsJ HV.out ab;have HFt:=Zh (ZfK HV.out (c:=n) (by omega) (by omega));rw [Int.toNat_natCast] at HFt;generalize (m.cl.getD n default).n=nm at e0;generalize (m.cl.getD n default).m.length=ml at e3;generalize (m.cl.getD n default).f=fs at e2 HF HFt al;generalize (m.cl.getD n default).sup=sup at e1 al;generalize (h.c n).fo=fo at e2 HF;generalize (h.c n).fc=fc at e2 HF;generalize (h.c n).mo=mto at e3;generalize (h.c n).mc=mtc at e3;obtain ⟨dT,dU,dV⟩:=al;clear hn ch cg
             go_upto_region 33 with fail
             have bm:=Zh (show Cs [(⟨w.heap.size,0,none⟩,.slice (some U) m.cl.length h.cc),(cd.add p,.int .i64 n),(U.add (n*4),.string nm),(⟨(U.add (n*4)).block,(U.add (n*4)).off+1,none⟩,.int .i64 sup),(⟨(U.add (n*4)).block,(U.add (n*4)).off+2,none⟩,.slice fo fs.length fc),(⟨(U.add (n*4)).block,(U.add (n*4)).off+3,none⟩,.slice mto ml mtc)] wx from ⟨z0,t0,e0,e1,e2,e3,trivial⟩);refine rO (Cs [(⟨w.heap.size,0,none⟩,.slice (some U) m.cl.length h.cc),(cd.add p,.int .i64 n),(U.add (n*4),.string nm),(⟨(U.add (n*4)).block,(U.add (n*4)).off+1,none⟩,.int .i64 sup),(⟨(U.add (n*4)).block,(U.add (n*4)).off+2,none⟩,.slice fo fs.length fc),(⟨(U.add (n*4)).block,(U.add (n*4)).off+3,none⟩,.slice mto ml mtc)]) (oL [0,1,2,3,4,5,6,7,108,109]) ⟨z0,t0,e0,e1,e2,e3,trivial⟩ ?_;clear z0 t0 e0 e1 e2 e3
             repeat refine pO ?_
             refine oO fun Kv hK=>?_;go_simp;obtain ⟨I,hI⟩:∃ I,I=wx.heap.size:=⟨_,rfl⟩;obtain ⟨w5,a3⟩:∃ w5,w5=(wx.alloc (.cells #[.string ⟨#[]⟩,.int .i64 0,.slice none 0 0,.slice none 0 0] 99)).drew:=⟨_,rfl⟩;rw [←hI,←a3];have bv:Below wx.heap.size wx w5:=by rw [a3];exact bE
             have u:=Zh (show Blk w5 I #[.string ⟨#[]⟩,.int .i64 0,.slice none 0 0,.slice none 0 0] 99 by rw [a3];exact (Blk.new' _ _ hI).drew);have D:=Zh bv;have aQ:=Zh (show wx.heap.size≤I by rw [hI];exact Nat.le_refl _);refine hK _ _ ⟨Cs.keeps (Znz.of bv) bm.out,?_⟩;clear hK Kv a3 hI bv;have f0:=u.out.frozen 0;have f1:=u.out.frozen 1;have f2:=u.out.frozen 2;have f3:=u.out.frozen 3;have y0:=u.out.cell 0 (v:=.string ⟨#[]⟩) rfl;have y1:=u.out.cell 1 (v:=.int .i64 0) rfl;have y2:=u.out.cell 2 (v:=.slice none 0 0) rfl;have y3:=u.out.cell 3 (v:=.slice none 0 0) rfl;have c9:=u.out.lt;refine oO fun Kv hK=>?_;go_simp;obtain ⟨V,a4⟩:∃ V,V=(((w5.setCell ⟨I,0,none⟩ (.string nm)).setCell ⟨I,1,none⟩ (.int .i64 sup)).setCell ⟨I,2,none⟩ (.slice fo fs.length fc)).setCell ⟨I,3,none⟩ (.slice mto ml mtc):=⟨_,rfl⟩;rw [←a4];have HC6:=Zh (show Blk V I #[.string nm,.int .i64 sup,.slice fo fs.length fc,.slice mto ml mtc] 99 by rw [a4];exact (((u.out.set 0 (.string nm)).set 1 (.int .i64 sup)).set 2 (.slice fo fs.length fc)).set 3 (.slice mto ml mtc));have M:=Zh (show Below wx.heap.size wx V by rw [a4];exact ZcW (j:=3) (ZcW (j:=2) (ZcW (j:=1) (ZcW (j:=0) D.out aQ.out _) aQ.out _) aQ.out _) aQ.out _);clear a4 f0 f1 f2 f3 y0 y1 y2 y3 c9 u D;refine hK _ _ ⟨Cs.keeps (Znz.of M.out) bm.out,?_⟩;clear hK Kv bm;refine Zd5 ?_;have c1:=HC6.out.cell 1 (v:=.int .i64 sup) rfl;have c2:=HC6.out.cell 2 (v:=.slice fo fs.length fc) rfl;have HBw6:=Zh (Zaf aO.out M.out)
             have bp:=Zh (And.intro (aB.out.1.old M.out) aB.out.2);have HF6:=Zh (HF.out.old M.out)
             -- FIELDS
             by_cases bC:sup ≥ 0
             ·have b4:=Zh (show 0≤sup∧sup<m.cl.length by omega);have bZ:=Zh (show Zar V mo O.length O from ZsM bp.out.1);have dc:=bp.out.2
              go_upto_region 35 with fail
              have bT:=Zh (show Cs [(⟨I,1,none⟩,.int .i64 sup)] V from ⟨c1,trivial⟩);refine rO (Cs [(⟨I,1,none⟩,.int .i64 sup)]) (oL [0,1,2,3,4,5,6,7,108,109,10]) bT.out ?_;clear c1 c2
              iterate 5 (refine pO ?_)
              refine pO (v:=.slice mo O.length O.length) ?_ (hy:=Or.inl ⟨by rfl,by intro w hSw;go_simp⟩)
              repeat refine pO ?_
              refine oO fun Kv hK=>?_;go_simp;obtain ⟨J,hJ⟩:∃ J,J=V.heap.size:=⟨_,rfl⟩;obtain ⟨w7,a5⟩:∃ w7,w7=(V.alloc (.cells #[.int .i64 sup] 3)).drew:=⟨_,rfl⟩;rw [←hJ,←a5];have bw:Below V.heap.size V w7:=by rw [a5];exact bE
              have cS:=Zh (show Blk w7 J #[.int .i64 sup] 3 by rw [a5];exact (Blk.new' _ _ hJ).drew);have bO:=Zh bw;have bR:=Zh (Cs.keeps (Znz.of bw) bT.out);refine hK _ _ ⟨bR.out,?_⟩;clear hK Kv a5 hJ bw;refine oO fun Kv hK=>?_;refine ZsN _ _ rfl mo O rfl (bZ.out.old bO.out) J sup rfl cS.out (by omega) ?_;intro c7 b9 w8 us hus cy aI aH hb8;have HR8:=Zh (And.intro aI.row aH);have HB8:=Zh (Zaf bO.out hb8);have cP:=Zh (show InR m.cl.length us by rw [hus.out];exact aR.out.app (.one b4.out));refine hK _ _ ⟨Cs.keeps (Znz.of hb8) bR.out,?_⟩;clear hK Kv aI aH hb8 hus
              repeat refine pO ?_
              refine Zd5 ?_;have c2:=(HC6.out.old HB8.out).cell 2 (v:=.slice fo fs.length fc) rfl
              go_wp2_with fail
              clear c2
              go_loopw [19,22] (fun c i wr=>∃ (f:Nat) (no:Option Addr) (nc:Nat) (ns:List Int),i=.int .i64 f∧f≤fs.length∧c=.slice no ns.length nc∧ns.length≤O.length+1+f∧Hid (Zar wr no nc ns∧ns.length≤nc)∧Hid (InR m.cl.length ns)∧Hid (Below V.heap.size V wr)) (fun _ i _=>fs.length-(intOf i).toNat)
              case atStart=>exact ⟨0,c7,b9,us,rfl,Nat.zero_le _,rfl,by omega,HR8.out,cP.out,HB8.out⟩
              case round=>
               exact j0
             ·go_wp2_with fail
              clear c1 c2
              go_loopw [19,22] (fun c i wr=>∃ (f:Nat) (no:Option Addr) (nc:Nat) (ns:List Int),i=.int .i64 f∧f≤fs.length∧c=.slice no ns.length nc∧ns.length≤O.length+1+f∧Hid (Zar wr no nc ns∧ns.length≤nc)∧Hid (InR m.cl.length ns)∧Hid (Below V.heap.size V wr)) (fun _ i _=>fs.length-(intOf i).toNat)
              case atStart=>exact ⟨0,mo,mc,O,rfl,Nat.zero_le _,rfl,by omega,bp.out,aR.out,Below.refl _ _⟩
              case round=>
               exact j0
            ·have aJ:¬ (p:Int) < Z.length:=by omega
             go_wp2_with (go_at_call 124;refine (Zek O mo mc _ aB.out.1 (by omega)).mono ?_;rintro e wy ⟨⟨aW,ag,rfl,F⟩,E⟩;have az:=Zh F;have L:=Zh (Zaf (Zaf af.out aO.out) E);clear F E)
             refine ⟨⟨r+1,aW,ag,ZaM O,rfl,hrl,rfl,?_,⟨Zoh.row az.out,ZmB az.out⟩,aR.out.sort,L.out⟩,by simp [intOf];omega⟩;have:=ZsI (Zdv O) aR.out.sort;omega
          ·have cw:¬ (r:Int) < m.cl.length:=by omega
           go_wp2_with (go_at_call 124;refine (Zek T a2 c2 _ (c6.out.old af.out) (by omega)).mono ?_;rintro e wy ⟨⟨aW,ag,rfl,F⟩,E⟩;have L:=Zh (Zaf af.out E);clear F E)
           have bB:=dd;go_wp2;refine bodyPost_ret (v:=.tuple #[.slice bo K.length bc,.slice ao Z.length ac,.slice aW (ZaM T).length ag,.int .i64 0]) (by simp [results,Tryz.results111,go_sem]) rfl ?_;exact ⟨⟨bo,ao,aW,bc,ac,ag,_,_,K,rfl,bX.out.old (Zaf g.out L.out),cR.out,bB⟩,Zaf HB.out (Zaf a7.out L.out)⟩
    ·have e1:((q+1:Nat):Int)-1=q:=by omega
     rw [e1];have dS:(q:Int) ≥ 0:=by omega
     have aZ:q<m.me.length:=by omega
     have dY:IntKind.i64.wrap ((q:Int)-1)=(q:Int)-1:=IntWalk.i64_in _ (by omega);have aP:=Zh (Zoe K bo bc q wq aA.out.row (by omega));by_cases hin:(q:Int)∈K
     ·rw [decide_eq_true hin] at aP;have aS:=Zh (Y.out.add HV.out hk aZ hin);have bS:=Zh (fun w' (hb:Below G.heap.size G w')=>Zod m h q w' (Hj.out.old hb) HV.out aZ);have aX:=Zp4 HV.out aZ;obtain ⟨cv,al⟩:∃ c,c=Zn8 m q:=⟨_,rfl⟩;rw [←al] at aS bS aX;clear al hin;obtain ⟨x0,R,x2,x3⟩:=Zj5 (HX.out.old W.out)
      go_wp2_with (first
       | (go_at_call 169;refine aP.out.mono ?_;rintro e w3 ⟨rfl,b⟩;have N:=Zh (aA.out.old b);have g:=Zh (Zaf W.out b);clear b x0 R x2 x3;obtain ⟨x0,R,x2,x3⟩:=Zj5 (HX.out.old g.out))
       | (go_at_call 64;refine (bS.out _ g.out).mono ?_;rintro e w4 ⟨⟨co,cc,rfl,cu,-⟩,E⟩;have az:=Zh (N.out.old E);have cX:=Zh cu;have L:=Zh (Zaf g.out E);clear E cu x0 R x2 x3)
       | (at_builtin;refine ZsO rfl (.tmp 60) (.tmp 63) rfl G.heap.size bo bc K rfl az.out co cc cv rfl cX.out ⟨by omega,by omega⟩ L.out.size ?_;intro bs aD w5 us hus cy B aa ah;have cV:=Zh B;have D:=Zh (L.out.trans (Zom az.out aa L.out.size));clear B aa ah)
       | (go_at_call 124;refine (Zek us bs aD _ cV.out.row (by omega)).mono ?_;rintro e V ⟨⟨bt,aE,rfl,C⟩,ce⟩;have cW:=Zh C;have M:=Zh (Zaf D.out ce);have b5:=Zh D.out.size;clear C ce))
      exact ⟨⟨q,bt,aE,ZaM us,by omega,rfl,rfl,(by rw [hus.out];exact aS.out),Zed cW.out b5.out,M.out⟩,by simp [intOf]⟩
     ·rw [decide_eq_false hin] at aP;have aS:=Zh (Y.out.skip HV.out hk aZ hin);clear hin
      go_wp2_with (go_at_call 169;refine aP.out.mono ?_;rintro e w3 ⟨rfl,b⟩;have N:=Zh (aA.out.old b);have g:=Zh (Zaf W.out b);clear b)
      exact ⟨⟨q,bo,bc,K,by omega,rfl,rfl,aS.out,N.out,g.out⟩,by simp [intOf]⟩
end
section
open Go.RowKit
theorem ZsQ {w w':World}{g:Nat}{a:Addr}{v:Value} (h:w.cell? a=some v) (c:Upd g g w w') (b:a.block≠g):w'.cell? a=some v:=
 (World.cell?_of_block (w:=w) (c.block _ (Zac h) b b)).trans h
def ZsR (G:(Int→Int)→Wg) (m:Md) (k:Nat):List Int:=Zm0 G m k++List.replicate (m.me.length-k) 0
theorem ZsS {G:(Int→Int)→Wg}{m:Md}{k:Nat} (hk:k≤m.me.length):(ZsR G m k).length=m.me.length:=by unfold ZsR;simp [Zm2];omega
theorem ZsT {G:(Int→Int)→Wg}{m:Md}{k:Nat}:Zsb (ZsR G m k)=fun t=>(Zm0 G m k).getD t.toNat 0:=by
 funext t
 unfold Zsb ZsR;by_cases h:t.toNat<(Zm0 G m k).length
 ·rw [List.getD_eq_getElem?_getD,List.getElem?_append_left h,←List.getD_eq_getElem?_getD]
 ·rw [List.getD_eq_getElem?_getD,List.getElem?_append_right (by omega),List.getD_eq_getElem?_getD,List.getElem?_eq_none (l:=Zm0 G m k) (by omega),List.getElem?_replicate];split<;>rfl
theorem ZsU {G:(Int→Int)→Wg}{m:Md}{k:Nat} (hk:k<m.me.length):(ZsR G m k).set k (Zm1 G m k)=ZsR G m (k+1):=by
 unfold ZsR;rw [List.set_append_right _ _ (by rw [Zm2];omega),Zm2,Nat.sub_self,show m.me.length-k=(m.me.length-(k+1))+1 by omega,List.replicate_succ,List.set_cons_zero];have:Zm0 G m (k+1)=Zm0 G m k++[Zm1 G m k]:=by rw [ZoL];rfl
 rw [this,List.append_assoc];rfl
structure MCx (bv:Int) (x:Ms) (m:Md):Prop where
 hm:Za1 m=true
 sd:∀ k,k<m.me.length→Zrk m (cdM m k)
 ow:∀ k,k<m.me.length→Zr4 bv m x (cdM m k)
 wt:∀ k,k<m.me.length→∀ i∈cdM m k,0≤x.wt i∧x.wt i≤1000
 tl:x.tl=tlV bv
 sc:x.sc=scV bv
theorem MCx.at {bv:Int}{x:Ms}{m:Md} (X:MCx bv x m) {l:Bool}{k:Nat}{L:List Int} (hk:k<m.me.length) (hn:∀ t,Pl l (Zsb L t)):RCx bv x l m k L:=⟨X.hm,hk,X.sd k hk,X.ow k hk,X.wt k hk,X.tl,X.sc,hn⟩
theorem ZsV {m:Md} (h:(Zmg m).2.2=0):MCx 0 ZmV m:=
 have hk:=Zsy h
 ⟨hk.1,hk.2,fun k a=>Zr5 fun i b=>((ZfN hk.1 a).i i b).1,fun k a i b=>ZoH ((ZfN hk.1 a).i i b).1,rfl,rfl⟩
def ZsW (W:World) (h:Hd) (m:Md) (bv:Int) (l:Bool) (L:List Int):Ending→World→Prop:=fun e w'=>(∃ B g,e=.returned (.pointer (some ⟨B,0,none⟩))∧RT w' B g h m bv l L)∧Below W.heap.size W w'
theorem ZsX {bv:Int}{x:Ms}{m:Md} (X:MCx bv x m) (l:Bool) (h:Hd) (w:World) (H:Zay w h m):Calls Tryz.prog 95 #[.agg (HM.mk h m),.int .i64 bv,.bool l] w (ZsW w h m bv l (Zm0 (gR l x m) m m.me.length)):=by
 have aw:=(Zse X.hm).2;have O:=run_make_row' (P:=Tryz.prog) 34 3 (.int .i64 0) 8 Tryz.underlying34 (by kernel_rfl) rfl .i64 .i64 m.me.length (by omega) (by omega);rw [Zcn] at O;obtain ⟨j,A⟩:∃ j,j=w.alloc (.cells (HM.mk h m) 26):=⟨_,rfl⟩;have HB:=Zh (show Below w.heap.size w j by rw [A];exact bE);have b:=Zh (show Blk j w.heap.size (HM.mk h m) 26 by rw [A];exact Blk.new _ _ _);have Hj:=Zh (H.old HB.out);have HW:=Zh A;have ag:=Zh X;clear A H X;go_enter Tryz.func95,Tryz.ntmps95
 go_upto_region 1 with fail
 rw [←HW.out];refine rO (Cs [(⟨w.heap.size,0,none⟩,.slice h.co m.cl.length h.cc),(⟨w.heap.size,1,none⟩,.slice h.so m.st.length h.sc),(⟨w.heap.size,2,none⟩,.slice h.eo m.me.length h.ec),(⟨w.heap.size,3,none⟩,.int .i64 m.sel)]) (oL [0,1,2,3,4,5,106,7,108,9]) ⟨b.out.cell 0 rfl,b.out.cell 1 rfl,b.out.cell 2 rfl,b.out.cell 3 rfl,trivial⟩ ?_
 repeat refine pO ?_
 refine oO fun F q=>?_;go_simp;refine q _ _ ⟨Cs.keeps (Znz.of bE) (show Cs _ j from ⟨b.out.cell 0 rfl,b.out.cell 1 rfl,b.out.cell 2 rfl,b.out.cell 3 rfl,trivial⟩),?_⟩;clear q F
 repeat refine pO ?_
 refine oO fun F q=>?_;go_simp;refine q _ _ ⟨Cs.keeps (Znz.of bE) (show Cs _ j from ⟨b.out.cell 0 rfl,b.out.cell 1 rfl,b.out.cell 2 rfl,b.out.cell 3 rfl,trivial⟩),?_⟩;clear q F
 repeat refine pO ?_
 refine Zd5 ?_;go_wp2;clear O;obtain ⟨R,C⟩:∃ R,R=((j.alloc (Obj.cells (Array.replicate m.me.length (Value.int IntKind.i64 0)) 3)).alloc (Obj.cells #[Value.slice h.co m.cl.length h.cc,Value.slice h.so m.st.length h.sc,Value.slice h.eo m.me.length h.ec,Value.int IntKind.i64 m.sel,Value.int IntKind.i64 bv,Value.bool l,Value.slice (some { block:=j.heap.size,off:=0 }) m.me.length m.me.length] 132)).drew:=⟨_,rfl⟩;rw [←C];obtain ⟨g,W⟩:∃ g,g=j.heap.size:=⟨_,rfl⟩;obtain ⟨B,z⟩:∃ B,B=j.heap.size+1:=⟨_,rfl⟩;have u:=Zh (show Below j.heap.size j R by rw [C];exact bE);have ac:=Zh (show RT R B g h m bv l (ZsR (gR l x m) m 0) from by
  rw [C,W,z];refine ⟨?_,?_,Hj.out.old bE,ZsS (Nat.zero_le _)⟩
  ·exact Blk.drew (Blk.new' _ _ (by simp))
  ·have:ZpN (ZsR (gR l x m) m 0)=Array.replicate m.me.length (Value.int IntKind.i64 0):=by unfold ZpN ZsR Zm0;rw [List.nil_append,Nat.sub_zero,List.map_replicate,List.toArray_replicate]
   rw [this];exact Blk.drew ((Blk.new j _ _).alloc _))
 have n:=Zh (show j.heap.size≤g∧B≠g∧w.heap.size<g by rw [W,z];have:=b.out.lt;omega);rw [←z,←W];clear C W z
 go_loopw [8] (fun i wr=>∃ k:Nat,k≤m.me.length∧i=.int .i64 k∧Hid (RT wr B g h m bv l (ZsR (gR l x m) m k))∧Hid (∀ t,Pl l (Zsb (ZsR (gR l x m) m k) t))∧Hid (Upd g g R wr)) (fun i _=>m.me.length-(intOf i).toNat)
 case atStart=>
  refine ⟨0,Nat.zero_le _,rfl,ac.out,fun t=>?_,Upd.refl _ _ _⟩;rw [ZsT];unfold Zm0;exact Pl.of (by show Bd (([]:List Int).getD _ 0);simp [Bd])
 case round=>
  obtain ⟨k,hk,rfl,U,HN,V⟩:=hrel;rename World=>wo;by_cases hkl:k<m.me.length
  ·have an:(k:Int) < m.me.length:=by omega
   have ax:IntKind.i64.wrap ((k:Int)+1)=((k+1:Nat):Int):=IntWalk.i64_in _ (by omega);have X:=ag.out.at (l:=l) (L:=ZsR (gR l x m) m k) hkl HN.out;have HP:=Zh (ZsG (B:=B) (g:=g) (h:=h) X (cdM m k).length 0 (cdM m k).length (by omega) (Zmq X.ok.n));obtain ⟨I,he,-,-,-,-,-,-,D⟩:=Hj.out.mth hkl;rw [show (m.me.getD k default).k.length=(cdM m k).length from rfl] at D;have J:=Zh (V.out.below u.out (Nat.le_refl _) n.out.1 n.out.1);have N:=Nat.lt_of_lt_of_le (Zac D) n.out.1;have D:=(J.out.cell (Zac D)).trans D;have T:=(b.out.old J.out).cell 2 (v:=.slice h.eo m.me.length h.ec) rfl;rw [he] at T;have aa:=Zh N;have ao:=Zh he;clear N he;have t6:=U.out.tb.cell 6 (v:=.slice (some ⟨g,0,none⟩) m.me.length m.me.length) rfl;have X2:=Zh X;clear X
   go_upto_region 5 with fail
   have Z:=Zh (show Cs [(⟨B,6,none⟩,.slice (some ⟨g,0,none⟩) m.me.length m.me.length),(⟨w.heap.size,2,none⟩,.slice (some I) m.me.length h.ec),(⟨(I.add (k*7)).block,(I.add (k*7)).off+6,none⟩,.slice (h.e k).ko (cdM m k).length (h.e k).kc)] wo from ⟨t6,T,D,trivial⟩);refine rO (Cs [(⟨B,6,none⟩,.slice (some ⟨g,0,none⟩) m.me.length m.me.length),(⟨w.heap.size,2,none⟩,.slice (some I) m.me.length h.ec),(⟨(I.add (k*7)).block,(I.add (k*7)).off+6,none⟩,.slice (h.e k).ko (cdM m k).length (h.e k).kc)]) (oL [0,1,2,3,4,5,6,7,8,9,10,11,12,13,14,15,16,17,18,119,20,121]) ⟨t6,T,D,trivial⟩ ?_;clear t6 T D
   repeat refine pO ?_
   refine oO fun F q=>?_;go_simp;refine (HP.out _ (U.out.old (Below.refl _ _).drew)).mono ?_;rintro e w3 ⟨rfl,M⟩;have E:=Zh (Zaf (Below.refl wo.heap.size wo).drew M);have y:=Zh (U.out.old E.out);have f:=Zh (Cs.keeps (Znz.of E.out) Z.out);refine q _ _ ⟨f.out,?_⟩;clear q F M
   repeat refine pO ?_
   refine oO fun F q=>?_;have g0:=ZpP y.out.nb (k:=k) (by rw [ZsS hk];exact hkl);have f0:=y.out.nb.frozen k;go_simp;obtain ⟨v,hv⟩:∃ v,v=WA (GR x l m (ZsR (gR l x m) m k)) (cdM m k) 0 (cdM m k).length 0:=⟨_,rfl⟩;rw [←hv];obtain ⟨Y,s⟩:∃ Y,Y=w3.setCell ⟨g,k,none⟩ (.int .i64 v):=⟨_,rfl⟩;have r:Upd g g w3 Y:=by rw [s];exact (Upd.refl g g w3).set k _
   have G:v=Zm1 (gR l x m) m k:=by rw [hv,ZoL];show WA (gR l x m (Zsb _)) _ _ _ _=_;rw [ZsT]
   have ae:=Zh (show Pl l v by rw [hv];exact X2.out.wa (Zmq X2.out.ok.n) (Pl.of (by unfold Bd;omega)));have K:=Zh ((V.out.bel E.out).trans r);have ad:=Zh (show RT Y B g h m bv l (ZsR (gR l x m) m (k+1)) from by
    refine ⟨?_,?_,Hj.out.old (K.out.below u.out (Nat.le_refl _) n.out.1 n.out.1),ZsS hkl⟩
    ·rw [s];exact y.out.tb.other (a:=⟨g,k,none⟩) n.out.2.1 _
    ·rw [s,←ZsU hkl,←G];exact ZpO y.out.nb _)
   rw [←s];refine q _ _ ⟨⟨ZsQ f.out.1 r n.out.2.1,ZsQ f.out.2.1 r (by have:=n.out.2.2;dsimp only;omega),ZsQ f.out.2.2.1 r (by have:=aa.out;omega),trivial⟩,?_⟩;clear q F g0 f0 s r hv;have af:=Zh G;clear G;refine Zd5 ?_;go_wp2;refine ⟨⟨k+1,hkl,rfl,ad.out,fun t=>?_,K.out⟩,by simp [intOf];omega⟩;rw [←ZsU hkl,←af.out];unfold Zsb;rw [ZpW _ _ _ (by rw [ZsS hk];exact hkl)];split
   ·exact ae.out
   ·exact HN.out t
  ·obtain rfl:k=m.me.length:=by omega
   have av:¬ (m.me.length:Int) < m.me.length:=by omega
   have T:=(b.out.old (V.out.below u.out (Nat.le_refl _) n.out.1 n.out.1)).cell 2 (v:=.slice h.eo m.me.length h.ec) rfl;go_wp2;go_ret;have hz:ZsR (gR l x m) m m.me.length=Zm0 (gR l x m) m m.me.length:=by unfold ZsR;simp
   exact ⟨⟨B,g,rfl,hz▸U.out⟩,Zaf HB.out (V.out.below u.out (Nat.le_refl _) n.out.1 n.out.1)⟩
end
