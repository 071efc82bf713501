import Derived.Test.YtcfjblcgceednaaGreatJ31
import Derived.Test.YtcfjblcgceednaaGreatJ29
import Derived.Test.YtcfjblcgceednaaGreatJ25
set_option linter.all false
set_option maxRecDepth 100000
set_option maxHeartbeats 16000000
namespace Go.Proofs.YtcfjblcgceednaaGreat
theorem j3{p:Prop}(h:p:=by
 exact ⟨0,ls,_,_,tn,rfl,HE.out,⟨by omega,rfl,HS.out,fun _=>(by have:=HN.out;omega),fun q=>(by omega)⟩,HF.out⟩):p:=h
theorem j7{p:Prop}(h:p:=by
 exact ⟨4,ls,_,_,tn,rfl,HE.out,⟨by omega,rfl,HS.out,fun q=>(by omega),fun q=>(by omega)⟩,HF.out⟩):p:=h
section
open Go.RowKit
attribute [local go_sem] World.cell?_alloc_some
theorem Zqf {w w':World}{N:Nat}{ko:Option Addr}{kc:Nat}{c:List In3} (h:Zar w ko kc c) (f:0<c.length→∀ a,ko=some a→a.block<N) (d:Below N w w'):Zar w' ko kc c:=
 SlA.below h d fun a j u b e=>f (by cases c with|nil=>simp [Zak] at e|cons _ _=>simp) a b
def FrE (N:Nat) (w w':World):Prop:=Below N w w'∧∀ b xs t,t≠3→t≠44→t≠127→Blk w b xs t→Blk w' b xs t
theorem FrE.refl (N:Nat) (w:World):FrE N w w:=⟨Below.refl _ _,fun _ _ _ _ _ _ h=>h⟩
theorem FrE.trans {N:Nat}{a b c:World} (h:FrE N a b) (g:FrE N b c):FrE N a c:=⟨h.1.trans g.1,fun x i t d e f j=>g.2 x i t d e f (h.2 x i t d e f j)⟩
theorem FrE.of {N:Nat}{w w':World} (hN:N≤w.heap.size) (h:Below w.heap.size w w'):FrE N w w':=⟨h.mono hN,fun _ _ _ _ _ _ a=>a.old h⟩
theorem FrE.set {N:Nat}{w:World}{B:Nat}{X:Array Value}{t0:TypeId} (sz:N≤B) (hb:Blk w B X t0) (h0:t0=3∨t0=44∨t0=127) (j:Nat) (v:Value):FrE N w (w.setCell ⟨B,j,none⟩ v):=
 ⟨(Below.refl N w).setCell sz v,fun b f t a d e h=>h.other (by
  rcases h0 with rfl|rfl|rfl
  ·exact ZhZ h hb a
  ·exact ZhZ h hb d
  ·exact ZhZ h hb e) v⟩
theorem FrE.grown {N:Nat}{w w':World}{row:Option Nat} (hg:w.grownBy w' row) (hN:N≤w.heap.size) (hr:∀ k,row=some k→N≤k∧∃ cur t0,Blk w k cur t0∧(t0=3∨t0=44)):FrE N w w':=
 ⟨(Below.refl N w).grown hg hN (fun k i=>(hr k i).1),fun b l t f g j h=>h.grownV hg (fun e=>by
  obtain ⟨_,cur,t0,a,d⟩:=hr b e.symm
  rcases d with rfl|rfl
  ·exact ZhZ h a f rfl
  ·exact ZhZ h a g rfl)⟩
theorem FrE.drew {N:Nat}{a b:World} (h:FrE N a b):FrE N a b.drew:=⟨h.1.drew,h.2⟩
def EvI (N:Nat) (w:World) (B:Nat) (L:LQ) (ko:Option Addr) (kc:Nat) (c:List In3) (ls:List Int) (sn sc:Nat) (lf cs:Int) (tn:Nat):Ending→World→Prop:=fun e w'=>(∃ z,e=.returned (.int .i64 z))∧EvA N w' B L ko kc c ls sn sc lf cs tn∧FrE N w w'
def EvN (N:Nat) (w:World) (B:Nat) (L:LQ) (ko:Option Addr) (kc:Nat) (c:List In3) (ls:List Int) (sn sc:Nat) (lf cs:Int) (tn:Nat):Ending→World→Prop:=fun e w'=>e=.returned (.tuple #[])∧(∃ sc',sc≤sc'∧EvA N w' B L ko kc c ls sn sc' lf cs tn)∧FrE N w w'
theorem Zqg {w:World}{N B:Nat}{X:Array Value}{b:Value}{tn:Nat}{xs:List Value} (a:w.ownsRow N 44 2 b tn xs) (e:Blk w B X 127) (j:Nat) (v:Value):(w.setCell ⟨B,j,none⟩ v).ownsRow N 44 2 b tn xs:=
 ZhI a fun k g=>by
  obtain ⟨d,f⟩:=Zo6 a g
  exact heap_setCell_other w _ k v (ZhZ f e (by decide))
section
variable {N:Nat}{w:World}{B:Nat}{L:LQ}{ko:Option Addr}{kc:Nat}{c:List In3}{ls:List Int}{sn sc:Nat}{lf cs:Int}{tn:Nat}
theorem Zqh {d:Option Addr}{f:Value}{xs:List Value}{X:Array Value} (l:N≤B) (q:Zar w ko kc c) (k:0<c.length→∀ a,ko=some a→a.block<N) (b:Blk w B X 127) (h:Blk w L.l (ls.map (Value.int .i64)).toArray 3) (n:N≤L.l) (i:Rm w N d sn sc) (e:∀ g,d=some ⟨g,0,none⟩→g≠L.l) (r:w.ownsRow N 44 2 f tn xs) (j:Nat) (v:Value)
  (o:X.setIfInBounds j v=evC ko kc c ls.length L.l d sn sc lf cs L.ov L.r L.t f) (iv:0≤lf∧lf≤100000∧0≤cs∧cs≤1000*(100000-lf)∧sn≤100∧tn+lf≤100000):EvA N (w.setCell ⟨B,j,none⟩ v) B L ko kc c ls sn sc lf cs tn:=by
 refine ⟨⟨d,f,xs,by have:=b.set j v;rwa [o] at this,h.other (by exact ZhZ h b (by decide)) v,n,i.eq fun g p=>?_,e,Zqg r b j v⟩,l,Zqf q k ((Below.refl N w).setCell l v),k,iv⟩;obtain ⟨_,_,_,m⟩:=i.lt p;exact heap_setCell_other w _ g v (ZhZ m b (by decide))
section
variable (H:EvA N w B L ko kc c ls sn sc lf cs tn)
include H
theorem EvA.drew:EvA N w.drew B L ko kc c ls sn sc lf cs tn:=⟨H.ex,H.sz,H.k,H.kl,H.iv⟩
theorem EvA.lo:N≤w.heap.size:=by obtain ⟨⟨b,e,f,a,_⟩,d,_⟩:=H;have:=a.lt;omega
theorem Zqi (X:0<sn):Calls Tryz.prog 93 #[ZQ.p B] w (EvI N w B L ko kc c ls (sn-1) sc lf cs tn):=by
 obtain ⟨k,p⟩:∃ k,sn=k+1:=⟨sn-1,by omega⟩;rw [show sn-1=k by omega];obtain ⟨⟨so,tv,xs,f,I,F,u,q,J⟩,O,G,M,A⟩:=H;have r:=u.room;obtain ⟨g,z,rfl,R,y,K⟩:=u.top (j:=k) (by omega);have E:=Zqh (sn:=k) (lf:=lf) (cs:=cs) O G M f I F (u.shorter (by omega)) q J 2 (.slice (some ⟨g,0,none⟩) k sc) rfl (by omega);have D:=Zh E;have i:=Zh (FrE.set O f (.inr (.inr rfl)) 2 (.slice (some ⟨g,0,none⟩) k sc));have s:=f.cell 2 (v:=.slice (some ⟨g,0,none⟩) sn sc) rfl;have f2:=f.frozen 2;have kb:=f.lt;obtain ⟨e,b⟩:∃ e,e=(⟨g,0,none⟩:Addr):=⟨_,rfl⟩;have C:w.cell? (e.add k)=some (.int .i64 z):=by
  rw [b];have:(⟨g,0,none⟩:Addr).add k=⟨g,k,none⟩:=by unfold Addr.add;split<;>simp_all
  rw [this];exact K
 rw [←b] at D i s;have Y:IntKind.i64.wrap ((sn:Int)-1)=(k:Int):=by rw [show (sn:Int)-1=(k:Int) by omega];exact IntWalk.i64_in _ (by omega)
 have T:k<sn:=by omega
 have U:(k:Int) < sn:=by omega
 have V:k≤sc:=by omega
 have W:(k:Int)≤sc:=by omega
 have Z:=Zh (And.intro p r);clear E u I F q J G M K y R b f A p r X;go_enter Tryz.func93,Tryz.ntmps93
 go_upto_region 1 with fail
 refine rO (Cs [(⟨B,2,none⟩,.slice (some e) sn sc),(e.add k,.int .i64 z)]) (oL [0,1,2,3,4,5,6,7,8,9,10,11,12]) ⟨s,C,trivial⟩ ?_
 repeat refine pO ?_
 refine Zd5 ?_
 go_upto_region 2 with fail
 refine rE (Cs [(⟨B,2,none⟩,.slice (some e) sn sc)]) 14 (oL [0,1,2,3,4,5,6,7,8,9,10,11,112,13]) ⟨s,trivial⟩ ?_
 repeat refine pE ?_
 refine oE fun x m=>?_;go_simp;refine m _ _ ⟨⟨s,trivial⟩,?_⟩;clear m x
 repeat refine pE ?_
 refine sE fun x m=>?_;go_simp;refine m _ _ ?_;clear m x;go_wp2;go_ret;exact ⟨⟨z,rfl⟩,D.out.drew.drew,i.out.drew.drew⟩
theorem Zqj (hs:sn≤50) (x:Int):Calls Tryz.prog 215 #[ZQ.p B,.int .i64 x] w (EvN N w B L ko kc c ls (sn+1) sc lf cs tn):=by
 have A:=H.lo;obtain ⟨⟨I,tv,xs,Q,V,F,S,j,R⟩,J,m,D,z⟩:=H;obtain ⟨C,l⟩:∃ C,C=w.alloc (.cells #[.int .i64 x] 3):=⟨_,rfl⟩;have b:Below w.heap.size w C:=by rw [l];exact bE
 have P:Blk C w.heap.size #[.int .i64 x] 3:=by rw [l];exact Blk.new _ _ _
 have T:C.heap.size=w.heap.size+1:=by rw [l];simp only [World.alloc,Array.size_push]
 have a:Rm C N I sn sc:=S.eq fun g G=>b.block g (S.lt G).2.1;have u:=Q.old b;have i:=V.old b;have d:=ZhI R (w':=C) fun k m=>b.block k (R.lt k m).2;have n:=Zqf m D (b.mono A);have M:=Zh (FrE.of A b);have s:=Zh (And.intro a (And.intro P (And.intro T A)));have K:=Zh (And.intro u (And.intro i ((And.intro F (And.intro j (And.intro d (And.intro n (And.intro D (And.intro J z)))))))));have X:=Q.cell 2 (v:=.slice I sn sc) rfl;have W:=Zh l;clear b P T a u i d n Q V F S j R m D z l;go_enter Tryz.func215,Tryz.ntmps215
 go_wp2_with (at_builtin;rw [←W.out];refine Zo5 rfl (.tmp 8) (.tmp 10) rfl N I sn sc rfl s.out.1 _ x rfl s.out.2.1 (by omega) (by have:=s.out.2.2.1;have:=s.out.2.2.2;omega) ?_;intro ab U w2 o q r y;have O:=Zh (And.intro o (And.intro q r));have f:=K.out.1.grownV y (fun e=>ZhZ (s.out.1.lt (s.out.1.own e.symm)).2.2.choose_spec K.out.1 (by decide) rfl);have E:=Zh f;have t:=Zh y;have X:=f.cell 2 (v:=.slice I sn sc) rfl;have f2:=f.frozen 2;have kb:=f.lt;clear o q r y f)
 obtain ⟨o,q,r⟩:=O.out;obtain ⟨u,i,F,j,d,n,D,J,z⟩:=K.out;obtain ⟨a,P,T,-⟩:=s.out;have hF:=FrE.grown t.out (N:=N) (by omega) fun k m=>by have h:=a.lt (a.own m);exact ⟨h.1,_,_,h.2.2.choose_spec,.inl rfl⟩
 have aa:=i.lt;go_end0;refine ⟨rfl,⟨U,q,Zqh J (Zqf n D hF.1) D E.out (i.grownV t.out fun e=>j _ (a.own e.symm) rfl) F o (fun g G=>?_) (ZhI d fun k m=>t.out.block k (d.lt k m).2 fun e=>?_) 2 _ rfl (by omega)⟩,M.out.trans (hF.trans (FrE.set J E.out (.inr (.inr rfl)) 2 _))⟩
 ·rcases r with rfl|⟨g',rfl,hg'⟩
  ·exact j g G
  ·cases G;omega
 ·obtain ⟨Y,Z⟩:=Zo6 d m;exact ZhZ Z (a.lt (a.own e.symm)).2.2.choose_spec (by decide) rfl
end
theorem Zqk:∀ n,n<36→1≤opC.getD n 0:=by decide
theorem Zql {i:In3} (h:ZaQ false i=true):1≤ZmU i:=by
 have f:=ZfQ h;have g:=Zqk i.op.toNat (by omega);have d:i.op=15∨i.op=16→0≤i.a:=fun q=>by
  obtain ⟨j,a,b⟩:=i;dsimp only at q ⊢;simp only [ZaQ,Bool.and_eq_true] at h;have e:=h.1.1.2;rcases q with rfl|rfl<;>(simp [opA,inR,ZaP,inI,ZaO] at e;omega)
 unfold ZmU;split
 ·rename_i q;have:=d q;omega
 ·omega
theorem Zqm (H:EvA N w B L ko kc c ls sn sc lf cs tn) (i:In3) (x:ZaQ false i=true) (P:0<lf):Calls Tryz.prog 150 #[ZQ.p B,ZI.i i] w (fun e w'=>e=.returned (.tuple #[])∧EvA N w' B L ko kc c ls sn sc (lf-1) (cs+ZmU i) tn∧FrE N w w'):=by
 have l:=H.lo;have u:=ZpG x;obtain ⟨v,I⟩:∃ v,v=ZmU i:=⟨_,rfl⟩;have h:=Zh (fun w'=>Zp0 i w' x);rw [←I] at h u ⊢;obtain ⟨s,f⟩:∃ s,s=w.alloc (.cells #[.int .i64 i.op,.int .i64 i.a,.int .i64 i.b] 78):=⟨_,rfl⟩;have j:Below w.heap.size w s:=by rw [f];exact bE
 have n:=Zh (show Blk s w.heap.size #[.int .i64 i.op,.int .i64 i.a,.int .i64 i.b] 78 by rw [f];exact Blk.new _ _ _);have O:=Zh H;have D:=Zh f;have t:=Zh j;clear H f j I x;obtain ⟨U,R,S⟩:=i;dsimp only at n D h;go_enter Tryz.func150,Tryz.ntmps150
 go_upto_region 1 with fail
 rw [←D.out];have V:=n.out.cell 0 (v:=.int .i64 U) rfl;have W:=n.out.cell 1 (v:=.int .i64 R) rfl;have X:=n.out.cell 2 (v:=.int .i64 S) rfl
 go_upto_region 2 with (go_at_call 214;refine (h.out _).mono ?_;rintro e J ⟨rfl,a⟩;have b:=Zh (Zaf t.out a);clear a V W X)
 obtain ⟨⟨so,tv,xs,F,z,E,q,m,A⟩,r,o,C,y⟩:=O.out;have a:=F.old b.out;have d:=a.set 7 (.int .i64 (cs+v));have K:=Zh (Zqh (w:=J.setCell ⟨B,7,none⟩ (.int .i64 (cs+v))) (sn:=sn) (lf:=lf-1) (cs:=cs+v) (tn:=tn) r (Zqf o C (((b.out).mono l).setCell r _)) C d ((z.old b.out).other (by exact ZhZ (z.old b.out) a (by decide)) _) E (q.eq fun g G=>(heap_setCell_other J _ g _ (ZhZ ((q.lt G).2.2.choose_spec.old b.out) a (by decide))).trans (b.out.block g (q.lt G).2.1)) m (Zqg (ZhI A fun k o=>b.out.block k (A.lt k o).2) a 7 _) 3 (.int .i64 (lf-1)) rfl (by omega));have M:=Zh ((FrE.of l b.out).trans ((FrE.set r a (.inr (.inr rfl)) 7 (.int .i64 (cs+v))).trans (FrE.set r d (.inr (.inr rfl)) 3 (.int .i64 (lf-1)))));have f:IntKind.i64.wrap (cs+v)=cs+v:=IntWalk.i64_in _ (by omega);have Q:IntKind.i64.wrap (lf-1)=lf-1:=IntWalk.i64_in _ (by omega);have Z:=a.cell 7 (v:=.int .i64 cs) rfl;have f7:=a.frozen 7;have kb:=a.lt;have Y:=d.cell 3 (v:=.int .i64 lf) rfl;have f3:=d.frozen 3;have T:=d.lt;clear F z E q m A o C y a d;go_wp2;go_end0;exact ⟨rfl,K.out,M.out⟩
end
end
section
open Go.RowKit
attribute [local go_sem] World.cell?_alloc_some
def Zqn (w:World):Ending→World→Prop:=fun e w'=>(∃ z er,e=.returned (.tuple #[.int .i64 z,.int .i64 er]))∧w=w'
theorem Zqo (a b:Int) (w:World):Calls Tryz.prog 287 #[.int .i64 a,.int .i64 b] w (Zqn w):=by
 cases hv:vB a&&vB b
 ·exact (Znq a b w hv).mono fun e d h=>⟨⟨_,_,h.1⟩,h.2⟩
 ·by_cases hb:b=0
  ·subst hb;exact (Znr a w (by simp only [Bool.and_eq_true] at hv;exact hv.1)).mono fun e d h=>⟨⟨_,_,h.1⟩,h.2⟩
  ·exact (Zns a b w hv hb).mono fun e d h=>⟨⟨_,_,h.1⟩,h.2⟩
def Zqp (w:World):Ending→World→Prop:=fun e w'=>(∃ z ok,e=.returned (.tuple #[.int .i64 z,.bool ok]))∧w=w'
theorem Zqq (d a b:Int) (w:World) (f:11≤d) (g:d≤16):Calls Tryz.prog 216 #[.int .i64 d,.int .i64 a,.int .i64 b] w (Zqp w):=by
 rcases (show d=11∨d=12∨d=13∨d=14∨d=15∨d=16 by omega) with rfl|rfl|rfl|rfl|rfl|rfl
 all_goals
  clear f g;go_enter Tryz.func216,Tryz.ntmps216
  go_wp2_with (first
   | (go_at_call 94;refine (Znk _ _).mono ?_;rintro e h ⟨rfl,rfl⟩)
   | (go_at_call 287;refine (Zqo _ _ _).mono ?_;rintro e h ⟨⟨z,i,rfl⟩,rfl⟩))
  all_goals
   go_ret2;exact ⟨⟨_,_,rfl⟩,rfl⟩
-- printed by gen_eval.py
def Zqr (op:Int):Nat × Nat:=if op=1∨op=2 then (0,1) else if op=3∨op=4∨op=27 then (1,0) else if op=5 then (1,2) else if op=6∨op=7∨op=8∨op=9∨op=10∨op=11 then (2,1) else (0,0)
theorem Zqs:El Tryz.prog 39 44 2 16:=El.mk' (z:=.agg #[.int .i64 0,.int .i64 0]) Tryz.underlying39 (by kernel_rfl) (by kernel_rfl) (by decide)
def EvP (N:Nat) (w:World) (B:Nat) (L:LQ) (ko:Option Addr) (kc:Nat) (c:List In3) (nl sn' sc:Nat) (lf cs:Int) (op:Int):Ending→World→Prop:=fun e w'=>∃ (t:Int) (ls:List Int) (sn2 sc2 tn2:Nat),e=.returned (.int .i64 t)∧EvA N w' B L ko kc c ls sn2 sc2 lf cs tn2∧(0≤t∧ls.length=nl∧sc≤sc2∧(t=0→sn2=sn')∧(op=28→t≠0))∧FrE N w w'
section
variable {N:Nat}{w:World}{B:Nat}{L:LQ}{ko:Option Addr}{kc:Nat}{c:List In3}{ls:List Int}{sn sc:Nat}{lf cs:Int}{tn:Nat}
theorem EvA.cells (H:EvA N w B L ko kc c ls sn sc lf cs tn):N≤B∧B<w.heap.size∧w.cell? ⟨B,0,none⟩=some (.slice ko c.length kc)∧w.cell? ⟨B,1,none⟩=some (.slice (some ⟨L.l,0,none⟩) ls.length ls.length)∧(∃ so,w.cell? ⟨B,2,none⟩=some (.slice so sn sc))∧w.cell? ⟨B,3,none⟩=some (.int .i64 lf)∧w.cell? ⟨B,7,none⟩=some (.int .i64 cs):=by obtain ⟨⟨so,d,e,a,_⟩,b,_⟩:=H;exact ⟨b,a.lt,a.cell 0 rfl,a.cell 1 rfl,⟨so,a.cell 2 rfl⟩,a.cell 3 rfl,a.cell 7 rfl⟩
theorem EvA.loc (H:EvA N w B L ko kc c ls sn sc lf cs tn) {j:Nat} (hj:j<ls.length):L.l<w.heap.size∧w.cell? ((⟨L.l,0,none⟩:Addr).add j)=some (.int .i64 (ls.getD j 0))∧w.frozen? ((⟨L.l,0,none⟩:Addr).add j)=false:=by
 obtain ⟨⟨d,f,g,b,a,_⟩,e,_⟩:=H;have:(⟨L.l,0,none⟩:Addr).add j=⟨L.l,j,none⟩:=by unfold Addr.add;split<;>simp_all
 rw [this];exact ⟨a.lt,a.cell j (by simp [hj]),a.frozen j⟩
theorem EvA.old {w':World} (H:EvA N w B L ko kc c ls sn sc lf cs tn) (hb':Below w.heap.size w w'):EvA N w' B L ko kc c ls sn sc lf cs tn:=by have d:=H.lo;obtain ⟨⟨o,q,r,l,n,j,h,e,f⟩,p,b,i,a⟩:=H;exact ⟨⟨o,q,r,l.old hb',n.old hb',j,h.eq fun g m=>hb'.block g (h.lt m).2.1,e,ZhI f fun k b=>hb'.block k (f.lt k b).2⟩,p,Zqf b i (hb'.mono d),i,a⟩
theorem EvA.setL (H:EvA N w B L ko kc c ls sn sc lf cs tn) (j:Nat) (v:Int):EvA N (w.setCell ((⟨L.l,0,none⟩:Addr).add j) (.int .i64 v)) B L ko kc c (ls.set j v) sn sc lf cs tn∧FrE N w (w.setCell ((⟨L.l,0,none⟩:Addr).add j) (.int .i64 v)):=by
 have p:(⟨L.l,0,none⟩:Addr).add j=⟨L.l,j,none⟩:=by unfold Addr.add;split<;>simp_all
 rw [p];obtain ⟨⟨r,t,u,h,b,d,q,a,i⟩,s,f,l,e⟩:=H;refine ⟨⟨⟨r,t,u,?_,?_,d,q.eq fun g o=>heap_setCell_other w _ g _ (a g o),a,ZhI i fun k f=>?_⟩,s,Zqf f l ((Below.refl N w).setCell d _),l,e⟩,FrE.set d b (.inl rfl) j _⟩
 ·rw [List.length_set];exact h.other (by exact ZhZ h b (by decide)) _
 ·have:=b.set j (.int .i64 v);simpa [List.map_set] using this
 ·obtain ⟨m,n⟩:=Zo6 i f;exact heap_setCell_other w _ k _ (ZhZ n b (by decide))
theorem Zqt (H:EvA N w B L ko kc c ls sn sc lf cs tn) (i:In3) (D:(0≤i.op∧i.op≤11)∨i.op=27∨i.op=28) (E:(Zqr i.op).1≤sn) (F:sn≤12) (hl:i.op=2∨i.op=3→0≤i.a∧i.a<ls.length) (m:i.op=28→0≤i.a∧i.a≤100) (aI:tn+lf≤99999):Calls Tryz.prog 153 #[ZQ.p B,ZI.i i] w (EvP N w B L ko kc c ls.length (sn-(Zqr i.op).1+(Zqr i.op).2) sc lf cs i.op):=by
 have Y:=H.lo;obtain ⟨w1,ai⟩:∃ w1,w1=w.alloc (.cells #[.int .i64 i.op,.int .i64 i.a,.int .i64 i.b] 78):=⟨_,rfl⟩;have aq:Below w.heap.size w w1:=by rw [ai];exact bE
 have f:=Zh (show Blk w1 w.heap.size #[.int .i64 i.op,.int .i64 i.a,.int .i64 i.b] 78 by rw [ai];exact Blk.new _ _ _);have HE:=Zh (H.old aq);have HF:=Zh (FrE.of Y aq);have O:=Zh ai;have HS:=Zh (Nat.le_refl sc);have HL:=Zh hl;have HT:=Zh aI;clear H ai aq Y hl aI;obtain ⟨V,y,ib⟩:=i;dsimp only at f O D E HL m ⊢;rcases (show V=0∨V=1∨V=2∨V=3∨V=4∨V=5∨V=6∨V=7∨V=8∨V=9∨V=10∨V=11∨V=27∨V=28 by omega) with rfl|rfl|rfl|rfl|rfl|rfl|rfl|rfl|rfl|rfl|rfl|rfl|rfl|rfl
 ·have HN:=Zh (show (Zqr 0).1≤sn∧sn≤12 from ⟨E,F⟩);clear D E F;have A:=Zh m;clear m;simp only [show Zqr 0=(0,0) from rfl] at HN ⊢;go_enter Tryz.func153,Tryz.ntmps153
  go_upto_region 1 with fail
  rw [←O.out];have x:=f.out.cell 0 (v:=.int .i64 0) rfl;have s:=f.out.cell 1 (v:=.int .i64 y) rfl;go_wp2;go_ret;exact j3
 ·have HN:=Zh (show (Zqr 1).1≤sn∧sn≤12 from ⟨E,F⟩);clear D E F;have A:=Zh m;clear m;simp only [show Zqr 1=(0,1) from rfl] at HN ⊢;go_enter Tryz.func153,Tryz.ntmps153
  go_upto_region 1 with fail
  rw [←O.out];have x:=f.out.cell 0 (v:=.int .i64 1) rfl;have s:=f.out.cell 1 (v:=.int .i64 y) rfl
  go_wp2_with (go_at_call 215;refine (Zqj HE.out (by have:=HN.out;omega) _).mono ?_;rintro e w3 ⟨rfl,⟨K,j,r⟩,hF⟩;have HS:=Zh (Nat.le_trans HS.out j);clear j;have f:=Zh (hF.2 _ _ _ (by decide) (by decide) (by decide) f.out);have HE:=Zh r;have HF:=Zh (HF.out.trans hF);clear r hF x s;have x:=f.out.cell 0 (v:=.int .i64 1) rfl;have s:=f.out.cell 1 (v:=.int .i64 y) rfl)
  go_ret;exact j3
 ·have HN:=Zh (show (Zqr 2).1≤sn∧sn≤12 from ⟨E,F⟩);clear D E F;have A:=Zh m;clear m;simp only [show Zqr 2=(0,1) from rfl] at HN ⊢;go_enter Tryz.func153,Tryz.ntmps153
  go_upto_region 1 with fail
  rw [←O.out];have x:=f.out.cell 0 (v:=.int .i64 2) rfl;have s:=f.out.cell 1 (v:=.int .i64 y) rfl;obtain ⟨a,rfl⟩:∃ d:Nat,y=d:=⟨y.toNat,by have:=HL.out (by omega);omega⟩;have ha:a<ls.length:=by have:=HL.out (by omega);omega
  have aS:(a:Int) < ls.length:=by omega
  obtain ⟨-,-,-,c1,-⟩:=HE.out.cells;obtain ⟨-,l0,-⟩:=HE.out.loc ha;obtain ⟨v,hv⟩:∃ v,v=ls.getD a 0:=⟨_,rfl⟩;obtain ⟨ad,I⟩:∃ ad,ad=(⟨L.l,0,none⟩:Addr):=⟨_,rfl⟩;rw [←hv,←I] at l0;rw [←I] at c1;have HV:=Zh hv;have J:=Zh I;clear hv I
  go_upto_region 5 with fail
  refine rO (Cs [(⟨B,1,none⟩,.slice (some ad) ls.length ls.length),(⟨w.heap.size,1,none⟩,.int .i64 a),(ad.add a,.int .i64 v)]) (oL [0,1,2,3,4,5,6,7,8,109]) ⟨c1,s,l0,trivial⟩ ?_;clear x c1 s l0
  repeat refine pO ?_
  refine oO fun R G=>?_;go_simp;refine (Zqj HE.out.drew (by have:=HN.out;omega) _).mono ?_;rintro e w3 ⟨rfl,⟨K,j,r⟩,hF⟩;refine G _ _ ⟨⟨by rw [J.out];exact r.cells.2.2.2.1,(hF.2 _ _ _ (by decide) (by decide) (by decide) f.out).cell 1 rfl,by have:=(r.loc ha).2.1;rwa [←J.out,←HV.out] at this,trivial⟩,?_⟩;have HS:=Zh j;have HE:=Zh r;have HF:=Zh (HF.out.drew.trans hF);clear r hF G R j;refine Zd5 ?_;go_wp2;go_ret;exact j3
 ·have HN:=Zh (show (Zqr 3).1≤sn∧sn≤12 from ⟨E,F⟩);clear D E F;have A:=Zh m;clear m;simp only [show Zqr 3=(1,0) from rfl] at HN ⊢;go_enter Tryz.func153,Tryz.ntmps153
  go_upto_region 1 with fail
  rw [←O.out];have x:=f.out.cell 0 (v:=.int .i64 3) rfl;have s:=f.out.cell 1 (v:=.int .i64 y) rfl;obtain ⟨a,rfl⟩:∃ d:Nat,y=d:=⟨y.toNat,by have:=HL.out (by omega);omega⟩;have ha:a<ls.length:=by have:=HL.out (by omega);omega
  have aS:(a:Int) < ls.length:=by omega
  obtain ⟨-,-,-,c1,-⟩:=HE.out.cells;obtain ⟨-,l0,-⟩:=HE.out.loc ha;obtain ⟨v,hv⟩:∃ v,v=ls.getD a 0:=⟨_,rfl⟩;obtain ⟨ad,I⟩:∃ ad,ad=(⟨L.l,0,none⟩:Addr):=⟨_,rfl⟩;rw [←hv,←I] at l0;rw [←I] at c1;have HV:=Zh hv;have J:=Zh I;clear hv I;clear l0
  go_upto_region 7 with fail
  refine rO (Cs [(⟨B,1,none⟩,.slice (some ad) ls.length ls.length),(⟨w.heap.size,1,none⟩,.int .i64 a)]) (oL [0,1,2,3,4,5,6,107,8,109]) ⟨c1,s,trivial⟩ ?_;clear x c1 s
  repeat refine pO ?_
  refine oO fun R G=>?_;go_simp;refine (Zqi HE.out.drew (by have:=HN.out;omega)).mono ?_;rintro e w3 ⟨⟨z,rfl⟩,r,hF⟩;have hI:=hF.2 _ _ _ (by decide) (by decide) (by decide) f.out;refine G _ _ ⟨⟨by rw [J.out];exact r.cells.2.2.2.1,hI.cell 1 rfl,trivial⟩,?_⟩;have f:=Zh hI;have HE:=Zh r;have HF:=Zh (HF.out.drew.trans hF);clear r hF G R hI
  repeat refine pO ?_
  refine oO fun R G=>?_;obtain ⟨kl,l0,l1⟩:=HE.out.loc ha;rw [←J.out] at l0 l1;have aa:=Zh (HE.out.setL a z);rw [←J.out] at aa;have aT:(ad.add a).block<w3.heap.size:=by rw [Zag,J.out];exact kl
  go_simp;refine G _ _ ⟨⟨by have:=aa.out.1.cells.2.2.2.1;rw [List.length_set] at this;rw [J.out] at this ⊢;exact this,(aa.out.2.2 _ _ _ (by decide) (by decide) (by decide) f.out).cell 1 rfl,trivial⟩,?_⟩;clear G R l0 l1 kl aT;refine Zd5 ?_;go_wp2;go_ret;exact ⟨0,_,_,_,tn,rfl,aa.out.1,⟨by omega,List.length_set,HS.out,fun _=>(by have:=HN.out;omega),fun q=>(by omega)⟩,HF.out.trans aa.out.2⟩
 ·have HN:=Zh (show (Zqr 4).1≤sn∧sn≤12 from ⟨E,F⟩);clear D E F;have A:=Zh m;clear m;simp only [show Zqr 4=(1,0) from rfl] at HN ⊢;go_enter Tryz.func153,Tryz.ntmps153
  go_upto_region 1 with fail
  rw [←O.out];have x:=f.out.cell 0 (v:=.int .i64 4) rfl;have s:=f.out.cell 1 (v:=.int .i64 y) rfl
  go_wp2_with (go_at_call 93;refine (Zqi HE.out (by have:=HN.out;omega)).mono ?_;rintro e T ⟨⟨z,rfl⟩,r,hF⟩;have f:=Zh (hF.2 _ _ _ (by decide) (by decide) (by decide) f.out);have HE:=Zh r;have HF:=Zh (HF.out.trans hF);clear r hF x s;have x:=f.out.cell 0 (v:=.int .i64 4) rfl;have s:=f.out.cell 1 (v:=.int .i64 y) rfl)
  go_ret;exact j3
 ·have HN:=Zh (show (Zqr 5).1≤sn∧sn≤12 from ⟨E,F⟩);clear D E F;have A:=Zh m;clear m;simp only [show Zqr 5=(1,2) from rfl] at HN ⊢;go_enter Tryz.func153,Tryz.ntmps153
  go_upto_region 1 with fail
  rw [←O.out];have x:=f.out.cell 0 (v:=.int .i64 5) rfl;have s:=f.out.cell 1 (v:=.int .i64 y) rfl
  go_wp2_with (first|(go_at_call 93;refine (Zqi HE.out (by have:=HN.out;omega)).mono ?_;rintro e T ⟨⟨z,rfl⟩,r,hF⟩;have f:=Zh (hF.2 _ _ _ (by decide) (by decide) (by decide) f.out);have HE:=Zh r;have HF:=Zh (HF.out.trans hF);clear r hF x s;have x:=f.out.cell 0 (v:=.int .i64 5) rfl;have s:=f.out.cell 1 (v:=.int .i64 y) rfl)|(go_at_call 215;refine (Zqj HE.out (by have:=HN.out;omega) _).mono ?_;rintro e w3 ⟨rfl,⟨K,j,r⟩,hF⟩;have HS:=Zh (Nat.le_trans HS.out j);clear j;have f:=Zh (hF.2 _ _ _ (by decide) (by decide) (by decide) f.out);have HE:=Zh r;have HF:=Zh (HF.out.trans hF);clear r hF x s;have x:=f.out.cell 0 (v:=.int .i64 5) rfl;have s:=f.out.cell 1 (v:=.int .i64 y) rfl))
  go_ret;exact j3
 ·have HN:=Zh (show (Zqr 6).1≤sn∧sn≤12 from ⟨E,F⟩);clear D E F;have A:=Zh m;clear m;simp only [show Zqr 6=(2,1) from rfl] at HN ⊢;go_enter Tryz.func153,Tryz.ntmps153
  go_upto_region 1 with fail
  rw [←O.out];have x:=f.out.cell 0 (v:=.int .i64 6) rfl;have s:=f.out.cell 1 (v:=.int .i64 y) rfl
  go_wp2_with (first|(go_at_call 93;refine (Zqi HE.out (by have:=HN.out;omega)).mono ?_;rintro e T ⟨⟨z,rfl⟩,r,hF⟩;have f:=Zh (hF.2 _ _ _ (by decide) (by decide) (by decide) f.out);have HE:=Zh r;have HF:=Zh (HF.out.trans hF);clear r hF x s;have x:=f.out.cell 0 (v:=.int .i64 6) rfl;have s:=f.out.cell 1 (v:=.int .i64 y) rfl)|(go_at_call 216;refine (Zqq _ _ _ _ (by omega) (by omega)).mono ?_;rintro e w4 ⟨⟨z,ok,rfl⟩,rfl⟩;cases ok)|(go_at_call 215;refine (Zqj HE.out (by have:=HN.out;omega) _).mono ?_;rintro e w3 ⟨rfl,⟨K,j,r⟩,hF⟩;have HS:=Zh (Nat.le_trans HS.out j);clear j;have f:=Zh (hF.2 _ _ _ (by decide) (by decide) (by decide) f.out);have HE:=Zh r;have HF:=Zh (HF.out.trans hF);clear r hF x s;have x:=f.out.cell 0 (v:=.int .i64 6) rfl;have s:=f.out.cell 1 (v:=.int .i64 y) rfl))
  all_goals go_ret
  ·exact j7
  ·exact j3
 ·have HN:=Zh (show (Zqr 7).1≤sn∧sn≤12 from ⟨E,F⟩);clear D E F;have A:=Zh m;clear m;simp only [show Zqr 7=(2,1) from rfl] at HN ⊢;go_enter Tryz.func153,Tryz.ntmps153
  go_upto_region 1 with fail
  rw [←O.out];have x:=f.out.cell 0 (v:=.int .i64 7) rfl;have s:=f.out.cell 1 (v:=.int .i64 y) rfl
  go_wp2_with (first|(go_at_call 93;refine (Zqi HE.out (by have:=HN.out;omega)).mono ?_;rintro e T ⟨⟨z,rfl⟩,r,hF⟩;have f:=Zh (hF.2 _ _ _ (by decide) (by decide) (by decide) f.out);have HE:=Zh r;have HF:=Zh (HF.out.trans hF);clear r hF x s;have x:=f.out.cell 0 (v:=.int .i64 7) rfl;have s:=f.out.cell 1 (v:=.int .i64 y) rfl)|(go_at_call 216;refine (Zqq _ _ _ _ (by omega) (by omega)).mono ?_;rintro e w4 ⟨⟨z,ok,rfl⟩,rfl⟩;cases ok)|(go_at_call 215;refine (Zqj HE.out (by have:=HN.out;omega) _).mono ?_;rintro e w3 ⟨rfl,⟨K,j,r⟩,hF⟩;have HS:=Zh (Nat.le_trans HS.out j);clear j;have f:=Zh (hF.2 _ _ _ (by decide) (by decide) (by decide) f.out);have HE:=Zh r;have HF:=Zh (HF.out.trans hF);clear r hF x s;have x:=f.out.cell 0 (v:=.int .i64 7) rfl;have s:=f.out.cell 1 (v:=.int .i64 y) rfl))
  all_goals go_ret
  ·exact j7
  ·exact j3
 ·have HN:=Zh (show (Zqr 8).1≤sn∧sn≤12 from ⟨E,F⟩);clear D E F;have A:=Zh m;clear m;simp only [show Zqr 8=(2,1) from rfl] at HN ⊢;go_enter Tryz.func153,Tryz.ntmps153
  go_upto_region 1 with fail
  rw [←O.out];have x:=f.out.cell 0 (v:=.int .i64 8) rfl;have s:=f.out.cell 1 (v:=.int .i64 y) rfl
  go_wp2_with (first|(go_at_call 93;refine (Zqi HE.out (by have:=HN.out;omega)).mono ?_;rintro e T ⟨⟨z,rfl⟩,r,hF⟩;have f:=Zh (hF.2 _ _ _ (by decide) (by decide) (by decide) f.out);have HE:=Zh r;have HF:=Zh (HF.out.trans hF);clear r hF x s;have x:=f.out.cell 0 (v:=.int .i64 8) rfl;have s:=f.out.cell 1 (v:=.int .i64 y) rfl)|(go_at_call 216;refine (Zqq _ _ _ _ (by omega) (by omega)).mono ?_;rintro e w4 ⟨⟨z,ok,rfl⟩,rfl⟩;cases ok)|(go_at_call 215;refine (Zqj HE.out (by have:=HN.out;omega) _).mono ?_;rintro e w3 ⟨rfl,⟨K,j,r⟩,hF⟩;have HS:=Zh (Nat.le_trans HS.out j);clear j;have f:=Zh (hF.2 _ _ _ (by decide) (by decide) (by decide) f.out);have HE:=Zh r;have HF:=Zh (HF.out.trans hF);clear r hF x s;have x:=f.out.cell 0 (v:=.int .i64 8) rfl;have s:=f.out.cell 1 (v:=.int .i64 y) rfl))
  all_goals go_ret
  ·exact j7
  ·exact j3
 ·have HN:=Zh (show (Zqr 9).1≤sn∧sn≤12 from ⟨E,F⟩);clear D E F;have A:=Zh m;clear m;simp only [show Zqr 9=(2,1) from rfl] at HN ⊢;go_enter Tryz.func153,Tryz.ntmps153
  go_upto_region 1 with fail
  rw [←O.out];have x:=f.out.cell 0 (v:=.int .i64 9) rfl;have s:=f.out.cell 1 (v:=.int .i64 y) rfl
  go_wp2_with (first|(go_at_call 93;refine (Zqi HE.out (by have:=HN.out;omega)).mono ?_;rintro e T ⟨⟨z,rfl⟩,r,hF⟩;have f:=Zh (hF.2 _ _ _ (by decide) (by decide) (by decide) f.out);have HE:=Zh r;have HF:=Zh (HF.out.trans hF);clear r hF x s;have x:=f.out.cell 0 (v:=.int .i64 9) rfl;have s:=f.out.cell 1 (v:=.int .i64 y) rfl)|(go_at_call 216;refine (Zqq _ _ _ _ (by omega) (by omega)).mono ?_;rintro e w4 ⟨⟨z,ok,rfl⟩,rfl⟩;cases ok)|(go_at_call 215;refine (Zqj HE.out (by have:=HN.out;omega) _).mono ?_;rintro e w3 ⟨rfl,⟨K,j,r⟩,hF⟩;have HS:=Zh (Nat.le_trans HS.out j);clear j;have f:=Zh (hF.2 _ _ _ (by decide) (by decide) (by decide) f.out);have HE:=Zh r;have HF:=Zh (HF.out.trans hF);clear r hF x s;have x:=f.out.cell 0 (v:=.int .i64 9) rfl;have s:=f.out.cell 1 (v:=.int .i64 y) rfl))
  all_goals go_ret
  ·exact j7
  ·exact j3
 ·have HN:=Zh (show (Zqr 10).1≤sn∧sn≤12 from ⟨E,F⟩);clear D E F;have A:=Zh m;clear m;simp only [show Zqr 10=(2,1) from rfl] at HN ⊢;go_enter Tryz.func153,Tryz.ntmps153
  go_upto_region 1 with fail
  rw [←O.out];have x:=f.out.cell 0 (v:=.int .i64 10) rfl;have s:=f.out.cell 1 (v:=.int .i64 y) rfl
  go_wp2_with (first|(go_at_call 93;refine (Zqi HE.out (by have:=HN.out;omega)).mono ?_;rintro e T ⟨⟨z,rfl⟩,r,hF⟩;have f:=Zh (hF.2 _ _ _ (by decide) (by decide) (by decide) f.out);have HE:=Zh r;have HF:=Zh (HF.out.trans hF);clear r hF x s;have x:=f.out.cell 0 (v:=.int .i64 10) rfl;have s:=f.out.cell 1 (v:=.int .i64 y) rfl)|(go_at_call 216;refine (Zqq _ _ _ _ (by omega) (by omega)).mono ?_;rintro e w4 ⟨⟨z,ok,rfl⟩,rfl⟩;cases ok)|(go_at_call 215;refine (Zqj HE.out (by have:=HN.out;omega) _).mono ?_;rintro e w3 ⟨rfl,⟨K,j,r⟩,hF⟩;have HS:=Zh (Nat.le_trans HS.out j);clear j;have f:=Zh (hF.2 _ _ _ (by decide) (by decide) (by decide) f.out);have HE:=Zh r;have HF:=Zh (HF.out.trans hF);clear r hF x s;have x:=f.out.cell 0 (v:=.int .i64 10) rfl;have s:=f.out.cell 1 (v:=.int .i64 y) rfl))
  all_goals go_ret
  ·exact j7
  ·exact j3
 ·have HN:=Zh (show (Zqr 11).1≤sn∧sn≤12 from ⟨E,F⟩);clear D E F;have A:=Zh m;clear m;simp only [show Zqr 11=(2,1) from rfl] at HN ⊢;go_enter Tryz.func153,Tryz.ntmps153
  go_upto_region 1 with fail
  rw [←O.out];have x:=f.out.cell 0 (v:=.int .i64 11) rfl;have s:=f.out.cell 1 (v:=.int .i64 y) rfl
  go_wp2_with (first|(go_at_call 93;refine (Zqi HE.out (by have:=HN.out;omega)).mono ?_;rintro e T ⟨⟨z,rfl⟩,r,hF⟩;have f:=Zh (hF.2 _ _ _ (by decide) (by decide) (by decide) f.out);have HE:=Zh r;have HF:=Zh (HF.out.trans hF);clear r hF x s;have x:=f.out.cell 0 (v:=.int .i64 11) rfl;have s:=f.out.cell 1 (v:=.int .i64 y) rfl)|(go_at_call 216;refine (Zqq _ _ _ _ (by omega) (by omega)).mono ?_;rintro e w4 ⟨⟨z,ok,rfl⟩,rfl⟩;cases ok)|(go_at_call 215;refine (Zqj HE.out (by have:=HN.out;omega) _).mono ?_;rintro e w3 ⟨rfl,⟨K,j,r⟩,hF⟩;have HS:=Zh (Nat.le_trans HS.out j);clear j;have f:=Zh (hF.2 _ _ _ (by decide) (by decide) (by decide) f.out);have HE:=Zh r;have HF:=Zh (HF.out.trans hF);clear r hF x s;have x:=f.out.cell 0 (v:=.int .i64 11) rfl;have s:=f.out.cell 1 (v:=.int .i64 y) rfl))
  all_goals go_ret
  ·exact j7
  ·exact j3
 ·have HN:=Zh (show (Zqr 27).1≤sn∧sn≤12 from ⟨E,F⟩);clear D E F;have A:=Zh m;clear m;simp only [show Zqr 27=(1,0) from rfl] at HN ⊢;go_enter Tryz.func153,Tryz.ntmps153
  go_upto_region 1 with fail
  rw [←O.out];have x:=f.out.cell 0 (v:=.int .i64 27) rfl;have s:=f.out.cell 1 (v:=.int .i64 y) rfl
  go_upto_region 16 with (go_at_call 93;refine (Zqi HE.out (by have:=HN.out;omega)).mono ?_;rintro e T ⟨⟨z,rfl⟩,r,hF⟩;have f:=Zh (hF.2 _ _ _ (by decide) (by decide) (by decide) f.out);have HE:=Zh r;have HF:=Zh (HF.out.trans hF);clear r hF x s;have x:=f.out.cell 0 (v:=.int .i64 27) rfl;have s:=f.out.cell 1 (v:=.int .i64 y) rfl)
  clear x;obtain ⟨⟨so,tv,xs,hb,hl,hL,hr,aF,ho⟩,sz,hk,kl,aD⟩:=HE.out;have b8:=hb.cell 8 (v:=tv) rfl;have HB:=Zh hb;have HO:=Zh ho;have M:=Zh (And.intro hl (And.intro hL (And.intro hr (And.intro aF (And.intro sz (And.intro hk (And.intro kl aD)))))));clear hb hl hL hr aF ho hk kl aD;refine rE (Cs [(⟨B,8,none⟩,tv),(⟨w.heap.size,1,none⟩,.int .i64 y)]) 15 (oL [0,1,2,3,4,5,6,7,8,9,110,111,112,113,14]) ⟨b8,s,trivial⟩ ?_
  repeat refine pE ?_
  refine oE fun R G=>?_;go_simp;obtain ⟨w5,aj⟩:∃ w5,w5=(T.alloc (.cells #[.int .i64 y,.int .i64 z] 44)).drew:=⟨_,rfl⟩;rw [←aj];have C:Below T.heap.size T w5:=by rw [aj];exact bE
  have aB:Blk w5 T.heap.size #[.int .i64 y,.int .i64 z] 44:=by rw [aj];exact Blk.new T _ _
  have b8:=(C.cell (Zac b8)).trans b8;have s:=(C.cell (Zac s)).trans s;refine G _ _ ⟨⟨b8,s,trivial⟩,?_⟩;clear G R;have Y:N≤T.heap.size:=by have:=HB.out.lt;have:=M.out.2.2.2.2.1;omega
  have ac:N≤w5.heap.size:=Nat.le_trans Y C.size;have ae:=ZhI (w':=w5) HO.out fun k hk=>C.block k (HO.out.lt k hk).2;refine oE fun R G=>?_;refine Zej (.tmp 66) (.tmp 71) 39 rfl N 44 2 16 Zqs tv tn xs rfl ae (some ⟨T.heap.size,0,none⟩) 1 1 [.int .i64 y,.int .i64 z] rfl (ZdL aB rfl) (by intro u hu;simp only [List.mem_cons,List.not_mem_nil,or_false] at hu;rcases hu with rfl|rfl<;>rfl) (by have:=HT.out;have:=M.out.2.2.2.2.2.2.2;omega) (by have:=HT.out;have:=M.out.2.2.2.2.2.2.2;unfold maxLen;omega) ac ?_;intro ay am w6 aG W;have U:∀ {b:Nat}{X:Array Value}{t0:TypeId},Blk w5 b X t0→t0≠44→some b≠tv.ownBlock:=fun h0 h1 e=>by obtain ⟨az,hc⟩:=Zo6 ae e.symm;exact ZhZ h0 hc h1 rfl
  have ap:=(f.out.old C).grownV W (U (f.out.old C) (by decide));have ab:=(HB.out.old C).grownV W (U (HB.out.old C) (by decide));have aC:=(M.out.1.old C).grownV W (U (M.out.1.old C) (by decide));have ao:=(FrE.of Y C).trans (FrE.grown W ac fun k hk=>by obtain ⟨az,hc⟩:=Zo6 ae hk;exact ⟨(ae.lt k hk).1,az,_,hc,.inr rfl⟩);have aH:=M.out.2.2.1.eq (w':=w6) fun g hg=>by have h0:=(M.out.2.2.1.lt hg).2.2.choose_spec;exact (W.block g (h0.old C).lt (U (h0.old C) (by decide))).trans (C.block g h0.lt)
  refine G _ _ ⟨⟨ab.cell 8 rfl,ap.cell 1 rfl,trivial⟩,?_⟩;clear G R b8 s;have aO:=Zh (Zqh (w:=w6) (sn:=sn-1) (lf:=lf) (cs:=cs) (tn:=tn+1) M.out.2.2.2.2.1 (Zqf M.out.2.2.2.2.2.1 M.out.2.2.2.2.2.2.1 ao.1) M.out.2.2.2.2.2.2.1 ab aC M.out.2.1 aH M.out.2.2.2.1 aG 8 (.slice ay (tn+1) am) rfl (by have:=HT.out;have:=M.out.2.2.2.2.2.2.2;omega));have aP:=Zh (ao.trans (FrE.set M.out.2.2.2.2.1 ab (.inr (.inr rfl)) 8 (.slice ay (tn+1) am)));have Z:=Zh ab;have aw:=Zh ap;clear ap ab aC ao aH aG W ae Y ac aB C aj;refine oE fun R G=>?_;go_simp;refine G _ _ ⟨⟨Z.out.cell 8 rfl,aw.out.cell 1 rfl,trivial⟩,?_⟩;clear G R;refine oE fun R G=>?_;go_simp;refine G _ _ ⟨⟨Z.out.cell 8 rfl,aw.out.cell 1 rfl,trivial⟩,?_⟩;clear G R
  repeat refine pE ?_
  refine sE fun R G=>?_;have b8:=Z.out.cell 8 (v:=tv) rfl;have f8:=Z.out.frozen 8;have kb:=Z.out.lt;go_simp;refine G _ _ ?_;clear G R b8 f8 kb;go_wp2;go_ret;exact ⟨0,_,_,_,tn+1,rfl,aO.out,⟨by omega,rfl,HS.out,fun _=>(by have:=HN.out;omega),fun q=>(by omega)⟩,HF.out.trans aP.out⟩
 ·have HN:=Zh (show (Zqr 28).1≤sn∧sn≤12 from ⟨E,F⟩);clear D E F;have A:=Zh m;clear m;simp only [show Zqr 28=(0,0) from rfl] at HN ⊢;go_enter Tryz.func153,Tryz.ntmps153
  go_upto_region 1 with fail
  rw [←O.out];have x:=f.out.cell 0 (v:=.int .i64 28) rfl;have s:=f.out.cell 1 (v:=.int .i64 y) rfl;have a7:IntKind.i64.wrap (8+y)=8+y:=IntWalk.i64_in _ (by have:=A.out (by trivial);omega);go_wp2;go_ret;exact ⟨8+y,ls,_,_,tn,rfl,HE.out,⟨by have:=A.out (by trivial);omega,rfl,HS.out,fun q=>(by have:=A.out (by trivial);omega),fun _ q=>(by have:=A.out (by trivial);omega)⟩,HF.out⟩
end
end
