/- Joined texts. The first: Ranging over a set of small numbers; link.ascending. -/
import Derived.Test.YtcfjblcgceednaaGreatE33
import Derived.Test.YtcfjblcgceednaaGreatE34
import Derived.Laws.EntriesVeiled
set_option linter.all false
set_option linter.unusedVariables false
set_option linter.unusedSimpArgs false
set_option maxRecDepth 100000
set_option maxHeartbeats 16000000
namespace Go.Proofs.YtcfjblcgceednaaGreat
theorem kC2{p:Prop}(h:p:=by
 go_upto_region 1 with fail
 rw [←HW.out]
 have x0:=HX.out.cell 0 (v:=.slice h.co m.cl.length h.cc) rfl;have x1:=HX.out.cell 1 (v:=.slice h.so m.st.length h.sc) rfl;have x2:=HX.out.cell 2 (v:=.slice h.eo m.me.length h.ec) rfl;have x3:=HX.out.cell 3 (v:=.int .i64 m.sel) rfl
 go_wp2_with (go_at_call 57;refine HI.out.mono ?_;rintro e w1 ⟨rfl,hb1⟩;have HB1:=Zh hb1;clear hb1 x0 x1 x2 x3)
 go_ret2
 exact .inr ⟨by trivial,rfl,Zaf HB.out HB1.out⟩):p:=h
theorem kC3{p:Prop}(h:p:=by
 go_upto_region 1 with fail
 rw [←HW.out]
 have x0:=HX.out.cell 0 (v:=.slice h.co m.cl.length h.cc) rfl;have x1:=HX.out.cell 1 (v:=.slice h.so m.st.length h.sc) rfl;have x2:=HX.out.cell 2 (v:=.slice h.eo m.me.length h.ec) rfl;have x3:=HX.out.cell 3 (v:=.int .i64 m.sel) rfl
 go_wp2_with (go_at_call 13;refine HE.out.mono ?_;rintro e w1 ⟨rfl,hb1⟩;have HB1:=Zh hb1;clear hb1 x0 x1 x2 x3)
 go_ret2
 exact ⟨rfl,Zaf HB.out (bal HB1.out _)⟩):p:=h
theorem ZqA{p:Prop}(h:p:=by
 have e1:(!b)=true↔¬ b=true:=by cases b<;>simp
 rw [e1,hp]
 unfold Zqu
 simp
 try grind):p:=h
section
open Go.RowKit
attribute [local go_sem] World.cell?_alloc_some
end
section
open Go.RowKit
attribute [local go_sem] World.cell?_alloc_some
theorem ZqB {m:Md}{k:Nat}{L:List Nat} (hk:k∈L) (h:∀ j∈L,j∈([]:List Nat)∨(Rch m k j∧∀ t:Nat,(t:Int)∈ZpS m j→t∈L)) (j:Nat):j∈L↔Rch m k j:=by
 constructor
 ·intro hj
  rcases h j hj with e|e
  ·simp at e
  ·exact e.1
 ·intro hr
  induction hr with
  | refl=>exact hk
  |step i j _ h2 ih=>
   rcases h i ih with e|e
   ·simp at e
   ·exact e.2 j h2
end
section
open Go.RowKit
attribute [local go_sem] World.cell?_alloc_some
def ZqC (w:World) (m:Md) (k:Nat):Ending→World→Prop:=fun e w'=>(∃ M C,e=.returned (.map (some M))∧Zqh w' M C∧∀ o:Nat,0<C o↔Zp5 m k o)∧Below w.heap.size w w'
theorem ZqD (m:Md) (h:Hd) (k:Nat) (w:World) (H:Zay w h m) (hv:Za1 m=true) (hk:k<m.me.length):Calls Tryz.prog 58 #[.agg #[.slice h.co m.cl.length h.cc,.slice h.so m.st.length h.sc,.slice h.eo m.me.length h.ec,.int .i64 m.sel],.int .i64 k] w (ZqC w m k):=by
 have hmm:=@run_makeMap Tryz.prog
 have HM:=Zh H
 have HVis:=Zh (fun Bs Bm Bc Bv M1 M2=>Zqt (Bs:=Bs) (Bm:=Bm) (Bc:=Bc) (Bv:=Bv) (M1:=M1) (M2:=M2) (h:=h) hv k hk)
 clear H
 go_enter Tryz.func58,Tryz.ntmps58
 go_upto_region 3 with fail
 obtain ⟨S,hS⟩:∃ S,S=w.heap.size:=⟨_,rfl⟩
 obtain ⟨w3,hw3⟩:∃ w3,w3=((((((w.alloc (.cells #[.slice h.co m.cl.length h.cc,.slice h.so m.st.length h.sc,.slice h.eo m.me.length h.ec,.int .i64 m.sel] 26)).alloc (.map #[] 0)).alloc (.map #[] 0)).alloc (.cells #[.map (some (S+1))] 69)).alloc (.cells #[.map (some (S+1+1))] 152)).alloc (.cells #[Value.nilFunc] 153)):=⟨_,rfl⟩
 rw [←hS]
 rw [←hw3]
 have hb3:Below w.heap.size w w3:=by rw [hw3];exact bE
 have hs3:w3.heap.size=S+1+1+1+1+1+1:=by rw [hw3];simp [hS]
 have hv3:Blk w3 (S+1+1+1+1+1) #[Value.nilFunc] 153:=by rw [hw3];exact Blk.new' _ _ (by simp [hS])
 have y0:=hv3.cell 0 (v:=Value.nilFunc) rfl
 have yf:=hv3.frozen 0
 have yl:=hv3.lt
 have x0:Blk w3 S #[.slice h.co m.cl.length h.cc,.slice h.so m.st.length h.sc,.slice h.eo m.me.length h.ec,.int .i64 m.sel] 26:=by rw [hw3,hS];exact (Blk.new w _ _).old bE
 have x3:Blk w3 (S+1+1+1) #[.map (some (S+1))] 69:=by rw [hw3];exact (Blk.new' (w:=((w.alloc (.cells #[.slice h.co m.cl.length h.cc,.slice h.so m.st.length h.sc,.slice h.eo m.me.length h.ec,.int .i64 m.sel] 26)).alloc (.map #[] 0)).alloc (.map #[] 0)) _ _ (by simp [hS])).old bE
 have x4:Blk w3 (S+1+1+1+1) #[.map (some (S+1+1))] 152:=by rw [hw3];exact (Blk.new' (w:=(((w.alloc (.cells #[.slice h.co m.cl.length h.cc,.slice h.so m.st.length h.sc,.slice h.eo m.me.length h.ec,.int .i64 m.sel] 26)).alloc (.map #[] 0)).alloc (.map #[] 0)).alloc (.cells #[.map (some (S+1))] 69)) _ _ (by simp [hS])).old bE
 have z1:Zqh w3 (S+1) fun _=>0:=by
  have:=Zqh.made (w.alloc (.cells #[.slice h.co m.cl.length h.cc,.slice h.so m.st.length h.sc,.slice h.eo m.me.length h.ec,.int .i64 m.sel] 26))
  rw [show (w.alloc (.cells #[.slice h.co m.cl.length h.cc,.slice h.so m.st.length h.sc,.slice h.eo m.me.length h.ec,.int .i64 m.sel] 26)).heap.size=S+1 by simp [hS]] at this
  rw [hw3];exact this.old bE
 have z2:Zp9 w3 (S+1+1) []:=by
  have:=Zp9.made ((w.alloc (.cells #[.slice h.co m.cl.length h.cc,.slice h.so m.st.length h.sc,.slice h.eo m.me.length h.ec,.int .i64 m.sel] 26)).alloc (.map #[] 0))
  rw [show ((w.alloc (.cells #[.slice h.co m.cl.length h.cc,.slice h.so m.st.length h.sc,.slice h.eo m.me.length h.ec,.int .i64 m.sel] 26)).alloc (.map #[] 0)).heap.size=S+1+1 by simp [hS]] at this
  rw [hw3];exact this.old bE
 have HSq:=Zh hS
 have HM3:=Zh (HM.out.old hb3)
 have HB3:=Zh hb3
 have HX:=Zh (And.intro x0 (And.intro x3 (And.intro x4 (And.intro z1 z2))))
 have HVt:=Zh hv3
 have HSz:=Zh hs3
 clear hS hw3 hb3 x0 x3 x4 z1 z2 hv3 hs3
 go_upto_region 4 with fail
 have hb4:=ZcW (W:=w) (j:=0) HB3.out (b:=S+1+1+1+1+1) (by have:=HSq.out;omega) (Zqm (S+1+1+1+1) S (S+1+1+1) (S+1+1+1+1+1))
 have HOp:=Zh (show Zqn (w3.setCell ⟨S+1+1+1+1+1,0,none⟩ (Zqm (S+1+1+1+1) S (S+1+1+1) (S+1+1+1+1+1))) (S+1+1+1+1) S (S+1+1+1) (S+1+1+1+1+1) (S+1+1) (S+1) h m [] fun _=>0 by
  have hvt:=HVt.out.set 0 (Zqm (S+1+1+1+1) S (S+1+1+1) (S+1+1+1+1+1))
  obtain ⟨x0,x3,x4,z1,z2⟩:=HX.out
  have hn:=fun (b:Nat) (hb:S+1+1+1+1+1≠b)=>heap_setCell_other w3 ⟨S+1+1+1+1+1,0,none⟩ b (Zqm (S+1+1+1+1) S (S+1+1+1) (S+1+1+1+1+1)) (fun e=>hb e.symm)
  have o0:=Blk.other x0 (a:=⟨S+1+1+1+1+1,0,none⟩) (by show S≠S+1+1+1+1+1;omega) (Zqm (S+1+1+1+1) S (S+1+1+1) (S+1+1+1+1+1))
  have o3:=Blk.other x3 (a:=⟨S+1+1+1+1+1,0,none⟩) (by show S+1+1+1≠S+1+1+1+1+1;omega) (Zqm (S+1+1+1+1) S (S+1+1+1) (S+1+1+1+1+1))
  have o4:=Blk.other x4 (a:=⟨S+1+1+1+1+1,0,none⟩) (by show S+1+1+1+1≠S+1+1+1+1+1;omega) (Zqm (S+1+1+1+1) S (S+1+1+1) (S+1+1+1+1+1))
  exact ⟨⟨o4.cell 0 rfl,o3.cell 0 rfl,hvt.cell 0 rfl,o0.cell 0 rfl,o0.cell 1 rfl,o0.cell 2 rfl,o0.cell 3 rfl,trivial⟩,HM.out.old hb4,z2.eq (hn _ (by omega)),z1.eq (hn _ (by omega)),by omega⟩)
 have HB4:=Zh hb4
 clear hb4 y0 yf yl hmm HX HVt HM3
 unfold Zqm at HB4 HOp
 generalize w3.setCell ⟨S+1+1+1+1+1,0,none⟩ _=w4 at HB4 HOp ⊢
 obtain ⟨-,-,v0,-,-,-,-,-⟩:=HOp.out.cs
 unfold Zqm at v0
 have HVi:=Zh (HVis.out _ _ _ _ _ _ w4 [] _ HOp.out (fun _=>Nat.zero_le _))
 unfold Zqq at HVi
 clear HVis
 go_upto_region 5 with (go_at_call 115;refine HVi.out.mono ?_;rintro e w5 ⟨rfl,L,C,hh,hu,hk5,-,hn5,hj5,hc5⟩;have HH:=Zh hh;have HE:=Zh (And.intro hn5 (And.intro hj5 hc5));have HB5:=Zh (hu.below HB4.out (Nat.le_refl _) (fun x hx=>by have:=HSq.out;simp at hx;omega));clear hh hu hk5 hn5 hj5 hc5 v0)
 obtain ⟨-,c1,-,-,-,-,-,-⟩:=HH.out.cs
 go_wp2
 go_ret
 have hr:=ZqB HE.out.1 HE.out.2.1
 refine ⟨⟨_,C,rfl,HH.out.c2,fun o=>?_⟩,HB5.out⟩
 rw [HE.out.2.2.2 o]
 constructor
 ·rintro (q|⟨j,hj,-,i,hi,ho⟩)
  ·exact absurd q (Nat.lt_irrefl _)
  ·exact ⟨j,(hr j).1 hj,i,hi,ho⟩
 ·rintro ⟨j,hj,i,hi,ho⟩
  exact .inr ⟨j,(hr j).2 hj,by simp,i,hi,ho⟩
theorem ZqE (w:World) (B M:Nat) (C:Nat→Nat) (o:Nat) (ho:o<1000) (hc:w.cell? ⟨B,0,none⟩=some (.map (some M))) (H:Zqh w M C):Calls Tryz.prog 118 #[.int .i64 o,.pointer (some ⟨B,0,none⟩)] w (Ret w (.bool (decide (0<C o)))):=by
 have HC:=Zh H
 have hl:=Zac hc
 clear H
 go_enter Tryz.func118,Tryz.ntmps118
 go_wp2_with (at_lookup;refine Zqi rfl _ _ rfl (M:=M) (C:=C) rfl HC.out o rfl ho ?_)
 go_ret
 exact ZcT (ZcX (by simp)) (Below.refl _ _)
theorem ZqF (m:Md) (k:Nat) (w:World) (M:Nat) (C:Nat→Nat) (H:Zqh w M C) (hC:∀ o:Nat,0<C o↔Zp5 m k o) (ops:List Int) (ao:Option Addr) (cap n:Nat) (hr:Zar w ao cap ops) (hn:ops.length=n) (hl:∀ o∈ops,0≤o∧o<1000) (h9:n≤1000):Calls Tryz.prog 59 #[.map (some M),.slice ao n cap] w (Zp4 w (Zqu m k ops)):=by
 subst hn
 have hx:=Blk.new w #[.map (some M)] 69
 have hb0:Below w.heap.size w (w.alloc (.cells #[.map (some M)] 69)):=by exact bE
 have HCon:=Zh (Zdr ops ao cap 118 #[.pointer (some ⟨w.heap.size,0,none⟩)] (fun o=>decide (0<C o.toNat)) (w.alloc (.cells #[.map (some M)] 69)) (by omega) (ZnG hr (ZnF.of hb0)) (fun A W=>by kernel_rfl) (fun j hj w' hb=>by
  have hm:=hl _ (ZfU (0:Int) hj)
  generalize ops.getD j 0=x at hm ⊢
  obtain ⟨o,rfl⟩:∃ o:Nat,x=o:=⟨x.toNat,by omega⟩
  exact ZqE w' w.heap.size M C o (by omega) ((hx.old hb).cell 0 rfl) ((H.old hb0).old hb)))
 have hiff:ops.any (fun o=>decide (0<C o.toNat))=true↔Zqu m k ops:=by
  rw [List.any_eq_true]
  constructor
  ·rintro ⟨o,ho,hp⟩
   have:=(hC o.toNat).1 (by simpa using hp)
   rw [Int.toNat_of_nonneg (hl o ho).1] at this
   exact ⟨o,ho,this⟩
  ·rintro ⟨o,ho,hp⟩
   refine ⟨o,ho,?_⟩
   have:Zp5 m k (o.toNat:Nat):=by rw [Int.toNat_of_nonneg (hl o ho).1];exact hp
   simpa using (hC o.toNat).2 this
 generalize ops.any (fun o=>decide (0<C o.toNat))=b at HCon hiff
 have HI:=Zh hiff
 clear hx hb0 hr hl H hC hiff
 go_enter Tryz.func59,Tryz.ntmps59
 go_wp2_with (go_at_call 117;refine HCon.out.mono ?_;rintro e w1 ⟨rfl,hb1⟩)
 go_ret
 exact ⟨⟨b,rfl,HI.out⟩,by exact bE⟩
end
section
open Go.RowKit
attribute [local go_sem] World.cell?_alloc_some
theorem ZqG {m:Md}{k:Nat}{o:Int}:Zqu m k [o]↔Zp5 m k o:=by unfold Zqu;simp
def inP (m:Md) (k:Int):Bool:=Za1 m&&inV m.me.length k
def ZqH:Value:=.tuple #[.agg #[.bool false,.bool false,.bool false,.bool false,.bool false],.int .i64 1]
def ZqI (w:World) (m:Md) (k:Int):Ending→World→Prop:=fun e w'=>(inP m k=true∧EfP w m k.toNat e w')∨(inP m k=false∧Ret w ZqH e w')
def EpR (P:Md→Nat→Prop) (w:World) (m:Md) (k:Int):Ending→World→Prop:=fun e w'=>(inP m k=true∧Zqy w (P m k.toNat) e w')∨(inP m k=false∧Ret w (.tuple #[.bool false,.int .i64 1]) e w')
theorem ZqJ {m:Md}{k:Int} (h:inP m k=true):Za1 m=true∧∃ n:Nat,k=n∧n<m.me.length:=by
 unfold inP inV at h
 simp only [Bool.and_eq_true,decide_eq_true_eq] at h
 exact ⟨h.1,k.toNat,by omega,by omega⟩
theorem ZqK (m:Md) (h:Hd) (k:Int) (w:World) (H:Zay w h m):Calls Tryz.prog 12 #[.agg #[.slice h.co m.cl.length h.cc,.slice h.so m.st.length h.sc,.slice h.eo m.me.length h.ec,.int .i64 m.sel],.int .i64 k] w (ZqI w m k):=by
 obtain ⟨w0,hw0⟩:∃ w0,w0=(w.alloc (.cells #[.slice h.co m.cl.length h.cc,.slice h.so m.st.length h.sc,.slice h.eo m.me.length h.ec,.int .i64 m.sel] 26)).alloc (.cells #[.bool false,.bool false,.bool false,.bool false,.bool false] 28):=⟨_,rfl⟩
 have HB:=Zh (show Below w.heap.size w w0 by rw [hw0];exact bE)
 have HX:=Zh (show Blk w0 w.heap.size #[.slice h.co m.cl.length h.cc,.slice h.so m.st.length h.sc,.slice h.eo m.me.length h.ec,.int .i64 m.sel] 26 by rw [hw0];exact (Blk.new _ _ _).alloc _)
 have HRs:=Zh (show Blk w0 (w.heap.size+1) #[.bool false,.bool false,.bool false,.bool false,.bool false] 28 by rw [hw0];exact Blk.new' (w:=w.alloc (.cells #[.slice h.co m.cl.length h.cc,.slice h.so m.st.length h.sc,.slice h.eo m.me.length h.ec,.int .i64 m.sel] 26)) _ _ (by simp))
 have HM:=Zh (H.old HB.out)
 have HW:=Zh hw0
 have hi:=Zhr m h k w0 HM.out
 have e0:(Za1 m&&inV m.me.length k)=inP m k:=rfl
 rw [e0] at hi
 unfold ZqI
 rcases hp:inP m k with _|_
 ·rw [hp] at hi
  have HI:=Zh hi
  clear hw0 H hi e0 hp
  go_enter Tryz.func12,Tryz.ntmps12
  go_upto_region 1 with fail
  rw [←HW.out]
  have x0:=HX.out.cell 0 (v:=.slice h.co m.cl.length h.cc) rfl;have x1:=HX.out.cell 1 (v:=.slice h.so m.st.length h.sc) rfl;have x2:=HX.out.cell 2 (v:=.slice h.eo m.me.length h.ec) rfl;have x3:=HX.out.cell 3 (v:=.int .i64 m.sel) rfl
  go_upto_region 2 with (go_at_call 57;refine HI.out.mono ?_;rintro e w1 ⟨rfl,hb1⟩;have HB1:=Zh hb1;clear hb1 x0 x1 x2 x3)
  have HY:=Zh (HRs.out.old HB1.out)
  have r0:=HY.out.cell 0 (v:=.bool false) rfl;have r1:=HY.out.cell 1 (v:=.bool false) rfl;have r2:=HY.out.cell 2 (v:=.bool false) rfl;have r3:=HY.out.cell 3 (v:=.bool false) rfl;have r4:=HY.out.cell 4 (v:=.bool false) rfl
  have fr0:=HY.out.frozen 0;have fr1:=HY.out.frozen 1;have fr2:=HY.out.frozen 2;have fr3:=HY.out.frozen 3;have fr4:=HY.out.frozen 4
  have rl:=HY.out.lt
  go_wp2
  have hY:=((((HY.out.set 0 (.bool false)).set 1 (.bool false)).set 2 (.bool false)).set 3 (.bool false)).set 4 (.bool false)
  have hB:=ZcW (j:=4) (ZcW (j:=3) (ZcW (j:=2) (ZcW (j:=1) (ZcW (j:=0) (Zaf HB.out HB1.out) (Nat.le_succ w.heap.size) (.bool false)) (Nat.le_succ w.heap.size) (.bool false)) (Nat.le_succ w.heap.size) (.bool false)) (Nat.le_succ w.heap.size) (.bool false)) (Nat.le_succ w.heap.size) (.bool false)
  have HY3:=Zh hY
  have HB3:=Zh hB
  clear hY hB r0 r1 r2 r3 r4 fr0 fr1 fr2 fr3 fr4 rl
  generalize ((((w1.setCell _ _).setCell _ _).setCell _ _).setCell _ _).setCell _ _=w5 at HY3 HB3 ⊢
  have y0:=HY3.out.cell 0 rfl;have y1:=HY3.out.cell 1 rfl;have y2:=HY3.out.cell 2 rfl;have y3:=HY3.out.cell 3 rfl;have y4:=HY3.out.cell 4 rfl
  exact bodyPost_ret (v:=ZqH) (by unfold ZqH;simp [results,Tryz.results12,go_sem,y0,y1,y2,y3,y4]) rfl (.inr ⟨by trivial,rfl,HB3.out⟩)
 ·obtain ⟨hv,n,rfl,hn⟩:=ZqJ hp
  rw [hp] at hi
  have HI:=Zh hi
  have HOp:=Zh (fun w' (hb:Below w0.heap.size w0 w')=>ZqD m h n w' (HM.out.old hb) hv hn)
  clear hw0 H hi e0 hp hv
  go_enter Tryz.func12,Tryz.ntmps12
  go_upto_region 1 with fail
  rw [←HW.out]
  have x0:=HX.out.cell 0 (v:=.slice h.co m.cl.length h.cc) rfl;have x1:=HX.out.cell 1 (v:=.slice h.so m.st.length h.sc) rfl;have x2:=HX.out.cell 2 (v:=.slice h.eo m.me.length h.ec) rfl;have x3:=HX.out.cell 3 (v:=.int .i64 m.sel) rfl
  go_upto_region 4 with (first
   | (go_at_call 57;refine HI.out.mono ?_;rintro e w1 ⟨rfl,hb1⟩;have HB1:=Zh hb1;have x0:=(hb1.cell (Zac x0)).trans x0;have x1:=(hb1.cell (Zac x1)).trans x1;have x2:=(hb1.cell (Zac x2)).trans x2;have x3:=(hb1.cell (Zac x3)).trans x3;clear hb1)
   | (go_at_call 58;refine (HOp.out _ HB1.out).mono ?_;rintro e w2 ⟨⟨M,C,rfl,hc,hd⟩,hb2⟩;have HC:=Zh (fun w' (hb:Below w2.heap.size w2 w')=>ZqF m n w' M C (hc.old hb) hd);have HB2:=Zh (Zaf HB1.out hb2);clear hc hd hb2 x0 x1 x2 x3))
  have HQ:=Zh (Below.refl w2.heap.size w2)
  rename World=>wp
  go_upto_region 5 with (go_at_call 59;first
   | (refine (HC.out _ (bal HQ.out _) [14,15,16] _ 3 3 (Zqw rfl) rfl (by decide) (by decide)).mono ?_;rintro e wq ⟨⟨b0,rfl,hp0⟩,hb⟩;have HP0:=Zh hp0;have HQ:=Zh (Zaf (bal HQ.out _) hb);clear hp0 hb)
   | (refine (HC.out _ (bal HQ.out _) [31] _ 1 1 (Zqw rfl) rfl (by decide) (by decide)).mono ?_;rintro e wq ⟨⟨b1,rfl,hp1⟩,hb⟩;have HP1:=Zh hp1;have HQ:=Zh (Zaf (bal HQ.out _) hb);clear hp1 hb)
   | (refine (HC.out _ (bal HQ.out _) [30] _ 1 1 (Zqw rfl) rfl (by decide) (by decide)).mono ?_;rintro e wq ⟨⟨b2,rfl,hp2⟩,hb⟩;have HP2:=Zh hp2;have HQ:=Zh (Zaf (bal HQ.out _) hb);clear hp2 hb)
   | (refine (HC.out _ (bal HQ.out _) [9,14,15,16,17,18,19,20,21,23,24,26,28] _ 13 13 (Zqw rfl) rfl (by decide) (by decide)).mono ?_;rintro e wq ⟨⟨b3,rfl,hp3⟩,hb⟩;have HP3:=Zh hp3;have HQ:=Zh (Zaf (bal HQ.out _) hb);clear hp3 hb)
   | (refine (HC.out _ (bal HQ.out _) [27] _ 1 1 (Zqw rfl) rfl (by decide) (by decide)).mono ?_;rintro e wq ⟨⟨b4,rfl,hp4⟩,hb⟩;have HP4:=Zh hp4;have HQ:=Zh (Zaf (bal HQ.out _) hb);have HY:=Zh (HRs.out.old (Zaf HB2.out HQ.out));have HB9:=Zh (Zaf HB.out (Zaf HB2.out HQ.out));have r0:=HY.out.cell 0 (v:=.bool false) rfl;have r1:=HY.out.cell 1 (v:=.bool false) rfl;have r2:=HY.out.cell 2 (v:=.bool false) rfl;have r3:=HY.out.cell 3 (v:=.bool false) rfl;have r4:=HY.out.cell 4 (v:=.bool false) rfl;have fr0:=HY.out.frozen 0;have fr1:=HY.out.frozen 1;have fr2:=HY.out.frozen 2;have fr3:=HY.out.frozen 3;have fr4:=HY.out.frozen 4;have rl:=HY.out.lt;clear hp4 hb))
  have hY:=((((HY.out.set 0 (.bool b0)).set 1 (.bool b1)).set 2 (.bool b2)).set 3 (.bool b3)).set 4 (.bool b4)
  have hB:=ZcW (j:=4) (ZcW (j:=3) (ZcW (j:=2) (ZcW (j:=1) (ZcW (j:=0) HB9.out (Nat.le_succ w.heap.size) (.bool b0)) (Nat.le_succ w.heap.size) (.bool b1)) (Nat.le_succ w.heap.size) (.bool b2)) (Nat.le_succ w.heap.size) (.bool b3)) (Nat.le_succ w.heap.size) (.bool b4)
  have HY3:=Zh hY
  have HB3:=Zh hB
  clear hY hB r0 r1 r2 r3 r4 fr0 fr1 fr2 fr3 fr4 rl
  generalize ((((wq.setCell _ _).setCell _ _).setCell _ _).setCell _ _).setCell _ _=w5 at HY3 HB3 ⊢
  have y0:=HY3.out.cell 0 rfl;have y1:=HY3.out.cell 1 rfl;have y2:=HY3.out.cell 2 rfl;have y3:=HY3.out.cell 3 rfl;have y4:=HY3.out.cell 4 rfl
  exact bodyPost_ret (v:=.tuple #[.agg #[.bool b0,.bool b1,.bool b2,.bool b3,.bool b4],.int .i64 0]) (by simp [results,Tryz.results12,go_sem,y0,y1,y2,y3,y4]) rfl (.inl ⟨trivial,⟨b0,b1,b2,b3,b4,rfl,HP0.out,HP1.out.trans ZqG,HP2.out.trans ZqG,HP3.out,HP4.out.trans ZqG⟩,HB3.out⟩)
theorem ZqL (m:Md) (h:Hd) (k:Int) (w:World) (H:Zay w h m):Calls Tryz.prog 14 #[.agg #[.slice h.co m.cl.length h.cc,.slice h.so m.st.length h.sc,.slice h.eo m.me.length h.ec,.int .i64 m.sel],.int .i64 k] w (EpR wfP w m k):=by
 obtain ⟨w0,hw0⟩:∃ w0,w0=w.alloc (.cells #[.slice h.co m.cl.length h.cc,.slice h.so m.st.length h.sc,.slice h.eo m.me.length h.ec,.int .i64 m.sel] 26):=⟨_,rfl⟩
 have HB:=Zh (show Below w.heap.size w w0 by rw [hw0];exact bE)
 have HX:=Zh (show Blk w0 w.heap.size #[.slice h.co m.cl.length h.cc,.slice h.so m.st.length h.sc,.slice h.eo m.me.length h.ec,.int .i64 m.sel] 26 by rw [hw0];exact Blk.new _ _ _)
 have HM:=Zh (H.old HB.out)
 have HW:=Zh hw0
 have hi:=Zhr m h k w0 HM.out
 have e0:(Za1 m&&inV m.me.length k)=inP m k:=rfl
 rw [e0] at hi
 unfold EpR
 rcases hp:inP m k with _|_
 ·rw [hp] at hi
  have HI:=Zh hi
  clear hw0 H hi e0 hp
  go_enter Tryz.func14,Tryz.ntmps14
  exact kC2
 ·obtain ⟨hv,n,rfl,hn⟩:=ZqJ hp
  rw [hp] at hi
  have HI:=Zh hi
  have HOp:=Zh (fun w' (hb:Below w0.heap.size w0 w')=>ZqD m h n w' (HM.out.old hb) hv hn)
  clear hw0 H hi e0 hp hv
  go_enter Tryz.func14,Tryz.ntmps14
  go_upto_region 1 with fail
  rw [←HW.out]
  have x0:=HX.out.cell 0 (v:=.slice h.co m.cl.length h.cc) rfl;have x1:=HX.out.cell 1 (v:=.slice h.so m.st.length h.sc) rfl;have x2:=HX.out.cell 2 (v:=.slice h.eo m.me.length h.ec) rfl;have x3:=HX.out.cell 3 (v:=.int .i64 m.sel) rfl
  go_wp2_with (first
   | (go_at_call 57;refine HI.out.mono ?_;rintro e w1 ⟨rfl,hb1⟩;have HB1:=Zh hb1;have x0:=(hb1.cell (Zac x0)).trans x0;have x1:=(hb1.cell (Zac x1)).trans x1;have x2:=(hb1.cell (Zac x2)).trans x2;have x3:=(hb1.cell (Zac x3)).trans x3;clear hb1)
   | (go_at_call 58;refine (HOp.out _ HB1.out).mono ?_;rintro e w2 ⟨⟨M,C,rfl,hc,hd⟩,hb2⟩;have HC:=Zh (fun w' (hb:Below w2.heap.size w2 w')=>ZqF m n w' M C (hc.old hb) hd);have HB2:=Zh (Zaf HB1.out hb2);clear hc hd hb2 x0 x1 x2 x3)
   | (go_at_call 59;refine (HC.out _ (bal (Below.refl _ _) _) [14,15,16,31,30,32] _ 6 6 (Zqw rfl) rfl (by decide) (by decide)).mono ?_;rintro e w3 ⟨⟨b,rfl,hb⟩,hb3⟩;have HP:=Zh hb;have HB3:=Zh (Zaf (bal HB2.out _) hb3);clear hb hb3))
  go_ret2
  refine .inl ⟨trivial,⟨_,rfl,?_⟩,Zaf HB.out HB3.out⟩
  have hp:=HP.out
  rw [show ((n:Int)).toNat=n from Int.toNat_natCast n]
  unfold wfP
  exact ZqA
def puP (m:Md) (k:Nat):Prop:=¬ Zqu m k [14,15,16]∧¬ Zp5 m k 27∧¬ Zqu m k [18,20,23]
theorem ZqM (m:Md) (h:Hd) (k:Int) (w:World) (H:Zay w h m):Calls Tryz.prog 16 #[.agg #[.slice h.co m.cl.length h.cc,.slice h.so m.st.length h.sc,.slice h.eo m.me.length h.ec,.int .i64 m.sel],.int .i64 k] w (EpR puP w m k):=by
 obtain ⟨w0,hw0⟩:∃ w0,w0=w.alloc (.cells #[.slice h.co m.cl.length h.cc,.slice h.so m.st.length h.sc,.slice h.eo m.me.length h.ec,.int .i64 m.sel] 26):=⟨_,rfl⟩
 have HB:=Zh (show Below w.heap.size w w0 by rw [hw0];exact bE)
 have HX:=Zh (show Blk w0 w.heap.size #[.slice h.co m.cl.length h.cc,.slice h.so m.st.length h.sc,.slice h.eo m.me.length h.ec,.int .i64 m.sel] 26 by rw [hw0];exact Blk.new _ _ _)
 have HM:=Zh (H.old HB.out)
 have HW:=Zh hw0
 have hi:=Zhr m h k w0 HM.out
 have e0:(Za1 m&&inV m.me.length k)=inP m k:=rfl
 rw [e0] at hi
 unfold EpR
 rcases hp:inP m k with _|_
 ·rw [hp] at hi
  have HI:=Zh hi
  clear hw0 H hi e0 hp
  go_enter Tryz.func16,Tryz.ntmps16
  exact kC2
 ·obtain ⟨hv,n,rfl,hn⟩:=ZqJ hp
  rw [hp] at hi
  have HI:=Zh hi
  have HOp:=Zh (fun w' (hb:Below w0.heap.size w0 w')=>ZqD m h n w' (HM.out.old hb) hv hn)
  clear hw0 H hi e0 hp hv
  go_enter Tryz.func16,Tryz.ntmps16
  go_upto_region 1 with fail
  rw [←HW.out]
  have x0:=HX.out.cell 0 (v:=.slice h.co m.cl.length h.cc) rfl;have x1:=HX.out.cell 1 (v:=.slice h.so m.st.length h.sc) rfl;have x2:=HX.out.cell 2 (v:=.slice h.eo m.me.length h.ec) rfl;have x3:=HX.out.cell 3 (v:=.int .i64 m.sel) rfl
  go_wp2_with (first
   | (go_at_call 57;refine HI.out.mono ?_;rintro e w1 ⟨rfl,hb1⟩;have HB1:=Zh hb1;have x0:=(hb1.cell (Zac x0)).trans x0;have x1:=(hb1.cell (Zac x1)).trans x1;have x2:=(hb1.cell (Zac x2)).trans x2;have x3:=(hb1.cell (Zac x3)).trans x3;clear hb1)
   | (go_at_call 58;refine (HOp.out _ HB1.out).mono ?_;rintro e w2 ⟨⟨M,C,rfl,hc,hd⟩,hb2⟩;have HC:=Zh (fun w' (hb:Below w2.heap.size w2 w')=>ZqF m n w' M C (hc.old hb) hd);have HB2:=Zh (Zaf HB1.out hb2);clear hc hd hb2 x0 x1 x2 x3)
   | (go_at_call 59;refine (HC.out _ (bal (Below.refl _ _) _) [14,15,16,27,18,20,23] _ 7 7 (Zqw rfl) rfl (by decide) (by decide)).mono ?_;rintro e w3 ⟨⟨b,rfl,hb⟩,hb3⟩;have HP:=Zh hb;have HB3:=Zh (Zaf (bal HB2.out _) hb3);clear hb hb3))
  go_ret2
  refine .inl ⟨trivial,⟨_,rfl,?_⟩,Zaf HB.out HB3.out⟩
  have hp:=HP.out
  rw [show ((n:Int)).toNat=n from Int.toNat_natCast n]
  unfold puP
  exact ZqA
end
section
open Go.RowKit
attribute [local go_sem] World.cell?_alloc_some
theorem ZqN {m:Md}{k:Int} (h:inP m k=false):Za1 m=false∨(Za1 m=true∧k<0)∨(Za1 m=true∧¬ k<0∧k ≥ m.me.length):=by
 unfold inP inV at h
 rcases hm:Za1 m with _|_
 ·exact .inl rfl
 ·rw [hm] at h
  simp at h
  by_cases h0:k<0
  ·exact .inr (.inl ⟨rfl,h0⟩)
  ·exact .inr (.inr ⟨rfl,h0,h (by omega)⟩)
section
variable (m:Md)(h:Hd)(k:Int)(w:World)(H:Zay w h m)
include m h k w H
theorem ZqO (hp:inP m k=false):Calls Tryz.prog 13 #[.agg #[.slice h.co m.cl.length h.cc,.slice h.so m.st.length h.sc,.slice h.eo m.me.length h.ec,.int .i64 m.sel],.int .i64 k] w (Ret w ZqH):=by
 obtain ⟨w0,hw0⟩:∃ w0,w0=(w.alloc (.cells #[.slice h.co m.cl.length h.cc,.slice h.so m.st.length h.sc,.slice h.eo m.me.length h.ec,.int .i64 m.sel] 26)).alloc (.cells #[.bool false,.bool false,.bool false,.bool false,.bool false] 28):=⟨_,rfl⟩
 have HB:=Zh (show Below w.heap.size w w0 by rw [hw0];exact bE)
 have HX:=Zh (show Blk w0 w.heap.size #[.slice h.co m.cl.length h.cc,.slice h.so m.st.length h.sc,.slice h.eo m.me.length h.ec,.int .i64 m.sel] 26 by rw [hw0];exact (Blk.new _ _ _).alloc _)
 have HRs:=Zh (show Blk w0 (w.heap.size+1) #[.bool false,.bool false,.bool false,.bool false,.bool false] 28 by rw [hw0];exact Blk.new' (w:=w.alloc (.cells #[.slice h.co m.cl.length h.cc,.slice h.so m.st.length h.sc,.slice h.eo m.me.length h.ec,.int .i64 m.sel] 26)) _ _ (by simp))
 have HW:=Zh hw0
 have hc:=Zjj m h w0 (H.old HB.out)
 rcases ZqN hp with hm|⟨hm,h0⟩|⟨hm,h0,h1⟩
 all_goals
  rw [hm] at hc
  have HC:=Zh hc
  clear hw0 H hp hc
  go_enter Tryz.func13,Tryz.ntmps13
  go_upto_region 1 with fail
  rw [←HW.out]
  have x0:=HX.out.cell 0 (v:=.slice h.co m.cl.length h.cc) rfl;have x1:=HX.out.cell 1 (v:=.slice h.so m.st.length h.sc) rfl;have x2:=HX.out.cell 2 (v:=.slice h.eo m.me.length h.ec) rfl;have x3:=HX.out.cell 3 (v:=.int .i64 m.sel) rfl
  go_upto_region 2 with (go_at_call 60;refine HC.out.mono ?_;rintro e w1 ⟨rfl,hb1⟩;have HB1:=Zh hb1;have x0:=(hb1.cell (Zac x0)).trans x0;have x1:=(hb1.cell (Zac x1)).trans x1;have x2:=(hb1.cell (Zac x2)).trans x2;have x3:=(hb1.cell (Zac x3)).trans x3;clear hb1)
  have HY:=Zh (HRs.out.old HB1.out)
  clear x0 x1 x2 x3
  have r0:=HY.out.cell 0 (v:=.bool false) rfl;have r1:=HY.out.cell 1 (v:=.bool false) rfl;have r2:=HY.out.cell 2 (v:=.bool false) rfl;have r3:=HY.out.cell 3 (v:=.bool false) rfl;have r4:=HY.out.cell 4 (v:=.bool false) rfl
  have fr0:=HY.out.frozen 0;have fr1:=HY.out.frozen 1;have fr2:=HY.out.frozen 2;have fr3:=HY.out.frozen 3;have fr4:=HY.out.frozen 4
  have rl:=HY.out.lt
  go_wp2
  have hY:=((((HY.out.set 0 (.bool false)).set 1 (.bool false)).set 2 (.bool false)).set 3 (.bool false)).set 4 (.bool false)
  have hB:=ZcW (j:=4) (ZcW (j:=3) (ZcW (j:=2) (ZcW (j:=1) (ZcW (j:=0) (Zaf HB.out HB1.out) (Nat.le_succ w.heap.size) (.bool false)) (Nat.le_succ w.heap.size) (.bool false)) (Nat.le_succ w.heap.size) (.bool false)) (Nat.le_succ w.heap.size) (.bool false)) (Nat.le_succ w.heap.size) (.bool false)
  have HY3:=Zh hY
  have HB3:=Zh hB
  clear hY hB r0 r1 r2 r3 r4 fr0 fr1 fr2 fr3 fr4 rl
  generalize ((((w1.setCell _ _).setCell _ _).setCell _ _).setCell _ _).setCell _ _=w5 at HY3 HB3 ⊢
  have y0:=HY3.out.cell 0 rfl;have y1:=HY3.out.cell 1 rfl;have y2:=HY3.out.cell 2 rfl;have y3:=HY3.out.cell 3 rfl;have y4:=HY3.out.cell 4 rfl
  exact bodyPost_ret (v:=ZqH) (by unfold ZqH;simp [results,Tryz.results13,go_sem,y0,y1,y2,y3,y4]) rfl ⟨rfl,HB3.out⟩
theorem ZqP:Calls Tryz.prog 13 #[.agg #[.slice h.co m.cl.length h.cc,.slice h.so m.st.length h.sc,.slice h.eo m.me.length h.ec,.int .i64 m.sel],.int .i64 k] w (ZqI w m k):=by
 rcases hp:inP m k with _|_
 ·exact (ZqO m h k w H hp).mono fun e w' q=>.inr ⟨hp,q⟩
 ·obtain ⟨hv,n,rfl,hn⟩:=ZqJ hp
  exact (Zqx m h n w H hv hn).mono fun e w' q=>.inl ⟨hp,q⟩
theorem ZqQ (hp:inP m k=false):Calls Tryz.prog 15 #[.agg #[.slice h.co m.cl.length h.cc,.slice h.so m.st.length h.sc,.slice h.eo m.me.length h.ec,.int .i64 m.sel],.int .i64 k] w (Ret w (.tuple #[.bool false,.int .i64 1])):=by
 obtain ⟨w0,hw0⟩:∃ w0,w0=w.alloc (.cells #[.slice h.co m.cl.length h.cc,.slice h.so m.st.length h.sc,.slice h.eo m.me.length h.ec,.int .i64 m.sel] 26):=⟨_,rfl⟩
 have HB:=Zh (show Below w.heap.size w w0 by rw [hw0];exact bE)
 have HX:=Zh (show Blk w0 w.heap.size #[.slice h.co m.cl.length h.cc,.slice h.so m.st.length h.sc,.slice h.eo m.me.length h.ec,.int .i64 m.sel] 26 by rw [hw0];exact Blk.new _ _ _)
 have HW:=Zh hw0
 have HE:=Zh (ZqO m h k w0 (H.old HB.out) hp)
 clear hw0 H hp
 unfold ZqH at HE
 go_enter Tryz.func15,Tryz.ntmps15
 exact kC3
theorem ZqR (hp:inP m k=false):Calls Tryz.prog 17 #[.agg #[.slice h.co m.cl.length h.cc,.slice h.so m.st.length h.sc,.slice h.eo m.me.length h.ec,.int .i64 m.sel],.int .i64 k] w (Ret w (.tuple #[.bool false,.int .i64 1])):=by
 obtain ⟨w0,hw0⟩:∃ w0,w0=w.alloc (.cells #[.slice h.co m.cl.length h.cc,.slice h.so m.st.length h.sc,.slice h.eo m.me.length h.ec,.int .i64 m.sel] 26):=⟨_,rfl⟩
 have HB:=Zh (show Below w.heap.size w w0 by rw [hw0];exact bE)
 have HX:=Zh (show Blk w0 w.heap.size #[.slice h.co m.cl.length h.cc,.slice h.so m.st.length h.sc,.slice h.eo m.me.length h.ec,.int .i64 m.sel] 26 by rw [hw0];exact Blk.new _ _ _)
 have HW:=Zh hw0
 have HE:=Zh (ZqO m h k w0 (H.old HB.out) hp)
 clear hw0 H hp
 unfold ZqH at HE
 go_enter Tryz.func17,Tryz.ntmps17
 exact kC3
theorem ZqS:Calls Tryz.prog 15 #[.agg #[.slice h.co m.cl.length h.cc,.slice h.so m.st.length h.sc,.slice h.eo m.me.length h.ec,.int .i64 m.sel],.int .i64 k] w (EpR wfP w m k):=by
 rcases hp:inP m k with _|_
 ·exact (ZqQ m h k w H hp).mono fun e w' q=>.inr ⟨hp,q⟩
 ·obtain ⟨hv,n,rfl,hn⟩:=ZqJ hp
  exact (Zqz m h n w H hv hn).mono fun e w' q=>.inl ⟨hp,q⟩
theorem ZqT (hp:inP m k=false):Calls Tryz.prog 18 #[.agg #[.slice h.co m.cl.length h.cc,.slice h.so m.st.length h.sc,.slice h.eo m.me.length h.ec,.int .i64 m.sel],.int .i64 k] w (Ret w (.tuple #[.slice none 0 0,.int .i64 1])):=by
 obtain ⟨w0,hw0⟩:∃ w0,w0=w.alloc (.cells #[.slice h.co m.cl.length h.cc,.slice h.so m.st.length h.sc,.slice h.eo m.me.length h.ec,.int .i64 m.sel] 26):=⟨_,rfl⟩
 have HB:=Zh (show Below w.heap.size w w0 by rw [hw0];exact bE)
 have HX:=Zh (show Blk w0 w.heap.size #[.slice h.co m.cl.length h.cc,.slice h.so m.st.length h.sc,.slice h.eo m.me.length h.ec,.int .i64 m.sel] 26 by rw [hw0];exact Blk.new _ _ _)
 have HW:=Zh hw0
 have HWi:Hid (Calls Tryz.prog 63 #[.agg #[.slice h.co m.cl.length h.cc,.slice h.so m.st.length h.sc,.slice h.eo m.me.length h.ec,.int .i64 m.sel],.int .i64 k,.int .i64 m.me.length] w0 (Ret w0 (.int .i64 1))):=by
  have hc:=fun w' (hb:Below w0.heap.size w0 w')=>Zjj m h w' ((H.old HB.out).old hb)
  have hcn:=ZqN hp
  clear hw0 H hp HX HW
  rcases hcn with hm|⟨hm,h0⟩|⟨hm,h0,h1⟩
  all_goals
   rw [hm] at hc
   have HC:=Zh hc
   clear hc
   go_enter Tryz.func63,Tryz.ntmps63
   go_wp2_with (go_at_call 60;refine (HC.out _ bE).mono ?_;rintro e w1 ⟨rfl,hb1⟩;have HB1:=Zh (Zaf (bal (Below.refl _ _) _) hb1);clear hb1)
   go_ret
   exact ⟨rfl,HB1.out⟩
 clear hw0 H hp
 go_enter Tryz.func18,Tryz.ntmps18
 go_upto_region 1 with fail
 rw [←HW.out]
 have x0:=HX.out.cell 0 (v:=.slice h.co m.cl.length h.cc) rfl;have x1:=HX.out.cell 1 (v:=.slice h.so m.st.length h.sc) rfl;have x2:=HX.out.cell 2 (v:=.slice h.eo m.me.length h.ec) rfl;have x3:=HX.out.cell 3 (v:=.int .i64 m.sel) rfl
 go_wp2_with (go_at_call 63;refine HWi.out.mono ?_;rintro e w1 ⟨rfl,hb1⟩;have HB1:=Zh hb1;clear hb1 x0 x1 x2 x3)
 go_ret2
 exact ⟨rfl,Zaf HB.out HB1.out⟩
end
end
section
open Go.RowKit
attribute [local go_sem] World.cell?_alloc_some
theorem ZqU {w:World}{b:Nat}{l:List Int}{n:Nat} (hb:b=w.heap.size) (hn:l.length=n):Zar (w.alloc (.cells (l.map (Value.int .i64)).toArray 3)) (some ⟨b,0,none⟩) n l:=by
 subst hb;exact Zqw hn
theorem ZqV (m:Md) (h:Hd) (k:Nat) (w:World) (H:Zay w h m) (hv:Za1 m=true) (hk:k<m.me.length):Calls Tryz.prog 17 #[.agg #[.slice h.co m.cl.length h.cc,.slice h.so m.st.length h.sc,.slice h.eo m.me.length h.ec,.int .i64 m.sel],.int .i64 k] w (Zqy w (puP m k)):=by
 obtain ⟨w0,hw0⟩:∃ w0,w0=w.alloc (.cells #[.slice h.co m.cl.length h.cc,.slice h.so m.st.length h.sc,.slice h.eo m.me.length h.ec,.int .i64 m.sel] 26):=⟨_,rfl⟩
 have HB:=Zh (show Below w.heap.size w w0 by rw [hw0];exact bE)
 have HX:=Zh (show Blk w0 w.heap.size #[.slice h.co m.cl.length h.cc,.slice h.so m.st.length h.sc,.slice h.eo m.me.length h.ec,.int .i64 m.sel] 26 by rw [hw0];exact Blk.new _ _ _)
 have HM:=Zh (H.old HB.out)
 have HW:=Zh hw0
 have HE:=Zh (Zqx m h k w0 HM.out hv hk)
 have HD:=Zh (show ∀ w' (ops:List Int) ao cap (n:Nat),Below w0.heap.size w0 w'→Zar w' ao cap ops→ops.length=n→n≤1000→Calls Tryz.prog 61 #[.agg #[.slice h.co m.cl.length h.cc,.slice h.so m.st.length h.sc,.slice h.eo m.me.length h.ec,.int .i64 m.sel],.int .i64 k,.slice ao n cap] w' (Zp4 w' (Zqu m k ops)) from fun w' ops ao cap n hb hr hn hl=>by subst hn;exact Zqv m h k ops ao cap w' (HM.out.old hb) hr hl hv hk)
 clear hw0 H hv
 go_enter Tryz.func17,Tryz.ntmps17
 go_upto_region 1 with fail
 rw [←HW.out]
 have x0:=HX.out.cell 0 (v:=.slice h.co m.cl.length h.cc) rfl;have x1:=HX.out.cell 1 (v:=.slice h.so m.st.length h.sc) rfl;have x2:=HX.out.cell 2 (v:=.slice h.eo m.me.length h.ec) rfl;have x3:=HX.out.cell 3 (v:=.int .i64 m.sel) rfl
 go_upto_region 2 with (go_at_call 13;refine HE.out.mono ?_;rintro e w1 ⟨⟨b0,b1,b2,b3,b4,rfl,h0,-,-,-,h4⟩,hb1⟩;have HP:=Zh (And.intro h0 h4);have HB1:=Zh hb1;have x0:=(hb1.cell (Zac x0)).trans x0;have x1:=(hb1.cell (Zac x1)).trans x1;have x2:=(hb1.cell (Zac x2)).trans x2;have x3:=(hb1.cell (Zac x3)).trans x3;clear hb1 h0 h4)
 rcases b0 with _|_
 all_goals rcases b4 with _|_
 all_goals
   go_wp2_with (go_at_call 61;refine (HD.out _ [18,20,23] _ 3 3 (bal (bal HB1.out _) _) (ZqU (by simp) rfl) rfl (by decide)).mono ?_;rintro e w2 ⟨⟨b,rfl,hd⟩,hb2⟩;have HDd:=Zh hd;have HB2:=Zh (Zaf (bal (bal HB1.out _) _) hb2);clear hd hb2)
 all_goals
   go_ret2
   have hp:=HP.out
   first
     | (have hd:=HDd.out
        exact ⟨⟨_,rfl,by unfold puP;cases b<;>simp_all⟩,Zaf HB.out HB2.out⟩)
     | exact ⟨⟨_,rfl,by unfold puP;simp_all⟩,Zaf HB.out (bal HB1.out _)⟩
theorem ZqW (m:Md) (h:Hd) (k:Int) (w:World) (H:Zay w h m):Calls Tryz.prog 17 #[.agg #[.slice h.co m.cl.length h.cc,.slice h.so m.st.length h.sc,.slice h.eo m.me.length h.ec,.int .i64 m.sel],.int .i64 k] w (EpR puP w m k):=by
 rcases hp:inP m k with _|_
 ·exact (ZqR m h k w H hp).mono fun e w' q=>.inr ⟨hp,q⟩
 ·obtain ⟨hv,n,rfl,hn⟩:=ZqJ hp
  exact (ZqV m h n w H hv hn).mono fun e w' q=>.inl ⟨hp,q⟩
end
end Go.Proofs.YtcfjblcgceednaaGreat
