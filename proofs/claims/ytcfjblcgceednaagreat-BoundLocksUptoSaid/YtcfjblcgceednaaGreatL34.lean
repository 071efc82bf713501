import Derived.Test.YtcfjblcgceednaaGreatL30
set_option linter.all false
set_option maxHeartbeats 4000000
namespace Go.Proofs.YtcfjblcgceednaaGreat
section
open Go.RowKit
theorem ZrN {w:World}{g:Nat}{L:List Int}{t:TypeId} (h:Blk w g (ZpN L) t):Zar w (some ⟨g,0,none⟩) L.length L:=by
 have c:Zak L=L.map (Value.int .i64):=by
  clear h
  induction L with
  | nil=>rfl
  | cons x r ih=>show Value.int .i64 x :: Zak r=_;rw [ih];rfl
 refine ⟨Zam _,(fun e=>by cases e),fun j u a=>⟨_,rfl,?_⟩⟩;have d:(0:Nat)+j=j:=Nat.zero_add j;show w.cell? ((⟨g,0,none⟩:Addr).add j)=some u;rw [c] at a;have:((⟨g,0,none⟩:Addr).add j)=⟨g,j,none⟩:=by
  unfold Addr.add;split
  ·rename_i b;rw [b]
  ·simp
 rw [this];exact h.cell j (by simpa [ZpN] using a)
def Fnd (L:List Int) (v:Int) (W:World):Ending→World→Prop:=fun e w'=>(∃ n:Int,e=.returned (.int .i64 n)∧(0≤n↔v∈L))∧Below W.heap.size W w'
section
variable (L:List Int)(ao:Option Addr)(cap:Nat)(v:Int)(w:World)(hr:Zar w ao cap L)(hl:L.length≤4096)
include L ao cap v w hr hl
theorem ZrO:Calls Tryz.prog 174 #[.slice ao L.length cap,.int .i64 v] w (Fnd L v w):=by
 have l:=Zh hr;clear hr;go_enter Tryz.func174,Tryz.ntmps174;go_wp2
 go_loopw [8] (fun i wr=>∃ k:Nat,k≤L.length∧i=.int .i64 k∧Hid (Below w.heap.size w wr)∧Hid (∀ j,j<k→L.getD j 0≠v)) (fun i _=>L.length-(intOf i).toNat)
 case atStart=>exact ⟨0,Nat.zero_le _,rfl,by exact bE,fun j h=>by omega⟩
 case round=>
  obtain ⟨k,s,rfl,a,d⟩:=hrel;by_cases hkl:k<L.length
  ·obtain ⟨r,rfl,m⟩:=ZaB (l.out.old a.out) hkl;have g:(k:Int) < L.length:=by omega
   have q:IntKind.i64.wrap ((k:Int)+1)=((k+1:Nat):Int):=IntWalk.i64_in _ (by omega);obtain ⟨x,c⟩:∃ x,x=L.getD k 0:=⟨_,rfl⟩;rw [←c] at m;have f:=Zh c;clear c;by_cases he:v=x
   ·subst he;go_wp2;go_ret;refine ⟨⟨k,rfl,fun _=>?_,fun _=>by omega⟩,a.out⟩;rw [f.out];have:L.getD k 0=L[k]:=by simp [hkl]
    rw [this];exact List.getElem_mem _
   ·go_wp2;exact ⟨⟨k+1,by omega,rfl,a.out,fun j b e=>by
     by_cases h2:j=k
     ·subst h2;rw [←f.out] at e;exact he e.symm
     ·exact d.out j (by omega) e⟩,by simp [intOf];omega⟩
  ·obtain rfl:k=L.length:=by omega
   have n:¬ (L.length:Int) < L.length:=by omega
   go_wp2;go_ret;refine ⟨⟨-1,rfl,fun h=>by omega,fun o=>?_⟩,a.out⟩;obtain ⟨j,b,e⟩:=List.getElem_of_mem o;exact absurd (show L.getD j 0=v by simp [b,e]) (d.out j b)
theorem ZrP:Calls Tryz.prog 113 #[.slice ao L.length cap,.int .i64 v] w (Ret w (.bool (decide (v∈L)))):=by
 have a:=Zh hr;clear hr;go_enter Tryz.func113,Tryz.ntmps113
 go_wp2_with (go_at_call 174;refine (ZrO L ao cap v _ a.out hl).mono ?_;rintro e d ⟨⟨n,rfl,c⟩,b⟩)
 go_ret;exact ZcT rfl b
end
def ZrQ (l:List In3):List Int:=(List.range l.length).map (tmV l)
def ZrR (m:Md) (k:Int):List Int × Int:=if ZoS m k=true then (if ZmR∈ZrQ (cdM m k.toNat) then ([],6) else (ZrQ (cdM m k.toNat),0)) else ([],1)
theorem ZrS {l:List In3}{L:List Int} (b:L.length=l.length) (h:∀ i,L.getD i 0=if 0≤i∧i<l.length then tmV l i else 0):L=ZrQ l:=by refine List.ext_getElem (by simp [ZrQ,b]) fun i a c=>?_;have:=h i;rw [if_pos (by omega)] at this;simp [ZrQ,←this,a]
theorem ZrT (m:Md) (h:Hd) (k:Int) (w:World) (H:Zay w h m):Calls Tryz.prog 99 #[.agg (HM.mk h m),.int .i64 k] w (Zik w (ZrR m k).1 (ZrR m k).2):=by
 have r:Below w.heap.size w (w.alloc (.cells (HM.mk h m) 26)):=by exact bE
 have X:=Zh (ZoU m h k _ (H.old r));have E:=Zh r;have am:=Zh (Blk.new w (HM.mk h m) 26);have HH:=Zh H;rcases hq:ZoS m k with _|_
 · rw [hq] at X;have t:ZrR m k=([],1):=by unfold ZrR;rw [hq];rfl
   rw [t];clear r H hq t;go_enter Tryz.func99,Tryz.ntmps99
   go_wp2_with (go_at_call 100;refine X.out.mono ?_;rintro e w1 ⟨rfl,c⟩)
   go_ret2;exact ⟨⟨none,0,rfl,Zar.nil _,fun _ e=>by cases e⟩,Zaf E.out c⟩
 · rw [hq] at X;obtain ⟨hm,aK,aL⟩:=ZoT hq;obtain ⟨k,rfl⟩:∃ d:Nat,k=d:=⟨k.toNat,by omega⟩;have b:k<m.me.length:=by omega
   have t:ZrR m k=if ZmR∈ZrQ (cdM m k) then ([],6) else (ZrQ (cdM m k),0):=by unfold ZrR;rw [hq,if_pos rfl,Int.toNat_natCast]
   obtain ⟨⟨r1,r2⟩,hz⟩:∃ z,z=ZrR m k:=⟨_,rfl⟩;rw [←hz];have HZ:=Zh (hz.trans t);clear t hz;have B:ZaV false (cdM m k)=0:=(ZoW hm w).code b;have aJ:(cdM m k).length≤120:=(ZfN hm b).z.2.2;have T:=Zmq (ZfN hm b).n;have HP:=Zh (fun w' hb=>ZmQ (cdM m k) (h.e k).ko (h.e k).kc B (cdM m k).length 0 (cdM m k).length w' (by omega) (Zar.old (H.k k b) (w':=w') hb) T);obtain ⟨ea,he,-,-,-,-,-,-,K⟩:=H.mth b;rw [show (m.me.getD k default).k.length=(cdM m k).length from rfl] at K;have J:=Zh K;have ah:=Zh he;have aB:(k:Int) < m.me.length:=by omega
   have O:=run_make_row' (P:=Tryz.prog) 34 3 (.int .i64 0) 8 Tryz.underlying34 (by kernel_rfl) rfl .i64 .i64 (cdM m k).length (by omega) (by omega);rw [Zcn] at O;have C:=H.k k b;have ai:=Zh C;have au:0<(cdM m k).length→Lie (· < w.heap.size) (h.e k).ko:=fun h0 Y e=>by obtain ⟨aG,e',c0,_⟩:=ZaA (l:=cdM m k) C (i:=0) h0;rw [e] at e';cases e';have:=Zac c0;rwa [Zag] at this
   have af:=Zh B;clear r H hq hm T K he C B;go_enter Tryz.func99,Tryz.ntmps99
   go_upto_region 4 with (go_at_call 100;refine X.out.mono ?_;rintro e w1 ⟨rfl,c⟩;have x:=Zh (Zaf E.out c);have an:=Zh (am.out.old c);clear c)
   have x2:=an.out.cell 2 (v:=.slice h.eo m.me.length h.ec) rfl;rw [ah.out] at x2;have K:=(x.out.cell (Zac J.out)).trans J.out
   go_upto_region 5 with fail
   clear x2 K
   go_upto_region 6 with fail
   clear O;obtain ⟨g,Z⟩:∃ g,g=w1.heap.size:=⟨_,rfl⟩;obtain ⟨W,o⟩:∃ W,W=w1.alloc (Obj.cells (Array.replicate (cdM m k).length (Value.int IntKind.i64 0)) 3):=⟨_,rfl⟩;have ac:=Zh (show Blk W g (ZpN (List.replicate (cdM m k).length 0)) 3 by rw [o,Z];have:=Blk.new w1 (Array.replicate (cdM m k).length (Value.int IntKind.i64 0)) 3;unfold ZpN;rw [List.map_replicate,List.toArray_replicate];exact this);have F:=Zh (show Below w.heap.size w W by rw [o];exact bal x.out _);have D:=Zh (show w.heap.size≤g∧g<W.heap.size by rw [o,Z];exact ⟨x.out.size,by simp⟩);rw [←o,←Z];clear Z o
   go_upto_region 7 with (first
     | (go_at_call 104;refine (HP.out _ F.out).mono ?_;rintro e w3 ⟨ro,rc,V,rfl,n,R,A⟩;have G:=Zh (Zaf F.out A);have ae:=Zh (ac.out.old A)
        have y:=Zh (And.intro (Zar.of_own n) (And.intro (show Lie (·≠g) ro from fun Y e=>by have:=ZmA n Y e;have:=D.out;omega) (R.weak (Q:=(·≠g)) fun j hj=>by have:=D.out;omega)));clear n R A)
     | (go_at_call 157
        refine (Zp2 (h.e k).ko (h.e k).kc g (fun h0 Y e=>by have:=au h0 Y e;have:=D.out;omega) af.out _ 0 (cdM m k).length (Nat.le_refl _) w3 ro rc V (List.replicate (cdM m k).length 0) 1 (ai.out.old G.out) y.out.1 y.out.2.1 y.out.2.2 ae.out (by simp) (by unfold Bd;omega) (Zo9 _ _)).mono ?_;rintro e w4 ⟨v4,L,rfl,U,M,N,S⟩;have I:=Zh (U.below G.out (Nat.le_refl _) D.out.1 D.out.1);have HL:=Zh (ZrS (l:=cdM m k) (L:=L) (by simpa using N) fun i=>by rw [S];split<;>first|rfl|(simp [List.getD_eq_getElem?_getD,List.getElem?_replicate];split<;>rfl));have u:=Zh M;clear U M N S))
   have hL:=HL.out;have q:L.length=(cdM m k).length:=by rw [hL];simp [ZrQ]
   have al:=Zh (ZrN u.out);rw [q] at al;have hC:=fun w' (hb:Below w4.heap.size w4 w')=>ZrP L (some ⟨g,0,none⟩) L.length 1000000001 w' (Zar.old (ZrN u.out) hb) (by omega);rw [q] at hC;have HC:=Zh hC;have ak:=Zh q;clear hL hC q;by_cases hin:ZmR∈L
   · obtain ⟨rfl,rfl⟩:=Prod.mk.inj (HZ.out.trans (by rw [←HL.out,if_pos hin]));have f:(1000000001:Int)∈L:=hin
     go_wp2_with (go_at_call 113;refine (HC.out _ (Below.refl _ _)).mono ?_;rintro e w5 ⟨rfl,s⟩;rw [decide_eq_true f])
     go_ret2;exact ⟨⟨none,0,rfl,Zar.nil _,fun _ e=>by cases e⟩,Zaf I.out s⟩
   · obtain ⟨t,e2⟩:=Prod.mk.inj (HZ.out.trans (by rw [←HL.out,if_neg hin]));subst e2;have ag:=Zh t;clear t;have f:¬ (1000000001:Int)∈L:=hin
     go_wp2_with (go_at_call 113;refine (HC.out _ (Below.refl _ _)).mono ?_;rintro e w5 ⟨rfl,s⟩;rw [decide_eq_false f])
     go_ret2;rw [ag.out];exact ⟨⟨some ⟨g,0,none⟩,L.length,by rw [ak.out];rfl,Zar.old (ZrN u.out) s,fun a e=>by cases e;exact D.out.1⟩,Zaf I.out s⟩
end
