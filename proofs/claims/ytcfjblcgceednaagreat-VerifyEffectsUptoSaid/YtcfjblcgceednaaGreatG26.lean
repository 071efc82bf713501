/- code.Match of valid code. -/
import Derived.Test.YtcfjblcgceednaaGreatG9
set_option linter.all false
set_option linter.unusedVariables false
set_option linter.unusedSimpArgs false
set_option maxRecDepth 100000
set_option maxHeartbeats 4000000
namespace Go.Proofs.YtcfjblcgceednaaGreat
section
open Go.RowKit
theorem Znr {w:World}{a b:Nat}{xs ys:Array Value}{t u:TypeId} (h:Blk w a xs t) (g:Blk w b ys u) (hn:t≠u):a≠b:=by
 rintro rfl
 unfold Blk at h g
 rw [h] at g
 cases g
 exact hn rfl
theorem ZcI.set {l:List In3}{w:World}{v0 v1 v2 v3:Value} (H:ZcI l w v0 v1 v2 v3) {B:Nat}{xs:Array Value}{t:TypeId} (hB:Blk w B xs t) (ht:3≠t) (j:Nat) (v:Value):ZcI l (w.setCell ⟨B,j,none⟩ v) v0 v1 v2 v3:=by
 obtain ⟨g0,g1,g2,g3,P,E,Q,R,h0,h1,h2,h3,hl,b0,b1,b2,b3,ha⟩:=H
 exact ⟨g0,g1,g2,g3,P,E,Q,R,h0,h1,h2,h3,hl,b0.other (a:=⟨B,j,none⟩) (Znr b0 hB ht) v,b1.other (a:=⟨B,j,none⟩) (Znr b1 hB ht) v,b2.other (a:=⟨B,j,none⟩) (Znr b2 hB ht) v,b3.other (a:=⟨B,j,none⟩) (Znr b3 hB ht) v,ha⟩
theorem ZcI.alloc {l:List In3}{w:World}{v0 v1 v2 v3:Value} (H:ZcI l w v0 v1 v2 v3) (o:Obj):ZcI l (w.alloc o) v0 v1 v2 v3:=by
 obtain ⟨g0,g1,g2,g3,P,E,Q,R,h0,h1,h2,h3,hl,b0,b1,b2,b3,ha⟩:=H
 exact ⟨g0,g1,g2,g3,P,E,Q,R,h0,h1,h2,h3,hl,b0.alloc o,b1.alloc o,b2.alloc o,b3.alloc o,ha⟩
def Zns (l:List In3) (W:World):Ending→World→Prop:=fun e w'=>(∃ v0 v1 v2 v3:Value,∃ n:Int,e=.returned (.tuple #[.agg #[v0,v1,v2,v3,.int .i64 n,.bool true],.int .i64 0])∧ZcI l w' v0 v1 v2 v3)∧Below W.heap.size W w'
theorem Znt {l:List In3} (h:ZaV false l=0):l.length≤120∧l.all (ZaQ false)=true∧ZaU l=true:=by
 unfold ZaV at h
 split at h
 ·omega
 ·split at h
  ·split at h
   ·rename_i h1 h2 h3;exact ⟨by omega,h2,h3⟩
   ·omega
  ·omega
theorem Znu (l:List In3) (ao:Option Addr) (cap:Nat) (w:World) (hl:Zar w ao cap l) (hv:ZaV false l=0) (k:Nat) (hk:k<l.length) :
  Calls Tryz.prog 224 #[.slice ao l.length cap,.int .i64 k] w (Zns l w):=by
 obtain ⟨h1,h2,h3⟩:=Znt hv
 obtain ⟨B,hB⟩:∃ B,B=w.heap.size:=⟨_,rfl⟩
 have hb0:=(Below.refl w.heap.size w).alloc (Nat.le_refl _) (.cells #[.slice none 0 0,.slice none 0 0,.slice none 0 0,.slice none 0 0,.int .i64 0,.bool false] 245)
 have hX:=Blk.new' (w:=w) #[.slice none 0 0,.slice none 0 0,.slice none 0 0,.slice none 0 0,.int .i64 0,.bool false] 245 hB
 have HC:=Zh (ZgN l ao cap false _ (hl.old hb0))
 rw [hv] at HC
 have HS:=Zh (fun w' hb=>Zc9 l ao cap w' (hl.old hb) h1)
 have H3:=Zh h3
 have HB:=Zh hB
 have HX:=Zh hX
 have HB0:=Zh hb0
 have hk2:(k:Int) < l.length:=by omega
 clear hl hv h2 h3 hB hX hb0
 go_enter Tryz.func224,Tryz.ntmps224
 go_wp2_with (first
  | (go_at_call 299;refine HC.out.mono ?_;rintro e w1 ⟨rfl,hb1⟩;have HB1:=Zh (Zaf HB0.out hb1);have HX1:=Zh (HX.out.old hb1);clear hb1)
  | (go_at_call 300;refine (HS.out _ HB1.out).mono ?_;rintro e w2 ⟨⟨v0,v1,v2,v3,n,rfl,hs⟩,hb2⟩;have HB2:=Zh (Zaf HB1.out hb2);have HX2:=Zh (HX1.out.old hb2);obtain ⟨g0,g1,g2,g3,P,E,Q,R,rfl,rfl,rfl,rfl,hr⟩:=hs H3.out;have HS2:RowKit.Hid (ZcI l w2 _ _ _ _):=⟨g0,g1,g2,g3,P,E,Q,R,rfl,rfl,rfl,rfl,hr⟩;rw [H3.out];clear hb2 hs hr;rw [←HB.out];have x0:=HX2.out.cell 0 rfl;have x1:=HX2.out.cell 1 rfl;have x2:=HX2.out.cell 2 rfl;have x3:=HX2.out.cell 3 rfl;have x4:=HX2.out.cell 4 rfl;have x5:=HX2.out.cell 5 rfl;have f0:=HX2.out.frozen 0;have f1:=HX2.out.frozen 1;have f2:=HX2.out.frozen 2;have f3:=HX2.out.frozen 3;have f4:=HX2.out.frozen 4;have f5:=HX2.out.frozen 5))
 have hR:=(((((HX2.out.set 0 (.slice (some ⟨g0,0,none⟩) l.length l.length)).set 1 (.slice (some ⟨g1,0,none⟩) l.length l.length)).set 2 (.slice (some ⟨g2,0,none⟩) l.length l.length)).set 3 (.slice (some ⟨g3,0,none⟩) l.length l.length)).set 4 (.int .i64 n)).set 5 (.bool true)
 have y0:=hR.cell 0 rfl
 have y1:=hR.cell 1 rfl
 have y2:=hR.cell 2 rfl
 have y3:=hR.cell 3 rfl
 have y4:=hR.cell 4 rfl
 have y5:=hR.cell 5 rfl
 refine bodyPost_ret (v:=.tuple #[.agg #[.slice (some ⟨g0,0,none⟩) l.length l.length,.slice (some ⟨g1,0,none⟩) l.length l.length,.slice (some ⟨g2,0,none⟩) l.length l.length,.slice (some ⟨g3,0,none⟩) l.length l.length,.int .i64 n,.bool true],.int .i64 0]) (by simp [results,Tryz.results224,go_sem,y0,y1,y2,y3,y4,y5]) rfl ⟨⟨_,_,_,_,_,rfl,?_⟩,?_⟩
 ·exact (((((HS2.out.set HX2.out (by decide) 0 _).set (HX2.out.set 0 _) (by decide) 1 _).set ((HX2.out.set 0 _).set 1 _) (by decide) 2 _).set (((HX2.out.set 0 _).set 1 _).set 2 _) (by decide) 3 _).set ((((HX2.out.set 0 _).set 1 _).set 2 _).set 3 _) (by decide) 4 _).set (((((HX2.out.set 0 _).set 1 _).set 2 _).set 3 _).set 4 _) (by decide) 5 _
 ·have:=HB.out
  exact ZcW (ZcW (ZcW (ZcW (ZcW (ZcW HB2.out (by omega) _) (by omega) _) (by omega) _) (by omega) _) (by omega) _) (by omega) _
theorem ZcI.mat {l:List In3}{w:World}{v0 v1 v2 v3:Value} (H:ZcI l w v0 v1 v2 v3) {k en:Nat}{alt:Int} (hm:Mat l k alt en):∃ g0 g1 g2 g3,(v0=.slice (some ⟨g0,0,none⟩) l.length l.length∧v1=.slice (some ⟨g1,0,none⟩) l.length l.length∧v2=.slice (some ⟨g2,0,none⟩) l.length l.length∧v3=.slice (some ⟨g3,0,none⟩) l.length l.length)∧w.cell? ⟨g1,k,none⟩=some (.int .i64 alt)∧w.cell? ⟨g2,k,none⟩=some (.int .i64 en):=by
 obtain ⟨g0,g1,g2,g3,P,E,Q,R,h0,h1,h2,h3,⟨l0,l1,l2,l3⟩,b0,b1,b2,b3,ha⟩:=H
 obtain ⟨n,hn,hm2⟩:=ZbZ ha hm.1 hm.2.1
 obtain ⟨e1,e2⟩:=ZbH hm hm2
 have hk:=hm.1
 refine ⟨g0,g1,g2,g3,⟨h0,h1,h2,h3⟩,?_,?_⟩
 ·rw [b1.cell k (v:=.int .i64 alt) (by simp [show k<E.length by omega];unfold gx at e1;simpa [show k<E.length by omega] using e1.symm)]
 ·rw [b2.cell k (v:=.int .i64 en) (by simp [show k<Q.length by omega];unfold gx at hn;simp [show k<Q.length by omega] at hn;omega)]
theorem Znv (l:List In3) (ao:Option Addr) (cap:Nat) (w:World) (hl:Zar w ao cap l) (hv:ZaV false l=0) {k en:Nat}{alt:Int} (hm:Mat l k alt en) :
  Calls Tryz.prog 163 #[.slice ao l.length cap,.int .i64 k] w (Ret w (.tuple #[.int .i64 alt,.int .i64 en,.int .i64 0])):=by
 have hk:=hm.1
 have hk2:(k:Int) < l.length:=by omega
 have HI:=Zh (Znu l ao cap w hl hv k hk)
 have HOp:=Zh (show ZaR (l.getD k default).op=true from hm.2.1)
 have HM:=Zh hm
 have HL:=Zh (fun w' hb=>ZaA (Zar.old hl (w':=w') hb) hk)
 clear hl hv hm
 obtain ⟨op,hop⟩:∃ o,o=(l.getD k default).op:=⟨_,rfl⟩
 rw [←hop] at HOp HL
 have HOq:=Zh hop
 clear hop
 go_enter Tryz.func163,Tryz.ntmps163
 go_wp2_with (first
  | (go_at_call 224;refine HI.out.mono ?_;rintro e w1 ⟨⟨v0,v1,v2,v3,n,rfl,hs⟩,hb1⟩;have HB1:=Zh hb1;obtain ⟨g0,g1,g2,g3,⟨rfl,rfl,rfl,rfl⟩,c1,c2⟩:=hs.mat HM.out;obtain ⟨ad,rfl,o0,-,-⟩:=HL.out _ hb1;have hl1:=Zac c1;have hl2:=Zac c2;dsimp only at hl1 hl2;have hl3:=Zac o0;clear hb1 hs)
  | (go_at_call 162;refine (ZcP _ _).mono ?_;rintro e w2 ⟨rfl,rfl⟩;rw [HOp.out]))
 go_quiet (fail)
 go_wp2
 go_ret3
 exact ZcT rfl (by have:=HB1.out;exact bE)
end
end Go.Proofs.YtcfjblcgceednaaGreat
