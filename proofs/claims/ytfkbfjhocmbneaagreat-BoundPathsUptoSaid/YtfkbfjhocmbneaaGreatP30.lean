/- Joined texts. The first: The reference's weights, and that they are the program's. -/
import Derived.Test.YtfkbfjhocmbneaaGreatG29
set_option linter.all false
set_option linter.unusedVariables false
set_option linter.unusedSimpArgs false
set_option maxHeartbeats 4000000
namespace Go.Proofs.YtfkbfjhocmbneaaGreat
section
open Go.RowKit
def ZpE (m:Md) (l:List In3):Prop:=∀ i∈l,i.op=26→ZaN m i.a≠[]
end
section
open Go.RowKit
theorem ZpF {s t:List Br × Nat}{i:In3} (h:ZaS s i=some t) (hs:s.1.length≤s.2):t.1.length≤t.2:=by
 obtain ⟨S,D⟩:=s
 unfold ZaS at h
 split at h
 ·cases h;simp;omega
 ·split at h
  ·cases S with
   | nil=>cases h
   |cons b r=>
    dsimp only at h
    split at h
    ·cases h;simp at hs ⊢;omega
    ·cases h
  ·split at h
   ·cases S with
    | nil=>cases h
    |cons b r=>
     dsimp only at h
     split at h
     ·cases h
     ·cases h;simp at hs ⊢;omega
   ·cases h;exact hs
theorem ZpG:∀ (l:List In3) (s t:List Br × Nat),ZaT s l=some t→s.1.length≤s.2→t.1.length≤t.2
 | [],s,t,h,hs=>by cases h;exact hs
 |i :: l,s,t,h,hs=>by
  unfold ZaT at h
  split at h
  ·cases h
  ·rename_i u hu
   exact ZpG l u t h (ZpF hu hs)
theorem ZpH {l:List In3} (hv:ZaU l=true) {k:Nat} (h:Za8 l k):False:=by
 unfold ZaU at hv
 split at hv
 ·cases hv
 ·rename_i st d hf
  simp only [Bool.and_eq_true,List.isEmpty_iff] at hv
  obtain ⟨rfl,_⟩:=hv
  rw [←List.take_append_drop k l,Za2] at hf
  cases h1:ZaT ([],0) (l.take k) with
  | none=>rw [h1] at hf;cases hf
  |some t=>
   rw [h1] at hf
   obtain ⟨S,D⟩:=t
   exact h S D (ZpG _ _ _ h1 (Nat.le_refl _)) _ hf rfl
theorem ZpI (l:List In3) (ao:Option Addr) (cap:Nat) (w:World) (hl:Zar w ao cap l) (hv:ZaV false l=0) {k en:Nat}{alt:Int} (hm:Mat l k alt en) :
    Calls Tryz.prog 47 #[.slice ao l.length cap,.int .i64 k] w (Ret w (.tuple #[.int .i64 alt,.int .i64 en,.int .i64 0])):=by
 have hcl:=(Znj hv).1
 have hk:=hm.1
 have hk2:(k:Int) < l.length:=by omega
 have HC:=Zh (ZgK l ao cap false w hl)
 rw [hv] at HC
 have hop:ZaR (l.getD k default).op=true:=hm.2.1
 have HB:=Zh (fun w' hb=>ZgH l ao cap w' (Zar.old hl (w':=w') hb) (by omega) l.length (ZgI l ao cap w' (Zar.old hl hb) (by omega) l.length) k hk (by omega) hop)
 have HL:=Zh (fun w' hb=>ZaA (Zar.old hl (w':=w') hb) hk)
 have HM:=Zh hm
 have HN:=Zh (Znj hv).2.2
 obtain ⟨op,ho⟩:∃ o,o=(l.getD k default).op:=⟨_,rfl⟩
 rw [←ho] at hop HL
 have HOp:=Zh hop
 clear ho hop hl hv hm
 go_enter Tryz.func47,Tryz.ntmps47
 go_wp2_with (first
   | (go_at_call 53;refine HC.out.mono ?_;rintro e w1 ⟨rfl,hb1⟩;have HB1:=Zh hb1;obtain ⟨ad,rfl,o0,-,-⟩:=HL.out _ hb1;clear hb1)
   | (go_at_call 81;refine (ZeO _ _).mono ?_;rintro e w2 ⟨rfl,rfl⟩;rw [HOp.out])
   | (go_at_call 82;refine (HB.out _ HB1.out).mono ?_;rintro e w3 ⟨hbr,rfl⟩
      obtain ⟨alt',en',d',rfl,hm'⟩:∃ (alt':Int) (en' d':Nat),e=.returned (.tuple #[.int .i64 alt',.int .i64 en',.int .i64 d'])∧Mat l k alt' en':=by
        rcases hbr with ⟨alt',n',d',e1,-,-,-,hm'⟩|⟨-,hst⟩
        · exact ⟨alt',n',d',e1,hm'⟩
        · exact (ZpH HN.out hst).elim
      obtain ⟨rfl,rfl⟩:=Prod.mk.inj ((Zmd HM.out).symm.trans (Zmd hm'))))
 go_ret3
 exact ZcT rfl HB1.out
end
section
open Go.RowKit
theorem ZpJ (g n:Nat):(⟨g,0,none⟩:Addr).add n=⟨g,n,none⟩:=by unfold Addr.add;split<;>simp_all
end
section
open Go.RowKit
theorem ZpK (m:Md) (h:Hd) (w:World) (H:Zay w h m):Calls Tryz.prog 61 #[.agg #[.slice h.co m.cl.length h.cc,.slice h.so m.st.length h.sc,.slice h.eo m.me.length h.ec,.int .i64 m.sel]] w (Ret w (.int .i64 (if (Zl6 m).2.2=0 then 0 else 1))):=by
 have HC:=Zh (fun w' hb=>Zji m h w' (H.old (w':=w') hb))
 have HV:=Zh (fun w' hb=>Zma w' h m (H.old (w':=w') hb))
 have hmv:Za1 m=false→(Zl6 m).2.2=1:=fun q=>by unfold Zl6;rw [if_neg (by rw [q];decide)]
 obtain ⟨q,hq⟩:∃ q:Int,q=if (Zl6 m).2.2=0 then 0 else 1:=⟨_,rfl⟩
 rw [←hq]
 obtain ⟨⟨z0,z1,z2⟩,hz⟩:∃ z,z=Zl6 m:=⟨_,rfl⟩
 rw [←hz] at HV hq hmv
 dsimp only at hq hmv
 have HQ:=Zh hq
 have HB0:=Zh (show Below w.heap.size w (w.alloc (.cells #[.slice h.co m.cl.length h.cc,.slice h.so m.st.length h.sc,.slice h.eo m.me.length h.ec,.int .i64 m.sel] 26)) by exact bE)
 have HX0:=Zh (Blk.new w #[.slice h.co m.cl.length h.cc,.slice h.so m.st.length h.sc,.slice h.eo m.me.length h.ec,.int .i64 m.sel] 26)
 rcases hm:Za1 m with _|_
 ·have e1:q=1:=by rw [hq,hmv hm];rfl
  have HE:=Zh e1
  rw [hm] at HC
  clear H hz hq hm hmv e1
  go_enter Tryz.func61,Tryz.ntmps61
  go_wp2_with (go_at_call 94;refine (HC.out _ HB0.out).mono ?_;rintro e w1 ⟨rfl,hb1⟩)
  go_ret
  exact ZcT (ZcY HE.out.symm) (Zaf HB0.out hb1)
 ·rw [hm] at HC
  clear H hz hq hm hmv
  go_enter Tryz.func61,Tryz.ntmps61
  go_wp2_with (first
   | (go_at_call 94;refine (HC.out _ HB0.out).mono ?_;rintro e w1 ⟨rfl,hb1⟩;have HB1:=Zh (Zaf HB0.out hb1);have HX1:=Zh (HX0.out.old hb1);have x0:=HX1.out.cell 0 (v:=.slice h.co m.cl.length h.cc) rfl;have x1:=HX1.out.cell 1 (v:=.slice h.so m.st.length h.sc) rfl;have x2:=HX1.out.cell 2 (v:=.slice h.eo m.me.length h.ec) rfl;have x3:=HX1.out.cell 3 (v:=.int .i64 m.sel) rfl;clear hb1)
   | (go_at_call 95;refine (HV.out _ HB1.out).mono ?_;rintro e w2 ⟨rfl,hb2⟩;have HB2:=Zh (Zaf HB1.out hb2);clear hb2))
  all_goals
   go_ret
   refine ZcT (ZcY ?_) HB2.out
   rw [HQ.out]
   grind
theorem ZpL (m:Md) (h:Hd) (k:Int) (w:World) (H:Zay w h m):Calls Tryz.prog 46 #[.agg #[.slice h.co m.cl.length h.cc,.slice h.so m.st.length h.sc,.slice h.eo m.me.length h.ec,.int .i64 m.sel],.int .i64 k] w (Ret w (.int .i64 (if ZoO m k=true then 0 else 1))):=by
 have HF:=Zh (fun w' hb=>ZpK m h w' (H.old (w':=w') hb))
 obtain ⟨q,hq⟩:∃ q:Int,q=if ZoO m k=true then 0 else 1:=⟨_,rfl⟩
 rw [←hq]
 obtain ⟨z,hz⟩:∃ z:Int,z=if (Zl6 m).2.2=0 then 0 else 1:=⟨_,rfl⟩
 have hq2:q=if z=0∧0≤k∧k<m.me.length then 0 else 1:=by
  rw [hq,hz]
  unfold ZoO inV
  by_cases h1:(Zl6 m).2.2=0
  ·simp [h1]
  ·simp [h1]
 rw [←hz] at HF
 have HZ:=Zh (show z=0∨z=1 by rw [hz];split<;>simp)
 have HQ:=Zh hq2
 have HB0:=Zh (show Below w.heap.size w (w.alloc (.cells #[.slice h.co m.cl.length h.cc,.slice h.so m.st.length h.sc,.slice h.eo m.me.length h.ec,.int .i64 m.sel] 26)) by exact bE)
 have HX0:=Zh (Blk.new w #[.slice h.co m.cl.length h.cc,.slice h.so m.st.length h.sc,.slice h.eo m.me.length h.ec,.int .i64 m.sel] 26)
 clear H hq hz hq2
 go_enter Tryz.func46,Tryz.ntmps46
 go_wp2_with (go_at_call 61;refine (HF.out _ HB0.out).mono ?_;rintro e w1 ⟨rfl,hb1⟩;have x2:=(HX0.out.old hb1).cell 2 (v:=.slice h.eo m.me.length h.ec) rfl;have HB1:=Zh (Zaf HB0.out hb1);clear hb1)
 all_goals
  go_ret
  refine ZcT (ZcY ?_) HB1.out
  have:=HZ.out
  rw [HQ.out]
  grind
def rcV (k:Int) (a:Int):Int:=if k=8∨k=18∨k=19∨k=23∨k=28 then 3 else if k=9 then 8 else if k=14 then 12 else if k=15∨k=16 then 4+a else if k=17∨k=21∨k=22∨k=24∨k=27∨k=30∨k=31∨k=33 then 2 else if k=20∨k=25∨k=32 then 4 else if k=26 then 6 else 1
theorem ZpM {i:In3} (h:ZaQ false i=true):Zmw i=rcV i.op i.a:=by
 have hop:=Znf h
 obtain ⟨op,a,b⟩:=i
 dsimp only at hop ⊢
 obtain ⟨k,rfl⟩:∃ k:Nat,op=k:=⟨op.toNat,by omega⟩
 have hk:k<36:=by omega
 have h1:∀ k,k<36→((opC.getD k 0:Nat):Int)=rcV k 0:=by decide
 unfold Zmw
 rw [Int.toNat_natCast,h1 k hk]
 unfold rcV
 grind
theorem ZpN (i:In3) (w:World) (hv:ZaQ false i=true):Calls Tryz.prog 16 #[.agg #[.int .i64 i.op,.int .i64 i.a,.int .i64 i.b]] w (Zhf w (.int .i64 (Zmw i)) (.int .i64 0)):=by
 have hop:=Znf hv
 have hla:=ZoF hv
 have HV:=Zh (fun w'=>Zgy i false w')
 rw [hv] at HV
 obtain ⟨q,hq⟩:∃ q,q=Zmw i:=⟨_,rfl⟩
 rw [←hq]
 rw [ZpM hv] at hq
 obtain ⟨op,a,b⟩:=i
 dsimp only at hop HV hla hq
 have HQ:=Zh hq
 have HLa:=Zh hla
 have HX:=Zh (Blk.new w #[.int .i64 op,.int .i64 a,.int .i64 b] 42)
 have HB0:=Zh (show Below w.heap.size w (w.alloc (.cells #[.int .i64 op,.int .i64 a,.int .i64 b] 42)) by exact bE)
 have hwa:op=15∨op=16→IntKind.i64.wrap (4+a)=4+a:=fun h=>IntWalk.i64_in _ (by have:=hla h;omega)
 clear hq hv hla
 go_enter Tryz.func16,Tryz.ntmps16
 go_wp2_with (first
  | (go_at_call 49;refine (HV.out _).mono ?_;rintro e w1 ⟨rfl,hb1⟩;have HX1:=Zh (HX.out.old hb1);have HB1:=Zh (Zaf HB0.out hb1);have x0:=HX1.out.cell 0 (v:=.int .i64 op) rfl;have x1:=HX1.out.cell 1 (v:=.int .i64 a) rfl;clear hb1))
 all_goals
  go_ret2
  refine Zhg (ZcY ?_) rfl HB1.out
  rw [HQ.out]
  unfold rcV
  have hwb:op=15∨op=16→wrap64 (4+a)=4+a:=fun q=>by have:=HLa.out q;unfold wrap64;omega
  grind
end
section
open Go.RowKit
theorem ZpO {l:List Int}{k:Nat} (h:k<l.length):l.getD k 0∈l:=by
 have:l.getD k 0=l[k]:=by simp [h]
 rw [this]
 exact List.getElem_mem _
theorem ZpP {m:Md} (h:Za1 m=true):m.cl.length≤10∧m.me.length≤16:=by
 have:=ZfJ h
 unfold ZaZ at this
 simp only [Bool.and_eq_true,decide_eq_true_eq] at this
 omega
end
section
open Go.RowKit
theorem ZpQ {m:Md}{lo:List Ty}{i:In3}{s:Ps} (h:(ZeC m lo i s).1=0) (h26:i.op=26):ZaN m i.a≠[]:=fun e=>by
 unfold ZeC at h
 rw [if_neg (by omega),if_neg (by omega)] at h
 have hp:∀ l,ZeB m lo i l=none:=fun l=>by
  unfold ZeB Zew
  simp [h26,e]
 simp only [hp] at h
 split at h<;>simp at h
theorem ZpR {m:Md}{lo:List Ty}{r:Ty}:∀ (l:List In3) (n:Nat) (s:Ps),(ZeE m lo r n l s).2.2=0→ZpE m l
 | [],_,_,_=>fun i hi=>by simp at hi
 |i :: l,n,s,h=>by
  unfold ZeE at h
  by_cases h1:(ZeC m lo i s).1=0
  ·rw [if_pos h1] at h
   dsimp only at h
   intro j hj
   rcases List.mem_cons.1 hj with rfl|hj
   ·exact ZpQ h1
   ·refine ZpR (lo:=lo) (r:=r) l (n+1) (ZeC m lo i s).2 ?_ j hj
    split at h
    ·assumption
    ·exact h
  ·rw [if_neg h1] at h
   exact absurd h h1
theorem ZpS {m:Md}:∀ (n k:Nat),(Zl5 m n k).2.2=0→∀ j,k≤j→j<k+n→(ZeG m j).2.2=0
 | 0,k,_,j,h1,h2=>by omega
 |n+1,k,h,j,h1,h2=>by
  unfold Zl5 at h
  by_cases h3:(ZeG m k).2.2=0
  ·rw [if_pos h3] at h
   by_cases e:j=k
   ·subst e;exact h3
   ·exact ZpS n (k+1) h j (by omega) (by omega)
  ·rw [if_neg h3] at h
   exact absurd h h3
theorem ZpT {m:Md} (h:(Zl6 m).2.2=0):Za1 m=true∧∀ k,k<m.me.length→ZpE m (cdM m k):=by
 unfold Zl6 at h
 by_cases hm:Za1 m=true
 ·rw [if_pos hm] at h
  exact ⟨hm,fun k hk=>ZpR _ _ _ (ZpS _ _ h k (Nat.zero_le _) (by omega))⟩
 ·rw [if_neg hm] at h
  exact absurd h (by decide)
def ZpU (g:Wg) (l:List In3) (p:Nat):Int × Nat:=
 if ZaR (l.getD p default).op=true then
  (g.brk (l.getD p default) (WA g l (p+1) (if (mtV l p).1<0 then (mtV l p).2 else (mtV l p).1.toNat) 0) (if (mtV l p).1<0 then 0 else WA g l ((mtV l p).1.toNat+1) (mtV l p).2 0),(mtV l p).2+1)
 else (g.pl (l.getD p default),p+1)
theorem ZpV {g:Wg}{l:List In3}{p b:Nat} (h:Seg l p b) (hp:p<b):p<(ZpU g l p).2∧(ZpU g l p).2≤b∧Seg l (ZpU g l p).2 b∧∀ acc,WA g l p b acc=WA g l (ZpU g l p).2 b (g.plus acc (ZpU g l p).1):=by
 rcases Zno h with e|⟨_,h2,h3,h4,h5⟩|⟨en,h1,h2,h3,h4,h5⟩|⟨n,en,h1,h2,h3,h4,h5,h6,h7⟩
 ·omega
 ·have e:ZpU g l p=(g.pl (l.getD p default),p+1):=by unfold ZpU;rw [if_neg (by rw [h2];decide)]
  rw [e]
  exact ⟨Nat.lt_succ_self _,hp,h5,fun acc=>Zmm h2 h5⟩
 ·have e:ZpU g l p=(g.brk (l.getD p default) (WA g l (p+1) en 0) 0,en+1):=by unfold ZpU;rw [if_pos (show _=true from h1.2.1),Zmd h1];rfl
  rw [e]
  exact ⟨by dsimp only;omega,by dsimp only;omega,h5,fun acc=>Zmn h1 h4 h5⟩
 ·have e:ZpU g l p=(g.brk (l.getD p default) (WA g l (p+1) n 0) (WA g l (n+1) en 0),en+1):=by
   unfold ZpU
   rw [if_pos (show _=true from h1.2.1),Zmd h1]
   dsimp only
   rw [if_neg (by omega),if_neg (by omega),Int.toNat_natCast]
  rw [e]
  exact ⟨by dsimp only;omega,by dsimp only;omega,h7,fun acc=>Zmo h1 h5 h6 h7⟩
end
section
open Go.RowKit
attribute [local go_sem] ZpJ
end
end Go.Proofs.YtfkbfjhocmbneaaGreat
