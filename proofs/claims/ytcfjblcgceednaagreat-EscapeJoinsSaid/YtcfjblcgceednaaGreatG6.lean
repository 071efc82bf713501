/- Joined texts. The first: verify: the checker's block, what its functions leave; fail, want, counts, local, field, element, fit. -/
import Derived.Test.YtcfjblcgceednaaGreatG4
set_option linter.all false
set_option linter.unusedVariables false
set_option linter.unusedSimpArgs false
set_option maxRecDepth 100000
set_option maxHeartbeats 80000000
namespace Go.Proofs.YtcfjblcgceednaaGreat
theorem k14{p:Prop}(h:p:=by
 obtain ⟨op,a,b⟩:=i;dsimp only at h;subst h;rfl):p:=h
theorem k37{p:Prop}(h:p:=by
 have hq:Zfd sn takes pushes bz=false:=by unfold Zfd;grind
 rw [hq]
 clear hq
 go_enter Tryz.func255,Tryz.ntmps255
 go_wp2_with (first|(go_at_call 320;refine HF.out.mono ?_;rintro e w1 ⟨rfl,hb⟩)|(go_at_call 318;refine (ZeS K h m L _ _ e 12 _ (HH.out.old hb)).mono ?_;rintro e w2 ⟨⟨v,rfl⟩,hc,hu⟩))
 go_ret
 exact ⟨rfl,hc,(Upd.of hb).trans hu⟩):p:=h
theorem k38{p:Prop}(h:p:=by
 have h4:=Zed HO4.out (base':=w.heap.size) (by have:=HBxl.out;omega)
 refine ⟨⟨ao4,cap4,?_,?_⟩,HB4.out⟩
 ·rw [HQ.out,if_neg (show ¬ 0≤c by have:=HC.out;omega)];simp
 ·rw [HQ.out,if_neg (show ¬ 0≤c by have:=HC.out;omega),Zan,Zan]
  have e:(([]:List Ty)++pl++ll).length=0+pl.length+ll.length:=by simp
  rw [e]
  exact h4):p:=h
theorem k42{p:Prop}(h:p:=by
 have h4:=Zed HO4.out (base':=w.heap.size) (by have:=HBxl.out;omega)
 refine ⟨⟨ao4,cap4,?_,?_⟩,HB4.out⟩
 ·rw [HQ.out,if_pos HC.out];simp;omega
 ·rw [HQ.out,if_pos HC.out,Zan,Zan]
  have e:(([⟨2,c⟩]:List Ty)++pl++ll).length=1+pl.length+ll.length:=by simp;omega
  rw [e]
  exact h4):p:=h
theorem k89{p:Prop}(h:p:=by
 apply List.ext_getElem h
 intro i h2 h3
 have:=h1 i h2
 simpa [List.getD_eq_getElem?_getD,h2,h3] using this):p:=h
theorem k96{p:Prop}(h:p:=by
 gi_wp2
 exact ⟨KeepsFrom.refl _ _,Below.refl _ _,⟨⟨HF.out,HR.out⟩,HB1.out⟩,HB2.out⟩):p:=h
section
open Go.RowKit
structure Upd (K B:Nat) (w w':World):Prop where
 os:w'.os=w.os
 tape:w'.tape=w.tape
 output:w'.output=w.output
 size:w.heap.size≤w'.heap.size
 block:∀ k,k<w.heap.size→k≠K→k≠B→w'.heap[k]?=w.heap[k]?
theorem Upd.refl (K B:Nat) (w:World):Upd K B w w:=⟨rfl,rfl,rfl,Nat.le_refl _,fun _ _ _ _=>rfl⟩
theorem Upd.trans {K B:Nat}{a b c:World} (h:Upd K B a b) (k:Upd K B b c):Upd K B a c:=
 ⟨k.os.trans h.os,k.tape.trans h.tape,k.output.trans h.output,Nat.le_trans h.size k.size,fun i hi h1 h2=>(k.block i (Nat.lt_of_lt_of_le hi h.size) h1 h2).trans (h.block i hi h1 h2)⟩
theorem Upd.of {K B:Nat}{a b:World} (h:Below a.heap.size a b):Upd K B a b:=⟨h.os,h.tape,h.output,h.size,fun k hk _ _=>h.block k hk⟩
theorem Upd.bel {K B:Nat}{a b c:World} (h:Upd K B a b) (k:Below b.heap.size b c):Upd K B a c:=h.trans (.of k)
section
variable {K B:Nat}{a b:World}(h:Upd K B a b)
include K B a b h
theorem Upd.alloc (o:Obj):Upd K B a (b.alloc o):=h.bel ((Below.refl _ _).alloc (Nat.le_refl _) o)
theorem Upd.drew:Upd K B a b.drew:=⟨h.os,h.tape,h.output,h.size,h.block⟩
theorem Upd.drewN (n:Nat):Upd K B a (b.drewN n):=⟨h.os,h.tape,h.output,h.size,h.block⟩
theorem Upd.set (j:Nat) (v:Value):Upd K B a (b.setCell ⟨K,j,none⟩ v):=
 h.trans ⟨rfl,rfl,rfl,by simp [World.setCell],fun k _ h1 _=>Below.heap_setCell _ _ _ _ h1⟩
end
theorem Upd.more {K B:Nat}{a b:World} (h:Upd K K a b):Upd K B a b:=⟨h.os,h.tape,h.output,h.size,fun k hk h1 _=>h.block k hk h1 h1⟩
theorem Upd.below {K B N:Nat}{w0 a b:World} (h:Upd K B a b) (hb:Below N w0 a) (hN:N≤w0.heap.size) (hK:N≤K) (hB:N≤B):Below N w0 b:=
 hb.trans ⟨h.os,h.tape,h.output,h.size,fun k hk=>h.block k (by have:=hb.size;omega) (by omega) (by omega)⟩
def ZeP (w:World) (ao:Option Addr) (cap:Nat) (l:List Ty):Prop:=Zar w ao cap l∧l.length≤cap∧∀ a,ao=some a→∃ xs z,w.heap[a.block]?=some (.cells xs 76 z)
def ZeQ (w:World) (b:Nat):Prop:=b<w.heap.size∧∀ xs z,w.heap[b]?≠some (.cells xs 76 z)
theorem ZeP.upd {w w':World}{ao:Option Addr}{cap:Nat}{l:List Ty}{K B:Nat} (H:ZeP w ao cap l) (h:Upd K B w w') (hK:ZeQ w K) (hB:ZeQ w B):ZeP w' ao cap l:=by
 obtain ⟨h1,h2,h3⟩:=H
 have e:∀ a,ao=some a→w'.heap[a.block]?=w.heap[a.block]?:=fun a ha=>by
  obtain ⟨xs,z,hx⟩:=h3 a ha
  have hl:=(Array.getElem?_eq_some_iff.1 hx).1
  exact h.block _ hl (fun q=>hK.2 xs z (q▸hx)) (fun q=>hB.2 xs z (q▸hx))
 refine ⟨⟨h1.1,h1.2.1,fun j u hu=>?_⟩,h2,fun a ha=>?_⟩
 ·obtain ⟨a,ha,hc⟩:=h1.2.2 j u hu
  refine ⟨a,ha,?_⟩
  have hb:(a.add j).block=a.block:=by unfold Addr.add;split<;>rfl
  rw [World.cell?_of_block (w:=w) (by rw [hb];exact e a ha)]
  exact hc
 ·obtain ⟨xs,z,hx⟩:=h3 a ha
  exact ⟨xs,z,(e a ha).trans hx⟩
def ckC (h:Hd) (m:Md) (L S O:Value) (e:Int):Array Value:=#[.slice h.co m.cl.length h.cc,.slice h.so m.st.length h.sc,.slice h.eo m.me.length h.ec,.int .i64 m.sel,L,S,O,.int .i64 e]
def Ck (w:World) (K:Nat) (h:Hd) (m:Md) (L S O:Value) (e:Int):Prop:=Blk w K (ckC h m L S O e) 214
section
variable {w w':World}{K:Nat}{h:Hd}{m:Md}{L S O:Value}{e:Int}
section
variable (H:Ck w K h m L S O e)
include H
theorem Ck.noTy:ZeQ w K:=⟨Blk.lt H,fun xs z hx=>by
 rw [show w.heap[K]?=_ from H] at hx
 cases hx⟩
theorem Ck.cells:K<w.heap.size∧w.cell? ⟨K,0,none⟩=some (.slice h.co m.cl.length h.cc)∧w.cell? ⟨K,1,none⟩=some (.slice h.so m.st.length h.sc)∧w.cell? ⟨K,2,none⟩=some (.slice h.eo m.me.length h.ec)∧w.cell? ⟨K,3,none⟩=some (.int .i64 m.sel)∧w.cell? ⟨K,4,none⟩=some L∧w.cell? ⟨K,5,none⟩=some S∧w.cell? ⟨K,6,none⟩=some O∧w.cell? ⟨K,7,none⟩=some (.int .i64 e):=
 ⟨Blk.lt H,Blk.cell H 0 rfl,Blk.cell H 1 rfl,Blk.cell H 2 rfl,Blk.cell H 3 rfl,Blk.cell H 4 rfl,Blk.cell H 5 rfl,Blk.cell H 6 rfl,Blk.cell H 7 rfl⟩
theorem Ck.setE (e':Int):Ck (w.setCell ⟨K,7,none⟩ (.int .i64 e')) K h m L S O e':=Blk.set H 7 _
theorem Ck.setS (S':Value):Ck (w.setCell ⟨K,5,none⟩ S') K h m L S' O e:=Blk.set H 5 _
theorem Ck.setO (O':Value):Ck (w.setCell ⟨K,6,none⟩ O') K h m L S O' e:=Blk.set H 6 _
theorem Ck.old (hb:Below w.heap.size w w'):Ck w' K h m L S O e:=Blk.old H hb
end
end
def ZeR (e x:Int):Int:=if e=0 then x else e
theorem ZeS (K:Nat) (h:Hd) (m:Md) (L S O:Value) (e x:Int) (w:World) (H:Ck w K h m L S O e) :
  Calls Tryz.prog 318 #[.pointer (some ⟨K,0,none⟩),.int .i64 x] w fun r w'=>(∃ v,r=.returned v)∧Ck w' K h m L S O (ZeR e x)∧Upd K K w w':=by
 obtain ⟨kl,-,-,-,-,-,-,-,c7⟩:=H.cells
 have f7:w.frozen? ⟨K,7,none⟩=false:=Blk.frozen H 7
 have HH:=Zh H
 clear H
 by_cases he:e=0
 ·subst he
  go_enter Tryz.func318,Tryz.ntmps318
  go_wp2
  go_end0
  exact ⟨⟨_,rfl⟩,HH.out.setE x,(Upd.refl K K w).set 7 _⟩
 ·have he2:(e == 0)=false:=by simpa using he
  have HE:=Zh he
  clear he
  go_enter Tryz.func318,Tryz.ntmps318
  go_wp2
  go_end0
  exact ⟨⟨_,rfl⟩,by rw [show ZeR e x=e from if_neg HE.out];exact HH.out,Upd.refl K K w⟩
def ZeT (e:Int) (so:Bool):Int:=if so then e else ZeR e 11
theorem ZeU (K:Nat) (h:Hd) (m:Md) (L S O:Value) (e:Int) (so:Bool) (w:World) (H:Ck w K h m L S O e) :
  Calls Tryz.prog 248 #[.pointer (some ⟨K,0,none⟩),.bool so] w fun r w'=>(∃ v,r=.returned v)∧Ck w' K h m L S O (ZeT e so)∧Upd K K w w':=by
 have HH:=Zh H
 have HF:=Zh (ZeS K h m L S O e 11 w H)
 clear H
 rcases so with _|_
 all_goals
  go_enter Tryz.func248,Tryz.ntmps248
  go_wp2_with (go_at_call 318;refine HF.out.mono ?_;rintro e w1 ⟨⟨v,rfl⟩,hc,hu⟩)
  go_end0
  first|exact ⟨⟨_,rfl⟩,HH.out,Upd.refl K K w⟩|exact ⟨⟨_,rfl⟩,hc,hu⟩
end
section
open Go.RowKit
attribute [local go_sem] World.cell?_alloc_some
theorem ZeV {w w':World}{a:Addr}{v:Value} (hb:Below w.heap.size w w') (h:w.cell? a=some v):w'.cell? a=some v:=by rw [hb.cell (Zac h)];exact h
theorem ZeW (m:Md) (h:Hd) (t:Ty) (least:Int) (w:World) (hl:0≤least∧least≤1):Calls Tryz.prog 180 #[.agg #[.slice h.co m.cl.length h.cc,.slice h.so m.st.length h.sc,.slice h.eo m.me.length h.ec,.int .i64 m.sel],.agg #[.int .i64 t.k,.int .i64 t.c],.int .i64 least] w (Ret w (.bool (ZaF m.cl.length t least))):=by
 go_enter Tryz.func180,Tryz.ntmps180
 go_wp2
 all_goals
  go_ret
  exact ZcT (ZcX (by grind [ZaF])) bE
theorem ZeX {n:Nat}{l:List Ty}{k:Nat} (hk:k<l.length) (h:ZaF n (l.getD k default) 1=false):ZaG n l=false:=by
 unfold ZaG
 rw [List.all_eq_false]
 exact ⟨l.getD k default,by rw [List.getD_eq_getElem?_getD,List.getElem?_eq_getElem hk];exact List.getElem_mem hk,by rw [h];decide⟩
theorem ZeY {n:Nat}{l:List Ty} (h:∀ i,i<l.length→ZaF n (l.getD i default) 1=true):ZaG n l=true:=by
 unfold ZaG
 rw [List.all_eq_true]
 intro t ht
 obtain ⟨k,hk,rfl⟩:=List.getElem_of_mem ht
 have:=h k hk
 rwa [List.getD_eq_getElem?_getD,List.getElem?_eq_getElem hk] at this
theorem ZeZ (m:Md) (h:Hd) (l:List Ty) (ao:Option Addr) (cap:Nat) (w:World) (hl:Zar w ao cap l) (hm:l.length≤1000000):Calls Tryz.prog 120 #[.agg #[.slice h.co m.cl.length h.cc,.slice h.so m.st.length h.sc,.slice h.eo m.me.length h.ec,.int .i64 m.sel],.slice ao l.length cap] w (Ret w (.bool (ZaG m.cl.length l))):=by
 have hX:=Blk.new w #[.slice h.co m.cl.length h.cc,.slice h.so m.st.length h.sc,.slice h.eo m.me.length h.ec,.int .i64 m.sel] 26
 have hb0:Below w.heap.size w (w.alloc (.cells #[.slice h.co m.cl.length h.cc,.slice h.so m.st.length h.sc,.slice h.eo m.me.length h.ec,.int .i64 m.sel] 26)):=by exact bE
 have HX:=Zh hX
 have HL:=Zh (hl.old hb0)
 have HB0:=Zh hb0
 clear hX hl hb0
 go_enter Tryz.func120,Tryz.ntmps120
 go_upto_region 1 with fail
 generalize w.alloc (.cells #[.slice h.co m.cl.length h.cc,.slice h.so m.st.length h.sc,.slice h.eo m.me.length h.ec,.int .i64 m.sel] 26)=w0 at HX HL HB0 ⊢
 go_wp2_with fail
 go_loopw [5] (fun i wr=>∃ k:Nat,k≤l.length∧i=.int .i64 k∧Below w0.heap.size w0 wr∧Hid (∀ i,i<k→ZaF m.cl.length (l.getD i default) 1=true)) (fun i _=>l.length-(intOf i).toNat)
 case atStart=>exact ⟨0,by omega,rfl,Below.refl _ _,Zh (by omega)⟩
 case round=>
  obtain ⟨k,hk,rfl,hbl,q1⟩:=hrel
  by_cases hkl:k<l.length
  ·obtain ⟨ad,rfl,x0,x1⟩:=Zaz (HL.out.old hbl) hkl
   have hX2:=HX.out.old hbl
   have r0:wr.cell? ⟨w.heap.size,0,none⟩=some (.slice h.co m.cl.length h.cc):=hX2.cell 0 rfl
   have r1:wr.cell? ⟨w.heap.size,1,none⟩=some (.slice h.so m.st.length h.sc):=hX2.cell 1 rfl
   have r2:wr.cell? ⟨w.heap.size,2,none⟩=some (.slice h.eo m.me.length h.ec):=hX2.cell 2 rfl
   have r3:wr.cell? ⟨w.heap.size,3,none⟩=some (.int .i64 m.sel):=hX2.cell 3 rfl
   have rl:=hX2.lt
   have hkl2:(k:Int) < l.length:=by omega
   have hwr:IntKind.i64.wrap ((k:Int)+1)=k+1:=IntWalk.i64_in _ (by omega)
   generalize ht:l.getD k default=t at x0 x1
   have HT:=Zh ht
   have HBL:=Zh hbl
   clear ht hbl hX2
   have hcall:=fun w'=>ZeW m h t 1 w' (by omega)
   generalize hq:ZaF m.cl.length t 1=q at hcall
   have HQ:=Zh hq
   have HC:=Zh hcall
   clear hq hcall
   go_upto_region 4 with fail
   refine rO (fun w'=>w'.cell? ⟨w.heap.size,0,none⟩=some (.slice h.co m.cl.length h.cc)∧w'.cell? ⟨w.heap.size,1,none⟩=some (.slice h.so m.st.length h.sc)∧w'.cell? ⟨w.heap.size,2,none⟩=some (.slice h.eo m.me.length h.ec)∧w'.cell? ⟨w.heap.size,3,none⟩=some (.int .i64 m.sel)∧w'.cell? (ad.add (k*2))=some (.int .i64 t.k)∧w'.cell? ⟨(ad.add (k*2)).block,(ad.add (k*2)).off+1,none⟩=some (.int .i64 t.c)) (oL [0,1,2,3,4,105,6]) ⟨r0,r1,r2,r3,x0,x1⟩ ?_
   repeat refine pO ?_
   refine oO fun K hK=>?_
   go_simp
   refine (HC.out _).mono ?_
   rintro e w2 ⟨rfl,hb2⟩
   have hb2':Below wr.heap.size wr w2:=Zaf (Below.refl _ _).drew hb2
   go_simp
   refine hK _ _ ⟨⟨ZeV hb2' r0,ZeV hb2' r1,ZeV hb2' r2,ZeV hb2' r3,ZeV hb2' x0,ZeV hb2' x1⟩,?_⟩
   clear hK K
   repeat refine pO ?_
   refine Zd5 ?_
   have HBL2:=Zh (Zaf HBL.out hb2')
   clear hb2 hb2'
   rcases q with _|_
   ·go_wp2
    go_ret
    exact ZcT (ZcX (ZeX hkl (by rw [HT.out];exact HQ.out)).symm) (Zaf HB0.out HBL2.out)
   ·go_wp2
    go_roundw
    case rel=>
     refine ⟨k+1,by omega,by go_num,HBL2.out,Zh fun i hi=>?_⟩
     by_cases hik:i<k
     ·exact q1.out i hik
     ·obtain rfl:i=k:=by omega
      rw [HT.out];exact HQ.out
    case measure=>simp [intOf];omega
  ·go_wp2
   go_ret
   exact ZcT (ZcX (ZeY fun i hi=>q1.out i (by omega)).symm) (Zaf HB0.out hbl)
theorem Ze0 {a b:List Ty}{k:Nat} (h:a.getD k default≠b.getD k default):¬ a=b:=fun e=>h (by rw [e])
theorem Ze1 {a b:List Ty} (h:a.length=b.length) (h1:∀ i,i<a.length→a.getD i default=b.getD i default):a=b:=by
 exact k89
theorem Ze2 (a b:List Ty) (ao bo:Option Addr) (ac bc:Nat) (w:World) (ha:Zar w ao ac a) (hb:Zar w bo bc b) (hm:a.length≤2000000):Calls Tryz.prog 89 #[.slice ao a.length ac,.slice bo b.length bc] w (Ret w (.bool (decide (a=b)))):=by
 by_cases hlen:a.length=b.length
 · have HA:=Zh ha
   have HB:=Zh hb
   have HLn:=Zh hlen
   have hb3:((a.length:Int) != b.length)=false:=by simp [hlen]
   clear ha hb hlen
   go_enter Tryz.func89,Tryz.ntmps89
   go_wp2
   go_loopw [5] (fun i wr=>∃ k:Nat,k≤a.length∧i=.int .i64 k∧Below w.heap.size w wr∧Hid (∀ i,i<k→a.getD i default=b.getD i default)) (fun i _=>a.length-(intOf i).toNat)
   case atStart=>exact ⟨0,by omega,rfl,Below.refl _ _,Zh (by omega)⟩
   case round=>
     obtain ⟨k,hk,rfl,hbel,q1⟩:=hrel
     have HL:=Zh hbel
     clear hbel
     by_cases hkl:k<a.length
     · obtain ⟨ad,rfl,x0,x1⟩:=Zaz (HA.out.old HL.out) hkl
       obtain ⟨bd,rfl,y0,y1⟩:=Zaz (HB.out.old HL.out) (i:=k) (by have:=HLn.out;omega)
       have hkb:(k:Int) < b.length:=by have:=HLn.out;omega
       have hka:(k:Int) < a.length:=by omega
       have hwr:IntKind.i64.wrap ((k:Int)+1)=k+1:=IntWalk.i64_in _ (by omega)
       generalize hx:a.getD k default=x at x0 x1
       generalize hy:b.getD k default=y at y0 y1
       have HX:=Zh hx
       have HY:=Zh hy
       clear hx hy
       have hne:=ZdW
       have hgu:=ZdX
       obtain ⟨xk,xc⟩:=x
       obtain ⟨yk,yc⟩:=y
       dsimp only at x0 x1 y0 y1
       go_wp2
       go_quiet (fail)
       go_wp2
       all_goals first
         | (go_ret
            have hh:¬ ((⟨xk,xc⟩:Ty)=⟨yk,yc⟩):=by simp only [Ty.mk.injEq];grind
            exact ZcT (ZcX (decide_eq_false (Ze0 (k:=k) (by rw [HX.out,HY.out];exact hh))).symm) (ZcU HL.out _))
         | (go_roundw
            case rel=>
              refine ⟨k+1,by omega,by go_num,ZcU HL.out _,Zh fun i hi=>?_⟩
              by_cases hik:i<k
              · exact q1.out i hik
              · obtain rfl:i=k:=by omega
                rw [HX.out,HY.out,Ty.mk.injEq]
                grind
            case measure=>simp [intOf];omega)
     · go_wp2
       go_ret
       exact ZcT (ZcX (decide_eq_true (Ze1 HLn.out fun i hi=>q1.out i (by omega))).symm) HL.out
 · have hb3:((a.length:Int) != b.length)=true:=by simp;omega
   go_enter Tryz.func89,Tryz.ntmps89
   go_wp2
   go_ret
   exact ZcT (ZcX (decide_eq_false fun e=>hlen (by rw [e])).symm) bE
theorem Ze3 (m:Md) (h:Hd) (a b:Int) (w:World) (H:Zay w h m) (ha:a<m.cl.length) (hd:Zc3 m (a.toNat+1)):Calls Tryz.prog 179 #[.agg #[.slice h.co m.cl.length h.cc,.slice h.so m.st.length h.sc,.slice h.eo m.me.length h.ec,.int .i64 m.sel],.int .i64 a,.int .i64 b] w (Ret w (.bool (Zc2 m (m.cl.length+1) a b))):=by
 obtain ⟨q,hq⟩:∃ q,q=Zc2 m (m.cl.length+1) a b:=⟨_,rfl⟩
 rw [←hq]
 have HQ:=Zh hq
 have hbz:=H.bz
 clear hq
 have hbel:=(Below.refl w.heap.size w).alloc (Nat.le_refl _) (.cells #[.slice h.co m.cl.length h.cc,.slice h.so m.st.length h.sc,.slice h.eo m.me.length h.ec,.int .i64 m.sel] 26)
 have HM1:=Zh (H.old hbel)
 have HD:=Zh hd
 clear H hd
 obtain ⟨co,cc,so,sc,eo,ec,hc,he⟩:=h;dsimp only
 dsimp only at HM1 hbel
 go_enter Tryz.func179,Tryz.ntmps179
 go_wp2
 go_loop [1,7] (fun x i=>∃ (k:Int) (f:Nat),x=.int .i64 k∧i=.int .i64 f∧f≤m.cl.length+1∧k≤a∧Zc2 m (m.cl.length+1-f) k b=q) (fun _ i=>m.cl.length+2-(intOf i).toNat)
 case atStart=>exact ⟨a,0,rfl,rfl,by omega,by omega,HQ.out.symm⟩
 case round=>
  obtain ⟨k,f,rfl,rfl,hf,hka,hkq⟩:=hrel
  have HK:=Zh hkq
  clear hkq
  by_cases hfl:f≤m.cl.length
  ·have hfi:(f:Int)≤m.cl.length:=by omega
   by_cases hk0:0≤k
   ·have hk1:k ≥ 0:=hk0
    obtain ⟨c,rfl⟩:∃ c:Nat,k=c:=⟨k.toNat,by omega⟩
    have hwr:IntKind.i64.wrap ((f:Int)+1)=f+1:=IntWalk.i64_in _ (by omega)
    have hcl:(c:Int) < m.cl.length:=by omega
    obtain ⟨ad,hco,e0,e1,e2,e3⟩:=HM1.out.cls (i:=c) (by omega)
    dsimp only at hco
    subst hco
    clear e0 e2 e3
    have hs:=HD.out c (by omega) (by omega)
    have hs':m.sup c=(m.cl.getD c default).sup:=rfl
    generalize (m.cl.getD c default).sup=s at e1 hs'
    have HS:=Zh hs'
    clear hs'
    rw [HS.out] at hs
    by_cases hcb:(c:Int)=b
    ·subst hcb
     go_wp2
     go_ret
     refine ZcT (ZcX ?_) bE
     have h1:=HK.out
     rw [show m.cl.length+1-f=(m.cl.length-f)+1 by omega,Zc2,if_neg (by omega),if_pos rfl] at h1
     exact h1
    ·have hcb2:((c:Int) == b)=false:=by simp;omega
     go_wp2
     go_round
     case rel=>
      refine ⟨s,f+1,rfl,by go_num,by omega,by omega,?_⟩
      have h1:=HK.out
      rw [show m.cl.length+1-f=(m.cl.length-f)+1 by omega,Zc2,if_neg (by omega),if_neg hcb,HS.out] at h1
      rw [←h1,show m.cl.length+1-(f+1)=m.cl.length-f by omega]
     case measure=>simp [intOf];omega
   ·have hk1:¬ k ≥ 0:=hk0
    go_wp2
    go_ret
    refine ZcT (ZcX ?_) bE
    have h1:=HK.out
    rw [show m.cl.length+1-f=(m.cl.length-f)+1 by omega,Zc2,if_pos (by omega)] at h1
    exact h1
  ·have hfi:¬ (f:Int)≤m.cl.length:=by omega
   go_wp2
   go_ret
   refine ZcT (ZcX ?_) bE
   have h1:=HK.out
   rw [show m.cl.length+1-f=0 by omega,Zc2] at h1
   exact h1
end
section
open Go.RowKit Go.Shelf
attribute [local go_sem] Oper.semAt_some
def Ze4 (l:List VB):Nat:=match l.reverse.find? fun o=>decide (o.op=33)&&!o.mid with
 | some o=>o.bn
 | none=>0
theorem Blk.grownX {w w':World}{b:Nat}{xs:Array Value}{t:TypeId}{row:Option Nat} (h:Blk w b xs t) (hg:w.grownBy w' row) (hr:∀ r,row=some r→∃ o:Obj,w.heap[r]?=some o∧o.isCells=false):Blk w' b xs t:=by
 have hne:some b≠row:=fun e=>by
  obtain ⟨o,ho,hc⟩:=hr b e.symm
  rw [show w.heap[b]?=_ from h] at ho
  cases ho
  cases hc
 exact (hg.block b h.lt hne).trans h
def Ze5 (x:Nat × VB):Bool:=decide (x.2.op=33)&&!x.2.mid
def Ze6 (l:List (Nat × VB)):Int:=match l.find? Ze5 with
 | some x=>x.2.bn
 | none=>0
theorem Ze7 (l:List VB):(Zem l l.length).map Prod.snd=l.reverse:=by
 apply List.ext_getElem
 ·simp [Zem]
 ·intro i h1 h2
  simp only [Zem,List.map_map,List.getElem_map,List.getElem_range,Function.comp_apply,List.getElem_reverse]
  have hi:i<l.length:=by simpa using h2
  rw [List.getD_eq_getElem?_getD,List.getElem?_eq_getElem (by omega)]
  rfl
theorem Ze8 (l:List VB):(Ze4 l:Int)=Ze6 (Zem l l.length):=by
 unfold Ze4 Ze6
 rw [←Ze7,List.find?_map]
 have e:((fun o:VB=>decide (o.op=33)&&!o.mid) ∘ Prod.snd)=Ze5:=rfl
 rw [e]
 cases (Zem l l.length).find? Ze5<;>rfl
theorem Ze9 (l:List VB) {k:Nat} (hk:k≤l.length):∃ r,Zem l l.length=Zem l k++r:=by
 refine ⟨(Zem l l.length).drop k,?_⟩
 have h:(Zem l l.length).take k=Zem l k:=by
  unfold Zem
  rw [←List.map_take,List.take_range,Nat.min_eq_left hk]
 rw [←h,List.take_append_drop]
theorem Zfa {l:List VB}{k:Nat} (hk:k≤l.length) (h:((Zem l k).find? Ze5).isSome=true):(Ze4 l:Int)=Ze6 (Zem l k):=by
 obtain ⟨r,hr⟩:=Ze9 l hk
 rw [Ze8,hr]
 unfold Ze6
 rw [List.find?_append]
 cases hf:(Zem l k).find? Ze5 with
 | none=>rw [hf] at h;cases h
 | some x=>rfl
theorem Zfb (F:Fence) (n:Nat) (h1:F.fn 320) (h2:F.fn 360) (h3:F.fn 367) (hro:F.round=none) (hn:6≤n)
  (K:Nat) (ao:Option Addr) (cap:Nat) (bs:List VB) (w:World) (hK:w.cell? ⟨K,6,none⟩=some (.slice ao bs.length cap)) (hrow:Zar w ao cap bs) (hlen:bs.length≤1000000) :
  CallsIn F n Tryz.prog 320 #[.pointer (some ⟨K,0,none⟩)] w fun e W'=>e=.returned (.int .i64 (Ze4 bs))∧Below w.heap.size w W':=by
 have hn1:1≤n:=by omega
 refine callsIn_of_wp_marks Tryz.func320 rfl h1 ?_ hro
 simp only [Tryz.ntmps320,List.size_toArray,List.length_cons,List.length_nil,Nat.reduceAdd,Nat.reduceSub,Array.replicate_succ,Array.replicate_zero,List.push_toArray,List.append_toArray,List.nil_append,List.cons_append]
 have hkl:=Zac hK
 gi_wp2_with (gi_at_call 360;refine (Zer F (n-1) h2 hro _ _ _ _).mono ?_;rintro e w' ⟨rfl,rfl⟩)
 have bR:=(Boxed.new w 3 (.int .i64 0)).alloc (.cells #[.slice ao bs.length cap] 212)
 have hB0:Below w.heap.size w ((w.alloc (.cells #[.int .i64 0] 3)).alloc (.cells #[.slice ao bs.length cap] 212)):=by exact bE
 have hbx:Blk ((w.alloc (.cells #[.int .i64 0] 3)).alloc (.cells #[.slice ao bs.length cap] 212)) (w.heap.size+1) #[.slice ao bs.length cap] 212:=Blk.new' (w:=w.alloc (.cells #[.int .i64 0] 3)) _ _ (by simp)
 have hsz:((w.alloc (.cells #[.int .i64 0] 3)).alloc (.cells #[.slice ao bs.length cap] 212)).heap.size=w.heap.size+2:=by simp
 obtain ⟨W0,hW0⟩:∃ W0,(w.alloc (.cells #[.int .i64 0] 3)).alloc (.cells #[.slice ao bs.length cap] 212)=W0:=⟨_,rfl⟩
 rw [hW0] at bR hB0 hbx hsz ⊢
 clear hW0
 refine wpIn_rangeFunc_ownH hro hn1 (gf:=367) (lb:=#[.pointer (some ⟨w.heap.size+1,0,none⟩)]) rfl h3 (enters_of Tryz.func367 (by kernel_rfl) rfl)
  (Zes F (n-1) h3 hro (by omega) (w.heap.size+1) ao cap bs W0 (hrow.old hB0) hlen (hbx.cell 0 rfl)) belowK_t (belowK_b (Nat.le_refl _)) (Below.refl _ _) (fun _=>rfl)
  (fun pre W=>(((pre.find? Ze5=none)∧Boxed W w.heap.size 3 (.int .i64 0))∧Below w.heap.size w W)∧Below W0.heap.size W0 W)
  (fun c pre W=>((c=.ret∧(pre.find? Ze5).isSome=true)∧Boxed W w.heap.size 3 (.int .i64 (Ze6 pre)))∧Below w.heap.size w W)
  (OwnFrom.and (OwnFrom.and (OwnFrom.and (ownFrom_pure _ _) (Own.from (boxed_own _ _ _) _)) (ownFrom_below (Nat.le_refl _) (by omega))) (ownFrom_below (Nat.le_refl _) (Nat.le_refl _)))
  (fun c=>OwnFrom.and (OwnFrom.and (ownFrom_pure _ _) (Own.from (boxed_own _ _ _) _)) (ownFrom_below (Nat.le_refl _) (by omega)))
  ⟨⟨⟨rfl,bR⟩,hB0⟩,Below.refl _ _⟩
  (fun x a' W=>∃ Bx,w.heap.size<Bx∧Blk W Bx #[.int .i64 x.2.op,.slice x.2.bo x.2.bn x.2.bc,.slice x.2.fo x.2.fn x.2.fc,.bool x.2.mid] 269∧a'={ tmps:=#[.pointer (some ⟨K,0,none⟩),undef,.pointer (some ⟨w.heap.size,0,none⟩),undef,.pointer (some ⟨Bx,0,none⟩),.pointer (some ⟨K,0,none⟩),.pointer (some ⟨K,0,none⟩),.pointer (some ⟨K,6,none⟩),.slice ao bs.length cap,.func (.func 367) #[] #[.pointer (some ⟨w.heap.size+1,0,none⟩)],.int .i64 x.1,.agg #[.int .i64 x.2.op,.slice x.2.bo x.2.bn x.2.bc,.slice x.2.fo x.2.fn x.2.fc,.bool x.2.mid],undef,undef,undef,undef,undef,undef,undef,undef,undef,undef,undef],defers:=[] })
  (fun x a' _ X Y row hs hg hr=>by obtain ⟨Bx,e1,e2,e3⟩:=hs;exact ⟨Bx,e1,Blk.grownX e2 hg (fun r e=>(hr r e).2),e3⟩)
  ?assign ?body ?done ?stop
 case assign=>
  rintro l pre x W K ⟨⟨⟨hp,bR1⟩,hB1⟩,hB2⟩ hK
  gi_wp2
  exact hK _ _ ((KeepsOthers.alloc _ _).from _) ((Below.refl _ W).alloc hB2.size _) ⟨⟨⟨hp,bR1.alloc _⟩,hB1.alloc hB1.size _⟩,hB2.alloc hB2.size _⟩ ⟨W.heap.size,bR1.lt,Blk.new W _ _,rfl⟩
 case body=>
  rintro l pre x a' W hl ⟨r,hr⟩ ⟨⟨⟨hp,bR1⟩,hB1⟩,hB2⟩ ⟨Bx,hBx,bX,rfl⟩ hlt
  have x0:W.cell? ⟨Bx,0,none⟩=some (.int .i64 x.2.op):=bX.cell 0 rfl
  have x1:W.cell? ⟨Bx,1,none⟩=some (.slice x.2.bo x.2.bn x.2.bc):=bX.cell 1 rfl
  have x3:W.cell? ⟨Bx,3,none⟩=some (.bool x.2.mid):=bX.cell 3 rfl
  have xl:=bX.lt
  have cR:=bR1.cell
  have fR:=bR1.frozen
  have rl:=bR1.lt
  generalize hop:x.2.op=op at x0
  generalize hmi:x.2.mid=mid at x3
  generalize hbn:x.2.bn=bn at x1
  have HP:=Zh hp
  have HOp:=Zh hop
  have HMi:=Zh hmi
  have HBn:=Zh hbn
  have HR:=Zh bR1
  have HB1:=Zh hB1
  have HB2:=Zh hB2
  clear hp hop hmi hbn bR1 hB1 hB2 hr bX
  by_cases ho:op=33
  ·subst ho
   rcases mid with _|_
   ·have hf:(pre++[x]).find? Ze5=some x:=by
     rw [List.find?_append,HP.out]
     simp [Ze5,HOp.out,HMi.out]
    have HF:=Zh hf
    clear hf
    gi_wp2
    have hv:Ze6 (pre++[x])=(bn:Int):=by
     unfold Ze6
     rw [HF.out]
     exact congrArg _ HBn.out
    exact ⟨(KeepsOthers.setCell _ _ _).from _,⟨⟨rfl,by rw [HF.out];rfl⟩,by rw [hv];exact HR.out.set _⟩,HB1.out.setCell (p:=⟨w.heap.size,0,none⟩) (Nat.le_refl _) _⟩
   ·have hf:(pre++[x]).find? Ze5=none:=by
     rw [List.find?_append,HP.out]
     simp [Ze5,HMi.out]
    have HF:=Zh hf
    clear hf
    exact k96
  ·have hf:(pre++[x]).find? Ze5=none:=by
    rw [List.find?_append,HP.out]
    simp [Ze5,HOp.out,ho]
   have HF:=Zh hf
   have hop2:(op == 33)=false:=by simpa using ho
   clear hf ho
   exact k96
 case done=>
  rintro D xs W hD rfl ⟨⟨⟨hp,bR1⟩,hB1⟩,hB2⟩ hK
  have hb0:(Ze4 bs:Int)=0:=by
   rw [Ze8]
   unfold Ze6
   rw [hp]
  have cR:=bR1.cell
  have fR:=bR1.frozen
  have rl:=bR1.lt
  have HR:=Zh bR1
  have HB1:=Zh hB1
  have HB2:=Zh hB2
  clear hp bR1 hB1 hB2
  gi_wp2
  have bR1:=HR.out
  have hB1:=HB1.out
  have hK':=(KeepsOthers.setCell W ⟨w.heap.size,0,none⟩ (.int .i64 0)).same D _ hK rfl
  refine ⟨by simp,.inl ⟨_,_,rfl,run_takeDeferred hK',?_⟩⟩
  have hc5:=cell_kept (bR1.set (.int .i64 0)).cell (grownBy_putObj' _ D (.deferred none)) (fun r e=>by cases e;exact ⟨_,hK',rfl⟩)
  refine ⟨.int .i64 0,?_,by rw [hb0],(hB1.setCell (p:=⟨w.heap.size,0,none⟩) (Nat.le_refl _) _).trans (belowK_b (w:=w) (Nat.le_refl _) _ D _ _ (by omega) hK' rfl rfl)⟩
  simp [results,Tryz.f320,go_sem,hc5]
 case stop=>
  rintro D c pre W hD ⟨k,hk,rfl⟩ ⟨⟨⟨rfl,hin⟩,bR1⟩,hB1⟩ hK
  have hv:(Ze4 bs:Int)=Ze6 (Zem bs k):=Zfa hk hin
  rw [←hv] at bR1
  clear hv hin hk hbx bR
  gi_wp2
  refine ⟨by simp,.inl ⟨_,_,rfl,run_takeDeferred hK,?_⟩⟩
  have hc5:=cell_kept bR1.cell (grownBy_putObj' _ D (.deferred none)) (fun r e=>by cases e;exact ⟨_,hK,rfl⟩)
  refine ⟨.int .i64 (Ze4 bs),?_,rfl,hB1.trans (belowK_b (w:=w) (Nat.le_refl _) W D _ _ (by omega) hK rfl rfl)⟩
  simp [results,Tryz.f320,go_sem,hc5]
theorem Zfc (K:Nat) (ao:Option Addr) (cap:Nat) (bs:List VB) (w:World) (hK:w.cell? ⟨K,6,none⟩=some (.slice ao bs.length cap)) (hrow:Zar w ao cap bs) (hlen:bs.length≤1000000) :
  Calls Tryz.prog 320 #[.pointer (some ⟨K,0,none⟩)] w fun e W'=>e=.returned (.int .i64 (Ze4 bs))∧Below w.heap.size w W':=
 callsIn_wide.1 (Zfb Fence.wide 6 trivial trivial trivial rfl (Nat.le_refl _) K ao cap bs w hK hrow hlen)
end
section
open Go.RowKit
def Zfd (n takes pushes base:Int):Bool:=decide (base≤n-takes)&&decide (n-takes+pushes≤12)
theorem Zfe (K:Nat) (h:Hd) (m:Md) (L:Value) (so:Option Addr) (sn sc:Nat) (oo:Option Addr) (oc:Nat) (bs:List VB) (e takes pushes:Int) (w:World) (H:Ck w K h m L (.slice so sn sc) (.slice oo bs.length oc) e)
  (ho:Zar w oo oc bs) (hlen:bs.length≤1000000) (hs:sn≤1000000) (ht:0≤takes∧takes≤1000000000) (hp:0≤pushes∧pushes≤1000000000) :
  Calls Tryz.prog 255 #[.pointer (some ⟨K,0,none⟩),.int .i64 takes,.int .i64 pushes] w fun r w'=>r=.returned (.bool (Zfd sn takes pushes (Ze4 bs)))∧Ck w' K h m L (.slice so sn sc) (.slice oo bs.length oc) (if Zfd sn takes pushes (Ze4 bs) then e else ZeR e 12)∧Upd K K w w':=by
 obtain ⟨kl,-,-,-,-,-,c5,c6,-⟩:=H.cells
 have hfl:=Zfc K oo oc bs w c6 ho hlen
 generalize hbz:Ze4 bs=bz at hfl ⊢
 have HH:=Zh H
 have HF:=Zh hfl
 clear H hfl hbz c6
 have hw1:IntKind.i64.wrap ((sn:Int)-takes)=sn-takes:=IntWalk.i64_in _ (by omega)
 have hw2:IntKind.i64.wrap ((sn:Int)-takes+pushes)=sn-takes+pushes:=IntWalk.i64_in _ (by omega)
 by_cases h1:(sn:Int)-takes<bz
 ·exact k37
 ·by_cases h2:12<(sn:Int)-takes+pushes
  ·exact k37
  ·have hq:Zfd sn takes pushes bz=true:=by unfold Zfd;grind
   rw [hq]
   clear hq
   go_enter Tryz.func255,Tryz.ntmps255
   go_wp2_with (go_at_call 320;refine HF.out.mono ?_;rintro e w1 ⟨rfl,hb⟩)
   go_ret
   exact ⟨rfl,HH.out.old hb,Upd.of hb⟩
end
section
open Go.RowKit
attribute [local go_sem] World.cell?_alloc_some
theorem Zff:El Tryz.prog 23 76 2 16:=El.mk' (z:=.agg #[.int .i64 0,.int .i64 0]) Tryz.underlying23 (by kernel_rfl) (by kernel_rfl) (by decide)
def Zfg {α:Type} [Cells α] (e:TypeId) (W:World) (l:List α):Ending→World→Prop:=fun en w'=>(∃ ao cap,en=.returned (.slice ao l.length cap)∧w'.ownsRow W.heap.size e (Cells.n α) (.slice ao l.length cap) l.length (Zak l))∧Below W.heap.size W w'
theorem Zfh (x:Mth) (y:MHd) (w:World) (hp:Zar w y.po y.pc x.p) (hl:Zar w y.lo y.lc x.l) (hb:x.p.length≤1000∧x.l.length≤1000):Calls Tryz.prog 190 #[.agg #[.string x.n,.int .i64 x.c,.slice y.po x.p.length y.pc,.slice y.lo x.l.length y.lc,.int .i64 x.r.k,.int .i64 x.r.c,.slice y.ko x.k.length y.kc]] w (Zfg 76 w (ZeF x)):=by
 obtain ⟨nm,c,pl,ll,⟨rk,rc⟩,kl⟩:=x
 obtain ⟨po,pc,lo,lc,ko,kc⟩:=y
 dsimp only at hp hl hb ⊢
 have hq:ZeF ⟨nm,c,pl,ll,⟨rk,rc⟩,kl⟩=(if 0≤c then [⟨2,c⟩] else [])++pl++ll:=rfl
 generalize ZeF ⟨nm,c,pl,ll,⟨rk,rc⟩,kl⟩=q at hq ⊢
 have HP:=Zh hp
 have HL:=Zh hl
 have HQ:=Zh hq
 clear hp hl hq
 have hX:=Blk.new w #[.string nm,.int .i64 c,.slice po pl.length pc,.slice lo ll.length lc,.int .i64 rk,.int .i64 rc,.slice ko kl.length kc] 81
 have hb0:Below w.heap.size w (w.alloc (.cells #[.string nm,.int .i64 c,.slice po pl.length pc,.slice lo ll.length lc,.int .i64 rk,.int .i64 rc,.slice ko kl.length kc] 81)):=by exact bE
 have HX:=Zh hX
 have HB0:=Zh hb0
 have hw0:=hb0.size
 clear hX hb0
 by_cases hc:0≤c
 ·have hc2:c ≥ 0:=hc
  have HC:=Zh hc
  clear hc
  go_enter Tryz.func190,Tryz.ntmps190
  go_wp2_with (at_builtin;refine Zaj rfl (.tmp 7) (.tmp 11) 23 rfl (w.heap.size+1) 76 2 16 Zff _ 0 [] rfl (World.ownsRow_nil _ _ _ _) _ 1 1 [.int .i64 2,.int .i64 c] rfl (ZdL (Blk.new' #[.int .i64 2,.int .i64 c] 76 (by simp)) rfl) (by intro u hu;simp only [List.mem_cons,List.not_mem_nil,or_false] at hu;rcases hu with rfl|rfl<;>rfl) (by omega) (by unfold maxLen;omega) (by simp) ?_;intro oo oc wz hown hg)
  have HOw:=Zh hown
  have HBz:=Zh (ZcV (bal HB0.out _) hg (fun j hj=>by cases hj))
  have HBx:=Zh (Blk.grownV (HX.out.alloc _) hg (fun h=>by cases h))
  have HBxl:=Zh (Nat.le_refl w.heap.size)
  clear hown hg
  have x2:wz.cell? ⟨w.heap.size,2,none⟩=some (.slice po pl.length pc):=HBx.out.cell 2 rfl
  have x3:wz.cell? ⟨w.heap.size,3,none⟩=some (.slice lo ll.length lc):=HBx.out.cell 3 rfl
  refine rO (fun w':World=>w'.cell? ⟨w.heap.size,2,none⟩=some (.slice po pl.length pc)∧w'.cell? ⟨w.heap.size,3,none⟩=some (.slice lo ll.length lc)) (oL [0,1,2,4,5,103,106,7]) ⟨x2,x3⟩ ?_
  clear x2 x3
  repeat refine pO ?_
  refine oO fun K hK=>?_
  refine Zej (.tmp 13) (.tmp 15) 23 rfl (w.heap.size+1) 76 2 16 Zff _ 1 _ rfl (Zco HOw.out) _ _ _ _ rfl (SlA.old (w:=wz) (Zar.old HP.out HBz.out) (Below.refl _ _).drew) (Zaq pl) (by omega) (by unfold maxLen;omega) (show w.heap.size+1≤wz.heap.size from HBx.out.lt) ?_
  intro ao2 cap2 w3 hown3 hg3
  have hb3:=ZcV HBz.out.drew hg3 (fun j hj=>by have:=(HOw.out.lt j hj).1;have:=HBxl.out;omega)
  have hx3:=Blk.grownV HBx.out.drew hg3 (Zcs HOw.out (Nat.lt_succ_self _))
  have HO3:=Zh hown3
  have HB3:=Zh hb3
  have HX3:=Zh hx3
  clear hown3 hg3 hb3 hx3
  refine hK _ _ ⟨⟨HX3.out.cell 2 rfl,HX3.out.cell 3 rfl⟩,?_⟩
  clear hK K
  refine oO fun K hK=>?_
  refine Zej (.tmp 16) (.tmp 18) 23 rfl (w.heap.size+1) 76 2 16 Zff _ (1+pl.length) _ rfl HO3.out _ _ _ _ rfl (SlA.old (w:=w) HL.out HB3.out) (Zaq ll) (by omega) (by unfold maxLen;omega) (show w.heap.size+1≤w3.heap.size from HX3.out.lt) ?_
  intro ao4 cap4 w4 hown4 hg4
  have hb4:=ZcV HB3.out hg4 (fun j hj=>by have:=(HO3.out.lt j hj).1;have:=HBxl.out;omega)
  have hx4:=Blk.grownV HX3.out hg4 (Zcs HO3.out (Nat.lt_succ_self _))
  have HO4:=Zh hown4
  have HB4:=Zh hb4
  have HX4:=Zh hx4
  clear hown4 hg4 hb4 hx4
  refine hK _ _ ⟨⟨HX4.out.cell 2 rfl,HX4.out.cell 3 rfl⟩,?_⟩
  clear hK K
  repeat refine pO ?_
  refine Zd5 ?_
  go_wp2
  go_ret
  exact k42
 ·have hc2:¬ c ≥ 0:=hc
  have HC:=Zh hc
  clear hc
  go_enter Tryz.func190,Tryz.ntmps190
  go_wp2_with fail
  generalize w.alloc _=wz at HX HB0 ⊢
  have HOw:=Zh (World.ownsRow_nil wz (w.heap.size+1) 76 2)
  have HBz:=HB0
  have HBx:=HX
  have HBxl:=Zh (Nat.le_refl w.heap.size)
  have x2:wz.cell? ⟨w.heap.size,2,none⟩=some (.slice po pl.length pc):=HBx.out.cell 2 rfl
  have x3:wz.cell? ⟨w.heap.size,3,none⟩=some (.slice lo ll.length lc):=HBx.out.cell 3 rfl
  refine rO (fun w':World=>w'.cell? ⟨w.heap.size,2,none⟩=some (.slice po pl.length pc)∧w'.cell? ⟨w.heap.size,3,none⟩=some (.slice lo ll.length lc)) (oL [0,1,2,4,5,103,106,7]) ⟨x2,x3⟩ ?_
  clear x2 x3
  repeat refine pO ?_
  refine oO fun K hK=>?_
  refine Zej (.tmp 13) (.tmp 15) 23 rfl (w.heap.size+1) 76 2 16 Zff _ 0 _ rfl (Zco HOw.out) _ _ _ _ rfl (SlA.old (w:=wz) (Zar.old HP.out HBz.out) (Below.refl _ _).drew) (Zaq pl) (by omega) (by unfold maxLen;omega) (show w.heap.size+1≤wz.heap.size from HBx.out.lt) ?_
  intro ao2 cap2 w3 hown3 hg3
  have hb3:=ZcV HBz.out.drew hg3 (fun j hj=>by have:=(HOw.out.lt j hj).1;have:=HBxl.out;omega)
  have hx3:=Blk.grownV HBx.out.drew hg3 (Zcs HOw.out (Nat.lt_succ_self _))
  have HO3:=Zh hown3
  have HB3:=Zh hb3
  have HX3:=Zh hx3
  clear hown3 hg3 hb3 hx3
  refine hK _ _ ⟨⟨HX3.out.cell 2 rfl,HX3.out.cell 3 rfl⟩,?_⟩
  clear hK K
  refine oO fun K hK=>?_
  refine Zej (.tmp 16) (.tmp 18) 23 rfl (w.heap.size+1) 76 2 16 Zff _ (0+pl.length) _ rfl HO3.out _ _ _ _ rfl (SlA.old (w:=w) HL.out HB3.out) (Zaq ll) (by omega) (by unfold maxLen;omega) (show w.heap.size+1≤w3.heap.size from HX3.out.lt) ?_
  intro ao4 cap4 w4 hown4 hg4
  have hb4:=ZcV HB3.out hg4 (fun j hj=>by have:=(HO3.out.lt j hj).1;have:=HBxl.out;omega)
  have hx4:=Blk.grownV HX3.out hg4 (Zcs HO3.out (Nat.lt_succ_self _))
  have HO4:=Zh hown4
  have HB4:=Zh hb4
  have HX4:=Zh hx4
  clear hown4 hg4 hb4 hx4
  refine hK _ _ ⟨⟨HX4.out.cell 2 rfl,HX4.out.cell 3 rfl⟩,?_⟩
  clear hK K
  repeat refine pO ?_
  refine Zd5 ?_
  go_wp2
  go_ret
  exact k38
end
section
def Zfi (m:Md) (t:Ty):Prop:=ZaF m.cl.length t 1=true
def Zfj (m:Md) (l:List Ty):Prop:=l.length≤12∧∀ t∈l,Zfi m t
def Zfk (l:List Opn):Nat:=match l.find? fun o=>decide (o.op=33)&&!o.mid with
 | some o=>o.beg.length
 | none=>0
theorem Zfl (l:List Opn):Zev l=Zfk l.reverse:=rfl
theorem Zfm (o:Opn) (r:List Opn):Zfk (o :: r)=if o.op=33∧o.mid=false then o.beg.length else Zfk r:=by
 unfold Zfk
 rw [List.find?_cons]
 by_cases h:o.op=33
 ·cases hm:o.mid<;>simp [h]
 ·simp [h]
def okR (m:Md):List Opn→Prop
 | []=>True
 | o :: r=>Zfj m o.beg∧Zfj m o.past∧Zfk r≤o.beg.length∧(o.mid=true→Zfk r≤o.past.length)∧okR m r
def brR (l:List Opn):List Br:=l.map fun o=>⟨o.op,o.mid⟩
structure Wf (m:Md) (s:Ps) (code:List In3):Prop where
 stk:Zfj m s.stk
 base:Zev s.opn≤s.stk.length
 opn:okR m s.opn.reverse
 nest:∃ D t,ZaT (brR s.opn.reverse,D) code=some t∧t.1=[]∧t.2≤6∧s.opn.length≤D
theorem Zfn (m:Md):Zfj m []:=⟨by simp,by simp⟩
theorem Zfo {m:Md}{l:List In3} (h:ZaU l=true):Wf m ⟨[],[]⟩ l:=by
 refine ⟨Zfn m,by simp [Zev],trivial,?_⟩
 unfold ZaU at h
 split at h
 ·cases h
 ·rename_i st d hn
  simp only [Bool.and_eq_true,List.isEmpty_iff,decide_eq_true_eq] at h
  exact ⟨0,(st,d),hn,h.1,h.2,Nat.le_refl _⟩
theorem Zfp:∀ (l:List In3) (s t:List Br × Nat),ZaT s l=some t→s.2≤t.2
 | [],s,t,h=>by cases h;exact Nat.le_refl _
 | i :: l,s,t,h=>by
  unfold ZaT at h
  split at h
  ·cases h
  ·rename_i u hu
   have h1:=Zfp l u t h
   have h2:s.2≤u.2:=by
    unfold ZaS at hu
    obtain ⟨S,D⟩:=s
    split at hu
    ·cases hu;dsimp only;omega
    ·split at hu
     ·cases S with
      | nil=>cases hu
      | cons b r=>dsimp only at hu;split at hu<;>cases hu;exact Nat.le_refl _
     ·split at hu
      ·cases S with
       | nil=>cases hu
       | cons b r=>dsimp only at hu;split at hu<;>cases hu;exact Nat.le_refl _
      ·cases hu;exact Nat.le_refl _
   omega
theorem Wf.depth {m:Md}{s:Ps}{l:List In3} (h:Wf m s l):s.opn.length≤6:=by
 obtain ⟨D,t,h1,_,h3,h4⟩:=h.nest
 have:=Zfp _ _ _ h1
 dsimp only at this
 omega
theorem Wf.done {m:Md}{s:Ps} (h:Wf m s []):s.opn=[]:=by
 obtain ⟨D,t,h1,h2,_,_⟩:=h.nest
 cases h1
 simpa [brR] using h2
theorem Wf.nest1 {m:Md}{s:Ps}{i:In3}{l:List In3} (h:Wf m s (i :: l)):∃ D u t,ZaS (brR s.opn.reverse,D) i=some u∧ZaT u l=some t∧t.1=[]∧t.2≤6∧s.opn.length≤D:=by
 obtain ⟨D,t,h1,h2,h3,h4⟩:=h.nest
 unfold ZaT at h1
 split at h1
 ·cases h1
 ·rename_i u hu
  exact ⟨D,u,t,hu,h1,h2,h3,h4⟩
theorem Zfq {α:Type}{l:List α}{x:α}{r:List α} (h:l.reverse=x :: r):l=r.reverse++[x]:=by
 have:=congrArg List.reverse h
 simpa using this
theorem Wf.else_ {m:Md}{s:Ps}{i:In3}{l:List In3} (h:Wf m s (i :: l)) (hi:i.op=34):∃ r o,s.opn=r++[o]∧(o.op=29∨o.op=33)∧o.mid=false:=by
 obtain ⟨D,u,t,h1,_⟩:=h.nest1
 unfold ZaS at h1
 rw [show ZaR i.op=false from Zbf (.inl hi),if_neg (by decide),if_pos hi] at h1
 cases hr:s.opn.reverse with
 | nil=>rw [hr] at h1;cases h1
 | cons o r=>
  rw [hr] at h1
  simp only [brR,List.map_cons] at h1
  split at h1
  ·rename_i hc;exact ⟨r.reverse,o,Zfq hr,hc.1,hc.2⟩
  ·cases h1
theorem Wf.end_ {m:Md}{s:Ps}{i:In3}{l:List In3} (h:Wf m s (i :: l)) (hi:i.op=35):∃ r o,s.opn=r++[o]∧¬ (o.op=33∧o.mid=false):=by
 obtain ⟨D,u,t,h1,_⟩:=h.nest1
 unfold ZaS at h1
 rw [show ZaR i.op=false from Zbf (.inr hi),if_neg (by decide),if_neg (by omega),if_pos hi] at h1
 cases hr:s.opn.reverse with
 | nil=>rw [hr] at h1;cases h1
 | cons o r=>
  rw [hr] at h1
  simp only [brR,List.map_cons] at h1
  split at h1
  ·cases h1
  ·rename_i hc;exact ⟨r.reverse,o,Zfq hr,hc⟩
section
variable {m:Md}{lo:List Ty}{i:In3}{s:Ps}
include m lo i s
theorem Zfr (h1:i.op≠34) (h2:i.op≠35) (he:(ZeC m lo i s).1=0):
  ∃ t,ZeB m lo i (s.stk.drop (s.stk.length-(Zex m i).1))=some t∧(Zex m i).1+Zev s.opn≤s.stk.length∧s.stk.length-(Zex m i).1+(Zex m i).2≤12 ∧
   (ZeC m lo i s).2=⟨s.stk.take (s.stk.length-(Zex m i).1)++List.replicate (Zex m i).2 t,if ZaR i.op then s.opn++[⟨i.op,s.stk.take (s.stk.length-(Zex m i).1)++List.replicate (Zex m i).2 t,[],false⟩] else s.opn⟩:=by
 unfold ZeC at he ⊢
 rw [if_neg h1,if_neg h2] at he ⊢
 dsimp only at he ⊢
 split at he
 ·cases he
 ·rename_i hc
  split at he
  ·cases he
  ·rename_i t ht
   refine ⟨t,ht,by omega,by omega,?_⟩
   rw [if_neg hc]
theorem Zfs {l:List In3} (h:Wf m s (i :: l)) (h1:i.op≠34) (h2:i.op≠35) (he:(ZeC m lo i s).1=0) (hp:∀ t,ZeB m lo i (s.stk.drop (s.stk.length-(Zex m i).1))=some t→(Zex m i).2=0∨Zfi m t):Wf m (ZeC m lo i s).2 l:=by
 obtain ⟨t,ht,hc1,hc2,hs⟩:=Zfr h1 h2 he
 rw [hs]
 obtain ⟨⟨hl,ha⟩,hb,ho,hn⟩:=h
 have hlen:(s.stk.take (s.stk.length-(Zex m i).1)++List.replicate (Zex m i).2 t).length=s.stk.length-(Zex m i).1+(Zex m i).2:=by simp
 have hk:Zfj m (s.stk.take (s.stk.length-(Zex m i).1)++List.replicate (Zex m i).2 t):=by
  refine ⟨by rw [hlen];exact hc2,fun u hu=>?_⟩
  rcases List.mem_append.1 hu with hu|hu
  ·exact ha u (List.mem_of_mem_take hu)
  ·rcases hp t ht with h0|h0
   ·rw [h0] at hu;cases hu
   ·rw [(List.mem_replicate.1 hu).2];exact h0
 generalize s.stk.take (s.stk.length-(Zex m i).1)++List.replicate (Zex m i).2 t=k at hlen hk ⊢
 obtain ⟨D,u,t2,n1,n2,n3,n4,n5⟩:=Wf.nest1 (m:=m) (s:=s) (i:=i) (l:=l) ⟨⟨hl,ha⟩,hb,ho,hn⟩
 unfold ZaS at n1
 cases hop:ZaR i.op with
 | true=>
  rw [hop,if_pos rfl] at n1
  cases n1
  simp only [if_true]
  refine ⟨hk,?_,?_,?_⟩
  ·dsimp only
   rw [Zfl,List.reverse_append,List.reverse_singleton,List.singleton_append,Zfm]
   split
   ·exact Nat.le_refl _
   ·rw [←Zfl];omega
  ·dsimp only
   rw [List.reverse_append,List.reverse_singleton,List.singleton_append]
   exact ⟨hk,Zfn m,by dsimp only;rw [←Zfl];omega,(fun h=>by cases h),ho⟩
  ·refine ⟨max D ((brR s.opn.reverse).length+1),t2,?_,n3,n4,?_⟩
   ·dsimp only
    rw [List.reverse_append,List.reverse_singleton,List.singleton_append]
    exact n2
   ·dsimp only;simp [brR];omega
 | false=>
  rw [hop,if_neg (by decide),if_neg h1,if_neg h2] at n1
  cases n1
  simp only [Bool.false_eq_true,if_false]
  exact ⟨hk,by dsimp only;omega,ho,D,t2,n2,n3,n4,n5⟩
theorem Zft {l:List In3} (h:Wf m s (i :: l)) (hi:i.op=34):(ZeC m lo i s).1=0∧Wf m (ZeC m lo i s).2 l:=by
 obtain ⟨r,o,hs,h1,h2⟩:=h.else_ hi
 obtain ⟨D,u,t,n1,n2,n3,n4,n5⟩:=h.nest1
 obtain ⟨stk,opn⟩:=s
 dsimp only at hs
 subst hs
 obtain ⟨hk,hb,ho,-⟩:=h
 have e:ZeC m lo i ⟨stk,r++[o]⟩=(0,⟨o.beg,r++[{ o with past:=stk,mid:=true }]⟩):=by
  unfold ZeC
  rw [if_pos hi]
  simp
 rw [e]
 dsimp only at hk hb ho n1 n5 ⊢
 rw [List.reverse_append,List.reverse_singleton,List.singleton_append] at ho n1
 obtain ⟨o1,o2,o3,o4,o5⟩:=ho
 rw [Zfl,List.reverse_append,List.reverse_singleton,List.singleton_append,Zfm] at hb
 unfold ZaS at n1
 rw [show ZaR i.op=false from Zbf (.inl hi),if_neg (by decide),if_pos hi] at n1
 simp only [brR,List.map_cons] at n1
 rw [if_pos ⟨h1,h2⟩] at n1
 cases n1
 refine ⟨rfl,o1,?_,?_,D,t,?_,n3,n4,by simpa using n5⟩
 ·dsimp only
  rw [Zfl,List.reverse_append,List.reverse_singleton,List.singleton_append,Zfm,if_neg (by simp)]
  exact o3
 ·dsimp only
  rw [List.reverse_append,List.reverse_singleton,List.singleton_append]
  refine ⟨o1,hk,o3,fun _=>?_,o5⟩
  dsimp only
  split at hb<;>omega
 ·dsimp only
  rw [List.reverse_append,List.reverse_singleton,List.singleton_append]
  exact n2
theorem Zfu {l:List In3} (h:Wf m s (i :: l)) (hi:i.op=35) (he:(ZeC m lo i s).1=0):Wf m (ZeC m lo i s).2 l:=by
 obtain ⟨r,o,hs,h1⟩:=h.end_ hi
 obtain ⟨D,u,t,n1,n2,n3,n4,n5⟩:=h.nest1
 obtain ⟨stk,opn⟩:=s
 dsimp only at hs
 subst hs
 obtain ⟨hk,hb,ho,-⟩:=h
 dsimp only at hk hb ho n1 n5
 rw [List.reverse_append,List.reverse_singleton,List.singleton_append] at ho n1
 obtain ⟨o1,o2,o3,o4,o5⟩:=ho
 unfold ZaS at n1
 rw [show ZaR i.op=false from Zbf (.inr hi),if_neg (by decide),if_neg (by omega),if_pos hi] at n1
 simp only [brR,List.map_cons] at n1
 rw [if_neg h1] at n1
 cases n1
 unfold ZeC at he ⊢
 rw [if_neg (by omega),if_pos hi] at he ⊢
 simp only [List.getLastD_concat,List.dropLast_concat] at he ⊢
 have hlen:Zfk r.reverse≤(if o.mid=true then o.past else o.beg).length:=by
  cases hmid:o.mid
  ·rw [if_neg (by decide)];exact o3
  ·rw [if_pos rfl];exact o4 hmid
 generalize (if o.mid=true then o.past else o.beg)=want at he hlen ⊢
 split at he
 ·cases he
 ·rename_i q1
  split at he
  ·rename_i q2
   rw [if_neg q1,if_pos q2]
   refine ⟨hk,?_,o5,D,t,n2,n3,n4,by simp at n5;simp;omega⟩
   dsimp only
   rw [Zfl,q2]
   exact hlen
  ·cases he
end
def Zfv (acc:List (List Ty)) (q:List (List Ty) × Nat × Int):List (List Ty) × Nat × Int:=if q.2.2=0 then (acc++q.1,0,0) else ([],q.2)
theorem Zfw {m:Md}{lo:List Ty}{r:Ty}:∀ (l:List In3) (n:Nat) (s:Ps),(ZeE m lo r n l s).2.2=0→(ZeE m lo r n l s).2.1=0
 | [],n,s,h=>by
  unfold ZeE at h ⊢
  split at h
  ·rename_i q;rw [if_pos q]
  ·rename_i q;exact absurd h q
 | i :: l,n,s,h=>by
  unfold ZeE at h ⊢
  split at h
  ·rename_i q
   rw [if_pos q]
   dsimp only at h ⊢
   split at h
   ·rename_i q2;rw [if_pos q2]
   ·rename_i q2;exact absurd h q2
  ·rename_i q;exact absurd h q
theorem Zfx {m:Md}{lo:List Ty}{r:Ty}{n:Nat}{i:In3}{l:List In3}{s:Ps} (h:(ZeC m lo i s).1=0):ZeE m lo r n (i :: l) s=Zfv [s.stk] (ZeE m lo r (n+1) l (ZeC m lo i s).2):=by
 conv=>lhs;unfold ZeE
 rw [if_pos h]
 rfl
theorem Zfy {m:Md}{lo:List Ty}{r:Ty}{n:Nat}{i:In3}{l:List In3}{s:Ps} (h:(ZeC m lo i s).1≠0):ZeE m lo r n (i :: l) s=([],n,(ZeC m lo i s).1):=by
 conv=>lhs;unfold ZeE
 rw [if_neg h]
theorem Zfz (a b:List (List Ty)) (q:List (List Ty) × Nat × Int):Zfv a (Zfv b q)=Zfv (a++b) q:=by
 unfold Zfv
 split
 ·simp
 ·simp
theorem ZfA (q:List (List Ty) × Nat × Int) (h:q.2.2=0→q.2.1=0) (h2:q.2.2≠0→q.1=[]):Zfv [] q=q:=by
 obtain ⟨a,b,c⟩:=q
 unfold Zfv
 by_cases hc:c=0
 ·have:=h hc;dsimp only at this;subst this hc;simp
 ·have:=h2 hc;dsimp only at this;subst this;simp [hc]
theorem ZfB {m:Md}{lo:List Ty}{r:Ty}:∀ (l:List In3) (n:Nat) (s:Ps),(ZeE m lo r n l s).2.2≠0→(ZeE m lo r n l s).1=[]
 | [],n,s,h=>by
  unfold ZeE at h ⊢
  split at h
  ·exact absurd rfl h
  ·rename_i q;rw [if_neg q]
 | i :: l,n,s,h=>by
  unfold ZeE at h ⊢
  split at h
  ·rename_i q
   rw [if_pos q]
   dsimp only at h ⊢
   split at h
   ·exact absurd rfl h
   ·rename_i q2;rw [if_neg q2]
  ·rename_i q;rw [if_neg q]
theorem ZfC (m:Md) (lo:List Ty) (r:Ty) (l:List In3) (s:Ps):ZeE m lo r 0 l s=Zfv [] (ZeE m lo r 0 l s):=(ZfA _ (Zfw _ _ _) (ZfB _ _ _)).symm
end
section
theorem ZfD (m:Md):Zfi m Zeu:=by unfold Zfi ZaF Zeu;simp
theorem ZfE {m:Md}{k c:Int} (hk:k=2∨k=4) (h0:0≤c) (h1:c<m.cl.length):Zfi m ⟨k,c⟩:=by unfold Zfi ZaF;simp [hk,h0,h1]
theorem ZfF {m:Md}{t:Ty} (h:Zfi m t) (hk:t.k=2∨t.k=4):0≤t.c∧t.c<m.cl.length:=by
 unfold Zfi ZaF at h
 rw [if_pos hk] at h
 simpa using h
theorem ZfG {m:Md}{t:Ty} (h:ZaF m.cl.length t 0=true) (hk:t.k≠0):Zfi m t:=by
 unfold Zfi
 unfold ZaF at h ⊢
 split at h
 ·rename_i q;rw [if_pos q];exact h
 ·rename_i q
  rw [if_neg q]
  split at h
  ·rename_i q2
   rw [if_pos q2]
   simp only [Bool.and_eq_true,decide_eq_true_eq] at h ⊢
   omega
  ·cases h
section
variable {m:Md}(h:Za1 m=true)
include m h
theorem ZfH:∀ k,k<m.cl.length→ZaK m k=true:=by
 simp only [Za1,Bool.and_eq_true,ZaE] at h;exact h.1.1.2
theorem ZfI:∀ k,k<m.me.length→ZaX m k=true:=by
 simp only [Za1,Bool.and_eq_true,ZaE] at h;exact h.1.2
theorem ZfJ:ZaZ m=true:=by
 simp only [Za1,Bool.and_eq_true] at h;exact h.1.1.1.1
theorem ZfK {c:Int} (h0:0≤c) (h1:c<m.cl.length):∀ t∈(m.cl.getD c.toNat default).f,Zfi m t:=by
 have hc:=ZfH h c.toNat (by omega)
 simp only [ZaK,Bool.and_eq_true,ZaG,List.all_eq_true] at hc
 exact hc.1.1.1.2
theorem ZfL:∀ t∈m.st,Zfi m t:=by
 have hc:=ZfJ h
 simp only [ZaZ,Bool.and_eq_true,ZaG,List.all_eq_true] at hc
 exact hc.2
end
structure ZfM (m:Md) (k:Nat):Prop where
 p:∀ t∈(m.me.getD k default).p,Zfi m t
 l:∀ t∈(m.me.getD k default).l,Zfi m t
 r:ZaF m.cl.length (m.me.getD k default).r 0=true
 i:∀ i∈(m.me.getD k default).k,ZaQ false i=true∧ZaW m k i=true
 n:ZaU (m.me.getD k default).k=true
 c:-1≤(m.me.getD k default).c∧(m.me.getD k default).c<m.cl.length
 z:(m.me.getD k default).p.length≤4∧(m.me.getD k default).l.length≤10∧(m.me.getD k default).k.length≤120
section
variable {m:Md}(h:Za1 m=true){k:Nat}(hk:k<m.me.length)
include m h k hk
theorem ZfN:ZfM m k:=by
 have hm:=ZfI h k hk
 simp only [ZaX,Bool.and_eq_true,ZaG,List.all_eq_true,decide_eq_true_eq] at hm
 obtain ⟨⟨⟨⟨⟨⟨⟨⟨h1,h2⟩,h3⟩,h4⟩,h5⟩,h6⟩,h7⟩,h8⟩,h9⟩:=hm
 have hc:¬ 120<(m.me.getD k default).k.length∧(m.me.getD k default).k.all (ZaQ false)=true∧ZaU (m.me.getD k default).k=true:=by
  unfold ZaV at h8
  split at h8
  ·cases h8
  ·rename_i q1
   split at h8
   ·rename_i q2
    split at h8
    ·rename_i q3;exact ⟨q1,q2,q3⟩
    ·cases h8
   ·cases h8
 refine ⟨h4,h6,h7,fun i hi=>⟨List.all_eq_true.1 hc.2.1 i hi,h9 i hi⟩,hc.2.2,⟨h1,h2⟩,h3,?_,by omega⟩
 split at h5<;>omega
theorem ZfO:∀ t∈ZeF (m.me.getD k default),Zfi m t:=by
 have hm:=ZfN h hk
 intro t ht
 simp only [ZeF,List.mem_append] at ht
 rcases ht with (ht|ht)|ht
 ·split at ht
  ·rename_i q
   rw [List.mem_singleton.1 ht]
   exact ZfE (.inl rfl) q hm.c.2
  ·cases ht
 ·exact hm.p t ht
 ·exact hm.l t ht
theorem ZfP:(ZeF (m.me.getD k default)).length≤15:=by
 have hm:=(ZfN h hk).z
 generalize m.me.getD k default=x at hm ⊢
 simp only [ZeF,List.length_append]
 split<;>simp only [List.length_cons,List.length_nil]<;>omega
end
theorem ZfQ {i:In3}{p:Bool} (h:ZaQ p i=true):0≤i.op∧i.op<36:=by
 simp only [ZaQ,Bool.and_eq_true,decide_eq_true_eq] at h;exact h.1.1.1
structure ZfR (m:Md) (k:Nat) (i:In3):Prop where
 a0:i.op≠1→0≤i.a
 b0:0≤i.b
 o2:i.op=2∨i.op=3→i.a≤9
 o12:i.op=12→(i.a=2∨i.a=3∨i.a=4)∧(i.a=3→i.b=0)∧(i.a≠3→i.b<m.cl.length)
 o14:i.op=14∨i.op=24→i.a<m.cl.length
 o16:i.op=16→i.b<m.cl.length
 o22:i.op=22∨i.op=23→i.a<m.st.length
 o25:i.op=25→i.a<k∧m.own i.a<0
 o26:i.op=26→i.a<m.sel∧∀ t∈ZaN m i.a,t<k
theorem ZfS {m:Md}{k:Nat}{i:In3} (h:ZaQ false i=true) (h2:ZaW m k i=true):ZfR m k i:=by
 obtain ⟨op,a,b⟩:=i
 have h3:=ZfQ h
 dsimp only at h3
 simp only [ZaQ,Bool.and_eq_true,decide_eq_true_eq,Bool.not_eq_true',Bool.and_eq_false_iff,decide_eq_false_iff_not] at h
 obtain ⟨⟨⟨⟨_,_⟩,ha⟩,hb⟩,h12⟩:=h
 obtain ⟨n,rfl⟩:∃ n:Nat,op=n:=⟨op.toNat,by omega⟩
 have hn:n<36:=by omega
 rw [Int.toNat_natCast] at ha hb
 have hA:n≠1→0≤a:=by
  intro h1
  have hr:opA.getD n 0≠1:=by
   have:∀ n:Fin 36,n.val≠1→opA.getD n.val 0≠1:=by decide
   exact this ⟨n,hn⟩ h1
  unfold inR at ha
  simp only [Bool.false_and,Bool.false_eq_true,if_false] at ha
  rw [if_neg hr] at ha
  split at ha<;>(try split at ha)<;>simp only [inI,Bool.and_eq_true,decide_eq_true_eq] at ha<;>omega
 have hB:0≤b:=by
  have hr:opB.getD n 0=0∨opB.getD n 0=2∨opB.getD n 0=4:=by
   have:∀ n:Fin 36,opB.getD n.val 0=0∨opB.getD n.val 0=2∨opB.getD n.val 0=4:=by decide
   exact this ⟨n,hn⟩
  unfold inR at hb
  simp only [Bool.false_and,Bool.false_eq_true,if_false] at hb
  rw [if_neg (by omega),if_neg (by omega),if_neg (by omega)] at hb
  simp only [inI,Bool.and_eq_true,decide_eq_true_eq] at hb
  exact hb.1
 refine ⟨fun h1=>hA (by dsimp only at h1;omega),hB,?_,?_,?_,?_,?_,?_,?_⟩<;>dsimp only<;>intro hop
 ·have:opA.getD n 0=2:=by rcases hop with hop|hop<;>((obtain rfl:n=_:=(by exact_mod_cast hop));rfl)
  rw [this] at ha
  have hr:inI a 0 9=true:=ha
  simp only [inI,Bool.and_eq_true,decide_eq_true_eq] at hr
  exact hr.2
 ·obtain rfl:n=12:=by omega
  have hr:inI a 2 4=true:=ha
  simp only [inI,Bool.and_eq_true,decide_eq_true_eq] at hr
  have h2':(decide (a=3)||(decide (0≤b)&&decide (b<m.cl.length)))=true:=h2
  simp only [Bool.or_eq_true,Bool.and_eq_true,decide_eq_true_eq] at h2'
  refine ⟨by omega,fun h3=>?_,fun h3=>by omega⟩
  by_cases hb0:b=0
  ·exact hb0
  ·rcases h12 with (q|q)|q
   ·exact absurd rfl q
   ·exact absurd h3 q
   ·simp at q;exact q
 ·have h2':(decide (0≤a)&&decide (a<m.cl.length))=true:=by
   rcases hop with hop|hop<;>((obtain rfl:n=_:=(by exact_mod_cast hop));exact h2)
  simp only [Bool.and_eq_true,decide_eq_true_eq] at h2'
  exact h2'.2
 ·obtain rfl:n=16:=by omega
  have h2':(decide (0≤b)&&decide (b<m.cl.length))=true:=h2
  simp only [Bool.and_eq_true,decide_eq_true_eq] at h2'
  exact h2'.2
 ·have h2':decide (a<m.st.length)=true:=by
   rcases hop with hop|hop<;>((obtain rfl:n=_:=(by exact_mod_cast hop));exact h2)
  simpa using h2'
 ·obtain rfl:n=25:=by omega
  have h2':(decide (a<k)&&decide (m.own a<0))=true:=h2
  simpa using h2'
 ·obtain rfl:n=26:=by omega
  have h2':(decide (a<m.sel)&&(ZaN m a).all fun t=>decide (t<k))=true:=h2
  simpa using h2'
theorem ZfT {m:Md}{s t:Int} (h:t∈ZaN m s):0≤t:=by
 unfold ZaN at h
 rw [Zdw] at h
 simpa using (List.mem_filter.1 h).2
theorem ZfU {α:Type} (d:α) {l:List α}{n:Nat} (h:n<l.length):l.getD n d∈l:=by
 rw [show l.getD n d=l[n] by simp [h]];exact List.getElem_mem h
theorem ZfV {m:Md}{k:Nat}{i:In3} (h:ZfR m k i) (hop:i.op=25∨i.op=26) {x:Mth} (hx:Zew m i=some x):∃ j,j<k∧x=m.me.getD j default∧(i.op=25→j=i.a.toNat)∧(i.op=26→(j:Int)∈ZaN m i.a∧∃ r,ZaN m i.a=(j:Int) :: r):=by
 unfold Zew at hx
 rcases hop with hop|hop
 ·rw [if_pos hop] at hx
  cases hx
  have h1:=h.a0 (by omega)
  have h2:=(h.o25 hop).1
  exact ⟨i.a.toNat,by omega,rfl,fun _=>rfl,fun q=>by omega⟩
 ·rw [if_neg (by omega)] at hx
  split at hx
  ·cases hx
  ·rename_i t r ht
   cases hx
   have hm:t∈ZaN m i.a:=by rw [ht];exact List.mem_cons_self
   have h1:=(h.o26 hop).2 t hm
   have h2:=ZfT hm
   refine ⟨t.toNat,by omega,rfl,fun q=>by omega,fun _=>?_⟩
   rw [show ((t.toNat:Nat):Int)=t by omega]
   exact ⟨hm,r,ht⟩
section
variable {m:Md}{lo:List Ty}{i:In3}{l:List Ty}
theorem pv1 (h:i.op=1):ZeB m lo i l=some Zeu:=by
 exact k14
theorem pv2 (h:i.op=2):ZeB m lo i l=lo[i.a.toNat]?:=by
 exact k14
theorem pv3 (h:i.op=3):ZeB m lo i l=if ZeA m (l.getD 0 default) lo[i.a.toNat]? then some ty0 else none:=by
 exact k14
theorem pv5 (h:i.op=5):ZeB m lo i l=some (l.getD 0 default):=by
 exact k14
theorem pv6 (h:i.op=6∨i.op=7∨i.op=8∨i.op=9∨i.op=10∨i.op=11):ZeB m lo i l=if decide (l.getD 0 default=Zeu)&&decide (l.getD 1 default=Zeu) then some Zeu else none:=by
 rcases h with h|h|h|h|h|h<;>(obtain ⟨op,a,b⟩:=i;dsimp only at h;subst h;rfl)
theorem ZfW (h:i.op=12):ZeB m lo i l=some ⟨i.a,i.b⟩:=by
 exact k14
theorem ZfX (h:i.op=13):ZeB m lo i l=if decide (l.getD 0 default≠Zeu) then some Zeu else none:=by
 exact k14
theorem ZfY (h:i.op=14):ZeB m lo i l=some ⟨2,i.a⟩:=by
 exact k14
theorem ZfZ (h:i.op=15):ZeB m lo i l=some ⟨3,0⟩:=by
 exact k14
theorem Zf0 (h:i.op=16):ZeB m lo i l=some ⟨4,i.b⟩:=by
 exact k14
theorem Zf1 (h:i.op=17):ZeB m lo i l=Zey m (l.getD 0 default) i.a:=by
 exact k14
theorem Zf2 (h:i.op=18):ZeB m lo i l=if ZeA m (l.getD 1 default) (Zey m (l.getD 0 default) i.a) then some ty0 else none:=by
 exact k14
theorem Zf3 (h:i.op=19):ZeB m lo i l=if l.getD 1 default=Zeu then Zez (l.getD 0 default) else none:=by
 exact k14
theorem Zf4 (h:i.op=20):ZeB m lo i l=if decide (l.getD 1 default=Zeu)&&ZeA m (l.getD 2 default) (Zez (l.getD 0 default)) then some ty0 else none:=by
 exact k14
theorem Zf5 (h:i.op=21):ZeB m lo i l=if (Zez (l.getD 0 default)).isSome then some Zeu else none:=by
 exact k14
theorem Zf6 (h:i.op=22):ZeB m lo i l=some (m.st.getD i.a.toNat default):=by
 exact k14
theorem Zf7 (h:i.op=23):ZeB m lo i l=if Zet m (l.getD 0 default) (m.st.getD i.a.toNat default) then some ty0 else none:=by
 exact k14
theorem Zf8 (h:i.op=24):ZeB m lo i l=if decide ((l.getD 0 default).k=2)&&(Zet m (l.getD 0 default) ⟨2,i.a⟩||Zet m ⟨2,i.a⟩ (l.getD 0 default)) then some ⟨2,i.a⟩ else none:=by
 exact k14
theorem Zf9 (h:i.op=25):ZeB m lo i l=if ((List.range (m.me.getD i.a.toNat default).p.length).all fun k=>Zet m (l.getD k default) ((m.me.getD i.a.toNat default).p.getD k default)) then some (m.me.getD i.a.toNat default).r else none:=by
 exact k14
theorem Zga (h:i.op=26):ZeB m lo i l=match Zew m i with
  | none=>none
  | some x=>if (decide ((l.getD 0 default).k=2)&&decide (0≤m.ent (l.getD 0 default).c i.a.toNat)&&(List.range x.p.length).all fun k=>Zet m (l.getD (k+1) default) (x.p.getD k default)) then some x.r else none:=by
 exact k14
theorem Zgb (h:i.op=27∨i.op=29):ZeB m lo i l=if decide (l.getD 0 default=Zeu) then some ty0 else none:=by
 rcases h with h|h<;>(obtain ⟨op,a,b⟩:=i;dsimp only at h;subst h;rfl)
theorem Zgc (h:i.op=30):ZeB m lo i l=if decide (l.getD 0 default=Zeu)&&decide (lo[i.b.toNat]?=some Zeu) then some ty0 else none:=by
 exact k14
theorem pvx (h:i.op=0∨i.op=4∨i.op=28∨(31≤i.op∧i.op≤35)):ZeB m lo i l=some ty0:=by
 unfold ZeB
 dsimp only
 repeat rw [if_neg (by omega)]
theorem Zgd (h:i.op=1∨i.op=2∨i.op=12∨i.op=14∨i.op=15∨i.op=16∨i.op=22):Zex m i=(0,1):=by
 rcases h with h|h|h|h|h|h|h<;>(obtain ⟨op,a,b⟩:=i;dsimp only at h;subst h;rfl)
theorem Zge (h:i.op=3∨i.op=4∨i.op=23∨i.op=27∨i.op=29∨i.op=30):Zex m i=(1,0):=by
 rcases h with h|h|h|h|h|h<;>(obtain ⟨op,a,b⟩:=i;dsimp only at h;subst h;rfl)
theorem Zgf (h:i.op=5):Zex m i=(1,2):=by
 exact k14
theorem Zgg (h:i.op=6∨i.op=7∨i.op=8∨i.op=9∨i.op=10∨i.op=11∨i.op=19):Zex m i=(2,1):=by
 rcases h with h|h|h|h|h|h|h<;>(obtain ⟨op,a,b⟩:=i;dsimp only at h;subst h;rfl)
theorem Zgh (h:i.op=13∨i.op=17∨i.op=21∨i.op=24):Zex m i=(1,1):=by
 rcases h with h|h|h|h<;>(obtain ⟨op,a,b⟩:=i;dsimp only at h;subst h;rfl)
theorem Zgi (h:i.op=18):Zex m i=(2,0):=by
 exact k14
theorem Zgj (h:i.op=20):Zex m i=(3,0):=by
 exact k14
theorem Zgk (h:i.op=25):Zex m i=((m.me.getD i.a.toNat default).p.length,if (m.me.getD i.a.toNat default).r.k=0 then 0 else 1):=by
 exact k14
theorem Zgl (h:i.op=26):Zex m i=match Zew m i with
  | none=>(0,0)
  | some x=>(x.p.length+1,if x.r.k=0 then 0 else 1):=by
 exact k14
theorem cvx (h:i.op=0∨i.op=28∨(31≤i.op∧i.op≤35)):Zex m i=(0,0):=by
 unfold Zex
 repeat rw [if_neg (by omega)]
end
theorem Zgm {α:Type}{c:Prop} [Decidable c] {x t:α} (h:(if c then some x else none)=some t):c∧x=t:=by
 split at h
 ·rename_i q;cases h;exact ⟨q,rfl⟩
 ·cases h
section
variable {m:Md}(hm:Za1 m=true){lo:List Ty}(hlo:∀ t∈lo,Zfi m t){k:Nat}(hk:k<m.me.length){i:In3}(ho:0≤i.op∧i.op<36)
include m hm lo hlo k hk i ho
theorem Zgn (h:ZfR m k i) {l:List Ty} (hl:∀ t∈l,Zfi m t) (hlen:l.length=(Zex m i).1) {t:Ty} (ht:ZeB m lo i l=some t):
  (Zex m i).2=0∨Zfi m t:=by
 have cls:i.op=1∨i.op=2∨i.op=5∨(i.op=6∨i.op=7∨i.op=8∨i.op=9∨i.op=10∨i.op=11)∨i.op=12∨i.op=13∨i.op=14∨i.op=15∨i.op=16∨i.op=17∨i.op=19∨i.op=21∨i.op=22∨i.op=24∨i.op=25∨i.op=26∨(i.op=3∨i.op=4∨i.op=23∨i.op=27∨i.op=29∨i.op=30)∨i.op=18∨i.op=20∨(i.op=0∨i.op=28∨(31≤i.op∧i.op≤35)):=by omega
 rcases cls with q|q|q|q|q|q|q|q|q|q|q|q|q|q|q|q|q|q|q|q
 ·rw [pv1 q] at ht;cases ht;exact .inr (ZfD m)
 ·rw [pv2 q] at ht;exact .inr (hlo t (List.mem_of_getElem? ht))
 ·rw [pv5 q] at ht
  cases ht
  exact .inr (hl _ (ZfU _ (by rw [hlen,Zgf q];decide)))
 ·rw [pv6 q] at ht
  rw [←(Zgm ht).2];exact .inr (ZfD m)
 ·rw [ZfW q] at ht
  cases ht
  obtain ⟨h1,h2,h3⟩:=h.o12 q
  have h4:=h.b0
  rcases h1 with h1|h1|h1
  ·exact .inr (ZfE (.inl h1) h4 (h3 (by omega)))
  ·refine .inr ?_
   rw [h1,h2 h1]
   unfold Zfi ZaF;simp
  ·exact .inr (ZfE (.inr h1) h4 (h3 (by omega)))
 ·rw [ZfX q] at ht
  rw [←(Zgm ht).2];exact .inr (ZfD m)
 ·rw [ZfY q] at ht
  cases ht;exact .inr (ZfE (.inl rfl) (h.a0 (by omega)) (h.o14 (.inl q)))
 ·rw [ZfZ q] at ht
  cases ht;exact .inr (by unfold Zfi ZaF;simp)
 ·rw [Zf0 q] at ht
  cases ht;exact .inr (ZfE (.inr rfl) h.b0 (h.o16 q))
 ·rw [Zf1 q] at ht
  unfold Zey at ht
  split at ht
  ·rename_i q2
   have ha:=hl (l.getD 0 default) (ZfU _ (by rw [hlen,Zgh (by omega)];decide))
   obtain ⟨c0,c1⟩:=ZfF ha (.inl q2)
   exact .inr (ZfK hm c0 c1 t (List.mem_of_getElem? ht))
  ·cases ht
 ·rw [Zf3 q] at ht
  split at ht
  ·unfold Zez at ht
   split at ht
   ·cases ht;exact .inr (ZfD m)
   ·split at ht
    ·rename_i q2
     have ha:=hl (l.getD 0 default) (ZfU _ (by rw [hlen,Zgg (by omega)];decide))
     obtain ⟨c0,c1⟩:=ZfF ha (.inr q2)
     cases ht
     exact .inr (ZfE (.inl rfl) c0 c1)
    ·cases ht
  ·cases ht
 ·rw [Zf5 q] at ht
  rw [←(Zgm ht).2];exact .inr (ZfD m)
 ·rw [Zf6 q] at ht
  cases ht
  have h1:=h.o22 (.inl q)
  have h2:=h.a0 (by omega)
  exact .inr (ZfL hm _ (ZfU _ (by omega)))
 ·rw [Zf8 q] at ht
  rw [←(Zgm ht).2]
  exact .inr (ZfE (.inl rfl) (h.a0 (by omega)) (h.o14 (.inr q)))
 ·rw [Zf9 q] at ht
  rw [←(Zgm ht).2]
  have hx:Zew m i=some (m.me.getD i.a.toNat default):=by unfold Zew;rw [if_pos q]
  obtain ⟨j,hj,he,_⟩:=ZfV h (.inl q) hx
  have hr:=(ZfN hm (k:=j) (by omega)).r
  rw [←he] at hr
  by_cases h0:(m.me.getD i.a.toNat default).r.k=0
  ·exact .inl (by rw [Zgk q];exact if_pos h0)
  ·exact .inr (ZfG hr h0)
 ·rw [Zga q] at ht
  rw [Zgl q]
  split at ht
  ·cases ht
  ·rename_i x hx
   rw [←(Zgm ht).2]
   obtain ⟨j,hj,he,_⟩:=ZfV h (.inr q) hx
   have hr:=(ZfN hm (k:=j) (by omega)).r
   rw [←he] at hr
   by_cases h0:x.r.k=0
   ·exact .inl (by simp [h0])
   ·exact .inr (ZfG hr h0)
 ·exact .inl (by rw [Zge q])
 ·exact .inl (by rw [Zgi q])
 ·exact .inl (by rw [Zgj q])
 ·exact .inl (by rw [cvx q])
theorem Zgo (hi:ZfR m k i) {s:Ps} {l:List In3} (h:Wf m s (i :: l)) (he:(ZeC m lo i s).1=0):Wf m (ZeC m lo i s).2 l:=by
 by_cases h1:i.op=34
 ·exact (Zft h h1).2
 ·by_cases h2:i.op=35
  ·exact Zfu h h2 he
  ·refine Zfs h h1 h2 he fun t ht=>?_
   obtain ⟨_,_,hc,_⟩:=Zfr h1 h2 he
   refine Zgn hm hlo hk ho hi (fun u hu=>h.stk.2 u (List.mem_of_mem_drop hu)) ?_ ht
   simp;omega
end
end
section
open Go.RowKit
section
variable {P:Program}{ops:Array Oper}{md:Region.Mode}{S:World→Prop}{Q:Exit→Act→World→Prop}{n:Nat}
def Zgp (P:Program) (md:Region.Mode) (ops:Array Oper) (Q:Exit→Act→World→Prop) (S:World→Prop) (n:Nat):Nat→Array Bool→Act→World→Prop
 | 0,listed,a,w=>Region.ready md ops listed=[n]∧wpOp P ops Q n (fun a' w'=>Region.ready md ops (listed.setIfInBounds n true)=[]∧Q .normal a' w') a w
 | f+1,listed,a,w=>Region.ready md ops listed≠[]∧∀ i∈Region.ready md ops listed,wpOp P ops Q i (fun a' w'=>S w'∧Zgp P md ops Q S n f (listed.setIfInBounds i true) a' w') a w
theorem Zgq (f:Nat):∀ (listed:Array Bool) (a:Act) (w:World),Zgp P md ops Q S n f listed a w→wpAny P md ops Q (f+1) listed a w:=by
 induction f with
 | zero=>
  intro listed a w h
  refine ⟨fun h0=>(by rw [h.1] at h0;cases h0),fun i hi=>?_⟩
  rw [h.1] at hi
  obtain rfl:i=n:=by simpa using hi
  exact wpOp_mono (fun a' w' h'=>h') h.2
 | succ f ih=>
  intro listed a w h
  exact ⟨fun h0=>absurd h0 h.1,fun i hi=>wpOp_mono (fun a' w' h'=>ih _ a' w' h'.2) (h.2 i hi)⟩
theorem Zgr {i:Nat}{oi on:Oper}{v:Value} (hi:ops[i]?=some oi) (hn:ops[n]?=some on) (hb:∃ e∈on.after,Region.binds md e=true∧e.on=i) (hsel:∀ (j:Nat) (o:Oper) cs b,ops[j]?=some o→o.op≠.select cs b)
  (hQ:∀ c a d v w,Q (.panic c) (Act.put a d v) w→Q (.panic c) a w) (f:Nat) :
  ∀ (listed:Array Bool) (a:Act) (w:World),
   (∀ j oj,ops[j]?=some oj→j≠i→listed.getD j true=false→(∀ e∈oj.after,Region.binds md e=true→e.on≠i)→oi.apart ops oj=true) →
   i∈Region.ready md ops listed→YieldsIf P ops S oi v a→S w →
   Zgp P md ops Q S n f (listed.setIfInBounds i true) (a.put oi.dst v) w→Zgp P md ops Q S n (f+1) listed a w:=by
 induction f with
 | zero=>
  intro listed a w _ hr hy hS H
  refine ⟨fun h=>(by rw [h] at hr;cases hr),fun j hj=>?_⟩
  by_cases hji:j=i
  ·subst hji;exact hy.wpOp hi hS ⟨hS,H⟩
  ·have h1:=ready_mono hj hji
   rw [H.1] at h1
   obtain rfl:j=n:=by simpa using h1
   obtain ⟨e,he,hbe,heo⟩:=hb
   obtain ⟨_,oj,hoj,hall⟩:=mem_ready.1 hj
   rw [hn] at hoj
   cases hoj
   have h2:=hall e he hbe
   rw [heo,getD_both (mem_ready.1 hr).1] at h2
   cases h2
 | succ f ih=>
  intro listed a w hfree hr hy hS H
  refine ⟨fun h=>(by rw [h] at hr;cases hr),fun j hj=>?_⟩
  by_cases hji:j=i
  ·subst hji;exact hy.wpOp hi hS ⟨hS,H⟩
  have h1:=H.2 j (ready_mono hj hji)
  obtain ⟨hjun,oj,hoj,hall⟩:=mem_ready.1 hj
  have hnot:∀ e∈oj.after,Region.binds md e=true→e.on≠i:=by
   intro e he hb heq
   have h2:=hall e he hb
   rw [heq,getD_both (mem_ready.1 hr).1] at h2
   cases h2
  have h2:=wpOp_putIf hoj (hfree j oj hoj hji hjun hnot) (fun cs b=>hsel i oi cs b hi) (fun cs b=>hsel j oj cs b hoj) (fun c a w=>hQ c _ _ _ w) hy h1
  refine wpOp_mono (fun a' w' h3=>⟨h3.2.1,ih (listed.setIfInBounds j true) a' w' ?_ (ready_mono hr (Ne.symm hji)) h3.1 h3.2.1 ?_⟩) h2
  ·intro k ok hk hki hun hno
   refine hfree k ok hk hki ?_ hno
   by_cases hjk:j=k
   ·subst hjk;exact hjun
   ·rw [getD_set_ne true hjk] at hun;exact hun
  ·rw [Array.setIfInBounds_comm _ _ hji];exact h3.2.2
def Zgs (P:Program) (l:List Oper) (Q:Exit→Act→World→Prop) (S:World→Prop) (n:Nat):Ord→Act→World→Prop
 | .done,a,w=>wpOp P l.toArray Q n (fun a' w'=>Q .normal a' w') a w
 | .plain i t,a,w=>∃ v,YieldsIf P l.toArray S (Zcg l i) v a∧Zgs P l Q S n t (a.put (Zcg l i).dst v) w
 | .one i t,a,w=>wpOp P l.toArray Q i (fun a' w'=>S w'∧Zgs P l Q S n t a' w') a w
 | .two i j t u,a,w=>wpOp P l.toArray Q i (fun a' w'=>S w'∧Zgs P l Q S n t a' w') a w∧wpOp P l.toArray Q j (fun a' w'=>S w'∧Zgs P l Q S n u a' w') a w
def Zgt (md:Region.Mode) (ops:Array Oper) (on:Oper) (n:Nat):Ord→Array Bool→Bool
 | .done,listed=>decide (Region.ready md ops listed=[n])&&decide (Region.ready md ops (listed.setIfInBounds n true)=[])
 | .plain k t,listed=>(Region.ready md ops listed).contains k&&Region.free md ops listed k&&(on.after.any fun e=>Region.binds md e&&decide (e.on=k))&&Zgt md ops on n t (listed.setIfInBounds k true)
 | .one k t,listed=>decide (Region.ready md ops listed=[k])&&Zgt md ops on n t (listed.setIfInBounds k true)
 | .two i j t u,listed=>decide (Region.ready md ops listed=[i,j])&&decide (t.len=u.len)&&Zgt md ops on n t (listed.setIfInBounds i true)&&Zgt md ops on n u (listed.setIfInBounds j true)
theorem Zgu {l:List Oper} (hQ:∀ c a d v w,Q (.panic c) (Act.put a d v) w→Q (.panic c) a w) (hsel:Region.noSelect l.toArray=true) (hnl:n<l.length) :
  ∀ (t:Ord) (listed:Array Bool) (a:Act) (w:World),t.inB l.length=true→S w→Zgt md l.toArray (Zcg l n) n t listed=true→Zgs P l Q S n t a w→Zgp P md l.toArray Q S n t.len listed a w
 | .done,listed,a,w,_,_,hB,h=>by
  simp only [Zgt,Bool.and_eq_true,decide_eq_true_eq] at hB
  exact ⟨hB.1,wpOp_mono (fun a' w' h'=>⟨hB.2,h'⟩) h⟩
 | .plain k t,listed,a,w,hi,hS,hB,h=>by
  simp only [Zgt,Bool.and_eq_true] at hB
  simp only [Ord.inB,Bool.and_eq_true,decide_eq_true_eq] at hi
  obtain ⟨⟨⟨hr,hf⟩,hbn⟩,hB'⟩:=hB
  obtain ⟨v,hy,hK⟩:=h
  have h0:l.toArray[k]?=some (Zcg l k):=by simp [Zcg,hi.1]
  have hn0:l.toArray[n]?=some (Zcg l n):=by simp [Zcg,hnl]
  have hb:∃ e∈(Zcg l n).after,Region.binds md e=true∧e.on=k:=by
   rw [Array.any_eq_true] at hbn
   obtain ⟨i,h1,h2⟩:=hbn
   simp only [Bool.and_eq_true,decide_eq_true_eq] at h2
   exact ⟨_,Array.getElem_mem h1,h2.1,h2.2⟩
  exact Zgr h0 hn0 hb (Region.noSelect_spec hsel) hQ t.len listed a w (Region.free_spec h0 hf) (by simpa using hr) hy hS (Zgu hQ hsel hnl t _ _ _ hi.2 hS hB' hK)
 | .one k t,listed,a,w,hi,hS,hB,h=>by
  simp only [Zgt,Bool.and_eq_true,decide_eq_true_eq] at hB
  simp only [Ord.inB,Bool.and_eq_true,decide_eq_true_eq] at hi
  refine ⟨by rw [hB.1];simp,fun i hin=>?_⟩
  rw [hB.1] at hin
  obtain rfl:i=k:=by simpa using hin
  exact wpOp_mono (fun a' w' h'=>⟨h'.1,Zgu hQ hsel hnl t _ _ _ hi.2 h'.1 hB.2 h'.2⟩) h
 | .two i j t u,listed,a,w,hi,hS,hB,h=>by
  simp only [Zgt,Bool.and_eq_true,decide_eq_true_eq] at hB
  simp only [Ord.inB,Bool.and_eq_true,decide_eq_true_eq] at hi
  refine ⟨by rw [hB.1.1.1];simp,fun k hin=>?_⟩
  rw [hB.1.1.1] at hin
  rcases (show k=i∨k=j by simpa using hin) with rfl|rfl
  ·exact wpOp_mono (fun a' w' h'=>⟨h'.1,Zgu hQ hsel hnl t _ _ _ hi.1.2 h'.1 hB.1.2 h'.2⟩) h.1
  ·have hlen:(Ord.two i k t u).len=u.len+1:=by rw [←hB.1.1.2];rfl
   show wpOp P l.toArray Q k (fun a' w'=>S w'∧Zgp P md l.toArray Q S n t.len (listed.setIfInBounds k true) a' w') a w
   rw [hB.1.1.2]
   exact wpOp_mono (fun a' w' h'=>⟨h'.1,Zgu hQ hsel hnl u _ _ _ hi.2 h'.1 hB.2 h'.2⟩) h.2
theorem Zgv {id:Nat}{a:Act}{w:World}{l:List Oper} (S:World→Prop) (n:Nat) (t:Ord) (hm:P.follows .mixedOrders=true)
  (hB:(Region.noSelect l.toArray&&decide (t.len+1=l.length)&&decide (n<l.length)&&t.inB l.length&&Zgt .any l.toArray (Zcg l n) n t (Array.replicate l.length false))=true) (hQ:∀ c a d v w,Q (.panic c) (Act.put a d v) w→Q (.panic c) a w) (hS:S w.drew)
  (h:Zgs P l Q S n t a w.drew):(Code.region id l.toArray true).wp P Q a w:=by
 simp only [Bool.and_eq_true,decide_eq_true_eq] at hB
 obtain ⟨⟨⟨⟨hsel,hlen⟩,hnl⟩,hin⟩,hlex⟩:=hB
 refine wp_region_any hm ?_
 have:=Zgu (P:=P) (Q:=Q) (S:=S) (md:=.any) hQ hsel hnl t _ a w.drew hin hS hlex h
 have h2:=Zgq _ _ _ _ this
 rw [hlen] at h2
 simpa using h2
theorem Zgw {l:List Oper}{k:Nat}{t:Ord}{a:Act}{w:World} (h:wpOp P l.toArray Q k (fun a' w'=>S w'∧Zgs P l Q S n t a' w') a w):Zgs P l Q S n (.one k t) a w:=h
theorem Zgx {l:List Oper}{a:Act}{w:World} (h:wpOp P l.toArray Q n (fun a' w'=>Q .normal a' w') a w):Zgs P l Q S n .done a w:=h
end
section
variable {P:Program}{S:World→Prop}{Q:Exit→Act→World→Prop}{n:Nat}
theorem pE {l:List Oper}{k:Nat}{t:Ord}{a a':Act}{w:World}{o:Oper}{v:Value} (h:Zgs P l Q S n t a' w) (ho:Zcg l k=o:=by (simp only [Zcg,List.getD_cons_zero,List.getD_cons_succ];rfl)) (hy:YieldsIf P l.toArray S o v a:=by first|(refine Or.inl ⟨by rfl,?_⟩;intro w hSw;(try dsimp only [Cs] at hSw);go_simp;(try with_reducible rfl);done)|exact Or.inr ⟨by rfl,rfl⟩) (ha:a.put o.dst v=a':=by ((try simp only [Act.put,List.setIfInBounds_toArray,List.set_cons_zero,List.set_cons_succ]);rfl)):Zgs P l Q S n (.plain k t) a w:=by
 subst ho ha
 exact ⟨v,hy,h⟩
theorem oE {l:List Oper}{k:Nat}{t:Ord}{a:Act}{w:World}{o:Oper} (h:∀ Kv:Act→World→Prop,(∀ a w,S w∧Zgs P l Q S n t a w→Kv a w)→o.wp P a w Kv Q) (ho:l.toArray[k]?=some o:=by rfl) (hw:Region.wanted o (yielded l.toArray a.tmps)=true:=by rfl):Zgs P l Q S n (.one k t) a w:=Zgw (Zd2 o ho hw h)
theorem sE {l:List Oper}{a:Act}{w:World}{o:Oper} (h:∀ Kv:Act→World→Prop,(∀ a w,Q .normal a w→Kv a w)→o.wp P a w Kv Q) (ho:l.toArray[n]?=some o:=by rfl) (hw:Region.wanted o (yielded l.toArray a.tmps)=true:=by rfl):Zgs P l Q S n .done a w:=Zgx (Zd2 o ho hw h)
theorem rE {id:Nat}{a:Act}{w:World}{l:List Oper} (S:World→Prop) (n:Nat) (t:Ord) (hS:S w.drew) (h:Zgs P l Q S n t a w.drew) (hm:P.follows .mixedOrders=true:=by kernel_rfl)
  (hB:(Region.noSelect l.toArray&&decide (t.len+1=l.length)&&decide (n<l.length)&&t.inB l.length&&Zgt .any l.toArray (Zcg l n) n t (Array.replicate l.length false))=true:=by kernel_rfl) (hQ:∀ c a d v w,Q (.panic c) (Act.put a d v) w→Q (.panic c) a w:=by intro c a d v w h;cases d<;>exact h):(Code.region id l.toArray true).wp P Q a w:=Zgv S n t hm hB hQ hS h
end
end
section
open Go.RowKit
theorem rVk {p:Prop} (h:p:=by
 as_aux_lemma=>
  generalize hq:ZaQ p _=q
  have HQ:=Zh hq
  clear hq
  go_enter Tryz.func244,Tryz.ntmps244
  go_wp2_with (first
   | (go_at_call 315;refine (ZeL _ _).mono ?_;rintro e w' ⟨rfl,rfl⟩;simp only [ZeK])
   | (go_at_call 316;refine (ZeM _ _ _ _).mono ?_;rintro e w' ⟨rfl,rfl⟩)
   | (go_at_call 317;refine (ZeN _ _ (by omega) (by omega) _).mono ?_;rintro e w' ⟨rfl,rfl⟩))
  all_goals
   first
    | go_ret
    | (go_quiet (first|(go_at_call 316;exact Calls.quiet_of_same (ZeI (ZeM _ _ _ _)))|(go_at_call 317;exact Calls.quiet_of_same (ZeI (ZeN _ _ (by omega) (by omega) _))));go_wp2;all_goals go_ret)
  all_goals
   refine ZcT (ZcX ?_) bE
   rw [←HQ.out,HI.out]
   clear HQ HI
   unfold inI at *
   grind
 ):p:=h
theorem Zgy (i:In3) (p:Bool) (w:World):Calls Tryz.prog 244 #[.agg #[.int .i64 i.op,.int .i64 i.a,.int .i64 i.b],.bool p] w (Ret w (.bool (ZaQ p i))):=by
 obtain ⟨op,a,b⟩:=i
 dsimp only
 by_cases h:0≤op∧op<36
 ·rcases (show op=0∨op=1∨op=2∨op=3∨op=4∨op=5∨op=6∨op=7∨op=8∨op=9∨op=10∨op=11∨op=12∨op=13∨op=14∨op=15∨op=16∨op=17∨op=18∨op=19∨op=20∨op=21∨op=22∨op=23∨op=24∨op=25∨op=26∨op=27∨op=28∨op=29∨op=30∨op=31∨op=32∨op=33∨op=34∨op=35 by omega) with rfl|rfl|rfl|rfl|rfl|rfl|rfl|rfl|rfl|rfl|rfl|rfl|rfl|rfl|rfl|rfl|rfl|rfl|rfl|rfl|rfl|rfl|rfl|rfl|rfl|rfl|rfl|rfl|rfl|rfl|rfl|rfl|rfl|rfl|rfl|rfl
  ·have HI:=Zh (show ZaQ p ⟨0,a,b⟩=(inI a 0 0&&inI b 0 0&&true) by cases p<;>rfl)
   exact rVk
  ·have HI:=Zh (show ZaQ p ⟨1,a,b⟩=(inI a (-2147483648) 2147483647&&inI b 0 0&&true) by cases p<;>rfl)
   exact rVk
  ·have HI:=Zh (show ZaQ p ⟨2,a,b⟩=(inI a 0 9&&inI b 0 0&&true) by cases p<;>rfl)
   exact rVk
  ·have HI:=Zh (show ZaQ p ⟨3,a,b⟩=(inI a 0 9&&inI b 0 0&&true) by cases p<;>rfl)
   exact rVk
  ·have HI:=Zh (show ZaQ p ⟨4,a,b⟩=(inI a 0 0&&inI b 0 0&&true) by cases p<;>rfl)
   exact rVk
  ·have HI:=Zh (show ZaQ p ⟨5,a,b⟩=(inI a 0 0&&inI b 0 0&&true) by cases p<;>rfl)
   exact rVk
  ·have HI:=Zh (show ZaQ p ⟨6,a,b⟩=(inI a 0 0&&inI b 0 0&&true) by cases p<;>rfl)
   exact rVk
  ·have HI:=Zh (show ZaQ p ⟨7,a,b⟩=(inI a 0 0&&inI b 0 0&&true) by cases p<;>rfl)
   exact rVk
  ·have HI:=Zh (show ZaQ p ⟨8,a,b⟩=(inI a 0 0&&inI b 0 0&&true) by cases p<;>rfl)
   exact rVk
  ·have HI:=Zh (show ZaQ p ⟨9,a,b⟩=(inI a 0 0&&inI b 0 0&&true) by cases p<;>rfl)
   exact rVk
  ·have HI:=Zh (show ZaQ p ⟨10,a,b⟩=(inI a 0 0&&inI b 0 0&&true) by cases p<;>rfl)
   exact rVk
  ·have HI:=Zh (show ZaQ p ⟨11,a,b⟩=(inI a 0 0&&inI b 0 0&&true) by cases p<;>rfl)
   exact rVk
  ·have HI:=Zh (show ZaQ p ⟨12,a,b⟩=(inI a 2 4&&inI b 0 (if p then 59 else 9)&&!(decide (a=3)&&decide (b≠0))) by cases p<;>rfl)
   rcases hI:inI a 2 4 with _|_<;>exact rVk
  ·have HI:=Zh (show ZaQ p ⟨13,a,b⟩=(inI a 0 0&&inI b 0 0&&true) by cases p<;>rfl)
   exact rVk
  ·have HI:=Zh (show ZaQ p ⟨14,a,b⟩=(inI a 0 (if p then 59 else 9)&&inI b 0 0&&true) by cases p<;>rfl)
   exact rVk
  ·have HI:=Zh (show ZaQ p ⟨15,a,b⟩=(inI a 0 48&&inI b 0 0&&true) by cases p<;>rfl)
   exact rVk
  ·have HI:=Zh (show ZaQ p ⟨16,a,b⟩=(inI a 0 48&&inI b 0 (if p then 59 else 9)&&true) by cases p<;>rfl)
   rcases hI:inI a 0 48 with _|_<;>exact rVk
  ·have HI:=Zh (show ZaQ p ⟨17,a,b⟩=(inI a 0 (if p then 59 else 6)&&inI b 0 0&&true) by cases p<;>rfl)
   exact rVk
  ·have HI:=Zh (show ZaQ p ⟨18,a,b⟩=(inI a 0 (if p then 59 else 6)&&inI b 0 0&&true) by cases p<;>rfl)
   exact rVk
  ·have HI:=Zh (show ZaQ p ⟨19,a,b⟩=(inI a 0 0&&inI b 0 0&&true) by cases p<;>rfl)
   exact rVk
  ·have HI:=Zh (show ZaQ p ⟨20,a,b⟩=(inI a 0 0&&inI b 0 0&&true) by cases p<;>rfl)
   exact rVk
  ·have HI:=Zh (show ZaQ p ⟨21,a,b⟩=(inI a 0 0&&inI b 0 0&&true) by cases p<;>rfl)
   exact rVk
  ·have HI:=Zh (show ZaQ p ⟨22,a,b⟩=(inI a 0 (if p then 59 else 9)&&inI b 0 0&&true) by cases p<;>rfl)
   exact rVk
  ·have HI:=Zh (show ZaQ p ⟨23,a,b⟩=(inI a 0 (if p then 59 else 9)&&inI b 0 0&&true) by cases p<;>rfl)
   exact rVk
  ·have HI:=Zh (show ZaQ p ⟨24,a,b⟩=(inI a 0 (if p then 59 else 9)&&inI b 0 0&&true) by cases p<;>rfl)
   exact rVk
  ·have HI:=Zh (show ZaQ p ⟨25,a,b⟩=(inI a 0 (if p then 59 else 15)&&inI b 0 0&&true) by cases p<;>rfl)
   exact rVk
  ·have HI:=Zh (show ZaQ p ⟨26,a,b⟩=(inI a 0 (if p then 59 else 15)&&inI b 0 0&&true) by cases p<;>rfl)
   exact rVk
  ·have HI:=Zh (show ZaQ p ⟨27,a,b⟩=(inI a 0 3&&inI b 0 0&&true) by cases p<;>rfl)
   exact rVk
  ·have HI:=Zh (show ZaQ p ⟨28,a,b⟩=(inI a 0 9&&inI b 0 0&&true) by cases p<;>rfl)
   exact rVk
  ·have HI:=Zh (show ZaQ p ⟨29,a,b⟩=(inI a 0 0&&inI b 0 0&&true) by cases p<;>rfl)
   exact rVk
  ·have HI:=Zh (show ZaQ p ⟨30,a,b⟩=(inI a 0 50&&inI b 0 9&&true) by cases p<;>rfl)
   rcases hI:inI a 0 50 with _|_<;>exact rVk
  ·have HI:=Zh (show ZaQ p ⟨31,a,b⟩=(inI a 0 5&&inI b 0 0&&true) by cases p<;>rfl)
   exact rVk
  ·have HI:=Zh (show ZaQ p ⟨32,a,b⟩=(inI a 1 24&&inI b 0 0&&true) by cases p<;>rfl)
   exact rVk
  ·have HI:=Zh (show ZaQ p ⟨33,a,b⟩=(inI a 0 0&&inI b 0 0&&true) by cases p<;>rfl)
   exact rVk
  ·have HI:=Zh (show ZaQ p ⟨34,a,b⟩=(inI a 0 0&&inI b 0 0&&true) by cases p<;>rfl)
   exact rVk
  ·have HI:=Zh (show ZaQ p ⟨35,a,b⟩=(inI a 0 0&&inI b 0 0&&true) by cases p<;>rfl)
   exact rVk
 ·have hq:ZaQ p ⟨op,a,b⟩=false:=by
   exact k77
  rw [hq]
  have ho:=ZeL op
  rw [if_pos (show op<0∨36≤op by omega)] at ho
  generalize ZeK op=q at ho
  have HO:=Zh ho
  clear ho hq h
  go_enter Tryz.func244,Tryz.ntmps244
  go_wp2_with fail
  refine (HO.out _).mono ?_
  rintro e w' ⟨rfl,rfl⟩
  go_wp2_with fail
  go_ret
  exact ZcT rfl bE
end
end Go.Proofs.YtcfjblcgceednaaGreat
