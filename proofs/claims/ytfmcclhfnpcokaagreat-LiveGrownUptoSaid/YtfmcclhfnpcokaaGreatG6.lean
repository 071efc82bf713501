import Derived.Test.YtfmcclhfnpcokaaGreatG4
set_option linter.all false
set_option maxRecDepth 100000
set_option maxHeartbeats 80000000
namespace Go.Proofs.YtfmcclhfnpcokaaGreat
theorem k14{p:Prop}(h:p:=by
 obtain ⟨op,a,b⟩:=i;dsimp only at h;subst h;rfl):p:=h
theorem k37{p:Prop}(h:p:=by
 have hq:Zff sn takes pushes bz=false:=by unfold Zff;grind
 rw [hq];clear hq;go_enter Tryz.func194,Tryz.ntmps194
 go_wp2_with (first|(go_at_call 255;refine HF.out.mono ?_;rintro e w1 ⟨rfl,hb⟩)|(go_at_call 252;refine (ZeU K h m L _ _ e 12 _ (HH.out.old hb)).mono ?_;rintro e w2 ⟨⟨v,rfl⟩,hc,hu⟩))
 go_ret;exact ⟨rfl,hc,(Upd.of hb).trans hu⟩):p:=h
theorem k38{p:Prop}(h:p:=by
 have h4:=Zef HO4.out (base':=w.heap.size) (by have:=HBxl.out;omega);refine ⟨⟨ao4,cap4,?_,?_⟩,HB4.out⟩
 ·rw [HQ.out,if_neg (show ¬ 0≤c by have:=HC.out;omega)];simp
 ·rw [HQ.out,if_neg (show ¬ 0≤c by have:=HC.out;omega),Zao,Zao];have e:(([]:List Ty)++pl++ll).length=0+pl.length+ll.length:=by simp
  rw [e];exact h4):p:=h
theorem k42{p:Prop}(h:p:=by
 have h4:=Zef HO4.out (base':=w.heap.size) (by have:=HBxl.out;omega);refine ⟨⟨ao4,cap4,?_,?_⟩,HB4.out⟩
 ·rw [HQ.out,if_pos HC.out];simp;omega
 ·rw [HQ.out,if_pos HC.out,Zao,Zao];have e:(([⟨2,c⟩]:List Ty)++pl++ll).length=1+pl.length+ll.length:=by simp;omega
  rw [e];exact h4):p:=h
theorem k89{p:Prop}(h:p:=by
 apply List.ext_getElem h;intro i h2 h3;have:=h1 i h2;simpa [List.getD_eq_getElem?_getD,h2,h3] using this):p:=h
theorem k96{p:Prop}(h:p:=by
 gi_wp2
 exact ⟨KeepsFrom.refl _ _,Below.refl _ _,⟨⟨HF.out,HR.out⟩,HB1.out⟩,HB2.out⟩):p:=h
section
open Go.RowKit
structure Upd (K B:Nat) (w w':World):Prop where
 os:w'.os=w.os
 tape:w'.tape=w.tape
 output:w'.output=w.output
 size:w.heap.size≤w'.heap.size
 block:∀ k,k<w.heap.size→k≠K→k≠B→w'.heap[k]?=w.heap[k]?
theorem Upd.refl (K B:Nat) (w:World):Upd K B w w:=⟨rfl,rfl,rfl,Nat.le_refl _,fun _ _ _ _=>rfl⟩
theorem Upd.trans {K B:Nat}{a b c:World} (h:Upd K B a b) (k:Upd K B b c):Upd K B a c:=
 ⟨k.os.trans h.os,k.tape.trans h.tape,k.output.trans h.output,Nat.le_trans h.size k.size,fun i g d f=>(k.block i (Nat.lt_of_lt_of_le g h.size) d f).trans (h.block i g d f)⟩
theorem Upd.of {K B:Nat}{a b:World} (h:Below a.heap.size a b):Upd K B a b:=⟨h.os,h.tape,h.output,h.size,fun k hk _ _=>h.block k hk⟩
theorem Upd.bel {K B:Nat}{a b c:World} (h:Upd K B a b) (k:Below b.heap.size b c):Upd K B a c:=h.trans (.of k)
section
variable {K B:Nat}{a b:World}(h:Upd K B a b)
include K B a b h
theorem Upd.alloc (o:Obj):Upd K B a (b.alloc o):=h.bel ((Below.refl _ _).alloc (Nat.le_refl _) o)
theorem Upd.drew:Upd K B a b.drew:=⟨h.os,h.tape,h.output,h.size,h.block⟩
theorem Upd.drewN (n:Nat):Upd K B a (b.drewN n):=⟨h.os,h.tape,h.output,h.size,h.block⟩
theorem Upd.set (j:Nat) (v:Value):Upd K B a (b.setCell ⟨K,j,none⟩ v):=
 h.trans ⟨rfl,rfl,rfl,by simp [World.setCell],fun k _ c _=>Below.heap_setCell _ _ _ _ c⟩
end
theorem Upd.more {K B:Nat}{a b:World} (h:Upd K K a b):Upd K B a b:=⟨h.os,h.tape,h.output,h.size,fun k hk c _=>h.block k hk c c⟩
theorem Upd.below {K B N:Nat}{w0 a b:World} (h:Upd K B a b) (hb:Below N w0 a) (hN:N≤w0.heap.size) (hK:N≤K) (hB:N≤B):Below N w0 b:=
 hb.trans ⟨h.os,h.tape,h.output,h.size,fun k hk=>h.block k (by have:=hb.size;omega) (by omega) (by omega)⟩
def ZeR (w:World) (ao:Option Addr) (cap:Nat) (l:List Ty):Prop:=Zas w ao cap l∧l.length≤cap∧∀ a,ao=some a→∃ xs z,w.heap[a.block]?=some (.cells xs 38 z)
def ZeS (w:World) (b:Nat):Prop:=b<w.heap.size∧∀ xs z,w.heap[b]?≠some (.cells xs 38 z)
theorem ZeR.upd {w w':World}{ao:Option Addr}{cap:Nat}{l:List Ty}{K B:Nat} (H:ZeR w ao cap l) (h:Upd K B w w') (hK:ZeS w K) (hB:ZeS w B):ZeR w' ao cap l:=by
 obtain ⟨g,p,o⟩:=H;have e:∀ a,ao=some a→w'.heap[a.block]?=w.heap[a.block]?:=fun a c=>by obtain ⟨f,z,d⟩:=o a c;have x:=(Array.getElem?_eq_some_iff.1 d).1;exact h.block _ x (fun q=>hK.2 f z (q▸d)) (fun q=>hB.2 f z (q▸d))
 refine ⟨⟨g.1,g.2.1,fun j u y=>?_⟩,p,fun a c=>?_⟩
 ·obtain ⟨a,c,v⟩:=g.2.2 j u y;refine ⟨a,c,?_⟩;have r:(a.add j).block=a.block:=by unfold Addr.add;split<;>rfl
  rw [World.cell?_of_block (w:=w) (by rw [r];exact e a c)];exact v
 ·obtain ⟨f,z,d⟩:=o a c;exact ⟨f,z,(e a c).trans d⟩
def ckC (h:Hd) (m:Md) (L S O:Value) (e:Int):Array Value:=#[.slice h.co m.cl.length h.cc,.slice h.so m.st.length h.sc,.slice h.eo m.me.length h.ec,.int .i64 m.sel,L,S,O,.int .i64 e]
def Ck (w:World) (K:Nat) (h:Hd) (m:Md) (L S O:Value) (e:Int):Prop:=Blk w K (ckC h m L S O e) 166
section
variable {w w':World}{K:Nat}{h:Hd}{m:Md}{L S O:Value}{e:Int}
section
variable (H:Ck w K h m L S O e)
include H
theorem Ck.noTy:ZeS w K:=⟨Blk.lt H,fun d z c=>by
 rw [show w.heap[K]?=_ from H] at c
 cases c⟩
theorem Ck.cells:K<w.heap.size∧w.cell? ⟨K,0,none⟩=some (.slice h.co m.cl.length h.cc)∧w.cell? ⟨K,1,none⟩=some (.slice h.so m.st.length h.sc)∧w.cell? ⟨K,2,none⟩=some (.slice h.eo m.me.length h.ec)∧w.cell? ⟨K,3,none⟩=some (.int .i64 m.sel)∧w.cell? ⟨K,4,none⟩=some L∧w.cell? ⟨K,5,none⟩=some S∧w.cell? ⟨K,6,none⟩=some O∧w.cell? ⟨K,7,none⟩=some (.int .i64 e):=
 ⟨Blk.lt H,Blk.cell H 0 rfl,Blk.cell H 1 rfl,Blk.cell H 2 rfl,Blk.cell H 3 rfl,Blk.cell H 4 rfl,Blk.cell H 5 rfl,Blk.cell H 6 rfl,Blk.cell H 7 rfl⟩
theorem Ck.setE (e':Int):Ck (w.setCell ⟨K,7,none⟩ (.int .i64 e')) K h m L S O e':=Blk.set H 7 _
theorem Ck.setS (S':Value):Ck (w.setCell ⟨K,5,none⟩ S') K h m L S' O e:=Blk.set H 5 _
theorem Ck.setO (O':Value):Ck (w.setCell ⟨K,6,none⟩ O') K h m L S O' e:=Blk.set H 6 _
theorem Ck.old (hb:Below w.heap.size w w'):Ck w' K h m L S O e:=Blk.old H hb
end
end
def ZeT (e x:Int):Int:=if e=0 then x else e
theorem ZeU (K:Nat) (h:Hd) (m:Md) (L S O:Value) (e x:Int) (w:World) (H:Ck w K h m L S O e) :
  Calls Tryz.prog 252 #[ZQ.p K,.int .i64 x] w fun r w'=>(∃ v,r=.returned v)∧Ck w' K h m L S O (ZeT e x)∧Upd K K w w':=by
 obtain ⟨o,-,-,-,-,-,-,-,g⟩:=H.cells;have j:w.frozen? ⟨K,7,none⟩=false:=Blk.frozen H 7;have c:=Zh H;clear H;by_cases he:e=0
 ·subst he;go_enter Tryz.func252,Tryz.ntmps252;go_wp2;go_end0;exact ⟨⟨_,rfl⟩,c.out.setE x,(Upd.refl K K w).set 7 _⟩
 ·have f:(e == 0)=false:=by simpa using he
  have d:=Zh he;clear he;go_enter Tryz.func252,Tryz.ntmps252;go_wp2;go_end0;exact ⟨⟨_,rfl⟩,by rw [show ZeT e x=e from if_neg d.out];exact c.out,Upd.refl K K w⟩
def ZeV (e:Int) (so:Bool):Int:=if so then e else ZeT e 11
theorem ZeW (K:Nat) (h:Hd) (m:Md) (L S O:Value) (e:Int) (c:Bool) (w:World) (H:Ck w K h m L S O e) :
  Calls Tryz.prog 187 #[ZQ.p K,.bool c] w fun r w'=>(∃ v,r=.returned v)∧Ck w' K h m L S O (ZeV e c)∧Upd K K w w':=by
 have f:=Zh H;have d:=Zh (ZeU K h m L S O e 11 w H);clear H;rcases c with _|_
 all_goals
  go_enter Tryz.func187,Tryz.ntmps187
  go_wp2_with (go_at_call 252;refine d.out.mono ?_;rintro e o ⟨⟨v,rfl⟩,g,j⟩)
  go_end0
  first|exact ⟨⟨_,rfl⟩,f.out,Upd.refl K K w⟩|exact ⟨⟨_,rfl⟩,g,j⟩
end
section
open Go.RowKit
attribute [local go_sem] World.cell?_alloc_some
theorem ZeX {w w':World}{a:Addr}{v:Value} (c:Below w.heap.size w w') (h:w.cell? a=some v):w'.cell? a=some v:=by rw [c.cell (Zad h)];exact h
theorem ZeY (m:Md) (h:Hd) (t:Ty) (c:Int) (w:World) (d:0≤c∧c≤1):Calls Tryz.prog 25 #[.agg (HM.mk h m),.agg #[.int .i64 t.k,.int .i64 t.c],.int .i64 c] w (Ret w (.bool (ZaG m.cl.length t c))):=by
 go_enter Tryz.func25,Tryz.ntmps25;go_wp2
 all_goals
  go_ret;exact ZcP (ZcT (by grind [ZaG])) bE
theorem ZeZ {n:Nat}{l:List Ty}{k:Nat} (hk:k<l.length) (h:ZaG n (l.getD k default) 1=false):ZaH n l=false:=by unfold ZaH;rw [List.all_eq_false];exact ⟨l.getD k default,by rw [List.getD_eq_getElem?_getD,List.getElem?_eq_getElem hk];exact List.getElem_mem hk,by rw [h];decide⟩
theorem Ze0 {n:Nat}{l:List Ty} (h:∀ i,i<l.length→ZaG n (l.getD i default) 1=true):ZaH n l=true:=by unfold ZaH;rw [List.all_eq_true];intro t c;obtain ⟨k,hk,rfl⟩:=List.getElem_of_mem c;have:=h k hk;rwa [List.getD_eq_getElem?_getD,List.getElem?_eq_getElem hk] at this
theorem Ze1 (m:Md) (h:Hd) (l:List Ty) (ao:Option Addr) (cap:Nat) (w:World) (T:Zas w ao cap l) (hm:l.length≤1000000):Calls Tryz.prog 116 #[.agg (HM.mk h m),.slice ao l.length cap] w (Ret w (.bool (ZaH m.cl.length l))):=by
 have N:=Blk.new w (HM.mk h m) 26;have y:Below w.heap.size w (w.alloc (.cells (HM.mk h m) 26)):=by exact bE
 have J:=Zh N;have F:=Zh (T.old y);have x:=Zh y;clear N T y;go_enter Tryz.func116,Tryz.ntmps116
 go_upto_region 1 with fail
 generalize w.alloc (.cells (HM.mk h m) 26)=w0 at J F x ⊢
 go_wp2_with fail
 go_loopw [5] (fun i wr=>∃ k:Nat,k≤l.length∧i=.int .i64 k∧Below w0.heap.size w0 wr∧Hid (∀ i,i<k→ZaG m.cl.length (l.getD i default) 1=true)) (fun i _=>l.length-(intOf i).toNat)
 case atStart=>exact ⟨0,by omega,rfl,Below.refl _ _,Zh (by omega)⟩
 case round=>
  obtain ⟨k,hk,rfl,r,U⟩:=hrel;by_cases hkl:k<l.length
  ·obtain ⟨C,rfl,D,E⟩:=ZaA (F.out.old r) hkl;have j:=J.out.old r;have V:wr.cell? ⟨w.heap.size,0,none⟩=some (.slice h.co m.cl.length h.cc):=j.cell 0 rfl;have W:wr.cell? ⟨w.heap.size,1,none⟩=some (.slice h.so m.st.length h.sc):=j.cell 1 rfl;have X:wr.cell? ⟨w.heap.size,2,none⟩=some (.slice h.eo m.me.length h.ec):=j.cell 2 rfl;have Y:wr.cell? ⟨w.heap.size,3,none⟩=some (.int .i64 m.sel):=j.cell 3 rfl;have rl:=j.lt;have R:(k:Int) < l.length:=by omega
   have ab:IntKind.i64.wrap ((k:Int)+1)=k+1:=IntWalk.i64_in _ (by omega);generalize ht:l.getD k default=t at D E;have I:=Zh ht;have A:=Zh r;clear ht r j;have g:=fun w'=>ZeY m h t 1 w' (by omega);generalize hq:ZaG m.cl.length t 1=q at g;have G:=Zh hq;have Z:=Zh g;clear hq g
   go_upto_region 4 with fail
   refine rO (fun w'=>w'.cell? ⟨w.heap.size,0,none⟩=some (.slice h.co m.cl.length h.cc)∧w'.cell? ⟨w.heap.size,1,none⟩=some (.slice h.so m.st.length h.sc)∧w'.cell? ⟨w.heap.size,2,none⟩=some (.slice h.eo m.me.length h.ec)∧w'.cell? ⟨w.heap.size,3,none⟩=some (.int .i64 m.sel)∧w'.cell? (C.add (k*2))=some (.int .i64 t.k)∧w'.cell? ⟨(C.add (k*2)).block,(C.add (k*2)).off+1,none⟩=some (.int .i64 t.c)) (oL [0,1,2,3,4,105,6]) ⟨V,W,X,Y,D,E⟩ ?_
   repeat refine pO ?_
   refine oO fun K M=>?_;go_simp;refine (Z.out _).mono ?_;rintro e w2 ⟨rfl,z⟩;have f:Below wr.heap.size wr w2:=Zag (Below.refl _ _).drew z;go_simp;refine M _ _ ⟨⟨ZeX f V,ZeX f W,ZeX f X,ZeX f Y,ZeX f D,ZeX f E⟩,?_⟩;clear M K
   repeat refine pO ?_
   refine Zd7 ?_;have u:=Zh (Zag A.out f);clear z f;rcases q with _|_
   ·go_wp2;go_ret;exact ZcP (ZcT (ZeZ hkl (by rw [I.out];exact G.out)).symm) (Zag x.out u.out)
   ·go_wp2;go_roundw
    case rel=>
     refine ⟨k+1,by omega,by go_num,u.out,Zh fun i hi=>?_⟩;by_cases hik:i<k
     ·exact U.out i hik
     ·obtain rfl:i=k:=by omega
      rw [I.out];exact G.out
    case measure=>simp [intOf];omega
  ·go_wp2;go_ret;exact ZcP (ZcT (Ze0 fun i hi=>U.out i (by omega)).symm) (Zag x.out r)
theorem Ze2 {a b:List Ty}{k:Nat} (h:a.getD k default≠b.getD k default):¬ a=b:=fun e=>h (by rw [e])
theorem Ze3 {a b:List Ty} (h:a.length=b.length) (h1:∀ i,i<a.length→a.getD i default=b.getD i default):a=b:=by exact k89
theorem Ze4 (a b:List Ty) (ao bo:Option Addr) (q bc:Nat) (w:World) (r:Zas w ao q a) (u:Zas w bo bc b) (hm:a.length≤2000000):Calls Tryz.prog 91 #[.slice ao a.length q,.slice bo b.length bc] w (Ret w (.bool (decide (a=b)))):=by
 by_cases hlen:a.length=b.length
 · have E:=Zh r;have F:=Zh u;have d:=Zh hlen;have g:((a.length:Int) != b.length)=false:=by simp [hlen]
   clear r u hlen;go_enter Tryz.func91,Tryz.ntmps91;go_wp2
   go_loopw [5] (fun i wr=>∃ k:Nat,k≤a.length∧i=.int .i64 k∧Below w.heap.size w wr∧Hid (∀ i,i<k→a.getD i default=b.getD i default)) (fun i _=>a.length-(intOf i).toNat)
   case atStart=>exact ⟨0,by omega,rfl,Below.refl _ _,Zh (by omega)⟩
   case round=>
     obtain ⟨k,hk,rfl,c,v⟩:=hrel;have f:=Zh c;clear c;by_cases hkl:k<a.length
     · obtain ⟨Y,rfl,z,A⟩:=ZaA (E.out.old f.out) hkl;obtain ⟨Z,rfl,C,D⟩:=ZaA (F.out.old f.out) (i:=k) (by have:=d.out;omega);have N:(k:Int) < b.length:=by have:=d.out;omega
       have M:(k:Int) < a.length:=by omega
       have T:IntKind.i64.wrap ((k:Int)+1)=k+1:=IntWalk.i64_in _ (by omega);generalize hx:a.getD k default=x at z A;generalize hy:b.getD k default=y at C D;have j:=Zh hx;have o:=Zh hy;clear hx hy;have R:=ZdY;have G:=ZdZ;obtain ⟨V,U⟩:=x;obtain ⟨X,W⟩:=y;dsimp only at z A C D;go_wp2
       go_quiet (fail)
       go_wp2
       all_goals first
         | (go_ret
            have I:¬ ((⟨V,U⟩:Ty)=⟨X,W⟩):=by simp only [Ty.mk.injEq];grind
            exact ZcP (ZcT (decide_eq_false (Ze2 (k:=k) (by rw [j.out,o.out];exact I))).symm) (ZcQ f.out _))
         | (go_roundw
            case rel=>
              refine ⟨k+1,by omega,by go_num,ZcQ f.out _,Zh fun i J=>?_⟩;by_cases hik:i<k
              · exact v.out i hik
              · obtain rfl:i=k:=by omega
                rw [j.out,o.out,Ty.mk.injEq];grind
            case measure=>simp [intOf];omega)
     · go_wp2;go_ret;exact ZcP (ZcT (decide_eq_true (Ze3 d.out fun i J=>v.out i (by omega))).symm) f.out
 · have g:((a.length:Int) != b.length)=true:=by simp;omega
   go_enter Tryz.func91,Tryz.ntmps91;go_wp2;go_ret;exact ZcP (ZcT (decide_eq_false fun e=>hlen (by rw [e])).symm) bE
theorem Ze5 (m:Md) (h:Hd) (a b:Int) (w:World) (H:Zaz w h m) (ha:a<m.cl.length) (E:ZcZ m (a.toNat+1)):Calls Tryz.prog 176 #[.agg (HM.mk h m),.int .i64 a,.int .i64 b] w (Ret w (.bool (ZcY m (m.cl.length+1) a b))):=by
 obtain ⟨q,A⟩:∃ q,q=ZcY m (m.cl.length+1) a b:=⟨_,rfl⟩;rw [←A];have G:=Zh A;have R:=H.bz;clear A;have g:=(Below.refl w.heap.size w).alloc (Nat.le_refl _) (.cells (HM.mk h m) 26);have o:=Zh (H.old g);have F:=Zh E;clear H E;obtain ⟨Z,Y,so,sc,eo,ec,hc,he⟩:=h;dsimp only;dsimp only at o g;go_enter Tryz.func176,Tryz.ntmps176;go_wp2
 go_loop [1,7] (fun x i=>∃ (k:Int) (f:Nat),x=.int .i64 k∧i=.int .i64 f∧f≤m.cl.length+1∧k≤a∧ZcY m (m.cl.length+1-f) k b=q) (fun _ i=>m.cl.length+2-(intOf i).toNat)
 case atStart=>exact ⟨a,0,rfl,rfl,by omega,by omega,G.out.symm⟩
 case round=>
  obtain ⟨k,f,rfl,rfl,hf,U,u⟩:=hrel;have v:=Zh u;clear u;by_cases hfl:f≤m.cl.length
  ·have y:(f:Int)≤m.cl.length:=by omega
   by_cases hk0:0≤k
   ·have z:k ≥ 0:=hk0;obtain ⟨c,rfl⟩:∃ c:Nat,k=c:=⟨k.toNat,by omega⟩;have W:IntKind.i64.wrap ((f:Int)+1)=f+1:=IntWalk.i64_in _ (by omega);have T:(c:Int) < m.cl.length:=by omega
    obtain ⟨X,r,I,J,M,N⟩:=o.out.cls (i:=c) (by omega);dsimp only at r;subst r;clear I M N;have V:=F.out c (by omega) (by omega);have j:m.sup c=(m.cl.getD c default).sup:=rfl;generalize (m.cl.getD c default).sup=s at J j;have C:=Zh j;clear j;rw [C.out] at V;by_cases hcb:(c:Int)=b
    ·subst hcb;go_wp2;go_ret;refine ZcP (ZcT ?_) bE;have d:=v.out;rw [show m.cl.length+1-f=(m.cl.length-f)+1 by omega,ZcY,if_neg (by omega),if_pos rfl] at d;exact d
    ·have D:((c:Int) == b)=false:=by simp;omega
     go_wp2
     go_round
     case rel=>
      refine ⟨s,f+1,rfl,by go_num,by omega,by omega,?_⟩;have d:=v.out;rw [show m.cl.length+1-f=(m.cl.length-f)+1 by omega,ZcY,if_neg (by omega),if_neg hcb,C.out] at d;rw [←d,show m.cl.length+1-(f+1)=m.cl.length-f by omega]
     case measure=>simp [intOf];omega
   ·have z:¬ k ≥ 0:=hk0;go_wp2;go_ret;refine ZcP (ZcT ?_) bE;have d:=v.out;rw [show m.cl.length+1-f=(m.cl.length-f)+1 by omega,ZcY,if_pos (by omega)] at d;exact d
  ·have y:¬ (f:Int)≤m.cl.length:=by omega
   go_wp2;go_ret;refine ZcP (ZcT ?_) bE;have d:=v.out;rw [show m.cl.length+1-f=0 by omega,ZcY] at d;exact d
end
section
open Go.RowKit Go.Shelf
attribute [local go_sem] Oper.semAt_some
def Ze6 (l:List VB):Nat:=match l.reverse.find? fun o=>decide (o.op=33)&&!o.mid with
 | some o=>o.bn
 | none=>0
theorem Blk.grownX {w w':World}{b:Nat}{xs:Array Value}{t:TypeId}{row:Option Nat} (h:Blk w b xs t) (hg:w.grownBy w' row) (hr:∀ r,row=some r→∃ o:Obj,w.heap[r]?=some o∧o.isCells=false):Blk w' b xs t:=by
 have c:some b≠row:=fun e=>by obtain ⟨o,ho,d⟩:=hr b e.symm;rw [show w.heap[b]?=_ from h] at ho;cases ho;cases d
 exact (hg.block b h.lt c).trans h
def Ze7 (x:Nat × VB):Bool:=decide (x.2.op=33)&&!x.2.mid
def Ze8 (l:List (Nat × VB)):Int:=match l.find? Ze7 with
 | some x=>x.2.bn
 | none=>0
theorem Ze9 (l:List VB):(Zeo l l.length).map Prod.snd=l.reverse:=by
 apply List.ext_getElem
 ·simp [Zeo]
 ·intro i d c;simp only [Zeo,List.map_map,List.getElem_map,List.getElem_range,Function.comp_apply,List.getElem_reverse];have f:i<l.length:=by simpa using c
  rw [List.getD_eq_getElem?_getD,List.getElem?_eq_getElem (by omega)];rfl
theorem Zfa (l:List VB):(Ze6 l:Int)=Ze8 (Zeo l l.length):=by
 unfold Ze6 Ze8;rw [←Ze9,List.find?_map];have e:((fun o:VB=>decide (o.op=33)&&!o.mid) ∘ Prod.snd)=Ze7:=rfl;rw [e];cases (Zeo l l.length).find? Ze7<;>rfl
theorem Zfb (l:List VB) {k:Nat} (hk:k≤l.length):∃ r,Zeo l l.length=Zeo l k++r:=by
 refine ⟨(Zeo l l.length).drop k,?_⟩;have h:(Zeo l l.length).take k=Zeo l k:=by unfold Zeo;rw [←List.map_take,List.take_range,Nat.min_eq_left hk]
 rw [←h,List.take_append_drop]
theorem Zfc {l:List VB}{k:Nat} (hk:k≤l.length) (h:((Zeo l k).find? Ze7).isSome=true):(Ze6 l:Int)=Ze8 (Zeo l k):=by
 obtain ⟨r,c⟩:=Zfb l hk;rw [Zfa,c];unfold Ze8;rw [List.find?_append];cases hf:(Zeo l k).find? Ze7 with
 | none=>rw [hf] at h;cases h
 | some x=>rfl
theorem Zfd (F:Fence) (n:Nat) (h1:F.fn 255) (h2:F.fn 305) (h3:F.fn 322) (v:F.round=none) (hn:6≤n)
  (K:Nat) (ao:Option Addr) (cap:Nat) (o:List VB) (w:World) (u:w.cell? ⟨K,6,none⟩=some (.slice ao o.length cap)) (V:Zas w ao cap o) (U:o.length≤1000000) :
  CallsIn F n Tryz.prog 255 #[ZQ.p K] w fun e W'=>e=.returned (.int .i64 (Ze6 o))∧Below w.heap.size w W':=by
 have af:1≤n:=by omega
 refine callsIn_of_wp_marks Tryz.func255 rfl h1 ?_ v;simp only [Tryz.ntmps255,List.size_toArray,List.length_cons,List.length_nil,Nat.reduceAdd,Nat.reduceSub,Array.replicate_succ,Array.replicate_zero,List.push_toArray,List.append_toArray,List.nil_append,List.cons_append];have ay:=Zad u
 gi_wp2_with (gi_at_call 305;refine (Zet F (n-1) h2 v _ _ _ _).mono ?_;rintro e w' ⟨rfl,rfl⟩)
 have bR:=(Boxed.new w 3 (.int .i64 0)).alloc (.cells #[.slice ao o.length cap] 164);have z:Below w.heap.size w ((w.alloc (.cells #[.int .i64 0] 3)).alloc (.cells #[.slice ao o.length cap] 164)):=by exact bE
 have C:Blk ((w.alloc (.cells #[.int .i64 0] 3)).alloc (.cells #[.slice ao o.length cap] 164)) (w.heap.size+1) #[.slice ao o.length cap] 164:=Blk.new' (w:=w.alloc (.cells #[.int .i64 0] 3)) _ _ (by simp);have ah:((w.alloc (.cells #[.int .i64 0] 3)).alloc (.cells #[.slice ao o.length cap] 164)).heap.size=w.heap.size+2:=by simp
 obtain ⟨M,R⟩:∃ M,(w.alloc (.cells #[.int .i64 0] 3)).alloc (.cells #[.slice ao o.length cap] 164)=M:=⟨_,rfl⟩;rw [R] at bR z C ah ⊢;clear R;refine wpIn_rangeFunc_ownH v af (gf:=322) (lb:=#[.pointer (some ⟨w.heap.size+1,0,none⟩)]) rfl h3 (enters_of Tryz.func322 (by kernel_rfl) rfl)
  (Zeu F (n-1) h3 v (by omega) (w.heap.size+1) ao cap o M (V.old z) U (C.cell 0 rfl)) belowK_t (belowK_b (Nat.le_refl _)) (Below.refl _ _) (fun _=>rfl)
  (fun g W=>(((g.find? Ze7=none)∧Boxed W w.heap.size 3 (.int .i64 0))∧Below w.heap.size w W)∧Below M.heap.size M W)
  (fun c g W=>((c=.ret∧(g.find? Ze7).isSome=true)∧Boxed W w.heap.size 3 (.int .i64 (Ze8 g)))∧Below w.heap.size w W)
  (OwnFrom.and (OwnFrom.and (OwnFrom.and (ownFrom_pure _ _) (Own.from (boxed_own _ _ _) _)) (ownFrom_below (Nat.le_refl _) (by omega))) (ownFrom_below (Nat.le_refl _) (Nat.le_refl _)))
  (fun c=>OwnFrom.and (OwnFrom.and (ownFrom_pure _ _) (Own.from (boxed_own _ _ _) _)) (ownFrom_below (Nat.le_refl _) (by omega)))
  ⟨⟨⟨rfl,bR⟩,z⟩,Below.refl _ _⟩
  (fun x a' W=>∃ q,w.heap.size<q∧Blk W q #[.int .i64 x.2.op,.slice x.2.bo x.2.bn x.2.bc,.slice x.2.fo x.2.fn x.2.fc,.bool x.2.mid] 232∧a'={ tmps:=#[ZQ.p K,undef,.pointer (some ⟨w.heap.size,0,none⟩),undef,ZQ.p q,ZQ.p K,ZQ.p K,.pointer (some ⟨K,6,none⟩),.slice ao o.length cap,.func (.func 322) #[] #[.pointer (some ⟨w.heap.size+1,0,none⟩)],.int .i64 x.1,.agg #[.int .i64 x.2.op,.slice x.2.bo x.2.bn x.2.bc,.slice x.2.fo x.2.fn x.2.fc,.bool x.2.mid],undef,undef,undef,undef,undef,undef,undef,undef,undef,undef,undef],defers:=[] })
  (fun x a' _ X Y aC hs hg hr=>by obtain ⟨q,e1,e2,e3⟩:=hs;exact ⟨q,e1,Blk.grownX e2 hg (fun r e=>(hr r e).2),e3⟩)
  ?assign ?body ?done ?stop
 case assign=>
  rintro l g x W K ⟨⟨⟨G,d⟩,f⟩,j⟩ u
  gi_wp2
  exact u _ _ ((KeepsOthers.alloc _ _).from _) ((Below.refl _ W).alloc j.size _) ⟨⟨⟨G,d.alloc _⟩,f.alloc f.size _⟩,j.alloc j.size _⟩ ⟨W.heap.size,d.lt,Blk.new W _ _,rfl⟩
 case body=>
  rintro l g x a' W hl ⟨r,hr⟩ ⟨⟨⟨G,d⟩,f⟩,j⟩ ⟨q,av,N,rfl⟩ az;have x0:W.cell? ⟨q,0,none⟩=some (.int .i64 x.2.op):=N.cell 0 rfl;have x1:W.cell? ⟨q,1,none⟩=some (.slice x.2.bo x.2.bn x.2.bc):=N.cell 1 rfl;have x3:W.cell? ⟨q,3,none⟩=some (.bool x.2.mid):=N.cell 3 rfl;have xl:=N.lt;have cR:=d.cell;have fR:=d.frozen;have rl:=d.lt;generalize hop:x.2.op=op at x0;generalize hmi:x.2.mid=mid at x3;generalize hbn:x.2.bn=bn at x1;have HP:=Zh G;have J:=Zh hop;have I:=Zh hmi;have aa:=Zh hbn;have HR:=Zh d;have HB1:=Zh f;have HB2:=Zh j;clear G hop hmi hbn d f j hr N;by_cases ho:op=33
  ·subst ho;rcases mid with _|_
   ·have y:(g++[x]).find? Ze7=some x:=by rw [List.find?_append,HP.out];simp [Ze7,J.out,I.out]
    have HF:=Zh y;clear y
    gi_wp2
    have Z:Ze8 (g++[x])=(bn:Int):=by unfold Ze8;rw [HF.out];exact congrArg _ aa.out
    exact ⟨(KeepsOthers.setCell _ _ _).from _,⟨⟨rfl,by rw [HF.out];rfl⟩,by rw [Z];exact HR.out.set _⟩,HB1.out.setCell (p:=⟨w.heap.size,0,none⟩) (Nat.le_refl _) _⟩
   ·have y:(g++[x]).find? Ze7=none:=by rw [List.find?_append,HP.out];simp [Ze7,I.out]
    have HF:=Zh y;clear y;exact k96
  ·have y:(g++[x]).find? Ze7=none:=by rw [List.find?_append,HP.out];simp [Ze7,J.out,ho]
   have HF:=Zh y;have aj:(op == 33)=false:=by simpa using ho
   clear y ho;exact k96
 case done=>
  rintro D xs W hD rfl ⟨⟨⟨G,d⟩,f⟩,j⟩ u;have ae:(Ze6 o:Int)=0:=by rw [Zfa];unfold Ze8;rw [G]
  have cR:=d.cell;have fR:=d.frozen;have rl:=d.lt;have HR:=Zh d;have HB1:=Zh f;have HB2:=Zh j;clear G d f j
  gi_wp2
  have d:=HR.out;have f:=HB1.out;have A:=(KeepsOthers.setCell W ⟨w.heap.size,0,none⟩ (.int .i64 0)).same D _ u rfl;refine ⟨by simp,.inl ⟨_,_,rfl,run_takeDeferred A,?_⟩⟩;have E:=cell_kept (d.set (.int .i64 0)).cell (grownBy_putObj' _ D (.deferred none)) (fun r e=>by cases e;exact ⟨_,A,rfl⟩);refine ⟨.int .i64 0,?_,by rw [ae],(f.setCell (p:=⟨w.heap.size,0,none⟩) (Nat.le_refl _) _).trans (belowK_b (w:=w) (Nat.le_refl _) _ D _ _ (by omega) A rfl rfl)⟩;simp [results,Tryz.f255,go_sem,E]
 case stop=>
  rintro D c g W hD ⟨k,hk,rfl⟩ ⟨⟨⟨rfl,T⟩,d⟩,f⟩ u;have Z:(Ze6 o:Int)=Ze8 (Zeo o k):=Zfc hk T;rw [←Z] at d;clear Z T hk C bR
  gi_wp2
  refine ⟨by simp,.inl ⟨_,_,rfl,run_takeDeferred u,?_⟩⟩;have E:=cell_kept d.cell (grownBy_putObj' _ D (.deferred none)) (fun r e=>by cases e;exact ⟨_,u,rfl⟩);refine ⟨.int .i64 (Ze6 o),?_,rfl,f.trans (belowK_b (w:=w) (Nat.le_refl _) W D _ _ (by omega) u rfl rfl)⟩;simp [results,Tryz.f255,go_sem,E]
theorem Zfe (K:Nat) (ao:Option Addr) (cap:Nat) (c:List VB) (w:World) (j:w.cell? ⟨K,6,none⟩=some (.slice ao c.length cap)) (f:Zas w ao cap c) (d:c.length≤1000000) :
  Calls Tryz.prog 255 #[ZQ.p K] w fun e g=>e=.returned (.int .i64 (Ze6 c))∧Below w.heap.size w g:=
 callsIn_wide.1 (Zfd Fence.wide 6 trivial trivial trivial rfl (Nat.le_refl _) K ao cap c w j f d)
end
section
open Go.RowKit
def Zff (n takes pushes base:Int):Bool:=decide (base≤n-takes)&&decide (n-takes+pushes≤12)
theorem Zfg (K:Nat) (h:Hd) (m:Md) (L:Value) (q:Option Addr) (sn o:Nat) (oo:Option Addr) (g:Nat) (c:List VB) (e takes pushes:Int) (w:World) (H:Ck w K h m L (.slice q sn o) (.slice oo c.length g) e)
  (ho:Zas w oo g c) (f:c.length≤1000000) (A:sn≤1000000) (C:0≤takes∧takes≤1000000000) (z:0≤pushes∧pushes≤1000000000) :
  Calls Tryz.prog 194 #[ZQ.p K,.int .i64 takes,.int .i64 pushes] w fun r w'=>r=.returned (.bool (Zff sn takes pushes (Ze6 c)))∧Ck w' K h m L (.slice q sn o) (.slice oo c.length g) (if Zff sn takes pushes (Ze6 c) then e else ZeT e 12)∧Upd K K w w':=by
 obtain ⟨D,-,-,-,-,-,y,j,-⟩:=H.cells;have d:=Zfe K oo g c w j ho f;generalize hbz:Ze6 c=bz at d ⊢;have HH:=Zh H;have HF:=Zh d;clear H d hbz j;have u:IntKind.i64.wrap ((sn:Int)-takes)=sn-takes:=IntWalk.i64_in _ (by omega);have x:IntKind.i64.wrap ((sn:Int)-takes+pushes)=sn-takes+pushes:=IntWalk.i64_in _ (by omega);by_cases h1:(sn:Int)-takes<bz
 ·exact k37
 ·by_cases h2:12<(sn:Int)-takes+pushes
  ·exact k37
  ·have hq:Zff sn takes pushes bz=true:=by unfold Zff;grind
   rw [hq];clear hq;go_enter Tryz.func194,Tryz.ntmps194
   go_wp2_with (go_at_call 255;refine HF.out.mono ?_;rintro e w1 ⟨rfl,hb⟩)
   go_ret;exact ⟨rfl,HH.out.old hb,Upd.of hb⟩
end
section
open Go.RowKit
attribute [local go_sem] World.cell?_alloc_some
theorem Zfh:El Tryz.prog 23 38 2 16:=El.mk' (z:=.agg #[.int .i64 0,.int .i64 0]) Tryz.underlying23 (by kernel_rfl) (by kernel_rfl) (by decide)
def Zfi {α:Type} [Cells α] (e:TypeId) (W:World) (l:List α):Ending→World→Prop:=fun en w'=>(∃ ao cap,en=.returned (.slice ao l.length cap)∧w'.ownsRow W.heap.size e (Cells.n α) (.slice ao l.length cap) l.length (Zal l))∧Below W.heap.size W w'
theorem Zfj (x:Mth) (y:MHd) (w:World) (hp:Zas w y.po y.pc x.p) (hl:Zas w y.lo y.lc x.l) (hb:x.p.length≤1000∧x.l.length≤1000):Calls Tryz.prog 182 #[.agg #[.string x.n,.int .i64 x.c,.slice y.po x.p.length y.pc,.slice y.lo x.l.length y.lc,.int .i64 x.r.k,.int .i64 x.r.c,.slice y.ko x.k.length y.kc]] w (Zfi 38 w (ZeH x)):=by
 obtain ⟨nm,c,pl,ll,⟨rk,rc⟩,kl⟩:=x;obtain ⟨po,pc,lo,Z,ko,kc⟩:=y;dsimp only at hp hl hb ⊢;have hq:ZeH ⟨nm,c,pl,ll,⟨rk,rc⟩,kl⟩=(if 0≤c then [⟨2,c⟩] else [])++pl++ll:=rfl;generalize ZeH ⟨nm,c,pl,ll,⟨rk,rc⟩,kl⟩=q at hq ⊢;have HP:=Zh hp;have HL:=Zh hl;have HQ:=Zh hq;clear hp hl hq;have hX:=Blk.new w #[.string nm,.int .i64 c,.slice po pl.length pc,.slice lo ll.length Z,.int .i64 rk,.int .i64 rc,.slice ko kl.length kc] 70;have Y:Below w.heap.size w (w.alloc (.cells #[.string nm,.int .i64 c,.slice po pl.length pc,.slice lo ll.length Z,.int .i64 rk,.int .i64 rc,.slice ko kl.length kc] 70)):=by exact bE
 have HX:=Zh hX;have X:=Zh Y;have aA:=Y.size;clear hX Y;by_cases hc:0≤c
 ·have al:c ≥ 0:=hc;have HC:=Zh hc;clear hc;go_enter Tryz.func182,Tryz.ntmps182
  go_wp2_with (at_builtin;refine Zak rfl (.tmp 7) (.tmp 11) 23 rfl (w.heap.size+1) 38 2 16 Zfh _ 0 [] rfl (World.ownsRow_nil _ _ _ _) _ 1 1 [.int .i64 2,.int .i64 c] rfl (ZdN (Blk.new' #[.int .i64 2,.int .i64 c] 38 (by simp)) rfl) (by intro u hu;simp only [List.mem_cons,List.not_mem_nil,or_false] at hu;rcases hu with rfl|rfl<;>rfl) (by omega) (by unfold maxLen;omega) (by simp) ?_;intro oo oc U W hg)
  have C:=Zh W;have G:=Zh (ZcR (bal X.out _) hg (fun j V=>by cases V));have r:=Zh (Blk.grownV (HX.out.alloc _) hg (fun h=>by cases h));have HBxl:=Zh (Nat.le_refl w.heap.size);clear W hg;have x2:U.cell? ⟨w.heap.size,2,none⟩=some (.slice po pl.length pc):=r.out.cell 2 rfl;have x3:U.cell? ⟨w.heap.size,3,none⟩=some (.slice lo ll.length Z):=r.out.cell 3 rfl;refine rO (fun w':World=>w'.cell? ⟨w.heap.size,2,none⟩=some (.slice po pl.length pc)∧w'.cell? ⟨w.heap.size,3,none⟩=some (.slice lo ll.length Z)) (oL [0,1,2,4,5,103,106,7]) ⟨x2,x3⟩ ?_;clear x2 x3
  repeat refine pO ?_
  refine oO fun K J=>?_;refine Zel (.tmp 13) (.tmp 15) 23 rfl (w.heap.size+1) 38 2 16 Zfh _ 1 _ rfl (Zck C.out) _ _ _ _ rfl (SlA.old (w:=U) (Zas.old HP.out G.out) (Below.refl _ _).drew) (Zar pl) (by omega) (by unfold maxLen;omega) (show w.heap.size+1≤U.heap.size from r.out.lt) ?_;intro ak ac w3 f D;have M:=ZcR G.out.drew D (fun j V=>by have:=(C.out.lt j V).1;have:=HBxl.out;omega);have R:=Blk.grownV r.out.drew D (Zco C.out (Nat.lt_succ_self _));have A:=Zh f;have F:=Zh M;have z:=Zh R;clear f D M R;refine J _ _ ⟨⟨z.out.cell 2 rfl,z.out.cell 3 rfl⟩,?_⟩;clear J K;refine oO fun K J=>?_;refine Zel (.tmp 16) (.tmp 18) 23 rfl (w.heap.size+1) 38 2 16 Zfh _ (1+pl.length) _ rfl A.out _ _ _ _ rfl (SlA.old (w:=w) HL.out F.out) (Zar ll) (by omega) (by unfold maxLen;omega) (show w.heap.size+1≤w3.heap.size from z.out.lt) ?_;intro ao4 cap4 w4 g E;have N:=ZcR F.out E (fun j V=>by have:=(A.out.lt j V).1;have:=HBxl.out;omega);have T:=Blk.grownV z.out E (Zco A.out (Nat.lt_succ_self _));have HO4:=Zh g;have HB4:=Zh N;have I:=Zh T;clear g E N T;refine J _ _ ⟨⟨I.out.cell 2 rfl,I.out.cell 3 rfl⟩,?_⟩;clear J K
  repeat refine pO ?_
  refine Zd7 ?_;go_wp2;go_ret;exact k42
 ·have al:¬ c ≥ 0:=hc;have HC:=Zh hc;clear hc;go_enter Tryz.func182,Tryz.ntmps182
  go_wp2_with fail
  generalize w.alloc _=U at HX X ⊢;have C:=Zh (World.ownsRow_nil U (w.heap.size+1) 38 2);have G:=X;have r:=HX;have HBxl:=Zh (Nat.le_refl w.heap.size);have x2:U.cell? ⟨w.heap.size,2,none⟩=some (.slice po pl.length pc):=r.out.cell 2 rfl;have x3:U.cell? ⟨w.heap.size,3,none⟩=some (.slice lo ll.length Z):=r.out.cell 3 rfl;refine rO (fun w':World=>w'.cell? ⟨w.heap.size,2,none⟩=some (.slice po pl.length pc)∧w'.cell? ⟨w.heap.size,3,none⟩=some (.slice lo ll.length Z)) (oL [0,1,2,4,5,103,106,7]) ⟨x2,x3⟩ ?_;clear x2 x3
  repeat refine pO ?_
  refine oO fun K J=>?_;refine Zel (.tmp 13) (.tmp 15) 23 rfl (w.heap.size+1) 38 2 16 Zfh _ 0 _ rfl (Zck C.out) _ _ _ _ rfl (SlA.old (w:=U) (Zas.old HP.out G.out) (Below.refl _ _).drew) (Zar pl) (by omega) (by unfold maxLen;omega) (show w.heap.size+1≤U.heap.size from r.out.lt) ?_;intro ak ac w3 f D;have M:=ZcR G.out.drew D (fun j V=>by have:=(C.out.lt j V).1;have:=HBxl.out;omega);have R:=Blk.grownV r.out.drew D (Zco C.out (Nat.lt_succ_self _));have A:=Zh f;have F:=Zh M;have z:=Zh R;clear f D M R;refine J _ _ ⟨⟨z.out.cell 2 rfl,z.out.cell 3 rfl⟩,?_⟩;clear J K;refine oO fun K J=>?_;refine Zel (.tmp 16) (.tmp 18) 23 rfl (w.heap.size+1) 38 2 16 Zfh _ (0+pl.length) _ rfl A.out _ _ _ _ rfl (SlA.old (w:=w) HL.out F.out) (Zar ll) (by omega) (by unfold maxLen;omega) (show w.heap.size+1≤w3.heap.size from z.out.lt) ?_;intro ao4 cap4 w4 g E;have N:=ZcR F.out E (fun j V=>by have:=(A.out.lt j V).1;have:=HBxl.out;omega);have T:=Blk.grownV z.out E (Zco A.out (Nat.lt_succ_self _));have HO4:=Zh g;have HB4:=Zh N;have I:=Zh T;clear g E N T;refine J _ _ ⟨⟨I.out.cell 2 rfl,I.out.cell 3 rfl⟩,?_⟩;clear J K
  repeat refine pO ?_
  refine Zd7 ?_;go_wp2;go_ret;exact k38
end
section
def Zfk (m:Md) (t:Ty):Prop:=ZaG m.cl.length t 1=true
def Zfl (m:Md) (l:List Ty):Prop:=l.length≤12∧∀ t∈l,Zfk m t
def Zfm (l:List Opn):Nat:=match l.find? fun o=>decide (o.op=33)&&!o.mid with
 | some o=>o.beg.length
 | none=>0
theorem Zfn (l:List Opn):Zex l=Zfm l.reverse:=rfl
theorem Zfo (o:Opn) (r:List Opn):Zfm (o :: r)=if o.op=33∧o.mid=false then o.beg.length else Zfm r:=by
 unfold Zfm;rw [List.find?_cons];by_cases h:o.op=33
 ·cases hm:o.mid<;>simp [h]
 ·simp [h]
def okR (m:Md):List Opn→Prop
 | []=>True
 | o :: r=>Zfl m o.beg∧Zfl m o.past∧Zfm r≤o.beg.length∧(o.mid=true→Zfm r≤o.past.length)∧okR m r
def brR (l:List Opn):List Br:=l.map fun o=>⟨o.op,o.mid⟩
structure Wf (m:Md) (s:Ps) (code:List In3):Prop where
 stk:Zfl m s.stk
 base:Zex s.opn≤s.stk.length
 opn:okR m s.opn.reverse
 nest:∃ D t,ZaU (brR s.opn.reverse,D) code=some t∧t.1=[]∧t.2≤6∧s.opn.length≤D
theorem Zfp (m:Md):Zfl m []:=⟨by simp,by simp⟩
theorem Zfq {m:Md}{l:List In3} (h:ZaV l=true):Wf m ⟨[],[]⟩ l:=by
 refine ⟨Zfp m,by simp [Zex],trivial,?_⟩;unfold ZaV at h;split at h
 ·cases h
 ·rename_i f d c;simp only [Bool.and_eq_true,List.isEmpty_iff,decide_eq_true_eq] at h;exact ⟨0,(f,d),c,h.1,h.2,Nat.le_refl _⟩
theorem Zfr:∀ (l:List In3) (s t:List Br × Nat),ZaU s l=some t→s.2≤t.2
 | [],s,t,h=>by cases h;exact Nat.le_refl _
 | i :: l,s,t,h=>by
  unfold ZaU at h;split at h
  ·cases h
  ·rename_i u c;have d:=Zfr l u t h;have f:s.2≤u.2:=by
    unfold ZaT at c;obtain ⟨S,D⟩:=s;split at c
    ·cases c;dsimp only;omega
    ·split at c
     ·cases S with
      | nil=>cases c
      | cons b r=>dsimp only at c;split at c<;>cases c;exact Nat.le_refl _
     ·split at c
      ·cases S with
       | nil=>cases c
       | cons b r=>dsimp only at c;split at c<;>cases c;exact Nat.le_refl _
      ·cases c;exact Nat.le_refl _
   omega
theorem Wf.depth {m:Md}{s:Ps}{l:List In3} (h:Wf m s l):s.opn.length≤6:=by obtain ⟨D,t,c,_,d,f⟩:=h.nest;have:=Zfr _ _ _ c;dsimp only at this;omega
theorem Wf.done {m:Md}{s:Ps} (h:Wf m s []):s.opn=[]:=by obtain ⟨D,t,c,d,_,_⟩:=h.nest;cases c;simpa [brR] using d
theorem Wf.nest1 {m:Md}{s:Ps}{i:In3}{l:List In3} (h:Wf m s (i :: l)):∃ D u t,ZaT (brR s.opn.reverse,D) i=some u∧ZaU u l=some t∧t.1=[]∧t.2≤6∧s.opn.length≤D:=by
 obtain ⟨D,t,c,d,f,g⟩:=h.nest;unfold ZaU at c;split at c
 ·cases c
 ·rename_i u j;exact ⟨D,u,t,j,c,d,f,g⟩
theorem Zfs {α:Type}{l:List α}{x:α}{r:List α} (h:l.reverse=x :: r):l=r.reverse++[x]:=by have:=congrArg List.reverse h;simpa using this
theorem Wf.else_ {m:Md}{s:Ps}{i:In3}{l:List In3} (h:Wf m s (i :: l)) (hi:i.op=34):∃ r o,s.opn=r++[o]∧(o.op=29∨o.op=33)∧o.mid=false:=by
 obtain ⟨D,u,t,c,_⟩:=h.nest1;unfold ZaT at c;rw [show ZaS i.op=false from Zbg (.inl hi),if_neg (by decide),if_pos hi] at c;cases hr:s.opn.reverse with
 | nil=>rw [hr] at c;cases c
 | cons o r=>
  rw [hr] at c;simp only [brR,List.map_cons] at c;split at c
  ·rename_i d;exact ⟨r.reverse,o,Zfs hr,d.1,d.2⟩
  ·cases c
theorem Wf.end_ {m:Md}{s:Ps}{i:In3}{l:List In3} (h:Wf m s (i :: l)) (hi:i.op=35):∃ r o,s.opn=r++[o]∧¬ (o.op=33∧o.mid=false):=by
 obtain ⟨D,u,t,c,_⟩:=h.nest1;unfold ZaT at c;rw [show ZaS i.op=false from Zbg (.inr hi),if_neg (by decide),if_neg (by omega),if_pos hi] at c;cases hr:s.opn.reverse with
 | nil=>rw [hr] at c;cases c
 | cons o r=>
  rw [hr] at c;simp only [brR,List.map_cons] at c;split at c
  ·cases c
  ·rename_i d;exact ⟨r.reverse,o,Zfs hr,d⟩
section
variable {m:Md}{lo:List Ty}{i:In3}{s:Ps}
include m lo i s
theorem Zft (d:i.op≠34) (f:i.op≠35) (c:(ZeE m lo i s).1=0):
  ∃ t,ZeD m lo i (s.stk.drop (s.stk.length-(Zez m i).1))=some t∧(Zez m i).1+Zex s.opn≤s.stk.length∧s.stk.length-(Zez m i).1+(Zez m i).2≤12 ∧
   (ZeE m lo i s).2=⟨s.stk.take (s.stk.length-(Zez m i).1)++List.replicate (Zez m i).2 t,if ZaS i.op then s.opn++[⟨i.op,s.stk.take (s.stk.length-(Zez m i).1)++List.replicate (Zez m i).2 t,[],false⟩] else s.opn⟩:=by
 unfold ZeE at c ⊢;rw [if_neg d,if_neg f] at c ⊢;dsimp only at c ⊢;split at c
 ·cases c
 ·rename_i g;split at c
  ·cases c
  ·rename_i t j;refine ⟨t,j,by omega,by omega,?_⟩;rw [if_neg g]
theorem Zfu {l:List In3} (h:Wf m s (i :: l)) (j:i.op≠34) (o:i.op≠35) (A:(ZeE m lo i s).1=0) (F:∀ t,ZeD m lo i (s.stk.drop (s.stk.length-(Zez m i).1))=some t→(Zez m i).2=0∨Zfk m t):Wf m (ZeE m lo i s).2 l:=by
 obtain ⟨t,I,z,g,G⟩:=Zft j o A;rw [G];obtain ⟨⟨C,p⟩,y,ho,E⟩:=h;have c:(s.stk.take (s.stk.length-(Zez m i).1)++List.replicate (Zez m i).2 t).length=s.stk.length-(Zez m i).1+(Zez m i).2:=by simp
 have hk:Zfl m (s.stk.take (s.stk.length-(Zez m i).1)++List.replicate (Zez m i).2 t):=by
  refine ⟨by rw [c];exact g,fun u d=>?_⟩;rcases List.mem_append.1 d with d|d
  ·exact p u (List.mem_of_mem_take d)
  ·rcases F t I with h0|h0
   ·rw [h0] at d;cases d
   ·rw [(List.mem_replicate.1 d).2];exact h0
 generalize s.stk.take (s.stk.length-(Zez m i).1)++List.replicate (Zez m i).2 t=k at c hk ⊢;obtain ⟨D,u,x,f,q,r,v,J⟩:=Wf.nest1 (m:=m) (s:=s) (i:=i) (l:=l) ⟨⟨C,p⟩,y,ho,E⟩;unfold ZaT at f;cases hop:ZaS i.op with
 | true=>
  rw [hop,if_pos rfl] at f;cases f;simp only [if_true];refine ⟨hk,?_,?_,?_⟩
  ·dsimp only;rw [Zfn,List.reverse_append,List.reverse_singleton,List.singleton_append,Zfo];split
   ·exact Nat.le_refl _
   ·rw [←Zfn];omega
  ·dsimp only;rw [List.reverse_append,List.reverse_singleton,List.singleton_append];exact ⟨hk,Zfp m,by dsimp only;rw [←Zfn];omega,(fun h=>by cases h),ho⟩
  ·refine ⟨max D ((brR s.opn.reverse).length+1),x,?_,r,v,?_⟩
   ·dsimp only;rw [List.reverse_append,List.reverse_singleton,List.singleton_append];exact q
   ·dsimp only;simp [brR];omega
 | false=>
  rw [hop,if_neg (by decide),if_neg j,if_neg o] at f;cases f;simp only [Bool.false_eq_true,if_false];exact ⟨hk,by dsimp only;omega,ho,D,x,q,r,v,J⟩
theorem Zfv {l:List In3} (h:Wf m s (i :: l)) (f:i.op=34):(ZeE m lo i s).1=0∧Wf m (ZeE m lo i s).2 l:=by
 obtain ⟨r,o,j,x,y⟩:=h.else_ f;obtain ⟨D,u,t,c,z,A,C,p⟩:=h.nest1;obtain ⟨d,F⟩:=s;dsimp only at j;subst j;obtain ⟨hk,g,ho,-⟩:=h;have e:ZeE m lo i ⟨d,r++[o]⟩=(0,⟨o.beg,r++[{ o with past:=d,mid:=true }]⟩):=by unfold ZeE;rw [if_pos f];simp
 rw [e];dsimp only at hk g ho c p ⊢;rw [List.reverse_append,List.reverse_singleton,List.singleton_append] at ho c;obtain ⟨q,G,v,I,E⟩:=ho;rw [Zfn,List.reverse_append,List.reverse_singleton,List.singleton_append,Zfo] at g;unfold ZaT at c;rw [show ZaS i.op=false from Zbg (.inl f),if_neg (by decide),if_pos f] at c;simp only [brR,List.map_cons] at c;rw [if_pos ⟨x,y⟩] at c;cases c;refine ⟨rfl,q,?_,?_,D,t,?_,A,C,by simpa using p⟩
 ·dsimp only;rw [Zfn,List.reverse_append,List.reverse_singleton,List.singleton_append,Zfo,if_neg (by simp)];exact v
 ·dsimp only;rw [List.reverse_append,List.reverse_singleton,List.singleton_append];refine ⟨q,hk,v,fun _=>?_,E⟩;dsimp only;split at g<;>omega
 ·dsimp only;rw [List.reverse_append,List.reverse_singleton,List.singleton_append];exact z
theorem Zfw {l:List In3} (h:Wf m s (i :: l)) (g:i.op=35) (c:(ZeE m lo i s).1=0):Wf m (ZeE m lo i s).2 l:=by
 obtain ⟨r,o,j,v⟩:=h.end_ g;obtain ⟨D,u,t,f,y,z,A,p⟩:=h.nest1;obtain ⟨J,G⟩:=s;dsimp only at j;subst j;obtain ⟨hk,x,ho,-⟩:=h;dsimp only at hk x ho f p;rw [List.reverse_append,List.reverse_singleton,List.singleton_append] at ho f;obtain ⟨M,N,C,E,F⟩:=ho;unfold ZaT at f;rw [show ZaS i.op=false from Zbg (.inr g),if_neg (by decide),if_neg (by omega),if_pos g] at f;simp only [brR,List.map_cons] at f;rw [if_neg v] at f;cases f;unfold ZeE at c ⊢;rw [if_neg (by omega),if_pos g] at c ⊢;simp only [List.getLastD_concat,List.dropLast_concat] at c ⊢;have d:Zfm r.reverse≤(if o.mid=true then o.past else o.beg).length:=by
  cases hmid:o.mid
  ·rw [if_neg (by decide)];exact C
  ·rw [if_pos rfl];exact E hmid
 generalize (if o.mid=true then o.past else o.beg)=want at c d ⊢;split at c
 ·cases c
 ·rename_i I;split at c
  ·rename_i q;rw [if_neg I,if_pos q];refine ⟨hk,?_,F,D,t,y,z,A,by simp at p;simp;omega⟩;dsimp only;rw [Zfn,q];exact d
  ·cases c
end
def Zfx (acc:List (List Ty)) (q:List (List Ty) × Nat × Int):List (List Ty) × Nat × Int:=if q.2.2=0 then (acc++q.1,0,0) else ([],q.2)
theorem Zfy {m:Md}{lo:List Ty}{r:Ty}:∀ (l:List In3) (n:Nat) (s:Ps),(ZeG m lo r n l s).2.2=0→(ZeG m lo r n l s).2.1=0
 | [],n,s,h=>by
  unfold ZeG at h ⊢;split at h
  ·rename_i q;rw [if_pos q]
  ·rename_i q;exact absurd h q
 | i :: l,n,s,h=>by
  unfold ZeG at h ⊢;split at h
  ·rename_i q;rw [if_pos q];dsimp only at h ⊢;split at h
   ·rename_i c;rw [if_pos c]
   ·rename_i c;exact absurd h c
  ·rename_i q;exact absurd h q
theorem Zfz {m:Md}{lo:List Ty}{r:Ty}{n:Nat}{i:In3}{l:List In3}{s:Ps} (h:(ZeE m lo i s).1=0):ZeG m lo r n (i :: l) s=Zfx [s.stk] (ZeG m lo r (n+1) l (ZeE m lo i s).2):=by
 conv=>lhs;unfold ZeG
 rw [if_pos h];rfl
theorem ZfA {m:Md}{lo:List Ty}{r:Ty}{n:Nat}{i:In3}{l:List In3}{s:Ps} (h:(ZeE m lo i s).1≠0):ZeG m lo r n (i :: l) s=([],n,(ZeE m lo i s).1):=by
 conv=>lhs;unfold ZeG
 rw [if_neg h]
theorem ZfB (a b:List (List Ty)) (q:List (List Ty) × Nat × Int):Zfx a (Zfx b q)=Zfx (a++b) q:=by
 unfold Zfx;split
 ·simp
 ·simp
theorem ZfC (q:List (List Ty) × Nat × Int) (h:q.2.2=0→q.2.1=0) (d:q.2.2≠0→q.1=[]):Zfx [] q=q:=by
 obtain ⟨a,b,c⟩:=q;unfold Zfx;by_cases hc:c=0
 ·have:=h hc;dsimp only at this;subst this hc;simp
 ·have:=d hc;dsimp only at this;subst this;simp [hc]
theorem ZfD {m:Md}{lo:List Ty}{r:Ty}:∀ (l:List In3) (n:Nat) (s:Ps),(ZeG m lo r n l s).2.2≠0→(ZeG m lo r n l s).1=[]
 | [],n,s,h=>by
  unfold ZeG at h ⊢;split at h
  ·exact absurd rfl h
  ·rename_i q;rw [if_neg q]
 | i :: l,n,s,h=>by
  unfold ZeG at h ⊢;split at h
  ·rename_i q;rw [if_pos q];dsimp only at h ⊢;split at h
   ·exact absurd rfl h
   ·rename_i c;rw [if_neg c]
  ·rename_i q;rw [if_neg q]
theorem ZfE (m:Md) (lo:List Ty) (r:Ty) (l:List In3) (s:Ps):ZeG m lo r 0 l s=Zfx [] (ZeG m lo r 0 l s):=(ZfC _ (Zfy _ _ _) (ZfD _ _ _)).symm
end
section
theorem ZfF (m:Md):Zfk m Zew:=by unfold Zfk ZaG Zew;simp
theorem ZfG {m:Md}{k c:Int} (hk:k=2∨k=4) (d:0≤c) (f:c<m.cl.length):Zfk m ⟨k,c⟩:=by unfold Zfk ZaG;simp [hk,d,f]
theorem ZfH {m:Md}{t:Ty} (h:Zfk m t) (hk:t.k=2∨t.k=4):0≤t.c∧t.c<m.cl.length:=by unfold Zfk ZaG at h;rw [if_pos hk] at h;simpa using h
theorem ZfI {m:Md}{t:Ty} (h:ZaG m.cl.length t 0=true) (hk:t.k≠0):Zfk m t:=by
 unfold Zfk;unfold ZaG at h ⊢;split at h
 ·rename_i q;rw [if_pos q];exact h
 ·rename_i q;rw [if_neg q];split at h
  ·rename_i c;rw [if_pos c];simp only [Bool.and_eq_true,decide_eq_true_eq] at h ⊢;omega
  ·cases h
theorem ZfJ {m:Md}{t:Ty} (h:Zfk m t):t.k=1∨t.k=2∨t.k=3∨t.k=4:=by
 unfold Zfk ZaG at h;split at h
 ·omega
 ·split at h
  ·simp only [Bool.and_eq_true,decide_eq_true_eq] at h;omega
  ·cases h
section
variable {m:Md}(h:Za2 m=true)
include m h
theorem ZfK:∀ k,k<m.cl.length→ZaL m k=true:=by simp only [Za2,Bool.and_eq_true,ZaF] at h;exact h.1.1.2
theorem ZfL:∀ k,k<m.me.length→ZaY m k=true:=by simp only [Za2,Bool.and_eq_true,ZaF] at h;exact h.1.2
theorem ZfM:Za0 m=true:=by simp only [Za2,Bool.and_eq_true] at h;exact h.1.1.1.1
theorem ZfN {c:Int} (f:0≤c) (g:c<m.cl.length):∀ t∈(m.cl.getD c.toNat default).f,Zfk m t:=by have d:=ZfK h c.toNat (by omega);simp only [ZaL,Bool.and_eq_true,ZaH,List.all_eq_true] at d;exact d.1.1.1.2
theorem ZfO:∀ t∈m.st,Zfk m t:=by have c:=ZfM h;simp only [Za0,Bool.and_eq_true,ZaH,List.all_eq_true] at c;exact c.2
end
structure ZfP (m:Md) (k:Nat):Prop where
 p:∀ t∈(m.me.getD k default).p,Zfk m t
 l:∀ t∈(m.me.getD k default).l,Zfk m t
 r:ZaG m.cl.length (m.me.getD k default).r 0=true
 i:∀ i∈(m.me.getD k default).k,ZaR false i=true∧ZaX m k i=true
 n:ZaV (m.me.getD k default).k=true
 c:-1≤(m.me.getD k default).c∧(m.me.getD k default).c<m.cl.length
 z:(m.me.getD k default).p.length≤4∧(m.me.getD k default).l.length≤10∧(m.me.getD k default).k.length≤120
section
variable {m:Md}(h:Za2 m=true){k:Nat}(hk:k<m.me.length)
include m h k hk
theorem ZfQ:ZfP m k:=by
 have hm:=ZfL h k hk;simp only [ZaY,Bool.and_eq_true,ZaH,List.all_eq_true,decide_eq_true_eq] at hm;obtain ⟨⟨⟨⟨⟨⟨⟨⟨g,j⟩,o⟩,p⟩,q⟩,r⟩,u⟩,c⟩,v⟩:=hm;have d:¬ 120<(m.me.getD k default).k.length∧(m.me.getD k default).k.all (ZaR false)=true∧ZaV (m.me.getD k default).k=true:=by
  unfold ZaW at c;split at c
  ·cases c
  ·rename_i x;split at c
   ·rename_i y;split at c
    ·rename_i z;exact ⟨x,y,z⟩
    ·cases c
   ·cases c
 refine ⟨p,r,u,fun i f=>⟨List.all_eq_true.1 d.2.1 i f,v i f⟩,d.2.2,⟨g,j⟩,o,?_,by omega⟩;split at q<;>omega
theorem ZfR:∀ t∈ZeH (m.me.getD k default),Zfk m t:=by
 have hm:=ZfQ h hk;intro t c;simp only [ZeH,List.mem_append] at c;rcases c with (c|c)|c
 ·split at c
  ·rename_i q;rw [List.mem_singleton.1 c];exact ZfG (.inl rfl) q hm.c.2
  ·cases c
 ·exact hm.p t c
 ·exact hm.l t c
theorem ZfS:(ZeH (m.me.getD k default)).length≤15:=by
 have hm:=(ZfQ h hk).z;generalize m.me.getD k default=x at hm ⊢;simp only [ZeH,List.length_append];split<;>simp only [List.length_cons,List.length_nil]<;>omega
end
theorem ZfT {i:In3}{p:Bool} (h:ZaR p i=true):0≤i.op∧i.op<36:=by simp only [ZaR,Bool.and_eq_true,decide_eq_true_eq] at h;exact h.1.1.1
structure ZfU (m:Md) (k:Nat) (i:In3):Prop where
 a0:i.op≠1→0≤i.a
 b0:0≤i.b
 o2:i.op=2∨i.op=3→i.a≤9
 o12:i.op=12→(i.a=2∨i.a=3∨i.a=4)∧(i.a=3→i.b=0)∧(i.a≠3→i.b<m.cl.length)
 o14:i.op=14∨i.op=24→i.a<m.cl.length
 o16:i.op=16→i.b<m.cl.length
 o22:i.op=22∨i.op=23→i.a<m.st.length
 o25:i.op=25→i.a<k∧m.own i.a<0
 o26:i.op=26→i.a<m.sel∧∀ t∈ZaO m i.a,t<k
theorem ZfV {m:Md}{k:Nat}{i:In3} (h:ZaR false i=true) (j:ZaX m k i=true):ZfU m k i:=by
 obtain ⟨x,a,b⟩:=i;have p:=ZfT h;dsimp only at p;simp only [ZaR,Bool.and_eq_true,decide_eq_true_eq,Bool.not_eq_true',Bool.and_eq_false_iff,decide_eq_false_iff_not] at h;obtain ⟨⟨⟨⟨_,_⟩,f⟩,o⟩,u⟩:=h;obtain ⟨n,rfl⟩:∃ n:Nat,x=n:=⟨x.toNat,by omega⟩;have v:n<36:=by omega
 rw [Int.toNat_natCast] at f o;have y:n≠1→0≤a:=by
  intro r;have g:opA.getD n 0≠1:=by
   have:∀ n:Fin 36,n.val≠1→opA.getD n.val 0≠1:=by decide
   exact this ⟨n,v⟩ r
  unfold inR at f;simp only [Bool.false_and,Bool.false_eq_true,if_false] at f;rw [if_neg g] at f;split at f<;>(try split at f)<;>simp only [inI,Bool.and_eq_true,decide_eq_true_eq] at f<;>omega
 have z:0≤b:=by
  have g:opB.getD n 0=0∨opB.getD n 0=2∨opB.getD n 0=4:=by
   have:∀ n:Fin 36,opB.getD n.val 0=0∨opB.getD n.val 0=2∨opB.getD n.val 0=4:=by decide
   exact this ⟨n,v⟩
  unfold inR at o;simp only [Bool.false_and,Bool.false_eq_true,if_false] at o;rw [if_neg (by omega),if_neg (by omega),if_neg (by omega)] at o;simp only [inI,Bool.and_eq_true,decide_eq_true_eq] at o;exact o.1
 refine ⟨fun r=>y (by dsimp only at r;omega),z,?_,?_,?_,?_,?_,?_,?_⟩<;>dsimp only<;>intro d
 ·have:opA.getD n 0=2:=by rcases d with d|d<;>((obtain rfl:n=_:=(by exact_mod_cast d));rfl)
  rw [this] at f;have g:inI a 0 9=true:=f;simp only [inI,Bool.and_eq_true,decide_eq_true_eq] at g;exact g.2
 ·obtain rfl:n=12:=by omega
  have g:inI a 2 4=true:=f;simp only [inI,Bool.and_eq_true,decide_eq_true_eq] at g;have c:(decide (a=3)||(decide (0≤b)&&decide (b<m.cl.length)))=true:=j;simp only [Bool.or_eq_true,Bool.and_eq_true,decide_eq_true_eq] at c;refine ⟨by omega,fun p=>?_,fun p=>by omega⟩;by_cases hb0:b=0
  ·exact hb0
  ·rcases u with (q|q)|q
   ·exact absurd rfl q
   ·exact absurd p q
   ·simp at q;exact q
 ·have c:(decide (0≤a)&&decide (a<m.cl.length))=true:=by
   rcases d with d|d<;>((obtain rfl:n=_:=(by exact_mod_cast d));exact j)
  simp only [Bool.and_eq_true,decide_eq_true_eq] at c;exact c.2
 ·obtain rfl:n=16:=by omega
  have c:(decide (0≤b)&&decide (b<m.cl.length))=true:=j;simp only [Bool.and_eq_true,decide_eq_true_eq] at c;exact c.2
 ·have c:decide (a<m.st.length)=true:=by
   rcases d with d|d<;>((obtain rfl:n=_:=(by exact_mod_cast d));exact j)
  simpa using c
 ·obtain rfl:n=25:=by omega
  have c:(decide (a<k)&&decide (m.own a<0))=true:=j;simpa using c
 ·obtain rfl:n=26:=by omega
  have c:(decide (a<m.sel)&&(ZaO m a).all fun t=>decide (t<k))=true:=j;simpa using c
theorem ZfW {m:Md}{s t:Int} (h:t∈ZaO m s):0≤t:=by unfold ZaO at h;rw [Zdy] at h;simpa using (List.mem_filter.1 h).2
theorem ZfX {α:Type} (d:α) {l:List α}{n:Nat} (h:n<l.length):l.getD n d∈l:=by rw [show l.getD n d=l[n] by simp [h]];exact List.getElem_mem h
theorem ZfY {m:Md}{k:Nat}{i:In3} (h:ZfU m k i) (c:i.op=25∨i.op=26) {x:Mth} (d:Zey m i=some x):∃ j,j<k∧x=m.me.getD j default∧(i.op=25→j=i.a.toNat)∧(i.op=26→(j:Int)∈ZaO m i.a∧∃ r,ZaO m i.a=(j:Int) :: r):=by
 unfold Zey at d;rcases c with c|c
 ·rw [if_pos c] at d;cases d;have g:=h.a0 (by omega);have o:=(h.o25 c).1;exact ⟨i.a.toNat,by omega,rfl,fun _=>rfl,fun q=>by omega⟩
 ·rw [if_neg (by omega)] at d;split at d
  ·cases d
  ·rename_i t r f;cases d;have hm:t∈ZaO m i.a:=by rw [f];exact List.mem_cons_self
   have g:=(h.o26 c).2 t hm;have o:=ZfW hm;refine ⟨t.toNat,by omega,rfl,fun q=>by omega,fun _=>?_⟩;rw [show ((t.toNat:Nat):Int)=t by omega];exact ⟨hm,r,f⟩
section
variable {m:Md}{lo:List Ty}{i:In3}{l:List Ty}
theorem pv1 (h:i.op=1):ZeD m lo i l=some Zew:=by exact k14
theorem pv2 (h:i.op=2):ZeD m lo i l=lo[i.a.toNat]?:=by exact k14
theorem pv3 (h:i.op=3):ZeD m lo i l=if ZeC m (l.getD 0 default) lo[i.a.toNat]? then some ty0 else none:=by exact k14
theorem pv5 (h:i.op=5):ZeD m lo i l=some (l.getD 0 default):=by exact k14
theorem pv6 (h:i.op=6∨i.op=7∨i.op=8∨i.op=9∨i.op=10∨i.op=11):ZeD m lo i l=if decide (l.getD 0 default=Zew)&&decide (l.getD 1 default=Zew) then some Zew else none:=by
 rcases h with h|h|h|h|h|h<;>(obtain ⟨c,a,b⟩:=i;dsimp only at h;subst h;rfl)
theorem ZfZ (h:i.op=12):ZeD m lo i l=some ⟨i.a,i.b⟩:=by exact k14
theorem Zf0 (h:i.op=13):ZeD m lo i l=if decide (l.getD 0 default≠Zew) then some Zew else none:=by exact k14
theorem Zf1 (h:i.op=14):ZeD m lo i l=some ⟨2,i.a⟩:=by exact k14
theorem Zf2 (h:i.op=15):ZeD m lo i l=some ⟨3,0⟩:=by exact k14
theorem Zf3 (h:i.op=16):ZeD m lo i l=some ⟨4,i.b⟩:=by exact k14
theorem Zf4 (h:i.op=17):ZeD m lo i l=ZeA m (l.getD 0 default) i.a:=by exact k14
theorem Zf5 (h:i.op=18):ZeD m lo i l=if ZeC m (l.getD 1 default) (ZeA m (l.getD 0 default) i.a) then some ty0 else none:=by exact k14
theorem Zf6 (h:i.op=19):ZeD m lo i l=if l.getD 1 default=Zew then ZeB (l.getD 0 default) else none:=by exact k14
theorem Zf7 (h:i.op=20):ZeD m lo i l=if decide (l.getD 1 default=Zew)&&ZeC m (l.getD 2 default) (ZeB (l.getD 0 default)) then some ty0 else none:=by exact k14
theorem Zf8 (h:i.op=21):ZeD m lo i l=if (ZeB (l.getD 0 default)).isSome then some Zew else none:=by exact k14
theorem Zf9 (h:i.op=22):ZeD m lo i l=some (m.st.getD i.a.toNat default):=by exact k14
theorem Zga (h:i.op=23):ZeD m lo i l=if Zev m (l.getD 0 default) (m.st.getD i.a.toNat default) then some ty0 else none:=by exact k14
theorem Zgb (h:i.op=24):ZeD m lo i l=if decide ((l.getD 0 default).k=2)&&(Zev m (l.getD 0 default) ⟨2,i.a⟩||Zev m ⟨2,i.a⟩ (l.getD 0 default)) then some ⟨2,i.a⟩ else none:=by exact k14
theorem Zgc (h:i.op=25):ZeD m lo i l=if ((List.range (m.me.getD i.a.toNat default).p.length).all fun k=>Zev m (l.getD k default) ((m.me.getD i.a.toNat default).p.getD k default)) then some (m.me.getD i.a.toNat default).r else none:=by exact k14
theorem Zgd (h:i.op=26):ZeD m lo i l=match Zey m i with
  | none=>none
  | some x=>if (decide ((l.getD 0 default).k=2)&&decide (0≤m.ent (l.getD 0 default).c i.a.toNat)&&(List.range x.p.length).all fun k=>Zev m (l.getD (k+1) default) (x.p.getD k default)) then some x.r else none:=by
 exact k14
theorem Zge (h:i.op=27∨i.op=29):ZeD m lo i l=if decide (l.getD 0 default=Zew) then some ty0 else none:=by
 rcases h with h|h<;>(obtain ⟨c,a,b⟩:=i;dsimp only at h;subst h;rfl)
theorem Zgf (h:i.op=30):ZeD m lo i l=if decide (l.getD 0 default=Zew)&&decide (lo[i.b.toNat]?=some Zew) then some ty0 else none:=by exact k14
theorem pvx (h:i.op=0∨i.op=4∨i.op=28∨(31≤i.op∧i.op≤35)):ZeD m lo i l=some ty0:=by
 unfold ZeD;dsimp only
 repeat rw [if_neg (by omega)]
theorem Zgg (h:i.op=1∨i.op=2∨i.op=12∨i.op=14∨i.op=15∨i.op=16∨i.op=22):Zez m i=(0,1):=by
 rcases h with h|h|h|h|h|h|h<;>(obtain ⟨c,a,b⟩:=i;dsimp only at h;subst h;rfl)
theorem Zgh (h:i.op=3∨i.op=4∨i.op=23∨i.op=27∨i.op=29∨i.op=30):Zez m i=(1,0):=by
 rcases h with h|h|h|h|h|h<;>(obtain ⟨c,a,b⟩:=i;dsimp only at h;subst h;rfl)
theorem Zgi (h:i.op=5):Zez m i=(1,2):=by exact k14
theorem Zgj (h:i.op=6∨i.op=7∨i.op=8∨i.op=9∨i.op=10∨i.op=11∨i.op=19):Zez m i=(2,1):=by
 rcases h with h|h|h|h|h|h|h<;>(obtain ⟨c,a,b⟩:=i;dsimp only at h;subst h;rfl)
theorem Zgk (h:i.op=13∨i.op=17∨i.op=21∨i.op=24):Zez m i=(1,1):=by
 rcases h with h|h|h|h<;>(obtain ⟨c,a,b⟩:=i;dsimp only at h;subst h;rfl)
theorem Zgl (h:i.op=18):Zez m i=(2,0):=by exact k14
theorem Zgm (h:i.op=20):Zez m i=(3,0):=by exact k14
theorem Zgn (h:i.op=25):Zez m i=((m.me.getD i.a.toNat default).p.length,if (m.me.getD i.a.toNat default).r.k=0 then 0 else 1):=by exact k14
theorem Zgo (h:i.op=26):Zez m i=match Zey m i with
  | none=>(0,0)
  | some x=>(x.p.length+1,if x.r.k=0 then 0 else 1):=by
 exact k14
theorem cvx (h:i.op=0∨i.op=28∨(31≤i.op∧i.op≤35)):Zez m i=(0,0):=by
 unfold Zez
 repeat rw [if_neg (by omega)]
end
theorem Zgp {α:Type}{c:Prop} [Decidable c] {x t:α} (h:(if c then some x else none)=some t):c∧x=t:=by
 split at h
 ·rename_i q;cases h;exact ⟨q,rfl⟩
 ·cases h
section
variable {m:Md}(hm:Za2 m=true){lo:List Ty}(hlo:∀ t∈lo,Zfk m t){k:Nat}(hk:k<m.me.length){i:In3}(ho:0≤i.op∧i.op<36)
include m hm lo hlo k hk i ho
theorem Zgq (h:ZfU m k i) {l:List Ty} (y:∀ t∈l,Zfk m t) (d:l.length=(Zez m i).1) {t:Ty} (c:ZeD m lo i l=some t):
  (Zez m i).2=0∨Zfk m t:=by
 have r:i.op=1∨i.op=2∨i.op=5∨(i.op=6∨i.op=7∨i.op=8∨i.op=9∨i.op=10∨i.op=11)∨i.op=12∨i.op=13∨i.op=14∨i.op=15∨i.op=16∨i.op=17∨i.op=19∨i.op=21∨i.op=22∨i.op=24∨i.op=25∨i.op=26∨(i.op=3∨i.op=4∨i.op=23∨i.op=27∨i.op=29∨i.op=30)∨i.op=18∨i.op=20∨(i.op=0∨i.op=28∨(31≤i.op∧i.op≤35)):=by omega
 rcases r with q|q|q|q|q|q|q|q|q|q|q|q|q|q|q|q|q|q|q|q
 ·rw [pv1 q] at c;cases c;exact .inr (ZfF m)
 ·rw [pv2 q] at c;exact .inr (hlo t (List.mem_of_getElem? c))
 ·rw [pv5 q] at c;cases c;exact .inr (y _ (ZfX _ (by rw [d,Zgi q];decide)))
 ·rw [pv6 q] at c;rw [←(Zgp c).2];exact .inr (ZfF m)
 ·rw [ZfZ q] at c;cases c;obtain ⟨f,C,D⟩:=h.o12 q;have E:=h.b0;rcases f with f|f|f
  ·exact .inr (ZfG (.inl f) E (D (by omega)))
  ·refine .inr ?_;rw [f,C f];unfold Zfk ZaG;simp
  ·exact .inr (ZfG (.inr f) E (D (by omega)))
 ·rw [Zf0 q] at c;rw [←(Zgp c).2];exact .inr (ZfF m)
 ·rw [Zf1 q] at c;cases c;exact .inr (ZfG (.inl rfl) (h.a0 (by omega)) (h.o14 (.inl q)))
 ·rw [Zf2 q] at c;cases c;exact .inr (by unfold Zfk ZaG;simp)
 ·rw [Zf3 q] at c;cases c;exact .inr (ZfG (.inr rfl) h.b0 (h.o16 q))
 ·rw [Zf4 q] at c;unfold ZeA at c;split at c
  ·rename_i A;have u:=y (l.getD 0 default) (ZfX _ (by rw [d,Zgk (by omega)];decide));obtain ⟨o,p⟩:=ZfH u (.inl A);exact .inr (ZfN hm o p t (List.mem_of_getElem? c))
  ·cases c
 ·rw [Zf6 q] at c;split at c
  ·unfold ZeB at c;split at c
   ·cases c;exact .inr (ZfF m)
   ·split at c
    ·rename_i A;have u:=y (l.getD 0 default) (ZfX _ (by rw [d,Zgj (by omega)];decide));obtain ⟨o,p⟩:=ZfH u (.inr A);cases c;exact .inr (ZfG (.inl rfl) o p)
    ·cases c
  ·cases c
 ·rw [Zf8 q] at c;rw [←(Zgp c).2];exact .inr (ZfF m)
 ·rw [Zf9 q] at c;cases c;have f:=h.o22 (.inl q);have C:=h.a0 (by omega);exact .inr (ZfO hm _ (ZfX _ (by omega)))
 ·rw [Zgb q] at c;rw [←(Zgp c).2];exact .inr (ZfG (.inl rfl) (h.a0 (by omega)) (h.o14 (.inr q)))
 ·rw [Zgc q] at c;rw [←(Zgp c).2];have z:Zey m i=some (m.me.getD i.a.toNat default):=by unfold Zey;rw [if_pos q]
  obtain ⟨j,F,v,_⟩:=ZfY h (.inl q) z;have g:=(ZfQ hm (k:=j) (by omega)).r;rw [←v] at g;by_cases h0:(m.me.getD i.a.toNat default).r.k=0
  ·exact .inl (by rw [Zgn q];exact if_pos h0)
  ·exact .inr (ZfI g h0)
 ·rw [Zgd q] at c;rw [Zgo q];split at c
  ·cases c
  ·rename_i x z;rw [←(Zgp c).2];obtain ⟨j,F,v,_⟩:=ZfY h (.inr q) z;have g:=(ZfQ hm (k:=j) (by omega)).r;rw [←v] at g;by_cases h0:x.r.k=0
   ·exact .inl (by simp [h0])
   ·exact .inr (ZfI g h0)
 ·exact .inl (by rw [Zgh q])
 ·exact .inl (by rw [Zgl q])
 ·exact .inl (by rw [Zgm q])
 ·exact .inl (by rw [cvx q])
theorem Zgr (d:ZfU m k i) {s:Ps} {l:List In3} (h:Wf m s (i :: l)) (c:(ZeE m lo i s).1=0):Wf m (ZeE m lo i s).2 l:=by
 by_cases h1:i.op=34
 ·exact (Zfv h h1).2
 ·by_cases h2:i.op=35
  ·exact Zfw h h2 c
  ·refine Zfu h h1 h2 c fun t f=>?_;obtain ⟨_,_,j,_⟩:=Zft h1 h2 c;refine Zgq hm hlo hk ho d (fun u g=>h.stk.2 u (List.mem_of_mem_drop g)) ?_ f;simp;omega
end
end
section
open Go.RowKit
section
variable {P:Program}{ops:Array Oper}{md:Region.Mode}{S:World→Prop}{Q:Exit→Act→World→Prop}{n:Nat}
def Zgs (P:Program) (md:Region.Mode) (ops:Array Oper) (Q:Exit→Act→World→Prop) (S:World→Prop) (n:Nat):Nat→Array Bool→Act→World→Prop
 | 0,listed,a,w=>Region.ready md ops listed=[n]∧wpOp P ops Q n (fun a' w'=>Region.ready md ops (listed.setIfInBounds n true)=[]∧Q .normal a' w') a w
 | f+1,listed,a,w=>Region.ready md ops listed≠[]∧∀ i∈Region.ready md ops listed,wpOp P ops Q i (fun a' w'=>S w'∧Zgs P md ops Q S n f (listed.setIfInBounds i true) a' w') a w
theorem Zgt (f:Nat):∀ (c:Array Bool) (a:Act) (w:World),Zgs P md ops Q S n f c a w→wpAny P md ops Q (f+1) c a w:=by
 induction f with
 | zero=>
  intro c a w h;refine ⟨fun d=>(by rw [h.1] at d;cases d),fun i g=>?_⟩;rw [h.1] at g;obtain rfl:i=n:=by simpa using g
  exact wpOp_mono (fun o w' j=>j) h.2
 | succ f ih=>
  intro c a w h;exact ⟨fun d=>absurd d h.1,fun i g=>wpOp_mono (fun o w' j=>ih _ o w' j.2) (h.2 i g)⟩
theorem Zgu {i:Nat}{G Z:Oper}{v:Value} (W:ops[i]?=some G) (hn:ops[n]?=some Z) (N:∃ e∈Z.after,Region.binds md e=true∧e.on=i) (y:∀ (j:Nat) (o:Oper) cs b,ops[j]?=some o→o.op≠.select cs b)
  (hQ:∀ c a d v w,Q (.panic c) (Act.put a d v) w→Q (.panic c) a w) (f:Nat) :
  ∀ (g:Array Bool) (a:Act) (w:World),
   (∀ j z,ops[j]?=some z→j≠i→g.getD j true=false→(∀ e∈z.after,Region.binds md e=true→e.on≠i)→G.apart ops z=true) →
   i∈Region.ready md ops g→YieldsIf P ops S G v a→S w →
   Zgs P md ops Q S n f (g.setIfInBounds i true) (a.put G.dst v) w→Zgs P md ops Q S n (f+1) g a w:=by
 induction f with
 | zero=>
  intro g a w _ x M C H;refine ⟨fun h=>(by rw [h] at x;cases x),fun j D=>?_⟩;by_cases hji:j=i
  ·subst hji;exact M.wpOp W C ⟨C,H⟩
  ·have I:=ready_mono D hji;rw [H.1] at I;obtain rfl:j=n:=by simpa using I
   obtain ⟨e,T,R,U⟩:=N;obtain ⟨_,z,p,q⟩:=mem_ready.1 D;rw [hn] at p;cases p;have A:=q e T R;rw [U,getD_both (mem_ready.1 x).1] at A;cases A
 | succ f ih=>
  intro g a w r x M C H;refine ⟨fun h=>(by rw [h] at x;cases x),fun j D=>?_⟩;by_cases hji:j=i
  ·subst hji;exact M.wpOp W C ⟨C,H⟩
  have I:=H.2 j (ready_mono D hji);obtain ⟨u,z,p,q⟩:=mem_ready.1 D;have E:∀ e∈z.after,Region.binds md e=true→e.on≠i:=by intro e T N V;have A:=q e T N;rw [V,getD_both (mem_ready.1 x).1] at A;cases A
  have A:=wpOp_putIf p (r j z p hji u E) (fun cs b=>y i G cs b W) (fun cs b=>y j z cs b p) (fun c a w=>hQ c _ _ _ w) M I;refine wpOp_mono (fun a' w' J=>⟨J.2.1,ih (g.setIfInBounds j true) a' w' ?_ (ready_mono x (Ne.symm hji)) J.1 J.2.1 ?_⟩) A
  ·intro k ok hk X F Y;refine r k ok hk X ?_ Y;by_cases hjk:j=k
   ·subst hjk;exact u
   ·rw [getD_set_ne true hjk] at F;exact F
  ·rw [Array.setIfInBounds_comm _ _ hji];exact J.2.2
def Zgv (P:Program) (l:List Oper) (Q:Exit→Act→World→Prop) (S:World→Prop) (n:Nat):Ord→Act→World→Prop
 | .done,a,w=>wpOp P l.toArray Q n (fun a' w'=>Q .normal a' w') a w
 | .plain i t,a,w=>∃ v,YieldsIf P l.toArray S (Zcc l i) v a∧Zgv P l Q S n t (a.put (Zcc l i).dst v) w
 | .one i t,a,w=>wpOp P l.toArray Q i (fun a' w'=>S w'∧Zgv P l Q S n t a' w') a w
 | .two i j t u,a,w=>wpOp P l.toArray Q i (fun a' w'=>S w'∧Zgv P l Q S n t a' w') a w∧wpOp P l.toArray Q j (fun a' w'=>S w'∧Zgv P l Q S n u a' w') a w
def Zgw (md:Region.Mode) (ops:Array Oper) (on:Oper) (n:Nat):Ord→Array Bool→Bool
 | .done,listed=>decide (Region.ready md ops listed=[n])&&decide (Region.ready md ops (listed.setIfInBounds n true)=[])
 | .plain k t,listed=>(Region.ready md ops listed).contains k&&Region.free md ops listed k&&(on.after.any fun e=>Region.binds md e&&decide (e.on=k))&&Zgw md ops on n t (listed.setIfInBounds k true)
 | .one k t,listed=>decide (Region.ready md ops listed=[k])&&Zgw md ops on n t (listed.setIfInBounds k true)
 | .two i j t u,listed=>decide (Region.ready md ops listed=[i,j])&&decide (t.len=u.len)&&Zgw md ops on n t (listed.setIfInBounds i true)&&Zgw md ops on n u (listed.setIfInBounds j true)
theorem Zgx {l:List Oper} (x:∀ c a d v w,Q (.panic c) (Act.put a d v) w→Q (.panic c) a w) (g:Region.noSelect l.toArray=true) (q:n<l.length) :
  ∀ (t:Ord) (f:Array Bool) (a:Act) (w:World),t.inB l.length=true→S w→Zgw md l.toArray (Zcc l n) n t f=true→Zgv P l Q S n t a w→Zgs P md l.toArray Q S n t.len f a w
 | .done,f,a,w,_,_,hB,h=>by
  simp only [Zgw,Bool.and_eq_true,decide_eq_true_eq] at hB;exact ⟨hB.1,wpOp_mono (fun r w' o=>⟨hB.2,o⟩) h⟩
 | .plain k t,f,a,w,hi,hS,hB,h=>by
  simp only [Zgw,Bool.and_eq_true] at hB;simp only [Ord.inB,Bool.and_eq_true,decide_eq_true_eq] at hi;obtain ⟨⟨⟨M,J⟩,y⟩,A⟩:=hB;obtain ⟨v,N,G⟩:=h;have D:l.toArray[k]?=some (Zcc l k):=by simp [Zcc,hi.1]
  have C:l.toArray[n]?=some (Zcc l n):=by simp [Zcc,q]
  have I:∃ e∈(Zcc l n).after,Region.binds md e=true∧e.on=k:=by rw [Array.any_eq_true] at y;obtain ⟨i,F,z⟩:=y;simp only [Bool.and_eq_true,decide_eq_true_eq] at z;exact ⟨_,Array.getElem_mem F,z.1,z.2⟩
  exact Zgu D C I (Region.noSelect_spec g) x t.len f a w (Region.free_spec D J) (by simpa using M) N hS (Zgx x g q t _ _ _ hi.2 hS A G)
 | .one k t,f,a,w,hi,hS,hB,h=>by
  simp only [Zgw,Bool.and_eq_true,decide_eq_true_eq] at hB;simp only [Ord.inB,Bool.and_eq_true,decide_eq_true_eq] at hi;refine ⟨by rw [hB.1];simp,fun i p=>?_⟩;rw [hB.1] at p;obtain rfl:i=k:=by simpa using p
  exact wpOp_mono (fun r w' o=>⟨o.1,Zgx x g q t _ _ _ hi.2 o.1 hB.2 o.2⟩) h
 | .two i j t u,f,a,w,hi,hS,hB,h=>by
  simp only [Zgw,Bool.and_eq_true,decide_eq_true_eq] at hB;simp only [Ord.inB,Bool.and_eq_true,decide_eq_true_eq] at hi;refine ⟨by rw [hB.1.1.1];simp,fun k p=>?_⟩;rw [hB.1.1.1] at p;rcases (show k=i∨k=j by simpa using p) with rfl|rfl
  ·exact wpOp_mono (fun r w' o=>⟨o.1,Zgx x g q t _ _ _ hi.1.2 o.1 hB.1.2 o.2⟩) h.1
  ·have E:(Ord.two i k t u).len=u.len+1:=by rw [←hB.1.1.2];rfl
   show wpOp P l.toArray Q k (fun r w'=>S w'∧Zgs P md l.toArray Q S n t.len (f.setIfInBounds k true) r w') a w;rw [hB.1.1.2];exact wpOp_mono (fun r w' o=>⟨o.1,Zgx x g q u _ _ _ hi.2 o.1 hB.2 o.2⟩) h.2
theorem Zgy {id:Nat}{a:Act}{w:World}{l:List Oper} (S:World→Prop) (n:Nat) (t:Ord) (hm:P.follows .mixedOrders=true)
  (r:(Region.noSelect l.toArray&&decide (t.len+1=l.length)&&decide (n<l.length)&&t.inB l.length&&Zgw .any l.toArray (Zcc l n) n t (Array.replicate l.length false))=true) (u:∀ c a d v w,Q (.panic c) (Act.put a d v) w→Q (.panic c) a w) (x:S w.drew)
  (h:Zgv P l Q S n t a w.drew):(Code.region id l.toArray true).wp P Q a w:=by
 simp only [Bool.and_eq_true,decide_eq_true_eq] at r;obtain ⟨⟨⟨⟨j,f⟩,p⟩,o⟩,g⟩:=r;refine wp_region_any hm ?_;have:=Zgx (P:=P) (Q:=Q) (S:=S) (md:=.any) u j p t _ a w.drew o x g h;have q:=Zgt _ _ _ _ this;rw [f] at q;simpa using q
theorem Zgz {l:List Oper}{k:Nat}{t:Ord}{a:Act}{w:World} (h:wpOp P l.toArray Q k (fun c w'=>S w'∧Zgv P l Q S n t c w') a w):Zgv P l Q S n (.one k t) a w:=h
theorem ZgA {l:List Oper}{a:Act}{w:World} (h:wpOp P l.toArray Q n (fun c w'=>Q .normal c w') a w):Zgv P l Q S n .done a w:=h
end
section
variable {P:Program}{S:World→Prop}{Q:Exit→Act→World→Prop}{n:Nat}
theorem pE {l:List Oper}{k:Nat}{t:Ord}{a a':Act}{w:World}{o:Oper}{v:Value} (h:Zgv P l Q S n t a' w) (ho:Zcc l k=o:=by (simp only [Zcc,List.getD_cons_zero,List.getD_cons_succ];rfl)) (hy:YieldsIf P l.toArray S o v a:=by first|(refine Or.inl ⟨by rfl,?_⟩;intro w hSw;(try dsimp only [Cs] at hSw);go_simp;(try with_reducible rfl);done)|exact Or.inr ⟨by rfl,rfl⟩) (ha:a.put o.dst v=a':=by ((try simp only [Act.put,List.setIfInBounds_toArray,List.set_cons_zero,List.set_cons_succ]);rfl)):Zgv P l Q S n (.plain k t) a w:=by subst ho ha;exact ⟨v,hy,h⟩
theorem oE {l:List Oper}{k:Nat}{t:Ord}{a:Act}{w:World}{o:Oper} (h:∀ Kv:Act→World→Prop,(∀ a w,S w∧Zgv P l Q S n t a w→Kv a w)→o.wp P a w Kv Q) (ho:l.toArray[k]?=some o:=by rfl) (hw:Region.wanted o (yielded l.toArray a.tmps)=true:=by rfl):Zgv P l Q S n (.one k t) a w:=Zgz (Zd4 o ho hw h)
theorem sE {l:List Oper}{a:Act}{w:World}{o:Oper} (h:∀ Kv:Act→World→Prop,(∀ a w,Q .normal a w→Kv a w)→o.wp P a w Kv Q) (ho:l.toArray[n]?=some o:=by rfl) (hw:Region.wanted o (yielded l.toArray a.tmps)=true:=by rfl):Zgv P l Q S n .done a w:=ZgA (Zd4 o ho hw h)
theorem rE {id:Nat}{a:Act}{w:World}{l:List Oper} (S:World→Prop) (n:Nat) (t:Ord) (hS:S w.drew) (h:Zgv P l Q S n t a w.drew) (hm:P.follows .mixedOrders=true:=by kernel_rfl)
  (hB:(Region.noSelect l.toArray&&decide (t.len+1=l.length)&&decide (n<l.length)&&t.inB l.length&&Zgw .any l.toArray (Zcc l n) n t (Array.replicate l.length false))=true:=by kernel_rfl) (hQ:∀ c a d v w,Q (.panic c) (Act.put a d v) w→Q (.panic c) a w:=by intro c a d v w h;cases d<;>exact h):(Code.region id l.toArray true).wp P Q a w:=Zgy S n t hm hB hQ hS h
end
end
section
open Go.RowKit
theorem rVk {p:Prop} (h:p:=by
 as_aux_lemma=>
  generalize hq:ZaR p _=q;have HQ:=Zh hq;clear hq;go_enter Tryz.func245,Tryz.ntmps245
  go_wp2_with (first
   | (go_at_call 293;refine (ZeN _ _).mono ?_;rintro e w' ⟨rfl,rfl⟩;simp only [ZeM])
   | (go_at_call 294;refine (ZeO _ _ _ _).mono ?_;rintro e w' ⟨rfl,rfl⟩)
   | (go_at_call 295;refine (ZeP _ _ (by omega) (by omega) _).mono ?_;rintro e w' ⟨rfl,rfl⟩))
  all_goals
   first
    | go_ret
    | (go_quiet (first|(go_at_call 294;exact Calls.quiet_of_same (ZeK (ZeO _ _ _ _)))|(go_at_call 295;exact Calls.quiet_of_same (ZeK (ZeP _ _ (by omega) (by omega) _))));go_wp2;all_goals go_ret)
  all_goals
   refine ZcP (ZcT ?_) bE;rw [←HQ.out,HI.out];clear HQ HI;unfold inI at *;grind
 ):p:=h
theorem ZgB (i:In3) (p:Bool) (w:World):Calls Tryz.prog 245 #[ZI.i i,.bool p] w (Ret w (.bool (ZaR p i))):=by
 obtain ⟨op,a,b⟩:=i;dsimp only;by_cases h:0≤op∧op<36
 ·rcases (show op=0∨op=1∨op=2∨op=3∨op=4∨op=5∨op=6∨op=7∨op=8∨op=9∨op=10∨op=11∨op=12∨op=13∨op=14∨op=15∨op=16∨op=17∨op=18∨op=19∨op=20∨op=21∨op=22∨op=23∨op=24∨op=25∨op=26∨op=27∨op=28∨op=29∨op=30∨op=31∨op=32∨op=33∨op=34∨op=35 by omega) with rfl|rfl|rfl|rfl|rfl|rfl|rfl|rfl|rfl|rfl|rfl|rfl|rfl|rfl|rfl|rfl|rfl|rfl|rfl|rfl|rfl|rfl|rfl|rfl|rfl|rfl|rfl|rfl|rfl|rfl|rfl|rfl|rfl|rfl|rfl|rfl
  ·have HI:=Zh (show ZaR p ⟨0,a,b⟩=(inI a 0 0&&inI b 0 0&&true) by cases p<;>rfl);exact rVk
  ·have HI:=Zh (show ZaR p ⟨1,a,b⟩=(inI a (-2147483648) 2147483647&&inI b 0 0&&true) by cases p<;>rfl);exact rVk
  ·have HI:=Zh (show ZaR p ⟨2,a,b⟩=(inI a 0 9&&inI b 0 0&&true) by cases p<;>rfl);exact rVk
  ·have HI:=Zh (show ZaR p ⟨3,a,b⟩=(inI a 0 9&&inI b 0 0&&true) by cases p<;>rfl);exact rVk
  ·have HI:=Zh (show ZaR p ⟨4,a,b⟩=(inI a 0 0&&inI b 0 0&&true) by cases p<;>rfl);exact rVk
  ·have HI:=Zh (show ZaR p ⟨5,a,b⟩=(inI a 0 0&&inI b 0 0&&true) by cases p<;>rfl);exact rVk
  ·have HI:=Zh (show ZaR p ⟨6,a,b⟩=(inI a 0 0&&inI b 0 0&&true) by cases p<;>rfl);exact rVk
  ·have HI:=Zh (show ZaR p ⟨7,a,b⟩=(inI a 0 0&&inI b 0 0&&true) by cases p<;>rfl);exact rVk
  ·have HI:=Zh (show ZaR p ⟨8,a,b⟩=(inI a 0 0&&inI b 0 0&&true) by cases p<;>rfl);exact rVk
  ·have HI:=Zh (show ZaR p ⟨9,a,b⟩=(inI a 0 0&&inI b 0 0&&true) by cases p<;>rfl);exact rVk
  ·have HI:=Zh (show ZaR p ⟨10,a,b⟩=(inI a 0 0&&inI b 0 0&&true) by cases p<;>rfl);exact rVk
  ·have HI:=Zh (show ZaR p ⟨11,a,b⟩=(inI a 0 0&&inI b 0 0&&true) by cases p<;>rfl);exact rVk
  ·have HI:=Zh (show ZaR p ⟨12,a,b⟩=(inI a 2 4&&inI b 0 (if p then 59 else 9)&&!(decide (a=3)&&decide (b≠0))) by cases p<;>rfl);rcases hI:inI a 2 4 with _|_<;>exact rVk
  ·have HI:=Zh (show ZaR p ⟨13,a,b⟩=(inI a 0 0&&inI b 0 0&&true) by cases p<;>rfl);exact rVk
  ·have HI:=Zh (show ZaR p ⟨14,a,b⟩=(inI a 0 (if p then 59 else 9)&&inI b 0 0&&true) by cases p<;>rfl);exact rVk
  ·have HI:=Zh (show ZaR p ⟨15,a,b⟩=(inI a 0 48&&inI b 0 0&&true) by cases p<;>rfl);exact rVk
  ·have HI:=Zh (show ZaR p ⟨16,a,b⟩=(inI a 0 48&&inI b 0 (if p then 59 else 9)&&true) by cases p<;>rfl);rcases hI:inI a 0 48 with _|_<;>exact rVk
  ·have HI:=Zh (show ZaR p ⟨17,a,b⟩=(inI a 0 (if p then 59 else 6)&&inI b 0 0&&true) by cases p<;>rfl);exact rVk
  ·have HI:=Zh (show ZaR p ⟨18,a,b⟩=(inI a 0 (if p then 59 else 6)&&inI b 0 0&&true) by cases p<;>rfl);exact rVk
  ·have HI:=Zh (show ZaR p ⟨19,a,b⟩=(inI a 0 0&&inI b 0 0&&true) by cases p<;>rfl);exact rVk
  ·have HI:=Zh (show ZaR p ⟨20,a,b⟩=(inI a 0 0&&inI b 0 0&&true) by cases p<;>rfl);exact rVk
  ·have HI:=Zh (show ZaR p ⟨21,a,b⟩=(inI a 0 0&&inI b 0 0&&true) by cases p<;>rfl);exact rVk
  ·have HI:=Zh (show ZaR p ⟨22,a,b⟩=(inI a 0 (if p then 59 else 9)&&inI b 0 0&&true) by cases p<;>rfl);exact rVk
  ·have HI:=Zh (show ZaR p ⟨23,a,b⟩=(inI a 0 (if p then 59 else 9)&&inI b 0 0&&true) by cases p<;>rfl);exact rVk
  ·have HI:=Zh (show ZaR p ⟨24,a,b⟩=(inI a 0 (if p then 59 else 9)&&inI b 0 0&&true) by cases p<;>rfl);exact rVk
  ·have HI:=Zh (show ZaR p ⟨25,a,b⟩=(inI a 0 (if p then 59 else 15)&&inI b 0 0&&true) by cases p<;>rfl);exact rVk
  ·have HI:=Zh (show ZaR p ⟨26,a,b⟩=(inI a 0 (if p then 59 else 15)&&inI b 0 0&&true) by cases p<;>rfl);exact rVk
  ·have HI:=Zh (show ZaR p ⟨27,a,b⟩=(inI a 0 3&&inI b 0 0&&true) by cases p<;>rfl);exact rVk
  ·have HI:=Zh (show ZaR p ⟨28,a,b⟩=(inI a 0 9&&inI b 0 0&&true) by cases p<;>rfl);exact rVk
  ·have HI:=Zh (show ZaR p ⟨29,a,b⟩=(inI a 0 0&&inI b 0 0&&true) by cases p<;>rfl);exact rVk
  ·have HI:=Zh (show ZaR p ⟨30,a,b⟩=(inI a 0 50&&inI b 0 9&&true) by cases p<;>rfl);rcases hI:inI a 0 50 with _|_<;>exact rVk
  ·have HI:=Zh (show ZaR p ⟨31,a,b⟩=(inI a 0 5&&inI b 0 0&&true) by cases p<;>rfl);exact rVk
  ·have HI:=Zh (show ZaR p ⟨32,a,b⟩=(inI a 1 24&&inI b 0 0&&true) by cases p<;>rfl);exact rVk
  ·have HI:=Zh (show ZaR p ⟨33,a,b⟩=(inI a 0 0&&inI b 0 0&&true) by cases p<;>rfl);exact rVk
  ·have HI:=Zh (show ZaR p ⟨34,a,b⟩=(inI a 0 0&&inI b 0 0&&true) by cases p<;>rfl);exact rVk
  ·have HI:=Zh (show ZaR p ⟨35,a,b⟩=(inI a 0 0&&inI b 0 0&&true) by cases p<;>rfl);exact rVk
 ·have hq:ZaR p ⟨op,a,b⟩=false:=by exact k77
  rw [hq];have ho:=ZeN op;rw [if_pos (show op<0∨36≤op by omega)] at ho;generalize ZeM op=q at ho;have c:=Zh ho;clear ho hq h;go_enter Tryz.func245,Tryz.ntmps245
  go_wp2_with fail
  refine (c.out _).mono ?_;rintro e w' ⟨rfl,rfl⟩
  go_wp2_with fail
  go_ret;exact ZcP rfl bE
end
