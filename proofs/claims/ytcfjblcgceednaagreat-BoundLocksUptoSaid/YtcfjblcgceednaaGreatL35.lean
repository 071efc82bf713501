import Derived.Test.YtcfjblcgceednaaGreatL33
import Derived.Test.YtcfjblcgceednaaGreatL34
set_option linter.all false
set_option maxRecDepth 100000
set_option maxHeartbeats 8000000
namespace Go.Proofs.YtcfjblcgceednaaGreat
section
open Go.RowKit
def ZrU (c:List In3):Md:=⟨[],[],[⟨⟨#[97,46,102]⟩,-1,[],[⟨1,0⟩],⟨0,0⟩,c⟩],0⟩
def ZrV (b:Nat) (ao:Option Addr) (cap:Nat):Hd:=⟨none,0,none,0,some ⟨b+1,0,none⟩,1,fun _=>default,fun _=>⟨none,0,some ⟨b,0,none⟩,1,ao,cap⟩⟩
def ZrW:List In3:=[⟨1,3,0⟩,⟨30,5,0⟩,⟨0,0,0⟩,⟨35,0,0⟩]
theorem ZrX:ZoV (ZrU ZrW) 0=(13,0):=by kernel_rfl
theorem ZrY:ZrH (ZrU ZrW) 0=(3,0):=by kernel_rfl
theorem ZrZ:ZrR (ZrU ZrW) 0=([1,1,5,5],0):=by kernel_rfl
def Zr0 (W:World) (c:List In3):Ending→World→Prop:=fun e w'=>(∃ h:Hd,e=.returned (.agg #[.slice h.co 0 h.cc,.slice h.so 0 h.sc,.slice h.eo 1 h.ec,.int .i64 0])∧Zay w' h (ZrU c))∧Below W.heap.size W w'
theorem Zr1 (c:List In3) (f:Option Addr) (b:Nat) (w:World) (m:Zar w f b c) (x:c.length≤1000):Calls Tryz.prog 97 #[.slice f c.length b] w (Zr0 w c):=by
 have n:=Zh m;clear m;go_enter Tryz.func97,Tryz.ntmps97;go_wp2;obtain ⟨e,d⟩:∃ e,e=(((w.alloc (Obj.cells #[Value.slice none 0 0,Value.slice none 0 0,Value.slice (some { block:=w.heap.size+1+1,off:=0 }) 1 1,Value.int IntKind.i64 0] 26)).alloc (Obj.cells #[Value.int IntKind.i64 1,Value.int IntKind.i64 0] 76)).alloc (Obj.cells #[Value.string { data:=#[97,46,102] },Value.int IntKind.i64 (-1),Value.slice none 0 0,Value.slice (some { block:=w.heap.size+1,off:=0 }) 1 1,Value.int IntKind.i64 0,Value.int IntKind.i64 0,Value.slice f c.length b] 81)):=⟨_,rfl⟩;rw [←d];have q:Below w.heap.size w e:=by rw [d];exact bE
 have j:Blk e w.heap.size #[Value.slice none 0 0,Value.slice none 0 0,Value.slice (some { block:=w.heap.size+1+1,off:=0 }) 1 1,Value.int IntKind.i64 0] 26:=by rw [d];exact ((Blk.new w _ _).alloc _).alloc _
 have k:=ZlU (w.alloc (Obj.cells #[Value.slice none 0 0,Value.slice none 0 0,Value.slice (some { block:=w.heap.size+1+1,off:=0 }) 1 1,Value.int IntKind.i64 0] 26)) ([⟨1,0⟩]:List Ty) _ 76 rfl;have l:=ZlU ((w.alloc (Obj.cells #[Value.slice none 0 0,Value.slice none 0 0,Value.slice (some { block:=w.heap.size+1+1,off:=0 }) 1 1,Value.int IntKind.i64 0] 26)).alloc (Obj.cells #[Value.int IntKind.i64 1,Value.int IntKind.i64 0] 76)) (Zav (ZrV (w.heap.size+1) f b) (ZrU c)) _ 81 rfl;rw [bls] at k;rw [bls,bls] at l;have o:Zay e (ZrV (w.heap.size+1) f b) (ZrU c):=by
  rw [d];have g:∀ {i:Nat},i<1→i=0:=fun h=>by omega
  refine ⟨Zar.nil _,Zar.nil _,l,fun i a=>absurd a (Nat.not_lt_zero i),fun i a=>absurd a (Nat.not_lt_zero i),fun i a=>?_,fun i a=>?_,fun i a=>?_,fun i a=>absurd a (Nat.not_lt_zero i),fun i a=>?_,⟨by show (0:Nat)≤_;omega,by show (0:Nat)≤_;omega,by show (1:Nat)≤_;omega⟩⟩
  ·obtain rfl:=g a;exact Zar.nil _
  ·obtain rfl:=g a;exact k.alloc _
  ·obtain rfl:=g a;exact n.out.old bE
  ·obtain rfl:=g a;exact ⟨by show (0:Nat)≤_;omega,by show (1:Nat)≤_;omega,by show c.length≤_;omega⟩
 have r:=j.cell 0 (v:=.slice none 0 0) rfl;have s:=j.cell 1 (v:=.slice none 0 0) rfl;have t:=j.cell 2 (v:=.slice (some { block:=w.heap.size+1+1,off:=0 }) 1 1) rfl;have u:=j.cell 3 (v:=.int .i64 0) rfl;clear k l d;refine bodyPost_ret (v:=.agg #[.slice none 0 0,.slice none 0 0,.slice (some { block:=w.heap.size+1+1,off:=0 }) 1 1,.int .i64 0]) (by simp [results,Tryz.results97,go_sem,r,s,t,u]) rfl ?_;exact ⟨⟨_,rfl,o⟩,q⟩
end
section
open Go.RowKit
theorem Zr2 (w:World) (C bo:Option Addr) (B bc:Nat) (a b:List Int) (ha:Zar w C B a) (E:Zar w bo bc b) (O:a.length≤2000000):Calls Tryz.prog 52 #[.slice C a.length B,.slice bo b.length bc] w (Ret w (.bool (decide (a=b)))):=by
 have G:=Zh ha;have H:=Zh E;clear ha E;by_cases hn:a.length=b.length
 ·have g:(a.length:Int)=b.length:=by omega
  rw [←hn];have u:=Zh hn;clear hn g;go_enter Tryz.func52,Tryz.ntmps52;go_wp2
  go_loopw [5] (fun i wr=>∃ k:Nat,k≤a.length∧i=.int .i64 k∧Hid (Below w.heap.size w wr)∧Hid (∀ j,j<k→a.getD j 0=b.getD j 0)) (fun i _=>a.length-(intOf i).toNat)
  case atStart=>exact ⟨0,Nat.zero_le _,rfl,by exact bE,fun j h=>by omega⟩
  case round=>
   obtain ⟨k,N,rfl,f,s⟩:=hrel;rename World=>wo;by_cases hkl:k<a.length
   ·obtain ⟨I,rfl,m⟩:=ZaB (G.out.old f.out) hkl;obtain ⟨J,rfl,n⟩:=ZaB (H.out.old f.out) (show k<b.length by have:=u.out;omega);have F:(k:Int) < a.length:=by omega
    have L:IntKind.i64.wrap ((k:Int)+1)=((k+1:Nat):Int):=IntWalk.i64_in _ (by omega);obtain ⟨x,r⟩:∃ x,x=a.getD k 0:=⟨_,rfl⟩;obtain ⟨y,hy⟩:∃ x,x=b.getD k 0:=⟨_,rfl⟩;rw [←r] at m;rw [←hy] at n;have z:=Zh r;have A:=Zh hy;clear r hy
    go_upto_region 6 with fail
    refine rO (Cs [(I.add k,.int .i64 x),(J.add k,.int .i64 y)]) (oL [0,1,2,3,4,5,6,7,8]) ⟨m,n,trivial⟩ ?_;clear m n
    repeat refine pO ?_
    refine Zd5 ?_;by_cases hxy:x=y
    ·subst hxy;go_wp2;exact ⟨⟨k+1,by omega,rfl,f.out.drew,fun j M=>by
      by_cases q:j=k
      ·subst q;rw [←z.out,←A.out]
      ·exact s.out j (by omega)⟩,by simp [intOf];omega⟩
    ·go_wp2;go_ret;rw [decide_eq_false (fun e:a=b=>hxy (by rw [z.out,A.out,e]))];exact ZcT rfl f.out.drew
   ·obtain rfl:k=a.length:=by omega
    have K:¬ (a.length:Int) < a.length:=by omega
    go_wp2;go_ret;rw [decide_eq_true (show a=b from List.ext_getElem u.out fun j D q=>by have:=s.out j D;simpa [D,q] using this)];exact ZcT rfl f.out
 ·have g:¬ (a.length:Int)=b.length:=by omega
  rw [decide_eq_false (fun e=>hn (by rw [e]))];go_enter Tryz.func52,Tryz.ntmps52;go_wp2;go_ret;exact ZcT rfl bE
theorem Zr3 (W:World):Calls Tryz.prog 45 #[] W (Ret W (.bool true)):=by
 obtain ⟨y,f⟩:∃ y,y=W.alloc (Obj.cells #[.int .i64 1,.int .i64 3,.int .i64 0,.int .i64 30,.int .i64 5,.int .i64 0,.int .i64 0,.int .i64 0,.int .i64 0,.int .i64 35,.int .i64 0,.int .i64 0] 78):=⟨_,rfl⟩;have L:=Zr1 ZrW (some ⟨W.heap.size,0,none⟩) 4 y (by rw [f];exact ZlU W ZrW _ _ rfl) (by decide);have N:=Zh L;have A:=Zh (show Below W.heap.size W y by rw [f];exact bE);have P:=Zh f;clear L f;go_enter Tryz.func45,Tryz.ntmps45
 go_upto_region 2 with (go_at_call 97;rw [←P.out];refine N.out.mono ?_;rintro e z ⟨⟨h,rfl,K⟩,m⟩;have E:=Zh K;have B:=Zh (Zaf A.out m);clear K m)
 obtain ⟨d,g⟩:∃ d,d=z.alloc (.cells #[.slice h.co 0 h.cc,.slice h.so 0 h.sc,.slice h.eo 1 h.ec,.int .i64 0] 26):=⟨_,rfl⟩;have k:=Zh (show Below z.heap.size z d by rw [g];exact bE);have j:=Zh (show Blk d z.heap.size #[.slice h.co 0 h.cc,.slice h.so 0 h.sc,.slice h.eo 1 h.ec,.int .i64 0] 26 by rw [g];exact Blk.new _ _ _);have i:=Zh (E.out.old k.out);rw [←g];clear g;have G:=Zh (show ∀ c,Below d.heap.size d c→Calls Tryz.prog 54 #[.agg #[.slice h.co 0 h.cc,.slice h.so 0 h.sc,.slice h.eo 1 h.ec,.int .i64 0],.int .i64 0] c (Zhf c (.int .i64 13) (.int .i64 0)) from fun c l=>by
   have:=ZoX (ZrU ZrW) h 0 c (i.out.old l);rw [ZrX] at this;exact this)
 have D:=Zh (show ∀ c,Below d.heap.size d c→Calls Tryz.prog 98 #[.agg #[.slice h.co 0 h.cc,.slice h.so 0 h.sc,.slice h.eo 1 h.ec,.int .i64 0],.int .i64 0] c (Zhf c (.int .i64 3) (.int .i64 0)) from fun c l=>by
   have:=ZrI (ZrU ZrW) h 0 c (i.out.old l);rw [ZrY] at this;exact this)
 have F:=Zh (show ∀ c,Below d.heap.size d c→Calls Tryz.prog 99 #[.agg #[.slice h.co 0 h.cc,.slice h.so 0 h.sc,.slice h.eo 1 h.ec,.int .i64 0],.int .i64 0] c (Zik c ([1,1,5,5]:List Int) 0) from fun c l=>by
   have:=ZrT (ZrU ZrW) h 0 c (i.out.old l);rw [ZrZ] at this;exact this)
 have a:=Zh (Below.refl d.heap.size d);have b:=j.out.old a.out;have s:=b.cell 0 (v:=.slice h.co 0 h.cc) rfl;have t:=b.cell 1 (v:=.slice h.so 0 h.sc) rfl;have u:=b.cell 2 (v:=.slice h.eo 1 h.ec) rfl;have x:=b.cell 3 (v:=.int .i64 0) rfl;clear b
 go_wp2_with (first
   | (go_at_call 54;refine (G.out _ a.out).mono ?_;rintro e R ⟨rfl,n⟩;have a:=Zh (Zaf a.out n);clear n s t u x;have b:=j.out.old a.out;have s:=b.cell 0 (v:=.slice h.co 0 h.cc) rfl;have t:=b.cell 1 (v:=.slice h.so 0 h.sc) rfl;have u:=b.cell 2 (v:=.slice h.eo 1 h.ec) rfl;have x:=b.cell 3 (v:=.int .i64 0) rfl;clear b)
   | (go_at_call 98;refine (D.out _ a.out).mono ?_;rintro e S ⟨rfl,o⟩;have a:=Zh (Zaf a.out o);clear o s t u x;have b:=j.out.old a.out;have s:=b.cell 0 (v:=.slice h.co 0 h.cc) rfl;have t:=b.cell 1 (v:=.slice h.so 0 h.sc) rfl;have u:=b.cell 2 (v:=.slice h.eo 1 h.ec) rfl;have x:=b.cell 3 (v:=.int .i64 0) rfl;clear b)
   | (go_at_call 99;refine (F.out _ a.out).mono ?_;rintro e J ⟨⟨Q,H,rfl,M,-⟩,q⟩;have a:=Zh (Zaf a.out q);have O:=Zh M;clear q M s t u x)
   | (go_at_call 52
      have I:=Zr2 (J.alloc (.cells #[.int .i64 1,.int .i64 1,.int .i64 5,.int .i64 5] 3)) Q (some ⟨J.heap.size,0,none⟩) H 4 ([1,1,5,5]:List Int) ([1,1,5,5]:List Int) (O.out.old bE) (ZlU J ([1,1,5,5]:List Int) _ _ rfl) (by decide);rw [decide_eq_true rfl] at I;refine I.mono ?_;rintro e T ⟨rfl,r⟩;have C:=Zh (Zaf (show Below d.heap.size d _ from bal a.out _) r);clear r I))
 go_ret;exact ZcT rfl (Zaf B.out (Zaf k.out C.out))
end
