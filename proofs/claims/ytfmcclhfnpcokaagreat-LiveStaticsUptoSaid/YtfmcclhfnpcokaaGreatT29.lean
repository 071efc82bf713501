import Derived.Test.YtfmcclhfnpcokaaGreatT25
import Derived.Test.YtfmcclhfnpcokaaGreatT24
set_option linter.all false
set_option maxRecDepth 100000
set_option maxHeartbeats 8000000
namespace Go.Proofs.YtfmcclhfnpcokaaGreat
theorem j6{p:Prop}(h:p:=by
 repeat refine pO ?_
 refine oO fun Kv hK=>?_;go_simp;refine (HCl.out _ HBr.out.drew).mono ?_;rintro e w2 ⟨rfl,hb2⟩;have HB2:=Zh (Zag (Below.refl wo.heap.size wo).drew hb2);refine hK _ _ ⟨Cs.keeps (ZmJ.of HB2.out) HCs.out,?_⟩;clear hK Kv hb2
 repeat refine pO ?_
 refine Zd7 ?_;go_wp2;exact ⟨⟨k+1,by omega,rfl,Zag HBr.out HB2.out⟩,by simp [intOf];omega⟩):p:=h
section
open Go.RowKit
theorem Zq1 : Tryz.prog.fieldsOf 72 = #[⟨"Op", 3, 0, false, "", "", 0⟩, ⟨"A", 3, 1, false, "", "", 8⟩, ⟨"B", 3, 2, false, "", "", 16⟩] := by kernel_rfl
theorem Zq2 (w:World) (a b c:Int):Sem.run Tryz.prog (binOp .neq 72 (.agg #[.int .i64 a,.int .i64 b,.int .i64 c]) (.agg #[.int .i64 a,.int .i64 b,.int .i64 c])) w=.ok (.bool false) w:=by
 have d:Sem.run Tryz.prog (Op.equalIn 10000 72 (.agg #[.int .i64 a,.int .i64 b,.int .i64 c]) (.agg #[.int .i64 a,.int .i64 b,.int .i64 c])) w=.ok true w:=by
  have f:Tryz.prog.underlying 72=some (.struct (Tryz.prog.fieldsOf 72)):=by kernel_rfl
  rw [run_equalIn_agg _ _ _ _ _ f (by kernel_rfl),Zq1];have g:∀ (x y z:Int) w,Sem.run Tryz.prog (part 3 #[.int .i64 x,.int .i64 y,.int .i64 z] 0) w=.ok (.int .i64 x) w:=fun x y z w=>by kernel_rfl
  have h:∀ (x y z:Int) w,Sem.run Tryz.prog (part 3 #[.int .i64 x,.int .i64 y,.int .i64 z] 1) w=.ok (.int .i64 y) w:=fun x y z w=>by kernel_rfl
  have i:∀ (x y z:Int) w,Sem.run Tryz.prog (part 3 #[.int .i64 x,.int .i64 y,.int .i64 z] 2) w=.ok (.int .i64 z) w:=fun x y z w=>by kernel_rfl
  have e:∀ (x y:Int) w,Sem.run Tryz.prog (Op.equalIn 9999 3 (.int .i64 x) (.int .i64 y)) w=.ok (x == y) w:=fun x y w=>run_equalIn_int w 9998 3 .i64 .i64 x y Tryz.underlying3;simp [Op.eqFields,Sem.run_bind,g,h,i,e,Result.andThen_ok]
 rw [run_neq_struct,d];rfl
theorem Zq3 (w:World) (op:BinOp) (x y:Operand) (a ys:Array Value):Sem.run Tryz.prog (eqGuard op 72 x y (.agg a) (.agg ys)) w=.ok () w:=run_eqGuard_agg w op 72 x y a ys (by kernel_rfl)
theorem Zq4 (l:List In3) (ao bo:Option Addr) (d bc:Nat) (w:World) (e:Zas w ao d l) (f:Zas w bo bc l) (B:l.length≤2000000):Calls Tryz.prog 151 #[.slice ao l.length d,.slice bo l.length bc] w (Ret w (.bool true)):=by
 have q:=Zh e;have r:=Zh f;clear e f;go_enter Tryz.func151,Tryz.ntmps151;go_wp2
 go_loopw [5] (fun i wr=>∃ k:Nat,k≤l.length∧i=.int .i64 k∧Hid (Below w.heap.size w wr)) (fun i _=>l.length-(intOf i).toNat)
 case atStart=>exact ⟨0,Nat.zero_le _,rfl,Below.refl _ _⟩
 case round=>
  obtain ⟨k,A,rfl,c⟩:=hrel;by_cases hkl:k<l.length
  ·obtain ⟨y,rfl,h,j,m⟩:=ZaB (q.out.old c.out) hkl;obtain ⟨z,rfl,n,o,p⟩:=ZaB (r.out.old c.out) hkl;have g:(k:Int) < l.length:=by omega
   have v:IntKind.i64.wrap ((k:Int)+1)=((k+1:Nat):Int):=IntWalk.i64_in _ (by omega);generalize l.getD k default=x at h j m n o p;obtain ⟨C,a,b⟩:=x;dsimp only at h j m n o p;have u:=Zq2;have s:=Zq3;go_wp2
   go_quiet (fail)
   go_wp2;exact ⟨⟨k+1,by omega,rfl,ZcQ c.out _⟩,by simp [intOf];omega⟩
  ·have t:¬ (k:Int) < l.length:=by omega
   go_wp2;go_ret;exact ZcP rfl c.out
theorem Zq5 (x:Cls) (c d:CHd) (w:World) (B:Zas w c.fo c.fc x.f) (q:Zas w d.fo d.fc x.f) (C:Zas w c.mo c.mc x.m) (r:Zas w d.mo d.mc x.m) (D:x.f.length≤2000000∧x.m.length≤2000000) :
  Calls Tryz.prog 92 #[.agg #[.string x.n,.int .i64 x.sup,.slice c.fo x.f.length c.fc,.slice c.mo x.m.length c.mc],.agg #[.string x.n,.int .i64 x.sup,.slice d.fo x.f.length d.fc,.slice d.mo x.m.length d.mc]] w (Ret w (.bool true)):=by
 have A:=Zh (show ∀ h,Below w.heap.size w h→_ from fun h m=>by have:=Ze4 x.f x.f c.fo d.fo c.fc d.fc h (B.old m) (q.old m) D.1;rwa [decide_eq_true rfl] at this);have z:=Zh (show ∀ h,Below w.heap.size w h→_ from fun h m=>by have:=ZnK h c.mo d.mo c.mc d.mc x.m x.m (C.old m) (r.old m) D.2;rwa [decide_eq_true rfl] at this);clear B q C r;obtain ⟨n,g,f,l⟩:=x;dsimp only at A z ⊢;obtain ⟨k,a⟩:∃ k,k=(w.alloc (.cells #[.string n,.int .i64 g,.slice c.fo f.length c.fc,.slice c.mo l.length c.mc] 44)).alloc (.cells #[.string n,.int .i64 g,.slice d.fo f.length d.fc,.slice d.mo l.length d.mc] 44):=⟨_,rfl⟩;have i:=Zh (show Below w.heap.size w k by rw [a];exact bE);have s:=Zh (show Blk k w.heap.size #[.string n,.int .i64 g,.slice c.fo f.length c.fc,.slice c.mo l.length c.mc] 44 by rw [a];exact (Blk.new _ _ _).alloc _);have t:=Zh (show Blk k (w.heap.size+1) #[.string n,.int .i64 g,.slice d.fo f.length d.fc,.slice d.mo l.length d.mc] 44 by rw [a];exact Blk.new' _ _ (by simp));have E:=Zh a;clear a;go_enter Tryz.func92,Tryz.ntmps92
 go_upto_region 1 with fail
 rw [←E.out];have F:=s.out.cell 0 rfl;have G:=s.out.cell 1 rfl;have H:=s.out.cell 2 rfl;have v:=s.out.cell 3 rfl;have I:=t.out.cell 0 rfl;have J:=t.out.cell 1 rfl;have K:=t.out.cell 2 rfl;have y:=t.out.cell 3 rfl
 go_wp2_with (first
  | (go_at_call 91;refine (A.out _ i.out).mono ?_;rintro e L ⟨rfl,b⟩;have j:=Zh (Zag i.out b);have v:=(b.cell (Zad v)).trans v;have y:=(b.cell (Zad y)).trans y;clear b F G H I J K)
  | (go_at_call 36;refine (z.out _ j.out).mono ?_;rintro e M ⟨rfl,o⟩;have u:=Zh (Zag j.out o);clear o))
 go_ret;exact ZcP rfl u.out
theorem Zq6 (x:Mth) (c d:MHd) (w:World) (P:Zas w c.po c.pc x.p) (C:Zas w d.po d.pc x.p) (O:Zas w c.lo c.lc x.l) (B:Zas w d.lo d.lc x.l) (N:Zas w c.ko c.kc x.k) (A:Zas w d.ko d.kc x.k) (K:x.p.length≤2000000∧x.l.length≤2000000∧x.k.length≤2000000) :
  Calls Tryz.prog 93 #[.agg #[.string x.n,.int .i64 x.c,.slice c.po x.p.length c.pc,.slice c.lo x.l.length c.lc,.int .i64 x.r.k,.int .i64 x.r.c,.slice c.ko x.k.length c.kc],.agg #[.string x.n,.int .i64 x.c,.slice d.po x.p.length d.pc,.slice d.lo x.l.length d.lc,.int .i64 x.r.k,.int .i64 x.r.c,.slice d.ko x.k.length d.kc]] w (Ret w (.bool true)):=by
 have J:=Zh (show ∀ w',Below w.heap.size w w'→_ from fun w' g=>by have:=Ze4 x.p x.p c.po d.po c.pc d.pc w' (P.old g) (C.old g) K.1;rwa [decide_eq_true rfl] at this);have L:=Zh (show ∀ w',Below w.heap.size w w'→_ from fun w' g=>by have:=Ze4 x.l x.l c.lo d.lo c.lc d.lc w' (O.old g) (B.old g) K.2.1;rwa [decide_eq_true rfl] at this);have M:=Zh (fun w' g=>Zq4 x.k c.ko d.ko c.kc d.kc w' (N.old (w':=w') g) (A.old g) K.2.2);clear P C O B N A;obtain ⟨n,D,p,l,⟨F,E⟩,k⟩:=x;dsimp only at J L M ⊢;have S:=ZdX;have T:=ZdZ;obtain ⟨y,f⟩:∃ y,y=(w.alloc (.cells #[.string n,.int .i64 D,.slice c.po p.length c.pc,.slice c.lo l.length c.lc,.int .i64 F,.int .i64 E,.slice c.ko k.length c.kc] 70)).alloc (.cells #[.string n,.int .i64 D,.slice d.po p.length d.pc,.slice d.lo l.length d.lc,.int .i64 F,.int .i64 E,.slice d.ko k.length d.kc] 70):=⟨_,rfl⟩;have t:=Zh (show Below w.heap.size w y by rw [f];exact bE);have h:=Zh (show Blk y w.heap.size #[.string n,.int .i64 D,.slice c.po p.length c.pc,.slice c.lo l.length c.lc,.int .i64 F,.int .i64 E,.slice c.ko k.length c.kc] 70 by rw [f];exact (Blk.new _ _ _).alloc _);have i:=Zh (show Blk y (w.heap.size+1) #[.string n,.int .i64 D,.slice d.po p.length d.pc,.slice d.lo l.length d.lc,.int .i64 F,.int .i64 E,.slice d.ko k.length d.kc] 70 by rw [f];exact Blk.new' _ _ (by simp));have Q:=Zh f;clear f;go_enter Tryz.func93,Tryz.ntmps93
 go_upto_region 1 with fail
 rw [←Q.out];have U:=h.out.cell 0 rfl;have V:=h.out.cell 1 rfl;have W:=h.out.cell 2 rfl;have G:=h.out.cell 3 rfl;have j:=h.out.cell 4 rfl;have m:=h.out.cell 5 rfl;have o:=h.out.cell 6 rfl;have X:=i.out.cell 0 rfl;have Y:=i.out.cell 1 rfl;have Z:=i.out.cell 2 rfl;have H:=i.out.cell 3 rfl;have q:=i.out.cell 4 rfl;have r:=i.out.cell 5 rfl;have s:=i.out.cell 6 rfl
 go_wp2_with (first
  | (have R:=J;clear J;go_at_call 91;refine (R.out _ t.out).mono ?_;rintro e w1 ⟨rfl,a⟩;have u:=Zh (Zag t.out a);have G:=(a.cell (Zad G)).trans G;have H:=(a.cell (Zad H)).trans H;have j:=(a.cell (Zad j)).trans j;have q:=(a.cell (Zad q)).trans q;have m:=(a.cell (Zad m)).trans m;have r:=(a.cell (Zad r)).trans r;have o:=(a.cell (Zad o)).trans o;have s:=(a.cell (Zad s)).trans s;clear a U V W X Y Z)
  | (go_at_call 91;refine (L.out _ u.out).mono ?_;rintro e w2 ⟨rfl,b⟩;have v:=Zh (Zag u.out b);have j:=(b.cell (Zad j)).trans j;have q:=(b.cell (Zad q)).trans q;have m:=(b.cell (Zad m)).trans m;have r:=(b.cell (Zad r)).trans r;have o:=(b.cell (Zad o)).trans o;have s:=(b.cell (Zad s)).trans s;clear b G H)
  | (go_at_call 151;refine (M.out _ v.out).mono ?_;rintro e w3 ⟨rfl,z⟩;have I:=Zh (Zag v.out z);clear z))
 go_ret;exact ZcP rfl I.out
theorem Zq7 (m:Md) (h d:Hd) (w:World) (H:Zaz w h m) (D:Zaz w d m) (hs:ZnI m):Calls Tryz.prog 37 #[.agg (HM.mk h m),.agg (HM.mk d m)] w (Ret w (.bool true)):=by
 obtain ⟨s,G⟩:∃ s,s=(w.alloc (.cells (HM.mk h m) 26)).alloc (.cells (HM.mk d m) 26):=⟨_,rfl⟩;have N:=Zh (show Below w.heap.size w s by rw [G];exact bE);have HX:=Zh (show Blk s w.heap.size (HM.mk h m) 26 by rw [G];exact (Blk.new _ _ _).alloc _);have HY:=Zh (show Blk s (w.heap.size+1) (HM.mk d m) 26 by rw [G];exact Blk.new' _ _ (by simp));have M:=Zh (H.old N.out);have L:=Zh (D.old N.out);have HS:=Zh (show ∀ w',Below s.heap.size s w'→_ from fun w' j=>by have:=Ze4 m.st m.st h.so d.so h.sc d.sc w' (M.out.st.old j) (L.out.st.old j) hs.st;rwa [decide_eq_true rfl] at this);have O:=Zh hs;have HW:=Zh G;have am:=hs.cl;have an:=hs.me;clear G H D hs;go_enter Tryz.func37,Tryz.ntmps37
 go_upto_region 1 with fail
 rw [←HW.out];obtain ⟨q,x1,x2,x3⟩:=Zj8 HX.out;obtain ⟨r,y1,y2,y3⟩:=Zj8 (h:=d) HY.out
 go_upto_region 3 with (go_at_call 91;refine (HS.out _ (Below.refl _ _)).mono ?_;rintro e w1 ⟨rfl,Y⟩;have af:=Zh Y;clear Y)
 clear q x1 x2 x3 r y1 y2 y3;go_wp2
 go_loopw [5] (fun i wr=>∃ k:Nat,k≤m.cl.length∧i=.int .i64 k∧Hid (Below s.heap.size s wr)) (fun i _=>m.cl.length-(intOf i).toNat)
 case atStart=>exact ⟨0,Nat.zero_le _,rfl,af.out⟩
 case round=>
  obtain ⟨k,hk,rfl,HBr⟩:=hrel;rename World=>wo;have q:=(HX.out.old HBr.out).cell 0 (v:=.slice h.co m.cl.length h.cc) rfl;have r:=(HY.out.old HBr.out).cell 0 (v:=.slice d.co m.cl.length d.cc) rfl;by_cases hkl:k<m.cl.length
  ·have Z:(k:Int) < m.cl.length:=by omega
   have aj:IntKind.i64.wrap ((k:Int)+1)=((k+1:Nat):Int):=IntWalk.i64_in _ (by omega);obtain ⟨b,I,u,y,z,A⟩:=(M.out.old HBr.out).cls hkl;obtain ⟨g,J,B,C,E,F⟩:=(L.out.old HBr.out).cls hkl;rw [I] at q;rw [J] at r;have HCl:=Zh (fun w' j=>Zq5 (m.cl.getD k default) (h.c k) (d.c k) w' ((M.out.old (w':=w') j).f k hkl) ((L.out.old j).f k hkl) ((M.out.old j).t k hkl) ((L.out.old j).t k hkl) (O.out.c k hkl));generalize m.cl.getD k default=x at u y z A B C E F HCl;obtain ⟨n,K,f,l⟩:=x;dsimp only at u y z A B C E F HCl;clear I J
   go_upto_region 6 with fail
   have HCs:=Zh (show Cs [(⟨w.heap.size,0,none⟩,.slice (some b) m.cl.length h.cc),(⟨w.heap.size+1,0,none⟩,.slice (some g) m.cl.length d.cc),(b.add (k*4),.string n),(⟨(b.add (k*4)).block,(b.add (k*4)).off+1,none⟩,.int .i64 K),(⟨(b.add (k*4)).block,(b.add (k*4)).off+2,none⟩,.slice (h.c k).fo f.length (h.c k).fc),(⟨(b.add (k*4)).block,(b.add (k*4)).off+3,none⟩,.slice (h.c k).mo l.length (h.c k).mc),(g.add (k*4),.string n),(⟨(g.add (k*4)).block,(g.add (k*4)).off+1,none⟩,.int .i64 K),(⟨(g.add (k*4)).block,(g.add (k*4)).off+2,none⟩,.slice (d.c k).fo f.length (d.c k).fc),(⟨(g.add (k*4)).block,(g.add (k*4)).off+3,none⟩,.slice (d.c k).mo l.length (d.c k).mc)] wo from ⟨q,r,u,y,z,A,B,C,E,F,trivial⟩);refine rO (Cs [(⟨w.heap.size,0,none⟩,.slice (some b) m.cl.length h.cc),(⟨w.heap.size+1,0,none⟩,.slice (some g) m.cl.length d.cc),(b.add (k*4),.string n),(⟨(b.add (k*4)).block,(b.add (k*4)).off+1,none⟩,.int .i64 K),(⟨(b.add (k*4)).block,(b.add (k*4)).off+2,none⟩,.slice (h.c k).fo f.length (h.c k).fc),(⟨(b.add (k*4)).block,(b.add (k*4)).off+3,none⟩,.slice (h.c k).mo l.length (h.c k).mc),(g.add (k*4),.string n),(⟨(g.add (k*4)).block,(g.add (k*4)).off+1,none⟩,.int .i64 K),(⟨(g.add (k*4)).block,(g.add (k*4)).off+2,none⟩,.slice (d.c k).fo f.length (d.c k).fc),(⟨(g.add (k*4)).block,(g.add (k*4)).off+3,none⟩,.slice (d.c k).mo l.length (d.c k).mc)]) (oL [0,1,2,3,4,5,6,7,8,9,110,11]) ⟨q,r,u,y,z,A,B,C,E,F,trivial⟩ ?_;clear q r u y z A B C E F;exact j6
  ·obtain rfl:k=m.cl.length:=by omega
   have ai:¬ (m.cl.length:Int) < m.cl.length:=by omega
   go_wp2;clear q r
   go_loopw [6] (fun i wr=>∃ k:Nat,k≤m.me.length∧i=.int .i64 k∧Hid (Below s.heap.size s wr)) (fun i _=>m.me.length-(intOf i).toNat)
   case atStart=>exact ⟨0,Nat.zero_le _,rfl,HBr.out⟩
   case round=>
    obtain ⟨k,hk,rfl,HBr⟩:=hrel;rename World=>wo;have q:=(HX.out.old HBr.out).cell 2 (v:=.slice h.eo m.me.length h.ec) rfl;have r:=(HY.out.old HBr.out).cell 2 (v:=.slice d.eo m.me.length d.ec) rfl;by_cases hkl:k<m.me.length
    ·have Z:(k:Int) < m.me.length:=by omega
     have aj:IntKind.i64.wrap ((k:Int)+1)=((k+1:Nat):Int):=IntWalk.i64_in _ (by omega);obtain ⟨b,I,u,y,z,A,R,T,U⟩:=(M.out.old HBr.out).mth hkl;obtain ⟨g,J,B,C,E,F,V,W,X⟩:=(L.out.old HBr.out).mth hkl;rw [I] at q;rw [J] at r;have HCl:=Zh (fun w' j=>Zq6 (m.me.getD k default) (h.e k) (d.e k) w' ((M.out.old (w':=w') j).p k hkl) ((L.out.old j).p k hkl) ((M.out.old j).l k hkl) ((L.out.old j).l k hkl) ((M.out.old j).k k hkl) ((L.out.old j).k k hkl) (O.out.m k hkl));generalize m.me.getD k default=x at u y z A R T U B C E F V W X HCl;obtain ⟨n,mc,p,l,⟨rk,rc⟩,c⟩:=x;dsimp only at u y z A R T U B C E F V W X HCl;clear I J
     go_upto_region 11 with fail
     have HCs:=Zh (show (Cs [(⟨w.heap.size,2,none⟩,.slice (some b) m.me.length h.ec),(⟨w.heap.size+1,2,none⟩,.slice (some g) m.me.length d.ec),(b.add (k*7),.string n),(⟨(b.add (k*7)).block,(b.add (k*7)).off+1,none⟩,.int .i64 mc),(⟨(b.add (k*7)).block,(b.add (k*7)).off+2,none⟩,.slice (h.e k).po p.length (h.e k).pc),(⟨(b.add (k*7)).block,(b.add (k*7)).off+3,none⟩,.slice (h.e k).lo l.length (h.e k).lc),(⟨(b.add (k*7)).block,(b.add (k*7)).off+4,none⟩,.int .i64 rk),(⟨(b.add (k*7)).block,(b.add (k*7)).off+5,none⟩,.int .i64 rc),(⟨(b.add (k*7)).block,(b.add (k*7)).off+6,none⟩,.slice (h.e k).ko c.length (h.e k).kc),(g.add (k*7),.string n),(⟨(g.add (k*7)).block,(g.add (k*7)).off+1,none⟩,.int .i64 mc),(⟨(g.add (k*7)).block,(g.add (k*7)).off+2,none⟩,.slice (d.e k).po p.length (d.e k).pc),(⟨(g.add (k*7)).block,(g.add (k*7)).off+3,none⟩,.slice (d.e k).lo l.length (d.e k).lc),(⟨(g.add (k*7)).block,(g.add (k*7)).off+4,none⟩,.int .i64 rk),(⟨(g.add (k*7)).block,(g.add (k*7)).off+5,none⟩,.int .i64 rc),(⟨(g.add (k*7)).block,(g.add (k*7)).off+6,none⟩,.slice (d.e k).ko c.length (d.e k).kc)]) wo from ⟨q,r,u,y,z,A,R,T,U,B,C,E,F,V,W,X,trivial⟩)
     refine rO (Cs [(⟨w.heap.size,2,none⟩,.slice (some b) m.me.length h.ec),(⟨w.heap.size+1,2,none⟩,.slice (some g) m.me.length d.ec),(b.add (k*7),.string n),(⟨(b.add (k*7)).block,(b.add (k*7)).off+1,none⟩,.int .i64 mc),(⟨(b.add (k*7)).block,(b.add (k*7)).off+2,none⟩,.slice (h.e k).po p.length (h.e k).pc),(⟨(b.add (k*7)).block,(b.add (k*7)).off+3,none⟩,.slice (h.e k).lo l.length (h.e k).lc),(⟨(b.add (k*7)).block,(b.add (k*7)).off+4,none⟩,.int .i64 rk),(⟨(b.add (k*7)).block,(b.add (k*7)).off+5,none⟩,.int .i64 rc),(⟨(b.add (k*7)).block,(b.add (k*7)).off+6,none⟩,.slice (h.e k).ko c.length (h.e k).kc),(g.add (k*7),.string n),(⟨(g.add (k*7)).block,(g.add (k*7)).off+1,none⟩,.int .i64 mc),(⟨(g.add (k*7)).block,(g.add (k*7)).off+2,none⟩,.slice (d.e k).po p.length (d.e k).pc),(⟨(g.add (k*7)).block,(g.add (k*7)).off+3,none⟩,.slice (d.e k).lo l.length (d.e k).lc),(⟨(g.add (k*7)).block,(g.add (k*7)).off+4,none⟩,.int .i64 rk),(⟨(g.add (k*7)).block,(g.add (k*7)).off+5,none⟩,.int .i64 rc),(⟨(g.add (k*7)).block,(g.add (k*7)).off+6,none⟩,.slice (d.e k).ko c.length (d.e k).kc)]) (oL [0,1,2,3,4,5,6,7,8,9,110,11]) ⟨q,r,u,y,z,A,R,T,U,B,C,E,F,V,W,X,trivial⟩ ?_;clear q r u y z A R T U B C E F V W X;exact j6
    ·obtain rfl:k=m.me.length:=by omega
     have ai:¬ (m.me.length:Int) < m.me.length:=by omega
     go_wp2;go_ret;exact ZcP rfl (Zag N.out HBr.out)
end
section
open Go.RowKit
theorem Zq8 (w:World) (a b c x y z:Int):Sem.run Tryz.prog (Op.equalIn 10000 72 (.agg #[.int .i64 a,.int .i64 b,.int .i64 c]) (.agg #[.int .i64 x,.int .i64 y,.int .i64 z])) w=.ok (decide ((⟨a,b,c⟩:In3)=⟨x,y,z⟩)) w:=by
 have h:Tryz.prog.underlying 72=some (.struct (Tryz.prog.fieldsOf 72)):=by kernel_rfl
 rw [run_equalIn_agg _ _ _ _ _ h (by kernel_rfl),Zq1];have e:∀ (x y z:Int) w,Sem.run Tryz.prog (part 3 #[.int .i64 x,.int .i64 y,.int .i64 z] 0) w=.ok (.int .i64 x) w:=fun x y z w=>by kernel_rfl
 have f:∀ (x y z:Int) w,Sem.run Tryz.prog (part 3 #[.int .i64 x,.int .i64 y,.int .i64 z] 1) w=.ok (.int .i64 y) w:=fun x y z w=>by kernel_rfl
 have g:∀ (x y z:Int) w,Sem.run Tryz.prog (part 3 #[.int .i64 x,.int .i64 y,.int .i64 z] 2) w=.ok (.int .i64 z) w:=fun x y z w=>by kernel_rfl
 have d:∀ (x y:Int) w,Sem.run Tryz.prog (Op.equalIn 9999 3 (.int .i64 x) (.int .i64 y)) w=.ok (x == y) w:=fun x y w=>run_equalIn_int w 9998 3 .i64 .i64 x y Tryz.underlying3;simp only [Op.eqFields,Sem.run_bind,e,f,g,d,Result.andThen_ok];by_cases h1:a=x<;>by_cases h2:b=y<;>by_cases h3:c=z<;>simp [h1,h2,h3,Op.eqFields,e,f,g,d]
theorem Zq9 (w:World) (a b c x y z:Int):Sem.run Tryz.prog (binOp .eql 72 (.agg #[.int .i64 a,.int .i64 b,.int .i64 c]) (.agg #[.int .i64 x,.int .i64 y,.int .i64 z])) w=.ok (.bool (decide ((⟨a,b,c⟩:In3)=⟨x,y,z⟩))) w:=by rw [run_eql_struct,Zq8];rfl
theorem Zra {m:Md} (b:Za2 m=true) {d:Nat} (a:d<m.cl.length):(fsC m d).length≤7:=by have h:=Zip b d a;unfold ZaL at h;simp only [Bool.and_eq_true,decide_eq_true_eq] at h;have:=h.1.1.1.1.2;exact this
end
