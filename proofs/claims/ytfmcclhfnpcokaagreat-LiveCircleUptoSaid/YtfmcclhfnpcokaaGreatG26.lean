import Derived.Test.YtfmcclhfnpcokaaGreatG18
set_option linter.all false
set_option maxRecDepth 100000
set_option maxHeartbeats 8000000
namespace Go.Proofs.YtfmcclhfnpcokaaGreat
section
open Go.RowKit
theorem Znw {m:Md} (a:Za2 m=true):ZcZ m m.cl.length:=Zc4 (ZfK a)
def Znx (m:Md) (t u:Ty):Bool × Int:=if (Za2 m&&ZaG m.cl.length t 1&&ZaG m.cl.length u 1)=true then (Zev m t u,0) else (false,1)
theorem Zny {m:Md}{t u:Ty} (h:(Znx m t u).2=0):Za2 m=true∧Zfk m t∧Zfk m u∧Znx m t u=(Zev m t u,0):=by
 unfold Znx at h ⊢;split at h
 ·rename_i q;simp only [Bool.and_eq_true] at q;exact ⟨q.1.1,q.1.2,q.2,if_pos (by simp only [Bool.and_eq_true];exact q)⟩
 ·cases h
theorem Znz {m:Md}{t u:Ty} (a:Za2 m=true) (b:Zfk m t) (c:Zfk m u):Znx m t u=(Zev m t u,0):=by unfold Znx;rw [if_pos (by simp only [Bool.and_eq_true];exact ⟨⟨a,b⟩,c⟩)]
theorem ZnA (m:Md) (f:Nat) (a:Int):ZaI m f a a=true:=by
 cases f with
 | zero=>simp [ZaI]
 | succ f=>unfold ZaI;rw [if_neg (by omega)];simp
theorem ZnB {m:Md}{a b:Int}{f:Nat} (h:ZaI m f a b=true):b≤a:=by
 by_cases hl:a<b
 ·rw [Zc0 hl] at h;cases h
 ·omega
theorem ZnC {m:Md}{n:Nat} (e:ZcZ m n) {b c:Int} (l:0≤b) (o:0≤c) (i:ZaI m (b.toNat+1) b c=true):∀ (k:Nat) (a:Int),a<k→k≤n→0≤a→ZaI m (a.toNat+1) a b=true→ZaI m (a.toNat+1) a c=true:=by
 intro k
 induction k with
 | zero=>intro a j _ h;omega
 | succ k ih=>
  intro a j t h d;by_cases hab:a=b
  ·subst hab;exact i
  ·have q:=ZnB d;have p:=ZnB i;obtain ⟨r,s⟩:=e a h (by omega);unfold ZaI at d ⊢;rw [if_pos (by omega)] at d ⊢;by_cases hs:0≤m.sup a
   ·rw [Zc2 e l (a:=m.sup a) (f:=a.toNat) (g:=(m.sup a).toNat+1) (by omega) (fun _=>by omega) (fun _=>by omega)] at d;rw [Zc2 e o (a:=m.sup a) (f:=a.toNat) (g:=(m.sup a).toNat+1) (by omega) (fun _=>by omega) (fun _=>by omega)];exact ih (m.sup a) (by omega) (by omega) hs d
   ·rw [Zc0 (by omega)] at d;cases d
theorem ZnD (m:Md) (t:Ty):Zev m t t=true:=by
 unfold Zev;split
 ·exact ZnA m _ _
 ·simp
theorem ZnE {m:Md} (h:Za2 m=true) {t u v:Ty} (i:Zfk m t) (j:Zfk m u) (k:Zfk m v) (b:Zev m t u=true) (a:Zev m u v=true):Zev m t v=true:=by
 unfold Zev at b a ⊢;by_cases hq:t.k=2∧u.k=2
 ·rw [if_pos hq] at b;by_cases hr:u.k=2∧v.k=2
  ·rw [if_pos hr] at a;rw [if_pos ⟨hq.1,hr.2⟩];obtain ⟨d,e⟩:=ZfH i (.inl hq.1);obtain ⟨f,l⟩:=ZfH j (.inl hq.2);obtain ⟨g,n⟩:=ZfH k (.inl hr.2);exact ZnC (Znw h) f g a m.cl.length t.c e (Nat.le_refl _) d b
  ·rw [if_neg hr] at a;have c:u=v:=of_decide_eq_true a;subst c;exact absurd ⟨hq.2,hq.2⟩ hr
 ·rw [if_neg hq] at b;have c:t=u:=of_decide_eq_true b;subst c;exact a
theorem ZnF (m:Md) (h:Hd) (t u:Ty) (w:World) (H:Zaz w h m):Calls Tryz.prog 134 #[.agg (HM.mk h m),.agg #[.int .i64 t.k,.int .i64 t.c],.agg #[.int .i64 u.k,.int .i64 u.c]] w (Zhi w (.bool (Znx m t u).1) (.int .i64 (Znx m t u).2)):=by
 obtain ⟨b,c⟩:∃ b,b=((w.alloc (.cells (HM.mk h m) 26)).alloc (.cells #[.int .i64 t.k,.int .i64 t.c] 38)).alloc (.cells #[.int .i64 u.k,.int .i64 u.c] 38):=⟨_,rfl⟩;have k:Below w.heap.size w b:=by rw [c];exact bE
 have Q:Blk b w.heap.size (HM.mk h m) 26:=by rw [c];exact ((Blk.new w _ _).alloc _).alloc _
 have R:Blk b (w.heap.size+1) #[.int .i64 t.k,.int .i64 t.c] 38:=by rw [c];exact (Blk.new' (w:=w.alloc _) _ _ (by simp)).alloc _
 have S:Blk b (w.heap.size+2) #[.int .i64 u.k,.int .i64 u.c] 38:=by rw [c];exact Blk.new' (w:=(w.alloc _).alloc _) _ _ (by simp)
 have G:=Zh (show ∀ a,Below b.heap.size b a→_ from fun a M=>And.intro (Zj8 (Q.old M)) (And.intro (Zj9 (R.old M)) (Zj9 (S.old M))));have J:∀ a,Below b.heap.size b a→_:=fun a l=>Zhh m h a (H.old (Zag k l));have K:∀ a,Below b.heap.size b a→_:=fun a _=>Zhu m h t a;have L:∀ a,Below b.heap.size b a→_:=fun a _=>Zhu m h u a;obtain ⟨r,P⟩:∃ r,r=Znx m t u:=⟨_,rfl⟩;rw [←P];have hF:∀ a,Below b.heap.size b a→_:=fun a l=>Zht m h t u a (H.old (Zag k l));have d:r=if (Za2 m&&ZaG m.cl.length t 1&&ZaG m.cl.length u 1)=true then (Zhr m t u,0) else (false,1):=by
  rw [P];unfold Znx;by_cases hq:(Za2 m&&ZaG m.cl.length t 1&&ZaG m.cl.length u 1)=true
  ·rw [if_pos hq,if_pos hq];simp only [Bool.and_eq_true] at hq;rw [ZiA hq.1.1 hq.1.2 hq.2]
  ·rw [if_neg hq,if_neg hq]
 clear P;generalize hx:Za2 m=x at J d;generalize hy:ZaG m.cl.length t 1=y at K d;generalize hz:ZaG m.cl.length u 1=z at L d;generalize Zhr m t u=g at hF d;subst d;have T:=Zh J;have V:=Zh K;have W:=Zh L;have U:=Zh hF;have X:=Zh c;have I:=Zh k;clear J K L hF H Q R S c k hx hy hz;have O:(x=false)∨(x=true∧y=false)∨(x=true∧y=true∧z=false)∨(x=true∧y=true∧z=true):=by cases x<;>cases y<;>cases z<;>simp
 rcases O with rfl|⟨rfl,rfl⟩|⟨rfl,rfl,rfl⟩|⟨rfl,rfl,rfl⟩
 all_goals
  go_enter Tryz.func134,Tryz.ntmps134
  go_upto_region 1 with fail
  rw [←X.out];obtain ⟨⟨n,o,q,s⟩,⟨v,A⟩,B,C⟩:=G.out _ (Below.refl _ _)
  go_wp2_with (first
   | (go_at_call 124;refine (T.out _ (Below.refl _ _)).mono ?_;rintro e Y ⟨rfl,D⟩;have f:=Zh D;clear D n o q s v A B C;obtain ⟨⟨n,o,q,s⟩,⟨v,A⟩,B,C⟩:=G.out _ f.out)
   | (go_at_call 202;refine (W.out _ i.out).mono ?_;rintro e w3 ⟨rfl,F⟩;have j:=Zh (Zag i.out F);clear F n o q s v A B C;obtain ⟨⟨n,o,q,s⟩,⟨v,A⟩,B,C⟩:=G.out _ j.out)
   | (go_at_call 202;refine (V.out _ f.out).mono ?_;rintro e Z ⟨rfl,E⟩;have i:=Zh (Zag f.out E);clear E n o q s v A B C;obtain ⟨⟨n,o,q,s⟩,⟨v,A⟩,B,C⟩:=G.out _ i.out)
   | (go_at_call 133;refine (U.out _ j.out).mono ?_;rintro e w4 ⟨rfl,N⟩))
  go_ret2;refine Zhj (by simp) (by simp) (Zag I.out ?_)
  first|exact Zag j.out N|exact j.out|exact i.out|exact f.out
end
