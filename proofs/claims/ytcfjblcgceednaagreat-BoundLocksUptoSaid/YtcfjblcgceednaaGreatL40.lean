import Derived.Test.YtcfjblcgceednaaGreatL39
import Derived.Test.YtcfjblcgceednaaGreatL35
set_option linter.all false
set_option maxRecDepth 100000
set_option maxHeartbeats 16000000
namespace Go.Proofs.YtcfjblcgceednaaGreat
theorem j14{p:Prop}(h:p:=by
 obtain ⟨⟨ao,cap,V,hu,rfl,hrow⟩,hb⟩:=h;exact ⟨⟨ao,cap,V,0,.inl ⟨hr,by rw [Int.toNat_natCast];exact hu,rfl⟩,rfl,hrow⟩,hb⟩):p:=h
theorem j21{p:Prop}(h:p:=by
 obtain ⟨rfl,hb⟩:=h;exact ⟨⟨none,0,[],1,.inr ⟨hr,rfl,rfl⟩,rfl,Zar.nil _⟩,hb⟩):p:=h
section
open Go.RowKit
attribute [local go_sem] World.cell?_alloc_some
def NoZ (c:List In3):Prop:=∀ i∈c,i.op=30→i.a≠0
def Zto (w:World) (m:Md) (k:Nat):Ending→World→Prop:=fun e w'=>(∃ b,e=.returned (.bool b)∧(b=false→∀ j,Rch m k j→NoZ (cdM m j)))∧Below w.heap.size w w'
theorem Ztp (m:Md) (h:Hd) (k:Nat) (w:World) (H:Zay w h m) (hv:Za1 m=true) (hk:k<m.me.length):Calls Tryz.prog 53 #[.agg (HM.mk h m),.int .i64 k] w (Zto w m k):=by
 obtain ⟨z,u⟩:∃ z,z=w.alloc (.cells (HM.mk h m) 26):=⟨_,rfl⟩;have Z:=Zh (show Below w.heap.size w z by rw [u];exact bE);have HX:=Zh (show Blk z w.heap.size (HM.mk h m) 26 by rw [u];exact Blk.new _ _ _);have Hj:=Zh (H.old Z.out);have HW:=Zh u;have G:=Zh (show Below z.heap.size z (z.alloc (.cells #[.int .i64 k] 3)) by exact bE);have ae:=Zh (ZsP m h k _ z.heap.size 1 (Hj.out.old G.out) hv hk (show Zar _ (some ⟨z.heap.size,0,none⟩) 1 [(k:Int)] from ZdL (n:=1) (size:=1) (Blk.new _ #[.int .i64 k] 3) rfl));have HV:=Zh hv;clear u H hv;go_enter Tryz.func53,Tryz.ntmps53
 go_upto_region 1 with fail
 rw [←HW.out];obtain ⟨x0,x1,X,x3⟩:=Zj5 HX.out
 go_upto_region 3 with (go_at_call 111;refine ae.out.mono ?_;rintro e w3 ⟨⟨o1,o2,o3,c1,c2,c3,n2,n3,y,rfl,hr,F,hl⟩,M⟩;have K:=Zh hr;have J:=Zh F;have I:=Zh (Zaf G.out M);clear hr F M x0 x1 X x3)
 go_loopw [9] (fun i wr=>∃ q:Nat,q≤y.length∧i=.int .i64 q∧Hid (∀ x∈y.take q,NoZ (cdM m x.toNat))∧Hid (Below w3.heap.size w3 wr)) (fun i _=>y.length-(intOf i).toNat)
 case atStart=>exact ⟨0,Nat.zero_le _,rfl,(fun x W=>by simp at W),Below.refl _ _⟩
 case round=>
  obtain ⟨q,hq,rfl,HZ,g⟩:=hrel;rename World=>Y;by_cases hql:q<y.length
  ·have T:(q:Int) < y.length:=by omega
   have aF:IntKind.i64.wrap ((q:Int)+1)=((q+1:Nat):Int):=IntWalk.i64_in _ (by omega);obtain ⟨td,rfl,t0⟩:=ZaB (K.out.old g.out) hql;obtain ⟨j,C,U⟩:=(J.out _).1 (ZfU (0:Int) hql);have V:y.take (q+1)=y.take q++[(j:Int)]:=by rw [List.take_succ_eq_append_getElem hql,←C];congr 1;simp [hql]
   rw [C] at t0;have B:j<m.me.length:=by have:=U.le HV.out hk;omega
   have ar:(j:Int) < m.me.length:=by omega
   have ai:(cdM m j).length≤120:=(ZfN HV.out B).z.2.2;have r:=Zh (Zaf I.out g.out);obtain ⟨ad,N,-,-,-,-,-,-,E⟩:=(Hj.out.old r.out).mth B;rw [show (m.me.getD j default).k.length=(cdM m j).length from rfl] at E;have X:=(HX.out.old r.out).cell 2 (v:=.slice h.eo m.me.length h.ec) rfl;rw [N] at X;have s:=Zh (show Zar Y (h.e j).ko (h.e j).kc (cdM m j) from (Hj.out.old r.out).k j B);have af:=Zh V;generalize (h.e j).ko=ko at E s;generalize (h.e j).kc=kc at E s;obtain ⟨b,A⟩:∃ c,c=cdM m j:=⟨_,rfl⟩;rw [←A] at E s ai;have aa:=Zh A;clear C U V N A
   go_upto_region 5 with fail
   refine rO (Cs [(⟨w.heap.size,2,none⟩,.slice (some ad) m.me.length h.ec),(td.add q,.int .i64 j),(⟨(ad.add (j*7)).block,(ad.add (j*7)).off+6,none⟩,.slice ko b.length kc)]) (oL [0,1,2,3,4,5,6,7,8,9]) ⟨X,t0,E,trivial⟩ ?_;clear X t0 E
   repeat refine pO ?_
   refine Zd5 ?_
   go_wp2_with fail
   go_loopw [11] (fun i wr=>∃ p:Nat,p≤b.length∧i=.int .i64 p∧Hid (NoZ (b.take p))∧Hid (Below Y.heap.size Y wr)) (fun i _=>b.length-(intOf i).toNat)
   case atStart=>exact ⟨0,Nat.zero_le _,rfl,(fun x W=>by simp at W),(Below.refl _ Y).drew⟩
   case round=>
    obtain ⟨p,hp,rfl,HN,f⟩:=hrel;rename World=>wp;by_cases hpl:p<b.length
    ·have R:(p:Int) < b.length:=by omega
     have aE:IntKind.i64.wrap ((p:Int)+1)=((p+1:Nat):Int):=IntWalk.i64_in _ (by omega);obtain ⟨kd,rfl,o0,o1,o2⟩:=ZaA (s.out.old f.out) hpl;have D:b.take (p+1)=b.take p++[b.getD p default]:=by rw [List.take_succ_eq_append_getElem hpl];congr 1;simp [hpl]
     obtain ⟨it,O⟩:∃ q,q=b.getD p default:=⟨_,rfl⟩;rw [←O] at o0 o1 o2 D;have L:=Zh D;obtain ⟨op,ia,ib⟩:=it;dsimp only at o0 o1 o2;clear D O;by_cases h30:op=30
     ·subst h30;by_cases ha:ia=0
      ·subst ha
       go_wp2_with fail
       go_ret;exact ⟨⟨true,rfl,fun e=>by cases e⟩,Zaf Z.out (Zaf r.out f.out)⟩
      ·have hb:(ia == 0)=false:=by simpa using ha
       go_wp2_with fail
       refine ⟨⟨p+1,hpl,rfl,?_,f.out⟩,by simp [intOf];omega⟩;show NoZ (b.take (p+1));rw [L.out];intro i F;rcases List.mem_append.1 F with q1|q1
       ·exact HN.out i q1
       ·rw [List.mem_singleton.1 q1];exact fun _=>ha
     ·have hb:(op == 30)=false:=by simpa using h30
      go_wp2_with fail
      refine ⟨⟨p+1,hpl,rfl,?_,f.out⟩,by simp [intOf];omega⟩;show NoZ (b.take (p+1));rw [L.out];intro i F;rcases List.mem_append.1 F with q1|q1
      ·exact HN.out i q1
      ·rw [List.mem_singleton.1 q1];exact fun e=>absurd e h30
    ·have R:¬ (p:Int) < b.length:=by omega
     go_wp2_with fail
     refine ⟨⟨q+1,hql,rfl,?_,Zaf g.out f.out⟩,by simp [intOf];omega⟩;show ∀ x∈y.take (q+1),NoZ (cdM m x.toNat);rw [af.out];intro x W;rcases List.mem_append.1 W with q1|q1
     ·exact HZ.out x q1
     ·rw [List.mem_singleton.1 q1,Int.toNat_natCast,←aa.out];have hn:=HN.out;rwa [List.take_of_length_le (by omega)] at hn
  ·have T:¬ (q:Int) < y.length:=by omega
   have hz:=HZ.out;rw [List.take_of_length_le (by omega)] at hz;have ag:=Zh hz;clear hz
   go_wp2_with fail
   go_ret;exact ⟨⟨false,rfl,fun _ j hj=>by have:=ag.out (j:Int) ((J.out _).2 ⟨j,rfl,hj⟩);rwa [Int.toNat_natCast] at this⟩,Zaf Z.out (Zaf I.out g.out)⟩
def Ztq (m:Md) (k lock:Int) (r:Int × Int):Prop:=(ZoS m k=true∧0≤lock∧lock<6∧∃ v,Zsn m k.toNat lock v∧r=(if 1000000000<v then 0 else v,if 1000000000<v then 6 else 0))∨((ZoS m k=false∨lock<0∨6≤lock)∧r=(0,1))
theorem Ztr {m:Md}{k lock:Int}{r s:Int × Int} (h:Ztq m k lock r) (g:Ztq m k lock s):r=s:=by
 rcases h with ⟨b,i,j,v,f,rfl⟩|⟨b,rfl⟩
 ·rcases g with ⟨a,d,e,u,c,rfl⟩|⟨a,rfl⟩
  ·rw [Zsp f c]
  ·rcases a with q|q|q
   ·rw [b] at q;cases q
   ·omega
   ·omega
 ·rcases g with ⟨a,d,e,u,c,rfl⟩|⟨a,rfl⟩
  ·rcases b with q|q|q
   ·rw [a] at q;cases q
   ·omega
   ·omega
  ·rfl
def Zts (w:World) (m:Md) (k lock:Int):Ending→World→Prop:=fun e w'=>(∃ r,Ztq m k lock r∧e=.returned (.tuple #[.int .i64 r.1,.int .i64 r.2]))∧Below w.heap.size w w'
theorem Ztt {w w':World}{m:Md}{k:Nat}{lock:Int}{e:Ending} (c:ZoS m k=true) (a:0≤lock∧lock<6) (h:Zss w m k lock e w'):Zts w m k lock e w':=by obtain ⟨⟨v,d,rfl⟩,b⟩:=h;exact ⟨⟨_,.inl ⟨c,a.1,a.2,v,by rw [Int.toNat_natCast];exact d,rfl⟩,rfl⟩,b⟩
theorem Ztu {w w':World}{m:Md}{k lock:Int}{e:Ending} (b:ZoS m k=false∨lock<0∨6≤lock) (h:Zhf w (.int .i64 0) (.int .i64 1) e w'):Zts w m k lock e w':=by obtain ⟨rfl,a⟩:=h;exact ⟨⟨_,.inr ⟨b,rfl⟩,rfl⟩,a⟩
theorem Ztv (m:Md) (k lock:Int):(ZoS m k=true∧0≤lock∧lock<6)∨(ZoS m k=false∨lock<0∨6≤lock):=by
 cases h:ZoS m k
 ·exact .inr (.inl rfl)
 ·by_cases h1:lock<0
  ·exact .inr (.inr (.inl h1))
  ·by_cases h2:6≤lock
   ·exact .inr (.inr (.inr h2))
   ·exact .inl ⟨rfl,by omega,by omega⟩
theorem Ztw (m:Md) (h:Hd) (k lock:Int) (w:World) (H:Zay w h m):Calls Tryz.prog 46 #[.agg (HM.mk h m),.int .i64 k,.int .i64 lock] w (Zts w m k lock):=by
 rcases Ztv m k lock with ⟨a,b,c⟩|f
 ·obtain ⟨l,g,i⟩:=ZoT a;obtain ⟨j,rfl⟩:∃ d:Nat,k=d:=⟨k.toNat,by omega⟩;exact (Zsu m h j lock w H a l (by omega) ⟨b,c⟩).mono fun e n=>Ztt a ⟨b,c⟩
 ·exact (Zst m h k lock w H f).mono fun e n=>Ztu f
theorem Ztx (m:Md) (h:Hd) (k lock:Int) (w:World) (H:Zay w h m):Calls Tryz.prog 47 #[.agg (HM.mk h m),.int .i64 k,.int .i64 lock] w (Zts w m k lock):=by
 rcases Ztv m k lock with ⟨a,b,c⟩|f
 ·obtain ⟨n,g,i⟩:=ZoT a;obtain ⟨j,rfl⟩:∃ d:Nat,k=d:=⟨k.toNat,by omega⟩;exact (Ztj m h j lock w H a (by omega) ⟨b,c⟩).mono fun e l=>Ztt a ⟨b,c⟩
 ·exact (Zti m h k lock w H f).mono fun e l=>Ztu f
def Zty (m:Md) (k:Int) (V:List Int) (er:Int):Prop:=(ZoS m k=true∧Zs1 m k.toNat V∧er=0)∨(ZoS m k=false∧V=[]∧er=1)
theorem Ztz {m:Md}{k:Int}{V U:List Int}{a b:Int} (h:Zty m k V a) (g:Zty m k U b):V=U∧a=b:=by
 rcases h with ⟨d,f,rfl⟩|⟨d,rfl,rfl⟩
 ·rcases g with ⟨c,e,rfl⟩|⟨c,rfl,rfl⟩
  ·exact ⟨Zs2 f e,rfl⟩
  ·rw [d] at c;cases c
 ·rcases g with ⟨c,e,rfl⟩|⟨c,rfl,rfl⟩
  ·rw [d] at c;cases c
  ·exact ⟨rfl,rfl⟩
theorem ZtA {m:Md}{k:Int}{U:List Int}{d:Int} (h:Zty m k U d):U.length≤6:=by
 rcases h with ⟨a,b,rfl⟩|⟨a,rfl,rfl⟩
 ·obtain ⟨c,g,l⟩:=ZoT a;refine ZsI b.1 fun x o=>?_;obtain ⟨j,f,i,e,n,rfl⟩:=(b.2 x).1 o;exact Ztl ((ZfN c (k:=j) (by have:=f.le c (show k.toNat<m.me.length by omega);omega)).i i e).1 n
 ·simp
def ZtB (w:World) (m:Md) (k:Int):Ending→World→Prop:=fun e w'=>(∃ (ao:Option Addr) (cap:Nat) (V:List Int) (er:Int),Zty m k V er∧e=.returned (.tuple #[.slice ao V.length cap,.int .i64 er])∧Zar w' ao cap V)∧Below w.heap.size w w'
theorem ZtC (m:Md) (h:Hd) (k:Int) (w:World) (H:Zay w h m):Calls Tryz.prog 48 #[.agg (HM.mk h m),.int .i64 k] w (ZtB w m k):=by
 cases hr:ZoS m k
 ·refine (Zs5 m h k w H hr).mono fun e f h=>?_;exact j21
 ·obtain ⟨c,a,b⟩:=ZoT hr;obtain ⟨j,rfl⟩:∃ d:Nat,k=d:=⟨k.toNat,by omega⟩;refine (Zs6 m h j w H hr c (by omega)).mono fun e f h=>?_;exact j14
theorem ZtD (m:Md) (h:Hd) (k:Int) (w:World) (H:Zay w h m):Calls Tryz.prog 49 #[.agg (HM.mk h m),.int .i64 k] w (ZtB w m k):=by
 cases hr:ZoS m k
 ·refine (Ztm m h k w H hr).mono fun e c h=>?_;exact j21
 ·obtain ⟨f,a,b⟩:=ZoT hr;obtain ⟨j,rfl⟩:∃ d:Nat,k=d:=⟨k.toNat,by omega⟩;refine (Ztn m h j w H hr (by omega)).mono fun e c h=>?_;exact j14
theorem ZtE {m:Md}{k:Nat} (g:ZoS m k=true) {lock:Int}{r:Int × Int} (n:Ztq m k lock r) (b:r.2=0) (h:∀ j,Rch m k j→NoZ (cdM m j)):(ZoV m k).2=6∨((ZoV m k).2=0∧(ZoV m k).1 ≥ r.1):=by
 obtain ⟨a,i,l⟩:=ZoT g;have f:k<m.me.length:=by omega
 rcases n with ⟨_,_,_,v,o,rfl⟩|⟨_,rfl⟩
 ·obtain ⟨L,e,rfl⟩:=o;rw [Int.toNat_natCast] at e;have d:Zqj m lock L≤Zm1 (gW ZmV m) m k:=by refine Zql (Zp9 a k).1 fun x p=>?_;obtain ⟨j,rfl,c⟩:=(e x).1 p;rw [Int.toNat_natCast];exact Int.le_trans (Zqg a (by have:=c.le a f;omega) lock (h j c)) (Zqi a f h c)
  unfold ZoV;rw [if_pos g,Int.toNat_natCast];dsimp only at b ⊢;by_cases hc:1000000000<Zqj m lock L
  ·rw [if_pos hc] at b;omega
  ·rw [if_neg hc];by_cases hw:1000000000<Zm1 (gW ZmV m) m k
   ·rw [if_pos hw];exact .inl rfl
   ·rw [if_neg hw];exact .inr ⟨rfl,d⟩
 ·cases b
theorem ZtF (m:Md) (h:Hd) (k lock:Int) (W:World) (H:Zay W h m):Calls Tryz.prog 10 #[.agg (HM.mk h m),.int .i64 k,.int .i64 lock] W fun e w'=>e=.returned (.bool true)∧Below W.heap.size W w':=by
 obtain ⟨n,B⟩:∃ n,n=W.alloc (.cells (HM.mk h m) 26):=⟨_,rfl⟩;have Q:=Zh (show Below W.heap.size W n by rw [B];exact bE);have t:=Zh (show Blk n W.heap.size (HM.mk h m) 26 by rw [B];exact Blk.new _ _ _);have y:=Zh (H.old Q.out);have HW:=Zh B;have L:=fun w' (hb:Below n.heap.size n w')=>Zq0 m h k w' (y.out.old hb);have M:=fun w' (hb:Below n.heap.size n w')=>Zte m h k w' (y.out.old hb);generalize ZqZ m k=em at L M;obtain ⟨aD,aE⟩:=em;have af:=Zh L;have ah:=Zh M;clear B H L M;go_enter Tryz.func10,Tryz.ntmps10
 go_upto_region 1 with fail
 rw [←HW.out];obtain ⟨c,f,g,i⟩:=Zj5 t.out
 go_upto_region 3 with (first
  | (go_at_call 44;refine (Zor m h _ y.out).mono ?_;rintro e w1 ⟨⟨b,rfl⟩,T⟩;have u:=Zh T;clear T c f g i;obtain ⟨c,f,g,i⟩:=Zj5 (t.out.old u.out))
  | (go_at_call 45;refine (Zr3 _).mono ?_;rintro e wz ⟨rfl,a⟩))
 ·go_ret;exact ⟨by trivial,Zaf Q.out (Zaf u.out a)⟩
 ·go_upto_region 9 with (first
   | (go_at_call 46;refine (Ztw m h k lock _ (y.out.old u.out)).mono ?_;rintro e w2 ⟨⟨⟨r1,r2⟩,hs,rfl⟩,X⟩;have HS:=Zh hs;have D:=Zh (Zaf u.out X);clear hs X;clear c f g i;obtain ⟨c,f,g,i⟩:=Zj5 (t.out.old D.out))
   | (go_at_call 47;refine (Ztx m h k lock _ (y.out.old D.out)).mono ?_;rintro e w3 ⟨⟨⟨s1,s2⟩,ad,rfl⟩,Y⟩;obtain ⟨rfl,rfl⟩:s1=r1∧s2=r2:=(by have hq:=Ztr ad HS.out;cases hq;exact ⟨rfl,rfl⟩);have E:=Zh (Zaf D.out Y);clear ad Y;clear c f g i;obtain ⟨c,f,g,i⟩:=Zj5 (t.out.old E.out))
   | (go_at_call 48;refine (ZtC m h k _ (y.out.old E.out)).mono ?_;rintro e w4 ⟨⟨ao,ac,V,er,hu,rfl,l⟩,Z⟩;have HU:=Zh hu;have J:=Zh l;have F:=Zh (Zaf E.out Z);clear hu l Z;clear c f g i;obtain ⟨c,f,g,i⟩:=Zj5 (t.out.old F.out))
   | (go_at_call 49;refine (ZtD m h k _ (y.out.old F.out)).mono ?_;rintro e w5 ⟨⟨bo,bc,U,fr,hu,rfl,l⟩,K⟩;obtain ⟨rfl,rfl⟩:=Ztz hu HU.out;have o:=Zh (And.intro (J.out.old K) l);have G:=Zh (Zaf F.out K);clear hu l K;clear c f g i;obtain ⟨c,f,g,i⟩:=Zj5 (t.out.old G.out))
   | (go_at_call 50;refine (af.out _ G.out).mono ?_;rintro e w6 ⟨rfl,z⟩;have r:=Zh (And.intro (o.out.1.old z) (o.out.2.old z));have I:=Zh (Zaf G.out z);clear z;clear c f g i;obtain ⟨c,f,g,i⟩:=Zj5 (t.out.old I.out))
   | (go_at_call 51;refine (ah.out _ I.out).mono ?_;rintro e w7 ⟨rfl,A⟩;have s:=Zh (And.intro (r.out.1.old A) (r.out.2.old A));have S:=Zh (Zaf I.out A);clear A;clear c f g i;obtain ⟨c,f,g,i⟩:=Zj5 (t.out.old S.out)))
  have aG:=ZtA HU.out;clear c f g i
  go_upto_region 11 with (go_at_call 52;refine (Zr2 _ ao bo ac bc U U s.out.1 s.out.2 (by omega)).mono ?_;rintro e w8 ⟨rfl,aa⟩;rw [show decide (U=U)=true from decide_eq_true rfl];have v:=Zh (Zaf S.out aa);clear aa)
  by_cases h0:s2=0
  ·subst h0;have N:ZoS m k=true:=by
    rcases HS.out with ⟨q,_⟩|⟨_,q⟩
    ·exact q
    ·cases q
   obtain ⟨hm,al,am⟩:=ZoT N;obtain ⟨j,rfl⟩:∃ d:Nat,k=d:=⟨k.toNat,by omega⟩;have ag:=Zh (fun w' (hb:Below n.heap.size n w')=>Ztp m h j w' (y.out.old hb) hm (by omega));have P:=fun w' (hb:Below n.heap.size n w')=>ZoX m h j w' (y.out.old hb);have O:=fun hz=>ZtE N HS.out rfl hz;generalize ZoV m j=wo at P O;obtain ⟨wv,we⟩:=wo;have ak:=Zh P;have aj:=Zh O;clear P O hm al am N;obtain ⟨c,f,g,i⟩:=Zj5 (t.out.old v.out)
   go_upto_region 14 with (first
    | (go_at_call 53;refine (ag.out _ v.out).mono ?_;rintro e w9 ⟨⟨b2,rfl,a⟩,ab⟩;have HZ:=Zh a;have x:=Zh (Zaf v.out ab);clear a ab c f g i;obtain ⟨c,f,g,i⟩:=Zj5 (t.out.old x.out))
    | (go_at_call 45;refine (Zr3 _).mono ?_;rintro e wz ⟨rfl,a⟩)
    | (go_at_call 54;refine (ak.out _ x.out).mono ?_;rintro e aL ⟨rfl,C⟩;have R:=Zh (Zaf x.out C);clear C c f g i))
   ·go_ret;exact ⟨by trivial,Zaf Q.out (Zaf x.out a)⟩
   ·have hq:=aj.out (HZ.out (by first|assumption|(cases b2<;>simp_all)));rcases hq with rfl|⟨rfl,hge⟩
    all_goals
     go_wp2_with (go_at_call 45;refine (Zr3 _).mono ?_;rintro e wz ⟨rfl,a⟩)
     go_ret;exact ⟨by trivial,Zaf Q.out (Zaf R.out a)⟩
  ·have aF:(s2 == 0)=false:=by simpa using h0
   go_wp2_with (go_at_call 45;refine (Zr3 _).mono ?_;rintro e wz ⟨rfl,a⟩)
   go_ret;exact ⟨by trivial,Zaf Q.out (Zaf v.out a)⟩
end
