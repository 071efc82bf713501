import Derived.Test.YtcfjblcgceednaaGreatG3
import Derived.Test.YtcfjblcgceednaaGreatG6
set_option linter.all false
set_option maxRecDepth 100000
set_option maxHeartbeats 8000000
namespace Go.Proofs.YtcfjblcgceednaaGreat
theorem k43{p:Prop}(h:p:=by
 have HR:=Zh hrel2;clear hrel2 hok;go_wp2;go_roundw
 case rel=>exact ⟨k+1,by omega,by go_num,HBL2.out,Zh HR.out⟩
 case measure=>simp [intOf];omega):p:=h
theorem k47{p:Prop}(h:p:=by
 have hrel2:∀ i,i<s+1→ZaJ m k i=true:=fun i hi=>by
  by_cases his:i<s
  ·exact q1.out i his
  ·obtain rfl:i=s:=by omega
   exact hsok
 have HR:=Zh hrel2;clear hrel2 hsok;go_wp2;go_roundw
 case rel=>exact ⟨s+1,by omega,by go_num,HBL.out,Zh HR.out⟩
 case measure=>simp [intOf];omega):p:=h
theorem k61{p:Prop}(h:p:=by
 by_cases hik:i<k
 ·exact q1.out i hik
 ·obtain rfl:i=k:=by omega
  exact hok):p:=h
theorem k68{p:Prop}(h:p:=by
 go_wp2;go_ret;exact ZcT (ZcX (by rw [HQ.out,ZaC hkl HQc.out];simp)) HBW2.out):p:=h
theorem k80{p:Prop}(h:p:=by
 have HN:=Zh hn;clear hn
 go_wp2_with fail
 go_ret;exact ZcT (ZcY (by rw [HE.out,HN.out];rfl)) (Zaf hb01 hb2)):p:=h
theorem k81{p:Prop}(h:p:=by
 go_wp2_with fail
 refine HC.out.mono ?_;rintro e1 w1 ⟨rfl,hb1⟩;go_wp2;go_ret;exact ZcT rfl (Zaf HB0.out hb1)):p:=h
theorem k99{p:Prop}(h:p:=by
 go_wp2_with fail
 go_ret;exact ZcT (ZcX (by rw [decide_eq_false (show ¬ a<m.sel by omega)];rfl)) bE):p:=h
theorem ZgL{p:Prop}(h:p:=by
 go_wp2;go_ret;exact ZcT (ZcX (by rw [decide_eq_false (show ¬ a<(k:Int) by omega)];rfl)) bE):p:=h
theorem k98{p:Prop}(h:p:=by
 unfold Zar;rw [Zat];exact ZdL hR rfl):p:=h
section
open Go.RowKit
theorem ZgM {α:Type} (l:List α) (p:α→Bool):(l.any fun x=>!p x)=!(l.all p):=by
 induction l with
 | nil=>rfl
 | cons x r ih=>simp only [List.any_cons,List.all_cons,ih,Bool.not_and]
theorem ZgN (l:List In3) (r:Option Addr) (c:Nat) (p:Bool) (w:World) (z:Zar w r c l) :
  Calls Tryz.prog 299 #[.slice r l.length c,.bool p] w (Ret w (.int .i64 (ZaV p l))):=by
 have v:=Zh z;obtain ⟨B,s⟩:∃ B,B=w.heap.size:=⟨_,rfl⟩;generalize hq:ZaV p l=q;have o:=Zh hq;clear z hq;by_cases hlen:l.length≤120
 ·have t:¬ (l.length:Int) > 120:=by omega
  have G:¬ (120:Int) < l.length:=by omega
  have d:¬ 120<l.length:=by omega
  have x:∀ A W,(callFunc 355 (A++#[.pointer (some ⟨B,0,none⟩)])).run Tryz.prog W=.ok (.enter 355 (A++#[.pointer (some ⟨B,0,none⟩)])) W:=fun A W=>by kernel_rfl
  have f:=(Below.refl w.heap.size w).alloc (Nat.le_refl _) (.cells #[.bool p] 4);have E:=Blk.new' (w:=w) #[.bool p] 4 s;have a:=Zdn l r c 355 #[ZQ.p B] (fun i=>!ZaQ p i) (w.alloc (.cells #[.bool p] 4)) (by omega) (v.out.old f) x (fun k N L F=>Zdj (l.getD k default) p B L ((E.old F).cell 0 rfl));rw [ZgM] at a;have u:=Zh a;clear x a;rcases hall:l.all (ZaQ p) with _|_
  ·have j:=Zh hall;clear hall;go_enter Tryz.func299,Tryz.ntmps299
   go_wp2_with fail
   rw [←s];have h:=u.out;rw [j.out] at h;refine h.mono ?_;clear h;rintro e C ⟨rfl,g⟩
   go_wp2_with fail
   go_ret;refine ZcT (ZcY ?_) (Zaf f g);rw [←o.out,ZaV,if_neg d,j.out];rfl
  ·have j:=Zh hall;clear hall;go_enter Tryz.func299,Tryz.ntmps299
   go_wp2_with fail
   rw [←s];have h:=u.out;rw [j.out] at h;refine h.mono ?_;clear h;rintro e C ⟨rfl,g⟩;have hb01:=Zaf f g;have m:=Zda l r c C (v.out.old hb01) hlen;have D:=Zh m;clear m
   go_wp2_with fail
   refine D.out.mono ?_;rintro e O ⟨⟨H,I,J,K,n,rfl⟩,hb2⟩;have M:∀ (b:Bool) w,Sem.run Tryz.prog (Instr.field 245 (.agg #[H,I,J,K,.int .i64 n,.bool b]) 5) w=.ok (.bool b) w:=fun b w=>by kernel_rfl
   have y:q=if ZaU l then 0 else 7:=by rw [←o.out,ZaV,if_neg d,j.out];rfl
   have HE:=Zh y;clear y o;rcases hn:ZaU l with _|_
   ·exact k80
   ·exact k80
 ·have t:(120:Int) < l.length:=by omega
  have d:120<l.length:=by omega
  go_enter Tryz.func299,Tryz.ntmps299
  go_wp2_with fail
  go_ret;exact ZcT (ZcY (by rw [←o.out,ZaV,if_pos d])) bE
end
section
open Go.RowKit
theorem ZgO (m:Md) (h:Hd) (n:Int) (w:World):Calls Tryz.prog 358 #[.agg (HM.mk h m),.int .i64 n] w (Ret w (.bool (decide (0≤n)&&decide (n<m.cl.length)))):=by
 go_enter Tryz.func358,Tryz.ntmps358;go_wp2
 all_goals
  go_ret;exact ZcT (ZcX (by grind)) bE
theorem ZgP (m:Md) (h:Hd) (t:Ty) (a:Int) (w:World):Calls Tryz.prog 309 #[.agg (HM.mk h m),.agg #[.int .i64 t.k,.int .i64 t.c],.int .i64 a] w (Ret w (.bool (ZaF m.cl.length t a))):=by
 go_enter Tryz.func309,Tryz.ntmps309
 go_wp2_with (go_at_call 358;refine (ZgO _ _ _ _).mono ?_;rintro e c ⟨rfl,b⟩)
 all_goals
  go_ret;exact ZcT (ZcX (by grind [ZaF])) bE
def ZgQ (w:World) (B:Nat) (h:Hd) (m:Md):Prop:=Blk w B (HM.mk h m) 205
theorem ZgR {w:World}{B:Nat}{h:Hd}{m:Md} (H:ZgQ w B h m):w.cell? ⟨B,0,none⟩=some (.slice h.co m.cl.length h.cc)∧w.cell? ⟨B,1,none⟩=some (.slice h.so m.st.length h.sc)∧w.cell? ⟨B,2,none⟩=some (.slice h.eo m.me.length h.ec)∧w.cell? ⟨B,3,none⟩=some (.int .i64 m.sel):=⟨H.cell 0 rfl,H.cell 1 rfl,H.cell 2 rfl,H.cell 3 rfl⟩
theorem ZgQ.old {w w':World}{B:Nat}{h:Hd}{m:Md} (H:ZgQ w B h m) (hb:Below w.heap.size w w'):ZgQ w' B h m:=Blk.old H hb
theorem ZgQ.lt {w:World}{B:Nat}{h:Hd}{m:Md} (H:ZgQ w B h m):B<w.heap.size:=Blk.lt H
theorem ZgS (m:Md) (h:Hd) (t:Ty) (B:Nat) (w:World) (a:ZgQ w B h m):Calls Tryz.prog 308 #[.agg #[.int .i64 t.k,.int .i64 t.c],ZQ.p B] w (Ret w (.bool (!ZaF m.cl.length t 1))):=by
 obtain ⟨c,d,f,g⟩:=ZgR a;have i:=a.lt;clear a;go_enter Tryz.func308,Tryz.ntmps308
 go_wp2_with (go_at_call 309;refine (ZgP m h t 1 _).mono ?_;rintro e j ⟨rfl,b⟩)
 go_ret;exact ZcT rfl bE
theorem ZgT (m:Md) (h:Hd) (l:List Ty) (f:Option Addr) (c:Nat) (a:Int) (w:World) (n:Zar w f c l) (v:a≤1000000):Calls Tryz.prog 238 #[.agg (HM.mk h m),.slice f l.length c,.int .i64 a] w (Ret w (.bool (decide ((l.length:Int)≤a)&&ZaG m.cl.length l))):=by
 obtain ⟨B,i⟩:∃ B,B=w.heap.size:=⟨_,rfl⟩;by_cases hlen:(l.length:Int)≤a
 ·have d:=(Below.refl w.heap.size w).alloc (Nat.le_refl _) (.cells (HM.mk h m) 205);have j:ZgQ _ B h m:=Blk.new' (w:=w) (HM.mk h m) 205 i;have b:=Zdp l f c 308 #[ZQ.p B] (fun t=>!ZaF m.cl.length t 1) (w.alloc (.cells (HM.mk h m) 205)) (by omega) (n.old d) (fun A W=>by kernel_rfl) (fun k u s r=>ZgS m h (l.getD k default) B s (j.old r));rw [ZgM] at b;have o:=Zh b;have q:decide ((l.length:Int)≤a)=true:=by simp;omega
  clear n j b;go_enter Tryz.func238,Tryz.ntmps238
  go_wp2_with fail
  rw [←i];refine o.out.mono ?_;rintro e x ⟨rfl,g⟩;go_wp2;go_ret;exact ZcT (ZcX (by simp [hlen,ZaG])) (Zaf d g)
 ·have q:decide ((l.length:Int)≤a)=false:=by simp;omega
  go_enter Tryz.func238,Tryz.ntmps238;go_wp2;go_ret;exact ZcT (ZcX (by simp [hlen])) bE
theorem ZgU (m:Md) (h:Hd) (a b:Int) (w:World) (H:Zay w h m) (n:0≤b) (P:a<m.cl.length) (v:Zc3 m (a.toNat+1)):Calls Tryz.prog 332 #[.agg (HM.mk h m),.int .i64 a,.int .i64 b] w (Ret w (.bool (ZaH m (a.toNat+1) a b))):=by
 obtain ⟨q,o⟩:∃ q,q=ZaH m (a.toNat+1) a b:=⟨_,rfl⟩;rw [←o];have z:=Zh o;clear o;obtain ⟨B,A,M,L,I,G,Q,R⟩:=h;dsimp only;have N:=Zh H;have r:=Zh v;have d:=(Below.refl w.heap.size w).alloc (Nat.le_refl _) (.cells #[.slice B m.cl.length A,.slice M m.st.length L,.slice I m.me.length G,.int .i64 m.sel] 205);have l:=Zh (H.old d);clear H v d;go_enter Tryz.func332,Tryz.ntmps332;go_wp2
 go_loop [1] (fun x=>∃ k:Int,x=.int .i64 k∧k≤a∧ZaH m (k.toNat+1) k b=q) (fun x=>(intOf x+1).toNat)
 case atStart=>exact ⟨a,rfl,by omega,z.out.symm⟩
 case round=>
  obtain ⟨k,rfl,J,j⟩:=hrel;have t:=Zh j;clear j;by_cases hlt:b<k
  ·obtain ⟨c,rfl⟩:∃ c:Nat,k=c:=⟨k.toNat,by omega⟩;obtain ⟨O,g,C,D,E,F⟩:=l.out.cls (i:=c) (by omega);dsimp only at g;subst g;clear C E F;have K:=r.out c (by omega) (by omega);have e:m.sup c=(m.cl.getD c default).sup:=rfl;generalize (m.cl.getD c default).sup=s at D e;have u:=Zh e;clear e;rw [u.out] at K;go_wp2
   go_round
   case rel=>
    refine ⟨s,rfl,by omega,?_⟩;have f:=t.out;rw [ZaH,if_pos hlt,u.out,Int.toNat_natCast] at f;rw [←f];exact Zc6 r.out n (by omega) (by omega) (by omega)
   case measure=>simp [intOf];omega
  ·have y:¬ k > b:=by omega
   go_wp2;go_ret;refine ZcT (ZcX ?_) bE;have f:=t.out;rw [ZaH,if_neg (by omega)] at f;rw [←f];grind
end
section
open Go.RowKit
theorem ZgV (m:Md) (h:Hd) (k s n:Nat) (w:World) (H:Zay w h m) (hk:k<m.cl.length) (T:n<m.me.length) (D:Zc3 m (k+1)) (hs:s<m.sel) (E:∀ j,j≤k→((m.cl.getD j default).m.length:Int)=m.sel):Calls Tryz.prog 310 #[.agg (HM.mk h m),.int .i64 k,.int .i64 s,.int .i64 n] w (Ret w (.bool (ZaI m k s n))):=by
 have a:=(Below.refl w.heap.size w).alloc (Nat.le_refl _) (.cells (HM.mk h m) 205);have C:ZgQ _ w.heap.size h m:=Blk.new w (HM.mk h m) 205;obtain ⟨ad,t,-,X,-,-,-,-,-⟩:=(H.old a).mth T;have c:m.own n=(m.me.getD n default).c:=rfl;generalize (m.me.getD n default).c=own at X c;have F:ZaI m k s n=(decide (0≤own)&&decide (own≤k)&&ZaH m (k+1) k own&&decide (m.ent own s=n)):=by rw [←c];rfl
 rw [F];have v:=Zh H;have I:=Zh D;have J:=Zh E;have B:=Zh C;clear F c C H E D;by_cases ho:0≤own∧own≤k
 ·obtain ⟨o,rfl⟩:∃ o:Nat,own=o:=⟨own.toNat,by omega⟩;have d:=fun A (hb:Below w.heap.size w A)=>ZgU m h k o A (v.out.old hb) (by omega) (by omega) (by rw [Int.toNat_natCast];exact I.out);rw [Int.toNat_natCast] at d;generalize ZaH m (k+1) k o=q at d;have G:=Zh d;clear d;have y:=J.out o (by omega);have b:m.ent o s=(m.cl.getD o default).m.getD s 0:=rfl;generalize u:(m.cl.getD o default).m.getD s 0=e at b;rw [b];have p:=Zh u;clear u b;obtain ⟨O,N,so,sc,Q,P,S,u⟩:=h;dsimp only at *;subst t;have U:(o:Int)≤k:=by omega
  have V:o<m.cl.length:=by omega
  have W:(o:Int) < m.cl.length:=by omega
  go_enter Tryz.func310,Tryz.ntmps310
  go_wp2_with fail
  refine (G.out _ a).mono ?_;rintro e1 A ⟨rfl,g⟩;obtain ⟨Y,Z,r2,r3⟩:=ZgR (B.out.old g);have rl:=(B.out.old g).lt;have l:=Zaf a g;obtain ⟨L,r,-,-,-,x⟩:=(v.out.old l).cls (i:=o) (by omega);dsimp only at Y Z r2 r3 r x;subst r;obtain ⟨M,f,t0⟩:=ZaB ((v.out.old l).t o (by omega)) (i:=s) (by omega);rw [p.out] at t0;dsimp only at f;rw [f] at x;have z:(s:Int) < (m.cl.getD o default).m.length:=by omega
  have K:=Zh f;generalize (m.cl.getD o default).m.length=tl at x z;clear f p y;rcases q with _|_
  all_goals
   go_wp2
   all_goals
    go_ret;exact ZcT (ZcX (by grind)) l
 ·obtain ⟨O,N,so,sc,Q,P,S,u⟩:=h;dsimp only at *;subst t;go_enter Tryz.func310,Tryz.ntmps310;by_cases h0:0≤own
  ·have R:¬ own≤k:=by omega
   go_wp2;go_ret;exact ZcT (ZcX (by grind)) a
  ·have R:¬ own ≥ 0:=by omega
   go_wp2;go_ret;exact ZcT (ZcX (by grind)) a
theorem ZgW {a b:List Ty}{k:Nat} (h:a.getD k default≠b.getD k default):¬ a=b:=fun e=>h (by rw [e])
theorem ZgX {a b:List Ty} (h:a.length=b.length) (h1:∀ i,i<a.length→a.getD i default=b.getD i default):a=b:=by exact k89
theorem ZgY (a b:List Ty) (m bo:Option Addr) (l bc:Nat) (w:World) (n:Zar w m l a) (o:Zar w bo bc b) (M:a.length≤1000000):Calls Tryz.prog 311 #[.slice m a.length l,.slice bo b.length bc] w (Ret w (.bool (decide (a=b)))):=by
 by_cases hlen:a.length=b.length
 · have v:=Zh n;have z:=Zh o;have d:=Zh hlen;have g:((a.length:Int) != b.length)=false:=by simp [hlen]
   clear n o hlen;go_enter Tryz.func311,Tryz.ntmps311;go_wp2
   go_loopw [13] (fun i wr=>∃ k:Nat,k≤a.length∧i=.int .i64 k∧Below w.heap.size w wr∧Hid (∀ i,i<k→a.getD i default=b.getD i default)) (fun i _=>a.length-(intOf i).toNat)
   case atStart=>exact ⟨0,by omega,rfl,Below.refl _ _,Zh (by omega)⟩
   case round=>
     obtain ⟨k,L,rfl,c,q⟩:=hrel;have f:=Zh c;clear c;by_cases hkl:k<a.length
     · obtain ⟨J,rfl,r,s⟩:=Zaz (v.out.old f.out) hkl;obtain ⟨K,rfl,t,u⟩:=Zaz (z.out.old f.out) (i:=k) (by have:=d.out;omega);have D:(k:Int) < b.length:=by have:=d.out;omega
       generalize hx:a.getD k default=x at r s;generalize hy:b.getD k default=y at t u;have h:=Zh hx;have j:=Zh hy;clear hx hy;have E:=ZdW;have A:=ZdX;obtain ⟨G,F⟩:=x;obtain ⟨I,H⟩:=y;dsimp only at r s t u;go_wp2
       go_quiet (fail)
       go_wp2
       all_goals first
         | (go_ret
            have B:¬ ((⟨G,F⟩:Ty)=⟨I,H⟩):=by simp only [Ty.mk.injEq];grind
            exact ZcT (ZcX (decide_eq_false (ZgW (k:=k) (by rw [h.out,j.out];exact B))).symm) (ZcU f.out _))
         | (go_roundw
            case rel=>
              refine ⟨k+1,by omega,by go_num,ZcU f.out _,Zh fun i C=>?_⟩;by_cases hik:i<k
              · exact q.out i hik
              · obtain rfl:i=k:=by omega
                rw [h.out,j.out,Ty.mk.injEq];grind
            case measure=>simp [intOf];omega)
     · go_wp2;go_ret;exact ZcT (ZcX (decide_eq_true (ZgX d.out fun i C=>q.out i (by omega))).symm) f.out
 · have g:((a.length:Int) != b.length)=true:=by simp;omega
   go_enter Tryz.func311,Tryz.ntmps311;go_wp2;go_ret;exact ZcT (ZcX (decide_eq_false fun e=>hlen (by rw [e])).symm) bE
end
section
open Go.RowKit
theorem ZgZ (m:Md) (h:Hd) (k:Nat) (w:World) (H:Zay w h m) (hk:k<m.cl.length) (bB:m.cl.length≤10∧m.me.length≤16∧0≤m.sel∧m.sel≤16) (hd:Zc3 m k) (hl:∀ j,j<k→((m.cl.getD j default).m.length:Int)=m.sel):Calls Tryz.prog 239 #[.agg (HM.mk h m),.int .i64 k] w (Ret w (.bool (ZaK m k))):=by
 have F:=(Below.refl w.heap.size w).alloc (Nat.le_refl _) (.cells (HM.mk h m) 205);have hX:ZgQ _ w.heap.size h m:=Blk.new w (HM.mk h m) 205;obtain ⟨ad,C,c0,c1,c2,c3⟩:=(H.old F).cls hk;generalize hx:m.cl.getD k default=x at c0 c1 c2 c3;obtain ⟨nm,f,A,B⟩:=x;have hq:ZaK m k=(decide (-1≤f)&&decide (f<k)&&decide (A.length≤7)&&ZaG m.cl.length A&&decide ((B.length:Int)=m.sel)&&(List.range B.length).all (ZaJ m k)&&(decide (f<0)||decide ((m.cl.getD f.toNat default).f.length≤A.length)&&decide ((m.cl.getD f.toNat default).f=A.take (m.cl.getD f.toNat default).f.length))):=by simp only [ZaK,Md.sup,hx,Int.toNat_natCast]
 have ae:m.sup k=f:=by simp only [Md.sup,hx,Int.toNat_natCast]
 have R:=H.f k hk;have G:=H.bf k hk;have U:=H.t k hk;rw [hx] at R U G;dsimp only at c0 c1 c2 c3 R U G;have ai:=F.alloc F.size (.cells #[.string nm,.int .i64 f,.slice (h.c k).fo A.length (h.c k).fc,.slice (h.c k).mo B.length (h.c k).mc] 99);have hY:Blk _ (w.heap.size+1) _ _:=Blk.new' (w:=w.alloc (.cells (HM.mk h m) 205)) #[.string nm,.int .i64 f,.slice (h.c k).fo A.length (h.c k).fc,.slice (h.c k).mo B.length (h.c k).mc] 99 (by simp);have D:=hX.alloc (.cells #[.string nm,.int .i64 f,.slice (h.c k).fo A.length (h.c k).fc,.slice (h.c k).mo B.length (h.c k).mc] 99);have ab:=ZgT m h A (h.c k).fo (h.c k).fc 7 _ (R.old ai) (by omega);have HQ:=Zh hq;have HX:=Zh D;have HY:=Zh hY;have V:=Zh R;have ag:=Zh U;have HC:=Zh hx;have HS:=Zh ae;have HM:=Zh H;have HD:=Zh hd;have HL:=Zh hl;have HA:=Zh ab;have J:=Zh ai;clear hq hX D hY R U hx ae H hd hl ab ai;obtain ⟨co,cc,so,sc,eo,ec,hc,he⟩:=h;dsimp only at *;subst C;generalize hch:hc k=ch at HX HY V ag HA J c2 c3 G;obtain ⟨fo,fc,mo,mc⟩:=ch;dsimp only at HX HY V ag HA J c2 c3 G;clear hch;have bu:(k:Int) < m.cl.length:=by omega
 by_cases hs:-1≤f∧f<k
 ·have ax:¬ f < -1:=by omega
  have ay:¬ f ≥ k:=by omega
  go_enter Tryz.func239,Tryz.ntmps239
  go_wp2_with fail
  refine HA.out.mono ?_;rintro e1 w1 ⟨rfl,X⟩;clear c0 c1 c2 c3 F HA;have M:=HY.out.old X;have x1:w1.cell? ⟨w.heap.size+1,1,none⟩=some (.int .i64 f):=M.cell 1 rfl;have x3:w1.cell? ⟨w.heap.size+1,3,none⟩=some (.slice mo B.length mc):=M.cell 3 rfl;have xl:=M.lt;have W:=HX.out.old X;have r3:w1.cell? ⟨w.heap.size,3,none⟩=some (.int .i64 m.sel):=W.cell 3 rfl;have rl:=W.lt;have ah:=Zh (Zaf J.out X);have aK:=Zh W;have aM:=Zh M;clear W M HX HY J X;rcases h7:decide ((A.length:Int)≤7)&&ZaG m.cl.length A with _|_
  ·have H7:=Zh h7;clear h7;go_wp2;go_ret;refine ZcT (ZcX ?_) ah.out;have h8:=H7.out;rw [HQ.out];grind
  have H7:=Zh h7;clear h7;by_cases hts':¬ (B.length:Int)=m.sel
  ·have L:=hts';have az:((B.length:Int) != m.sel)=true:=by simpa using L
   go_wp2;go_ret;refine ZcT (ZcX ?_) ah.out;rw [HQ.out,decide_eq_false L];simp
  have L:(B.length:Int)=m.sel:=by omega
  clear hts';have az:((B.length:Int) != m.sel)=false:=by simpa using L
  have HT:=Zh L;have U:B.length≤16:=by omega
  clear L;go_wp2
  go_loopw [43] (fun i wr=>∃ s:Nat,s≤B.length∧i=.int .i64 s∧Below w1.heap.size w1 wr∧Hid (∀ i,i<s→ZaJ m k i=true)) (fun i _=>B.length-(intOf i).toNat)
  case atStart=>exact ⟨0,by omega,rfl,Below.refl _ _,Zh (by omega)⟩
  case round=>
   obtain ⟨s,hs,rfl,O,q1⟩:=hrel;clear x1 x3 xl r3 rl;have N:=aM.out.old O;have D:ZgQ wr w.heap.size ⟨some ad,cc,so,sc,eo,ec,hc,he⟩ m:=aK.out.old O;have x1:wr.cell? ⟨w.heap.size+1,1,none⟩=some (.int .i64 f):=N.cell 1 rfl;have x2:wr.cell? ⟨w.heap.size+1,2,none⟩=some (.slice fo A.length fc):=N.cell 2 rfl;have xl:=N.lt;obtain ⟨r0,r1,r2,r3⟩:=ZgR D;have rl:=D.lt;dsimp only at r0 r1 r2 r3;have au:=Zaf ah.out O;have HB2:=Zh au;have HBL:=Zh O;have aL:=Zh D;have aN:=Zh N;clear D N O au;by_cases hst:s<B.length
   ·obtain ⟨bq,rfl,t0⟩:=ZaB (ag.out.old HB2.out) hst;generalize hn:B.getD s 0=n at t0;have ac:ZaJ m k s=(decide (-1≤n)&&decide (n<m.me.length)&&(decide (n<0)||ZaI m k s n)&&!(decide (0≤f)&&decide (n<0)&&decide (0≤m.ent f s))):=by simp only [ZaJ,Md.ent,Int.toNat_natCast,HC.out,hn,HS.out];rfl
    have y:=Zh ac;clear hn ac;have bk:(s:Int) < B.length:=by omega
    have bC:IntKind.i64.wrap ((s:Int)+1)=s+1:=IntWalk.i64_in _ (by omega);have I:∀ w':World,ZaJ m k s=false→Below w.heap.size w w'→Ret w (.bool (ZaK m k)) (.returned (.bool false)) w':=fun w' hf hb=>ZcT (ZcX (by rw [HQ.out,ZaC hst hf];simp)) hb;have HF:=Zh I;clear I;by_cases hn1:n < -1
    ·go_wp2;go_ret;exact HF.out _ (by rw [y.out,decide_eq_false (show ¬ -1≤n by omega)];rfl) HB2.out
    by_cases hn2:(m.me.length:Int)≤n
    ·have bv:n ≥ m.me.length:=hn2;go_wp2;go_ret;exact HF.out _ (by rw [y.out,decide_eq_false (show ¬ n<m.me.length by omega)];simp) HB2.out
    have bw:¬ n ≥ m.me.length:=hn2;by_cases hn5:0≤n
    ·obtain ⟨nn,rfl⟩:∃ nn:Nat,n=nn:=⟨n.toNat,by omega⟩;have z:=ZgV m ⟨some ad,cc,so,sc,eo,ec,hc,he⟩ k s nn wr (HM.out.old HB2.out) hk (by omega) (fun i h0 h1=>by
      by_cases hik:i<k
      ·exact HD.out i h0 hik
      ·obtain rfl:i=k:=by omega
       rw [HS.out];omega) (by have:=HT.out;omega) (fun j hj=>by
      by_cases hjk:j<k
      ·exact HL.out j hjk
      ·obtain rfl:j=k:=by omega
       rw [HC.out];exact HT.out)
     dsimp only at z;generalize ZaI m k s nn=q at z y;have HE:=Zh z;have bx:¬ (nn:Int) < -1:=by omega
     clear z
     go_wp2_with fail
     refine HE.out.mono ?_;rintro e1 w2 ⟨rfl,E⟩;have aV:ZgQ w2 w.heap.size ⟨some ad,cc,so,sc,eo,ec,hc,he⟩ m:=aL.out.old E;have y1:w2.cell? ⟨w.heap.size+1,1,none⟩=some (.int .i64 f):=(aN.out.old E).cell 1 rfl;have HB3:=Zh (Zaf HB2.out E);have aG:=Zh (Zaf HBL.out E);clear x1 x2 xl r0 r1 r2 r3 rl aV E;rcases q with _|_
     ·go_wp2;go_ret;exact HF.out _ (by rw [y.out];simp;omega) HB3.out
     ·have bz:¬ (nn:Int) < 0:=by omega
      have hsok:ZaJ m k s=true:=by rw [y.out];simp;omega
      have hrel2:∀ i,i<s+1→ZaJ m k i=true:=fun i hi=>by
       by_cases his:i<s
       ·exact q1.out i his
       ·obtain rfl:i=s:=by omega
        exact hsok
      have HR:=Zh hrel2;clear hrel2 hsok;by_cases hsn:0≤f
      all_goals
       go_wp2;go_roundw
       case rel=>exact ⟨s+1,by omega,by go_num,aG.out,Zh HR.out⟩
       case measure=>simp [intOf];omega
    ·obtain rfl:n=-1:=by omega
     by_cases hsn:0≤f
     ·obtain ⟨u,rfl⟩:∃ u:Nat,f=u:=⟨f.toNat,by omega⟩;have hu:u<m.cl.length:=by omega
      have a0:(u:Int) < m.cl.length:=by omega
      obtain ⟨aO,C,-,-,-,k3⟩:=(HM.out.old HB2.out).cls hu;have a2:=HL.out u (by omega);obtain ⟨br,ak,t1⟩:=ZaB ((HM.out.old HB2.out).t u hu) (i:=s) (by have:=HT.out;omega);have aZ:(s:Int) < (m.cl.getD u default).m.length:=by have:=HT.out;omega
      dsimp only at ak k3 C;obtain rfl:=Option.some.inj C;have z:m.ent u s=(m.cl.getD u default).m.getD s 0:=rfl;generalize (m.cl.getD u default).m.getD s 0=e at t1 z;generalize (m.cl.getD u default).m.length=ul at k3 aZ;rw [ak] at k3;have ao:=Zh z;clear ak C a2 z;by_cases he0:0≤e
      ·have aX:e ≥ 0:=he0;go_wp2;go_ret;exact HF.out _ (by rw [y.out,ao.out];simp [he0]) HB2.out
      ·have aX:¬ e ≥ 0:=he0;have hsok:ZaJ m k s=true:=by rw [y.out,ao.out];simp;omega
       exact k47
     ·have hsok:ZaJ m k s=true:=by rw [y.out];simp;omega
      exact k47
   ·have aY:s=B.length:=by omega
    subst aY;have aa:(List.range B.length).all (ZaJ m k)=true:=ZaD q1.out;have Z:=Zh aa;clear aa;by_cases hsn:f<0
    ·go_wp2;go_ret;refine ZcT (ZcX ?_) HB2.out;have h8:=H7.out;have h9:=HT.out;rw [HQ.out,Z.out,decide_eq_true hsn,decide_eq_true h9];grind
    ·obtain ⟨u,rfl⟩:∃ u:Nat,f=u:=⟨f.toNat,by omega⟩;have hu:u<m.cl.length:=by omega
     have a0:(u:Int) < m.cl.length:=by omega
     obtain ⟨aO,C,-,-,k2,-⟩:=(HM.out.old HB2.out).cls hu;have Y:=HM.out.f u hu;have a1:(m.cl.getD u default).f.length=(m.cl.getD u default).f.length:=rfl;generalize hgf:(m.cl.getD u default).f=uf at k2 Y;have aJ:=Zh hgf;obtain rfl:=Option.some.inj C;dsimp only at k2 Y;have aI:=Zh Y;clear a1 hgf Y C;have T:ZaK m k=(decide (uf.length≤A.length)&&decide (uf=A.take uf.length)):=by have h8:=H7.out;have h9:=HT.out;rw [HQ.out,Z.out,decide_eq_true h9,decide_eq_true ax,decide_eq_true ay,Int.toNat_natCast,aJ.out];grind
     have y:=Zh T;clear T;by_cases hle:uf.length≤A.length
     ·have av:(uf.length:Int)≤A.length:=by omega
      have bh:uf.length≤fc:=by omega
      have bi:(uf.length:Int)≤fc:=by omega
      have aw:(A.take uf.length).length=uf.length:=by simp;omega
      have aj:=ZgY uf (A.take uf.length) (hc u).fo fo (hc u).fc fc wr (aI.out.old HB2.out) ((V.out.old HB2.out).take _ hle _ (fun h0=>((V.out.2.1 h0).2))) (by have h8:=H7.out;simp only [Bool.and_eq_true,decide_eq_true_eq] at h8;omega);rw [aw] at aj;have aH:=Zh aj;clear aj aw
      go_wp2_with fail
      refine aH.out.mono ?_;rintro e1 w2 ⟨rfl,E⟩;go_wp2;go_ret;exact ZcT (ZcX (by rw [y.out,decide_eq_true hle];rfl)) (Zaf HB2.out E)
     ·have av:¬ (uf.length:Int)≤A.length:=by omega
      go_wp2;go_ret;exact ZcT (ZcX (by rw [y.out,decide_eq_false hle];rfl)) HB2.out
 ·by_cases ax:f < -1
  ·go_enter Tryz.func239,Tryz.ntmps239;go_wp2;go_ret;exact ZcT (ZcX (by rw [HQ.out,decide_eq_false (show ¬ -1≤f by omega)];rfl)) J.out
  ·have ay:(k:Int)≤f:=by omega
   go_enter Tryz.func239,Tryz.ntmps239;go_wp2;go_ret;exact ZcT (ZcX (by rw [HQ.out,decide_eq_false (show ¬ f<k by omega)];simp)) J.out
end
section
open Go.RowKit
theorem Zg0 (t:Int) (B:Nat) (k:Int) (w:World) (a:w.cell? ⟨B,0,none⟩=some (.int .i64 k)):Calls Tryz.prog 359 #[.int .i64 t,ZQ.p B] w (Ret w (.bool (decide (k≤t)))):=by have b:=Zac a;go_enter Tryz.func359,Tryz.ntmps359;go_wp2;go_ret;exact ZcT (ZcX (by grind)) bE
theorem Zg1 (m:Md) (h:Hd) (k:Nat) (i:In3) (w:World) (H:Zay w h m) (hk:k<m.me.length) (S:m.cl.length≤10) (L:∀ j,j<m.cl.length→((m.cl.getD j default).m.length:Int)=m.sel) (l:(i.op=25∨i.op=26→0≤i.a)) :
  Calls Tryz.prog 313 #[.agg (HM.mk h m),.int .i64 k,ZI.i i] w (Ret w (.bool (ZaW m k i))):=by
 obtain ⟨r,a,b⟩:=i;dsimp only at l ⊢;have F:=Zh H;have O:=Zh L;clear H L;by_cases h26:r=26
 ·subst h26;have l:=l (.inr rfl);have n:ZaW m k ⟨26,a,b⟩=(decide (a<m.sel)&&(ZaN m a).all fun t=>decide (t<k)):=rfl;rw [n];by_cases hs:a<m.sel
  ·have K:Blk (((w.alloc (.cells (HM.mk h m) 205)).alloc (.cells #[.int .i64 k] 3)).alloc (.cells #[.int .i64 26,.int .i64 a,.int .i64 b] 78)) (w.heap.size+1) #[.int .i64 k] 3:=(Blk.new' (w:=w.alloc (.cells (HM.mk h m) 205)) #[.int .i64 k] 3 (by simp)).alloc _;have E:=Zh K;clear K;have o:=fun q (u:Below w.heap.size w q)=>ZdS m h a q (F.out.old u) ⟨l,hs⟩ S O.out;have G:=Zh o;clear o n;go_enter Tryz.func313,Tryz.ntmps313
   go_wp2_with fail
   refine (G.out _ bE).mono ?_;rintro e1 q ⟨⟨Q,s,rfl,M⟩,g⟩;have x:=Zaf (show Below w.heap.size w _ by exact bE) g;have d:=Zdr (ZaN m a) Q s 359 #[.pointer (some ⟨w.heap.size+1,0,none⟩)] (fun t=>!decide (t<(k:Int))) q (by have:=ZdG m a;omega) M (fun A W=>by kernel_rfl) (fun j hj X u=>by
    have J:=Zg0 ((ZaN m a).getD j 0) (w.heap.size+1) k X (((E.out.old g).old u).cell 0 rfl);rw [show decide ((k:Int)≤(ZaN m a).getD j 0)=!decide ((ZaN m a).getD j 0<(k:Int)) by grind] at J;exact J)
   rw [ZgM] at d;have N:=Zh d;clear d M G E
   go_wp2_with fail
   refine N.out.mono ?_;rintro e2 w2 ⟨rfl,v⟩;go_wp2;go_ret;exact ZcT (ZcX (by rw [decide_eq_true hs];simp)) (Zaf x v)
  ·go_enter Tryz.func313,Tryz.ntmps313;exact k99
 ·by_cases h25:r=25
  ·subst h25;have l:=l (.inl rfl);have n:ZaW m k ⟨25,a,b⟩=(decide (a<k)&&decide (m.own a<0)):=rfl;rw [n];clear n;by_cases hs:a<k
   ·obtain ⟨c,rfl⟩:∃ c:Nat,a=c:=⟨a.toNat,by omega⟩;obtain ⟨I,y,-,z,-,-,-,-,-⟩:=F.out.mth (i:=c) (by omega);have f:m.own c=(m.me.getD c default).c:=rfl;generalize (m.me.getD c default).c=own at z f;have T:∀ B C D,(((w.alloc B).alloc C).alloc D).cell? ⟨(I.add (c*7)).block,(I.add (c*7)).off+1,none⟩=some (.int .i64 own):=fun B C D=>by rw [(show Below w.heap.size w (((w.alloc B).alloc C).alloc D) by exact bE).cell (Zac z)];exact z
    have P:=Zh f;clear f;obtain ⟨Z,Y,so,sc,eo,ec,hc,he⟩:=h;dsimp only at *;subst y;have R:(c:Int) < m.me.length:=by omega
    go_enter Tryz.func313,Tryz.ntmps313;go_wp2;go_ret;exact ZcT (ZcX (by rw [P.out])) bE
   ·go_enter Tryz.func313,Tryz.ntmps313;exact ZgL
  ·have V:(r == 26)=false:=by simp [h26]
   have U:(r == 25)=false:=by simp [h25]
   go_enter Tryz.func313,Tryz.ntmps313
   go_wp2_with (go_at_call 358;refine (ZgO _ _ _ _).mono ?_;rintro e q ⟨rfl,g⟩)
   all_goals
    go_ret;exact ZcT (ZcX (by grind [ZaW])) bE
end
section
open Go.RowKit
theorem Zg2 (m:Md) (h:Hd) (k:Nat) (i:In3) (B K:Nat) (w:World) (b:ZgQ w B h m) (g:w.cell? ⟨K,0,none⟩=some (.int .i64 k)) (H:Zay w h m) (n:k<m.me.length) (o:m.cl.length≤10) (d:∀ j,j<m.cl.length→((m.cl.getD j default).m.length:Int)=m.sel) (c:(i.op=25∨i.op=26→0≤i.a)) :
  Calls Tryz.prog 312 #[ZI.i i,ZQ.p B,ZQ.p K] w (Ret w (.bool (!ZaW m k i))):=by
 obtain ⟨r,s,t,u⟩:=ZgR b;have v:=b.lt;have q:=Zac g;have a:=Zg1 m h k i _ (H.old ((Below.refl w.heap.size w).alloc (Nat.le_refl _) (.cells #[.int .i64 i.op,.int .i64 i.a,.int .i64 i.b] 78))) n o d c;have f:=Zh a;clear a b H d c;go_enter Tryz.func312,Tryz.ntmps312
 go_wp2_with fail
 refine f.out.mono ?_;rintro e x ⟨rfl,l⟩;go_wp2;go_ret;exact ZcT rfl bE
theorem Zg3 {i:In3} (h:ZaQ false i=true):i.op=25∨i.op=26→0≤i.a:=by
 intro d;obtain ⟨e,a,b⟩:=i;simp only [ZaQ,Bool.and_eq_true] at h;have c:=h.1.1.2;dsimp only at d c ⊢;rcases d with rfl|rfl
 ·simp [opA,inR,inI] at c;exact c.1
 ·simp [opA,inR,inI] at c;exact c.1
theorem Zg4 {p:Bool}{l:List In3} (h:ZaV p l=0):l.length≤120∧(∀ i,i<l.length→ZaQ p (l.getD i default)=true)∧ZaU l=true:=by
 unfold ZaV at h;split at h
 ·cases h
 ·split at h
  ·rename_i d a;split at h
   ·rename_i c;refine ⟨by omega,fun i b=>?_,c⟩;rw [List.all_eq_true] at a;exact a _ (by rw [List.getD_eq_getElem?_getD,List.getElem?_eq_getElem b];exact List.getElem_mem b)
   ·cases h
  ·cases h
theorem Zg5 (m:Md) (h:Hd) (k:Nat) (w:World) (H:Zay w h m) (U:k<m.me.length) (hn:m.cl.length≤10) (hl:∀ j,j<m.cl.length→((m.cl.getD j default).m.length:Int)=m.sel) :
  Calls Tryz.prog 240 #[.agg (HM.mk h m),.int .i64 k] w (Ret w (.bool (ZaX m k))):=by
 have al:ZgQ _ w.heap.size h m:=Blk.new w (HM.mk h m) 205;have ak:Blk _ (w.heap.size+1) #[.int .i64 k] 3:=Blk.new' (w:=w.alloc (.cells (HM.mk h m) 205)) #[.int .i64 k] 3 (by simp);have aI:Below w.heap.size w ((w.alloc (.cells (HM.mk h m) 205)).alloc (.cells #[.int .i64 k] 3)):=by exact bE
 obtain ⟨O,aK,c0,c1,c2,c3,c4,c5,c6⟩:=(H.old aI).mth U;have L:=H.bm k U;have q:=H.p k U;have o:=H.l k U;have n:=H.k k U;generalize hx:m.me.getD k default=x at c0 c1 c2 c3 c4 c5 c6 L q o n;obtain ⟨nm,c,pl,r,⟨B,z⟩,d⟩:=x;generalize hey:h.e k=y at c0 c1 c2 c3 c4 c5 c6 L q o n;obtain ⟨X,V,N,M,v,u⟩:=y;dsimp only at c0 c1 c2 c3 c4 c5 c6 L q o n;have hq:ZaX m k=(decide (-1≤c)&&decide (c<m.cl.length)&&decide (pl.length≤4)&&ZaG m.cl.length pl&&decide ((r.length:Int)≤10-pl.length-(if 0≤c then 1 else 0))&&ZaG m.cl.length r&&ZaF m.cl.length ⟨B,z⟩ 0&&decide (ZaV false d=0)&&d.all (ZaW m k)):=by simp only [ZaX,hx]
 have am:Blk _ (w.heap.size+1+1) #[.string nm,.int .i64 c,.slice X pl.length V,.slice N r.length M,.int .i64 B,.int .i64 z,.slice v d.length u] 81:=Blk.new' (w:=(w.alloc (.cells (HM.mk h m) 205)).alloc (.cells #[.int .i64 k] 3)) #[.string nm,.int .i64 c,.slice X pl.length V,.slice N r.length M,.int .i64 B,.int .i64 z,.slice v d.length u] 81 (by simp);have hX:=(al.old (show Below _ _ (((w.alloc (.cells (HM.mk h m) 205)).alloc (.cells #[.int .i64 k] 3)).alloc (.cells #[.string nm,.int .i64 c,.slice X pl.length V,.slice N r.length M,.int .i64 B,.int .i64 z,.slice v d.length u] 81)) by exact bE));have hK:=ak.alloc (.cells #[.string nm,.int .i64 c,.slice X pl.length V,.slice N r.length M,.int .i64 B,.int .i64 z,.slice v d.length u] 81);have a:Below w.heap.size w (((w.alloc (.cells (HM.mk h m) 205)).alloc (.cells #[.int .i64 k] 3)).alloc (.cells #[.string nm,.int .i64 c,.slice X pl.length V,.slice N r.length M,.int .i64 B,.int .i64 z,.slice v d.length u] 81)):=by exact bE
 have G:=Zh hq;have ai:=ZgT m h pl X V 4 _ (q.old a) (by omega);have aD:=Zh ai;have HX:=Zh hX;have HY:=Zh am;have HK:=Zh hK;have HM:=Zh H;have HL:=Zh hl;have aE:=Zh o;have ab:=Zh n;have E:=Zh a;clear ai hX am hK H hl o n q a hq hx hey al ak;obtain ⟨Q,P,Z,Y,eo,R,S,T⟩:=h;dsimp only at *;subst aK;have a1:(k:Int) < m.me.length:=by omega
 by_cases h1:-1≤c∧c<m.cl.length
 ·obtain ⟨h1,h2⟩:=h1;have h3:c ≥ -1:=h1;by_cases hc0:0≤c
  all_goals
   go_enter Tryz.func240,Tryz.ntmps240
   go_wp2_with fail
   refine aD.out.mono ?_;rintro e1 w1 ⟨rfl,e⟩;clear c0 c1 c2 c3 c4 c5 c6;have aj:=Zaf E.out e;obtain ⟨r0,r1,r2,r3⟩:=ZgR (show ZgQ w1 w.heap.size ⟨Q,P,Z,Y,some O,R,S,T⟩ m from HX.out.old e);dsimp only at r0 r1 r2 r3;have rl:=(HX.out.old e).lt;have x3:w1.cell? ⟨w.heap.size+1+1,3,none⟩=some (.slice N r.length M):=(HY.out.old e).cell 3 rfl;have D:=Zh aj;have g:=Zh e;clear e aj;rcases hq1:decide ((pl.length:Int)≤4)&&ZaG m.cl.length pl with _|_
   ·have I:=Zh hq1;clear hq1;go_wp2;go_ret;exact ZcT (ZcX (by have:=I.out;rw [G.out];grind)) D.out
   have I:=Zh hq1;have a3:pl.length≤4:=by simp at hq1;omega
   clear hq1
   go_wp2_with fail
   refine (ZgT m ⟨Q,P,Z,Y,some O,R,S,T⟩ r N M _ _ (aE.out.old D.out) (by omega)).mono ?_;rintro e2 w2 ⟨rfl,b⟩;obtain ⟨r0,r1,r2,r3⟩:=ZgR (show ZgQ w2 w.heap.size ⟨Q,P,Z,Y,some O,R,S,T⟩ m from (HX.out.old g.out).old b);dsimp only at r0 r1 r2 r3;have rl:=((HX.out.old g.out).old b).lt;have x4:w2.cell? ⟨w.heap.size+1+1,4,none⟩=some (.int .i64 B):=((HY.out.old g.out).old b).cell 4 rfl;have x5:w2.cell? ⟨w.heap.size+1+1,5,none⟩=some (.int .i64 z):=((HY.out.old g.out).old b).cell 5 rfl;have aa:=Zh (Zaf D.out b);have af:=Zh (Zaf g.out b);clear b x3;generalize hq2:(decide ((r.length:Int)≤_)&&ZaG m.cl.length r)=q2;rcases q2 with _|_
   ·have J:=Zh hq2;clear hq2;go_wp2;go_ret;exact ZcT (ZcX (by have:=J.out;rw [G.out];grind)) aa.out
   have J:=Zh hq2;clear hq2
   go_wp2_with fail
   refine (ZgP m ⟨Q,P,Z,Y,some O,R,S,T⟩ ⟨B,z⟩ 0 _).mono ?_;rintro e3 w3 ⟨rfl,a⟩;have x6:w3.cell? ⟨w.heap.size+1+1,6,none⟩=some (.slice v d.length u):=((HY.out.old af.out).old a).cell 6 rfl;have f:=Zh (Zaf aa.out a);have ag:=Zh (Zaf af.out a);clear a x4 x5 r0 r1 r2 r3 rl;generalize hq3:ZaF m.cl.length ⟨B,z⟩ 0=q3;rcases q3 with _|_
   ·have K:=Zh hq3;clear hq3;go_wp2;go_ret;exact ZcT (ZcX (by rw [G.out,K.out];simp)) f.out
   have K:=Zh hq3;clear hq3
   go_wp2_with fail
   refine (ZgN d v u false _ (ab.out.old f.out)).mono ?_;rintro e4 w4 ⟨rfl,t⟩;have x6:w4.cell? ⟨w.heap.size+1+1,6,none⟩=some (.slice v d.length u):=((HY.out.old ag.out).old t).cell 6 rfl;have s:=Zh (Zaf f.out t);have ah:=Zh (Zaf ag.out t);clear t;by_cases hc4:ZaV false d=0
   ·obtain ⟨aL,C,-⟩:=Zg4 hc4;have l:=Zdn d v u 312 #[.pointer (some ⟨w.heap.size,0,none⟩),.pointer (some ⟨w.heap.size+1,0,none⟩)] (fun i=>!ZaW m k i) w4 (by omega) (ab.out.old s.out) (fun A W=>by kernel_rfl)
     (fun j hj w' hb=>Zg2 m ⟨Q,P,Z,Y,some O,R,S,T⟩ k (d.getD j default) w.heap.size (w.heap.size+1) w' (ZgQ.old (h:=⟨Q,P,Z,Y,some O,R,S,T⟩) (HX.out.old ah.out) hb) (((HK.out.old ah.out).old hb).cell 0 rfl) (HM.out.old (Zaf s.out hb)) U hn HL.out (Zg3 (C j hj)))
    rw [ZgM] at l;have HC:=Zh l;have an:(ZaV false d == 0)=true:=by simp [hc4]
    have F:=Zh hc4;clear l C hc4
    go_wp2_with fail
    refine HC.out.mono ?_;rintro e5 w5 ⟨rfl,aJ⟩;go_wp2;go_ret;refine ZcT (ZcX ?_) (Zaf s.out aJ);have h1:=I.out;have h2:=J.out;have h3:=K.out;have h4:=F.out;rw [G.out];grind
   ·have an:(ZaV false d == 0)=false:=by simp [hc4]
    have F:=Zh hc4;clear hc4;go_wp2;go_ret;exact ZcT (ZcX (by rw [G.out,decide_eq_false F.out];simp)) s.out
 ·by_cases h2:-1≤c
  ·have h3:¬ c<m.cl.length:=by omega
   have h4:c ≥ -1:=h2;have h5:c ≥ 0:=by omega
   go_enter Tryz.func240,Tryz.ntmps240
   go_wp2_with fail
   go_ret;exact ZcT (ZcX (by rw [G.out,decide_eq_false (show ¬ c<m.cl.length by omega)];simp)) E.out
  ·have h3:¬ c ≥ -1:=by omega
   have h5:¬ c ≥ 0:=by omega
   go_enter Tryz.func240,Tryz.ntmps240
   go_wp2_with fail
   go_ret;exact ZcT (ZcX (by rw [G.out,decide_eq_false (show ¬ -1≤c by omega)];rfl)) E.out
end
section
open Go.RowKit
attribute [local go_sem] World.cell?_alloc_some
theorem Zg6 {w w':World}{a:Addr}{v:Value} (b:Below w.heap.size w w') (h:w.cell? a=some v):w'.cell? a=some v:=by rw [b.cell (Zac h)];exact h
theorem Zg7 (m:Md) (h:Hd) (B L:Nat) (l:List Int) (ao:Option Addr) (r t u:Nat) (w:World) (hB:ZgQ w B h m) (hL:w.cell? ⟨L,0,none⟩=some (.slice ao l.length r)) (hr:Zar w ao r l) (H:Zay w h m) (ht:t<m.me.length) (hu:u<m.me.length) (hl:0<l.length) (h0:l.getD 0 0=u) (aD:(m.me.getD t default).p.length≤1000000) :
  Calls Tryz.prog 314 #[.int .i64 t,ZQ.p B,ZQ.p L] w (Ret w (.bool (!(decide ((m.me.getD t default).r=(m.me.getD u default).r)&&decide ((m.me.getD t default).p=(m.me.getD u default).p))))):=by
 obtain ⟨r0,r1,r2,r3⟩:=ZgR hB;have rl:=hB.lt;have ll:=Zac hL;obtain ⟨G,rfl,Z⟩:=ZaB hr (i:=0) hl;rw [h0,show G.add 0=G from by unfold Addr.add;simp] at Z;obtain ⟨b,aC,c0,c1,c2,c3,c4,c5,c6⟩:=H.mth ht;obtain ⟨aV,s,d0,d1,d2,d3,d4,d5,d6⟩:=H.mth hu;have O:=H.p t ht;have R:=H.p u hu;generalize hxt:m.me.getD t default=x at *;generalize hxu:m.me.getD u default=y at *;obtain ⟨nx,cx,V,lx,⟨kx,rx⟩,C⟩:=x;obtain ⟨ny,cy,W,ly,⟨ky,ry⟩,D⟩:=y;generalize h.e t=et at *;generalize h.e u=eu at *;obtain ⟨U,T,lo,lc,ko,kc⟩:=et;obtain ⟨q,n,F,E,A,z⟩:=eu;have ag:=Zh O;have ah:=Zh R;clear O R hxt hxu H hB hr;obtain ⟨co,cc,so,sc,eo,ec,hc,he⟩:=h;dsimp only at *;subst aC;obtain rfl:=Option.some.inj s;clear s h0;have a0:(t:Int) < m.me.length:=by omega
 have a1:(u:Int) < m.me.length:=by omega
 clear r0 r1 r3;go_enter Tryz.func314,Tryz.ntmps314
 go_upto_region 1 with fail
 go_cut [5,6] from 7 to 20 (fun x y wc=>∃ (X Y:Nat),x=.pointer (some ⟨X,0,none⟩)∧y=.pointer (some ⟨Y,0,none⟩)∧Blk wc X #[.string nx,.int .i64 cx,.slice U V.length T,.slice lo lx.length lc,.int .i64 kx,.int .i64 rx,.slice ko C.length kc] 81∧Blk wc Y #[.string ny,.int .i64 cy,.slice q W.length n,.slice F ly.length E,.int .i64 ky,.int .i64 ry,.slice A D.length z] 81∧Below w.heap.size w wc)
 case first=>
  have hS:∀ f,Below w.heap.size w f→(fun f:World=>f.cell? ⟨B,2,none⟩=some (.slice (some b) m.me.length ec)∧f.cell? ⟨L,0,none⟩=some (.slice (some G) l.length r)∧f.cell? G=some (.int .i64 u)∧f.cell? (b.add (t*7))=some (.string nx)∧f.cell? ⟨(b.add (t*7)).block,(b.add (t*7)).off+1,none⟩=some (.int .i64 cx)∧f.cell? ⟨(b.add (t*7)).block,(b.add (t*7)).off+2,none⟩=some (.slice U V.length T)∧f.cell? ⟨(b.add (t*7)).block,(b.add (t*7)).off+3,none⟩=some (.slice lo lx.length lc)∧f.cell? ⟨(b.add (t*7)).block,(b.add (t*7)).off+4,none⟩=some (.int .i64 kx)∧f.cell? ⟨(b.add (t*7)).block,(b.add (t*7)).off+5,none⟩=some (.int .i64 rx)∧f.cell? ⟨(b.add (t*7)).block,(b.add (t*7)).off+6,none⟩=some (.slice ko C.length kc)∧f.cell? (b.add (u*7))=some (.string ny)∧f.cell? ⟨(b.add (u*7)).block,(b.add (u*7)).off+1,none⟩=some (.int .i64 cy)∧f.cell? ⟨(b.add (u*7)).block,(b.add (u*7)).off+2,none⟩=some (.slice q W.length n)∧f.cell? ⟨(b.add (u*7)).block,(b.add (u*7)).off+3,none⟩=some (.slice F ly.length E)∧f.cell? ⟨(b.add (u*7)).block,(b.add (u*7)).off+4,none⟩=some (.int .i64 ky)∧f.cell? ⟨(b.add (u*7)).block,(b.add (u*7)).off+5,none⟩=some (.int .i64 ry)∧f.cell? ⟨(b.add (u*7)).block,(b.add (u*7)).off+6,none⟩=some (.slice A D.length z)) f:=fun f g=>⟨Zg6 g r2,Zg6 g hL,Zg6 g Z,Zg6 g c0,Zg6 g c1,Zg6 g c2,Zg6 g c3,Zg6 g c4,Zg6 g c5,Zg6 g c6,Zg6 g d0,Zg6 g d1,Zg6 g d2,Zg6 g d3,Zg6 g d4,Zg6 g d5,Zg6 g d6⟩;have J:=Zh hS;clear hS
  refine rO (fun f:World=>f.cell? ⟨B,2,none⟩=some (.slice (some b) m.me.length ec)∧f.cell? ⟨L,0,none⟩=some (.slice (some G) l.length r)∧f.cell? G=some (.int .i64 u)∧f.cell? (b.add (t*7))=some (.string nx)∧f.cell? ⟨(b.add (t*7)).block,(b.add (t*7)).off+1,none⟩=some (.int .i64 cx)∧f.cell? ⟨(b.add (t*7)).block,(b.add (t*7)).off+2,none⟩=some (.slice U V.length T)∧f.cell? ⟨(b.add (t*7)).block,(b.add (t*7)).off+3,none⟩=some (.slice lo lx.length lc)∧f.cell? ⟨(b.add (t*7)).block,(b.add (t*7)).off+4,none⟩=some (.int .i64 kx)∧f.cell? ⟨(b.add (t*7)).block,(b.add (t*7)).off+5,none⟩=some (.int .i64 rx)∧f.cell? ⟨(b.add (t*7)).block,(b.add (t*7)).off+6,none⟩=some (.slice ko C.length kc)∧f.cell? (b.add (u*7))=some (.string ny)∧f.cell? ⟨(b.add (u*7)).block,(b.add (u*7)).off+1,none⟩=some (.int .i64 cy)∧f.cell? ⟨(b.add (u*7)).block,(b.add (u*7)).off+2,none⟩=some (.slice q W.length n)∧f.cell? ⟨(b.add (u*7)).block,(b.add (u*7)).off+3,none⟩=some (.slice F ly.length E)∧f.cell? ⟨(b.add (u*7)).block,(b.add (u*7)).off+4,none⟩=some (.int .i64 ky)∧f.cell? ⟨(b.add (u*7)).block,(b.add (u*7)).off+5,none⟩=some (.int .i64 ry)∧f.cell? ⟨(b.add (u*7)).block,(b.add (u*7)).off+6,none⟩=some (.slice A D.length z)) (.plain 0 (.plain 1 (.plain 2 (.plain 3 (.plain 4 (.plain 5 (.plain 6 (.plain 7 (.plain 8 (.plain 9 (.plain 10 (.plain 11 (.plain 12 (.plain 13 (.two 14 15 (oL [115,116,117]) (oL [114,116,117])))))))))))))))) (J.out w.drew (Below.refl _ _).drew) ?_;clear r2 hL Z c0 c1 c2 c3 c4 c5 c6 d0 d1 d2 d3 d4 d5 d6
  repeat refine pO ?_
  refine Zd4 ?_ ?_
  all_goals
   refine Zd2 _ (by rfl) (by rfl) fun K j=>?_;go_simp;refine j _ _ ⟨J.out _ bE,?_⟩;clear j K;refine oO fun K j=>?_;go_simp;refine j _ _ ⟨J.out _ bE,?_⟩;clear j K;refine oO fun K j=>?_;go_simp;refine j _ _ ⟨J.out _ bE,?_⟩;clear j K;refine oO fun K j=>?_;go_simp;refine j _ _ ⟨J.out _ bE,?_⟩;clear j K;refine Zd5 ?_
   go_wp2_with fail
   go_meet
   refine ⟨_,_,rfl,rfl,?_,?_,?_⟩
   ·repeat (first|(refine Blk.new' _ _ ?_;simp;done)|refine Blk.drew ?_|refine Blk.alloc ?_ _)
   ·repeat (first|(refine Blk.new' _ _ ?_;simp;done)|refine Blk.drew ?_|refine Blk.alloc ?_ _)
   ·exact bE
 case rest=>
  obtain ⟨X,Y,rfl,rfl,M,N,g⟩:=hcut;have x2:wc.cell? ⟨X,2,none⟩=some (.slice U V.length T):=M.cell 2 rfl;have x4:wc.cell? ⟨X,4,none⟩=some (.int .i64 kx):=M.cell 4 rfl;have x5:wc.cell? ⟨X,5,none⟩=some (.int .i64 rx):=M.cell 5 rfl;have y2:wc.cell? ⟨Y,2,none⟩=some (.slice q W.length n):=N.cell 2 rfl;have y4:wc.cell? ⟨Y,4,none⟩=some (.int .i64 ky):=N.cell 4 rfl;have y5:wc.cell? ⟨Y,5,none⟩=some (.int .i64 ry):=N.cell 5 rfl;have xl:=M.lt;have yl:=N.lt;have aZ:=ZdW;have aX:=ZdX;have HE:=Zh (ZgY V W U q T n wc (ag.out.old g) (ah.out.old g) aD);have I:=Zh g;clear M N g c0 c1 c2 c3 c4 c5 c6 d0 d1 d2 d3 d4 d5 d6 hL Z r2
  go_wp2_with (go_at_call 311;refine HE.out.mono ?_;rintro e w1 ⟨rfl,aW⟩)
  all_goals
   go_ret;refine ZcT (ZcX ?_) (by first|exact I.out|exact Zaf I.out (by assumption));simp only [Ty.mk.injEq];grind
end
section
open Go.RowKit
theorem Zg8 (m:Md) (h:Hd) (s:Nat) (w:World) (H:Zay w h m) (S:(s:Int) < m.sel) (R:m.cl.length≤10) (L:∀ j,j<m.cl.length→((m.cl.getD j default).m.length:Int)=m.sel) (C:∀ t∈ZaN m s,0≤t∧t<m.me.length) (M:∀ k,k<m.me.length→(m.me.getD k default).p.length≤4) :
  Calls Tryz.prog 241 #[.agg (HM.mk h m),.int .i64 s] w (Ret w (.bool (ZaY m s))):=by
 have J:ZgQ _ w.heap.size h m:=Blk.new w (HM.mk h m) 205;have d:Below w.heap.size w (w.alloc (.cells (HM.mk h m) 205)):=by exact bE
 have i:=ZdS m h s _ (H.old d) ⟨by omega,S⟩ R L;have n:=ZdG m s;have z:ZaY m s=(ZaN m s).all fun t=>decide ((m.me.getD t.toNat default).r=(m.me.getD ((ZaN m s).getD 0 0).toNat default).r)&&decide ((m.me.getD t.toNat default).p=(m.me.getD ((ZaN m s).getD 0 0).toNat default).p):=rfl;generalize ZaN m s=l at i n z C;rw [z];have F:=Zh i;have G:=Zh J;have E:=Zh (H.old d);have q:=Zh d;have D:=Zh C;have O:=Zh M;clear i J H d C M z L;go_enter Tryz.func241,Tryz.ntmps241
 go_wp2_with fail
 refine F.out.mono ?_;rintro V c ⟨⟨f,a,rfl,B⟩,v⟩;have e:Below _ _ (c.alloc (.cells #[.slice f l.length a] 34)):=bal v _;have I:Blk (c.alloc (.cells #[.slice f l.length a] 34)) c.heap.size #[.slice f l.length a] 34:=Blk.new c _ _;have g:=B.old (show Below c.heap.size c (c.alloc (.cells #[.slice f l.length a] 34)) by exact bE);have b:=Zdr l f a 314 #[.pointer (some ⟨w.heap.size,0,none⟩),.pointer (some ⟨c.heap.size,0,none⟩)] (fun t=>!(decide ((m.me.getD t.toNat default).r=(m.me.getD (l.getD 0 0).toNat default).r)&&decide ((m.me.getD t.toNat default).p=(m.me.getD (l.getD 0 0).toNat default).p))) (c.alloc (.cells #[.slice f l.length a] 34)) (by omega) g (fun A W=>by kernel_rfl) (fun j K T o=>by
  have P:=D.out (l.getD j 0) (by rw [List.getD_eq_getElem?_getD,List.getElem?_eq_getElem K];exact List.getElem_mem K);have Q:=D.out (l.getD 0 0) (by rw [List.getD_eq_getElem?_getD,List.getElem?_eq_getElem (by omega)];exact List.getElem_mem _);generalize hu:l.getD 0 0=u at Q;generalize l.getD j 0=t at P;obtain ⟨t,rfl⟩:∃ x:Nat,t=x:=⟨t.toNat,by omega⟩;obtain ⟨u,rfl⟩:∃ x:Nat,u=x:=⟨u.toNat,by omega⟩;exact Zg7 m h w.heap.size c.heap.size l f a t u T ((G.out.old e).old o) ((I.old o).cell 0 rfl) (g.old o) ((E.out.old e).old o) (by omega) (by omega) (by omega) hu (by have:=O.out t (by omega);omega))
 rw [ZgM] at b;have N:=Zh b;have U:=Zh B;have r:=Zh e;clear b B e g I G E F
 go_wp2_with fail
 refine N.out.mono ?_;rintro X Y ⟨rfl,y⟩;go_wp2;go_ret;exact ZcT (ZcX (by simp)) (Zaf (Zaf q.out r.out) y)
end
section
open Go.RowKit
theorem Zg9 {m:Md}{k:Nat} (h:ZaK m k=true):((m.cl.getD k default).m.length:Int)=m.sel:=by simp only [ZaK,Bool.and_eq_true,decide_eq_true_eq] at h;exact h.1.1.2
theorem Zha {m:Md}{k s:Nat} (h:ZaK m k=true) (b:s<(m.cl.getD k default).m.length):-1≤m.ent k s∧m.ent k s<m.me.length:=by simp only [ZaK,Bool.and_eq_true,decide_eq_true_eq] at h;have a:=ZaE.1 h.1.2 s b;simp only [ZaJ,Bool.and_eq_true,decide_eq_true_eq] at a;exact ⟨a.1.1.1,a.1.1.2⟩
theorem Zhb {m:Md}{k:Nat} (h:ZaX m k=true):(m.me.getD k default).p.length≤4:=by simp only [ZaX,Bool.and_eq_true,decide_eq_true_eq] at h;exact h.1.1.1.1.1.1.2
theorem Zhc {m:Md} (h:∀ k,k<m.cl.length→ZaK m k=true) {s:Nat} (n:(s:Int) < m.sel):∀ t∈ZaN m s,0≤t∧t<m.me.length:=by
 intro t e;unfold ZaN at e;rw [Zdw,Int.toNat_natCast,List.mem_filter,List.mem_map] at e;obtain ⟨⟨c,j,rfl⟩,g⟩:=e;obtain ⟨k,d,b⟩:=List.getElem_of_mem j;have a:m.cl.getD k default=c:=by rw [List.getD_eq_getElem?_getD,List.getElem?_eq_getElem d];exact b
 have l:=Zg9 (h k d);have f:=Zha (h k d) (s:=s) (by omega);have i:m.ent k s=c.m.getD s 0:=by unfold Md.ent;rw [Int.toNat_natCast,a]
 rw [i] at f;exact ⟨by simpa using g,f.2⟩
theorem Zhd (m:Md) (h:Hd) (w:World) (H:Zay w h m):Calls Tryz.prog 175 #[.agg (HM.mk h m)] w (Ret w (.bool (Za1 m))):=by
 have I:Below w.heap.size w ((w.alloc (.cells (HM.mk h m) 205)).alloc (.cells (HM.mk h m) 26)):=by exact bE
 have W:ZgQ (w.alloc (.cells (HM.mk h m) 205)) w.heap.size h m:=Blk.new w (HM.mk h m) 205;have hX:ZgQ ((w.alloc (.cells (HM.mk h m) 205)).alloc (.cells (HM.mk h m) 26)) w.heap.size h m:=Blk.alloc W _;have hY:Blk ((w.alloc (.cells (HM.mk h m) 205)).alloc (.cells (HM.mk h m) 26)) (w.heap.size+1) (HM.mk h m) 26:=Blk.new' (w:=w.alloc (.cells (HM.mk h m) 205)) (HM.mk h m) 26 (by simp);have F:=ZgT m h m.st h.so h.sc 10 _ (H.st.old I) (by omega);have hq:Za1 m=(ZaZ m&&Za0 m&&(List.range m.cl.length).all (ZaK m)&&(List.range m.me.length).all (ZaX m)&&(List.range m.sel.toNat).all (ZaY m)):=rfl;have aa:ZaZ m=(decide (m.cl.length≤10)&&decide (m.me.length≤16)&&decide (0≤m.sel)&&decide (m.sel≤16)&&decide (m.st.length≤10)&&ZaG m.cl.length m.st):=rfl;have HQ:=Zh hq;have t:=Zh aa;have HX:=Zh hX;have HY:=Zh hY;have HM:=Zh H;have HA:=Zh F;have s:=Zh I;have ay:=H.bz;clear hq aa W hX hY H F I;by_cases h1:m.cl.length≤10
 ·by_cases h2:m.me.length≤16
  ·by_cases h3:0≤m.sel
   ·by_cases h4:m.sel≤16
    ·have i1:¬ (m.cl.length:Int) > 10:=by omega
     have i2:¬ (m.me.length:Int) > 16:=by omega
     have i3:¬ m.sel<0:=by omega
     have i4:¬ m.sel > 16:=by omega
     go_enter Tryz.func175,Tryz.ntmps175
     go_wp2_with fail
     refine HA.out.mono ?_;rintro e1 y ⟨rfl,C⟩;have X:ZgQ y w.heap.size h m:=HX.out.old C;have Y:=HY.out.old C;have V:=Zaf s.out C;have B:=Zh X;have u:=Zh Y;have v:=Zh V;clear X Y V C HA HX HY s;rcases hq5:decide ((m.st.length:Int)≤10)&&ZaG m.cl.length m.st with _|_
     ·have H5:=Zh hq5;clear hq5;go_wp2;go_ret;exact ZcT (ZcX (by have h8:=H5.out;rw [HQ.out,t.out];grind)) v.out
     have hok:ZaZ m=true:=by rw [t.out];simp [h1,h2,h3,h4];simp at hq5;exact ⟨by omega,hq5.2⟩
     have ag:=Zh hok;clear hq5 hok;have D:y.cell? ⟨w.heap.size+1,2,none⟩=some (.slice h.eo m.me.length h.ec):=u.out.cell 2 rfl;have G:=u.out.lt
     go_wp2_with fail
     clear D G
     go_loopw [41] (fun i wr=>∃ k:Nat,k≤m.me.length∧i=.int .i64 k∧Below y.heap.size y wr∧Hid (∀ i,i<k→(decide (-1≤m.own i)&&decide (m.own i<m.cl.length))=true)) (fun i _=>m.me.length-(intOf i).toNat)
     case atStart=>exact ⟨0,by omega,rfl,Below.refl _ _,Zh (by omega)⟩
     case round=>
      obtain ⟨k,hk,rfl,b,q1⟩:=hrel;have f:ZgQ wr w.heap.size h m:=B.out.old b;have a:=u.out.old b;obtain ⟨M,N,O,P⟩:=ZgR f;have Q:=f.lt;have R:wr.cell? ⟨w.heap.size+1,0,none⟩=some (.slice h.co m.cl.length h.cc):=a.cell 0 rfl;have D:wr.cell? ⟨w.heap.size+1,2,none⟩=some (.slice h.eo m.me.length h.ec):=a.cell 2 rfl;have S:wr.cell? ⟨w.heap.size+1,3,none⟩=some (.int .i64 m.sel):=a.cell 3 rfl;have G:=a.lt;have e:=Zh (Zaf v.out b);have g:=Zh b;clear f a b;by_cases hkl:k<m.me.length
      ·have L:IntKind.i64.wrap ((k:Int)+1)=k+1:=IntWalk.i64_in _ (by omega);have o:(k:Int) < m.me.length:=by omega
       obtain ⟨ad,J,-,c1,-,-,-,-,-⟩:=(HM.out.old e.out).mth hkl;have x:m.own k=(m.me.getD k default).c:=rfl;generalize (m.me.getD k default).c=own at c1 x;have E:=Zh x;have aw:=Zh J;clear x;rw [J] at D;clear J;by_cases hx:-1≤own∧own<m.cl.length
       ·obtain ⟨ab,ac⟩:=hx;have az:¬ own < -1:=by omega
        have aA:¬ own ≥ m.cl.length:=by omega
        have hok:(decide (-1≤m.own k)&&decide (m.own k<m.cl.length))=true:=by rw [E.out];simp [ab,ac]
        have hrel2:∀ i,i<k+1→(decide (-1≤m.own i)&&decide (m.own i<m.cl.length))=true:=fun i hi=>by exact k61
        have HR:=Zh hrel2;clear hrel2 hok;go_wp2;go_roundw
        case rel=>exact ⟨k+1,by omega,by go_num,g.out,Zh HR.out⟩
        case measure=>simp [intOf];omega
       ·have Z:Za0 m=false:=ZaC hkl (by rw [E.out];simp;omega);have U:=Zh Z;clear Z;by_cases ab:own < -1
        ·go_wp2;go_ret;exact ZcT (ZcX (by rw [HQ.out,U.out];simp)) e.out
        ·have ac:own ≥ m.cl.length:=by omega
         go_wp2;go_ret;exact ZcT (ZcX (by rw [HQ.out,U.out];simp)) e.out
      ·obtain rfl:k=m.me.length:=by omega
       have d:=q1.out;have z:=Zh d;clear d q1
       go_wp2_with fail
       go_loopw [63] (fun i wr=>∃ k:Nat,k≤m.cl.length∧i=.int .i64 k∧Below y.heap.size y wr∧Hid (∀ i,i<k→ZaK m i=true)) (fun i _=>m.cl.length-(intOf i).toNat)
       case atStart=>exact ⟨0,by omega,rfl,g.out,Zh (by omega)⟩
       case round=>
        obtain ⟨k,hk,rfl,b,q1⟩:=hrel;clear M N O P Q R D S G g e;have f:ZgQ wr w.heap.size h m:=B.out.old b;have a:=u.out.old b;obtain ⟨M,N,O,P⟩:=ZgR f;have Q:=f.lt;have R:wr.cell? ⟨w.heap.size+1,0,none⟩=some (.slice h.co m.cl.length h.cc):=a.cell 0 rfl;have D:wr.cell? ⟨w.heap.size+1,2,none⟩=some (.slice h.eo m.me.length h.ec):=a.cell 2 rfl;have S:wr.cell? ⟨w.heap.size+1,3,none⟩=some (.int .i64 m.sel):=a.cell 3 rfl;have G:=a.lt;have e:=Zh (Zaf v.out b);have g:=Zh b;clear f a b;by_cases hkl:k<m.cl.length
        ·have L:IntKind.i64.wrap ((k:Int)+1)=k+1:=IntWalk.i64_in _ (by omega);have o:(k:Int) < m.cl.length:=by omega
         have c:=ZgZ m h k _ (HM.out.old e.out) hkl ⟨h1,h2,h3,h4⟩ (Zc8 q1.out) (fun j K=>Zg9 (q1.out j K));generalize hqc:ZaK m k=q at c;have T:=Zh c;have HQc:=Zh hqc;clear c hqc
         go_wp2_with fail
         refine T.out.mono ?_;rintro e2 w2 ⟨rfl,n⟩;have HBW2:=Zh (Zaf e.out n);have HBL2:=Zh (Zaf g.out n);clear n;rcases q with _|_
         ·exact k68
         ·have hok:ZaK m k=true:=HQc.out;have hrel2:∀ i,i<k+1→ZaK m i=true:=fun i hi=>by exact k61
          exact k43
        ·obtain rfl:k=m.cl.length:=by omega
         have d:=q1.out;have l:=Zh d;clear d q1
         go_wp2_with fail
         go_loopw [74] (fun i wr=>∃ k:Nat,k≤m.me.length∧i=.int .i64 k∧Below y.heap.size y wr∧Hid (∀ i,i<k→ZaX m i=true)) (fun i _=>m.me.length-(intOf i).toNat)
         case atStart=>exact ⟨0,by omega,rfl,g.out,Zh (by omega)⟩
         case round=>
          obtain ⟨k,hk,rfl,b,q1⟩:=hrel;clear M N O P Q R D S G g e;have f:ZgQ wr w.heap.size h m:=B.out.old b;have a:=u.out.old b;obtain ⟨M,N,O,P⟩:=ZgR f;have Q:=f.lt;have R:wr.cell? ⟨w.heap.size+1,0,none⟩=some (.slice h.co m.cl.length h.cc):=a.cell 0 rfl;have D:wr.cell? ⟨w.heap.size+1,2,none⟩=some (.slice h.eo m.me.length h.ec):=a.cell 2 rfl;have S:wr.cell? ⟨w.heap.size+1,3,none⟩=some (.int .i64 m.sel):=a.cell 3 rfl;have G:=a.lt;have e:=Zh (Zaf v.out b);have g:=Zh b;clear f a b;by_cases hkl:k<m.me.length
          ·have L:IntKind.i64.wrap ((k:Int)+1)=k+1:=IntWalk.i64_in _ (by omega);have o:(k:Int) < m.me.length:=by omega
           have c:=Zg5 m h k _ (HM.out.old e.out) hkl h1 (fun j K=>Zg9 (l.out j K));generalize hqc:ZaX m k=q at c;have T:=Zh c;have HQc:=Zh hqc;clear c hqc
           go_wp2_with fail
           refine T.out.mono ?_;rintro e2 w2 ⟨rfl,n⟩;have HBW2:=Zh (Zaf e.out n);have HBL2:=Zh (Zaf g.out n);clear n;rcases q with _|_
           ·exact k68
           ·have hok:ZaX m k=true:=HQc.out;have hrel2:∀ i,i<k+1→ZaX m i=true:=fun i hi=>by exact k61
            exact k43
          ·obtain rfl:k=m.me.length:=by omega
           have d:=q1.out;have r:=Zh d;clear d q1
           go_wp2_with fail
           go_loopw [84] (fun i wr=>∃ k:Nat,k≤m.sel.toNat∧i=.int .i64 k∧Below y.heap.size y wr∧Hid (∀ i,i<k→ZaY m i=true)) (fun i _=>m.sel.toNat-(intOf i).toNat)
           case atStart=>exact ⟨0,by omega,rfl,g.out,Zh (by omega)⟩
           case round=>
            obtain ⟨k,hk,rfl,b,q1⟩:=hrel;clear M N O P Q R D S G g e;have f:ZgQ wr w.heap.size h m:=B.out.old b;have a:=u.out.old b;obtain ⟨M,N,O,P⟩:=ZgR f;have Q:=f.lt;have R:wr.cell? ⟨w.heap.size+1,0,none⟩=some (.slice h.co m.cl.length h.cc):=a.cell 0 rfl;have D:wr.cell? ⟨w.heap.size+1,2,none⟩=some (.slice h.eo m.me.length h.ec):=a.cell 2 rfl;have S:wr.cell? ⟨w.heap.size+1,3,none⟩=some (.int .i64 m.sel):=a.cell 3 rfl;have G:=a.lt;have e:=Zh (Zaf v.out b);have g:=Zh b;clear f a b;by_cases hkl:k<m.sel.toNat
            ·have L:IntKind.i64.wrap ((k:Int)+1)=k+1:=IntWalk.i64_in _ (by omega);have o:(k:Int) < m.sel:=by omega
             have c:=Zg8 m h k _ (HM.out.old e.out) o h1 (fun j K=>Zg9 (l.out j K)) (Zhc l.out o) (fun j K=>Zhb (r.out j K));generalize hqc:ZaY m k=q at c;have T:=Zh c;have HQc:=Zh hqc;clear c hqc
             go_wp2_with fail
             refine T.out.mono ?_;rintro e2 w2 ⟨rfl,n⟩;have HBW2:=Zh (Zaf e.out n);have HBL2:=Zh (Zaf g.out n);clear n;rcases q with _|_
             ·exact k68
             ·have hok:ZaY m k=true:=HQc.out;have hrel2:∀ i,i<k+1→ZaY m i=true:=fun i hi=>by exact k61
              exact k43
            ·obtain rfl:k=m.sel.toNat:=by omega
             have d:=q1.out;have A:=Zh d;clear d q1;have o:¬ ((m.sel.toNat:Int) < m.sel):=by omega
             go_wp2;go_ret;exact ZcT (ZcX (by rw [HQ.out,ag.out,show Za0 m=true from ZaD z.out,ZaD l.out,ZaD r.out,ZaD A.out];rfl)) e.out
    ·have i4:m.sel > 16:=by omega
     have i3:¬ m.sel<0:=by omega
     have i1:¬ (m.cl.length:Int) > 10:=by omega
     have i2:¬ (m.me.length:Int) > 16:=by omega
     go_enter Tryz.func175,Tryz.ntmps175;go_wp2;go_ret;exact ZcT (ZcX (by rw [HQ.out,t.out,decide_eq_false (show ¬ m.sel≤16 by omega)];simp)) s.out
   ·have i3:m.sel<0:=by omega
    have i1:¬ (m.cl.length:Int) > 10:=by omega
    have i2:¬ (m.me.length:Int) > 16:=by omega
    go_enter Tryz.func175,Tryz.ntmps175;go_wp2;go_ret;exact ZcT (ZcX (by rw [HQ.out,t.out,decide_eq_false (show ¬ 0≤m.sel by omega)];simp)) s.out
  ·have i1:¬ (m.cl.length:Int) > 10:=by omega
   have i2:(m.me.length:Int) > 16:=by omega
   go_enter Tryz.func175,Tryz.ntmps175;go_wp2;go_ret;exact ZcT (ZcX (by rw [HQ.out,t.out,decide_eq_false (show ¬ m.me.length≤16 by omega)];simp)) s.out
 ·have i1:(m.cl.length:Int) > 10:=by omega
  go_enter Tryz.func175,Tryz.ntmps175;go_wp2;go_ret;exact ZcT (ZcX (by rw [HQ.out,t.out,decide_eq_false (show ¬ m.cl.length≤10 by omega)];simp)) s.out
theorem Zhe (m:Md) (h:Hd) (w:World) (H:Zay w h m):Calls Tryz.prog 114 #[.agg (HM.mk h m)] w (Ret w (.int .i64 (if Za1 m then 0 else 1))):=by
 have a:Below w.heap.size w (w.alloc (.cells (HM.mk h m) 26)):=by exact bE
 have c:=Zhd m h _ (H.old a);generalize Za1 m=q at c ⊢;have d:=Zh c;clear c H;rcases q with _|_
 all_goals
  go_enter Tryz.func114,Tryz.ntmps114
  go_wp2_with fail
  refine d.out.mono ?_;rintro e f ⟨rfl,b⟩
  go_wp2_with fail
  go_ret;exact ZcT rfl (Zaf a b)
end
section
open Go.RowKit
attribute [local go_sem] World.cell?_alloc_some
def Zhf (W:World) (v u:Value):Ending→World→Prop:=fun e w'=>e=.returned (.tuple #[v,u])∧Below W.heap.size W w'
theorem Zhg {W w':World}{v u b a:Value} (h:b=v) (c:a=u) (d:Below W.heap.size W w'):Zhf W v u (.returned (.tuple #[b,a])) w':=⟨by rw [h,c],d⟩
def Zhh (b:Bool):Int:=if b then 0 else 1
def inV (n:Int) (x:Int):Bool:=decide (0≤x)&&decide (x<n)
theorem Zhi (t:Int) (B:Nat) (n:Int) (w:World) (a:w.cell? ⟨B,0,none⟩=some (.int .i64 n)):Calls Tryz.prog 242 #[.int .i64 t,ZQ.p B] w (Ret w (.bool (!inV n t))):=by
 have b:=Zac a;go_enter Tryz.func242,Tryz.ntmps242;go_wp2
 all_goals
  go_ret;exact ZcT (ZcX (by grind [inV])) bE
theorem Zhj (m:Md) (h:Hd) (n:Int) (l:List Int) (i:Option Addr) (c:Nat) (w:World) (H:Zay w h m) (r:Zar w i c l) (e:l.length≤1000000):Calls Tryz.prog 176 #[.agg (HM.mk h m),.int .i64 n,.slice i l.length c] w (Ret w (.int .i64 (Zhh (Za1 m&&l.all (inV n))))):=by
 have k:Blk ((w.alloc (.cells (HM.mk h m) 26)).alloc (.cells #[.int .i64 n] 3)) (w.heap.size+1) #[.int .i64 n] 3:=Blk.new' (w:=w.alloc (.cells (HM.mk h m) 26)) #[.int .i64 n] 3 (by simp);have b:Below w.heap.size w ((w.alloc (.cells (HM.mk h m) 26)).alloc (.cells #[.int .i64 n] 3)):=by exact bE
 have d:=Zhe m h _ (H.old b);have s:=Zh k;have u:=Zh r;have HB0:=Zh b;generalize Za1 m=qm at d ⊢;generalize hq:l.all (inV n)=q;have v:=Zh hq;clear hq;rcases qm with _|_
 ·have HC:=Zh d;clear d k r b H;go_enter Tryz.func176,Tryz.ntmps176;exact k81
 ·have HC:=Zh d;clear d k r b H;go_enter Tryz.func176,Tryz.ntmps176
  go_wp2_with fail
  refine HC.out.mono ?_;rintro e1 w1 ⟨rfl,hb1⟩;have a:=Zdr l i c 242 #[.pointer (some ⟨w.heap.size+1,0,none⟩)] (fun t=>!inV n t) w1 e (u.out.old (Zaf HB0.out hb1)) (fun A W=>by kernel_rfl) (fun j B y x=>Zhi _ (w.heap.size+1) n y (((s.out.old hb1).old x).cell 0 rfl));rw [ZgM] at a;have f:=Zh (Zaf HB0.out hb1);rw [v.out] at a;have g:=Zh a;clear a hb1
  go_wp2_with fail
  refine g.out.mono ?_;rintro z C ⟨rfl,o⟩;rcases q with _|_
  all_goals
   go_wp2;go_ret;exact ZcT (by simp [Zhh]) (Zaf f.out o)
theorem Zhk (m:Md) (h:Hd) (a b:Int) (w:World) (H:Zay w h m):Calls Tryz.prog 263 #[.agg (HM.mk h m),.int .i64 a,.int .i64 b] w (Zhf w (.bool (Za1 m&&inV m.cl.length a&&inV m.cl.length b&&ZaH m (a.toNat+1) a b)) (.int .i64 (Zhh (Za1 m&&inV m.cl.length a&&inV m.cl.length b)))):=by
 have A:Blk (w.alloc (.cells (HM.mk h m) 26)) w.heap.size (HM.mk h m) 26:=Blk.new w _ _;have hR:Blk ((w.alloc (.cells (HM.mk h m) 26)).alloc (.cells #[.int .i64 a,.int .i64 b] 3)) (w.heap.size+1) #[.int .i64 a,.int .i64 b] 3:=Blk.new' (w:=w.alloc (.cells (HM.mk h m) 26)) #[.int .i64 a,.int .i64 b] 3 (by simp);have f:Below w.heap.size w ((w.alloc (.cells (HM.mk h m) 26)).alloc (.cells #[.int .i64 a,.int .i64 b] 3)):=by exact bE
 have j:Zar ((w.alloc (.cells (HM.mk h m) 26)).alloc (.cells #[.int .i64 a,.int .i64 b] 3)) (some ⟨w.heap.size+1,0,none⟩) 2 [a,b]:=by exact k98
 have c:=Zhj m h m.cl.length [a,b] _ 2 _ (H.old f) j (by simp);have e:(Za1 m&&[a,b].all (inV m.cl.length))=(Za1 m&&inV m.cl.length a&&inV m.cl.length b):=by simp [Bool.and_assoc]
 rw [e] at c;generalize hq:(Za1 m&&inV m.cl.length a&&inV m.cl.length b)=q at c ⊢;have C:=Zh c;have F:=Zh (A.alloc (.cells #[.int .i64 a,.int .i64 b] 3));have D:=Zh (H.old f);have v:=Zh f;have E:=Zh hq;clear c A hR f j e hq H;go_enter Tryz.func263,Tryz.ntmps263
 go_wp2_with fail
 refine C.out.mono ?_;rintro J t ⟨rfl,g⟩;have n:=Zh (Zaf v.out g);rcases q with _|_
 ·go_wp2;go_ret2;exact Zhg rfl rfl n.out
 ·have z:=E.out;simp only [Bool.and_eq_true,inV,decide_eq_true_eq] at z;obtain ⟨⟨l,I,x⟩,r,B⟩:=z;have s:∀ k,k<m.cl.length→ZaK m k=true:=by simp only [Za1,Bool.and_eq_true] at l;exact ZaE.1 l.1.1.2
  have o:=ZgU m h a b t (D.out.old g) r x (fun i G L=>Zc8 s i G (by omega));have u:=Zh o;have d:=F.out.old g;have M:t.cell? ⟨w.heap.size,0,none⟩=some (.slice h.co m.cl.length h.cc):=d.cell 0 rfl;have N:t.cell? ⟨w.heap.size,1,none⟩=some (.slice h.so m.st.length h.sc):=d.cell 1 rfl;have O:t.cell? ⟨w.heap.size,2,none⟩=some (.slice h.eo m.me.length h.ec):=d.cell 2 rfl;have P:t.cell? ⟨w.heap.size,3,none⟩=some (.int .i64 m.sel):=d.cell 3 rfl;have Q:=d.lt;clear o s l d g
  go_wp2_with fail
  refine u.out.mono ?_;rintro K R ⟨rfl,y⟩;go_wp2;go_ret2;exact Zhg rfl rfl (Zaf n.out y)
end
section
open Go.RowKit
theorem Zhl (w:World):Calls Tryz.prog 249 #[] w (Ret w (.agg #[.int .i64 1,.int .i64 0])):=by go_enter Tryz.func249,Tryz.ntmps249;go_wp2;exact bodyPost_ret (v:=.agg #[.int .i64 1,.int .i64 0]) (by simp [results,Tryz.results249,go_sem]) rfl ⟨rfl,by exact bE⟩
theorem Zhm (w:World):Calls Tryz.prog 321 #[] w (Ret w (.agg #[.int .i64 3,.int .i64 0])):=by go_enter Tryz.func321,Tryz.ntmps321;go_wp2;exact bodyPost_ret (v:=.agg #[.int .i64 3,.int .i64 0]) (by simp [results,Tryz.results321,go_sem]) rfl ⟨rfl,by exact bE⟩
theorem Zhn (c:Int) (w:World):Calls Tryz.prog 191 #[.int .i64 c] w (Ret w (.agg #[.int .i64 2,.int .i64 c])):=by go_enter Tryz.func191,Tryz.ntmps191;go_wp2;exact bodyPost_ret (v:=.agg #[.int .i64 2,.int .i64 c]) (by simp [results,Tryz.results191,go_sem]) rfl ⟨rfl,by exact bE⟩
def Zho (m:Md) (t u:Ty):Bool:=if t.k=2∧u.k=2 then Za1 m&&inV m.cl.length t.c&&inV m.cl.length u.c&&ZaH m (t.c.toNat+1) t.c u.c else decide (t=u)
theorem Zhp (t u:Ty):decide (t=u)=(decide (t.k=u.k)&&decide (t.c=u.c)):=by cases t;cases u;simp
theorem Zhq (m:Md) (h:Hd) (t u:Ty) (w:World) (H:Zay w h m):Calls Tryz.prog 189 #[.agg (HM.mk h m),.agg #[.int .i64 t.k,.int .i64 t.c],.agg #[.int .i64 u.k,.int .i64 u.c]] w (Ret w (.bool (Zho m t u))):=by
 obtain ⟨q,a⟩:∃ q,q=Zho m t u:=⟨_,rfl⟩;rw [←a];unfold Zho at a;rw [Zhp] at a;have b:∀ d,Below w.heap.size w d→_:=fun d c=>Zhk m h t.c u.c d (H.old c);generalize hx:(Za1 m&&inV m.cl.length t.c&&inV m.cl.length u.c&&ZaH m (t.c.toNat+1) t.c u.c)=x at b a;generalize hy:Zhh (Za1 m&&inV m.cl.length t.c&&inV m.cl.length u.c)=y at b;have f:=Zh b;have g:=Zh a;clear hx hy b a H;go_enter Tryz.func189,Tryz.ntmps189
 go_wp2_with (go_at_call 263;refine (f.out _ bE).mono ?_;rintro e j ⟨rfl,i⟩)
 all_goals
  go_ret;exact ZcT (ZcX (by rw [g.out];grind)) bE
theorem Zhr (m:Md) (h:Hd) (a:Int) (w:World) (H:Zay w h m):Calls Tryz.prog 57 #[.agg (HM.mk h m),.int .i64 a] w (Ret w (.bool (Za1 m&&inV m.me.length a))):=by
 have b:∀ f,Below w.heap.size w f→_:=fun f c=>Zhe m h f (H.old c);generalize hx:Za1 m=x at b ⊢;have g:=Zh b;clear hx b H;rcases x with _|_
 all_goals
  go_enter Tryz.func57,Tryz.ntmps57
  go_wp2_with (go_at_call 114;refine (g.out _ bE).mono ?_;rintro e j ⟨rfl,d⟩;have i:=((Blk.new w (HM.mk h m) 26).old d).cell 2 rfl)
  all_goals
   go_ret;exact ZcT (ZcX (by grind [inV])) bE
end
section
open Go.RowKit
theorem Zhs {P:Program}{b:Array Oper}{Q:Exit→Act→World→Prop}{a:Act}{w:World}{k:Nat}{K:Act→World→Prop} (o:Oper) (c:b[k]?=some o) (d:Region.wanted o (yielded b a.tmps)=false) (h:K (a.put o.dst undef) w):wpOp P b Q k K a w:=by unfold wpOp;simp only [c,d,Bool.false_eq_true,if_false];exact h
theorem Upd.cell {K B:Nat}{w w':World} (h:Upd K B w w') {p:Addr}{v:Value} (hc:w.cell? p=some v) (hK:p.block≠K) (hB:p.block≠B):w'.cell? p=some v:=
 (World.cell?_of_block (w:=w) (h.block p.block (Zac hc) hK hB)).trans hc
theorem Zht (K:Nat) (h:Hd) (m:Md) (L S O:Value) (e:Int) (t u:Ty) (w:World) (H:Ck w K h m L S O e) (HM:Zay w h m) :
  Calls Tryz.prog 257 #[ZQ.p K,.agg #[.int .i64 t.k,.int .i64 t.c],.agg #[.int .i64 u.k,.int .i64 u.c]] w fun r w'=>(∃ v,r=.returned v)∧Ck w' K h m L S O (ZeT e (decide (e=0)&&Zho m t u))∧Upd K K w w':=by
 have f:Below w.heap.size w ((w.alloc (.cells #[.int .i64 t.k,.int .i64 t.c] 76)).alloc (.cells #[.int .i64 u.k,.int .i64 u.c] 76)).drew:=by exact bE
 have x0:Blk (w.alloc (.cells #[.int .i64 t.k,.int .i64 t.c] 76)) w.heap.size #[.int .i64 t.k,.int .i64 t.c] 76:=Blk.new w _ _;have x0:=(x0.alloc (.cells #[.int .i64 u.k,.int .i64 u.c] 76)).drew;have x1:Blk ((w.alloc (.cells #[.int .i64 t.k,.int .i64 t.c] 76)).alloc (.cells #[.int .i64 u.k,.int .i64 u.c] 76)).drew (w.heap.size+1) #[.int .i64 u.k,.int .i64 u.c] 76:=(Blk.new' (w:=(w.alloc (.cells #[.int .i64 t.k,.int .i64 t.c] 76))) _ _ (by simp)).drew;have C:=Zh (HM.old f);have HC1:=H.old f;obtain ⟨V,k0,k1,k2,k3,k4,k5,k6,k7⟩:=HC1.cells;have z:=Zh HC1;have u0:=x0.cell 0 (v:=.int .i64 t.k) rfl;have u1:=x0.cell 1 (v:=.int .i64 t.c) rfl;have v0:=x1.cell 0 (v:=.int .i64 u.k) rfl;have F:=x1.cell 1 (v:=.int .i64 u.c) rfl;have y:=Zh f;have X:=Blk.lt H;obtain ⟨E,A⟩:∃ E,E=((w.alloc (.cells #[.int .i64 t.k,.int .i64 t.c] 76)).alloc (.cells #[.int .i64 u.k,.int .i64 u.c] 76)).drew:=⟨_,rfl⟩;rw [←A] at C z y k0 k1 k2 k3 k7 u0 u1 v0 F;have D:=Zh A;clear f x0 x1 HC1 H HM V k4 k5 k6 A;have hS:∀ w',Below E.heap.size E w'→(fun w':World=>w'.cell? ⟨K,0,none⟩=some (.slice h.co m.cl.length h.cc)∧w'.cell? ⟨K,1,none⟩=some (.slice h.so m.st.length h.sc)∧w'.cell? ⟨K,2,none⟩=some (.slice h.eo m.me.length h.ec)∧w'.cell? ⟨K,3,none⟩=some (.int .i64 m.sel)∧w'.cell? ⟨w.heap.size,0,none⟩=some (.int .i64 t.k)∧w'.cell? ⟨w.heap.size,1,none⟩=some (.int .i64 t.c)∧w'.cell? ⟨w.heap.size+1,0,none⟩=some (.int .i64 u.k)∧w'.cell? ⟨w.heap.size+1,1,none⟩=some (.int .i64 u.c)) w':=
  fun w' hb=>⟨(hb.cell (Zac k0)).trans k0,(hb.cell (Zac k1)).trans k1,(hb.cell (Zac k2)).trans k2,(hb.cell (Zac k3)).trans k3,(hb.cell (Zac u0)).trans u0,(hb.cell (Zac u1)).trans u1,(hb.cell (Zac v0)).trans v0,(hb.cell (Zac F)).trans F⟩
 have HS:=Zh hS;clear hS k0 k1 k2 k3 u0 u1 v0 F;by_cases he:e=0
 ·subst he;go_enter Tryz.func257,Tryz.ntmps257
  go_wp2_with fail
  refine rO (fun w':World=>w'.cell? ⟨K,0,none⟩=some (.slice h.co m.cl.length h.cc)∧w'.cell? ⟨K,1,none⟩=some (.slice h.so m.st.length h.sc)∧w'.cell? ⟨K,2,none⟩=some (.slice h.eo m.me.length h.ec)∧w'.cell? ⟨K,3,none⟩=some (.int .i64 m.sel)∧w'.cell? ⟨w.heap.size,0,none⟩=some (.int .i64 t.k)∧w'.cell? ⟨w.heap.size,1,none⟩=some (.int .i64 t.c)∧w'.cell? ⟨w.heap.size+1,0,none⟩=some (.int .i64 u.k)∧w'.cell? ⟨w.heap.size+1,1,none⟩=some (.int .i64 u.c)) (oL [0,1,2,3,104,5,6,7,8,9,10,11,12,113,14,115]) (D.out▸HS.out _ (Below.refl _ _)) ?_;rw [←D.out]
  repeat refine pO ?_
  refine oO fun Kv hK=>?_;go_simp;refine hK _ _ ⟨HS.out _ (Below.refl _ _),?_⟩;clear hK Kv
  repeat refine pO ?_
  refine oO fun Kv hK=>?_;go_simp;refine (Zhq m h t u _ C.out).mono ?_;rintro r w2 ⟨rfl,hb2⟩;refine hK _ _ ⟨HS.out _ hb2,?_⟩;clear hK Kv
  repeat refine pO ?_
  refine oO fun Kv hK=>?_;go_simp;refine (ZeU K h m L S O _ _ _ (z.out.old hb2)).mono ?_;rintro r w3 ⟨⟨v,rfl⟩,hc,hu⟩;obtain ⟨-,-,-,-,M,N,R,T⟩:=HS.out _ hb2;obtain ⟨-,c0,G,I,J,-,-,-,-⟩:=hc.cells;refine hK _ _ ⟨⟨c0,G,I,J,hu.cell M (by show w.heap.size≠K;omega) (by show w.heap.size≠K;omega),hu.cell N (by show w.heap.size≠K;omega) (by show w.heap.size≠K;omega),hu.cell R (by show w.heap.size+1≠K;omega) (by show w.heap.size+1≠K;omega),hu.cell T (by show w.heap.size+1≠K;omega) (by show w.heap.size+1≠K;omega)⟩,?_⟩;clear hK Kv;refine Zd5 ?_;go_wp2;go_end0;exact ⟨⟨_,rfl⟩,by simpa using hc,(Upd.of (Zaf y.out hb2)).trans hu⟩
 ·have U:(e == 0)=false:=by simpa using he
  have HE:=Zh he;go_enter Tryz.func257,Tryz.ntmps257
  go_wp2_with fail
  refine rO (fun w':World=>w'.cell? ⟨K,0,none⟩=some (.slice h.co m.cl.length h.cc)∧w'.cell? ⟨K,1,none⟩=some (.slice h.so m.st.length h.sc)∧w'.cell? ⟨K,2,none⟩=some (.slice h.eo m.me.length h.ec)∧w'.cell? ⟨K,3,none⟩=some (.int .i64 m.sel)∧w'.cell? ⟨w.heap.size,0,none⟩=some (.int .i64 t.k)∧w'.cell? ⟨w.heap.size,1,none⟩=some (.int .i64 t.c)∧w'.cell? ⟨w.heap.size+1,0,none⟩=some (.int .i64 u.k)∧w'.cell? ⟨w.heap.size+1,1,none⟩=some (.int .i64 u.c)) (oL [0,1,2,3,104,5,6,7,8,9,10,11,12,113,14,115]) (D.out▸HS.out _ (Below.refl _ _)) ?_;rw [←D.out]
  repeat refine pO ?_
  refine oO fun Kv hK=>?_;go_simp;refine hK _ _ ⟨HS.out _ (Below.refl _ _),?_⟩;clear hK Kv
  repeat refine pO ?_
  refine Zd3 ?_;refine Zhs _ (by rfl) (by rfl) ?_;refine ⟨HS.out _ (Below.refl _ _),?_⟩
  repeat refine pO ?_
  refine oO fun Kv hK=>?_;go_simp;refine (ZeU K h m L S O _ _ _ (z.out.old (Below.refl _ _))).mono ?_;rintro r w3 ⟨⟨v,rfl⟩,hc,hu⟩;obtain ⟨-,-,-,-,M,N,R,T⟩:=HS.out _ (Below.refl _ _);obtain ⟨-,c0,G,I,J,-,-,-,-⟩:=hc.cells;refine hK _ _ ⟨⟨c0,G,I,J,hu.cell M (by show w.heap.size≠K;omega) (by show w.heap.size≠K;omega),hu.cell N (by show w.heap.size≠K;omega) (by show w.heap.size≠K;omega),hu.cell R (by show w.heap.size+1≠K;omega) (by show w.heap.size+1≠K;omega),hu.cell T (by show w.heap.size+1≠K;omega) (by show w.heap.size+1≠K;omega)⟩,?_⟩;clear hK Kv;refine Zd5 ?_;go_wp2;go_end0;exact ⟨⟨_,rfl⟩,by simpa [HE.out] using hc,(Upd.of y.out).trans hu⟩
end
