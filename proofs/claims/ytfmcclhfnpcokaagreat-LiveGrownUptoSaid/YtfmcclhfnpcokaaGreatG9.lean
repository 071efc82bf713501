import Derived.Test.YtfmcclhfnpcokaaGreatG3
import Derived.Test.YtfmcclhfnpcokaaGreatG6
set_option linter.all false
set_option maxRecDepth 100000
set_option maxHeartbeats 8000000
namespace Go.Proofs.YtfmcclhfnpcokaaGreat
theorem k43{p:Prop}(h:p:=by
 have HR:=Zh hrel2;clear hrel2 hok;go_wp2;go_roundw
 case rel=>exact ⟨k+1,by omega,by go_num,HBL2.out,Zh HR.out⟩
 case measure=>simp [intOf];omega):p:=h
theorem k47{p:Prop}(h:p:=by
 have hrel2:∀ i,i<s+1→ZaK m k i=true:=fun i hi=>by
  by_cases his:i<s
  ·exact q1.out i his
  ·obtain rfl:i=s:=by omega
   exact hsok
 have HR:=Zh hrel2;clear hrel2 hsok;go_wp2;go_roundw
 case rel=>exact ⟨s+1,by omega,by go_num,HBL.out,Zh HR.out⟩
 case measure=>simp [intOf];omega):p:=h
theorem k61{p:Prop}(h:p:=by
 by_cases hik:i<k
 ·exact q1.out i hik
 ·obtain rfl:i=k:=by omega
  exact hok):p:=h
theorem k68{p:Prop}(h:p:=by
 go_wp2;go_ret;exact ZcP (ZcT (by rw [HQ.out,ZaD hkl HQc.out];simp)) HBW2.out):p:=h
theorem k80{p:Prop}(h:p:=by
 have HN:=Zh hn;clear hn
 go_wp2_with fail
 go_ret;exact ZcP (ZcU (by rw [HE.out,HN.out];rfl)) (Zag hb01 hb2)):p:=h
theorem k81{p:Prop}(h:p:=by
 go_wp2_with fail
 refine HC.out.mono ?_;rintro e1 w1 ⟨rfl,hb1⟩;go_wp2;go_ret;exact ZcP rfl (Zag HB0.out hb1)):p:=h
theorem k99{p:Prop}(h:p:=by
 go_wp2_with fail
 go_ret;exact ZcP (ZcT (by rw [decide_eq_false (show ¬ a<m.sel by omega)];rfl)) bE):p:=h
theorem ZgO{p:Prop}(h:p:=by
 go_wp2;go_ret;exact ZcP (ZcT (by rw [decide_eq_false (show ¬ a<(k:Int) by omega)];rfl)) bE):p:=h
theorem k98{p:Prop}(h:p:=by
 unfold Zas;rw [Zau];exact ZdN hR rfl):p:=h
section
open Go.RowKit
theorem ZgP {α:Type} (l:List α) (p:α→Bool):(l.any fun x=>!p x)=!(l.all p):=by
 induction l with
 | nil=>rfl
 | cons x r ih=>simp only [List.any_cons,List.all_cons,ih,Bool.not_and]
theorem ZgQ (l:List In3) (ao:Option Addr) (cap:Nat) (p:Bool) (w:World) (x:Zas w ao cap l) :
  Calls Tryz.prog 301 #[.slice ao l.length cap,.bool p] w (Ret w (.int .i64 (ZaW p l))):=by
 have t:=Zh x;obtain ⟨B,o⟩:∃ B,B=w.heap.size:=⟨_,rfl⟩;generalize hq:ZaW p l=q;have m:=Zh hq;clear x hq;by_cases hlen:l.length≤120
 ·have r:¬ (l.length:Int) > 120:=by omega
  have E:¬ (120:Int) < l.length:=by omega
  have c:¬ 120<l.length:=by omega
  have u:∀ A W,(callFunc 320 (A++#[.pointer (some ⟨B,0,none⟩)])).run Tryz.prog W=.ok (.enter 320 (A++#[.pointer (some ⟨B,0,none⟩)])) W:=fun A W=>by kernel_rfl
  have d:=(Below.refl w.heap.size w).alloc (Nat.le_refl _) (.cells #[.bool p] 4);have C:=Blk.new' (w:=w) #[.bool p] 4 o;have a:=Zdp l ao cap 320 #[ZQ.p B] (fun i=>!ZaR p i) (w.alloc (.cells #[.bool p] 4)) (by omega) (t.out.old d) u (fun k L J D=>Zdl (l.getD k default) p B J ((C.old D).cell 0 rfl));rw [ZgP] at a;have s:=Zh a;clear u a;rcases hall:l.all (ZaR p) with _|_
  ·have h:=Zh hall;clear hall;go_enter Tryz.func301,Tryz.ntmps301
   go_wp2_with fail
   rw [←o];have g:=s.out;rw [h.out] at g;refine g.mono ?_;clear g;rintro e y ⟨rfl,f⟩
   go_wp2_with fail
   go_ret;refine ZcP (ZcU ?_) (Zag d f);rw [←m.out,ZaW,if_neg c,h.out];rfl
  ·have h:=Zh hall;clear hall;go_enter Tryz.func301,Tryz.ntmps301
   go_wp2_with fail
   rw [←o];have g:=s.out;rw [h.out] at g;refine g.mono ?_;clear g;rintro e y ⟨rfl,f⟩;have hb01:=Zag d f;have j:=Zdc l ao cap y (t.out.old hb01) hlen;have z:=Zh j;clear j
   go_wp2_with fail
   refine z.out.mono ?_;rintro e M ⟨⟨F,G,H,I,n,rfl⟩,hb2⟩;have K:∀ (b:Bool) w,Sem.run Tryz.prog (Instr.field 276 (.agg #[F,G,H,I,.int .i64 n,.bool b]) 5) w=.ok (.bool b) w:=fun b w=>by kernel_rfl
   have v:q=if ZaV l then 0 else 7:=by rw [←m.out,ZaW,if_neg c,h.out];rfl
   have HE:=Zh v;clear v m;rcases hn:ZaV l with _|_
   ·exact k80
   ·exact k80
 ·have r:(120:Int) < l.length:=by omega
  have c:120<l.length:=by omega
  go_enter Tryz.func301,Tryz.ntmps301
  go_wp2_with fail
  go_ret;exact ZcP (ZcU (by rw [←m.out,ZaW,if_pos c])) bE
end
section
open Go.RowKit
theorem ZgR (m:Md) (h:Hd) (n:Int) (w:World):Calls Tryz.prog 319 #[.agg (HM.mk h m),.int .i64 n] w (Ret w (.bool (decide (0≤n)&&decide (n<m.cl.length)))):=by
 go_enter Tryz.func319,Tryz.ntmps319;go_wp2
 all_goals
  go_ret;exact ZcP (ZcT (by grind)) bE
theorem ZgS (m:Md) (h:Hd) (t:Ty) (a:Int) (w:World):Calls Tryz.prog 299 #[.agg (HM.mk h m),.agg #[.int .i64 t.k,.int .i64 t.c],.int .i64 a] w (Ret w (.bool (ZaG m.cl.length t a))):=by
 go_enter Tryz.func299,Tryz.ntmps299
 go_wp2_with (go_at_call 319;refine (ZgR _ _ _ _).mono ?_;rintro e c ⟨rfl,b⟩)
 all_goals
  go_ret;exact ZcP (ZcT (by grind [ZaG])) bE
def ZgT (w:World) (B:Nat) (h:Hd) (m:Md):Prop:=Blk w B (HM.mk h m) 226
theorem ZgU {w:World}{B:Nat}{h:Hd}{m:Md} (H:ZgT w B h m):w.cell? ⟨B,0,none⟩=some (.slice h.co m.cl.length h.cc)∧w.cell? ⟨B,1,none⟩=some (.slice h.so m.st.length h.sc)∧w.cell? ⟨B,2,none⟩=some (.slice h.eo m.me.length h.ec)∧w.cell? ⟨B,3,none⟩=some (.int .i64 m.sel):=⟨H.cell 0 rfl,H.cell 1 rfl,H.cell 2 rfl,H.cell 3 rfl⟩
theorem ZgT.old {w w':World}{B:Nat}{h:Hd}{m:Md} (H:ZgT w B h m) (hb:Below w.heap.size w w'):ZgT w' B h m:=Blk.old H hb
theorem ZgT.lt {w:World}{B:Nat}{h:Hd}{m:Md} (H:ZgT w B h m):B<w.heap.size:=Blk.lt H
theorem ZgV (m:Md) (h:Hd) (t:Ty) (B:Nat) (w:World) (a:ZgT w B h m):Calls Tryz.prog 298 #[.agg #[.int .i64 t.k,.int .i64 t.c],ZQ.p B] w (Ret w (.bool (!ZaG m.cl.length t 1))):=by
 obtain ⟨c,d,f,g⟩:=ZgU a;have i:=a.lt;clear a;go_enter Tryz.func298,Tryz.ntmps298
 go_wp2_with (go_at_call 299;refine (ZgS m h t 1 _).mono ?_;rintro e j ⟨rfl,b⟩)
 go_ret;exact ZcP rfl bE
theorem ZgW (m:Md) (h:Hd) (l:List Ty) (ao:Option Addr) (cap:Nat) (a:Int) (w:World) (i:Zas w ao cap l) (s:a≤1000000):Calls Tryz.prog 248 #[.agg (HM.mk h m),.slice ao l.length cap,.int .i64 a] w (Ret w (.bool (decide ((l.length:Int)≤a)&&ZaH m.cl.length l))):=by
 obtain ⟨B,f⟩:∃ B,B=w.heap.size:=⟨_,rfl⟩;by_cases hlen:(l.length:Int)≤a
 ·have c:=(Below.refl w.heap.size w).alloc (Nat.le_refl _) (.cells (HM.mk h m) 226);have g:ZgT _ B h m:=Blk.new' (w:=w) (HM.mk h m) 226 f;have b:=Zdr l ao cap 298 #[ZQ.p B] (fun t=>!ZaG m.cl.length t 1) (w.alloc (.cells (HM.mk h m) 226)) (by omega) (i.old c) (fun A W=>by kernel_rfl) (fun k r q o=>ZgV m h (l.getD k default) B q (g.old o));rw [ZgP] at b;have j:=Zh b;have n:decide ((l.length:Int)≤a)=true:=by simp;omega
  clear i g b;go_enter Tryz.func248,Tryz.ntmps248
  go_wp2_with fail
  rw [←f];refine j.out.mono ?_;rintro e u ⟨rfl,d⟩;go_wp2;go_ret;exact ZcP (ZcT (by simp [hlen,ZaH])) (Zag c d)
 ·have n:decide ((l.length:Int)≤a)=false:=by simp;omega
  go_enter Tryz.func248,Tryz.ntmps248;go_wp2;go_ret;exact ZcP (ZcT (by simp [hlen])) bE
theorem ZgX (m:Md) (h:Hd) (a b:Int) (w:World) (H:Zaz w h m) (n:0≤b) (P:a<m.cl.length) (v:ZcZ m (a.toNat+1)):Calls Tryz.prog 208 #[.agg (HM.mk h m),.int .i64 a,.int .i64 b] w (Ret w (.bool (ZaI m (a.toNat+1) a b))):=by
 obtain ⟨q,o⟩:∃ q,q=ZaI m (a.toNat+1) a b:=⟨_,rfl⟩;rw [←o];have z:=Zh o;clear o;obtain ⟨B,A,M,L,I,G,Q,R⟩:=h;dsimp only;have N:=Zh H;have r:=Zh v;have d:=(Below.refl w.heap.size w).alloc (Nat.le_refl _) (.cells #[.slice B m.cl.length A,.slice M m.st.length L,.slice I m.me.length G,.int .i64 m.sel] 226);have l:=Zh (H.old d);clear H v d;go_enter Tryz.func208,Tryz.ntmps208;go_wp2
 go_loop [1] (fun x=>∃ k:Int,x=.int .i64 k∧k≤a∧ZaI m (k.toNat+1) k b=q) (fun x=>(intOf x+1).toNat)
 case atStart=>exact ⟨a,rfl,by omega,z.out.symm⟩
 case round=>
  obtain ⟨k,rfl,J,j⟩:=hrel;have t:=Zh j;clear j;by_cases hlt:b<k
  ·obtain ⟨c,rfl⟩:∃ c:Nat,k=c:=⟨k.toNat,by omega⟩;obtain ⟨O,g,C,D,E,F⟩:=l.out.cls (i:=c) (by omega);dsimp only at g;subst g;clear C E F;have K:=r.out c (by omega) (by omega);have e:m.sup c=(m.cl.getD c default).sup:=rfl;generalize (m.cl.getD c default).sup=s at D e;have u:=Zh e;clear e;rw [u.out] at K;go_wp2
   go_round
   case rel=>
    refine ⟨s,rfl,by omega,?_⟩;have f:=t.out;rw [ZaI,if_pos hlt,u.out,Int.toNat_natCast] at f;rw [←f];exact Zc2 r.out n (by omega) (by omega) (by omega)
   case measure=>simp [intOf];omega
  ·have y:¬ k > b:=by omega
   go_wp2;go_ret;refine ZcP (ZcT ?_) bE;have f:=t.out;rw [ZaI,if_neg (by omega)] at f;rw [←f];grind
end
section
open Go.RowKit
theorem ZgY (m:Md) (h:Hd) (k s n:Nat) (w:World) (H:Zaz w h m) (hk:k<m.cl.length) (T:n<m.me.length) (D:ZcZ m (k+1)) (hs:s<m.sel) (E:∀ j,j≤k→((m.cl.getD j default).m.length:Int)=m.sel):Calls Tryz.prog 300 #[.agg (HM.mk h m),.int .i64 k,.int .i64 s,.int .i64 n] w (Ret w (.bool (ZaJ m k s n))):=by
 have a:=(Below.refl w.heap.size w).alloc (Nat.le_refl _) (.cells (HM.mk h m) 226);have C:ZgT _ w.heap.size h m:=Blk.new w (HM.mk h m) 226;obtain ⟨ad,t,-,X,-,-,-,-,-⟩:=(H.old a).mth T;have c:m.own n=(m.me.getD n default).c:=rfl;generalize (m.me.getD n default).c=own at X c;have F:ZaJ m k s n=(decide (0≤own)&&decide (own≤k)&&ZaI m (k+1) k own&&decide (m.ent own s=n)):=by rw [←c];rfl
 rw [F];have v:=Zh H;have I:=Zh D;have J:=Zh E;have B:=Zh C;clear F c C H E D;by_cases ho:0≤own∧own≤k
 ·obtain ⟨o,rfl⟩:∃ o:Nat,own=o:=⟨own.toNat,by omega⟩;have d:=fun A (hb:Below w.heap.size w A)=>ZgX m h k o A (v.out.old hb) (by omega) (by omega) (by rw [Int.toNat_natCast];exact I.out);rw [Int.toNat_natCast] at d;generalize ZaI m (k+1) k o=q at d;have G:=Zh d;clear d;have y:=J.out o (by omega);have b:m.ent o s=(m.cl.getD o default).m.getD s 0:=rfl;generalize u:(m.cl.getD o default).m.getD s 0=e at b;rw [b];have p:=Zh u;clear u b;obtain ⟨O,N,so,sc,Q,P,S,u⟩:=h;dsimp only at *;subst t;have U:(o:Int)≤k:=by omega
  have V:o<m.cl.length:=by omega
  have W:(o:Int) < m.cl.length:=by omega
  go_enter Tryz.func300,Tryz.ntmps300
  go_wp2_with fail
  refine (G.out _ a).mono ?_;rintro e1 A ⟨rfl,g⟩;obtain ⟨Y,Z,r2,r3⟩:=ZgU (B.out.old g);have rl:=(B.out.old g).lt;have l:=Zag a g;obtain ⟨L,r,-,-,-,x⟩:=(v.out.old l).cls (i:=o) (by omega);dsimp only at Y Z r2 r3 r x;subst r;obtain ⟨M,f,t0⟩:=ZaC ((v.out.old l).t o (by omega)) (i:=s) (by omega);rw [p.out] at t0;dsimp only at f;rw [f] at x;have z:(s:Int) < (m.cl.getD o default).m.length:=by omega
  have K:=Zh f;generalize (m.cl.getD o default).m.length=tl at x z;clear f p y;rcases q with _|_
  all_goals
   go_wp2
   all_goals
    go_ret;exact ZcP (ZcT (by grind)) l
 ·obtain ⟨O,N,so,sc,Q,P,S,u⟩:=h;dsimp only at *;subst t;go_enter Tryz.func300,Tryz.ntmps300;by_cases h0:0≤own
  ·have R:¬ own≤k:=by omega
   go_wp2;go_ret;exact ZcP (ZcT (by grind)) a
  ·have R:¬ own ≥ 0:=by omega
   go_wp2;go_ret;exact ZcP (ZcT (by grind)) a
theorem ZgZ {a b:List Ty}{k:Nat} (h:a.getD k default≠b.getD k default):¬ a=b:=fun e=>h (by rw [e])
theorem Zg0 {a b:List Ty} (h:a.length=b.length) (h1:∀ i,i<a.length→a.getD i default=b.getD i default):a=b:=by exact k89
theorem Zg1 (a b:List Ty) (ao bo:Option Addr) (l bc:Nat) (w:World) (m:Zas w ao l a) (n:Zas w bo bc b) (L:a.length≤1000000):Calls Tryz.prog 253 #[.slice ao a.length l,.slice bo b.length bc] w (Ret w (.bool (decide (a=b)))):=by
 by_cases hlen:a.length=b.length
 · have u:=Zh m;have v:=Zh n;have d:=Zh hlen;have g:((a.length:Int) != b.length)=false:=by simp [hlen]
   clear m n hlen;go_enter Tryz.func253,Tryz.ntmps253;go_wp2
   go_loopw [13] (fun i wr=>∃ k:Nat,k≤a.length∧i=.int .i64 k∧Below w.heap.size w wr∧Hid (∀ i,i<k→a.getD i default=b.getD i default)) (fun i _=>a.length-(intOf i).toNat)
   case atStart=>exact ⟨0,by omega,rfl,Below.refl _ _,Zh (by omega)⟩
   case round=>
     obtain ⟨k,K,rfl,c,o⟩:=hrel;have f:=Zh c;clear c;by_cases hkl:k<a.length
     · obtain ⟨I,rfl,q,r⟩:=ZaA (u.out.old f.out) hkl;obtain ⟨J,rfl,s,t⟩:=ZaA (v.out.old f.out) (i:=k) (by have:=d.out;omega);have C:(k:Int) < b.length:=by have:=d.out;omega
       generalize hx:a.getD k default=x at q r;generalize hy:b.getD k default=y at s t;have h:=Zh hx;have j:=Zh hy;clear hx hy;have D:=ZdY;have z:=ZdZ;obtain ⟨F,E⟩:=x;obtain ⟨H,G⟩:=y;dsimp only at q r s t;go_wp2
       go_quiet (fail)
       go_wp2
       all_goals first
         | (go_ret
            have A:¬ ((⟨F,E⟩:Ty)=⟨H,G⟩):=by simp only [Ty.mk.injEq];grind
            exact ZcP (ZcT (decide_eq_false (ZgZ (k:=k) (by rw [h.out,j.out];exact A))).symm) (ZcQ f.out _))
         | (go_roundw
            case rel=>
              refine ⟨k+1,by omega,by go_num,ZcQ f.out _,Zh fun i B=>?_⟩;by_cases hik:i<k
              · exact o.out i hik
              · obtain rfl:i=k:=by omega
                rw [h.out,j.out,Ty.mk.injEq];grind
            case measure=>simp [intOf];omega)
     · go_wp2;go_ret;exact ZcP (ZcT (decide_eq_true (Zg0 d.out fun i B=>o.out i (by omega))).symm) f.out
 · have g:((a.length:Int) != b.length)=true:=by simp;omega
   go_enter Tryz.func253,Tryz.ntmps253;go_wp2;go_ret;exact ZcP (ZcT (decide_eq_false fun e=>hlen (by rw [e])).symm) bE
end
section
open Go.RowKit
theorem Zg2 (m:Md) (h:Hd) (k:Nat) (w:World) (H:Zaz w h m) (hk:k<m.cl.length) (bB:m.cl.length≤10∧m.me.length≤16∧0≤m.sel∧m.sel≤16) (hd:ZcZ m k) (hl:∀ j,j<k→((m.cl.getD j default).m.length:Int)=m.sel):Calls Tryz.prog 249 #[.agg (HM.mk h m),.int .i64 k] w (Ret w (.bool (ZaL m k))):=by
 have F:=(Below.refl w.heap.size w).alloc (Nat.le_refl _) (.cells (HM.mk h m) 226);have hX:ZgT _ w.heap.size h m:=Blk.new w (HM.mk h m) 226;obtain ⟨ad,C,c0,c1,c2,c3⟩:=(H.old F).cls hk;generalize hx:m.cl.getD k default=x at c0 c1 c2 c3;obtain ⟨nm,f,A,B⟩:=x;have hq:ZaL m k=(decide (-1≤f)&&decide (f<k)&&decide (A.length≤7)&&ZaH m.cl.length A&&decide ((B.length:Int)=m.sel)&&(List.range B.length).all (ZaK m k)&&(decide (f<0)||decide ((m.cl.getD f.toNat default).f.length≤A.length)&&decide ((m.cl.getD f.toNat default).f=A.take (m.cl.getD f.toNat default).f.length))):=by simp only [ZaL,Md.sup,hx,Int.toNat_natCast]
 have ae:m.sup k=f:=by simp only [Md.sup,hx,Int.toNat_natCast]
 have R:=H.f k hk;have G:=H.bf k hk;have U:=H.t k hk;rw [hx] at R U G;dsimp only at c0 c1 c2 c3 R U G;have ai:=F.alloc F.size (.cells #[.string nm,.int .i64 f,.slice (h.c k).fo A.length (h.c k).fc,.slice (h.c k).mo B.length (h.c k).mc] 44);have hY:Blk _ (w.heap.size+1) _ _:=Blk.new' (w:=w.alloc (.cells (HM.mk h m) 226)) #[.string nm,.int .i64 f,.slice (h.c k).fo A.length (h.c k).fc,.slice (h.c k).mo B.length (h.c k).mc] 44 (by simp);have D:=hX.alloc (.cells #[.string nm,.int .i64 f,.slice (h.c k).fo A.length (h.c k).fc,.slice (h.c k).mo B.length (h.c k).mc] 44);have ab:=ZgW m h A (h.c k).fo (h.c k).fc 7 _ (R.old ai) (by omega);have HQ:=Zh hq;have HX:=Zh D;have HY:=Zh hY;have V:=Zh R;have ag:=Zh U;have HC:=Zh hx;have HS:=Zh ae;have Hj:=Zh H;have HD:=Zh hd;have HL:=Zh hl;have HA:=Zh ab;have J:=Zh ai;clear hq hX D hY R U hx ae H hd hl ab ai;obtain ⟨co,cc,so,sc,eo,ec,hc,he⟩:=h;dsimp only at *;subst C;generalize hch:hc k=ch at HX HY V ag HA J c2 c3 G;obtain ⟨fo,fc,mo,mc⟩:=ch;dsimp only at HX HY V ag HA J c2 c3 G;clear hch;have bu:(k:Int) < m.cl.length:=by omega
 by_cases hs:-1≤f∧f<k
 ·have ax:¬ f < -1:=by omega
  have ay:¬ f ≥ k:=by omega
  go_enter Tryz.func249,Tryz.ntmps249
  go_wp2_with fail
  refine HA.out.mono ?_;rintro e1 w1 ⟨rfl,X⟩;clear c0 c1 c2 c3 F HA;have M:=HY.out.old X;have x1:w1.cell? ⟨w.heap.size+1,1,none⟩=some (.int .i64 f):=M.cell 1 rfl;have x3:w1.cell? ⟨w.heap.size+1,3,none⟩=some (.slice mo B.length mc):=M.cell 3 rfl;have xl:=M.lt;have W:=HX.out.old X;have r3:w1.cell? ⟨w.heap.size,3,none⟩=some (.int .i64 m.sel):=W.cell 3 rfl;have rl:=W.lt;have ah:=Zh (Zag J.out X);have aK:=Zh W;have aM:=Zh M;clear W M HX HY J X;rcases h7:decide ((A.length:Int)≤7)&&ZaH m.cl.length A with _|_
  ·have H7:=Zh h7;clear h7;go_wp2;go_ret;refine ZcP (ZcT ?_) ah.out;have h8:=H7.out;rw [HQ.out];grind
  have H7:=Zh h7;clear h7;by_cases hts':¬ (B.length:Int)=m.sel
  ·have L:=hts';have az:((B.length:Int) != m.sel)=true:=by simpa using L
   go_wp2;go_ret;refine ZcP (ZcT ?_) ah.out;rw [HQ.out,decide_eq_false L];simp
  have L:(B.length:Int)=m.sel:=by omega
  clear hts';have az:((B.length:Int) != m.sel)=false:=by simpa using L
  have HT:=Zh L;have U:B.length≤16:=by omega
  clear L;go_wp2
  go_loopw [43] (fun i wr=>∃ s:Nat,s≤B.length∧i=.int .i64 s∧Below w1.heap.size w1 wr∧Hid (∀ i,i<s→ZaK m k i=true)) (fun i _=>B.length-(intOf i).toNat)
  case atStart=>exact ⟨0,by omega,rfl,Below.refl _ _,Zh (by omega)⟩
  case round=>
   obtain ⟨s,hs,rfl,O,q1⟩:=hrel;clear x1 x3 xl r3 rl;have N:=aM.out.old O;have D:ZgT wr w.heap.size ⟨some ad,cc,so,sc,eo,ec,hc,he⟩ m:=aK.out.old O;have x1:wr.cell? ⟨w.heap.size+1,1,none⟩=some (.int .i64 f):=N.cell 1 rfl;have x2:wr.cell? ⟨w.heap.size+1,2,none⟩=some (.slice fo A.length fc):=N.cell 2 rfl;have xl:=N.lt;obtain ⟨r0,r1,r2,r3⟩:=ZgU D;have rl:=D.lt;dsimp only at r0 r1 r2 r3;have au:=Zag ah.out O;have HB2:=Zh au;have HBL:=Zh O;have aL:=Zh D;have aN:=Zh N;clear D N O au;by_cases hst:s<B.length
   ·obtain ⟨bq,rfl,t0⟩:=ZaC (ag.out.old HB2.out) hst;generalize hn:B.getD s 0=n at t0;have ac:ZaK m k s=(decide (-1≤n)&&decide (n<m.me.length)&&(decide (n<0)||ZaJ m k s n)&&!(decide (0≤f)&&decide (n<0)&&decide (0≤m.ent f s))):=by simp only [ZaK,Md.ent,Int.toNat_natCast,HC.out,hn,HS.out];rfl
    have y:=Zh ac;clear hn ac;have bk:(s:Int) < B.length:=by omega
    have bC:IntKind.i64.wrap ((s:Int)+1)=s+1:=IntWalk.i64_in _ (by omega);have I:∀ w':World,ZaK m k s=false→Below w.heap.size w w'→Ret w (.bool (ZaL m k)) (.returned (.bool false)) w':=fun w' hf hb=>ZcP (ZcT (by rw [HQ.out,ZaD hst hf];simp)) hb;have HF:=Zh I;clear I;by_cases hn1:n < -1
    ·go_wp2;go_ret;exact HF.out _ (by rw [y.out,decide_eq_false (show ¬ -1≤n by omega)];rfl) HB2.out
    by_cases hn2:(m.me.length:Int)≤n
    ·have bv:n ≥ m.me.length:=hn2;go_wp2;go_ret;exact HF.out _ (by rw [y.out,decide_eq_false (show ¬ n<m.me.length by omega)];simp) HB2.out
    have bw:¬ n ≥ m.me.length:=hn2;by_cases hn5:0≤n
    ·obtain ⟨nn,rfl⟩:∃ nn:Nat,n=nn:=⟨n.toNat,by omega⟩;have z:=ZgY m ⟨some ad,cc,so,sc,eo,ec,hc,he⟩ k s nn wr (Hj.out.old HB2.out) hk (by omega) (fun i h0 h1=>by
      by_cases hik:i<k
      ·exact HD.out i h0 hik
      ·obtain rfl:i=k:=by omega
       rw [HS.out];omega) (by have:=HT.out;omega) (fun j hj=>by
      by_cases hjk:j<k
      ·exact HL.out j hjk
      ·obtain rfl:j=k:=by omega
       rw [HC.out];exact HT.out)
     dsimp only at z;generalize ZaJ m k s nn=q at z y;have HE:=Zh z;have bx:¬ (nn:Int) < -1:=by omega
     clear z
     go_wp2_with fail
     refine HE.out.mono ?_;rintro e1 w2 ⟨rfl,E⟩;have aV:ZgT w2 w.heap.size ⟨some ad,cc,so,sc,eo,ec,hc,he⟩ m:=aL.out.old E;have y1:w2.cell? ⟨w.heap.size+1,1,none⟩=some (.int .i64 f):=(aN.out.old E).cell 1 rfl;have HB3:=Zh (Zag HB2.out E);have aG:=Zh (Zag HBL.out E);clear x1 x2 xl r0 r1 r2 r3 rl aV E;rcases q with _|_
     ·go_wp2;go_ret;exact HF.out _ (by rw [y.out];simp;omega) HB3.out
     ·have bz:¬ (nn:Int) < 0:=by omega
      have hsok:ZaK m k s=true:=by rw [y.out];simp;omega
      have hrel2:∀ i,i<s+1→ZaK m k i=true:=fun i hi=>by
       by_cases his:i<s
       ·exact q1.out i his
       ·obtain rfl:i=s:=by omega
        exact hsok
      have HR:=Zh hrel2;clear hrel2 hsok;by_cases hsn:0≤f
      all_goals
       go_wp2;go_roundw
       case rel=>exact ⟨s+1,by omega,by go_num,aG.out,Zh HR.out⟩
       case measure=>simp [intOf];omega
    ·obtain rfl:n=-1:=by omega
     by_cases hsn:0≤f
     ·obtain ⟨u,rfl⟩:∃ u:Nat,f=u:=⟨f.toNat,by omega⟩;have hu:u<m.cl.length:=by omega
      have a0:(u:Int) < m.cl.length:=by omega
      obtain ⟨aO,C,-,-,-,k3⟩:=(Hj.out.old HB2.out).cls hu;have a2:=HL.out u (by omega);obtain ⟨br,ak,t1⟩:=ZaC ((Hj.out.old HB2.out).t u hu) (i:=s) (by have:=HT.out;omega);have aZ:(s:Int) < (m.cl.getD u default).m.length:=by have:=HT.out;omega
      dsimp only at ak k3 C;obtain rfl:=Option.some.inj C;have z:m.ent u s=(m.cl.getD u default).m.getD s 0:=rfl;generalize (m.cl.getD u default).m.getD s 0=e at t1 z;generalize (m.cl.getD u default).m.length=ul at k3 aZ;rw [ak] at k3;have ao:=Zh z;clear ak C a2 z;by_cases he0:0≤e
      ·have aX:e ≥ 0:=he0;go_wp2;go_ret;exact HF.out _ (by rw [y.out,ao.out];simp [he0]) HB2.out
      ·have aX:¬ e ≥ 0:=he0;have hsok:ZaK m k s=true:=by rw [y.out,ao.out];simp;omega
       exact k47
     ·have hsok:ZaK m k s=true:=by rw [y.out];simp;omega
      exact k47
   ·have aY:s=B.length:=by omega
    subst aY;have aa:(List.range B.length).all (ZaK m k)=true:=ZaE q1.out;have Z:=Zh aa;clear aa;by_cases hsn:f<0
    ·go_wp2;go_ret;refine ZcP (ZcT ?_) HB2.out;have h8:=H7.out;have h9:=HT.out;rw [HQ.out,Z.out,decide_eq_true hsn,decide_eq_true h9];grind
    ·obtain ⟨u,rfl⟩:∃ u:Nat,f=u:=⟨f.toNat,by omega⟩;have hu:u<m.cl.length:=by omega
     have a0:(u:Int) < m.cl.length:=by omega
     obtain ⟨aO,C,-,-,k2,-⟩:=(Hj.out.old HB2.out).cls hu;have Y:=Hj.out.f u hu;have a1:(m.cl.getD u default).f.length=(m.cl.getD u default).f.length:=rfl;generalize hgf:(m.cl.getD u default).f=uf at k2 Y;have aJ:=Zh hgf;obtain rfl:=Option.some.inj C;dsimp only at k2 Y;have aI:=Zh Y;clear a1 hgf Y C;have T:ZaL m k=(decide (uf.length≤A.length)&&decide (uf=A.take uf.length)):=by have h8:=H7.out;have h9:=HT.out;rw [HQ.out,Z.out,decide_eq_true h9,decide_eq_true ax,decide_eq_true ay,Int.toNat_natCast,aJ.out];grind
     have y:=Zh T;clear T;by_cases hle:uf.length≤A.length
     ·have av:(uf.length:Int)≤A.length:=by omega
      have bh:uf.length≤fc:=by omega
      have bi:(uf.length:Int)≤fc:=by omega
      have aw:(A.take uf.length).length=uf.length:=by simp;omega
      have aj:=Zg1 uf (A.take uf.length) (hc u).fo fo (hc u).fc fc wr (aI.out.old HB2.out) ((V.out.old HB2.out).take _ hle _ (fun h0=>((V.out.2.1 h0).2))) (by have h8:=H7.out;simp only [Bool.and_eq_true,decide_eq_true_eq] at h8;omega);rw [aw] at aj;have aH:=Zh aj;clear aj aw
      go_wp2_with fail
      refine aH.out.mono ?_;rintro e1 w2 ⟨rfl,E⟩;go_wp2;go_ret;exact ZcP (ZcT (by rw [y.out,decide_eq_true hle];rfl)) (Zag HB2.out E)
     ·have av:¬ (uf.length:Int)≤A.length:=by omega
      go_wp2;go_ret;exact ZcP (ZcT (by rw [y.out,decide_eq_false hle];rfl)) HB2.out
 ·by_cases ax:f < -1
  ·go_enter Tryz.func249,Tryz.ntmps249;go_wp2;go_ret;exact ZcP (ZcT (by rw [HQ.out,decide_eq_false (show ¬ -1≤f by omega)];rfl)) J.out
  ·have ay:(k:Int)≤f:=by omega
   go_enter Tryz.func249,Tryz.ntmps249;go_wp2;go_ret;exact ZcP (ZcT (by rw [HQ.out,decide_eq_false (show ¬ f<k by omega)];simp)) J.out
end
section
open Go.RowKit
theorem Zg3 (t:Int) (B:Nat) (k:Int) (w:World) (a:w.cell? ⟨B,0,none⟩=some (.int .i64 k)):Calls Tryz.prog 321 #[.int .i64 t,ZQ.p B] w (Ret w (.bool (decide (k≤t)))):=by have b:=Zad a;go_enter Tryz.func321,Tryz.ntmps321;go_wp2;go_ret;exact ZcP (ZcT (by grind)) bE
theorem Zg4 (m:Md) (h:Hd) (k:Nat) (i:In3) (w:World) (H:Zaz w h m) (hk:k<m.me.length) (S:m.cl.length≤10) (L:∀ j,j<m.cl.length→((m.cl.getD j default).m.length:Int)=m.sel) (l:(i.op=25∨i.op=26→0≤i.a)) :
  Calls Tryz.prog 303 #[.agg (HM.mk h m),.int .i64 k,ZI.i i] w (Ret w (.bool (ZaX m k i))):=by
 obtain ⟨r,a,b⟩:=i;dsimp only at l ⊢;have F:=Zh H;have O:=Zh L;clear H L;by_cases h26:r=26
 ·subst h26;have l:=l (.inr rfl);have n:ZaX m k ⟨26,a,b⟩=(decide (a<m.sel)&&(ZaO m a).all fun t=>decide (t<k)):=rfl;rw [n];by_cases hs:a<m.sel
  ·have K:Blk (((w.alloc (.cells (HM.mk h m) 226)).alloc (.cells #[.int .i64 k] 3)).alloc (.cells #[.int .i64 26,.int .i64 a,.int .i64 b] 72)) (w.heap.size+1) #[.int .i64 k] 3:=(Blk.new' (w:=w.alloc (.cells (HM.mk h m) 226)) #[.int .i64 k] 3 (by simp)).alloc _;have E:=Zh K;clear K;have o:=fun q (u:Below w.heap.size w q)=>ZdU m h a q (F.out.old u) ⟨l,hs⟩ S O.out;have G:=Zh o;clear o n;go_enter Tryz.func303,Tryz.ntmps303
   go_wp2_with fail
   refine (G.out _ bE).mono ?_;rintro e1 q ⟨⟨Q,s,rfl,M⟩,g⟩;have x:=Zag (show Below w.heap.size w _ by exact bE) g;have d:=Zdt (ZaO m a) Q s 321 #[.pointer (some ⟨w.heap.size+1,0,none⟩)] (fun t=>!decide (t<(k:Int))) q (by have:=ZdI m a;omega) M (fun A W=>by kernel_rfl) (fun j hj X u=>by
    have J:=Zg3 ((ZaO m a).getD j 0) (w.heap.size+1) k X (((E.out.old g).old u).cell 0 rfl);rw [show decide ((k:Int)≤(ZaO m a).getD j 0)=!decide ((ZaO m a).getD j 0<(k:Int)) by grind] at J;exact J)
   rw [ZgP] at d;have N:=Zh d;clear d M G E
   go_wp2_with fail
   refine N.out.mono ?_;rintro e2 w2 ⟨rfl,v⟩;go_wp2;go_ret;exact ZcP (ZcT (by rw [decide_eq_true hs];simp)) (Zag x v)
  ·go_enter Tryz.func303,Tryz.ntmps303;exact k99
 ·by_cases h25:r=25
  ·subst h25;have l:=l (.inl rfl);have n:ZaX m k ⟨25,a,b⟩=(decide (a<k)&&decide (m.own a<0)):=rfl;rw [n];clear n;by_cases hs:a<k
   ·obtain ⟨c,rfl⟩:∃ c:Nat,a=c:=⟨a.toNat,by omega⟩;obtain ⟨I,y,-,z,-,-,-,-,-⟩:=F.out.mth (i:=c) (by omega);have f:m.own c=(m.me.getD c default).c:=rfl;generalize (m.me.getD c default).c=own at z f;have T:∀ B C D,(((w.alloc B).alloc C).alloc D).cell? ⟨(I.add (c*7)).block,(I.add (c*7)).off+1,none⟩=some (.int .i64 own):=fun B C D=>by rw [(show Below w.heap.size w (((w.alloc B).alloc C).alloc D) by exact bE).cell (Zad z)];exact z
    have P:=Zh f;clear f;obtain ⟨Z,Y,so,sc,eo,ec,hc,he⟩:=h;dsimp only at *;subst y;have R:(c:Int) < m.me.length:=by omega
    go_enter Tryz.func303,Tryz.ntmps303;go_wp2;go_ret;exact ZcP (ZcT (by rw [P.out])) bE
   ·go_enter Tryz.func303,Tryz.ntmps303;exact ZgO
  ·have V:(r == 26)=false:=by simp [h26]
   have U:(r == 25)=false:=by simp [h25]
   go_enter Tryz.func303,Tryz.ntmps303
   go_wp2_with (go_at_call 319;refine (ZgR _ _ _ _).mono ?_;rintro e q ⟨rfl,g⟩)
   all_goals
    go_ret;exact ZcP (ZcT (by grind [ZaX])) bE
end
section
open Go.RowKit
theorem Zg5 (m:Md) (h:Hd) (k:Nat) (i:In3) (B K:Nat) (w:World) (b:ZgT w B h m) (g:w.cell? ⟨K,0,none⟩=some (.int .i64 k)) (H:Zaz w h m) (n:k<m.me.length) (o:m.cl.length≤10) (d:∀ j,j<m.cl.length→((m.cl.getD j default).m.length:Int)=m.sel) (c:(i.op=25∨i.op=26→0≤i.a)) :
  Calls Tryz.prog 302 #[ZI.i i,ZQ.p B,ZQ.p K] w (Ret w (.bool (!ZaX m k i))):=by
 obtain ⟨r,s,t,u⟩:=ZgU b;have v:=b.lt;have q:=Zad g;have a:=Zg4 m h k i _ (H.old ((Below.refl w.heap.size w).alloc (Nat.le_refl _) (.cells #[.int .i64 i.op,.int .i64 i.a,.int .i64 i.b] 72))) n o d c;have f:=Zh a;clear a b H d c;go_enter Tryz.func302,Tryz.ntmps302
 go_wp2_with fail
 refine f.out.mono ?_;rintro e x ⟨rfl,l⟩;go_wp2;go_ret;exact ZcP rfl bE
theorem Zg6 {i:In3} (h:ZaR false i=true):i.op=25∨i.op=26→0≤i.a:=by
 intro d;obtain ⟨e,a,b⟩:=i;simp only [ZaR,Bool.and_eq_true] at h;have c:=h.1.1.2;dsimp only at d c ⊢;rcases d with rfl|rfl
 ·simp [opA,inR,inI] at c;exact c.1
 ·simp [opA,inR,inI] at c;exact c.1
theorem Zg7 {p:Bool}{l:List In3} (h:ZaW p l=0):l.length≤120∧(∀ i,i<l.length→ZaR p (l.getD i default)=true)∧ZaV l=true:=by
 unfold ZaW at h;split at h
 ·cases h
 ·split at h
  ·rename_i d a;split at h
   ·rename_i c;refine ⟨by omega,fun i b=>?_,c⟩;rw [List.all_eq_true] at a;exact a _ (by rw [List.getD_eq_getElem?_getD,List.getElem?_eq_getElem b];exact List.getElem_mem b)
   ·cases h
  ·cases h
theorem Zg8 (m:Md) (h:Hd) (k:Nat) (w:World) (H:Zaz w h m) (U:k<m.me.length) (hn:m.cl.length≤10) (hl:∀ j,j<m.cl.length→((m.cl.getD j default).m.length:Int)=m.sel) :
  Calls Tryz.prog 250 #[.agg (HM.mk h m),.int .i64 k] w (Ret w (.bool (ZaY m k))):=by
 have al:ZgT _ w.heap.size h m:=Blk.new w (HM.mk h m) 226;have ak:Blk _ (w.heap.size+1) #[.int .i64 k] 3:=Blk.new' (w:=w.alloc (.cells (HM.mk h m) 226)) #[.int .i64 k] 3 (by simp);have aI:Below w.heap.size w ((w.alloc (.cells (HM.mk h m) 226)).alloc (.cells #[.int .i64 k] 3)):=by exact bE
 obtain ⟨O,aK,c0,c1,c2,c3,c4,c5,c6⟩:=(H.old aI).mth U;have L:=H.bm k U;have q:=H.p k U;have o:=H.l k U;have n:=H.k k U;generalize hx:m.me.getD k default=x at c0 c1 c2 c3 c4 c5 c6 L q o n;obtain ⟨nm,c,pl,r,⟨B,z⟩,d⟩:=x;generalize hey:h.e k=y at c0 c1 c2 c3 c4 c5 c6 L q o n;obtain ⟨X,V,N,M,v,u⟩:=y;dsimp only at c0 c1 c2 c3 c4 c5 c6 L q o n;have hq:ZaY m k=(decide (-1≤c)&&decide (c<m.cl.length)&&decide (pl.length≤4)&&ZaH m.cl.length pl&&decide ((r.length:Int)≤10-pl.length-(if 0≤c then 1 else 0))&&ZaH m.cl.length r&&ZaG m.cl.length ⟨B,z⟩ 0&&decide (ZaW false d=0)&&d.all (ZaX m k)):=by simp only [ZaY,hx]
 have am:Blk _ (w.heap.size+1+1) #[.string nm,.int .i64 c,.slice X pl.length V,.slice N r.length M,.int .i64 B,.int .i64 z,.slice v d.length u] 70:=Blk.new' (w:=(w.alloc (.cells (HM.mk h m) 226)).alloc (.cells #[.int .i64 k] 3)) #[.string nm,.int .i64 c,.slice X pl.length V,.slice N r.length M,.int .i64 B,.int .i64 z,.slice v d.length u] 70 (by simp);have hX:=(al.old (show Below _ _ (((w.alloc (.cells (HM.mk h m) 226)).alloc (.cells #[.int .i64 k] 3)).alloc (.cells #[.string nm,.int .i64 c,.slice X pl.length V,.slice N r.length M,.int .i64 B,.int .i64 z,.slice v d.length u] 70)) by exact bE));have hK:=ak.alloc (.cells #[.string nm,.int .i64 c,.slice X pl.length V,.slice N r.length M,.int .i64 B,.int .i64 z,.slice v d.length u] 70);have a:Below w.heap.size w (((w.alloc (.cells (HM.mk h m) 226)).alloc (.cells #[.int .i64 k] 3)).alloc (.cells #[.string nm,.int .i64 c,.slice X pl.length V,.slice N r.length M,.int .i64 B,.int .i64 z,.slice v d.length u] 70)):=by exact bE
 have G:=Zh hq;have ai:=ZgW m h pl X V 4 _ (q.old a) (by omega);have aD:=Zh ai;have HX:=Zh hX;have HY:=Zh am;have HK:=Zh hK;have Hj:=Zh H;have HL:=Zh hl;have aE:=Zh o;have ab:=Zh n;have E:=Zh a;clear ai hX am hK H hl o n q a hq hx hey al ak;obtain ⟨Q,P,Z,Y,eo,R,S,T⟩:=h;dsimp only at *;subst aK;have a1:(k:Int) < m.me.length:=by omega
 by_cases h1:-1≤c∧c<m.cl.length
 ·obtain ⟨h1,h2⟩:=h1;have h3:c ≥ -1:=h1;by_cases hc0:0≤c
  all_goals
   go_enter Tryz.func250,Tryz.ntmps250
   go_wp2_with fail
   refine aD.out.mono ?_;rintro e1 w1 ⟨rfl,e⟩;clear c0 c1 c2 c3 c4 c5 c6;have aj:=Zag E.out e;obtain ⟨r0,r1,r2,r3⟩:=ZgU (show ZgT w1 w.heap.size ⟨Q,P,Z,Y,some O,R,S,T⟩ m from HX.out.old e);dsimp only at r0 r1 r2 r3;have rl:=(HX.out.old e).lt;have x3:w1.cell? ⟨w.heap.size+1+1,3,none⟩=some (.slice N r.length M):=(HY.out.old e).cell 3 rfl;have D:=Zh aj;have g:=Zh e;clear e aj;rcases hq1:decide ((pl.length:Int)≤4)&&ZaH m.cl.length pl with _|_
   ·have I:=Zh hq1;clear hq1;go_wp2;go_ret;exact ZcP (ZcT (by have:=I.out;rw [G.out];grind)) D.out
   have I:=Zh hq1;have a3:pl.length≤4:=by simp at hq1;omega
   clear hq1
   go_wp2_with fail
   refine (ZgW m ⟨Q,P,Z,Y,some O,R,S,T⟩ r N M _ _ (aE.out.old D.out) (by omega)).mono ?_;rintro e2 w2 ⟨rfl,b⟩;obtain ⟨r0,r1,r2,r3⟩:=ZgU (show ZgT w2 w.heap.size ⟨Q,P,Z,Y,some O,R,S,T⟩ m from (HX.out.old g.out).old b);dsimp only at r0 r1 r2 r3;have rl:=((HX.out.old g.out).old b).lt;have x4:w2.cell? ⟨w.heap.size+1+1,4,none⟩=some (.int .i64 B):=((HY.out.old g.out).old b).cell 4 rfl;have x5:w2.cell? ⟨w.heap.size+1+1,5,none⟩=some (.int .i64 z):=((HY.out.old g.out).old b).cell 5 rfl;have aa:=Zh (Zag D.out b);have af:=Zh (Zag g.out b);clear b x3;generalize hq2:(decide ((r.length:Int)≤_)&&ZaH m.cl.length r)=q2;rcases q2 with _|_
   ·have J:=Zh hq2;clear hq2;go_wp2;go_ret;exact ZcP (ZcT (by have:=J.out;rw [G.out];grind)) aa.out
   have J:=Zh hq2;clear hq2
   go_wp2_with fail
   refine (ZgS m ⟨Q,P,Z,Y,some O,R,S,T⟩ ⟨B,z⟩ 0 _).mono ?_;rintro e3 w3 ⟨rfl,a⟩;have x6:w3.cell? ⟨w.heap.size+1+1,6,none⟩=some (.slice v d.length u):=((HY.out.old af.out).old a).cell 6 rfl;have f:=Zh (Zag aa.out a);have ag:=Zh (Zag af.out a);clear a x4 x5 r0 r1 r2 r3 rl;generalize hq3:ZaG m.cl.length ⟨B,z⟩ 0=q3;rcases q3 with _|_
   ·have K:=Zh hq3;clear hq3;go_wp2;go_ret;exact ZcP (ZcT (by rw [G.out,K.out];simp)) f.out
   have K:=Zh hq3;clear hq3
   go_wp2_with fail
   refine (ZgQ d v u false _ (ab.out.old f.out)).mono ?_;rintro e4 w4 ⟨rfl,t⟩;have x6:w4.cell? ⟨w.heap.size+1+1,6,none⟩=some (.slice v d.length u):=((HY.out.old ag.out).old t).cell 6 rfl;have s:=Zh (Zag f.out t);have ah:=Zh (Zag ag.out t);clear t;by_cases hc4:ZaW false d=0
   ·obtain ⟨aL,C,-⟩:=Zg7 hc4;have l:=Zdp d v u 302 #[.pointer (some ⟨w.heap.size,0,none⟩),.pointer (some ⟨w.heap.size+1,0,none⟩)] (fun i=>!ZaX m k i) w4 (by omega) (ab.out.old s.out) (fun A W=>by kernel_rfl)
     (fun j hj w' hb=>Zg5 m ⟨Q,P,Z,Y,some O,R,S,T⟩ k (d.getD j default) w.heap.size (w.heap.size+1) w' (ZgT.old (h:=⟨Q,P,Z,Y,some O,R,S,T⟩) (HX.out.old ah.out) hb) (((HK.out.old ah.out).old hb).cell 0 rfl) (Hj.out.old (Zag s.out hb)) U hn HL.out (Zg6 (C j hj)))
    rw [ZgP] at l;have HC:=Zh l;have an:(ZaW false d == 0)=true:=by simp [hc4]
    have F:=Zh hc4;clear l C hc4
    go_wp2_with fail
    refine HC.out.mono ?_;rintro e5 w5 ⟨rfl,aJ⟩;go_wp2;go_ret;refine ZcP (ZcT ?_) (Zag s.out aJ);have h1:=I.out;have h2:=J.out;have h3:=K.out;have h4:=F.out;rw [G.out];grind
   ·have an:(ZaW false d == 0)=false:=by simp [hc4]
    have F:=Zh hc4;clear hc4;go_wp2;go_ret;exact ZcP (ZcT (by rw [G.out,decide_eq_false F.out];simp)) s.out
 ·by_cases h2:-1≤c
  ·have h3:¬ c<m.cl.length:=by omega
   have h4:c ≥ -1:=h2;have h5:c ≥ 0:=by omega
   go_enter Tryz.func250,Tryz.ntmps250
   go_wp2_with fail
   go_ret;exact ZcP (ZcT (by rw [G.out,decide_eq_false (show ¬ c<m.cl.length by omega)];simp)) E.out
  ·have h3:¬ c ≥ -1:=by omega
   have h5:¬ c ≥ 0:=by omega
   go_enter Tryz.func250,Tryz.ntmps250
   go_wp2_with fail
   go_ret;exact ZcP (ZcT (by rw [G.out,decide_eq_false (show ¬ -1≤c by omega)];rfl)) E.out
end
section
open Go.RowKit
attribute [local go_sem] World.cell?_alloc_some
theorem Zg9 {w w':World}{a:Addr}{v:Value} (b:Below w.heap.size w w') (h:w.cell? a=some v):w'.cell? a=some v:=by rw [b.cell (Zad h)];exact h
theorem Zha (m:Md) (h:Hd) (B L:Nat) (l:List Int) (ao:Option Addr) (cap t u:Nat) (w:World) (hB:ZgT w B h m) (Z:w.cell? ⟨L,0,none⟩=some (.slice ao l.length cap)) (hr:Zas w ao cap l) (H:Zaz w h m) (ht:t<m.me.length) (hu:u<m.me.length) (hl:0<l.length) (h0:l.getD 0 0=u) (aC:(m.me.getD t default).p.length≤1000000) :
  Calls Tryz.prog 304 #[.int .i64 t,ZQ.p B,ZQ.p L] w (Ret w (.bool (!(decide ((m.me.getD t default).r=(m.me.getD u default).r)&&decide ((m.me.getD t default).p=(m.me.getD u default).p))))):=by
 obtain ⟨r0,r1,r2,r3⟩:=ZgU hB;have rl:=hB.lt;have ll:=Zad Z;obtain ⟨F,rfl,W⟩:=ZaC hr (i:=0) hl;rw [h0,show F.add 0=F from by unfold Addr.add;simp] at W;obtain ⟨b,aB,c0,c1,c2,c3,c4,c5,c6⟩:=H.mth ht;obtain ⟨aT,r,d0,d1,d2,d3,d4,d5,d6⟩:=H.mth hu;have N:=H.p t ht;have O:=H.p u hu;generalize hxt:m.me.getD t default=x at *;generalize hxu:m.me.getD u default=y at *;obtain ⟨nx,cx,U,lx,⟨kx,rx⟩,A⟩:=x;obtain ⟨ny,cy,V,ly,⟨ky,ry⟩,C⟩:=y;generalize h.e t=et at *;generalize h.e u=eu at *;obtain ⟨T,R,lo,lc,ko,kc⟩:=et;obtain ⟨q,n,E,D,z,s⟩:=eu;have af:=Zh N;have ag:=Zh O;clear N O hxt hxu H hB hr;obtain ⟨co,cc,so,sc,eo,ec,hc,he⟩:=h;dsimp only at *;subst aB;obtain rfl:=Option.some.inj r;clear r h0;have aY:(t:Int) < m.me.length:=by omega
 have aZ:(u:Int) < m.me.length:=by omega
 clear r0 r1 r3;go_enter Tryz.func304,Tryz.ntmps304
 go_upto_region 1 with fail
 go_cut [5,6] from 7 to 20 (fun x y wc=>∃ (X Y:Nat),x=.pointer (some ⟨X,0,none⟩)∧y=.pointer (some ⟨Y,0,none⟩)∧Blk wc X #[.string nx,.int .i64 cx,.slice T U.length R,.slice lo lx.length lc,.int .i64 kx,.int .i64 rx,.slice ko A.length kc] 70∧Blk wc Y #[.string ny,.int .i64 cy,.slice q V.length n,.slice E ly.length D,.int .i64 ky,.int .i64 ry,.slice z C.length s] 70∧Below w.heap.size w wc)
 case first=>
  have hS:∀ f,Below w.heap.size w f→(fun f:World=>f.cell? ⟨B,2,none⟩=some (.slice (some b) m.me.length ec)∧f.cell? ⟨L,0,none⟩=some (.slice (some F) l.length cap)∧f.cell? F=some (.int .i64 u)∧f.cell? (b.add (t*7))=some (.string nx)∧f.cell? ⟨(b.add (t*7)).block,(b.add (t*7)).off+1,none⟩=some (.int .i64 cx)∧f.cell? ⟨(b.add (t*7)).block,(b.add (t*7)).off+2,none⟩=some (.slice T U.length R)∧f.cell? ⟨(b.add (t*7)).block,(b.add (t*7)).off+3,none⟩=some (.slice lo lx.length lc)∧f.cell? ⟨(b.add (t*7)).block,(b.add (t*7)).off+4,none⟩=some (.int .i64 kx)∧f.cell? ⟨(b.add (t*7)).block,(b.add (t*7)).off+5,none⟩=some (.int .i64 rx)∧f.cell? ⟨(b.add (t*7)).block,(b.add (t*7)).off+6,none⟩=some (.slice ko A.length kc)∧f.cell? (b.add (u*7))=some (.string ny)∧f.cell? ⟨(b.add (u*7)).block,(b.add (u*7)).off+1,none⟩=some (.int .i64 cy)∧f.cell? ⟨(b.add (u*7)).block,(b.add (u*7)).off+2,none⟩=some (.slice q V.length n)∧f.cell? ⟨(b.add (u*7)).block,(b.add (u*7)).off+3,none⟩=some (.slice E ly.length D)∧f.cell? ⟨(b.add (u*7)).block,(b.add (u*7)).off+4,none⟩=some (.int .i64 ky)∧f.cell? ⟨(b.add (u*7)).block,(b.add (u*7)).off+5,none⟩=some (.int .i64 ry)∧f.cell? ⟨(b.add (u*7)).block,(b.add (u*7)).off+6,none⟩=some (.slice z C.length s)) f:=fun f g=>⟨Zg9 g r2,Zg9 g Z,Zg9 g W,Zg9 g c0,Zg9 g c1,Zg9 g c2,Zg9 g c3,Zg9 g c4,Zg9 g c5,Zg9 g c6,Zg9 g d0,Zg9 g d1,Zg9 g d2,Zg9 g d3,Zg9 g d4,Zg9 g d5,Zg9 g d6⟩;have I:=Zh hS;clear hS
  refine rO (fun f:World=>f.cell? ⟨B,2,none⟩=some (.slice (some b) m.me.length ec)∧f.cell? ⟨L,0,none⟩=some (.slice (some F) l.length cap)∧f.cell? F=some (.int .i64 u)∧f.cell? (b.add (t*7))=some (.string nx)∧f.cell? ⟨(b.add (t*7)).block,(b.add (t*7)).off+1,none⟩=some (.int .i64 cx)∧f.cell? ⟨(b.add (t*7)).block,(b.add (t*7)).off+2,none⟩=some (.slice T U.length R)∧f.cell? ⟨(b.add (t*7)).block,(b.add (t*7)).off+3,none⟩=some (.slice lo lx.length lc)∧f.cell? ⟨(b.add (t*7)).block,(b.add (t*7)).off+4,none⟩=some (.int .i64 kx)∧f.cell? ⟨(b.add (t*7)).block,(b.add (t*7)).off+5,none⟩=some (.int .i64 rx)∧f.cell? ⟨(b.add (t*7)).block,(b.add (t*7)).off+6,none⟩=some (.slice ko A.length kc)∧f.cell? (b.add (u*7))=some (.string ny)∧f.cell? ⟨(b.add (u*7)).block,(b.add (u*7)).off+1,none⟩=some (.int .i64 cy)∧f.cell? ⟨(b.add (u*7)).block,(b.add (u*7)).off+2,none⟩=some (.slice q V.length n)∧f.cell? ⟨(b.add (u*7)).block,(b.add (u*7)).off+3,none⟩=some (.slice E ly.length D)∧f.cell? ⟨(b.add (u*7)).block,(b.add (u*7)).off+4,none⟩=some (.int .i64 ky)∧f.cell? ⟨(b.add (u*7)).block,(b.add (u*7)).off+5,none⟩=some (.int .i64 ry)∧f.cell? ⟨(b.add (u*7)).block,(b.add (u*7)).off+6,none⟩=some (.slice z C.length s)) (.plain 0 (.plain 1 (.plain 2 (.plain 3 (.plain 4 (.plain 5 (.plain 6 (.plain 7 (.plain 8 (.plain 9 (.plain 10 (.plain 11 (.plain 12 (.plain 13 (.two 14 15 (oL [115,116,117]) (oL [114,116,117])))))))))))))))) (I.out w.drew (Below.refl _ _).drew) ?_;clear r2 Z W c0 c1 c2 c3 c4 c5 c6 d0 d1 d2 d3 d4 d5 d6
  repeat refine pO ?_
  refine Zd6 ?_ ?_
  all_goals
   refine Zd4 _ (by rfl) (by rfl) fun K j=>?_;go_simp;refine j _ _ ⟨I.out _ bE,?_⟩;clear j K;refine oO fun K j=>?_;go_simp;refine j _ _ ⟨I.out _ bE,?_⟩;clear j K;refine oO fun K j=>?_;go_simp;refine j _ _ ⟨I.out _ bE,?_⟩;clear j K;refine oO fun K j=>?_;go_simp;refine j _ _ ⟨I.out _ bE,?_⟩;clear j K;refine Zd7 ?_
   go_wp2_with fail
   go_meet
   refine ⟨_,_,rfl,rfl,?_,?_,?_⟩
   ·repeat (first|(refine Blk.new' _ _ ?_;simp;done)|refine Blk.drew ?_|refine Blk.alloc ?_ _)
   ·repeat (first|(refine Blk.new' _ _ ?_;simp;done)|refine Blk.drew ?_|refine Blk.alloc ?_ _)
   ·exact bE
 case rest=>
  obtain ⟨X,Y,rfl,rfl,J,M,g⟩:=hcut;have x2:wc.cell? ⟨X,2,none⟩=some (.slice T U.length R):=J.cell 2 rfl;have x4:wc.cell? ⟨X,4,none⟩=some (.int .i64 kx):=J.cell 4 rfl;have x5:wc.cell? ⟨X,5,none⟩=some (.int .i64 rx):=J.cell 5 rfl;have y2:wc.cell? ⟨Y,2,none⟩=some (.slice q V.length n):=M.cell 2 rfl;have y4:wc.cell? ⟨Y,4,none⟩=some (.int .i64 ky):=M.cell 4 rfl;have y5:wc.cell? ⟨Y,5,none⟩=some (.int .i64 ry):=M.cell 5 rfl;have xl:=J.lt;have yl:=M.lt;have aX:=ZdY;have aV:=ZdZ;have HE:=Zh (Zg1 U V T q R n wc (af.out.old g) (ag.out.old g) aC);have G:=Zh g;clear J M g c0 c1 c2 c3 c4 c5 c6 d0 d1 d2 d3 d4 d5 d6 Z W r2
  go_wp2_with (go_at_call 253;refine HE.out.mono ?_;rintro e w1 ⟨rfl,aU⟩)
  all_goals
   go_ret;refine ZcP (ZcT ?_) (by first|exact G.out|exact Zag G.out (by assumption));simp only [Ty.mk.injEq];grind
end
section
open Go.RowKit
theorem Zhb (m:Md) (h:Hd) (s:Nat) (w:World) (H:Zaz w h m) (S:(s:Int) < m.sel) (R:m.cl.length≤10) (L:∀ j,j<m.cl.length→((m.cl.getD j default).m.length:Int)=m.sel) (C:∀ t∈ZaO m s,0≤t∧t<m.me.length) (M:∀ k,k<m.me.length→(m.me.getD k default).p.length≤4) :
  Calls Tryz.prog 251 #[.agg (HM.mk h m),.int .i64 s] w (Ret w (.bool (ZaZ m s))):=by
 have J:ZgT _ w.heap.size h m:=Blk.new w (HM.mk h m) 226;have d:Below w.heap.size w (w.alloc (.cells (HM.mk h m) 226)):=by exact bE
 have i:=ZdU m h s _ (H.old d) ⟨by omega,S⟩ R L;have n:=ZdI m s;have z:ZaZ m s=(ZaO m s).all fun t=>decide ((m.me.getD t.toNat default).r=(m.me.getD ((ZaO m s).getD 0 0).toNat default).r)&&decide ((m.me.getD t.toNat default).p=(m.me.getD ((ZaO m s).getD 0 0).toNat default).p):=rfl;generalize ZaO m s=l at i n z C;rw [z];have F:=Zh i;have G:=Zh J;have E:=Zh (H.old d);have q:=Zh d;have D:=Zh C;have O:=Zh M;clear i J H d C M z L;go_enter Tryz.func251,Tryz.ntmps251
 go_wp2_with fail
 refine F.out.mono ?_;rintro V c ⟨⟨f,a,rfl,B⟩,v⟩;have e:Below _ _ (c.alloc (.cells #[.slice f l.length a] 27)):=bal v _;have I:Blk (c.alloc (.cells #[.slice f l.length a] 27)) c.heap.size #[.slice f l.length a] 27:=Blk.new c _ _;have g:=B.old (show Below c.heap.size c (c.alloc (.cells #[.slice f l.length a] 27)) by exact bE);have b:=Zdt l f a 304 #[.pointer (some ⟨w.heap.size,0,none⟩),.pointer (some ⟨c.heap.size,0,none⟩)] (fun t=>!(decide ((m.me.getD t.toNat default).r=(m.me.getD (l.getD 0 0).toNat default).r)&&decide ((m.me.getD t.toNat default).p=(m.me.getD (l.getD 0 0).toNat default).p))) (c.alloc (.cells #[.slice f l.length a] 27)) (by omega) g (fun A W=>by kernel_rfl) (fun j K T o=>by
  have P:=D.out (l.getD j 0) (by rw [List.getD_eq_getElem?_getD,List.getElem?_eq_getElem K];exact List.getElem_mem K);have Q:=D.out (l.getD 0 0) (by rw [List.getD_eq_getElem?_getD,List.getElem?_eq_getElem (by omega)];exact List.getElem_mem _);generalize hu:l.getD 0 0=u at Q;generalize l.getD j 0=t at P;obtain ⟨t,rfl⟩:∃ x:Nat,t=x:=⟨t.toNat,by omega⟩;obtain ⟨u,rfl⟩:∃ x:Nat,u=x:=⟨u.toNat,by omega⟩;exact Zha m h w.heap.size c.heap.size l f a t u T ((G.out.old e).old o) ((I.old o).cell 0 rfl) (g.old o) ((E.out.old e).old o) (by omega) (by omega) (by omega) hu (by have:=O.out t (by omega);omega))
 rw [ZgP] at b;have N:=Zh b;have U:=Zh B;have r:=Zh e;clear b B e g I G E F
 go_wp2_with fail
 refine N.out.mono ?_;rintro X Y ⟨rfl,y⟩;go_wp2;go_ret;exact ZcP (ZcT (by simp)) (Zag (Zag q.out r.out) y)
end
section
open Go.RowKit
theorem Zhc {m:Md}{k:Nat} (h:ZaL m k=true):((m.cl.getD k default).m.length:Int)=m.sel:=by simp only [ZaL,Bool.and_eq_true,decide_eq_true_eq] at h;exact h.1.1.2
theorem Zhd {m:Md}{k s:Nat} (h:ZaL m k=true) (b:s<(m.cl.getD k default).m.length):-1≤m.ent k s∧m.ent k s<m.me.length:=by simp only [ZaL,Bool.and_eq_true,decide_eq_true_eq] at h;have a:=ZaF.1 h.1.2 s b;simp only [ZaK,Bool.and_eq_true,decide_eq_true_eq] at a;exact ⟨a.1.1.1,a.1.1.2⟩
theorem Zhe {m:Md}{k:Nat} (h:ZaY m k=true):(m.me.getD k default).p.length≤4:=by simp only [ZaY,Bool.and_eq_true,decide_eq_true_eq] at h;exact h.1.1.1.1.1.1.2
theorem Zhf {m:Md} (h:∀ k,k<m.cl.length→ZaL m k=true) {s:Nat} (n:(s:Int) < m.sel):∀ t∈ZaO m s,0≤t∧t<m.me.length:=by
 intro t e;unfold ZaO at e;rw [Zdy,Int.toNat_natCast,List.mem_filter,List.mem_map] at e;obtain ⟨⟨c,j,rfl⟩,g⟩:=e;obtain ⟨k,d,b⟩:=List.getElem_of_mem j;have a:m.cl.getD k default=c:=by rw [List.getD_eq_getElem?_getD,List.getElem?_eq_getElem d];exact b
 have l:=Zhc (h k d);have f:=Zhd (h k d) (s:=s) (by omega);have i:m.ent k s=c.m.getD s 0:=by unfold Md.ent;rw [Int.toNat_natCast,a]
 rw [i] at f;exact ⟨by simpa using g,f.2⟩
theorem Zhg (m:Md) (h:Hd) (w:World) (H:Zaz w h m):Calls Tryz.prog 184 #[.agg (HM.mk h m)] w (Ret w (.bool (Za2 m))):=by
 have I:Below w.heap.size w ((w.alloc (.cells (HM.mk h m) 226)).alloc (.cells (HM.mk h m) 26)):=by exact bE
 have W:ZgT (w.alloc (.cells (HM.mk h m) 226)) w.heap.size h m:=Blk.new w (HM.mk h m) 226;have hX:ZgT ((w.alloc (.cells (HM.mk h m) 226)).alloc (.cells (HM.mk h m) 26)) w.heap.size h m:=Blk.alloc W _;have hY:Blk ((w.alloc (.cells (HM.mk h m) 226)).alloc (.cells (HM.mk h m) 26)) (w.heap.size+1) (HM.mk h m) 26:=Blk.new' (w:=w.alloc (.cells (HM.mk h m) 226)) (HM.mk h m) 26 (by simp);have F:=ZgW m h m.st h.so h.sc 10 _ (H.st.old I) (by omega);have hq:Za2 m=(Za0 m&&Za1 m&&(List.range m.cl.length).all (ZaL m)&&(List.range m.me.length).all (ZaY m)&&(List.range m.sel.toNat).all (ZaZ m)):=rfl;have aa:Za0 m=(decide (m.cl.length≤10)&&decide (m.me.length≤16)&&decide (0≤m.sel)&&decide (m.sel≤16)&&decide (m.st.length≤10)&&ZaH m.cl.length m.st):=rfl;have HQ:=Zh hq;have t:=Zh aa;have HX:=Zh hX;have HY:=Zh hY;have Hj:=Zh H;have HA:=Zh F;have s:=Zh I;have ay:=H.bz;clear hq aa W hX hY H F I;by_cases h1:m.cl.length≤10
 ·by_cases h2:m.me.length≤16
  ·by_cases h3:0≤m.sel
   ·by_cases h4:m.sel≤16
    ·have i1:¬ (m.cl.length:Int) > 10:=by omega
     have i2:¬ (m.me.length:Int) > 16:=by omega
     have i3:¬ m.sel<0:=by omega
     have i4:¬ m.sel > 16:=by omega
     go_enter Tryz.func184,Tryz.ntmps184
     go_wp2_with fail
     refine HA.out.mono ?_;rintro e1 y ⟨rfl,C⟩;have X:ZgT y w.heap.size h m:=HX.out.old C;have Y:=HY.out.old C;have V:=Zag s.out C;have B:=Zh X;have u:=Zh Y;have v:=Zh V;clear X Y V C HA HX HY s;rcases hq5:decide ((m.st.length:Int)≤10)&&ZaH m.cl.length m.st with _|_
     ·have H5:=Zh hq5;clear hq5;go_wp2;go_ret;exact ZcP (ZcT (by have h8:=H5.out;rw [HQ.out,t.out];grind)) v.out
     have hok:Za0 m=true:=by rw [t.out];simp [h1,h2,h3,h4];simp at hq5;exact ⟨by omega,hq5.2⟩
     have ag:=Zh hok;clear hq5 hok;have D:y.cell? ⟨w.heap.size+1,2,none⟩=some (.slice h.eo m.me.length h.ec):=u.out.cell 2 rfl;have G:=u.out.lt
     go_wp2_with fail
     clear D G
     go_loopw [41] (fun i wr=>∃ k:Nat,k≤m.me.length∧i=.int .i64 k∧Below y.heap.size y wr∧Hid (∀ i,i<k→(decide (-1≤m.own i)&&decide (m.own i<m.cl.length))=true)) (fun i _=>m.me.length-(intOf i).toNat)
     case atStart=>exact ⟨0,by omega,rfl,Below.refl _ _,Zh (by omega)⟩
     case round=>
      obtain ⟨k,hk,rfl,b,q1⟩:=hrel;have f:ZgT wr w.heap.size h m:=B.out.old b;have a:=u.out.old b;obtain ⟨M,N,O,P⟩:=ZgU f;have Q:=f.lt;have R:wr.cell? ⟨w.heap.size+1,0,none⟩=some (.slice h.co m.cl.length h.cc):=a.cell 0 rfl;have D:wr.cell? ⟨w.heap.size+1,2,none⟩=some (.slice h.eo m.me.length h.ec):=a.cell 2 rfl;have S:wr.cell? ⟨w.heap.size+1,3,none⟩=some (.int .i64 m.sel):=a.cell 3 rfl;have G:=a.lt;have e:=Zh (Zag v.out b);have g:=Zh b;clear f a b;by_cases hkl:k<m.me.length
      ·have L:IntKind.i64.wrap ((k:Int)+1)=k+1:=IntWalk.i64_in _ (by omega);have o:(k:Int) < m.me.length:=by omega
       obtain ⟨ad,J,-,c1,-,-,-,-,-⟩:=(Hj.out.old e.out).mth hkl;have x:m.own k=(m.me.getD k default).c:=rfl;generalize (m.me.getD k default).c=own at c1 x;have E:=Zh x;have aw:=Zh J;clear x;rw [J] at D;clear J;by_cases hx:-1≤own∧own<m.cl.length
       ·obtain ⟨ab,ac⟩:=hx;have az:¬ own < -1:=by omega
        have aA:¬ own ≥ m.cl.length:=by omega
        have hok:(decide (-1≤m.own k)&&decide (m.own k<m.cl.length))=true:=by rw [E.out];simp [ab,ac]
        have hrel2:∀ i,i<k+1→(decide (-1≤m.own i)&&decide (m.own i<m.cl.length))=true:=fun i hi=>by exact k61
        have HR:=Zh hrel2;clear hrel2 hok;go_wp2;go_roundw
        case rel=>exact ⟨k+1,by omega,by go_num,g.out,Zh HR.out⟩
        case measure=>simp [intOf];omega
       ·have Z:Za1 m=false:=ZaD hkl (by rw [E.out];simp;omega);have U:=Zh Z;clear Z;by_cases ab:own < -1
        ·go_wp2;go_ret;exact ZcP (ZcT (by rw [HQ.out,U.out];simp)) e.out
        ·have ac:own ≥ m.cl.length:=by omega
         go_wp2;go_ret;exact ZcP (ZcT (by rw [HQ.out,U.out];simp)) e.out
      ·obtain rfl:k=m.me.length:=by omega
       have d:=q1.out;have z:=Zh d;clear d q1
       go_wp2_with fail
       go_loopw [63] (fun i wr=>∃ k:Nat,k≤m.cl.length∧i=.int .i64 k∧Below y.heap.size y wr∧Hid (∀ i,i<k→ZaL m i=true)) (fun i _=>m.cl.length-(intOf i).toNat)
       case atStart=>exact ⟨0,by omega,rfl,g.out,Zh (by omega)⟩
       case round=>
        obtain ⟨k,hk,rfl,b,q1⟩:=hrel;clear M N O P Q R D S G g e;have f:ZgT wr w.heap.size h m:=B.out.old b;have a:=u.out.old b;obtain ⟨M,N,O,P⟩:=ZgU f;have Q:=f.lt;have R:wr.cell? ⟨w.heap.size+1,0,none⟩=some (.slice h.co m.cl.length h.cc):=a.cell 0 rfl;have D:wr.cell? ⟨w.heap.size+1,2,none⟩=some (.slice h.eo m.me.length h.ec):=a.cell 2 rfl;have S:wr.cell? ⟨w.heap.size+1,3,none⟩=some (.int .i64 m.sel):=a.cell 3 rfl;have G:=a.lt;have e:=Zh (Zag v.out b);have g:=Zh b;clear f a b;by_cases hkl:k<m.cl.length
        ·have L:IntKind.i64.wrap ((k:Int)+1)=k+1:=IntWalk.i64_in _ (by omega);have o:(k:Int) < m.cl.length:=by omega
         have c:=Zg2 m h k _ (Hj.out.old e.out) hkl ⟨h1,h2,h3,h4⟩ (Zc4 q1.out) (fun j K=>Zhc (q1.out j K));generalize hqc:ZaL m k=q at c;have T:=Zh c;have HQc:=Zh hqc;clear c hqc
         go_wp2_with fail
         refine T.out.mono ?_;rintro e2 w2 ⟨rfl,n⟩;have HBW2:=Zh (Zag e.out n);have HBL2:=Zh (Zag g.out n);clear n;rcases q with _|_
         ·exact k68
         ·have hok:ZaL m k=true:=HQc.out;have hrel2:∀ i,i<k+1→ZaL m i=true:=fun i hi=>by exact k61
          exact k43
        ·obtain rfl:k=m.cl.length:=by omega
         have d:=q1.out;have l:=Zh d;clear d q1
         go_wp2_with fail
         go_loopw [74] (fun i wr=>∃ k:Nat,k≤m.me.length∧i=.int .i64 k∧Below y.heap.size y wr∧Hid (∀ i,i<k→ZaY m i=true)) (fun i _=>m.me.length-(intOf i).toNat)
         case atStart=>exact ⟨0,by omega,rfl,g.out,Zh (by omega)⟩
         case round=>
          obtain ⟨k,hk,rfl,b,q1⟩:=hrel;clear M N O P Q R D S G g e;have f:ZgT wr w.heap.size h m:=B.out.old b;have a:=u.out.old b;obtain ⟨M,N,O,P⟩:=ZgU f;have Q:=f.lt;have R:wr.cell? ⟨w.heap.size+1,0,none⟩=some (.slice h.co m.cl.length h.cc):=a.cell 0 rfl;have D:wr.cell? ⟨w.heap.size+1,2,none⟩=some (.slice h.eo m.me.length h.ec):=a.cell 2 rfl;have S:wr.cell? ⟨w.heap.size+1,3,none⟩=some (.int .i64 m.sel):=a.cell 3 rfl;have G:=a.lt;have e:=Zh (Zag v.out b);have g:=Zh b;clear f a b;by_cases hkl:k<m.me.length
          ·have L:IntKind.i64.wrap ((k:Int)+1)=k+1:=IntWalk.i64_in _ (by omega);have o:(k:Int) < m.me.length:=by omega
           have c:=Zg8 m h k _ (Hj.out.old e.out) hkl h1 (fun j K=>Zhc (l.out j K));generalize hqc:ZaY m k=q at c;have T:=Zh c;have HQc:=Zh hqc;clear c hqc
           go_wp2_with fail
           refine T.out.mono ?_;rintro e2 w2 ⟨rfl,n⟩;have HBW2:=Zh (Zag e.out n);have HBL2:=Zh (Zag g.out n);clear n;rcases q with _|_
           ·exact k68
           ·have hok:ZaY m k=true:=HQc.out;have hrel2:∀ i,i<k+1→ZaY m i=true:=fun i hi=>by exact k61
            exact k43
          ·obtain rfl:k=m.me.length:=by omega
           have d:=q1.out;have r:=Zh d;clear d q1
           go_wp2_with fail
           go_loopw [84] (fun i wr=>∃ k:Nat,k≤m.sel.toNat∧i=.int .i64 k∧Below y.heap.size y wr∧Hid (∀ i,i<k→ZaZ m i=true)) (fun i _=>m.sel.toNat-(intOf i).toNat)
           case atStart=>exact ⟨0,by omega,rfl,g.out,Zh (by omega)⟩
           case round=>
            obtain ⟨k,hk,rfl,b,q1⟩:=hrel;clear M N O P Q R D S G g e;have f:ZgT wr w.heap.size h m:=B.out.old b;have a:=u.out.old b;obtain ⟨M,N,O,P⟩:=ZgU f;have Q:=f.lt;have R:wr.cell? ⟨w.heap.size+1,0,none⟩=some (.slice h.co m.cl.length h.cc):=a.cell 0 rfl;have D:wr.cell? ⟨w.heap.size+1,2,none⟩=some (.slice h.eo m.me.length h.ec):=a.cell 2 rfl;have S:wr.cell? ⟨w.heap.size+1,3,none⟩=some (.int .i64 m.sel):=a.cell 3 rfl;have G:=a.lt;have e:=Zh (Zag v.out b);have g:=Zh b;clear f a b;by_cases hkl:k<m.sel.toNat
            ·have L:IntKind.i64.wrap ((k:Int)+1)=k+1:=IntWalk.i64_in _ (by omega);have o:(k:Int) < m.sel:=by omega
             have c:=Zhb m h k _ (Hj.out.old e.out) o h1 (fun j K=>Zhc (l.out j K)) (Zhf l.out o) (fun j K=>Zhe (r.out j K));generalize hqc:ZaZ m k=q at c;have T:=Zh c;have HQc:=Zh hqc;clear c hqc
             go_wp2_with fail
             refine T.out.mono ?_;rintro e2 w2 ⟨rfl,n⟩;have HBW2:=Zh (Zag e.out n);have HBL2:=Zh (Zag g.out n);clear n;rcases q with _|_
             ·exact k68
             ·have hok:ZaZ m k=true:=HQc.out;have hrel2:∀ i,i<k+1→ZaZ m i=true:=fun i hi=>by exact k61
              exact k43
            ·obtain rfl:k=m.sel.toNat:=by omega
             have d:=q1.out;have A:=Zh d;clear d q1;have o:¬ ((m.sel.toNat:Int) < m.sel):=by omega
             go_wp2;go_ret;exact ZcP (ZcT (by rw [HQ.out,ag.out,show Za1 m=true from ZaE z.out,ZaE l.out,ZaE r.out,ZaE A.out];rfl)) e.out
    ·have i4:m.sel > 16:=by omega
     have i3:¬ m.sel<0:=by omega
     have i1:¬ (m.cl.length:Int) > 10:=by omega
     have i2:¬ (m.me.length:Int) > 16:=by omega
     go_enter Tryz.func184,Tryz.ntmps184;go_wp2;go_ret;exact ZcP (ZcT (by rw [HQ.out,t.out,decide_eq_false (show ¬ m.sel≤16 by omega)];simp)) s.out
   ·have i3:m.sel<0:=by omega
    have i1:¬ (m.cl.length:Int) > 10:=by omega
    have i2:¬ (m.me.length:Int) > 16:=by omega
    go_enter Tryz.func184,Tryz.ntmps184;go_wp2;go_ret;exact ZcP (ZcT (by rw [HQ.out,t.out,decide_eq_false (show ¬ 0≤m.sel by omega)];simp)) s.out
  ·have i1:¬ (m.cl.length:Int) > 10:=by omega
   have i2:(m.me.length:Int) > 16:=by omega
   go_enter Tryz.func184,Tryz.ntmps184;go_wp2;go_ret;exact ZcP (ZcT (by rw [HQ.out,t.out,decide_eq_false (show ¬ m.me.length≤16 by omega)];simp)) s.out
 ·have i1:(m.cl.length:Int) > 10:=by omega
  go_enter Tryz.func184,Tryz.ntmps184;go_wp2;go_ret;exact ZcP (ZcT (by rw [HQ.out,t.out,decide_eq_false (show ¬ m.cl.length≤10 by omega)];simp)) s.out
theorem Zhh (m:Md) (h:Hd) (w:World) (H:Zaz w h m):Calls Tryz.prog 124 #[.agg (HM.mk h m)] w (Ret w (.int .i64 (if Za2 m then 0 else 1))):=by
 have a:Below w.heap.size w (w.alloc (.cells (HM.mk h m) 26)):=by exact bE
 have c:=Zhg m h _ (H.old a);generalize Za2 m=q at c ⊢;have d:=Zh c;clear c H;rcases q with _|_
 all_goals
  go_enter Tryz.func124,Tryz.ntmps124
  go_wp2_with fail
  refine d.out.mono ?_;rintro e f ⟨rfl,b⟩
  go_wp2_with fail
  go_ret;exact ZcP rfl (Zag a b)
end
section
open Go.RowKit
attribute [local go_sem] World.cell?_alloc_some
def Zhi (W:World) (v u:Value):Ending→World→Prop:=fun e w'=>e=.returned (.tuple #[v,u])∧Below W.heap.size W w'
theorem Zhj {W w':World}{v u b a:Value} (h:b=v) (c:a=u) (d:Below W.heap.size W w'):Zhi W v u (.returned (.tuple #[b,a])) w':=⟨by rw [h,c],d⟩
def Zhk (b:Bool):Int:=if b then 0 else 1
def inV (n:Int) (x:Int):Bool:=decide (0≤x)&&decide (x<n)
theorem Zhl (t:Int) (B:Nat) (n:Int) (w:World) (a:w.cell? ⟨B,0,none⟩=some (.int .i64 n)):Calls Tryz.prog 180 #[.int .i64 t,ZQ.p B] w (Ret w (.bool (!inV n t))):=by
 have b:=Zad a;go_enter Tryz.func180,Tryz.ntmps180;go_wp2
 all_goals
  go_ret;exact ZcP (ZcT (by grind [inV])) bE
theorem Zhm (m:Md) (h:Hd) (n:Int) (l:List Int) (ao:Option Addr) (cap:Nat) (w:World) (H:Zaz w h m) (k:Zas w ao cap l) (d:l.length≤1000000):Calls Tryz.prog 119 #[.agg (HM.mk h m),.int .i64 n,.slice ao l.length cap] w (Ret w (.int .i64 (Zhk (Za2 m&&l.all (inV n))))):=by
 have g:Blk ((w.alloc (.cells (HM.mk h m) 26)).alloc (.cells #[.int .i64 n] 3)) (w.heap.size+1) #[.int .i64 n] 3:=Blk.new' (w:=w.alloc (.cells (HM.mk h m) 26)) #[.int .i64 n] 3 (by simp);have b:Below w.heap.size w ((w.alloc (.cells (HM.mk h m) 26)).alloc (.cells #[.int .i64 n] 3)):=by exact bE
 have c:=Zhh m h _ (H.old b);have o:=Zh g;have r:=Zh k;have HB0:=Zh b;generalize Za2 m=qm at c ⊢;generalize hq:l.all (inV n)=q;have s:=Zh hq;clear hq;rcases qm with _|_
 ·have HC:=Zh c;clear c g k b H;go_enter Tryz.func119,Tryz.ntmps119;exact k81
 ·have HC:=Zh c;clear c g k b H;go_enter Tryz.func119,Tryz.ntmps119
  go_wp2_with fail
  refine HC.out.mono ?_;rintro e1 w1 ⟨rfl,hb1⟩;have a:=Zdt l ao cap 180 #[.pointer (some ⟨w.heap.size+1,0,none⟩)] (fun t=>!inV n t) w1 d (r.out.old (Zag HB0.out hb1)) (fun A W=>by kernel_rfl) (fun j y v u=>Zhl _ (w.heap.size+1) n v (((o.out.old hb1).old u).cell 0 rfl));rw [ZgP] at a;have e:=Zh (Zag HB0.out hb1);rw [s.out] at a;have f:=Zh a;clear a hb1
  go_wp2_with fail
  refine f.out.mono ?_;rintro x z ⟨rfl,i⟩;rcases q with _|_
  all_goals
   go_wp2;go_ret;exact ZcP (by simp [Zhk]) (Zag e.out i)
theorem Zhn (m:Md) (h:Hd) (a b:Int) (w:World) (H:Zaz w h m):Calls Tryz.prog 148 #[.agg (HM.mk h m),.int .i64 a,.int .i64 b] w (Zhi w (.bool (Za2 m&&inV m.cl.length a&&inV m.cl.length b&&ZaI m (a.toNat+1) a b)) (.int .i64 (Zhk (Za2 m&&inV m.cl.length a&&inV m.cl.length b)))):=by
 have A:Blk (w.alloc (.cells (HM.mk h m) 26)) w.heap.size (HM.mk h m) 26:=Blk.new w _ _;have hR:Blk ((w.alloc (.cells (HM.mk h m) 26)).alloc (.cells #[.int .i64 a,.int .i64 b] 3)) (w.heap.size+1) #[.int .i64 a,.int .i64 b] 3:=Blk.new' (w:=w.alloc (.cells (HM.mk h m) 26)) #[.int .i64 a,.int .i64 b] 3 (by simp);have f:Below w.heap.size w ((w.alloc (.cells (HM.mk h m) 26)).alloc (.cells #[.int .i64 a,.int .i64 b] 3)):=by exact bE
 have j:Zas ((w.alloc (.cells (HM.mk h m) 26)).alloc (.cells #[.int .i64 a,.int .i64 b] 3)) (some ⟨w.heap.size+1,0,none⟩) 2 [a,b]:=by exact k98
 have c:=Zhm m h m.cl.length [a,b] _ 2 _ (H.old f) j (by simp);have e:(Za2 m&&[a,b].all (inV m.cl.length))=(Za2 m&&inV m.cl.length a&&inV m.cl.length b):=by simp [Bool.and_assoc]
 rw [e] at c;generalize hq:(Za2 m&&inV m.cl.length a&&inV m.cl.length b)=q at c ⊢;have C:=Zh c;have F:=Zh (A.alloc (.cells #[.int .i64 a,.int .i64 b] 3));have D:=Zh (H.old f);have v:=Zh f;have E:=Zh hq;clear c A hR f j e hq H;go_enter Tryz.func148,Tryz.ntmps148
 go_wp2_with fail
 refine C.out.mono ?_;rintro J t ⟨rfl,g⟩;have n:=Zh (Zag v.out g);rcases q with _|_
 ·go_wp2;go_ret2;exact Zhj rfl rfl n.out
 ·have z:=E.out;simp only [Bool.and_eq_true,inV,decide_eq_true_eq] at z;obtain ⟨⟨l,I,x⟩,r,B⟩:=z;have s:∀ k,k<m.cl.length→ZaL m k=true:=by simp only [Za2,Bool.and_eq_true] at l;exact ZaF.1 l.1.1.2
  have o:=ZgX m h a b t (D.out.old g) r x (fun i G L=>Zc4 s i G (by omega));have u:=Zh o;have d:=F.out.old g;have M:t.cell? ⟨w.heap.size,0,none⟩=some (.slice h.co m.cl.length h.cc):=d.cell 0 rfl;have N:t.cell? ⟨w.heap.size,1,none⟩=some (.slice h.so m.st.length h.sc):=d.cell 1 rfl;have O:t.cell? ⟨w.heap.size,2,none⟩=some (.slice h.eo m.me.length h.ec):=d.cell 2 rfl;have P:t.cell? ⟨w.heap.size,3,none⟩=some (.int .i64 m.sel):=d.cell 3 rfl;have Q:=d.lt;clear o s l d g
  go_wp2_with fail
  refine u.out.mono ?_;rintro K R ⟨rfl,y⟩;go_wp2;go_ret2;exact Zhj rfl rfl (Zag n.out y)
end
section
open Go.RowKit
theorem Zho (w:World):Calls Tryz.prog 188 #[] w (Ret w (.agg #[.int .i64 1,.int .i64 0])):=by go_enter Tryz.func188,Tryz.ntmps188;go_wp2;exact bodyPost_ret (v:=.agg #[.int .i64 1,.int .i64 0]) (by simp [results,Tryz.results188,go_sem]) rfl ⟨rfl,by exact bE⟩
theorem Zhp (w:World):Calls Tryz.prog 256 #[] w (Ret w (.agg #[.int .i64 3,.int .i64 0])):=by go_enter Tryz.func256,Tryz.ntmps256;go_wp2;exact bodyPost_ret (v:=.agg #[.int .i64 3,.int .i64 0]) (by simp [results,Tryz.results256,go_sem]) rfl ⟨rfl,by exact bE⟩
theorem Zhq (c:Int) (w:World):Calls Tryz.prog 213 #[.int .i64 c] w (Ret w (.agg #[.int .i64 2,.int .i64 c])):=by go_enter Tryz.func213,Tryz.ntmps213;go_wp2;exact bodyPost_ret (v:=.agg #[.int .i64 2,.int .i64 c]) (by simp [results,Tryz.results213,go_sem]) rfl ⟨rfl,by exact bE⟩
def Zhr (m:Md) (t u:Ty):Bool:=if t.k=2∧u.k=2 then Za2 m&&inV m.cl.length t.c&&inV m.cl.length u.c&&ZaI m (t.c.toNat+1) t.c u.c else decide (t=u)
theorem Zhs (t u:Ty):decide (t=u)=(decide (t.k=u.k)&&decide (t.c=u.c)):=by cases t;cases u;simp
theorem Zht (m:Md) (h:Hd) (t u:Ty) (w:World) (H:Zaz w h m):Calls Tryz.prog 133 #[.agg (HM.mk h m),.agg #[.int .i64 t.k,.int .i64 t.c],.agg #[.int .i64 u.k,.int .i64 u.c]] w (Ret w (.bool (Zhr m t u))):=by
 obtain ⟨q,a⟩:∃ q,q=Zhr m t u:=⟨_,rfl⟩;rw [←a];unfold Zhr at a;rw [Zhs] at a;have b:∀ d,Below w.heap.size w d→_:=fun d c=>Zhn m h t.c u.c d (H.old c);generalize hx:(Za2 m&&inV m.cl.length t.c&&inV m.cl.length u.c&&ZaI m (t.c.toNat+1) t.c u.c)=x at b a;generalize hy:Zhk (Za2 m&&inV m.cl.length t.c&&inV m.cl.length u.c)=y at b;have f:=Zh b;have g:=Zh a;clear hx hy b a H;go_enter Tryz.func133,Tryz.ntmps133
 go_wp2_with (go_at_call 148;refine (f.out _ bE).mono ?_;rintro e j ⟨rfl,i⟩)
 all_goals
  go_ret;exact ZcP (ZcT (by rw [g.out];grind)) bE
theorem Zhu (m:Md) (h:Hd) (t:Ty) (w:World):Calls Tryz.prog 202 #[.agg (HM.mk h m),.agg #[.int .i64 t.k,.int .i64 t.c]] w (Ret w (.bool (ZaG m.cl.length t 1))):=by
 go_enter Tryz.func202,Tryz.ntmps202;go_wp2
 all_goals
  go_ret;exact ZcP (ZcT (by grind [ZaG])) bE
theorem Zhv (m:Md) (h:Hd) (a:Int) (w:World) (H:Zaz w h m):Calls Tryz.prog 70 #[.agg (HM.mk h m),.int .i64 a] w (Ret w (.bool (Za2 m&&inV m.me.length a))):=by
 have b:∀ f,Below w.heap.size w f→_:=fun f c=>Zhh m h f (H.old c);generalize hx:Za2 m=x at b ⊢;have g:=Zh b;clear hx b H;rcases x with _|_
 all_goals
  go_enter Tryz.func70,Tryz.ntmps70
  go_wp2_with (go_at_call 124;refine (g.out _ bE).mono ?_;rintro e j ⟨rfl,d⟩;have i:=((Blk.new w (HM.mk h m) 26).old d).cell 2 rfl)
  all_goals
   go_ret;exact ZcP (ZcT (by grind [inV])) bE
end
section
open Go.RowKit
theorem Zhw {P:Program}{b:Array Oper}{Q:Exit→Act→World→Prop}{a:Act}{w:World}{k:Nat}{K:Act→World→Prop} (o:Oper) (c:b[k]?=some o) (d:Region.wanted o (yielded b a.tmps)=false) (h:K (a.put o.dst undef) w):wpOp P b Q k K a w:=by unfold wpOp;simp only [c,d,Bool.false_eq_true,if_false];exact h
theorem Upd.cell {K B:Nat}{w w':World} (h:Upd K B w w') {p:Addr}{v:Value} (hc:w.cell? p=some v) (hK:p.block≠K) (hB:p.block≠B):w'.cell? p=some v:=
 (World.cell?_of_block (w:=w) (h.block p.block (Zad hc) hK hB)).trans hc
theorem Zhx (K:Nat) (h:Hd) (m:Md) (L S O:Value) (e:Int) (t u:Ty) (w:World) (H:Ck w K h m L S O e) (Hj:Zaz w h m) :
  Calls Tryz.prog 196 #[ZQ.p K,.agg #[.int .i64 t.k,.int .i64 t.c],.agg #[.int .i64 u.k,.int .i64 u.c]] w fun r w'=>(∃ v,r=.returned v)∧Ck w' K h m L S O (ZeV e (decide (e=0)&&Zhr m t u))∧Upd K K w w':=by
 have f:Below w.heap.size w ((w.alloc (.cells #[.int .i64 t.k,.int .i64 t.c] 38)).alloc (.cells #[.int .i64 u.k,.int .i64 u.c] 38)).drew:=by exact bE
 have x0:Blk (w.alloc (.cells #[.int .i64 t.k,.int .i64 t.c] 38)) w.heap.size #[.int .i64 t.k,.int .i64 t.c] 38:=Blk.new w _ _;have x0:=(x0.alloc (.cells #[.int .i64 u.k,.int .i64 u.c] 38)).drew;have x1:Blk ((w.alloc (.cells #[.int .i64 t.k,.int .i64 t.c] 38)).alloc (.cells #[.int .i64 u.k,.int .i64 u.c] 38)).drew (w.heap.size+1) #[.int .i64 u.k,.int .i64 u.c] 38:=(Blk.new' (w:=(w.alloc (.cells #[.int .i64 t.k,.int .i64 t.c] 38))) _ _ (by simp)).drew;have C:=Zh (Hj.old f);have HC1:=H.old f;obtain ⟨V,k0,k1,k2,k3,k4,k5,k6,k7⟩:=HC1.cells;have z:=Zh HC1;have u0:=x0.cell 0 (v:=.int .i64 t.k) rfl;have u1:=x0.cell 1 (v:=.int .i64 t.c) rfl;have v0:=x1.cell 0 (v:=.int .i64 u.k) rfl;have F:=x1.cell 1 (v:=.int .i64 u.c) rfl;have y:=Zh f;have X:=Blk.lt H;obtain ⟨E,A⟩:∃ E,E=((w.alloc (.cells #[.int .i64 t.k,.int .i64 t.c] 38)).alloc (.cells #[.int .i64 u.k,.int .i64 u.c] 38)).drew:=⟨_,rfl⟩;rw [←A] at C z y k0 k1 k2 k3 k7 u0 u1 v0 F;have D:=Zh A;clear f x0 x1 HC1 H Hj V k4 k5 k6 A;have hS:∀ w',Below E.heap.size E w'→(fun w':World=>w'.cell? ⟨K,0,none⟩=some (.slice h.co m.cl.length h.cc)∧w'.cell? ⟨K,1,none⟩=some (.slice h.so m.st.length h.sc)∧w'.cell? ⟨K,2,none⟩=some (.slice h.eo m.me.length h.ec)∧w'.cell? ⟨K,3,none⟩=some (.int .i64 m.sel)∧w'.cell? ⟨w.heap.size,0,none⟩=some (.int .i64 t.k)∧w'.cell? ⟨w.heap.size,1,none⟩=some (.int .i64 t.c)∧w'.cell? ⟨w.heap.size+1,0,none⟩=some (.int .i64 u.k)∧w'.cell? ⟨w.heap.size+1,1,none⟩=some (.int .i64 u.c)) w':=
  fun w' hb=>⟨(hb.cell (Zad k0)).trans k0,(hb.cell (Zad k1)).trans k1,(hb.cell (Zad k2)).trans k2,(hb.cell (Zad k3)).trans k3,(hb.cell (Zad u0)).trans u0,(hb.cell (Zad u1)).trans u1,(hb.cell (Zad v0)).trans v0,(hb.cell (Zad F)).trans F⟩
 have HS:=Zh hS;clear hS k0 k1 k2 k3 u0 u1 v0 F;by_cases he:e=0
 ·subst he;go_enter Tryz.func196,Tryz.ntmps196
  go_wp2_with fail
  refine rO (fun w':World=>w'.cell? ⟨K,0,none⟩=some (.slice h.co m.cl.length h.cc)∧w'.cell? ⟨K,1,none⟩=some (.slice h.so m.st.length h.sc)∧w'.cell? ⟨K,2,none⟩=some (.slice h.eo m.me.length h.ec)∧w'.cell? ⟨K,3,none⟩=some (.int .i64 m.sel)∧w'.cell? ⟨w.heap.size,0,none⟩=some (.int .i64 t.k)∧w'.cell? ⟨w.heap.size,1,none⟩=some (.int .i64 t.c)∧w'.cell? ⟨w.heap.size+1,0,none⟩=some (.int .i64 u.k)∧w'.cell? ⟨w.heap.size+1,1,none⟩=some (.int .i64 u.c)) (oL [0,1,2,3,104,5,6,7,8,9,10,11,12,113,14,115]) (D.out▸HS.out _ (Below.refl _ _)) ?_;rw [←D.out]
  repeat refine pO ?_
  refine oO fun Kv hK=>?_;go_simp;refine hK _ _ ⟨HS.out _ (Below.refl _ _),?_⟩;clear hK Kv
  repeat refine pO ?_
  refine oO fun Kv hK=>?_;go_simp;refine (Zht m h t u _ C.out).mono ?_;rintro r w2 ⟨rfl,hb2⟩;refine hK _ _ ⟨HS.out _ hb2,?_⟩;clear hK Kv
  repeat refine pO ?_
  refine oO fun Kv hK=>?_;go_simp;refine (ZeW K h m L S O _ _ _ (z.out.old hb2)).mono ?_;rintro r w3 ⟨⟨v,rfl⟩,hc,hu⟩;obtain ⟨-,-,-,-,M,N,R,T⟩:=HS.out _ hb2;obtain ⟨-,c0,G,I,J,-,-,-,-⟩:=hc.cells;refine hK _ _ ⟨⟨c0,G,I,J,hu.cell M (by show w.heap.size≠K;omega) (by show w.heap.size≠K;omega),hu.cell N (by show w.heap.size≠K;omega) (by show w.heap.size≠K;omega),hu.cell R (by show w.heap.size+1≠K;omega) (by show w.heap.size+1≠K;omega),hu.cell T (by show w.heap.size+1≠K;omega) (by show w.heap.size+1≠K;omega)⟩,?_⟩;clear hK Kv;refine Zd7 ?_;go_wp2;go_end0;exact ⟨⟨_,rfl⟩,by simpa using hc,(Upd.of (Zag y.out hb2)).trans hu⟩
 ·have U:(e == 0)=false:=by simpa using he
  have HE:=Zh he;go_enter Tryz.func196,Tryz.ntmps196
  go_wp2_with fail
  refine rO (fun w':World=>w'.cell? ⟨K,0,none⟩=some (.slice h.co m.cl.length h.cc)∧w'.cell? ⟨K,1,none⟩=some (.slice h.so m.st.length h.sc)∧w'.cell? ⟨K,2,none⟩=some (.slice h.eo m.me.length h.ec)∧w'.cell? ⟨K,3,none⟩=some (.int .i64 m.sel)∧w'.cell? ⟨w.heap.size,0,none⟩=some (.int .i64 t.k)∧w'.cell? ⟨w.heap.size,1,none⟩=some (.int .i64 t.c)∧w'.cell? ⟨w.heap.size+1,0,none⟩=some (.int .i64 u.k)∧w'.cell? ⟨w.heap.size+1,1,none⟩=some (.int .i64 u.c)) (oL [0,1,2,3,104,5,6,7,8,9,10,11,12,113,14,115]) (D.out▸HS.out _ (Below.refl _ _)) ?_;rw [←D.out]
  repeat refine pO ?_
  refine oO fun Kv hK=>?_;go_simp;refine hK _ _ ⟨HS.out _ (Below.refl _ _),?_⟩;clear hK Kv
  repeat refine pO ?_
  refine Zd5 ?_;refine Zhw _ (by rfl) (by rfl) ?_;refine ⟨HS.out _ (Below.refl _ _),?_⟩
  repeat refine pO ?_
  refine oO fun Kv hK=>?_;go_simp;refine (ZeW K h m L S O _ _ _ (z.out.old (Below.refl _ _))).mono ?_;rintro r w3 ⟨⟨v,rfl⟩,hc,hu⟩;obtain ⟨-,-,-,-,M,N,R,T⟩:=HS.out _ (Below.refl _ _);obtain ⟨-,c0,G,I,J,-,-,-,-⟩:=hc.cells;refine hK _ _ ⟨⟨c0,G,I,J,hu.cell M (by show w.heap.size≠K;omega) (by show w.heap.size≠K;omega),hu.cell N (by show w.heap.size≠K;omega) (by show w.heap.size≠K;omega),hu.cell R (by show w.heap.size+1≠K;omega) (by show w.heap.size+1≠K;omega),hu.cell T (by show w.heap.size+1≠K;omega) (by show w.heap.size+1≠K;omega)⟩,?_⟩;clear hK Kv;refine Zd7 ?_;go_wp2;go_end0;exact ⟨⟨_,rfl⟩,by simpa [HE.out] using hc,(Upd.of y.out).trans hu⟩
end
