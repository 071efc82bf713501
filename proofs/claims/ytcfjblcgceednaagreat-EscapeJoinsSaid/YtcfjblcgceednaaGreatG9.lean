/- Joined texts. The first: The program's Check of code. -/
import Derived.Test.YtcfjblcgceednaaGreatG3
import Derived.Test.YtcfjblcgceednaaGreatG6
set_option linter.all false
set_option linter.unusedVariables false
set_option linter.unusedSimpArgs false
set_option maxRecDepth 100000
set_option maxHeartbeats 8000000
namespace Go.Proofs.YtcfjblcgceednaaGreat
theorem k43{p:Prop}(h:p:=by
 have HR:=Zh hrel2
 clear hrel2 hok
 go_wp2
 go_roundw
 case rel=>exact ⟨k+1,by omega,by go_num,HBL2.out,Zh HR.out⟩
 case measure=>simp [intOf];omega):p:=h
theorem k47{p:Prop}(h:p:=by
 have hrel2:∀ i,i<s+1→ZaJ m k i=true:=fun i hi=>by
  by_cases his:i<s
  ·exact q1.out i his
  ·obtain rfl:i=s:=by omega
   exact hsok
 have HR:=Zh hrel2
 clear hrel2 hsok
 go_wp2
 go_roundw
 case rel=>exact ⟨s+1,by omega,by go_num,HBL.out,Zh HR.out⟩
 case measure=>simp [intOf];omega):p:=h
theorem k61{p:Prop}(h:p:=by
 by_cases hik:i<k
 ·exact q1.out i hik
 ·obtain rfl:i=k:=by omega
  exact hok):p:=h
theorem k68{p:Prop}(h:p:=by
 go_wp2
 go_ret
 exact ZcT (ZcX (by rw [HQ.out,ZaC hkl HQc.out];simp)) HBW2.out):p:=h
theorem k80{p:Prop}(h:p:=by
 have HN:=Zh hn
 clear hn
 go_wp2_with fail
 go_ret
 exact ZcT (ZcY (by rw [HE.out,HN.out];rfl)) (Zaf hb01 hb2)):p:=h
theorem k81{p:Prop}(h:p:=by
 go_wp2_with fail
 refine HC.out.mono ?_
 rintro e1 w1 ⟨rfl,hb1⟩
 go_wp2
 go_ret
 exact ZcT rfl (Zaf HB0.out hb1)):p:=h
theorem k99{p:Prop}(h:p:=by
 go_wp2_with fail
 go_ret
 exact ZcT (ZcX (by rw [decide_eq_false (show ¬ a<m.sel by omega)];rfl)) bE):p:=h
theorem ZgL{p:Prop}(h:p:=by
 go_wp2
 go_ret
 exact ZcT (ZcX (by rw [decide_eq_false (show ¬ a<(k:Int) by omega)];rfl)) bE):p:=h
theorem k98{p:Prop}(h:p:=by
 unfold Zar
 rw [Zat]
 exact ZdL hR rfl):p:=h
section
open Go.RowKit
theorem ZgM {α:Type} (l:List α) (p:α→Bool):(l.any fun x=>!p x)=!(l.all p):=by
 induction l with
 | nil=>rfl
 | cons x r ih=>simp only [List.any_cons,List.all_cons,ih,Bool.not_and]
theorem ZgN (l:List In3) (ao:Option Addr) (cap:Nat) (p:Bool) (w:World) (hl:Zar w ao cap l) :
  Calls Tryz.prog 299 #[.slice ao l.length cap,.bool p] w (Ret w (.int .i64 (ZaV p l))):=by
 have HL:=Zh hl
 obtain ⟨B,hB⟩:∃ B,B=w.heap.size:=⟨_,rfl⟩
 generalize hq:ZaV p l=q
 have HQ:=Zh hq
 clear hl hq
 by_cases hlen:l.length≤120
 ·have hl3:¬ (l.length:Int) > 120:=by omega
  have hl4:¬ (120:Int) < l.length:=by omega
  have hl5:¬ 120<l.length:=by omega
  have cf:∀ A W,(callFunc 355 (A++#[.pointer (some ⟨B,0,none⟩)])).run Tryz.prog W=.ok (.enter 355 (A++#[.pointer (some ⟨B,0,none⟩)])) W:=fun A W=>by kernel_rfl
  have hb0:=(Below.refl w.heap.size w).alloc (Nat.le_refl _) (.cells #[.bool p] 4)
  have hX:=Blk.new' (w:=w) #[.bool p] 4 hB
  have hcon:=Zdn l ao cap 355 #[.pointer (some ⟨B,0,none⟩)] (fun i=>!ZaQ p i) (w.alloc (.cells #[.bool p] 4)) (by omega) (HL.out.old hb0) cf (fun k hk w' hb=>Zdj (l.getD k default) p B w' ((hX.old hb).cell 0 rfl))
  rw [ZgM] at hcon
  have HC:=Zh hcon
  clear cf hcon
  rcases hall:l.all (ZaQ p) with _|_
  ·have HA:=Zh hall
   clear hall
   go_enter Tryz.func299,Tryz.ntmps299
   go_wp2_with fail
   rw [←hB]
   have hc:=HC.out
   rw [HA.out] at hc
   refine hc.mono ?_
   clear hc
   rintro e w1 ⟨rfl,hb1⟩
   go_wp2_with fail
   go_ret
   refine ZcT (ZcY ?_) (Zaf hb0 hb1)
   rw [←HQ.out,ZaV,if_neg hl5,HA.out];rfl
  ·have HA:=Zh hall
   clear hall
   go_enter Tryz.func299,Tryz.ntmps299
   go_wp2_with fail
   rw [←hB]
   have hc:=HC.out
   rw [HA.out] at hc
   refine hc.mono ?_
   clear hc
   rintro e w1 ⟨rfl,hb1⟩
   have hb01:=Zaf hb0 hb1
   have hsh:=Zda l ao cap w1 (HL.out.old hb01) hlen
   have HS:=Zh hsh
   clear hsh
   go_wp2_with fail
   refine HS.out.mono ?_
   rintro e w2 ⟨⟨v0,v1,v2,v3,n,rfl⟩,hb2⟩
   have hf:∀ (b:Bool) w,Sem.run Tryz.prog (Instr.field 245 (.agg #[v0,v1,v2,v3,.int .i64 n,.bool b]) 5) w=.ok (.bool b) w:=fun b w=>by kernel_rfl
   have hE:q=if ZaU l then 0 else 7:=by rw [←HQ.out,ZaV,if_neg hl5,HA.out];rfl
   have HE:=Zh hE
   clear hE HQ
   rcases hn:ZaU l with _|_
   ·exact k80
   ·exact k80
 ·have hl3:(120:Int) < l.length:=by omega
  have hl5:120<l.length:=by omega
  go_enter Tryz.func299,Tryz.ntmps299
  go_wp2_with fail
  go_ret
  exact ZcT (ZcY (by rw [←HQ.out,ZaV,if_pos hl5])) bE
end
section
open Go.RowKit
theorem ZgO (m:Md) (h:Hd) (n:Int) (w:World):Calls Tryz.prog 358 #[.agg #[.slice h.co m.cl.length h.cc,.slice h.so m.st.length h.sc,.slice h.eo m.me.length h.ec,.int .i64 m.sel],.int .i64 n] w (Ret w (.bool (decide (0≤n)&&decide (n<m.cl.length)))):=by
 go_enter Tryz.func358,Tryz.ntmps358
 go_wp2
 all_goals
  go_ret
  exact ZcT (ZcX (by grind)) bE
theorem ZgP (m:Md) (h:Hd) (t:Ty) (least:Int) (w:World):Calls Tryz.prog 309 #[.agg #[.slice h.co m.cl.length h.cc,.slice h.so m.st.length h.sc,.slice h.eo m.me.length h.ec,.int .i64 m.sel],.agg #[.int .i64 t.k,.int .i64 t.c],.int .i64 least] w (Ret w (.bool (ZaF m.cl.length t least))):=by
 go_enter Tryz.func309,Tryz.ntmps309
 go_wp2_with (go_at_call 358;refine (ZgO _ _ _ _).mono ?_;rintro e w1 ⟨rfl,hb1⟩)
 all_goals
  go_ret
  exact ZcT (ZcX (by grind [ZaF])) bE
def ZgQ (w:World) (B:Nat) (h:Hd) (m:Md):Prop:=Blk w B #[.slice h.co m.cl.length h.cc,.slice h.so m.st.length h.sc,.slice h.eo m.me.length h.ec,.int .i64 m.sel] 205
theorem ZgR {w:World}{B:Nat}{h:Hd}{m:Md} (H:ZgQ w B h m):w.cell? ⟨B,0,none⟩=some (.slice h.co m.cl.length h.cc)∧w.cell? ⟨B,1,none⟩=some (.slice h.so m.st.length h.sc)∧w.cell? ⟨B,2,none⟩=some (.slice h.eo m.me.length h.ec)∧w.cell? ⟨B,3,none⟩=some (.int .i64 m.sel):=⟨H.cell 0 rfl,H.cell 1 rfl,H.cell 2 rfl,H.cell 3 rfl⟩
theorem ZgQ.old {w w':World}{B:Nat}{h:Hd}{m:Md} (H:ZgQ w B h m) (hb:Below w.heap.size w w'):ZgQ w' B h m:=Blk.old H hb
theorem ZgQ.lt {w:World}{B:Nat}{h:Hd}{m:Md} (H:ZgQ w B h m):B<w.heap.size:=Blk.lt H
theorem ZgS (m:Md) (h:Hd) (t:Ty) (B:Nat) (w:World) (hB:ZgQ w B h m):Calls Tryz.prog 308 #[.agg #[.int .i64 t.k,.int .i64 t.c],.pointer (some ⟨B,0,none⟩)] w (Ret w (.bool (!ZaF m.cl.length t 1))):=by
 obtain ⟨r0,r1,r2,r3⟩:=ZgR hB
 have rl:=hB.lt
 clear hB
 go_enter Tryz.func308,Tryz.ntmps308
 go_wp2_with (go_at_call 309;refine (ZgP m h t 1 _).mono ?_;rintro e w1 ⟨rfl,hb1⟩)
 go_ret
 exact ZcT rfl bE
theorem ZgT (m:Md) (h:Hd) (l:List Ty) (ao:Option Addr) (cap:Nat) (most:Int) (w:World) (hl:Zar w ao cap l) (hm:most≤1000000):Calls Tryz.prog 238 #[.agg #[.slice h.co m.cl.length h.cc,.slice h.so m.st.length h.sc,.slice h.eo m.me.length h.ec,.int .i64 m.sel],.slice ao l.length cap,.int .i64 most] w (Ret w (.bool (decide ((l.length:Int)≤most)&&ZaG m.cl.length l))):=by
 obtain ⟨B,hB⟩:∃ B,B=w.heap.size:=⟨_,rfl⟩
 by_cases hlen:(l.length:Int)≤most
 ·have hb0:=(Below.refl w.heap.size w).alloc (Nat.le_refl _) (.cells #[.slice h.co m.cl.length h.cc,.slice h.so m.st.length h.sc,.slice h.eo m.me.length h.ec,.int .i64 m.sel] 205)
  have hX:ZgQ _ B h m:=Blk.new' (w:=w) #[.slice h.co m.cl.length h.cc,.slice h.so m.st.length h.sc,.slice h.eo m.me.length h.ec,.int .i64 m.sel] 205 hB
  have hcon:=Zdp l ao cap 308 #[.pointer (some ⟨B,0,none⟩)] (fun t=>!ZaF m.cl.length t 1) (w.alloc (.cells #[.slice h.co m.cl.length h.cc,.slice h.so m.st.length h.sc,.slice h.eo m.me.length h.ec,.int .i64 m.sel] 205)) (by omega) (hl.old hb0) (fun A W=>by kernel_rfl) (fun k hk w' hb=>ZgS m h (l.getD k default) B w' (hX.old hb))
  rw [ZgM] at hcon
  have HC:=Zh hcon
  have hL:decide ((l.length:Int)≤most)=true:=by simp;omega
  clear hl hX hcon
  go_enter Tryz.func238,Tryz.ntmps238
  go_wp2_with fail
  rw [←hB]
  refine HC.out.mono ?_
  rintro e w1 ⟨rfl,hb1⟩
  go_wp2
  go_ret
  exact ZcT (ZcX (by simp [hlen,ZaG])) (Zaf hb0 hb1)
 ·have hL:decide ((l.length:Int)≤most)=false:=by simp;omega
  go_enter Tryz.func238,Tryz.ntmps238
  go_wp2
  go_ret
  exact ZcT (ZcX (by simp [hlen])) bE
theorem ZgU (m:Md) (h:Hd) (a b:Int) (w:World) (H:Zay w h m) (hb0:0≤b) (ha:a<m.cl.length) (hd:Zc3 m (a.toNat+1)):Calls Tryz.prog 332 #[.agg #[.slice h.co m.cl.length h.cc,.slice h.so m.st.length h.sc,.slice h.eo m.me.length h.ec,.int .i64 m.sel],.int .i64 a,.int .i64 b] w (Ret w (.bool (ZaH m (a.toNat+1) a b))):=by
 obtain ⟨q,hq⟩:∃ q,q=ZaH m (a.toNat+1) a b:=⟨_,rfl⟩
 rw [←hq]
 have HQ:=Zh hq
 clear hq
 obtain ⟨co,cc,so,sc,eo,ec,hc,he⟩:=h;dsimp only
 have HM:=Zh H
 have HD:=Zh hd
 have hbel:=(Below.refl w.heap.size w).alloc (Nat.le_refl _) (.cells #[.slice co m.cl.length cc,.slice so m.st.length sc,.slice eo m.me.length ec,.int .i64 m.sel] 205)
 have HM1:=Zh (H.old hbel)
 clear H hd hbel
 go_enter Tryz.func332,Tryz.ntmps332
 go_wp2
 go_loop [1] (fun x=>∃ k:Int,x=.int .i64 k∧k≤a∧ZaH m (k.toNat+1) k b=q) (fun x=>(intOf x+1).toNat)
 case atStart=>exact ⟨a,rfl,by omega,HQ.out.symm⟩
 case round=>
  obtain ⟨k,rfl,hka,hkq⟩:=hrel
  have HK:=Zh hkq
  clear hkq
  by_cases hlt:b<k
  ·obtain ⟨c,rfl⟩:∃ c:Nat,k=c:=⟨k.toNat,by omega⟩
   obtain ⟨ad,hco,e0,e1,e2,e3⟩:=HM1.out.cls (i:=c) (by omega)
   dsimp only at hco
   subst hco
   clear e0 e2 e3
   have hs:=HD.out c (by omega) (by omega)
   have hs':m.sup c=(m.cl.getD c default).sup:=rfl
   generalize (m.cl.getD c default).sup=s at e1 hs'
   have HS:=Zh hs'
   clear hs'
   rw [HS.out] at hs
   go_wp2
   go_round
   case rel=>
    refine ⟨s,rfl,by omega,?_⟩
    have h1:=HK.out
    rw [ZaH,if_pos hlt,HS.out,Int.toNat_natCast] at h1
    rw [←h1]
    exact Zc6 HD.out hb0 (by omega) (by omega) (by omega)
   case measure=>simp [intOf];omega
  ·have hlt2:¬ k > b:=by omega
   go_wp2
   go_ret
   refine ZcT (ZcX ?_) bE
   have h1:=HK.out
   rw [ZaH,if_neg (by omega)] at h1
   rw [←h1]
   grind
end
section
open Go.RowKit
theorem ZgV (m:Md) (h:Hd) (k s n:Nat) (w:World) (H:Zay w h m) (hk:k<m.cl.length) (hn:n<m.me.length) (hd:Zc3 m (k+1)) (hs:s<m.sel) (hl:∀ j,j≤k→((m.cl.getD j default).m.length:Int)=m.sel):Calls Tryz.prog 310 #[.agg #[.slice h.co m.cl.length h.cc,.slice h.so m.st.length h.sc,.slice h.eo m.me.length h.ec,.int .i64 m.sel],.int .i64 k,.int .i64 s,.int .i64 n] w (Ret w (.bool (ZaI m k s n))):=by
 have hbel:=(Below.refl w.heap.size w).alloc (Nat.le_refl _) (.cells #[.slice h.co m.cl.length h.cc,.slice h.so m.st.length h.sc,.slice h.eo m.me.length h.ec,.int .i64 m.sel] 205)
 have hX:ZgQ _ w.heap.size h m:=Blk.new w #[.slice h.co m.cl.length h.cc,.slice h.so m.st.length h.sc,.slice h.eo m.me.length h.ec,.int .i64 m.sel] 205
 obtain ⟨ad,heo,-,m1,-,-,-,-,-⟩:=(H.old hbel).mth hn
 have hown:m.own n=(m.me.getD n default).c:=rfl
 generalize (m.me.getD n default).c=own at m1 hown
 have hq:ZaI m k s n=(decide (0≤own)&&decide (own≤k)&&ZaH m (k+1) k own&&decide (m.ent own s=n)):=by rw [←hown];rfl
 rw [hq]
 have HM:=Zh H
 have HD:=Zh hd
 have HL:=Zh hl
 have HX:=Zh hX
 clear hq hown hX H hl hd
 by_cases ho:0≤own∧own≤k
 ·obtain ⟨o,rfl⟩:∃ o:Nat,own=o:=⟨own.toNat,by omega⟩
  have hab:=fun w1 (hb:Below w.heap.size w w1)=>ZgU m h k o w1 (HM.out.old hb) (by omega) (by omega) (by rw [Int.toNat_natCast];exact HD.out)
  rw [Int.toNat_natCast] at hab
  generalize ZaH m (k+1) k o=q at hab
  have HA:=Zh hab
  clear hab
  have hlo:=HL.out o (by omega)
  have hent:m.ent o s=(m.cl.getD o default).m.getD s 0:=rfl
  generalize he:(m.cl.getD o default).m.getD s 0=e at hent
  rw [hent]
  have HEq:=Zh he
  clear he hent
  obtain ⟨co,cc,so,sc,eo,ec,hc,he⟩:=h
  dsimp only at *
  subst heo
  have ho2:(o:Int)≤k:=by omega
  have ho3:o<m.cl.length:=by omega
  have ho4:(o:Int) < m.cl.length:=by omega
  go_enter Tryz.func310,Tryz.ntmps310
  go_wp2_with fail
  refine (HA.out _ hbel).mono ?_
  rintro e1 w1 ⟨rfl,hb1⟩
  obtain ⟨r0,r1,r2,r3⟩:=ZgR (HX.out.old hb1)
  have rl:=(HX.out.old hb1).lt
  have hbw:=Zaf hbel hb1
  obtain ⟨ad2,hco,-,-,-,c3⟩:=(HM.out.old hbw).cls (i:=o) (by omega)
  dsimp only at r0 r1 r2 r3 hco c3
  subst hco
  obtain ⟨ad3,hmo,t0⟩:=ZaB ((HM.out.old hbw).t o (by omega)) (i:=s) (by omega)
  rw [HEq.out] at t0
  dsimp only at hmo
  rw [hmo] at c3
  have hso:(s:Int) < (m.cl.getD o default).m.length:=by omega
  have HMo:=Zh hmo
  generalize (m.cl.getD o default).m.length=tl at c3 hso
  clear hmo HEq hlo
  rcases q with _|_
  all_goals
   go_wp2
   all_goals
    go_ret
    exact ZcT (ZcX (by grind)) hbw
 ·obtain ⟨co,cc,so,sc,eo,ec,hc,he⟩:=h
  dsimp only at *
  subst heo
  go_enter Tryz.func310,Tryz.ntmps310
  by_cases h0:0≤own
  ·have h1:¬ own≤k:=by omega
   go_wp2
   go_ret
   exact ZcT (ZcX (by grind)) hbel
  ·have h1:¬ own ≥ 0:=by omega
   go_wp2
   go_ret
   exact ZcT (ZcX (by grind)) hbel
theorem ZgW {a b:List Ty}{k:Nat} (h:a.getD k default≠b.getD k default):¬ a=b:=fun e=>h (by rw [e])
theorem ZgX {a b:List Ty} (h:a.length=b.length) (h1:∀ i,i<a.length→a.getD i default=b.getD i default):a=b:=by
 exact k89
theorem ZgY (a b:List Ty) (ao bo:Option Addr) (ac bc:Nat) (w:World) (ha:Zar w ao ac a) (hb:Zar w bo bc b) (hm:a.length≤1000000):Calls Tryz.prog 311 #[.slice ao a.length ac,.slice bo b.length bc] w (Ret w (.bool (decide (a=b)))):=by
 by_cases hlen:a.length=b.length
 · have HA:=Zh ha
   have HB:=Zh hb
   have HLn:=Zh hlen
   have hb3:((a.length:Int) != b.length)=false:=by simp [hlen]
   clear ha hb hlen
   go_enter Tryz.func311,Tryz.ntmps311
   go_wp2
   go_loopw [13] (fun i wr=>∃ k:Nat,k≤a.length∧i=.int .i64 k∧Below w.heap.size w wr∧Hid (∀ i,i<k→a.getD i default=b.getD i default)) (fun i _=>a.length-(intOf i).toNat)
   case atStart=>exact ⟨0,by omega,rfl,Below.refl _ _,Zh (by omega)⟩
   case round=>
     obtain ⟨k,hk,rfl,hbel,q1⟩:=hrel
     have HL:=Zh hbel
     clear hbel
     by_cases hkl:k<a.length
     · obtain ⟨ad,rfl,x0,x1⟩:=Zaz (HA.out.old HL.out) hkl
       obtain ⟨bd,rfl,y0,y1⟩:=Zaz (HB.out.old HL.out) (i:=k) (by have:=HLn.out;omega)
       have hkb:(k:Int) < b.length:=by have:=HLn.out;omega
       generalize hx:a.getD k default=x at x0 x1
       generalize hy:b.getD k default=y at y0 y1
       have HX:=Zh hx
       have HY:=Zh hy
       clear hx hy
       have hne:=ZdW
       have hgu:=ZdX
       obtain ⟨xk,xc⟩:=x
       obtain ⟨yk,yc⟩:=y
       dsimp only at x0 x1 y0 y1
       go_wp2
       go_quiet (fail)
       go_wp2
       all_goals first
         | (go_ret
            have hh:¬ ((⟨xk,xc⟩:Ty)=⟨yk,yc⟩):=by simp only [Ty.mk.injEq];grind
            exact ZcT (ZcX (decide_eq_false (ZgW (k:=k) (by rw [HX.out,HY.out];exact hh))).symm) (ZcU HL.out _))
         | (go_roundw
            case rel=>
              refine ⟨k+1,by omega,by go_num,ZcU HL.out _,Zh fun i hi=>?_⟩
              by_cases hik:i<k
              · exact q1.out i hik
              · obtain rfl:i=k:=by omega
                rw [HX.out,HY.out,Ty.mk.injEq]
                grind
            case measure=>simp [intOf];omega)
     · go_wp2
       go_ret
       exact ZcT (ZcX (decide_eq_true (ZgX HLn.out fun i hi=>q1.out i (by omega))).symm) HL.out
 · have hb3:((a.length:Int) != b.length)=true:=by simp;omega
   go_enter Tryz.func311,Tryz.ntmps311
   go_wp2
   go_ret
   exact ZcT (ZcX (decide_eq_false fun e=>hlen (by rw [e])).symm) bE
end
section
open Go.RowKit
theorem ZgZ (m:Md) (h:Hd) (k:Nat) (w:World) (H:Zay w h m) (hk:k<m.cl.length) (hsm:m.cl.length≤10∧m.me.length≤16∧0≤m.sel∧m.sel≤16) (hd:Zc3 m k) (hl:∀ j,j<k→((m.cl.getD j default).m.length:Int)=m.sel):Calls Tryz.prog 239 #[.agg #[.slice h.co m.cl.length h.cc,.slice h.so m.st.length h.sc,.slice h.eo m.me.length h.ec,.int .i64 m.sel],.int .i64 k] w (Ret w (.bool (ZaK m k))):=by
 have hbel:=(Below.refl w.heap.size w).alloc (Nat.le_refl _) (.cells #[.slice h.co m.cl.length h.cc,.slice h.so m.st.length h.sc,.slice h.eo m.me.length h.ec,.int .i64 m.sel] 205)
 have hX:ZgQ _ w.heap.size h m:=Blk.new w #[.slice h.co m.cl.length h.cc,.slice h.so m.st.length h.sc,.slice h.eo m.me.length h.ec,.int .i64 m.sel] 205
 obtain ⟨ad,hco,c0,c1,c2,c3⟩:=(H.old hbel).cls hk
 generalize hx:m.cl.getD k default=x at c0 c1 c2 c3
 obtain ⟨nm,sup,fl,tl⟩:=x
 have hq:ZaK m k=(decide (-1≤sup)&&decide (sup<k)&&decide (fl.length≤7)&&ZaG m.cl.length fl&&decide ((tl.length:Int)=m.sel)&&(List.range tl.length).all (ZaJ m k)&&(decide (sup<0)||decide ((m.cl.getD sup.toNat default).f.length≤fl.length)&&decide ((m.cl.getD sup.toNat default).f=fl.take (m.cl.getD sup.toNat default).f.length))):=by simp only [ZaK,Md.sup,hx,Int.toNat_natCast]
 have hsup:m.sup k=sup:=by simp only [Md.sup,hx,Int.toNat_natCast]
 have hfl:=H.f k hk
 have hcap:=H.bf k hk
 have htl:=H.t k hk
 rw [hx] at hfl htl hcap
 dsimp only at c0 c1 c2 c3 hfl htl hcap
 have hbx:=hbel.alloc hbel.size (.cells #[.string nm,.int .i64 sup,.slice (h.c k).fo fl.length (h.c k).fc,.slice (h.c k).mo tl.length (h.c k).mc] 99)
 have hY:Blk _ (w.heap.size+1) _ _:=Blk.new' (w:=w.alloc (.cells #[.slice h.co m.cl.length h.cc,.slice h.so m.st.length h.sc,.slice h.eo m.me.length h.ec,.int .i64 m.sel] 205)) #[.string nm,.int .i64 sup,.slice (h.c k).fo fl.length (h.c k).fc,.slice (h.c k).mo tl.length (h.c k).mc] 99 (by simp)
 have hX2:=hX.alloc (.cells #[.string nm,.int .i64 sup,.slice (h.c k).fo fl.length (h.c k).fc,.slice (h.c k).mo tl.length (h.c k).mc] 99)
 have hare:=ZgT m h fl (h.c k).fo (h.c k).fc 7 _ (hfl.old hbx) (by omega)
 have HQ:=Zh hq
 have HX:=Zh hX2
 have HY:=Zh hY
 have HFL:=Zh hfl
 have HTL:=Zh htl
 have HC:=Zh hx
 have HS:=Zh hsup
 have HM:=Zh H
 have HD:=Zh hd
 have HL:=Zh hl
 have HA:=Zh hare
 have HBX:=Zh hbx
 clear hq hX hX2 hY hfl htl hx hsup H hd hl hare hbx
 obtain ⟨co,cc,so,sc,eo,ec,hc,he⟩:=h
 dsimp only at *
 subst hco
 generalize hch:hc k=ch at HX HY HFL HTL HA HBX c2 c3 hcap
 obtain ⟨fo,fc,mo,mc⟩:=ch
 dsimp only at HX HY HFL HTL HA HBX c2 c3 hcap
 clear hch
 have hk2:(k:Int) < m.cl.length:=by omega
 by_cases hs:-1≤sup∧sup<k
 ·have hs1:¬ sup < -1:=by omega
  have hs2:¬ sup ≥ k:=by omega
  go_enter Tryz.func239,Tryz.ntmps239
  go_wp2_with fail
  refine HA.out.mono ?_
  rintro e1 w1 ⟨rfl,hb1⟩
  clear c0 c1 c2 c3 hbel HA
  have hY1:=HY.out.old hb1
  have x1:w1.cell? ⟨w.heap.size+1,1,none⟩=some (.int .i64 sup):=hY1.cell 1 rfl
  have x3:w1.cell? ⟨w.heap.size+1,3,none⟩=some (.slice mo tl.length mc):=hY1.cell 3 rfl
  have xl:=hY1.lt
  have hX1:=HX.out.old hb1
  have r3:w1.cell? ⟨w.heap.size,3,none⟩=some (.int .i64 m.sel):=hX1.cell 3 rfl
  have rl:=hX1.lt
  have HW1:=Zh (Zaf HBX.out hb1)
  have HX1:=Zh hX1
  have HY1:=Zh hY1
  clear hX1 hY1 HX HY HBX hb1
  rcases h7:decide ((fl.length:Int)≤7)&&ZaG m.cl.length fl with _|_
  ·have H7:=Zh h7
   clear h7
   go_wp2
   go_ret
   refine ZcT (ZcX ?_) HW1.out
   have h8:=H7.out
   rw [HQ.out]
   grind
  have H7:=Zh h7
  clear h7
  by_cases hts':¬ (tl.length:Int)=m.sel
  ·have hts:=hts'
   have hts2:((tl.length:Int) != m.sel)=true:=by simpa using hts
   go_wp2
   go_ret
   refine ZcT (ZcX ?_) HW1.out
   rw [HQ.out,decide_eq_false hts]
   simp
  have hts:(tl.length:Int)=m.sel:=by omega
  clear hts'
  have hts2:((tl.length:Int) != m.sel)=false:=by simpa using hts
  have HT:=Zh hts
  have htl:tl.length≤16:=by omega
  clear hts
  go_wp2
  go_loopw [43] (fun i wr=>∃ s:Nat,s≤tl.length∧i=.int .i64 s∧Below w1.heap.size w1 wr∧Hid (∀ i,i<s→ZaJ m k i=true)) (fun i _=>tl.length-(intOf i).toNat)
  case atStart=>exact ⟨0,by omega,rfl,Below.refl _ _,Zh (by omega)⟩
  case round=>
   obtain ⟨s,hs,rfl,hbl,q1⟩:=hrel
   clear x1 x3 xl r3 rl
   have hY2:=HY1.out.old hbl
   have hX2:ZgQ wr w.heap.size ⟨some ad,cc,so,sc,eo,ec,hc,he⟩ m:=HX1.out.old hbl
   have x1:wr.cell? ⟨w.heap.size+1,1,none⟩=some (.int .i64 sup):=hY2.cell 1 rfl
   have x2:wr.cell? ⟨w.heap.size+1,2,none⟩=some (.slice fo fl.length fc):=hY2.cell 2 rfl
   have xl:=hY2.lt
   obtain ⟨r0,r1,r2,r3⟩:=ZgR hX2
   have rl:=hX2.lt
   dsimp only at r0 r1 r2 r3
   have hbw:=Zaf HW1.out hbl
   have HB2:=Zh hbw
   have HBL:=Zh hbl
   have HX2:=Zh hX2
   have HY2:=Zh hY2
   clear hX2 hY2 hbl hbw
   by_cases hst:s<tl.length
   ·obtain ⟨ad3,rfl,t0⟩:=ZaB (HTL.out.old HB2.out) hst
    generalize hn:tl.getD s 0=n at t0
    have hsel:ZaJ m k s=(decide (-1≤n)&&decide (n<m.me.length)&&(decide (n<0)||ZaI m k s n)&&!(decide (0≤sup)&&decide (n<0)&&decide (0≤m.ent sup s))):=by simp only [ZaJ,Md.ent,Int.toNat_natCast,HC.out,hn,HS.out];rfl
    have HSel:=Zh hsel
    clear hn hsel
    have hst2:(s:Int) < tl.length:=by omega
    have hwr:IntKind.i64.wrap ((s:Int)+1)=s+1:=IntWalk.i64_in _ (by omega)
    have hfalse:∀ w':World,ZaJ m k s=false→Below w.heap.size w w'→Ret w (.bool (ZaK m k)) (.returned (.bool false)) w':=fun w' hf hb=>ZcT (ZcX (by rw [HQ.out,ZaC hst hf];simp)) hb
    have HF:=Zh hfalse
    clear hfalse
    by_cases hn1:n < -1
    ·go_wp2
     go_ret
     exact HF.out _ (by rw [HSel.out,decide_eq_false (show ¬ -1≤n by omega)];rfl) HB2.out
    by_cases hn2:(m.me.length:Int)≤n
    ·have hn3:n ≥ m.me.length:=hn2
     go_wp2
     go_ret
     exact HF.out _ (by rw [HSel.out,decide_eq_false (show ¬ n<m.me.length by omega)];simp) HB2.out
    have hn4:¬ n ≥ m.me.length:=hn2
    by_cases hn5:0≤n
    ·obtain ⟨nn,rfl⟩:∃ nn:Nat,n=nn:=⟨n.toNat,by omega⟩
     have hent:=ZgV m ⟨some ad,cc,so,sc,eo,ec,hc,he⟩ k s nn wr (HM.out.old HB2.out) hk (by omega) (fun i h0 h1=>by
      by_cases hik:i<k
      ·exact HD.out i h0 hik
      ·obtain rfl:i=k:=by omega
       rw [HS.out];omega) (by have:=HT.out;omega) (fun j hj=>by
      by_cases hjk:j<k
      ·exact HL.out j hjk
      ·obtain rfl:j=k:=by omega
       rw [HC.out];exact HT.out)
     dsimp only at hent
     generalize ZaI m k s nn=q at hent HSel
     have HE:=Zh hent
     have hn6:¬ (nn:Int) < -1:=by omega
     clear hent
     go_wp2_with fail
     refine HE.out.mono ?_
     rintro e1 w2 ⟨rfl,hb2⟩
     have hX3:ZgQ w2 w.heap.size ⟨some ad,cc,so,sc,eo,ec,hc,he⟩ m:=HX2.out.old hb2
     have y1:w2.cell? ⟨w.heap.size+1,1,none⟩=some (.int .i64 sup):=(HY2.out.old hb2).cell 1 rfl
     have HB3:=Zh (Zaf HB2.out hb2)
     have HB4:=Zh (Zaf HBL.out hb2)
     clear x1 x2 xl r0 r1 r2 r3 rl hX3 hb2
     rcases q with _|_
     ·go_wp2
      go_ret
      exact HF.out _ (by rw [HSel.out];simp;omega) HB3.out
     ·have hn7:¬ (nn:Int) < 0:=by omega
      have hsok:ZaJ m k s=true:=by rw [HSel.out];simp;omega
      have hrel2:∀ i,i<s+1→ZaJ m k i=true:=fun i hi=>by
       by_cases his:i<s
       ·exact q1.out i his
       ·obtain rfl:i=s:=by omega
        exact hsok
      have HR:=Zh hrel2
      clear hrel2 hsok
      by_cases hsn:0≤sup
      all_goals
       go_wp2
       go_roundw
       case rel=>exact ⟨s+1,by omega,by go_num,HB4.out,Zh HR.out⟩
       case measure=>simp [intOf];omega
    ·obtain rfl:n=-1:=by omega
     by_cases hsn:0≤sup
     ·obtain ⟨u,rfl⟩:∃ u:Nat,sup=u:=⟨sup.toNat,by omega⟩
      have hu:u<m.cl.length:=by omega
      have hu2:(u:Int) < m.cl.length:=by omega
      obtain ⟨ad2,hco,-,-,-,k3⟩:=(HM.out.old HB2.out).cls hu
      have hul:=HL.out u (by omega)
      obtain ⟨ad4,hmo,t1⟩:=ZaB ((HM.out.old HB2.out).t u hu) (i:=s) (by have:=HT.out;omega)
      have hsu:(s:Int) < (m.cl.getD u default).m.length:=by have:=HT.out;omega
      dsimp only at hmo k3 hco
      obtain rfl:=Option.some.inj hco
      have hent:m.ent u s=(m.cl.getD u default).m.getD s 0:=rfl
      generalize (m.cl.getD u default).m.getD s 0=e at t1 hent
      generalize (m.cl.getD u default).m.length=ul at k3 hsu
      rw [hmo] at k3
      have HEn:=Zh hent
      clear hmo hco hul hent
      by_cases he0:0≤e
      ·have he1:e ≥ 0:=he0
       go_wp2
       go_ret
       exact HF.out _ (by rw [HSel.out,HEn.out];simp [he0]) HB2.out
      ·have he1:¬ e ≥ 0:=he0
       have hsok:ZaJ m k s=true:=by rw [HSel.out,HEn.out];simp;omega
       exact k47
     ·have hsok:ZaJ m k s=true:=by rw [HSel.out];simp;omega
      exact k47
   ·have hss:s=tl.length:=by omega
    subst hss
    have hall:(List.range tl.length).all (ZaJ m k)=true:=ZaD q1.out
    have HAll:=Zh hall
    clear hall
    by_cases hsn:sup<0
    ·go_wp2
     go_ret
     refine ZcT (ZcX ?_) HB2.out
     have h8:=H7.out
     have h9:=HT.out
     rw [HQ.out,HAll.out,decide_eq_true hsn,decide_eq_true h9]
     grind
    ·obtain ⟨u,rfl⟩:∃ u:Nat,sup=u:=⟨sup.toNat,by omega⟩
     have hu:u<m.cl.length:=by omega
     have hu2:(u:Int) < m.cl.length:=by omega
     obtain ⟨ad2,hco,-,-,k2,-⟩:=(HM.out.old HB2.out).cls hu
     have hfu:=HM.out.f u hu
     have huf:(m.cl.getD u default).f.length=(m.cl.getD u default).f.length:=rfl
     generalize hgf:(m.cl.getD u default).f=uf at k2 hfu
     have HGF:=Zh hgf
     obtain rfl:=Option.some.inj hco
     dsimp only at k2 hfu
     have HFU:=Zh hfu
     clear huf hgf hfu hco
     have hsel2:ZaK m k=(decide (uf.length≤fl.length)&&decide (uf=fl.take uf.length)):=by
      have h8:=H7.out
      have h9:=HT.out
      rw [HQ.out,HAll.out,decide_eq_true h9,decide_eq_true hs1,decide_eq_true hs2,Int.toNat_natCast,HGF.out]
      grind
     have HSel:=Zh hsel2
     clear hsel2
     by_cases hle:uf.length≤fl.length
     ·have hle2:(uf.length:Int)≤fl.length:=by omega
      have hle3:uf.length≤fc:=by omega
      have hle4:(uf.length:Int)≤fc:=by omega
      have hlt:(fl.take uf.length).length=uf.length:=by simp;omega
      have heq:=ZgY uf (fl.take uf.length) (hc u).fo fo (hc u).fc fc wr (HFU.out.old HB2.out) ((HFL.out.old HB2.out).take _ hle _ (fun h0=>((HFL.out.2.1 h0).2))) (by have h8:=H7.out;simp only [Bool.and_eq_true,decide_eq_true_eq] at h8;omega)
      rw [hlt] at heq
      have HEq:=Zh heq
      clear heq hlt
      go_wp2_with fail
      refine HEq.out.mono ?_
      rintro e1 w2 ⟨rfl,hb2⟩
      go_wp2
      go_ret
      exact ZcT (ZcX (by rw [HSel.out,decide_eq_true hle];rfl)) (Zaf HB2.out hb2)
     ·have hle2:¬ (uf.length:Int)≤fl.length:=by omega
      go_wp2
      go_ret
      exact ZcT (ZcX (by rw [HSel.out,decide_eq_false hle];rfl)) HB2.out
 ·by_cases hs1:sup < -1
  ·go_enter Tryz.func239,Tryz.ntmps239
   go_wp2
   go_ret
   exact ZcT (ZcX (by rw [HQ.out,decide_eq_false (show ¬ -1≤sup by omega)];rfl)) HBX.out
  ·have hs2:(k:Int)≤sup:=by omega
   go_enter Tryz.func239,Tryz.ntmps239
   go_wp2
   go_ret
   exact ZcT (ZcX (by rw [HQ.out,decide_eq_false (show ¬ sup<k by omega)];simp)) HBX.out
end
section
open Go.RowKit
theorem Zg0 (t:Int) (B:Nat) (k:Int) (w:World) (hB:w.cell? ⟨B,0,none⟩=some (.int .i64 k)):Calls Tryz.prog 359 #[.int .i64 t,.pointer (some ⟨B,0,none⟩)] w (Ret w (.bool (decide (k≤t)))):=by
 have hl:=Zac hB
 go_enter Tryz.func359,Tryz.ntmps359
 go_wp2
 go_ret
 exact ZcT (ZcX (by grind)) bE
theorem Zg1 (m:Md) (h:Hd) (k:Nat) (i:In3) (w:World) (H:Zay w h m) (hk:k<m.me.length) (hn:m.cl.length≤10) (hl:∀ j,j<m.cl.length→((m.cl.getD j default).m.length:Int)=m.sel) (ha:(i.op=25∨i.op=26→0≤i.a)) :
  Calls Tryz.prog 313 #[.agg #[.slice h.co m.cl.length h.cc,.slice h.so m.st.length h.sc,.slice h.eo m.me.length h.ec,.int .i64 m.sel],.int .i64 k,.agg #[.int .i64 i.op,.int .i64 i.a,.int .i64 i.b]] w (Ret w (.bool (ZaW m k i))):=by
 obtain ⟨op,a,b⟩:=i
 dsimp only at ha ⊢
 have HM:=Zh H
 have HL:=Zh hl
 clear H hl
 by_cases h26:op=26
 ·subst h26
  have ha:=ha (.inr rfl)
  have hq:ZaW m k ⟨26,a,b⟩=(decide (a<m.sel)&&(ZaN m a).all fun t=>decide (t<k)):=rfl
  rw [hq]
  by_cases hs:a<m.sel
  ·have hK:Blk (((w.alloc (.cells #[.slice h.co m.cl.length h.cc,.slice h.so m.st.length h.sc,.slice h.eo m.me.length h.ec,.int .i64 m.sel] 205)).alloc (.cells #[.int .i64 k] 3)).alloc (.cells #[.int .i64 26,.int .i64 a,.int .i64 b] 78)) (w.heap.size+1) #[.int .i64 k] 3:=(Blk.new' (w:=w.alloc (.cells #[.slice h.co m.cl.length h.cc,.slice h.so m.st.length h.sc,.slice h.eo m.me.length h.ec,.int .i64 m.sel] 205)) #[.int .i64 k] 3 (by simp)).alloc _
   have HK:=Zh hK
   clear hK
   have htg:=fun w1 (hb:Below w.heap.size w w1)=>ZdS m h a w1 (HM.out.old hb) ⟨ha,hs⟩ hn HL.out
   have HT:=Zh htg
   clear htg hq
   go_enter Tryz.func313,Tryz.ntmps313
   go_wp2_with fail
   refine (HT.out _ bE).mono ?_
   rintro e1 w1 ⟨⟨ao,cap,rfl,hr⟩,hb1⟩
   have hbw:=Zaf (show Below w.heap.size w _ by exact bE) hb1
   have hcon:=Zdr (ZaN m a) ao cap 359 #[.pointer (some ⟨w.heap.size+1,0,none⟩)] (fun t=>!decide (t<(k:Int))) w1 (by have:=ZdG m a;omega) hr (fun A W=>by kernel_rfl) (fun j hj w' hb=>by
    have h1:=Zg0 ((ZaN m a).getD j 0) (w.heap.size+1) k w' (((HK.out.old hb1).old hb).cell 0 rfl)
    rw [show decide ((k:Int)≤(ZaN m a).getD j 0)=!decide ((ZaN m a).getD j 0<(k:Int)) by grind] at h1
    exact h1)
   rw [ZgM] at hcon
   have HC:=Zh hcon
   clear hcon hr HT HK
   go_wp2_with fail
   refine HC.out.mono ?_
   rintro e2 w2 ⟨rfl,hb2⟩
   go_wp2
   go_ret
   exact ZcT (ZcX (by rw [decide_eq_true hs];simp)) (Zaf hbw hb2)
  ·go_enter Tryz.func313,Tryz.ntmps313
   exact k99
 ·by_cases h25:op=25
  ·subst h25
   have ha:=ha (.inl rfl)
   have hq:ZaW m k ⟨25,a,b⟩=(decide (a<k)&&decide (m.own a<0)):=rfl
   rw [hq]
   clear hq
   by_cases hs:a<k
   ·obtain ⟨c,rfl⟩:∃ c:Nat,a=c:=⟨a.toNat,by omega⟩
    obtain ⟨ad,heo,-,m1,-,-,-,-,-⟩:=HM.out.mth (i:=c) (by omega)
    have hown:m.own c=(m.me.getD c default).c:=rfl
    generalize (m.me.getD c default).c=own at m1 hown
    have m1':∀ o1 o2 o3,(((w.alloc o1).alloc o2).alloc o3).cell? ⟨(ad.add (c*7)).block,(ad.add (c*7)).off+1,none⟩=some (.int .i64 own):=fun o1 o2 o3=>by rw [(show Below w.heap.size w (((w.alloc o1).alloc o2).alloc o3) by exact bE).cell (Zac m1)];exact m1
    have HO:=Zh hown
    clear hown
    obtain ⟨co,cc,so,sc,eo,ec,hc,he⟩:=h
    dsimp only at *
    subst heo
    have hcm:(c:Int) < m.me.length:=by omega
    go_enter Tryz.func313,Tryz.ntmps313
    go_wp2
    go_ret
    exact ZcT (ZcX (by rw [HO.out])) bE
   ·go_enter Tryz.func313,Tryz.ntmps313
    exact ZgL
  ·have n26:(op == 26)=false:=by simp [h26]
   have n25:(op == 25)=false:=by simp [h25]
   go_enter Tryz.func313,Tryz.ntmps313
   go_wp2_with (go_at_call 358;refine (ZgO _ _ _ _).mono ?_;rintro e w1 ⟨rfl,hb1⟩)
   all_goals
    go_ret
    exact ZcT (ZcX (by grind [ZaW])) bE
end
section
open Go.RowKit
theorem Zg2 (m:Md) (h:Hd) (k:Nat) (i:In3) (B K:Nat) (w:World) (hB:ZgQ w B h m) (hK:w.cell? ⟨K,0,none⟩=some (.int .i64 k)) (H:Zay w h m) (hk:k<m.me.length) (hn:m.cl.length≤10) (hl:∀ j,j<m.cl.length→((m.cl.getD j default).m.length:Int)=m.sel) (ha:(i.op=25∨i.op=26→0≤i.a)) :
  Calls Tryz.prog 312 #[.agg #[.int .i64 i.op,.int .i64 i.a,.int .i64 i.b],.pointer (some ⟨B,0,none⟩),.pointer (some ⟨K,0,none⟩)] w (Ret w (.bool (!ZaW m k i))):=by
 obtain ⟨r0,r1,r2,r3⟩:=ZgR hB
 have rl:=hB.lt
 have kl:=Zac hK
 have hop:=Zg1 m h k i _ (H.old ((Below.refl w.heap.size w).alloc (Nat.le_refl _) (.cells #[.int .i64 i.op,.int .i64 i.a,.int .i64 i.b] 78))) hk hn hl ha
 have HO:=Zh hop
 clear hop hB H hl ha
 go_enter Tryz.func312,Tryz.ntmps312
 go_wp2_with fail
 refine HO.out.mono ?_
 rintro e w1 ⟨rfl,hb1⟩
 go_wp2
 go_ret
 exact ZcT rfl bE
theorem Zg3 {i:In3} (h:ZaQ false i=true):i.op=25∨i.op=26→0≤i.a:=by
 intro ho
 obtain ⟨op,a,b⟩:=i
 simp only [ZaQ,Bool.and_eq_true] at h
 have h1:=h.1.1.2
 dsimp only at ho h1 ⊢
 rcases ho with rfl|rfl
 ·simp [opA,inR,inI] at h1;exact h1.1
 ·simp [opA,inR,inI] at h1;exact h1.1
theorem Zg4 {p:Bool}{l:List In3} (h:ZaV p l=0):l.length≤120∧(∀ i,i<l.length→ZaQ p (l.getD i default)=true)∧ZaU l=true:=by
 unfold ZaV at h
 split at h
 ·cases h
 ·split at h
  ·rename_i h1 h2
   split at h
   ·rename_i h3
    refine ⟨by omega,fun i hi=>?_,h3⟩
    rw [List.all_eq_true] at h2
    exact h2 _ (by rw [List.getD_eq_getElem?_getD,List.getElem?_eq_getElem hi];exact List.getElem_mem hi)
   ·cases h
  ·cases h
theorem Zg5 (m:Md) (h:Hd) (k:Nat) (w:World) (H:Zay w h m) (hk:k<m.me.length) (hn:m.cl.length≤10) (hl:∀ j,j<m.cl.length→((m.cl.getD j default).m.length:Int)=m.sel) :
  Calls Tryz.prog 240 #[.agg #[.slice h.co m.cl.length h.cc,.slice h.so m.st.length h.sc,.slice h.eo m.me.length h.ec,.int .i64 m.sel],.int .i64 k] w (Ret w (.bool (ZaX m k))):=by
 have hX0:ZgQ _ w.heap.size h m:=Blk.new w #[.slice h.co m.cl.length h.cc,.slice h.so m.st.length h.sc,.slice h.eo m.me.length h.ec,.int .i64 m.sel] 205
 have hK0:Blk _ (w.heap.size+1) #[.int .i64 k] 3:=Blk.new' (w:=w.alloc (.cells #[.slice h.co m.cl.length h.cc,.slice h.so m.st.length h.sc,.slice h.eo m.me.length h.ec,.int .i64 m.sel] 205)) #[.int .i64 k] 3 (by simp)
 have hb0:Below w.heap.size w ((w.alloc (.cells #[.slice h.co m.cl.length h.cc,.slice h.so m.st.length h.sc,.slice h.eo m.me.length h.ec,.int .i64 m.sel] 205)).alloc (.cells #[.int .i64 k] 3)):=by exact bE
 obtain ⟨ad,heo,c0,c1,c2,c3,c4,c5,c6⟩:=(H.old hb0).mth hk
 have hmb:=H.bm k hk
 have hpp:=H.p k hk
 have hpl:=H.l k hk
 have hpk:=H.k k hk
 generalize hx:m.me.getD k default=x at c0 c1 c2 c3 c4 c5 c6 hmb hpp hpl hpk
 obtain ⟨nm,c,pl,ll,⟨rk,rc⟩,kl⟩:=x
 generalize hey:h.e k=y at c0 c1 c2 c3 c4 c5 c6 hmb hpp hpl hpk
 obtain ⟨po,pc,lo,lc,ko,kc⟩:=y
 dsimp only at c0 c1 c2 c3 c4 c5 c6 hmb hpp hpl hpk
 have hq:ZaX m k=(decide (-1≤c)&&decide (c<m.cl.length)&&decide (pl.length≤4)&&ZaG m.cl.length pl&&decide ((ll.length:Int)≤10-pl.length-(if 0≤c then 1 else 0))&&ZaG m.cl.length ll&&ZaF m.cl.length ⟨rk,rc⟩ 0&&decide (ZaV false kl=0)&&kl.all (ZaW m k)):=by simp only [ZaX,hx]
 have hY0:Blk _ (w.heap.size+1+1) #[.string nm,.int .i64 c,.slice po pl.length pc,.slice lo ll.length lc,.int .i64 rk,.int .i64 rc,.slice ko kl.length kc] 81:=Blk.new' (w:=(w.alloc (.cells #[.slice h.co m.cl.length h.cc,.slice h.so m.st.length h.sc,.slice h.eo m.me.length h.ec,.int .i64 m.sel] 205)).alloc (.cells #[.int .i64 k] 3)) #[.string nm,.int .i64 c,.slice po pl.length pc,.slice lo ll.length lc,.int .i64 rk,.int .i64 rc,.slice ko kl.length kc] 81 (by simp)
 have hX:=(hX0.old (show Below _ _ (((w.alloc (.cells #[.slice h.co m.cl.length h.cc,.slice h.so m.st.length h.sc,.slice h.eo m.me.length h.ec,.int .i64 m.sel] 205)).alloc (.cells #[.int .i64 k] 3)).alloc (.cells #[.string nm,.int .i64 c,.slice po pl.length pc,.slice lo ll.length lc,.int .i64 rk,.int .i64 rc,.slice ko kl.length kc] 81)) by exact bE))
 have hK:=hK0.alloc (.cells #[.string nm,.int .i64 c,.slice po pl.length pc,.slice lo ll.length lc,.int .i64 rk,.int .i64 rc,.slice ko kl.length kc] 81)
 have hb3:Below w.heap.size w (((w.alloc (.cells #[.slice h.co m.cl.length h.cc,.slice h.so m.st.length h.sc,.slice h.eo m.me.length h.ec,.int .i64 m.sel] 205)).alloc (.cells #[.int .i64 k] 3)).alloc (.cells #[.string nm,.int .i64 c,.slice po pl.length pc,.slice lo ll.length lc,.int .i64 rk,.int .i64 rc,.slice ko kl.length kc] 81)):=by exact bE
 have HQ:=Zh hq
 have hA1:=ZgT m h pl po pc 4 _ (hpp.old hb3) (by omega)
 have HA1:=Zh hA1
 have HX:=Zh hX
 have HY:=Zh hY0
 have HK:=Zh hK
 have HM:=Zh H
 have HL:=Zh hl
 have HPL:=Zh hpl
 have HPK:=Zh hpk
 have HB3:=Zh hb3
 clear hA1 hX hY0 hK H hl hpl hpk hpp hb3 hq hx hey hX0 hK0
 obtain ⟨co,cc,so,sc,eo,ec,hc,he⟩:=h
 dsimp only at *
 subst heo
 have hk2:(k:Int) < m.me.length:=by omega
 by_cases h1:-1≤c∧c<m.cl.length
 ·obtain ⟨h1,h2⟩:=h1
  have h3:c ≥ -1:=h1
  by_cases hc0:0≤c
  all_goals
   go_enter Tryz.func240,Tryz.ntmps240
   go_wp2_with fail
   refine HA1.out.mono ?_
   rintro e1 w1 ⟨rfl,hb1⟩
   clear c0 c1 c2 c3 c4 c5 c6
   have hB1:=Zaf HB3.out hb1
   obtain ⟨r0,r1,r2,r3⟩:=ZgR (show ZgQ w1 w.heap.size ⟨co,cc,so,sc,some ad,ec,hc,he⟩ m from HX.out.old hb1)
   dsimp only at r0 r1 r2 r3
   have rl:=(HX.out.old hb1).lt
   have x3:w1.cell? ⟨w.heap.size+1+1,3,none⟩=some (.slice lo ll.length lc):=(HY.out.old hb1).cell 3 rfl
   have HB1:=Zh hB1
   have Hb1:=Zh hb1
   clear hb1 hB1
   rcases hq1:decide ((pl.length:Int)≤4)&&ZaG m.cl.length pl with _|_
   ·have HQ1:=Zh hq1
    clear hq1
    go_wp2
    go_ret
    exact ZcT (ZcX (by have:=HQ1.out;rw [HQ.out];grind)) HB1.out
   have HQ1:=Zh hq1
   have hp4:pl.length≤4:=by simp at hq1;omega
   clear hq1
   go_wp2_with fail
   refine (ZgT m ⟨co,cc,so,sc,some ad,ec,hc,he⟩ ll lo lc _ _ (HPL.out.old HB1.out) (by omega)).mono ?_
   rintro e2 w2 ⟨rfl,hb2⟩
   obtain ⟨r0,r1,r2,r3⟩:=ZgR (show ZgQ w2 w.heap.size ⟨co,cc,so,sc,some ad,ec,hc,he⟩ m from (HX.out.old Hb1.out).old hb2)
   dsimp only at r0 r1 r2 r3
   have rl:=((HX.out.old Hb1.out).old hb2).lt
   have x4:w2.cell? ⟨w.heap.size+1+1,4,none⟩=some (.int .i64 rk):=((HY.out.old Hb1.out).old hb2).cell 4 rfl
   have x5:w2.cell? ⟨w.heap.size+1+1,5,none⟩=some (.int .i64 rc):=((HY.out.old Hb1.out).old hb2).cell 5 rfl
   have HB2:=Zh (Zaf HB1.out hb2)
   have Hb2:=Zh (Zaf Hb1.out hb2)
   clear hb2 x3
   generalize hq2:(decide ((ll.length:Int)≤_)&&ZaG m.cl.length ll)=q2
   rcases q2 with _|_
   ·have HQ2:=Zh hq2
    clear hq2
    go_wp2
    go_ret
    exact ZcT (ZcX (by have:=HQ2.out;rw [HQ.out];grind)) HB2.out
   have HQ2:=Zh hq2
   clear hq2
   go_wp2_with fail
   refine (ZgP m ⟨co,cc,so,sc,some ad,ec,hc,he⟩ ⟨rk,rc⟩ 0 _).mono ?_
   rintro e3 w3 ⟨rfl,hb3⟩
   have x6:w3.cell? ⟨w.heap.size+1+1,6,none⟩=some (.slice ko kl.length kc):=((HY.out.old Hb2.out).old hb3).cell 6 rfl
   have HB3':=Zh (Zaf HB2.out hb3)
   have Hb3:=Zh (Zaf Hb2.out hb3)
   clear hb3 x4 x5 r0 r1 r2 r3 rl
   generalize hq3:ZaF m.cl.length ⟨rk,rc⟩ 0=q3
   rcases q3 with _|_
   ·have HQ3:=Zh hq3
    clear hq3
    go_wp2
    go_ret
    exact ZcT (ZcX (by rw [HQ.out,HQ3.out];simp)) HB3'.out
   have HQ3:=Zh hq3
   clear hq3
   go_wp2_with fail
   refine (ZgN kl ko kc false _ (HPK.out.old HB3'.out)).mono ?_
   rintro e4 w4 ⟨rfl,hb4⟩
   have x6:w4.cell? ⟨w.heap.size+1+1,6,none⟩=some (.slice ko kl.length kc):=((HY.out.old Hb3.out).old hb4).cell 6 rfl
   have HB4:=Zh (Zaf HB3'.out hb4)
   have Hb4:=Zh (Zaf Hb3.out hb4)
   clear hb4
   by_cases hc4:ZaV false kl=0
   ·obtain ⟨hk120,hins,-⟩:=Zg4 hc4
    have hcon:=Zdn kl ko kc 312 #[.pointer (some ⟨w.heap.size,0,none⟩),.pointer (some ⟨w.heap.size+1,0,none⟩)] (fun i=>!ZaW m k i) w4 (by omega) (HPK.out.old HB4.out) (fun A W=>by kernel_rfl)
     (fun j hj w' hb=>Zg2 m ⟨co,cc,so,sc,some ad,ec,hc,he⟩ k (kl.getD j default) w.heap.size (w.heap.size+1) w' (ZgQ.old (h:=⟨co,cc,so,sc,some ad,ec,hc,he⟩) (HX.out.old Hb4.out) hb) (((HK.out.old Hb4.out).old hb).cell 0 rfl) (HM.out.old (Zaf HB4.out hb)) hk hn HL.out (Zg3 (hins j hj)))
    rw [ZgM] at hcon
    have HC:=Zh hcon
    have hc40:(ZaV false kl == 0)=true:=by simp [hc4]
    have HE4:=Zh hc4
    clear hcon hins hc4
    go_wp2_with fail
    refine HC.out.mono ?_
    rintro e5 w5 ⟨rfl,hb5⟩
    go_wp2
    go_ret
    refine ZcT (ZcX ?_) (Zaf HB4.out hb5)
    have h1:=HQ1.out
    have h2:=HQ2.out
    have h3:=HQ3.out
    have h4:=HE4.out
    rw [HQ.out]
    grind
   ·have hc40:(ZaV false kl == 0)=false:=by simp [hc4]
    have HE4:=Zh hc4
    clear hc4
    go_wp2
    go_ret
    exact ZcT (ZcX (by rw [HQ.out,decide_eq_false HE4.out];simp)) HB4.out
 ·by_cases h2:-1≤c
  ·have h3:¬ c<m.cl.length:=by omega
   have h4:c ≥ -1:=h2
   have h5:c ≥ 0:=by omega
   go_enter Tryz.func240,Tryz.ntmps240
   go_wp2_with fail
   go_ret
   exact ZcT (ZcX (by rw [HQ.out,decide_eq_false (show ¬ c<m.cl.length by omega)];simp)) HB3.out
  ·have h3:¬ c ≥ -1:=by omega
   have h5:¬ c ≥ 0:=by omega
   go_enter Tryz.func240,Tryz.ntmps240
   go_wp2_with fail
   go_ret
   exact ZcT (ZcX (by rw [HQ.out,decide_eq_false (show ¬ -1≤c by omega)];rfl)) HB3.out
end
section
open Go.RowKit
attribute [local go_sem] World.cell?_alloc_some
theorem Zg6 {w w':World}{a:Addr}{v:Value} (hb:Below w.heap.size w w') (h:w.cell? a=some v):w'.cell? a=some v:=by rw [hb.cell (Zac h)];exact h
theorem Zg7 (m:Md) (h:Hd) (B L:Nat) (l:List Int) (ao:Option Addr) (cap t u:Nat) (w:World) (hB:ZgQ w B h m) (hL:w.cell? ⟨L,0,none⟩=some (.slice ao l.length cap)) (hr:Zar w ao cap l) (H:Zay w h m) (ht:t<m.me.length) (hu:u<m.me.length) (hl:0<l.length) (h0:l.getD 0 0=u) (hpl:(m.me.getD t default).p.length≤1000000) :
  Calls Tryz.prog 314 #[.int .i64 t,.pointer (some ⟨B,0,none⟩),.pointer (some ⟨L,0,none⟩)] w (Ret w (.bool (!(decide ((m.me.getD t default).r=(m.me.getD u default).r)&&decide ((m.me.getD t default).p=(m.me.getD u default).p))))):=by
 obtain ⟨r0,r1,r2,r3⟩:=ZgR hB
 have rl:=hB.lt
 have ll:=Zac hL
 obtain ⟨ad,rfl,e0⟩:=ZaB hr (i:=0) hl
 rw [h0,show ad.add 0=ad from by unfold Addr.add;simp] at e0
 obtain ⟨am,heo,c0,c1,c2,c3,c4,c5,c6⟩:=H.mth ht
 obtain ⟨am',heo',d0,d1,d2,d3,d4,d5,d6⟩:=H.mth hu
 have hpt:=H.p t ht
 have hpu:=H.p u hu
 generalize hxt:m.me.getD t default=x at *
 generalize hxu:m.me.getD u default=y at *
 obtain ⟨nx,cx,px,lx,⟨kx,rx⟩,kx'⟩:=x
 obtain ⟨ny,cy,py,ly,⟨ky,ry⟩,ky'⟩:=y
 generalize h.e t=et at *
 generalize h.e u=eu at *
 obtain ⟨po,pc,lo,lc,ko,kc⟩:=et
 obtain ⟨po',pc',lo',lc',ko',kc'⟩:=eu
 have HPT:=Zh hpt
 have HPU:=Zh hpu
 clear hpt hpu hxt hxu H hB hr
 obtain ⟨co,cc,so,sc,eo,ec,hc,he⟩:=h
 dsimp only at *
 subst heo
 obtain rfl:=Option.some.inj heo'
 clear heo' h0
 have hti:(t:Int) < m.me.length:=by omega
 have hui:(u:Int) < m.me.length:=by omega
 clear r0 r1 r3
 go_enter Tryz.func314,Tryz.ntmps314
 go_upto_region 1 with fail
 go_cut [5,6] from 7 to 20 (fun x y wc=>∃ (X Y:Nat),x=.pointer (some ⟨X,0,none⟩)∧y=.pointer (some ⟨Y,0,none⟩)∧Blk wc X #[.string nx,.int .i64 cx,.slice po px.length pc,.slice lo lx.length lc,.int .i64 kx,.int .i64 rx,.slice ko kx'.length kc] 81∧Blk wc Y #[.string ny,.int .i64 cy,.slice po' py.length pc',.slice lo' ly.length lc',.int .i64 ky,.int .i64 ry,.slice ko' ky'.length kc'] 81∧Below w.heap.size w wc)
 case first=>
  have hS:∀ w',Below w.heap.size w w'→(fun w':World=>w'.cell? ⟨B,2,none⟩=some (.slice (some am) m.me.length ec)∧w'.cell? ⟨L,0,none⟩=some (.slice (some ad) l.length cap)∧w'.cell? ad=some (.int .i64 u)∧w'.cell? (am.add (t*7))=some (.string nx)∧w'.cell? ⟨(am.add (t*7)).block,(am.add (t*7)).off+1,none⟩=some (.int .i64 cx)∧w'.cell? ⟨(am.add (t*7)).block,(am.add (t*7)).off+2,none⟩=some (.slice po px.length pc)∧w'.cell? ⟨(am.add (t*7)).block,(am.add (t*7)).off+3,none⟩=some (.slice lo lx.length lc)∧w'.cell? ⟨(am.add (t*7)).block,(am.add (t*7)).off+4,none⟩=some (.int .i64 kx)∧w'.cell? ⟨(am.add (t*7)).block,(am.add (t*7)).off+5,none⟩=some (.int .i64 rx)∧w'.cell? ⟨(am.add (t*7)).block,(am.add (t*7)).off+6,none⟩=some (.slice ko kx'.length kc)∧w'.cell? (am.add (u*7))=some (.string ny)∧w'.cell? ⟨(am.add (u*7)).block,(am.add (u*7)).off+1,none⟩=some (.int .i64 cy)∧w'.cell? ⟨(am.add (u*7)).block,(am.add (u*7)).off+2,none⟩=some (.slice po' py.length pc')∧w'.cell? ⟨(am.add (u*7)).block,(am.add (u*7)).off+3,none⟩=some (.slice lo' ly.length lc')∧w'.cell? ⟨(am.add (u*7)).block,(am.add (u*7)).off+4,none⟩=some (.int .i64 ky)∧w'.cell? ⟨(am.add (u*7)).block,(am.add (u*7)).off+5,none⟩=some (.int .i64 ry)∧w'.cell? ⟨(am.add (u*7)).block,(am.add (u*7)).off+6,none⟩=some (.slice ko' ky'.length kc')) w':=fun w' hb=>⟨Zg6 hb r2,Zg6 hb hL,Zg6 hb e0,Zg6 hb c0,Zg6 hb c1,Zg6 hb c2,Zg6 hb c3,Zg6 hb c4,Zg6 hb c5,Zg6 hb c6,Zg6 hb d0,Zg6 hb d1,Zg6 hb d2,Zg6 hb d3,Zg6 hb d4,Zg6 hb d5,Zg6 hb d6⟩
  have HS:=Zh hS
  clear hS
  refine rO (fun w':World=>w'.cell? ⟨B,2,none⟩=some (.slice (some am) m.me.length ec)∧w'.cell? ⟨L,0,none⟩=some (.slice (some ad) l.length cap)∧w'.cell? ad=some (.int .i64 u)∧w'.cell? (am.add (t*7))=some (.string nx)∧w'.cell? ⟨(am.add (t*7)).block,(am.add (t*7)).off+1,none⟩=some (.int .i64 cx)∧w'.cell? ⟨(am.add (t*7)).block,(am.add (t*7)).off+2,none⟩=some (.slice po px.length pc)∧w'.cell? ⟨(am.add (t*7)).block,(am.add (t*7)).off+3,none⟩=some (.slice lo lx.length lc)∧w'.cell? ⟨(am.add (t*7)).block,(am.add (t*7)).off+4,none⟩=some (.int .i64 kx)∧w'.cell? ⟨(am.add (t*7)).block,(am.add (t*7)).off+5,none⟩=some (.int .i64 rx)∧w'.cell? ⟨(am.add (t*7)).block,(am.add (t*7)).off+6,none⟩=some (.slice ko kx'.length kc)∧w'.cell? (am.add (u*7))=some (.string ny)∧w'.cell? ⟨(am.add (u*7)).block,(am.add (u*7)).off+1,none⟩=some (.int .i64 cy)∧w'.cell? ⟨(am.add (u*7)).block,(am.add (u*7)).off+2,none⟩=some (.slice po' py.length pc')∧w'.cell? ⟨(am.add (u*7)).block,(am.add (u*7)).off+3,none⟩=some (.slice lo' ly.length lc')∧w'.cell? ⟨(am.add (u*7)).block,(am.add (u*7)).off+4,none⟩=some (.int .i64 ky)∧w'.cell? ⟨(am.add (u*7)).block,(am.add (u*7)).off+5,none⟩=some (.int .i64 ry)∧w'.cell? ⟨(am.add (u*7)).block,(am.add (u*7)).off+6,none⟩=some (.slice ko' ky'.length kc')) (.plain 0 (.plain 1 (.plain 2 (.plain 3 (.plain 4 (.plain 5 (.plain 6 (.plain 7 (.plain 8 (.plain 9 (.plain 10 (.plain 11 (.plain 12 (.plain 13 (.two 14 15 (oL [115,116,117]) (oL [114,116,117])))))))))))))))) (HS.out w.drew (Below.refl _ _).drew) ?_
  clear r2 hL e0 c0 c1 c2 c3 c4 c5 c6 d0 d1 d2 d3 d4 d5 d6
  repeat refine pO ?_
  refine Zd4 ?_ ?_
  all_goals
   refine Zd2 _ (by rfl) (by rfl) fun K hK=>?_
   go_simp
   refine hK _ _ ⟨HS.out _ bE,?_⟩
   clear hK K
   refine oO fun K hK=>?_
   go_simp
   refine hK _ _ ⟨HS.out _ bE,?_⟩
   clear hK K
   refine oO fun K hK=>?_
   go_simp
   refine hK _ _ ⟨HS.out _ bE,?_⟩
   clear hK K
   refine oO fun K hK=>?_
   go_simp
   refine hK _ _ ⟨HS.out _ bE,?_⟩
   clear hK K
   refine Zd5 ?_
   go_wp2_with fail
   go_meet
   refine ⟨_,_,rfl,rfl,?_,?_,?_⟩
   ·repeat (first|(refine Blk.new' _ _ ?_;simp;done)|refine Blk.drew ?_|refine Blk.alloc ?_ _)
   ·repeat (first|(refine Blk.new' _ _ ?_;simp;done)|refine Blk.drew ?_|refine Blk.alloc ?_ _)
   ·exact bE
 case rest=>
  obtain ⟨X,Y,rfl,rfl,hX,hY,hb⟩:=hcut
  have x2:wc.cell? ⟨X,2,none⟩=some (.slice po px.length pc):=hX.cell 2 rfl
  have x4:wc.cell? ⟨X,4,none⟩=some (.int .i64 kx):=hX.cell 4 rfl
  have x5:wc.cell? ⟨X,5,none⟩=some (.int .i64 rx):=hX.cell 5 rfl
  have y2:wc.cell? ⟨Y,2,none⟩=some (.slice po' py.length pc'):=hY.cell 2 rfl
  have y4:wc.cell? ⟨Y,4,none⟩=some (.int .i64 ky):=hY.cell 4 rfl
  have y5:wc.cell? ⟨Y,5,none⟩=some (.int .i64 ry):=hY.cell 5 rfl
  have xl:=hX.lt
  have yl:=hY.lt
  have hne:=ZdW
  have hgu:=ZdX
  have HE:=Zh (ZgY px py po po' pc pc' wc (HPT.out.old hb) (HPU.out.old hb) hpl)
  have HBc:=Zh hb
  clear hX hY hb c0 c1 c2 c3 c4 c5 c6 d0 d1 d2 d3 d4 d5 d6 hL e0 r2
  go_wp2_with (go_at_call 311;refine HE.out.mono ?_;rintro e w1 ⟨rfl,hb1⟩)
  all_goals
   go_ret
   refine ZcT (ZcX ?_) (by first|exact HBc.out|exact Zaf HBc.out (by assumption))
   simp only [Ty.mk.injEq]
   grind
end
section
open Go.RowKit
theorem Zg8 (m:Md) (h:Hd) (s:Nat) (w:World) (H:Zay w h m) (hs:(s:Int) < m.sel) (hn:m.cl.length≤10) (hl:∀ j,j<m.cl.length→((m.cl.getD j default).m.length:Int)=m.sel) (ht:∀ t∈ZaN m s,0≤t∧t<m.me.length) (hp:∀ k,k<m.me.length→(m.me.getD k default).p.length≤4) :
  Calls Tryz.prog 241 #[.agg #[.slice h.co m.cl.length h.cc,.slice h.so m.st.length h.sc,.slice h.eo m.me.length h.ec,.int .i64 m.sel],.int .i64 s] w (Ret w (.bool (ZaY m s))):=by
 have hX:ZgQ _ w.heap.size h m:=Blk.new w #[.slice h.co m.cl.length h.cc,.slice h.so m.st.length h.sc,.slice h.eo m.me.length h.ec,.int .i64 m.sel] 205
 have hb0:Below w.heap.size w (w.alloc (.cells #[.slice h.co m.cl.length h.cc,.slice h.so m.st.length h.sc,.slice h.eo m.me.length h.ec,.int .i64 m.sel] 205)):=by exact bE
 have htg:=ZdS m h s _ (H.old hb0) ⟨by omega,hs⟩ hn hl
 have hlen:=ZdG m s
 have hq:ZaY m s=(ZaN m s).all fun t=>decide ((m.me.getD t.toNat default).r=(m.me.getD ((ZaN m s).getD 0 0).toNat default).r)&&decide ((m.me.getD t.toNat default).p=(m.me.getD ((ZaN m s).getD 0 0).toNat default).p):=rfl
 generalize ZaN m s=l at htg hlen hq ht
 rw [hq]
 have HT:=Zh htg
 have HX:=Zh hX
 have HM:=Zh (H.old hb0)
 have HB0:=Zh hb0
 have HE:=Zh ht
 have HP:=Zh hp
 clear htg hX H hb0 ht hp hq hl
 go_enter Tryz.func241,Tryz.ntmps241
 go_wp2_with fail
 refine HT.out.mono ?_
 rintro e1 w1 ⟨⟨ao,cap,rfl,hr⟩,hb1⟩
 have hb2:Below _ _ (w1.alloc (.cells #[.slice ao l.length cap] 34)):=bal hb1 _
 have hL:Blk (w1.alloc (.cells #[.slice ao l.length cap] 34)) w1.heap.size #[.slice ao l.length cap] 34:=Blk.new w1 _ _
 have hr2:=hr.old (show Below w1.heap.size w1 (w1.alloc (.cells #[.slice ao l.length cap] 34)) by exact bE)
 have hcon:=Zdr l ao cap 314 #[.pointer (some ⟨w.heap.size,0,none⟩),.pointer (some ⟨w1.heap.size,0,none⟩)] (fun t=>!(decide ((m.me.getD t.toNat default).r=(m.me.getD (l.getD 0 0).toNat default).r)&&decide ((m.me.getD t.toNat default).p=(m.me.getD (l.getD 0 0).toNat default).p))) (w1.alloc (.cells #[.slice ao l.length cap] 34)) (by omega) hr2 (fun A W=>by kernel_rfl) (fun j hj w' hb=>by
  have h1:=HE.out (l.getD j 0) (by rw [List.getD_eq_getElem?_getD,List.getElem?_eq_getElem hj];exact List.getElem_mem hj)
  have h2:=HE.out (l.getD 0 0) (by rw [List.getD_eq_getElem?_getD,List.getElem?_eq_getElem (by omega)];exact List.getElem_mem _)
  generalize hu:l.getD 0 0=u at h2
  generalize l.getD j 0=t at h1
  obtain ⟨t,rfl⟩:∃ x:Nat,t=x:=⟨t.toNat,by omega⟩
  obtain ⟨u,rfl⟩:∃ x:Nat,u=x:=⟨u.toNat,by omega⟩
  exact Zg7 m h w.heap.size w1.heap.size l ao cap t u w' ((HX.out.old hb2).old hb) ((hL.old hb).cell 0 rfl) (hr2.old hb) ((HM.out.old hb2).old hb) (by omega) (by omega) (by omega) hu (by have:=HP.out t (by omega);omega))
 rw [ZgM] at hcon
 have HC:=Zh hcon
 have HR:=Zh hr
 have HB2:=Zh hb2
 clear hcon hr hb2 hr2 hL HX HM HT
 go_wp2_with fail
 refine HC.out.mono ?_
 rintro e2 w2 ⟨rfl,hb3⟩
 go_wp2
 go_ret
 exact ZcT (ZcX (by simp)) (Zaf (Zaf HB0.out HB2.out) hb3)
end
section
open Go.RowKit
theorem Zg9 {m:Md}{k:Nat} (h:ZaK m k=true):((m.cl.getD k default).m.length:Int)=m.sel:=by
 simp only [ZaK,Bool.and_eq_true,decide_eq_true_eq] at h
 exact h.1.1.2
theorem Zha {m:Md}{k s:Nat} (h:ZaK m k=true) (hs:s<(m.cl.getD k default).m.length):-1≤m.ent k s∧m.ent k s<m.me.length:=by
 simp only [ZaK,Bool.and_eq_true,decide_eq_true_eq] at h
 have h2:=ZaE.1 h.1.2 s hs
 simp only [ZaJ,Bool.and_eq_true,decide_eq_true_eq] at h2
 exact ⟨h2.1.1.1,h2.1.1.2⟩
theorem Zhb {m:Md}{k:Nat} (h:ZaX m k=true):(m.me.getD k default).p.length≤4:=by
 simp only [ZaX,Bool.and_eq_true,decide_eq_true_eq] at h
 exact h.1.1.1.1.1.1.2
theorem Zhc {m:Md} (h:∀ k,k<m.cl.length→ZaK m k=true) {s:Nat} (hs:(s:Int) < m.sel):∀ t∈ZaN m s,0≤t∧t<m.me.length:=by
 intro t ht
 unfold ZaN at ht
 rw [Zdw,Int.toNat_natCast,List.mem_filter,List.mem_map] at ht
 obtain ⟨⟨c,hc,rfl⟩,h0⟩:=ht
 obtain ⟨k,hk,hck⟩:=List.getElem_of_mem hc
 have hcd:m.cl.getD k default=c:=by rw [List.getD_eq_getElem?_getD,List.getElem?_eq_getElem hk];exact hck
 have h1:=Zg9 (h k hk)
 have h2:=Zha (h k hk) (s:=s) (by omega)
 have h3:m.ent k s=c.m.getD s 0:=by unfold Md.ent;rw [Int.toNat_natCast,hcd]
 rw [h3] at h2
 exact ⟨by simpa using h0,h2.2⟩
theorem Zhd (m:Md) (h:Hd) (w:World) (H:Zay w h m):Calls Tryz.prog 175 #[.agg #[.slice h.co m.cl.length h.cc,.slice h.so m.st.length h.sc,.slice h.eo m.me.length h.ec,.int .i64 m.sel]] w (Ret w (.bool (Za1 m))):=by
 have hb0:Below w.heap.size w ((w.alloc (.cells #[.slice h.co m.cl.length h.cc,.slice h.so m.st.length h.sc,.slice h.eo m.me.length h.ec,.int .i64 m.sel] 205)).alloc (.cells #[.slice h.co m.cl.length h.cc,.slice h.so m.st.length h.sc,.slice h.eo m.me.length h.ec,.int .i64 m.sel] 26)):=by exact bE
 have hX0:ZgQ (w.alloc (.cells #[.slice h.co m.cl.length h.cc,.slice h.so m.st.length h.sc,.slice h.eo m.me.length h.ec,.int .i64 m.sel] 205)) w.heap.size h m:=Blk.new w #[.slice h.co m.cl.length h.cc,.slice h.so m.st.length h.sc,.slice h.eo m.me.length h.ec,.int .i64 m.sel] 205
 have hX:ZgQ ((w.alloc (.cells #[.slice h.co m.cl.length h.cc,.slice h.so m.st.length h.sc,.slice h.eo m.me.length h.ec,.int .i64 m.sel] 205)).alloc (.cells #[.slice h.co m.cl.length h.cc,.slice h.so m.st.length h.sc,.slice h.eo m.me.length h.ec,.int .i64 m.sel] 26)) w.heap.size h m:=Blk.alloc hX0 _
 have hY:Blk ((w.alloc (.cells #[.slice h.co m.cl.length h.cc,.slice h.so m.st.length h.sc,.slice h.eo m.me.length h.ec,.int .i64 m.sel] 205)).alloc (.cells #[.slice h.co m.cl.length h.cc,.slice h.so m.st.length h.sc,.slice h.eo m.me.length h.ec,.int .i64 m.sel] 26)) (w.heap.size+1) #[.slice h.co m.cl.length h.cc,.slice h.so m.st.length h.sc,.slice h.eo m.me.length h.ec,.int .i64 m.sel] 26:=Blk.new' (w:=w.alloc (.cells #[.slice h.co m.cl.length h.cc,.slice h.so m.st.length h.sc,.slice h.eo m.me.length h.ec,.int .i64 m.sel] 205)) #[.slice h.co m.cl.length h.cc,.slice h.so m.st.length h.sc,.slice h.eo m.me.length h.ec,.int .i64 m.sel] 26 (by simp)
 have hare:=ZgT m h m.st h.so h.sc 10 _ (H.st.old hb0) (by omega)
 have hq:Za1 m=(ZaZ m&&Za0 m&&(List.range m.cl.length).all (ZaK m)&&(List.range m.me.length).all (ZaX m)&&(List.range m.sel.toNat).all (ZaY m)):=rfl
 have hsz:ZaZ m=(decide (m.cl.length≤10)&&decide (m.me.length≤16)&&decide (0≤m.sel)&&decide (m.sel≤16)&&decide (m.st.length≤10)&&ZaG m.cl.length m.st):=rfl
 have HQ:=Zh hq
 have HSz:=Zh hsz
 have HX:=Zh hX
 have HY:=Zh hY
 have HM:=Zh H
 have HA:=Zh hare
 have HB0:=Zh hb0
 have hbz:=H.bz
 clear hq hsz hX0 hX hY H hare hb0
 by_cases h1:m.cl.length≤10
 ·by_cases h2:m.me.length≤16
  ·by_cases h3:0≤m.sel
   ·by_cases h4:m.sel≤16
    ·have i1:¬ (m.cl.length:Int) > 10:=by omega
     have i2:¬ (m.me.length:Int) > 16:=by omega
     have i3:¬ m.sel<0:=by omega
     have i4:¬ m.sel > 16:=by omega
     go_enter Tryz.func175,Tryz.ntmps175
     go_wp2_with fail
     refine HA.out.mono ?_
     rintro e1 w1 ⟨rfl,hb1⟩
     have hX1:ZgQ w1 w.heap.size h m:=HX.out.old hb1
     have hY1:=HY.out.old hb1
     have hB1:=Zaf HB0.out hb1
     have HX1:=Zh hX1
     have HY1:=Zh hY1
     have HB1:=Zh hB1
     clear hX1 hY1 hB1 hb1 HA HX HY HB0
     rcases hq5:decide ((m.st.length:Int)≤10)&&ZaG m.cl.length m.st with _|_
     ·have H5:=Zh hq5
      clear hq5
      go_wp2
      go_ret
      exact ZcT (ZcX (by have h8:=H5.out;rw [HQ.out,HSz.out];grind)) HB1.out
     have hok:ZaZ m=true:=by rw [HSz.out];simp [h1,h2,h3,h4];simp at hq5;exact ⟨by omega,hq5.2⟩
     have HOk:=Zh hok
     clear hq5 hok
     have y2:w1.cell? ⟨w.heap.size+1,2,none⟩=some (.slice h.eo m.me.length h.ec):=HY1.out.cell 2 rfl
     have yl:=HY1.out.lt
     go_wp2_with fail
     clear y2 yl
     go_loopw [41] (fun i wr=>∃ k:Nat,k≤m.me.length∧i=.int .i64 k∧Below w1.heap.size w1 wr∧Hid (∀ i,i<k→(decide (-1≤m.own i)&&decide (m.own i<m.cl.length))=true)) (fun i _=>m.me.length-(intOf i).toNat)
     case atStart=>exact ⟨0,by omega,rfl,Below.refl _ _,Zh (by omega)⟩
     case round=>
      obtain ⟨k,hk,rfl,hbl,q1⟩:=hrel
      have hX2:ZgQ wr w.heap.size h m:=HX1.out.old hbl
      have hY2:=HY1.out.old hbl
      obtain ⟨r0,r1,r2,r3⟩:=ZgR hX2
      have rl:=hX2.lt
      have y0:wr.cell? ⟨w.heap.size+1,0,none⟩=some (.slice h.co m.cl.length h.cc):=hY2.cell 0 rfl
      have y2:wr.cell? ⟨w.heap.size+1,2,none⟩=some (.slice h.eo m.me.length h.ec):=hY2.cell 2 rfl
      have y3:wr.cell? ⟨w.heap.size+1,3,none⟩=some (.int .i64 m.sel):=hY2.cell 3 rfl
      have yl:=hY2.lt
      have HBW:=Zh (Zaf HB1.out hbl)
      have HBL:=Zh hbl
      clear hX2 hY2 hbl
      by_cases hkl:k<m.me.length
      ·have hwr:IntKind.i64.wrap ((k:Int)+1)=k+1:=IntWalk.i64_in _ (by omega)
       have hkl2:(k:Int) < m.me.length:=by omega
       obtain ⟨ad,heo,-,c1,-,-,-,-,-⟩:=(HM.out.old HBW.out).mth hkl
       have hown:m.own k=(m.me.getD k default).c:=rfl
       generalize (m.me.getD k default).c=own at c1 hown
       have HOwn:=Zh hown
       have HEo:=Zh heo
       clear hown
       rw [heo] at y2
       clear heo
       by_cases hx:-1≤own∧own<m.cl.length
       ·obtain ⟨hx1,hx2⟩:=hx
        have hx3:¬ own < -1:=by omega
        have hx4:¬ own ≥ m.cl.length:=by omega
        have hok:(decide (-1≤m.own k)&&decide (m.own k<m.cl.length))=true:=by rw [HOwn.out];simp [hx1,hx2]
        have hrel2:∀ i,i<k+1→(decide (-1≤m.own i)&&decide (m.own i<m.cl.length))=true:=fun i hi=>by
         exact k61
        have HR:=Zh hrel2
        clear hrel2 hok
        go_wp2
        go_roundw
        case rel=>exact ⟨k+1,by omega,by go_num,HBL.out,Zh HR.out⟩
        case measure=>simp [intOf];omega
       ·have hno:Za0 m=false:=ZaC hkl (by rw [HOwn.out];simp;omega)
        have HNo:=Zh hno
        clear hno
        by_cases hx1:own < -1
        ·go_wp2
         go_ret
         exact ZcT (ZcX (by rw [HQ.out,HNo.out];simp)) HBW.out
        ·have hx2:own ≥ m.cl.length:=by omega
         go_wp2
         go_ret
         exact ZcT (ZcX (by rw [HQ.out,HNo.out];simp)) HBW.out
      ·obtain rfl:k=m.me.length:=by omega
       have hall:=q1.out
       have HAll41:=Zh hall
       clear hall q1
       go_wp2_with fail
       go_loopw [63] (fun i wr=>∃ k:Nat,k≤m.cl.length∧i=.int .i64 k∧Below w1.heap.size w1 wr∧Hid (∀ i,i<k→ZaK m i=true)) (fun i _=>m.cl.length-(intOf i).toNat)
       case atStart=>exact ⟨0,by omega,rfl,HBL.out,Zh (by omega)⟩
       case round=>
        obtain ⟨k,hk,rfl,hbl,q1⟩:=hrel
        clear r0 r1 r2 r3 rl y0 y2 y3 yl HBL HBW
        have hX2:ZgQ wr w.heap.size h m:=HX1.out.old hbl
        have hY2:=HY1.out.old hbl
        obtain ⟨r0,r1,r2,r3⟩:=ZgR hX2
        have rl:=hX2.lt
        have y0:wr.cell? ⟨w.heap.size+1,0,none⟩=some (.slice h.co m.cl.length h.cc):=hY2.cell 0 rfl
        have y2:wr.cell? ⟨w.heap.size+1,2,none⟩=some (.slice h.eo m.me.length h.ec):=hY2.cell 2 rfl
        have y3:wr.cell? ⟨w.heap.size+1,3,none⟩=some (.int .i64 m.sel):=hY2.cell 3 rfl
        have yl:=hY2.lt
        have HBW:=Zh (Zaf HB1.out hbl)
        have HBL:=Zh hbl
        clear hX2 hY2 hbl
        by_cases hkl:k<m.cl.length
        ·have hwr:IntKind.i64.wrap ((k:Int)+1)=k+1:=IntWalk.i64_in _ (by omega)
         have hkl2:(k:Int) < m.cl.length:=by omega
         have hcall:=ZgZ m h k _ (HM.out.old HBW.out) hkl ⟨h1,h2,h3,h4⟩ (Zc8 q1.out) (fun j hj=>Zg9 (q1.out j hj))
         generalize hqc:ZaK m k=q at hcall
         have HC:=Zh hcall
         have HQc:=Zh hqc
         clear hcall hqc
         go_wp2_with fail
         refine HC.out.mono ?_
         rintro e2 w2 ⟨rfl,hb2⟩
         have HBW2:=Zh (Zaf HBW.out hb2)
         have HBL2:=Zh (Zaf HBL.out hb2)
         clear hb2
         rcases q with _|_
         ·exact k68
         ·have hok:ZaK m k=true:=HQc.out
          have hrel2:∀ i,i<k+1→ZaK m i=true:=fun i hi=>by
           exact k61
          exact k43
        ·obtain rfl:k=m.cl.length:=by omega
         have hall:=q1.out
         have HAll63:=Zh hall
         clear hall q1
         go_wp2_with fail
         go_loopw [74] (fun i wr=>∃ k:Nat,k≤m.me.length∧i=.int .i64 k∧Below w1.heap.size w1 wr∧Hid (∀ i,i<k→ZaX m i=true)) (fun i _=>m.me.length-(intOf i).toNat)
         case atStart=>exact ⟨0,by omega,rfl,HBL.out,Zh (by omega)⟩
         case round=>
          obtain ⟨k,hk,rfl,hbl,q1⟩:=hrel
          clear r0 r1 r2 r3 rl y0 y2 y3 yl HBL HBW
          have hX2:ZgQ wr w.heap.size h m:=HX1.out.old hbl
          have hY2:=HY1.out.old hbl
          obtain ⟨r0,r1,r2,r3⟩:=ZgR hX2
          have rl:=hX2.lt
          have y0:wr.cell? ⟨w.heap.size+1,0,none⟩=some (.slice h.co m.cl.length h.cc):=hY2.cell 0 rfl
          have y2:wr.cell? ⟨w.heap.size+1,2,none⟩=some (.slice h.eo m.me.length h.ec):=hY2.cell 2 rfl
          have y3:wr.cell? ⟨w.heap.size+1,3,none⟩=some (.int .i64 m.sel):=hY2.cell 3 rfl
          have yl:=hY2.lt
          have HBW:=Zh (Zaf HB1.out hbl)
          have HBL:=Zh hbl
          clear hX2 hY2 hbl
          by_cases hkl:k<m.me.length
          ·have hwr:IntKind.i64.wrap ((k:Int)+1)=k+1:=IntWalk.i64_in _ (by omega)
           have hkl2:(k:Int) < m.me.length:=by omega
           have hcall:=Zg5 m h k _ (HM.out.old HBW.out) hkl h1 (fun j hj=>Zg9 (HAll63.out j hj))
           generalize hqc:ZaX m k=q at hcall
           have HC:=Zh hcall
           have HQc:=Zh hqc
           clear hcall hqc
           go_wp2_with fail
           refine HC.out.mono ?_
           rintro e2 w2 ⟨rfl,hb2⟩
           have HBW2:=Zh (Zaf HBW.out hb2)
           have HBL2:=Zh (Zaf HBL.out hb2)
           clear hb2
           rcases q with _|_
           ·exact k68
           ·have hok:ZaX m k=true:=HQc.out
            have hrel2:∀ i,i<k+1→ZaX m i=true:=fun i hi=>by
             exact k61
            exact k43
          ·obtain rfl:k=m.me.length:=by omega
           have hall:=q1.out
           have HAll74:=Zh hall
           clear hall q1
           go_wp2_with fail
           go_loopw [84] (fun i wr=>∃ k:Nat,k≤m.sel.toNat∧i=.int .i64 k∧Below w1.heap.size w1 wr∧Hid (∀ i,i<k→ZaY m i=true)) (fun i _=>m.sel.toNat-(intOf i).toNat)
           case atStart=>exact ⟨0,by omega,rfl,HBL.out,Zh (by omega)⟩
           case round=>
            obtain ⟨k,hk,rfl,hbl,q1⟩:=hrel
            clear r0 r1 r2 r3 rl y0 y2 y3 yl HBL HBW
            have hX2:ZgQ wr w.heap.size h m:=HX1.out.old hbl
            have hY2:=HY1.out.old hbl
            obtain ⟨r0,r1,r2,r3⟩:=ZgR hX2
            have rl:=hX2.lt
            have y0:wr.cell? ⟨w.heap.size+1,0,none⟩=some (.slice h.co m.cl.length h.cc):=hY2.cell 0 rfl
            have y2:wr.cell? ⟨w.heap.size+1,2,none⟩=some (.slice h.eo m.me.length h.ec):=hY2.cell 2 rfl
            have y3:wr.cell? ⟨w.heap.size+1,3,none⟩=some (.int .i64 m.sel):=hY2.cell 3 rfl
            have yl:=hY2.lt
            have HBW:=Zh (Zaf HB1.out hbl)
            have HBL:=Zh hbl
            clear hX2 hY2 hbl
            by_cases hkl:k<m.sel.toNat
            ·have hwr:IntKind.i64.wrap ((k:Int)+1)=k+1:=IntWalk.i64_in _ (by omega)
             have hkl2:(k:Int) < m.sel:=by omega
             have hcall:=Zg8 m h k _ (HM.out.old HBW.out) hkl2 h1 (fun j hj=>Zg9 (HAll63.out j hj)) (Zhc HAll63.out hkl2) (fun j hj=>Zhb (HAll74.out j hj))
             generalize hqc:ZaY m k=q at hcall
             have HC:=Zh hcall
             have HQc:=Zh hqc
             clear hcall hqc
             go_wp2_with fail
             refine HC.out.mono ?_
             rintro e2 w2 ⟨rfl,hb2⟩
             have HBW2:=Zh (Zaf HBW.out hb2)
             have HBL2:=Zh (Zaf HBL.out hb2)
             clear hb2
             rcases q with _|_
             ·exact k68
             ·have hok:ZaY m k=true:=HQc.out
              have hrel2:∀ i,i<k+1→ZaY m i=true:=fun i hi=>by
               exact k61
              exact k43
            ·obtain rfl:k=m.sel.toNat:=by omega
             have hall:=q1.out
             have HAll84:=Zh hall
             clear hall q1
             have hkl2:¬ ((m.sel.toNat:Int) < m.sel):=by omega
             go_wp2
             go_ret
             exact ZcT (ZcX (by rw [HQ.out,HOk.out,show Za0 m=true from ZaD HAll41.out,ZaD HAll63.out,ZaD HAll74.out,ZaD HAll84.out];rfl)) HBW.out
    ·have i4:m.sel > 16:=by omega
     have i3:¬ m.sel<0:=by omega
     have i1:¬ (m.cl.length:Int) > 10:=by omega
     have i2:¬ (m.me.length:Int) > 16:=by omega
     go_enter Tryz.func175,Tryz.ntmps175
     go_wp2
     go_ret
     exact ZcT (ZcX (by rw [HQ.out,HSz.out,decide_eq_false (show ¬ m.sel≤16 by omega)];simp)) HB0.out
   ·have i3:m.sel<0:=by omega
    have i1:¬ (m.cl.length:Int) > 10:=by omega
    have i2:¬ (m.me.length:Int) > 16:=by omega
    go_enter Tryz.func175,Tryz.ntmps175
    go_wp2
    go_ret
    exact ZcT (ZcX (by rw [HQ.out,HSz.out,decide_eq_false (show ¬ 0≤m.sel by omega)];simp)) HB0.out
  ·have i1:¬ (m.cl.length:Int) > 10:=by omega
   have i2:(m.me.length:Int) > 16:=by omega
   go_enter Tryz.func175,Tryz.ntmps175
   go_wp2
   go_ret
   exact ZcT (ZcX (by rw [HQ.out,HSz.out,decide_eq_false (show ¬ m.me.length≤16 by omega)];simp)) HB0.out
 ·have i1:(m.cl.length:Int) > 10:=by omega
  go_enter Tryz.func175,Tryz.ntmps175
  go_wp2
  go_ret
  exact ZcT (ZcX (by rw [HQ.out,HSz.out,decide_eq_false (show ¬ m.cl.length≤10 by omega)];simp)) HB0.out
theorem Zhe (m:Md) (h:Hd) (w:World) (H:Zay w h m):Calls Tryz.prog 114 #[.agg #[.slice h.co m.cl.length h.cc,.slice h.so m.st.length h.sc,.slice h.eo m.me.length h.ec,.int .i64 m.sel]] w (Ret w (.int .i64 (if Za1 m then 0 else 1))):=by
 have hb0:Below w.heap.size w (w.alloc (.cells #[.slice h.co m.cl.length h.cc,.slice h.so m.st.length h.sc,.slice h.eo m.me.length h.ec,.int .i64 m.sel] 26)):=by exact bE
 have hv:=Zhd m h _ (H.old hb0)
 generalize Za1 m=q at hv ⊢
 have HV:=Zh hv
 clear hv H
 rcases q with _|_
 all_goals
  go_enter Tryz.func114,Tryz.ntmps114
  go_wp2_with fail
  refine HV.out.mono ?_
  rintro e1 w1 ⟨rfl,hb1⟩
  go_wp2_with fail
  go_ret
  exact ZcT rfl (Zaf hb0 hb1)
end
section
open Go.RowKit
attribute [local go_sem] World.cell?_alloc_some
def Zhf (W:World) (v u:Value):Ending→World→Prop:=fun e w'=>e=.returned (.tuple #[v,u])∧Below W.heap.size W w'
theorem Zhg {W w':World}{v u v' u':Value} (h:v'=v) (h2:u'=u) (hb:Below W.heap.size W w'):Zhf W v u (.returned (.tuple #[v',u'])) w':=⟨by rw [h,h2],hb⟩
def Zhh (b:Bool):Int:=if b then 0 else 1
def inV (n:Int) (x:Int):Bool:=decide (0≤x)&&decide (x<n)
theorem Zhi (t:Int) (B:Nat) (n:Int) (w:World) (hB:w.cell? ⟨B,0,none⟩=some (.int .i64 n)):Calls Tryz.prog 242 #[.int .i64 t,.pointer (some ⟨B,0,none⟩)] w (Ret w (.bool (!inV n t))):=by
 have hl:=Zac hB
 go_enter Tryz.func242,Tryz.ntmps242
 go_wp2
 all_goals
  go_ret
  exact ZcT (ZcX (by grind [inV])) bE
theorem Zhj (m:Md) (h:Hd) (n:Int) (l:List Int) (ao:Option Addr) (cap:Nat) (w:World) (H:Zay w h m) (hl:Zar w ao cap l) (hlen:l.length≤1000000):Calls Tryz.prog 176 #[.agg #[.slice h.co m.cl.length h.cc,.slice h.so m.st.length h.sc,.slice h.eo m.me.length h.ec,.int .i64 m.sel],.int .i64 n,.slice ao l.length cap] w (Ret w (.int .i64 (Zhh (Za1 m&&l.all (inV n))))):=by
 have hK:Blk ((w.alloc (.cells #[.slice h.co m.cl.length h.cc,.slice h.so m.st.length h.sc,.slice h.eo m.me.length h.ec,.int .i64 m.sel] 26)).alloc (.cells #[.int .i64 n] 3)) (w.heap.size+1) #[.int .i64 n] 3:=Blk.new' (w:=w.alloc (.cells #[.slice h.co m.cl.length h.cc,.slice h.so m.st.length h.sc,.slice h.eo m.me.length h.ec,.int .i64 m.sel] 26)) #[.int .i64 n] 3 (by simp)
 have hb0:Below w.heap.size w ((w.alloc (.cells #[.slice h.co m.cl.length h.cc,.slice h.so m.st.length h.sc,.slice h.eo m.me.length h.ec,.int .i64 m.sel] 26)).alloc (.cells #[.int .i64 n] 3)):=by exact bE
 have hc:=Zhe m h _ (H.old hb0)
 have HK:=Zh hK
 have HL:=Zh hl
 have HB0:=Zh hb0
 generalize Za1 m=qm at hc ⊢
 generalize hq:l.all (inV n)=q
 have HQ:=Zh hq
 clear hq
 rcases qm with _|_
 ·have HC:=Zh hc
  clear hc hK hl hb0 H
  go_enter Tryz.func176,Tryz.ntmps176
  exact k81
 ·have HC:=Zh hc
  clear hc hK hl hb0 H
  go_enter Tryz.func176,Tryz.ntmps176
  go_wp2_with fail
  refine HC.out.mono ?_
  rintro e1 w1 ⟨rfl,hb1⟩
  have hcon:=Zdr l ao cap 242 #[.pointer (some ⟨w.heap.size+1,0,none⟩)] (fun t=>!inV n t) w1 hlen (HL.out.old (Zaf HB0.out hb1)) (fun A W=>by kernel_rfl) (fun j hj w' hb=>Zhi _ (w.heap.size+1) n w' (((HK.out.old hb1).old hb).cell 0 rfl))
  rw [ZgM] at hcon
  have HB1:=Zh (Zaf HB0.out hb1)
  rw [HQ.out] at hcon
  have HCn:=Zh hcon
  clear hcon hb1
  go_wp2_with fail
  refine HCn.out.mono ?_
  rintro e2 w2 ⟨rfl,hb2⟩
  rcases q with _|_
  all_goals
   go_wp2
   go_ret
   exact ZcT (by simp [Zhh]) (Zaf HB1.out hb2)
theorem Zhk (m:Md) (h:Hd) (a b:Int) (w:World) (H:Zay w h m):Calls Tryz.prog 263 #[.agg #[.slice h.co m.cl.length h.cc,.slice h.so m.st.length h.sc,.slice h.eo m.me.length h.ec,.int .i64 m.sel],.int .i64 a,.int .i64 b] w (Zhf w (.bool (Za1 m&&inV m.cl.length a&&inV m.cl.length b&&ZaH m (a.toNat+1) a b)) (.int .i64 (Zhh (Za1 m&&inV m.cl.length a&&inV m.cl.length b)))):=by
 have hX:Blk (w.alloc (.cells #[.slice h.co m.cl.length h.cc,.slice h.so m.st.length h.sc,.slice h.eo m.me.length h.ec,.int .i64 m.sel] 26)) w.heap.size #[.slice h.co m.cl.length h.cc,.slice h.so m.st.length h.sc,.slice h.eo m.me.length h.ec,.int .i64 m.sel] 26:=Blk.new w _ _
 have hR:Blk ((w.alloc (.cells #[.slice h.co m.cl.length h.cc,.slice h.so m.st.length h.sc,.slice h.eo m.me.length h.ec,.int .i64 m.sel] 26)).alloc (.cells #[.int .i64 a,.int .i64 b] 3)) (w.heap.size+1) #[.int .i64 a,.int .i64 b] 3:=Blk.new' (w:=w.alloc (.cells #[.slice h.co m.cl.length h.cc,.slice h.so m.st.length h.sc,.slice h.eo m.me.length h.ec,.int .i64 m.sel] 26)) #[.int .i64 a,.int .i64 b] 3 (by simp)
 have hb0:Below w.heap.size w ((w.alloc (.cells #[.slice h.co m.cl.length h.cc,.slice h.so m.st.length h.sc,.slice h.eo m.me.length h.ec,.int .i64 m.sel] 26)).alloc (.cells #[.int .i64 a,.int .i64 b] 3)):=by exact bE
 have hrow:Zar ((w.alloc (.cells #[.slice h.co m.cl.length h.cc,.slice h.so m.st.length h.sc,.slice h.eo m.me.length h.ec,.int .i64 m.sel] 26)).alloc (.cells #[.int .i64 a,.int .i64 b] 3)) (some ⟨w.heap.size+1,0,none⟩) 2 [a,b]:=by
  exact k98
 have hask:=Zhj m h m.cl.length [a,b] _ 2 _ (H.old hb0) hrow (by simp)
 have e:(Za1 m&&[a,b].all (inV m.cl.length))=(Za1 m&&inV m.cl.length a&&inV m.cl.length b):=by simp [Bool.and_assoc]
 rw [e] at hask
 generalize hq:(Za1 m&&inV m.cl.length a&&inV m.cl.length b)=q at hask ⊢
 have HA:=Zh hask
 have HX:=Zh (hX.alloc (.cells #[.int .i64 a,.int .i64 b] 3))
 have HM:=Zh (H.old hb0)
 have HB0:=Zh hb0
 have HQ:=Zh hq
 clear hask hX hR hb0 hrow e hq H
 go_enter Tryz.func263,Tryz.ntmps263
 go_wp2_with fail
 refine HA.out.mono ?_
 rintro e1 w1 ⟨rfl,hb1⟩
 have HB1:=Zh (Zaf HB0.out hb1)
 rcases q with _|_
 ·go_wp2
  go_ret2
  exact Zhg rfl rfl HB1.out
 ·have h9:=HQ.out
  simp only [Bool.and_eq_true,inV,decide_eq_true_eq] at h9
  obtain ⟨⟨hmv,ha0,ha1⟩,hb0',hb1'⟩:=h9
  have hcv:∀ k,k<m.cl.length→ZaK m k=true:=by
   simp only [Za1,Bool.and_eq_true] at hmv
   exact ZaE.1 hmv.1.1.2
  have hab:=ZgU m h a b w1 (HM.out.old hb1) hb0' ha1 (fun i h0 h1=>Zc8 hcv i h0 (by omega))
  have HAb:=Zh hab
  have hX1:=HX.out.old hb1
  have r0:w1.cell? ⟨w.heap.size,0,none⟩=some (.slice h.co m.cl.length h.cc):=hX1.cell 0 rfl
  have r1:w1.cell? ⟨w.heap.size,1,none⟩=some (.slice h.so m.st.length h.sc):=hX1.cell 1 rfl
  have r2:w1.cell? ⟨w.heap.size,2,none⟩=some (.slice h.eo m.me.length h.ec):=hX1.cell 2 rfl
  have r3:w1.cell? ⟨w.heap.size,3,none⟩=some (.int .i64 m.sel):=hX1.cell 3 rfl
  have rl:=hX1.lt
  clear hab hcv hmv hX1 hb1
  go_wp2_with fail
  refine HAb.out.mono ?_
  rintro e2 w2 ⟨rfl,hb2⟩
  go_wp2
  go_ret2
  exact Zhg rfl rfl (Zaf HB1.out hb2)
end
section
open Go.RowKit
theorem Zhl (w:World):Calls Tryz.prog 249 #[] w (Ret w (.agg #[.int .i64 1,.int .i64 0])):=by
 go_enter Tryz.func249,Tryz.ntmps249
 go_wp2
 exact bodyPost_ret (v:=.agg #[.int .i64 1,.int .i64 0]) (by simp [results,Tryz.results249,go_sem]) rfl ⟨rfl,by exact bE⟩
theorem Zhm (w:World):Calls Tryz.prog 321 #[] w (Ret w (.agg #[.int .i64 3,.int .i64 0])):=by
 go_enter Tryz.func321,Tryz.ntmps321
 go_wp2
 exact bodyPost_ret (v:=.agg #[.int .i64 3,.int .i64 0]) (by simp [results,Tryz.results321,go_sem]) rfl ⟨rfl,by exact bE⟩
theorem Zhn (c:Int) (w:World):Calls Tryz.prog 191 #[.int .i64 c] w (Ret w (.agg #[.int .i64 2,.int .i64 c])):=by
 go_enter Tryz.func191,Tryz.ntmps191
 go_wp2
 exact bodyPost_ret (v:=.agg #[.int .i64 2,.int .i64 c]) (by simp [results,Tryz.results191,go_sem]) rfl ⟨rfl,by exact bE⟩
def Zho (m:Md) (t u:Ty):Bool:=if t.k=2∧u.k=2 then Za1 m&&inV m.cl.length t.c&&inV m.cl.length u.c&&ZaH m (t.c.toNat+1) t.c u.c else decide (t=u)
theorem Zhp (t u:Ty):decide (t=u)=(decide (t.k=u.k)&&decide (t.c=u.c)):=by
 cases t;cases u;simp
theorem Zhq (m:Md) (h:Hd) (t u:Ty) (w:World) (H:Zay w h m):Calls Tryz.prog 189 #[.agg #[.slice h.co m.cl.length h.cc,.slice h.so m.st.length h.sc,.slice h.eo m.me.length h.ec,.int .i64 m.sel],.agg #[.int .i64 t.k,.int .i64 t.c],.agg #[.int .i64 u.k,.int .i64 u.c]] w (Ret w (.bool (Zho m t u))):=by
 obtain ⟨q,hq⟩:∃ q,q=Zho m t u:=⟨_,rfl⟩
 rw [←hq]
 unfold Zho at hq
 rw [Zhp] at hq
 have hb:∀ w',Below w.heap.size w w'→_:=fun w' hb'=>Zhk m h t.c u.c w' (H.old hb')
 generalize hx:(Za1 m&&inV m.cl.length t.c&&inV m.cl.length u.c&&ZaH m (t.c.toNat+1) t.c u.c)=x at hb hq
 generalize hy:Zhh (Za1 m&&inV m.cl.length t.c&&inV m.cl.length u.c)=y at hb
 have HB:=Zh hb
 have HQ:=Zh hq
 clear hx hy hb hq H
 go_enter Tryz.func189,Tryz.ntmps189
 go_wp2_with (go_at_call 263;refine (HB.out _ bE).mono ?_;rintro e w1 ⟨rfl,hb1⟩)
 all_goals
  go_ret
  exact ZcT (ZcX (by rw [HQ.out];grind)) bE
theorem Zhr (m:Md) (h:Hd) (at':Int) (w:World) (H:Zay w h m):Calls Tryz.prog 57 #[.agg #[.slice h.co m.cl.length h.cc,.slice h.so m.st.length h.sc,.slice h.eo m.me.length h.ec,.int .i64 m.sel],.int .i64 at'] w (Ret w (.bool (Za1 m&&inV m.me.length at'))):=by
 have hb:∀ w',Below w.heap.size w w'→_:=fun w' hb'=>Zhe m h w' (H.old hb')
 generalize hx:Za1 m=x at hb ⊢
 have HB:=Zh hb
 clear hx hb H
 rcases x with _|_
 all_goals
  go_enter Tryz.func57,Tryz.ntmps57
  go_wp2_with (go_at_call 114;refine (HB.out _ bE).mono ?_;rintro e w1 ⟨rfl,hb1⟩;have c2:=((Blk.new w #[.slice h.co m.cl.length h.cc,.slice h.so m.st.length h.sc,.slice h.eo m.me.length h.ec,.int .i64 m.sel] 26).old hb1).cell 2 rfl)
  all_goals
   go_ret
   exact ZcT (ZcX (by grind [inV])) bE
end
section
open Go.RowKit
theorem Zhs {P:Program}{ops:Array Oper}{Q:Exit→Act→World→Prop}{a:Act}{w:World}{k:Nat}{K:Act→World→Prop} (o:Oper) (ho:ops[k]?=some o) (hw:Region.wanted o (yielded ops a.tmps)=false) (h:K (a.put o.dst undef) w):wpOp P ops Q k K a w:=by
 unfold wpOp
 simp only [ho,hw,Bool.false_eq_true,if_false]
 exact h
theorem Upd.cell {K B:Nat}{w w':World} (h:Upd K B w w') {p:Addr}{v:Value} (hc:w.cell? p=some v) (hK:p.block≠K) (hB:p.block≠B):w'.cell? p=some v:=
 (World.cell?_of_block (w:=w) (h.block p.block (Zac hc) hK hB)).trans hc
theorem Zht (K:Nat) (h:Hd) (m:Md) (L S O:Value) (e:Int) (t u:Ty) (w:World) (H:Ck w K h m L S O e) (HM:Zay w h m) :
  Calls Tryz.prog 257 #[.pointer (some ⟨K,0,none⟩),.agg #[.int .i64 t.k,.int .i64 t.c],.agg #[.int .i64 u.k,.int .i64 u.c]] w fun r w'=>(∃ v,r=.returned v)∧Ck w' K h m L S O (ZeT e (decide (e=0)&&Zho m t u))∧Upd K K w w':=by
 have hb0:Below w.heap.size w ((w.alloc (.cells #[.int .i64 t.k,.int .i64 t.c] 76)).alloc (.cells #[.int .i64 u.k,.int .i64 u.c] 76)).drew:=by exact bE
 have x0:Blk (w.alloc (.cells #[.int .i64 t.k,.int .i64 t.c] 76)) w.heap.size #[.int .i64 t.k,.int .i64 t.c] 76:=Blk.new w _ _
 have x0:=(x0.alloc (.cells #[.int .i64 u.k,.int .i64 u.c] 76)).drew
 have x1:Blk ((w.alloc (.cells #[.int .i64 t.k,.int .i64 t.c] 76)).alloc (.cells #[.int .i64 u.k,.int .i64 u.c] 76)).drew (w.heap.size+1) #[.int .i64 u.k,.int .i64 u.c] 76:=(Blk.new' (w:=(w.alloc (.cells #[.int .i64 t.k,.int .i64 t.c] 76))) _ _ (by simp)).drew
 have HM1:=Zh (HM.old hb0)
 have HC1:=H.old hb0
 obtain ⟨kl,k0,k1,k2,k3,k4,k5,k6,k7⟩:=HC1.cells
 have HH1:=Zh HC1
 have u0:=x0.cell 0 (v:=.int .i64 t.k) rfl
 have u1:=x0.cell 1 (v:=.int .i64 t.c) rfl
 have v0:=x1.cell 0 (v:=.int .i64 u.k) rfl
 have v1:=x1.cell 1 (v:=.int .i64 u.c) rfl
 have HB0:=Zh hb0
 have kl':=Blk.lt H
 obtain ⟨W1,hW1⟩:∃ W1,W1=((w.alloc (.cells #[.int .i64 t.k,.int .i64 t.c] 76)).alloc (.cells #[.int .i64 u.k,.int .i64 u.c] 76)).drew:=⟨_,rfl⟩
 rw [←hW1] at HM1 HH1 HB0 k0 k1 k2 k3 k7 u0 u1 v0 v1
 have HW:=Zh hW1
 clear hb0 x0 x1 HC1 H HM kl k4 k5 k6 hW1
 have hS:∀ w',Below W1.heap.size W1 w'→(fun w':World=>w'.cell? ⟨K,0,none⟩=some (.slice h.co m.cl.length h.cc)∧w'.cell? ⟨K,1,none⟩=some (.slice h.so m.st.length h.sc)∧w'.cell? ⟨K,2,none⟩=some (.slice h.eo m.me.length h.ec)∧w'.cell? ⟨K,3,none⟩=some (.int .i64 m.sel)∧w'.cell? ⟨w.heap.size,0,none⟩=some (.int .i64 t.k)∧w'.cell? ⟨w.heap.size,1,none⟩=some (.int .i64 t.c)∧w'.cell? ⟨w.heap.size+1,0,none⟩=some (.int .i64 u.k)∧w'.cell? ⟨w.heap.size+1,1,none⟩=some (.int .i64 u.c)) w':=
  fun w' hb=>⟨(hb.cell (Zac k0)).trans k0,(hb.cell (Zac k1)).trans k1,(hb.cell (Zac k2)).trans k2,(hb.cell (Zac k3)).trans k3,(hb.cell (Zac u0)).trans u0,(hb.cell (Zac u1)).trans u1,(hb.cell (Zac v0)).trans v0,(hb.cell (Zac v1)).trans v1⟩
 have HS:=Zh hS
 clear hS k0 k1 k2 k3 u0 u1 v0 v1
 by_cases he:e=0
 ·subst he
  go_enter Tryz.func257,Tryz.ntmps257
  go_wp2_with fail
  refine rO (fun w':World=>w'.cell? ⟨K,0,none⟩=some (.slice h.co m.cl.length h.cc)∧w'.cell? ⟨K,1,none⟩=some (.slice h.so m.st.length h.sc)∧w'.cell? ⟨K,2,none⟩=some (.slice h.eo m.me.length h.ec)∧w'.cell? ⟨K,3,none⟩=some (.int .i64 m.sel)∧w'.cell? ⟨w.heap.size,0,none⟩=some (.int .i64 t.k)∧w'.cell? ⟨w.heap.size,1,none⟩=some (.int .i64 t.c)∧w'.cell? ⟨w.heap.size+1,0,none⟩=some (.int .i64 u.k)∧w'.cell? ⟨w.heap.size+1,1,none⟩=some (.int .i64 u.c)) (oL [0,1,2,3,104,5,6,7,8,9,10,11,12,113,14,115]) (HW.out▸HS.out _ (Below.refl _ _)) ?_
  rw [←HW.out]
  repeat refine pO ?_
  refine oO fun Kv hK=>?_
  go_simp
  refine hK _ _ ⟨HS.out _ (Below.refl _ _),?_⟩
  clear hK Kv
  repeat refine pO ?_
  refine oO fun Kv hK=>?_
  go_simp
  refine (Zhq m h t u _ HM1.out).mono ?_
  rintro r w2 ⟨rfl,hb2⟩
  refine hK _ _ ⟨HS.out _ hb2,?_⟩
  clear hK Kv
  repeat refine pO ?_
  refine oO fun Kv hK=>?_
  go_simp
  refine (ZeU K h m L S O _ _ _ (HH1.out.old hb2)).mono ?_
  rintro r w3 ⟨⟨v,rfl⟩,hc,hu⟩
  obtain ⟨-,-,-,-,s0,s1,s2,s3⟩:=HS.out _ hb2
  obtain ⟨-,c0,c1,c2,c3,-,-,-,-⟩:=hc.cells
  refine hK _ _ ⟨⟨c0,c1,c2,c3,hu.cell s0 (by show w.heap.size≠K;omega) (by show w.heap.size≠K;omega),hu.cell s1 (by show w.heap.size≠K;omega) (by show w.heap.size≠K;omega),hu.cell s2 (by show w.heap.size+1≠K;omega) (by show w.heap.size+1≠K;omega),hu.cell s3 (by show w.heap.size+1≠K;omega) (by show w.heap.size+1≠K;omega)⟩,?_⟩
  clear hK Kv
  refine Zd5 ?_
  go_wp2
  go_end0
  exact ⟨⟨_,rfl⟩,by simpa using hc,(Upd.of (Zaf HB0.out hb2)).trans hu⟩
 ·have he2:(e == 0)=false:=by simpa using he
  have HE:=Zh he
  go_enter Tryz.func257,Tryz.ntmps257
  go_wp2_with fail
  refine rO (fun w':World=>w'.cell? ⟨K,0,none⟩=some (.slice h.co m.cl.length h.cc)∧w'.cell? ⟨K,1,none⟩=some (.slice h.so m.st.length h.sc)∧w'.cell? ⟨K,2,none⟩=some (.slice h.eo m.me.length h.ec)∧w'.cell? ⟨K,3,none⟩=some (.int .i64 m.sel)∧w'.cell? ⟨w.heap.size,0,none⟩=some (.int .i64 t.k)∧w'.cell? ⟨w.heap.size,1,none⟩=some (.int .i64 t.c)∧w'.cell? ⟨w.heap.size+1,0,none⟩=some (.int .i64 u.k)∧w'.cell? ⟨w.heap.size+1,1,none⟩=some (.int .i64 u.c)) (oL [0,1,2,3,104,5,6,7,8,9,10,11,12,113,14,115]) (HW.out▸HS.out _ (Below.refl _ _)) ?_
  rw [←HW.out]
  repeat refine pO ?_
  refine oO fun Kv hK=>?_
  go_simp
  refine hK _ _ ⟨HS.out _ (Below.refl _ _),?_⟩
  clear hK Kv
  repeat refine pO ?_
  refine Zd3 ?_
  refine Zhs _ (by rfl) (by rfl) ?_
  refine ⟨HS.out _ (Below.refl _ _),?_⟩
  repeat refine pO ?_
  refine oO fun Kv hK=>?_
  go_simp
  refine (ZeU K h m L S O _ _ _ (HH1.out.old (Below.refl _ _))).mono ?_
  rintro r w3 ⟨⟨v,rfl⟩,hc,hu⟩
  obtain ⟨-,-,-,-,s0,s1,s2,s3⟩:=HS.out _ (Below.refl _ _)
  obtain ⟨-,c0,c1,c2,c3,-,-,-,-⟩:=hc.cells
  refine hK _ _ ⟨⟨c0,c1,c2,c3,hu.cell s0 (by show w.heap.size≠K;omega) (by show w.heap.size≠K;omega),hu.cell s1 (by show w.heap.size≠K;omega) (by show w.heap.size≠K;omega),hu.cell s2 (by show w.heap.size+1≠K;omega) (by show w.heap.size+1≠K;omega),hu.cell s3 (by show w.heap.size+1≠K;omega) (by show w.heap.size+1≠K;omega)⟩,?_⟩
  clear hK Kv
  refine Zd5 ?_
  go_wp2
  go_end0
  exact ⟨⟨_,rfl⟩,by simpa [HE.out] using hc,(Upd.of HB0.out).trans hu⟩
end
end Go.Proofs.YtcfjblcgceednaaGreat
