/- Joined texts. The first: bound: a weigher in memory; what it knows; the stretches that it goes through. -/
import Derived.Test.YtcfjblcgceednaaGreatE24
import Derived.Test.YtcfjblcgceednaaGreatE25
set_option linter.all false
set_option linter.unusedVariables false
set_option linter.unusedSimpArgs false
set_option maxRecDepth 100000
set_option maxHeartbeats 8000000
namespace Go.Proofs.YtcfjblcgceednaaGreat
theorem j14{p:Prop}(h:p:=by
 go_enter Tryz.func194,Tryz.ntmps194
 go_wp2
 go_ret
 exact ZcT rfl bE):p:=h
section
open Go.RowKit
def ZmV (w w':World):Prop:=∀ p v,w.cell? p=some v→w'.cell? p=some v
theorem ZmV.refl (w:World):ZmV w w:=fun _ _ h=>h
theorem ZmV.trans {a b c:World} (h:ZmV a b) (k:ZmV b c):ZmV a c:=fun p v q=>k p v (h p v q)
theorem ZmV.of {a b:World} (h:Below a.heap.size a b):ZmV a b:=fun _ _ hc=>(h.cell (Zac hc)).trans hc
theorem ZmW {α:Type} [Cells α] {w w':World}{ao:Option Addr}{c:Nat}{L:List α} (h:Zar w ao c L) (hk:ZmV w w'):Zar w' ao c L:=
 ⟨h.1,h.2.1,fun j u hu=>by obtain ⟨a,ha,hc⟩:=h.2.2 j u hu;exact ⟨a,ha,hk _ _ hc⟩⟩
theorem Zay.keeps {w w':World}{h:Hd}{m:Md} (H:Zay w h m) (hk:ZmV w w'):Zay w' h m:=
 ⟨ZmW H.cl hk,ZmW H.st hk,ZmW H.me hk,fun i hi=>ZmW (H.f i hi) hk,fun i hi=>ZmW (H.t i hi) hk,fun i hi=>ZmW (H.p i hi) hk,fun i hi=>ZmW (H.l i hi) hk,fun i hi=>ZmW (H.k i hi) hk,H.bf,H.bm,H.bz⟩
theorem Cs.keeps {w w':World} (hk:ZmV w w'):∀ {l:List (Addr × Value)},Cs l w→Cs l w'
 | [],_=>trivial
 | (_,_) :: _,h=>⟨hk _ _ h.1,Cs.keeps hk h.2⟩
def ZmX (w:World) (M:Nat):Prop:=∃ es c,w.heap[M]?=some (.map es c)
theorem ZmV.upd {w w':World}{M:Nat} (hm:ZmX w M) (hu:Upd M M w w'):ZmV w w':=fun p v hc=>by
 obtain ⟨es,c,hm⟩:=hm
 have hne:p.block≠M:=fun e=>by unfold World.cell? at hc;rw [e,hm] at hc;simp at hc
 exact (World.cell?_of_block (w:=w) (hu.block _ (Zac hc) hne hne)).trans hc
theorem ZmX.lt {w:World}{M:Nat} (H:ZmX w M):M<w.heap.size:=by
 obtain ⟨es,c,h⟩:=H
 exact (Array.getElem?_eq_some_iff.1 h).1
end
section
open Go.RowKit
section
variable {x:Ms}{B M:Nat}{h:Hd}{m:Md}{T:Nat→Int}{g:Nat}{caps:Array Value}{W0:World}{k:Nat}
theorem ZmY:Go.Maps.Keyed Tryz.prog 3:=Go.Maps.int_keyed Tryz.underlying3
theorem ZmZ {k:Nat} (h:k<1000000):(Lit.int .i64 (k:Int)).wf=true:=WalkArith.wf_i64 (by omega)
theorem Zm0 {k:Nat} (h:k<1000000):keyOf Tryz.prog 3 (.int .i64 k)=some (.int .i64 k):=Go.Maps.keyOf_int_mk Tryz.underlying3 (ZmZ h)
end
end
section
open Go.RowKit
attribute [local go_sem] World.cell?_alloc_some
structure AnC (w:World) (A:Nat) (MP:Addr) (ko:Option Addr) (kc:Nat) (c:List In3):Prop where
 a4:w.cell? ⟨A,4,none⟩=some (.pointer (some MP))
 e6:w.cell? ⟨MP.block,MP.off+6,none⟩=some (.slice ko c.length kc)
 k:Zar w ko kc c
theorem AnC.keeps {w w':World}{A:Nat}{MP:Addr}{ko:Option Addr}{kc:Nat}{c:List In3} (H:AnC w A MP ko kc c) (hk:ZmV w w'):AnC w' A MP ko kc c:=⟨hk _ _ H.a4,hk _ _ H.e6,ZmW H.k hk⟩
theorem Zm1 {w:World}{b:Nat}{t:Rg} (hb:b=w.heap.size):Zar (w.alloc (.cells #[.int .i64 t.lo,.int .i64 t.hi] 44)) (some ⟨b,0,none⟩) 1 [t]:=by
 have:=ZdL (w:=w.alloc (.cells #[.int .i64 t.lo,.int .i64 t.hi] 44)) (b:=b) (xs:=#[.int .i64 t.lo,.int .i64 t.hi]) (t:=44) (Blk.new' _ _ hb) (n:=1) (size:=2) rfl
 exact this
theorem Zm2 (A:Nat) (a b:Int) (w:World):Calls Tryz.prog 194 #[.pointer (some ⟨A,0,none⟩),.agg #[.int .i64 14,.int .i64 a,.int .i64 b]] w (Ret w (.int .i64 0)):=by
 exact j14
theorem Zm3 (A:Nat) (a b:Int) (w:World):Calls Tryz.prog 194 #[.pointer (some ⟨A,0,none⟩),.agg #[.int .i64 18,.int .i64 a,.int .i64 b]] w (Ret w (.int .i64 2)):=by
 exact j14
theorem Zm4 (A:Nat) (a b:Int) (w:World):Calls Tryz.prog 194 #[.pointer (some ⟨A,0,none⟩),.agg #[.int .i64 2,.int .i64 a,.int .i64 b]] w (Ret w (.int .i64 0)):=by
 exact j14
section
variable (A:Nat)(MP:Addr)(ko:Option Addr)(kc:Nat)(c:List In3)(p:Nat)(w:World)(H:AnC w A MP ko kc c)(hp:p<c.length)
include A MP ko kc c p w H hp
theorem Zm5 (ho:(c.getD p default).op=14) (l:List Rg) (lo so to':Option Addr) (lc sn sc tn tc:Nat) (o:Int) (hl:Zar w lo lc l):Calls Tryz.prog 196 #[.pointer (some ⟨A,0,none⟩),.int .i64 p,.agg #[.slice lo l.length lc,.slice so sn sc,.int .i64 o],.slice to' tn tc] w (ZdF w [(⟨o,o⟩:Rg)]):=by
 have hp2:(p:Int) < c.length:=by omega
 have a4:=H.a4
 have e6:=H.e6
 obtain ⟨ad,rfl,o0,o1,o2⟩:=ZaA H.k hp
 rw [ho] at o0
 obtain ⟨ia,hia⟩:∃ z,z=(c.getD p default).a:=⟨_,rfl⟩
 rw [←hia] at o1
 obtain ⟨ib,hib⟩:∃ z,z=(c.getD p default).b:=⟨_,rfl⟩
 rw [←hib] at o2
 have hl4:=Zac a4
 have hl0:=Zac o0
 clear H ho hia hib hl
 go_enter Tryz.func196,Tryz.ntmps196
 go_wp2
 go_ret
 exact ⟨⟨_,1,rfl,Zm1 (t:=⟨o,o⟩) (by simp),fun a ha=>by cases ha;simp;omega⟩,by exact bE⟩
theorem Zm6 (ho:(c.getD p default).op=18) (l:List Rg) (lo so to':Option Addr) (lc sn sc tn tc:Nat) (o:Int) (hl:Zar w lo lc l):Calls Tryz.prog 196 #[.pointer (some ⟨A,0,none⟩),.int .i64 p,.agg #[.slice lo l.length lc,.slice so sn sc,.int .i64 o],.slice to' tn tc] w (ZdF w ([]:List Rg)):=by
 have hp2:(p:Int) < c.length:=by omega
 have a4:=H.a4
 have e6:=H.e6
 obtain ⟨ad,rfl,o0,o1,o2⟩:=ZaA H.k hp
 rw [ho] at o0
 obtain ⟨ia,hia⟩:∃ z,z=(c.getD p default).a:=⟨_,rfl⟩
 rw [←hia] at o1
 obtain ⟨ib,hib⟩:∃ z,z=(c.getD p default).b:=⟨_,rfl⟩
 rw [←hib] at o2
 have hl4:=Zac a4
 have hl0:=Zac o0
 clear H ho hia hib hl
 go_enter Tryz.func196,Tryz.ntmps196
 go_wp2
 go_ret
 exact ⟨⟨none,0,rfl,Zar.nil _,fun a ha=>by cases ha⟩,by exact bE⟩
theorem Zm7 (ho:(c.getD p default).op=2) (l:List Rg) (lo so to':Option Addr) (lc sn sc tn tc:Nat) (o:Int) (hl:Zar w lo lc l) {q:Nat} (hq:q<l.length) (hqa:(c.getD p default).a=q):Calls Tryz.prog 196 #[.pointer (some ⟨A,0,none⟩),.int .i64 p,.agg #[.slice lo l.length lc,.slice so sn sc,.int .i64 o],.slice to' tn tc] w (ZdF w [l.getD q default]):=by
 have hp2:(p:Int) < c.length:=by omega
 have a4:=H.a4
 have e6:=H.e6
 obtain ⟨ad,rfl,o0,o1,o2⟩:=ZaA H.k hp
 rw [ho] at o0
 rw [hqa] at o1
 have hq2:(q:Int) < l.length:=by omega
 obtain ⟨la,rfl,l0,l1⟩:=Zmn hl hq
 obtain ⟨⟨ql,qh⟩,hqq⟩:∃ z,z=l.getD q default:=⟨_,rfl⟩
 rw [←hqq] at l0 l1 ⊢
 dsimp only at l0 l1
 obtain ⟨ib,hib⟩:∃ z,z=(c.getD p default).b:=⟨_,rfl⟩
 rw [←hib] at o2
 have hl4:=Zac a4
 have hl0:=Zac o0
 clear H ho hqa hqq hib hl
 go_enter Tryz.func196,Tryz.ntmps196
 go_wp2
 go_ret
 exact ⟨⟨_,1,rfl,Zm1 (t:=⟨ql,qh⟩) (by simp),fun a ha=>by cases ha;simp;omega⟩,by exact bE⟩
end
end
section
open Go.RowKit
attribute [local go_sem] World.cell?_alloc_some
end
end Go.Proofs.YtcfjblcgceednaaGreat
