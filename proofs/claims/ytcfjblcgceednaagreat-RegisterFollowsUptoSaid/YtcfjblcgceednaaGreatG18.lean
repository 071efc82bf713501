import Derived.Test.YtcfjblcgceednaaGreatG16
import Derived.Test.YtcfjblcgceednaaGreatG15
import Derived.Test.YtcfjblcgceednaaGreatG17
set_option linter.all false
set_option maxRecDepth 100000
set_option maxHeartbeats 10000000
namespace Go.Proofs.YtcfjblcgceednaaGreat
theorem k8{p:Prop}(h:p:=by
 rw [←HW1.out];clear a0 a1 hal;refine kO HS.out (oL [0,1,2,3,4,5,6,7,8,9,10,11,12,13,14,15,16,17,18]) (Upd.of HB0.out).drew ?_;have HB1:=Zh HB0.out.drew
 repeat refine pO ?_
 refine Zd5 ?_;obtain ⟨y0,y1,g0,g1⟩:=Zki (HX.out.old HB0.out);go_wp2;refine bodyPost_ret (v:=.tuple #[.agg #[.int .i64 0,.int .i64 0],.bool false]) (by simp [results,Tryz.results338,go_sem,y0,y1]) rfl ?_;exact Zkl HPv.out (Zkj HBw.out HB1.out)):p:=h
theorem k12{p:Prop}(h:p:=by
 clear H Hj ht hr;go_enter Tryz.func273,Tryz.ntmps273;go_wp2;refine bodyPost_ret (v:=.tuple #[.agg #[.int .i64 0,.int .i64 0],.bool true]) (by simp [results,Tryz.results273,go_sem,Nat.add_zero]) rfl ?_;exact Zkk HPv.out bE):p:=h
theorem k13{p:Prop}(h:p:=by
 have i0:=(HBi.out.old HB3.out).cell 0 (v:=.int .i64 20) rfl;have HS2:=Zh (Zkh HS.out (Upd.of HB3.out) hx6 (by omega));clear hx6 x0 x1
 go_wp2_with fail
 refine kO HS2.out (oL [0,1,2,3,4,5,6,7,8,109,110,11]) (Upd.refl _ _ _).drew ?_
 repeat refine pO ?_
 refine oO fun Kv hK=>?_;go_simp;refine (HFi.out _ (Zaf HBw.out (Zaf HB3.out (show Below w6.heap.size w6 w6.drew by exact bE)))).mono ?_;rintro r w7 ⟨rfl,hb7⟩;have HBv:=Zh (Zaf (show Below w6.heap.size w6 w6.drew by exact bE) hb7);have HB4:=Zh (Zaf HB3.out HBv.out);refine hK _ _ ⟨HS2.out _ (Upd.of HBv.out),?_⟩;clear hK Kv hb7
 repeat refine pO ?_
 obtain ⟨y0,y1,g0,g1⟩:=Zki (HX.out.old HB4.out);refine oO fun Kv hK=>?_;go_simp;refine hK _ _ ⟨HS2.out _ (((Upd.of HBv.out).set 0 _).set 1 _),?_⟩;clear hK Kv
 repeat refine pO ?_
 refine Zd5 ?_;go_wp2;refine bodyPost_ret (v:=.tuple #[.agg #[.int .i64 0,.int .i64 0],.bool ft]) (by simp [results,Tryz.results338,go_sem,y0,y1]) rfl ?_;exact Zko HPv.out Hft.out (Zkj HBw.out HB4.out)):p:=h
theorem k15{p:Prop}(h:p:=by
 have HB0:=Zh (Below.refl W1.heap.size W1);have hne:=ZdW;have heq:=ZdV;have hgu:=ZdX;have hal:=Zac a0;clear H Hj ht hr;go_enter Tryz.func338,Tryz.ntmps338
 go_upto_region 12 with fail
 rw [←HW1.out];clear a0 a1 hal;refine kO HS.out (oL [1,2,3,100,4,5,6,7,8,109,10]) (Upd.of HB0.out).drew ?_;have HB1:=Zh HB0.out.drew
 repeat refine pO ?_
 refine oO fun Kv hK=>?_;go_simp;refine (Zj9 _).mono ?_;rintro r w5 ⟨rfl,hb5⟩;have HB2:=Zh (Zaf HB1.out hb5);refine hK _ _ ⟨HS.out _ (Upd.of HB2.out),?_⟩;clear hK Kv hb5
 repeat refine pO ?_
 obtain ⟨y0,y1,g0,g1⟩:=Zki (HX.out.old HB2.out);refine oO fun Kv hK=>?_;go_simp;refine hK _ _ ⟨HS.out _ (((Upd.of HB2.out).set 0 _).set 1 _),?_⟩;clear hK Kv
 repeat refine pO ?_
 refine Zd5 ?_;go_wp2;refine bodyPost_ret (v:=.tuple #[.agg #[.int .i64 1,.int .i64 0],.bool true]) (by simp [results,Tryz.results338,go_sem,y0,y1]) rfl ?_;exact k88):p:=h
theorem k17{p:Prop}(h:p:=by
 go_enter Tryz.func273,Tryz.ntmps273
 go_upto_region 39 with fail
 rw [←HW1.out];refine kO HS.out (oL [0,1,2,3,104,5,6,7,8,9,10,11,12,13,14,15,16,17,18,19,20,21,22,23,24,125,26,27,128,29]) (Upd.of HB0.out).drew ?_;have HB1:=Zh HB0.out.drew
 repeat refine pO ?_
 refine oO fun Kv hK=>?_;go_simp;refine (Zj9 _).mono ?_;rintro r w5 ⟨rfl,hb5⟩;have HB2:=Zh (Zaf HB1.out hb5);refine hK _ _ ⟨HS.out _ (Upd.of HB2.out),?_⟩;clear hK Kv hb5
 repeat refine pO ?_
 refine sO 185 (HS.out _ (Upd.of HB2.out)) ?_
 repeat refine pO ?_
 obtain ⟨y0,y1,g0,g1⟩:=Zki (HX.out.old HB2.out);refine oO fun Kv hK=>?_;go_simp;refine hK _ _ ⟨HS.out _ (((Upd.of HB2.out).set 0 _).set 1 _),?_⟩;clear hK Kv
 repeat refine pO ?_
 refine Zd5 ?_;go_wp2;refine bodyPost_ret (v:=.tuple #[.agg #[.int .i64 0,.int .i64 0],.bool false]) (by simp [results,Tryz.results273,go_sem,y0,y1]) rfl ?_;exact Zkl HPv.out (Zkj HBw.out HB2.out)):p:=h
theorem k44{p:Prop}(h:p:=by
 unfold Zkp;have hz:=fun j (hj:j<m.me.length)=>(ZfN hm hj).z.1;split
 ·rename_i q;have:=hz i.a.toNat (by have:=(hi.o25 q).1;have:=hi.a0 (by omega);omega);omega
 ·split
  ·simp
  ·rename_i x hx;obtain ⟨j,h1,h2,-⟩:=ZfV hi hc hx;have:=hz j (by omega);rw [←h2] at this;simp;omega):p:=h
theorem k58{p:Prop}(h:p:=by
 clear H Hj ht hr;go_enter Tryz.func273,Tryz.ntmps273;go_wp2;refine bodyPost_ret (v:=.tuple #[.agg #[.int .i64 3,.int .i64 0],.bool true]) (by simp [results,Tryz.results273,go_sem,Nat.add_zero]) rfl ?_;exact Zkk HPv.out bE):p:=h
theorem k88{p:Prop}(h:p:=by
 exact Zkk HPv.out (Zkj HBw.out HB2.out)):p:=h
section
open Go.RowKit
def Pk (w:World) (K:Nat) (h:Hd) (m:Md) (L S O:Value):Prop:=Blk w K #[.slice h.co m.cl.length h.cc,.slice h.so m.st.length h.sc,.slice h.eo m.me.length h.ec,.int .i64 m.sel,L,S,O] 229
theorem Pk.cells {w:World}{K:Nat}{h:Hd}{m:Md}{L S O:Value} (H:Pk w K h m L S O):K<w.heap.size∧w.cell? ⟨K,0,none⟩=some (.slice h.co m.cl.length h.cc)∧w.cell? ⟨K,1,none⟩=some (.slice h.so m.st.length h.sc)∧w.cell? ⟨K,2,none⟩=some (.slice h.eo m.me.length h.ec)∧w.cell? ⟨K,3,none⟩=some (.int .i64 m.sel)∧w.cell? ⟨K,4,none⟩=some L:=
 ⟨Blk.lt H,Blk.cell H 0 rfl,Blk.cell H 1 rfl,Blk.cell H 2 rfl,Blk.cell H 3 rfl,Blk.cell H 4 rfl⟩
theorem Zj4 {w w':World} (b:Below w.heap.size w w') {p:Addr}{v:Value} (a:w.cell? p=some v):w'.cell? p=some v:=(b.cell (Zac a)).trans a
theorem Zj5 {w:World}{K:Nat}{h:Hd}{m:Md}{t:TypeId} (H:Blk w K (HM.mk h m) t):w.cell? ⟨K,0,none⟩=some (.slice h.co m.cl.length h.cc)∧w.cell? ⟨K,1,none⟩=some (.slice h.so m.st.length h.sc)∧w.cell? ⟨K,2,none⟩=some (.slice h.eo m.me.length h.ec)∧w.cell? ⟨K,3,none⟩=some (.int .i64 m.sel):=
 ⟨H.cell 0 rfl,H.cell 1 rfl,H.cell 2 rfl,H.cell 3 rfl⟩
def Zj6 (W:World) (q:Option Ty):Ending→World→Prop:=fun e w'=>∃ t:Ty,e=.returned (.tuple #[.agg #[.int .i64 t.k,.int .i64 t.c],.bool q.isSome])∧(∀ u,q=some u→t=u)∧Below W.heap.size W w'
theorem Zj7 {W w':World}{q:Option Ty}{x y:Int}{b:Bool} (a:b=q.isSome) (ht:∀ u,q=some u→(⟨x,y⟩:Ty)=u) (h:Below W.heap.size W w'):Zj6 W q (.returned (.tuple #[.agg #[.int .i64 x,.int .i64 y],.bool b])) w':=⟨⟨x,y⟩,by rw [a],ht,h⟩
theorem Zj8 {w c w':World}{b:Nat} (d:Below w.heap.size w c) (e:w.heap.size≤b) (f:Upd b b c w') {p:Addr}{v:Value} (a:w.cell? p=some v):w'.cell? p=some v:=
 f.cell ((d.cell (Zac a)).trans a) (by have:=Zac a;omega) (by have:=Zac a;omega)
theorem Zj9 (w:World):Calls Tryz.prog 337 #[] w (Ret w (.agg #[.int .i64 1,.int .i64 0])):=by go_enter Tryz.func337,Tryz.ntmps337;go_wp2;exact bodyPost_ret (v:=.agg #[.int .i64 1,.int .i64 0]) (by simp [results,Tryz.results337,go_sem]) rfl ⟨rfl,by exact bE⟩
theorem Zka {w:World}{g:Option Addr}{c:Nat}{a:Ty} (j:Zar w g c ([a]:List Ty)):∃ b,g=some b∧w.cell? b=some (.int .i64 a.k)∧w.cell? ⟨b.block,b.off+1,none⟩=some (.int .i64 a.c):=by obtain ⟨b,d,e,f⟩:=Zaz j (i:=0) (by simp);simp only [Nat.zero_mul,List.getD_cons_zero,show b.add 0=b from by simp [Addr.add]] at e f;exact ⟨b,d,e,f⟩
theorem Zkb {w:World}{n:Option Addr}{f:Nat}{a b:Ty} (l:Zar w n f ([a,b]:List Ty)):∃ c,n=some c∧w.cell? c=some (.int .i64 a.k)∧w.cell? ⟨c.block,c.off+1,none⟩=some (.int .i64 a.c)∧w.cell? ⟨c.block,c.off+2,none⟩=some (.int .i64 b.k)∧w.cell? ⟨c.block,c.off+3,none⟩=some (.int .i64 b.c):=by obtain ⟨c,e,g,j⟩:=Zaz l (i:=0) (by simp);obtain ⟨o,d,p,q⟩:=Zaz l (i:=1) (by simp);rw [e] at d;cases d;simp only [Nat.zero_mul,List.getD_cons_zero,show c.add 0=c from by simp [Addr.add]] at g j;exact ⟨c,e,g,j,p,q⟩
theorem Zkc {w:World}{p:Option Addr}{j:Nat}{a b d:Ty} (l:Zar w p j ([a,b,d]:List Ty)):∃ c,p=some c∧w.cell? c=some (.int .i64 a.k)∧w.cell? ⟨c.block,c.off+1,none⟩=some (.int .i64 a.c)∧w.cell? ⟨c.block,c.off+2,none⟩=some (.int .i64 b.k)∧w.cell? ⟨c.block,c.off+3,none⟩=some (.int .i64 b.c)∧w.cell? ⟨c.block,c.off+4,none⟩=some (.int .i64 d.k)∧w.cell? ⟨c.block,c.off+5,none⟩=some (.int .i64 d.c):=by obtain ⟨c,g,n,o⟩:=Zaz l (i:=0) (by simp);obtain ⟨q,e,u,v⟩:=Zaz l (i:=1) (by simp);obtain ⟨r,f,x,y⟩:=Zaz l (i:=2) (by simp);rw [g] at e f;cases e;cases f;simp only [Nat.zero_mul,List.getD_cons_zero,show c.add 0=c from by simp [Addr.add]] at n o;exact ⟨c,g,n,o,u,v,x,y⟩
def Zkd (S:World→Prop) (r:Nat) (W1:World):Prop:=∀ w',Upd r r W1 w'→S w'
theorem Zke {w c w':World}{b:Nat} (d:Below w.heap.size w c) (a:w.heap.size≤b) (e:Upd b b c w'):∀ {l:List (Addr × Value)},Cs l w→Cs l w'
 | [],_=>trivial
 | (_,_) :: _,h=>⟨Zj8 d a e h.1,Zke d a e h.2⟩
theorem Zkf (w:World) (op ia ib:Int) {l:List (Addr × Value)} (h:Cs l w):∃ a,RowKit.Hid (a=((w.alloc (.cells #[.int .i64 op,.int .i64 ia,.int .i64 ib] 78)).alloc (.cells #[.int .i64 0,.int .i64 0] 76)))∧RowKit.Hid (Below w.heap.size w a)∧RowKit.Hid (Blk a (w.heap.size+1) #[.int .i64 0,.int .i64 0] 76) ∧
  RowKit.Hid (Zkd (fun w'=>Cs l w'∧Cs [(⟨w.heap.size,0,none⟩,.int .i64 op),(⟨w.heap.size,1,none⟩,.int .i64 ia),(⟨w.heap.size,2,none⟩,.int .i64 ib)] w') (w.heap.size+1) a)∧w.heap.size+1<a.heap.size:=by
 obtain ⟨a,b⟩:∃ a,a=((w.alloc (.cells #[.int .i64 op,.int .i64 ia,.int .i64 ib] 78)).alloc (.cells #[.int .i64 0,.int .i64 0] 76)):=⟨_,rfl⟩;have d:Below w.heap.size w a:=by rw [b];exact bE
 have c:Blk a w.heap.size #[.int .i64 op,.int .i64 ia,.int .i64 ib] 78:=by rw [b];exact ((Blk.new w _ _).alloc _)
 have e:Blk a (w.heap.size+1) #[.int .i64 0,.int .i64 0] 76:=by rw [b];exact (Blk.new' (w:=w.alloc (.cells #[.int .i64 op,.int .i64 ia,.int .i64 ib] 78)) _ _ (by simp))
 exact ⟨a,b,d,e,fun w' f=>⟨Zke d (Nat.le_succ _) f h,f.cell (c.cell 0 rfl) (by show w.heap.size≠_;omega) (by show w.heap.size≠_;omega),f.cell (c.cell 1 rfl) (by show w.heap.size≠_;omega) (by show w.heap.size≠_;omega),f.cell (c.cell 2 rfl) (by show w.heap.size≠_;omega) (by show w.heap.size≠_;omega),trivial⟩,e.lt⟩
theorem Zkg (w:World) (op ia ib n j:Int) {l:List (Addr × Value)} (h:Cs l w):∃ a,RowKit.Hid (a=((w.alloc (.cells #[.int .i64 op,.int .i64 ia,.int .i64 ib] 78)).alloc (.cells #[.int .i64 0,.int .i64 0] 76)).alloc (.cells #[.int .i64 n,.int .i64 j] 76))∧RowKit.Hid (Below w.heap.size w a)∧RowKit.Hid (Blk a (w.heap.size+1) #[.int .i64 0,.int .i64 0] 76)∧RowKit.Hid (Blk a (w.heap.size+2) #[.int .i64 n,.int .i64 j] 76)∧RowKit.Hid (Blk a w.heap.size #[.int .i64 op,.int .i64 ia,.int .i64 ib] 78) ∧
  RowKit.Hid (Zkd (fun w'=>Cs l w'∧Cs [(⟨w.heap.size+2,0,none⟩,.int .i64 n),(⟨w.heap.size+2,1,none⟩,.int .i64 j),(⟨w.heap.size,0,none⟩,.int .i64 op),(⟨w.heap.size,1,none⟩,.int .i64 ia),(⟨w.heap.size,2,none⟩,.int .i64 ib)] w') (w.heap.size+1) a)∧w.heap.size+1<a.heap.size:=by
 obtain ⟨a,b⟩:∃ a,a=((w.alloc (.cells #[.int .i64 op,.int .i64 ia,.int .i64 ib] 78)).alloc (.cells #[.int .i64 0,.int .i64 0] 76)).alloc (.cells #[.int .i64 n,.int .i64 j] 76):=⟨_,rfl⟩;have f:Below w.heap.size w a:=by rw [b];exact bE
 have c:Blk a w.heap.size #[.int .i64 op,.int .i64 ia,.int .i64 ib] 78:=by rw [b];exact ((Blk.new w _ _).alloc _).alloc _
 have g:Blk a (w.heap.size+1) #[.int .i64 0,.int .i64 0] 76:=by rw [b];exact (Blk.new' (w:=w.alloc (.cells #[.int .i64 op,.int .i64 ia,.int .i64 ib] 78)) _ _ (by simp)).alloc _
 have d:Blk a (w.heap.size+2) #[.int .i64 n,.int .i64 j] 76:=by rw [b];exact Blk.new' (w:=(w.alloc (.cells #[.int .i64 op,.int .i64 ia,.int .i64 ib] 78)).alloc (.cells #[.int .i64 0,.int .i64 0] 76)) _ _ (by simp)
 exact ⟨a,b,f,g,d,c,fun w' e=>⟨Zke f (Nat.le_succ _) e h,e.cell (d.cell 0 rfl) (by show w.heap.size+2≠_;omega) (by show w.heap.size+2≠_;omega),e.cell (d.cell 1 rfl) (by show w.heap.size+2≠_;omega) (by show w.heap.size+2≠_;omega),e.cell (c.cell 0 rfl) (by show w.heap.size≠_;omega) (by show w.heap.size≠_;omega),e.cell (c.cell 1 rfl) (by show w.heap.size≠_;omega) (by show w.heap.size≠_;omega),e.cell (c.cell 2 rfl) (by show w.heap.size≠_;omega) (by show w.heap.size≠_;omega),trivial⟩,g.lt⟩
theorem Zkh {S:World→Prop}{r b:Nat}{e d:World} (l:Zkd S r e) (n:Upd r r e d) {j g:Int}{t:TypeId} (f:Blk d b #[.int .i64 j,.int .i64 g] t) (c:b≠r):Zkd (fun w'=>S w'∧Cs [(⟨b,0,none⟩,.int .i64 j),(⟨b,1,none⟩,.int .i64 g)] w') r d:=
 fun w' a=>⟨l w' (n.trans a),a.cell (f.cell 0 rfl) c c,a.cell (f.cell 1 rfl) c c,trivial⟩
theorem kO {P:Program}{S:World→Prop}{Q:Exit→Act→World→Prop}{id r:Nat}{a:Act}{W1 w:World}{l:List Oper} (HS:Zkd S r W1) (t:Ord) (hu:Upd r r W1 w.drew) (h:ZdY P l Q S t a w.drew) (hm:P.follows .mixedOrders=true:=by kernel_rfl)
  (hB:(Region.noSelect l.toArray&&decide (t.len=l.length)&&t.inB l.length&&ZdZ .any l.toArray t (Array.replicate l.length false))=true:=by kernel_rfl) (hQ:∀ c a d v w,Q (.panic c) (Act.put a d v) w→Q (.panic c) a w:=by intro c a d v w h;cases d<;>exact h):(Code.region id l.toArray true).wp P Q a w:=Zd1 S t hm hB hQ (HS _ hu) h
theorem sO {P:Program}{S:World→Prop}{Q:Exit→Act→World→Prop}{l:List Oper}{k:Nat}{t:Ord}{a a':Act}{w:World} (d:Tmp) (hS:S w) (h:ZdY P l Q S t a' w) (hs:(l.toArray[k]?.map fun o=>(o.dst,Region.wanted o (yielded l.toArray a.tmps)))=some (some d,false):=by rfl)
  (ha:({ a with tmps:=a.tmps.setIfInBounds d undef }:Act)=a':=by ((try simp only [List.setIfInBounds_toArray,List.set_cons_zero,List.set_cons_succ]);rfl)):ZdY P l Q S (.one k t) a w:=by
 subst ha;exact Zd3 (Zh0 d hs ⟨hS,h⟩)
theorem Zki {w:World}{b:Nat}{t:TypeId} (H:Blk w b #[.int .i64 0,.int .i64 0] t):w.cell? ⟨b,0,none⟩=some (.int .i64 0)∧w.cell? ⟨b,1,none⟩=some (.int .i64 0)∧w.frozen? ⟨b,0,none⟩=false∧w.frozen? ⟨b,1,none⟩=false:=⟨H.cell 0 rfl,H.cell 1 rfl,H.frozen 0,H.frozen 1⟩
theorem Zkj {w a w':World} (c:Below w.heap.size w a) (b:Below a.heap.size a w') {v u:Value}:Below w.heap.size w ((w'.setCell ⟨w.heap.size+1,0,none⟩ v).setCell ⟨w.heap.size+1,1,none⟩ u):=ZcW (ZcW (Zaf c b) (Nat.le_succ _) _) (Nat.le_succ _) _
theorem Zkk {W w':World}{q:Option Ty}{x y:Int} (h:q=some ⟨x,y⟩) (a:Below W.heap.size W w'):Zj6 W q (.returned (.tuple #[.agg #[.int .i64 x,.int .i64 y],.bool true])) w':=Zj7 (by rw [h];rfl) (fun u b=>Option.some.inj (h.symm.trans b)) a
theorem Zkl {W w':World}{q:Option Ty}{x y:Int} (h:q=none) (b:Below W.heap.size W w'):Zj6 W q (.returned (.tuple #[.agg #[.int .i64 x,.int .i64 y],.bool false])) w':=Zj7 (by rw [h];rfl) (fun u a=>by rw [h] at a;cases a) b
theorem Zkm {c:Bool}{t:Ty}:c=(if c=true then some t else none).isSome:=by cases c<;>rfl
theorem Zkn {c:Bool}{t u:Ty} (h:(if c=true then some t else none)=some u):t=u:=by cases c<;>simp_all
theorem Zko {W w':World}{q:Option Ty}{x y:Int}{b c:Bool} (h:q=if c=true then some ⟨x,y⟩ else none) (d:b=c) (a:Below W.heap.size W w'):Zj6 W q (.returned (.tuple #[.agg #[.int .i64 x,.int .i64 y],.bool b])) w':=Zj7 (by rw [h,d];exact Zkm) (fun u e=>Zkn (h.symm.trans e)) a
end
section
open Go.RowKit
def Zkp (m:Md) (i:In3):List Ty:=if i.op=25 then (m.me.getD i.a.toNat default).p else match Zew m i with
 | none=>[]
 | some x=>⟨2,-1⟩ :: x.p
def Zkq (m:Md) (i:In3):Ty:=match Zew m i with
 | none=>ty0
 | some x=>x.r
section
variable {w:World}{K:Nat}{h:Hd}{m:Md}{L S O:Value}(H:Pk w K h m L S O)(Hj:Zay w h m)(hm:Za1 m=true){ia:Nat}{ib:Int}
include w K h m L S O H Hj hm ia ib
theorem Zkr (hj:ia<m.me.length):
  Calls Tryz.prog 336 #[ZQ.p K,.agg #[.int .i64 25,.int .i64 ia,.int .i64 ib]] w (ZdE w (m.me.getD ia default).p):=by
 obtain ⟨Y,k0,k1,k2,k3,-⟩:=H.cells;obtain ⟨R,heo,-,-,G,-,T,U,-⟩:=Hj.mth hj;obtain ⟨ma,C⟩:∃ a,a=R.add (ia*7):=⟨_,rfl⟩;rw [←C] at G T U;rw [heo] at k2;obtain ⟨ps,E⟩:∃ l,l=(m.me.getD ia default).p:=⟨_,rfl⟩;rw [←E] at G ⊢;have M:=Zh E;clear E;obtain ⟨V,D⟩:∃ n,n=ps.length:=⟨_,rfl⟩;rw [←D] at G;obtain ⟨A,f⟩:∃ A,A=(w.alloc (.cells #[.int .i64 25,.int .i64 ia,.int .i64 ib] 78)):=⟨_,rfl⟩;have y:Below w.heap.size w A:=by rw [f];exact bE
 have z:Blk A w.heap.size #[.int .i64 25,.int .i64 ia,.int .i64 ib] 78:=by rw [f];exact (Blk.new w _ _)
 have hS:∀ w',Below A.heap.size A w'→(fun w':World=>w'.cell? ⟨K,2,none⟩=some (.slice (some R) m.me.length h.ec)∧w'.cell? ⟨ma.block,ma.off+2,none⟩=some (.slice (h.e ia).po V (h.e ia).pc)∧w'.cell? ⟨w.heap.size,0,none⟩=some (.int .i64 25)∧w'.cell? ⟨w.heap.size,1,none⟩=some (.int .i64 ia)∧w'.cell? ⟨w.heap.size,2,none⟩=some (.int .i64 ib)) w':=fun w' hu=>⟨Zj4 (Zaf y hu) k2,Zj4 (Zaf y hu) G,(z.old hu).cell 0 rfl,(z.old hu).cell 1 rfl,(z.old hu).cell 2 rfl⟩;have HS:=Zh hS;have HBw:=Zh y;have N:=Zh f;have I:=Zh Hj;have HMa:=Zh C;have X:(ia:Int) < m.me.length:=by omega
 have F:=Zh (Below.refl A.heap.size A);have J:=Zh D;clear hS f y z H Hj hm k0 k1 k2 k3 C heo G T U D;go_enter Tryz.func336,Tryz.ntmps336
 go_upto_region 2 with fail
 rw [←N.out];refine rO (fun w':World=>w'.cell? ⟨K,2,none⟩=some (.slice (some R) m.me.length h.ec)∧w'.cell? ⟨ma.block,ma.off+2,none⟩=some (.slice (h.e ia).po V (h.e ia).pc)∧w'.cell? ⟨w.heap.size,0,none⟩=some (.int .i64 25)∧w'.cell? ⟨w.heap.size,1,none⟩=some (.int .i64 ia)∧w'.cell? ⟨w.heap.size,2,none⟩=some (.int .i64 ib)) (oL [0,1,2,3,4,5,6,7,8,9,10]) (HS.out _ F.out.drew) ?_;have HB1:=Zh F.out.drew
 iterate 8 (refine pO ?_)
 rw [←HMa.out]
 repeat refine pO ?_
 refine Zd5 ?_;go_wp2;go_ret;rw [J.out];exact ⟨⟨_,_,rfl,by rw [M.out];exact (I.out.old (Zaf HBw.out HB1.out)).p ia hj⟩,Zaf HBw.out HB1.out⟩
theorem Zks (U:(ia:Int) < m.sel) (I:ZaN m ia=[]):
  Calls Tryz.prog 336 #[ZQ.p K,.agg #[.int .i64 26,.int .i64 ia,.int .i64 ib]] w (ZdE w ([]:List Ty)):=by
 obtain ⟨Y,k0,k1,k2,k3,-⟩:=H.cells;obtain ⟨y,z⟩:∃ y,y=(w.alloc (.cells #[.int .i64 26,.int .i64 ia,.int .i64 ib] 78)):=⟨_,rfl⟩;have f:Below w.heap.size w y:=by rw [z];exact bE
 have A:Blk y w.heap.size #[.int .i64 26,.int .i64 ia,.int .i64 ib] 78:=by rw [z];exact (Blk.new w _ _)
 have hS:∀ w',Below y.heap.size y w'→(fun w':World=>w'.cell? ⟨K,0,none⟩=some (.slice h.co m.cl.length h.cc)∧w'.cell? ⟨K,1,none⟩=some (.slice h.so m.st.length h.sc)∧w'.cell? ⟨K,2,none⟩=some (.slice h.eo m.me.length h.ec)∧w'.cell? ⟨K,3,none⟩=some (.int .i64 m.sel)∧w'.cell? ⟨w.heap.size,0,none⟩=some (.int .i64 26)∧w'.cell? ⟨w.heap.size,1,none⟩=some (.int .i64 ia)∧w'.cell? ⟨w.heap.size,2,none⟩=some (.int .i64 ib)) w':=fun w' hu=>⟨Zj4 (Zaf f hu) k0,Zj4 (Zaf f hu) k1,Zj4 (Zaf f hu) k2,Zj4 (Zaf f hu) k3,(A.old hu).cell 0 rfl,(A.old hu).cell 1 rfl,(A.old hu).cell 2 rfl⟩;have HS:=Zh hS;have HBw:=Zh f;have M:=Zh z;have R:=Zh Hj;have C:=Zh (Below.refl y.heap.size y);have HT:=Zh (show ∀ w',Below y.heap.size y w'→Calls Tryz.prog 348 #[.agg (HM.mk h m),.int .i64 ia] w' (Zij w' (ZaN m ia) 0) from fun w' N=>Zjn m h ia w' (Hj.old (Zaf f N)) hm U);obtain ⟨V,F⟩:∃ n,n=(ZaN m ia).length:=⟨_,rfl⟩;have D:=Zh F;have J:=Zh I;clear hS z f A H Hj hm k0 k1 k2 k3 I F;go_enter Tryz.func336,Tryz.ntmps336
 go_upto_region 3 with fail
 rw [←M.out];refine rO (fun w':World=>w'.cell? ⟨K,0,none⟩=some (.slice h.co m.cl.length h.cc)∧w'.cell? ⟨K,1,none⟩=some (.slice h.so m.st.length h.sc)∧w'.cell? ⟨K,2,none⟩=some (.slice h.eo m.me.length h.ec)∧w'.cell? ⟨K,3,none⟩=some (.int .i64 m.sel)∧w'.cell? ⟨w.heap.size,0,none⟩=some (.int .i64 26)∧w'.cell? ⟨w.heap.size,1,none⟩=some (.int .i64 ia)∧w'.cell? ⟨w.heap.size,2,none⟩=some (.int .i64 ib)) (oL [0,1,2,3,4,5,106,7,8,9,10,11]) (HS.out _ C.out.drew) ?_;have HB1:=Zh C.out.drew
 repeat refine pO ?_
 refine oO fun Kv hK=>?_;go_simp;refine (HT.out _ HB1.out).mono ?_;rintro r Z ⟨⟨X,T,rfl,G⟩,E⟩;have HB2:=Zh (Zaf HB1.out E);rw [←D.out];refine hK _ _ ⟨HS.out _ HB2.out,?_⟩;clear hK Kv E
 repeat refine pO ?_
 refine Zd5 ?_;have hn0:V=0:=by rw [D.out,J.out];rfl
 subst hn0;clear G;go_wp2;go_ret;exact ⟨⟨none,0,rfl,Zar.nil _⟩,Zaf HBw.out HB2.out⟩
theorem Zkt (hs:(ia:Int) < m.sel) {y:Nat} {ak:List Int} (ai:ZaN m ia=(y:Int) :: ak) (R:y<m.me.length):
  Calls Tryz.prog 336 #[ZQ.p K,.agg #[.int .i64 26,.int .i64 ia,.int .i64 ib]] w (ZdE w ((⟨2,-1⟩:Ty) :: (m.me.getD y default).p)):=by
 obtain ⟨kl,k0,k1,k2,k3,-⟩:=H.cells;have T:=k2;obtain ⟨ea,heo,-,-,Z,-,f4,f5,-⟩:=Hj.mth R;obtain ⟨ma,J⟩:∃ a,a=ea.add (y*7):=⟨_,rfl⟩;rw [←J] at Z f4 f5;rw [heo] at T;have ah:(m.me.getD y default).p.length≤4:=(ZfN hm R).z.1;obtain ⟨ps,N⟩:∃ l,l=(m.me.getD y default).p:=⟨_,rfl⟩;rw [←N] at Z ah ⊢;have ar:=Zh N;clear N;obtain ⟨np,M⟩:∃ n,n=ps.length:=⟨_,rfl⟩;rw [←M] at Z ah;obtain ⟨C,E⟩:∃ C,C=(w.alloc (.cells #[.int .i64 26,.int .i64 ia,.int .i64 ib] 78)):=⟨_,rfl⟩;have f:Below w.heap.size w C:=by rw [E];exact bE
 have z:Blk C w.heap.size #[.int .i64 26,.int .i64 ia,.int .i64 ib] 78:=by rw [E];exact (Blk.new w _ _)
 have hS:∀ w',Below C.heap.size C w'→(fun w':World=>w'.cell? ⟨K,0,none⟩=some (.slice h.co m.cl.length h.cc)∧w'.cell? ⟨K,1,none⟩=some (.slice h.so m.st.length h.sc)∧w'.cell? ⟨K,2,none⟩=some (.slice h.eo m.me.length h.ec)∧w'.cell? ⟨K,3,none⟩=some (.int .i64 m.sel)∧w'.cell? ⟨w.heap.size,0,none⟩=some (.int .i64 26)∧w'.cell? ⟨w.heap.size,1,none⟩=some (.int .i64 ia)∧w'.cell? ⟨w.heap.size,2,none⟩=some (.int .i64 ib)) w':=fun w' hu=>⟨Zj4 (Zaf f hu) k0,Zj4 (Zaf f hu) k1,Zj4 (Zaf f hu) k2,Zj4 (Zaf f hu) k3,(z.old hu).cell 0 rfl,(z.old hu).cell 1 rfl,(z.old hu).cell 2 rfl⟩;have HS:=Zh hS;have aa:∀ w',Below C.heap.size C w'→(fun w':World=>w'.cell? ⟨K,2,none⟩=some (.slice (some ea) m.me.length h.ec)∧w'.cell? ⟨ma.block,ma.off+2,none⟩=some (.slice (h.e y).po np (h.e y).pc)∧w'.cell? ⟨w.heap.size,0,none⟩=some (.int .i64 26)∧w'.cell? ⟨w.heap.size,1,none⟩=some (.int .i64 ia)∧w'.cell? ⟨w.heap.size,2,none⟩=some (.int .i64 ib)) w':=fun w' hu=>⟨Zj4 (Zaf f hu) T,Zj4 (Zaf f hu) Z,(z.old hu).cell 0 rfl,(z.old hu).cell 1 rfl,(z.old hu).cell 2 rfl⟩;have au:=Zh aa;have HMa:=Zh J;have X:=Zh M;have HBw:=Zh f;have av:=Zh E;have ap:=Zh Hj;have U:=Zh (Below.refl C.heap.size C);have HT:=Zh (show ∀ w',Below C.heap.size C w'→Calls Tryz.prog 348 #[.agg (HM.mk h m),.int .i64 ia] w' (Zij w' (ZaN m ia) 0) from fun w' ax=>Zjn m h ia w' (Hj.old (Zaf f ax)) hm hs);obtain ⟨nt,ag⟩:∃ n,n=(ZaN m ia).length:=⟨_,rfl⟩;have G:=Zh ag;have Y:=Zh ai;clear hS E f z H Hj hm k0 k1 k2 k3 ai ag J heo Z f4 f5 aa T M
 go_enter Tryz.func336,Tryz.ntmps336
 go_upto_region 3 with fail
 rw [←av.out];refine rO (fun w':World=>w'.cell? ⟨K,0,none⟩=some (.slice h.co m.cl.length h.cc)∧w'.cell? ⟨K,1,none⟩=some (.slice h.so m.st.length h.sc)∧w'.cell? ⟨K,2,none⟩=some (.slice h.eo m.me.length h.ec)∧w'.cell? ⟨K,3,none⟩=some (.int .i64 m.sel)∧w'.cell? ⟨w.heap.size,0,none⟩=some (.int .i64 26)∧w'.cell? ⟨w.heap.size,1,none⟩=some (.int .i64 ia)∧w'.cell? ⟨w.heap.size,2,none⟩=some (.int .i64 ib)) (oL [0,1,2,3,4,5,106,7,8,9,10,11]) (HS.out _ U.out.drew) ?_;have HB1:=Zh U.out.drew
 repeat refine pO ?_
 refine oO fun Kv hK=>?_;go_simp;refine (HT.out _ HB1.out).mono ?_;rintro r A ⟨⟨ao,aD,rfl,F⟩,ac⟩;have HB2:=Zh (Zaf HB1.out ac);rw [←G.out];refine hK _ _ ⟨HS.out _ HB2.out,?_⟩;clear hK Kv ac
 repeat refine pO ?_
 refine Zd5 ?_;have hn0:0<nt:=by rw [G.out,Y.out];simp
 have aF:((nt:Int) == 0)=false:=by simp;omega
 obtain ⟨ta,aw,t0⟩:=ZaB F (i:=0) (by have:=G.out;omega);rw [show ta.add 0=ta from by simp [Addr.add],Y.out] at t0;have al:A.cell? ta=some (.int .i64 y):=t0;subst aw;have aA:(y:Int) < m.me.length:=by omega
 have ab:∀ w',Below A.heap.size A w'→(fun w':World=>w'.cell? ⟨K,2,none⟩=some (.slice (some ea) m.me.length h.ec)∧w'.cell? ⟨ma.block,ma.off+2,none⟩=some (.slice (h.e y).po np (h.e y).pc)∧w'.cell? ta=some (.int .i64 y)∧w'.cell? ⟨w.heap.size,0,none⟩=some (.int .i64 26)∧w'.cell? ⟨w.heap.size,1,none⟩=some (.int .i64 ia)∧w'.cell? ⟨w.heap.size,2,none⟩=some (.int .i64 ib)) w':=fun w' hu=>by obtain ⟨z0,z1,z2,z3,z4⟩:=au.out w' (Zaf HB2.out hu);exact ⟨z0,z1,Zj4 hu al,z2,z3,z4⟩
 have I:=Zh ab;clear ab F t0 al
 go_wp2_with fail
 refine rO (fun w':World=>w'.cell? ⟨K,2,none⟩=some (.slice (some ea) m.me.length h.ec)∧w'.cell? ⟨ma.block,ma.off+2,none⟩=some (.slice (h.e y).po np (h.e y).pc)∧w'.cell? ta=some (.int .i64 y)∧w'.cell? ⟨w.heap.size,0,none⟩=some (.int .i64 26)∧w'.cell? ⟨w.heap.size,1,none⟩=some (.int .i64 ia)∧w'.cell? ⟨w.heap.size,2,none⟩=some (.int .i64 ib)) (oL [0,2,3,4,5,6,7,8,9,10,11,12,101,113,14]) (I.out _ (show Below A.heap.size A A.drew by exact bE)) ?_
 iterate 10 (refine pO ?_)
 rw [←HMa.out]
 repeat refine pO ?_
 refine oO fun Kv hK=>?_;go_simp;have HB3:=Zh (show Below A.heap.size A (A.alloc (.cells #[.int .i64 2,.int .i64 (-1)] 76)).drew by exact bE);refine hK _ _ ⟨I.out _ HB3.out,?_⟩;clear hK Kv
 repeat refine pO ?_
 have HO:=Zh (World.ownsRow.drew (World.ownsRow_lit (base:=A.heap.size) (e:=76) (size:=2) A #[.int .i64 2,.int .i64 (-1)] 1 (Nat.le_refl _) (by decide) rfl));have HR:=Zh ((ap.out.old (Zaf (Zaf HBw.out HB2.out) HB3.out)).p y R);refine oO fun Kv hK=>?_;refine Zej (.tmp 34) (.tmp 45) 23 rfl A.heap.size 76 2 16 Zff _ 1 _ rfl HO.out (h.e y).po np (h.e y).pc (Zak ps) rfl (by rw [X.out,ar.out];exact HR.out) (Zaq _) (by omega) (by unfold maxLen;omega) (by simp) ?_;intro ao2 cap2 w4 D ae;have aq:=Zh D;have V:=Zh ((show Below A.heap.size A (A.alloc (.cells #[.int .i64 2,.int .i64 (-1)] 76)).drew from HB3.out).grown ae (by simp) (fun k hk=>by cases hk;exact Nat.le_refl _));refine hK _ _ ⟨I.out _ V.out,?_⟩;clear hK Kv D ae
 repeat refine pO ?_
 refine Zd5 ?_;go_wp2;go_ret;have af:((⟨2,-1⟩:Ty) :: ps).length=1+np:=by rw [List.length_cons,←X.out,Nat.add_comm]
 refine ⟨⟨ao2,cap2,?_,?_⟩,Zaf (Zaf HBw.out HB2.out) V.out⟩
 ·rw [af];rfl
 ·have h9:=(Zah aq.out).2;unfold Zar;rw [af];exact h9
theorem Zku (hj:ia<m.me.length):
  Calls Tryz.prog 335 #[ZQ.p K,.agg #[.int .i64 25,.int .i64 ia,.int .i64 ib]] w (Ret w (.agg #[.int .i64 (m.me.getD ia default).r.k,.int .i64 (m.me.getD ia default).r.c])):=by
 obtain ⟨Z,k0,k1,k2,k3,-⟩:=H.cells;obtain ⟨M,heo,-,-,T,-,G,I,-⟩:=Hj.mth hj;obtain ⟨ma,F⟩:∃ a,a=M.add (ia*7):=⟨_,rfl⟩;rw [←F] at T G I;rw [heo] at k2;obtain ⟨⟨N,R⟩,U⟩:∃ r:Ty,r=(m.me.getD ia default).r:=⟨_,rfl⟩;rw [←U] at G I ⊢;dsimp only at G I ⊢;obtain ⟨C,f⟩:∃ C,C=(w.alloc (.cells #[.int .i64 25,.int .i64 ia,.int .i64 ib] 78)).alloc (.cells #[.int .i64 0,.int .i64 0] 76):=⟨_,rfl⟩;have y:Below w.heap.size w C:=by rw [f];exact bE
 have z:Blk C w.heap.size #[.int .i64 25,.int .i64 ia,.int .i64 ib] 78:=by rw [f];exact (Blk.new w _ _).alloc _
 have E:Blk C (w.heap.size+1) #[.int .i64 0,.int .i64 0] 76:=by rw [f];exact Blk.new' (w:=w.alloc (.cells #[.int .i64 25,.int .i64 ia,.int .i64 ib] 78)) _ _ (by simp)
 have HX:=Zh E;have Y:=E.lt;have hS:∀ w',Upd (w.heap.size+1) (w.heap.size+1) C w'→(fun w':World=>w'.cell? ⟨K,2,none⟩=some (.slice (some M) m.me.length h.ec)∧w'.cell? ⟨ma.block,ma.off+4,none⟩=some (.int .i64 N)∧w'.cell? ⟨ma.block,ma.off+5,none⟩=some (.int .i64 R)∧w'.cell? ⟨w.heap.size,0,none⟩=some (.int .i64 25)∧w'.cell? ⟨w.heap.size,1,none⟩=some (.int .i64 ia)∧w'.cell? ⟨w.heap.size,2,none⟩=some (.int .i64 ib)) w':=fun w' hu=>⟨Zj8 y (Nat.le_succ _) hu k2,Zj8 y (Nat.le_succ _) hu G,Zj8 y (Nat.le_succ _) hu I,hu.cell (z.cell 0 rfl) (by show w.heap.size≠_;omega) (by show w.heap.size≠_;omega),hu.cell (z.cell 1 rfl) (by show w.heap.size≠_;omega) (by show w.heap.size≠_;omega),hu.cell (z.cell 2 rfl) (by show w.heap.size≠_;omega) (by show w.heap.size≠_;omega)⟩;have HS:=Zh hS;have HBw:=Zh y;have J:=Zh f;have V:=Zh Hj;have HMa:=Zh F;have X:(ia:Int) < m.me.length:=by omega
 have D:=Zh (Below.refl C.heap.size C);clear hS f y z E H Hj hm k0 k1 k2 k3 F heo T G I U;go_enter Tryz.func335,Tryz.ntmps335
 go_upto_region 2 with fail
 rw [←J.out];refine rO (fun w':World=>w'.cell? ⟨K,2,none⟩=some (.slice (some M) m.me.length h.ec)∧w'.cell? ⟨ma.block,ma.off+4,none⟩=some (.int .i64 N)∧w'.cell? ⟨ma.block,ma.off+5,none⟩=some (.int .i64 R)∧w'.cell? ⟨w.heap.size,0,none⟩=some (.int .i64 25)∧w'.cell? ⟨w.heap.size,1,none⟩=some (.int .i64 ia)∧w'.cell? ⟨w.heap.size,2,none⟩=some (.int .i64 ib)) (oL [0,1,2,3,4,5,6,7,8,9,110]) (HS.out _ (Upd.of D.out).drew) ?_;have HB1:=Zh D.out.drew
 iterate 8 (refine pO ?_)
 rw [←HMa.out]
 repeat refine pO ?_
 have A:=HX.out.old D.out;have y0:=A.cell 0 (v:=.int .i64 0) rfl;have y1:=A.cell 1 (v:=.int .i64 0) rfl;have g0:=A.frozen 0;have g1:=A.frozen 1;refine oO fun Kv hK=>?_;go_simp;refine hK _ _ ⟨HS.out _ (((Upd.of HB1.out).set 0 _).set 1 _),?_⟩;clear hK Kv;refine Zd5 ?_;go_wp2;refine bodyPost_ret (v:=.agg #[.int .i64 N,.int .i64 R]) (by simp [results,Tryz.results335,go_sem,y0,y1]) rfl ⟨rfl,?_⟩;exact ZcW (ZcW (Zaf HBw.out HB1.out) (Nat.le_succ _) _) (Nat.le_succ _) _
theorem Zkv (Y:(ia:Int) < m.sel) (M:ZaN m ia=[]):
  Calls Tryz.prog 335 #[ZQ.p K,.agg #[.int .i64 26,.int .i64 ia,.int .i64 ib]] w (Ret w (.agg #[.int .i64 0,.int .i64 0])):=by
 obtain ⟨kl,k0,k1,k2,k3,-⟩:=H.cells;obtain ⟨z,y⟩:∃ z,z=(w.alloc (.cells #[.int .i64 26,.int .i64 ia,.int .i64 ib] 78)).alloc (.cells #[.int .i64 0,.int .i64 0] 76):=⟨_,rfl⟩;have f:Below w.heap.size w z:=by rw [y];exact bE
 have A:Blk z w.heap.size #[.int .i64 26,.int .i64 ia,.int .i64 ib] 78:=by rw [y];exact (Blk.new w _ _).alloc _
 have D:Blk z (w.heap.size+1) #[.int .i64 0,.int .i64 0] 76:=by rw [y];exact Blk.new' (w:=w.alloc (.cells #[.int .i64 26,.int .i64 ia,.int .i64 ib] 78)) _ _ (by simp)
 have HX:=Zh D;have X:=D.lt;have hS:∀ w',Upd (w.heap.size+1) (w.heap.size+1) z w'→(fun w':World=>w'.cell? ⟨K,0,none⟩=some (.slice h.co m.cl.length h.cc)∧w'.cell? ⟨K,1,none⟩=some (.slice h.so m.st.length h.sc)∧w'.cell? ⟨K,2,none⟩=some (.slice h.eo m.me.length h.ec)∧w'.cell? ⟨K,3,none⟩=some (.int .i64 m.sel)∧w'.cell? ⟨w.heap.size,0,none⟩=some (.int .i64 26)∧w'.cell? ⟨w.heap.size,1,none⟩=some (.int .i64 ia)∧w'.cell? ⟨w.heap.size,2,none⟩=some (.int .i64 ib)) w':=fun w' hu=>⟨Zj8 f (Nat.le_succ _) hu k0,Zj8 f (Nat.le_succ _) hu k1,Zj8 f (Nat.le_succ _) hu k2,Zj8 f (Nat.le_succ _) hu k3,hu.cell (A.cell 0 rfl) (by show w.heap.size≠_;omega) (by show w.heap.size≠_;omega),hu.cell (A.cell 1 rfl) (by show w.heap.size≠_;omega) (by show w.heap.size≠_;omega),hu.cell (A.cell 2 rfl) (by show w.heap.size≠_;omega) (by show w.heap.size≠_;omega)⟩;have HS:=Zh hS;have HBw:=Zh f;have R:=Zh y;have U:=Zh Hj;have E:=Zh (Below.refl z.heap.size z);have HT:=Zh (show ∀ w',Below z.heap.size z w'→Calls Tryz.prog 348 #[.agg (HM.mk h m),.int .i64 ia] w' (Zij w' (ZaN m ia) 0) from fun w' T=>Zjn m h ia w' (Hj.old (Zaf f T)) hm Y);obtain ⟨Z,I⟩:∃ n,n=(ZaN m ia).length:=⟨_,rfl⟩;have F:=Zh I;have N:=Zh M;clear hS y f A D H Hj hm k0 k1 k2 k3 M I;go_enter Tryz.func335,Tryz.ntmps335
 go_upto_region 3 with fail
 rw [←R.out];refine rO (fun w':World=>w'.cell? ⟨K,0,none⟩=some (.slice h.co m.cl.length h.cc)∧w'.cell? ⟨K,1,none⟩=some (.slice h.so m.st.length h.sc)∧w'.cell? ⟨K,2,none⟩=some (.slice h.eo m.me.length h.ec)∧w'.cell? ⟨K,3,none⟩=some (.int .i64 m.sel)∧w'.cell? ⟨w.heap.size,0,none⟩=some (.int .i64 26)∧w'.cell? ⟨w.heap.size,1,none⟩=some (.int .i64 ia)∧w'.cell? ⟨w.heap.size,2,none⟩=some (.int .i64 ib)) (oL [0,1,2,3,4,5,106,7,8,9,10,11]) (HS.out _ (Upd.of E.out).drew) ?_;have HB1:=Zh E.out.drew
 repeat refine pO ?_
 refine oO fun Kv hK=>?_;go_simp;refine (HT.out _ HB1.out).mono ?_;rintro r w2 ⟨⟨ao,V,rfl,J⟩,G⟩;have HB2:=Zh (Zaf HB1.out G);rw [←F.out];refine hK _ _ ⟨HS.out _ (Upd.of HB2.out),?_⟩;clear hK Kv G
 repeat refine pO ?_
 refine Zd5 ?_;have hn0:Z=0:=by rw [F.out,N.out];rfl
 subst hn0;have C:=HX.out.old HB2.out;have y0:=C.cell 0 (v:=.int .i64 0) rfl;have y1:=C.cell 1 (v:=.int .i64 0) rfl;have g0:=C.frozen 0;have g1:=C.frozen 1;clear J;go_wp2;refine bodyPost_ret (v:=.agg #[.int .i64 0,.int .i64 0]) (by simp [results,Tryz.results335,go_sem,y0,y1]) rfl ⟨rfl,?_⟩;exact ZcW (ZcW (Zaf HBw.out HB2.out) (Nat.le_succ _) _) (Nat.le_succ _) _
theorem Zkw (hs:(ia:Int) < m.sel) {C:Nat} {ab:List Int} (aa:ZaN m ia=(C:Int) :: ab) (an:C<m.me.length):
  Calls Tryz.prog 335 #[ZQ.p K,.agg #[.int .i64 26,.int .i64 ia,.int .i64 ib]] w (Ret w (.agg #[.int .i64 (m.me.getD C default).r.k,.int .i64 (m.me.getD C default).r.c])):=by
 obtain ⟨kl,k0,k1,k2,k3,-⟩:=H.cells;have M:=k2;obtain ⟨ea,heo,-,-,f2,-,T,U,-⟩:=Hj.mth an;obtain ⟨ma,J⟩:∃ a,a=ea.add (C*7):=⟨_,rfl⟩;rw [←J] at f2 T U;rw [heo] at M;obtain ⟨⟨rk,rq⟩,hr⟩:∃ r:Ty,r=(m.me.getD C default).r:=⟨_,rfl⟩;rw [←hr] at T U ⊢;dsimp only at T U ⊢;obtain ⟨z,A⟩:∃ z,z=(w.alloc (.cells #[.int .i64 26,.int .i64 ia,.int .i64 ib] 78)).alloc (.cells #[.int .i64 0,.int .i64 0] 76):=⟨_,rfl⟩;have f:Below w.heap.size w z:=by rw [A];exact bE
 have y:Blk z w.heap.size #[.int .i64 26,.int .i64 ia,.int .i64 ib] 78:=by rw [A];exact (Blk.new w _ _).alloc _
 have I:Blk z (w.heap.size+1) #[.int .i64 0,.int .i64 0] 76:=by rw [A];exact Blk.new' (w:=w.alloc (.cells #[.int .i64 26,.int .i64 ia,.int .i64 ib] 78)) _ _ (by simp)
 have HX:=Zh I;have ay:=I.lt;have hS:∀ w',Upd (w.heap.size+1) (w.heap.size+1) z w'→(fun w':World=>w'.cell? ⟨K,0,none⟩=some (.slice h.co m.cl.length h.cc)∧w'.cell? ⟨K,1,none⟩=some (.slice h.so m.st.length h.sc)∧w'.cell? ⟨K,2,none⟩=some (.slice h.eo m.me.length h.ec)∧w'.cell? ⟨K,3,none⟩=some (.int .i64 m.sel)∧w'.cell? ⟨w.heap.size,0,none⟩=some (.int .i64 26)∧w'.cell? ⟨w.heap.size,1,none⟩=some (.int .i64 ia)∧w'.cell? ⟨w.heap.size,2,none⟩=some (.int .i64 ib)) w':=fun w' hu=>⟨Zj8 f (Nat.le_succ _) hu k0,Zj8 f (Nat.le_succ _) hu k1,Zj8 f (Nat.le_succ _) hu k2,Zj8 f (Nat.le_succ _) hu k3,hu.cell (y.cell 0 rfl) (by show w.heap.size≠_;omega) (by show w.heap.size≠_;omega),hu.cell (y.cell 1 rfl) (by show w.heap.size≠_;omega) (by show w.heap.size≠_;omega),hu.cell (y.cell 2 rfl) (by show w.heap.size≠_;omega) (by show w.heap.size≠_;omega)⟩;have HS:=Zh hS
 have V:∀ w',Upd (w.heap.size+1) (w.heap.size+1) z w'→(fun w':World=>w'.cell? ⟨K,2,none⟩=some (.slice (some ea) m.me.length h.ec)∧w'.cell? ⟨ma.block,ma.off+4,none⟩=some (.int .i64 rk)∧w'.cell? ⟨ma.block,ma.off+5,none⟩=some (.int .i64 rq)∧w'.cell? ⟨w.heap.size,0,none⟩=some (.int .i64 26)∧w'.cell? ⟨w.heap.size,1,none⟩=some (.int .i64 ia)∧w'.cell? ⟨w.heap.size,2,none⟩=some (.int .i64 ib)) w':=fun w' hu=>⟨Zj8 f (Nat.le_succ _) hu M,Zj8 f (Nat.le_succ _) hu T,Zj8 f (Nat.le_succ _) hu U,hu.cell (y.cell 0 rfl) (by show w.heap.size≠_;omega) (by show w.heap.size≠_;omega),hu.cell (y.cell 1 rfl) (by show w.heap.size≠_;omega) (by show w.heap.size≠_;omega),hu.cell (y.cell 2 rfl) (by show w.heap.size≠_;omega) (by show w.heap.size≠_;omega)⟩;have ah:=Zh V;have HMa:=Zh J;have HBw:=Zh f;have aj:=Zh A;have av:=Zh Hj;have N:=Zh (Below.refl z.heap.size z);have HT:=Zh (show ∀ w',Below z.heap.size z w'→Calls Tryz.prog 348 #[.agg (HM.mk h m),.int .i64 ia] w' (Zij w' (ZaN m ia) 0) from fun w' al=>Zjn m h ia w' (Hj.old (Zaf f al)) hm hs);obtain ⟨nt,Z⟩:∃ n,n=(ZaN m ia).length:=⟨_,rfl⟩;have G:=Zh Z;have R:=Zh aa;clear hS A f y I H Hj hm k0 k1 k2 k3 aa Z J heo f2 T U V M hr;go_enter Tryz.func335,Tryz.ntmps335
 go_upto_region 3 with fail
 rw [←aj.out];refine rO (fun w':World=>w'.cell? ⟨K,0,none⟩=some (.slice h.co m.cl.length h.cc)∧w'.cell? ⟨K,1,none⟩=some (.slice h.so m.st.length h.sc)∧w'.cell? ⟨K,2,none⟩=some (.slice h.eo m.me.length h.ec)∧w'.cell? ⟨K,3,none⟩=some (.int .i64 m.sel)∧w'.cell? ⟨w.heap.size,0,none⟩=some (.int .i64 26)∧w'.cell? ⟨w.heap.size,1,none⟩=some (.int .i64 ia)∧w'.cell? ⟨w.heap.size,2,none⟩=some (.int .i64 ib)) (oL [0,1,2,3,4,5,106,7,8,9,10,11]) (HS.out _ (Upd.of N.out).drew) ?_;have HB1:=Zh N.out.drew
 repeat refine pO ?_
 refine oO fun Kv hK=>?_;go_simp;refine (HT.out _ HB1.out).mono ?_;rintro r E ⟨⟨ao,aw,rfl,F⟩,Y⟩;have HB2:=Zh (Zaf HB1.out Y);rw [←G.out];refine hK _ _ ⟨HS.out _ (Upd.of HB2.out),?_⟩;clear hK Kv Y
 repeat refine pO ?_
 refine Zd5 ?_;have hn0:0<nt:=by rw [G.out,R.out];simp
 have ax:((nt:Int) == 0)=false:=by simp;omega
 obtain ⟨ta,ak,t0⟩:=ZaB F (i:=0) (by have:=G.out;omega);rw [show ta.add 0=ta from by simp [Addr.add],R.out] at t0;have ac:E.cell? ta=some (.int .i64 C):=t0;subst ak;have ar:(C:Int) < m.me.length:=by omega
 have X:∀ w',Below E.heap.size E w'→(fun w':World=>w'.cell? ⟨K,2,none⟩=some (.slice (some ea) m.me.length h.ec)∧w'.cell? ⟨ma.block,ma.off+4,none⟩=some (.int .i64 rk)∧w'.cell? ⟨ma.block,ma.off+5,none⟩=some (.int .i64 rq)∧w'.cell? ta=some (.int .i64 C)∧w'.cell? ⟨w.heap.size,0,none⟩=some (.int .i64 26)∧w'.cell? ⟨w.heap.size,1,none⟩=some (.int .i64 ia)∧w'.cell? ⟨w.heap.size,2,none⟩=some (.int .i64 ib)) w':=fun w' hu=>by obtain ⟨z0,z1,z2,z3,z4,z5⟩:=ah.out w' ((Upd.of HB2.out).trans (Upd.of hu));exact ⟨z0,z1,z2,Zj4 hu ac,z3,z4,z5⟩
 have ai:=Zh X;clear X F t0 ac
 go_wp2_with fail
 refine rE (fun w':World=>w'.cell? ⟨K,2,none⟩=some (.slice (some ea) m.me.length h.ec)∧w'.cell? ⟨ma.block,ma.off+4,none⟩=some (.int .i64 rk)∧w'.cell? ⟨ma.block,ma.off+5,none⟩=some (.int .i64 rq)∧w'.cell? ta=some (.int .i64 C)∧w'.cell? ⟨w.heap.size,0,none⟩=some (.int .i64 26)∧w'.cell? ⟨w.heap.size,1,none⟩=some (.int .i64 ia)∧w'.cell? ⟨w.heap.size,2,none⟩=some (.int .i64 ib)) 11 (oL [0,1,2,3,4,5,6,7,8,9,10]) (ai.out _ (show Below E.heap.size E E.drew by exact bE)) ?_
 iterate 9 (refine pE ?_)
 rw [←HMa.out]
 repeat refine pE ?_
 have D:=HX.out.old HB2.out;have y0:=D.cell 0 (v:=.int .i64 0) rfl;have y1:=D.cell 1 (v:=.int .i64 0) rfl;have g0:=D.frozen 0;have g1:=D.frozen 1;refine sE fun Kv hK=>?_;go_simp;refine hK _ _ ?_;clear hK Kv;go_wp2;refine bodyPost_ret (v:=.agg #[.int .i64 rk,.int .i64 rq]) (by simp [results,Tryz.results335,go_sem,y0,y1]) rfl ⟨rfl,?_⟩;exact ZcW (ZcW (Zaf HBw.out (HB2.out.trans ((show Below E.heap.size E E.drew by exact bE).mono HB2.out.size))) (Nat.le_succ _) _) (Nat.le_succ _) _
end
end
section
open Go.RowKit
theorem Zkx {m:Md} (hm:Za1 m=true) {b:Nat} (f:(b:Int) < m.sel) (c:Int) (d:0≤c) (e:c<m.cl.length):b<(m.cl.getD c.toNat default).m.length:=by have a:=ZfH hm c.toNat (by omega);simp only [ZaK,Bool.and_eq_true,decide_eq_true_eq] at a;have:=a.1.1.2;omega
section
variable {w0 w:World}{K:Nat}{h:Hd}{m:Md}{lo:Option Addr}{lc:Nat}{ls:List Ty}{s:Ps}{so:Option Addr}{sc:Nat}{oo:Option Addr}{oc:Nat}{bs:List VB}{i:In3}{k:Nat}(hm:Za1 m=true)(hlo:∀ t∈ls,Zfi m t)(HW:Zfj m s.stk)(H:St w0 w K h m lo lc ls s so sc oo oc bs)(Hj:Zay w0 h m)(hd:s.opn.length≤6)(hi:ZfR m k i)
include w0 w K h m lo lc ls s so sc oo oc bs i k hm hlo HW H Hj hd hi
theorem Zky (W:k<m.me.length) (hop:i.op=25):
  Calls Tryz.prog 262 #[ZQ.p K,ZI.i i] w (ZhR w K h m lo lc ls oo oc bs (ZhO m ls i s)):=by
 obtain ⟨Z,ia,ib⟩:=i;dsimp only at hop;subst hop;have I:=hi.a0 (by simp);dsimp only at I;obtain ⟨ia,rfl⟩:∃ d:Nat,ia=d:=⟨ia.toNat,by omega⟩;have g:Below w.heap.size w ((w.alloc (.cells #[ZQ.p K] 211)).alloc (.cells #[.int .i64 25,.int .i64 ia,.int .i64 ib] 78)):=by exact bE
 have x:=(Blk.new w #[ZQ.p K] 211).alloc (.cells #[.int .i64 25,.int .i64 ia,.int .i64 ib] 78);have u:Blk ((w.alloc (.cells #[ZQ.p K] 211)).alloc (.cells #[.int .i64 25,.int .i64 ia,.int .i64 ib] 78)) (w.heap.size+1) #[.int .i64 25,.int .i64 ia,.int .i64 ib] 78:=Blk.new' (w:=w.alloc (.cells #[ZQ.p K] 211)) _ _ (by simp);have Y:=Blk.lt H.ck;have M:=H.old g;obtain ⟨J,-⟩:=hi.o25 rfl;dsimp only at J;have z:ia<m.me.length:=by omega
 obtain ⟨G,j,-⟩:=Hj.mth z;have A:∀ b,(∃ L S O e,Ck b K h m L S O e)→b.cell? ⟨K,2,none⟩=some (.slice (some G) m.me.length h.ec):=fun b y=>by obtain ⟨L,S,O,e,y⟩:=y;have:=y.cells.2.2.2.1;rwa [j] at this
 have B:=Zh j;clear j;have HB1:=Zh g;have C:=Zh M;have N:=x.cell 0 (v:=.pointer (some ⟨K,0,none⟩)) rfl;have U:=u.cell 1 (v:=.int .i64 ia) rfl;have R:∀ b,Upd K K ((w.alloc (.cells #[ZQ.p K] 211)).alloc (.cells #[.int .i64 25,.int .i64 ia,.int .i64 ib] 78)) b→(∃ L S O e,Ck b K h m L S O e)→(fun b:World=>b.cell? ⟨w.heap.size,0,none⟩=some (.pointer (some ⟨K,0,none⟩))∧b.cell? ⟨w.heap.size+1,1,none⟩=some (.int .i64 ia)∧b.cell? ⟨K,2,none⟩=some (.slice (some G) m.me.length h.ec)) b:=fun b T y=>⟨T.cell N (by show w.heap.size≠K;omega) (by show w.heap.size≠K;omega),T.cell U (by show w.heap.size+1≠K;omega) (by show w.heap.size+1≠K;omega),A b y⟩;have HS:=Zh R;have D:=Zh Hj;obtain ⟨n,f⟩:∃ n,n=((w.alloc (.cells #[ZQ.p K] 211)).alloc (.cells #[.int .i64 25,.int .i64 ia,.int .i64 ib] 78)):=⟨_,rfl⟩;rw [←f] at HS C HB1;have q:=Zh f;have E:=Zh HW;have X:=Zh hi;have F:=Zh hm;have V:=Zh hlo;clear g x u M H Hj hlo HW hi hm N U R f A;go_enter Tryz.func262,Tryz.ntmps262
 go_wp2_with fail
 refine rO (fun b:World=>b.cell? ⟨w.heap.size,0,none⟩=some (.pointer (some ⟨K,0,none⟩))∧b.cell? ⟨w.heap.size+1,1,none⟩=some (.int .i64 ia)∧b.cell? ⟨K,2,none⟩=some (.slice (some G) m.me.length h.ec)) (oL [0,1,2,3,4,5,6,7,8,109]) (q.out▸HS.out _ (Upd.refl K K n).drew ⟨_,_,_,_,Ck.drew C.out.ck⟩) ?_;rw [←q.out];have HB2:=Zh (show Below n.heap.size n n.drew by exact bE)
 repeat refine pO ?_
 refine oO fun Kv hK=>?_;go_simp;refine (ZjV (i:=⟨25,ia,ib⟩) F.out E.out (C.out.old HB2.out) D.out hd z B.out rfl (by simp)).mono ?_;exact k95
theorem Zkz (hb:Zev s.opn≤s.stk.length) (aC:k<m.me.length) (hop:i.op=26):
  Calls Tryz.prog 262 #[ZQ.p K,ZI.i i] w (ZhR w K h m lo lc ls oo oc bs (ZhO m ls i s)):=by
 obtain ⟨op,ia,ib⟩:=i;dsimp only at hop;subst hop;have ar:=hi.a0 (by simp);dsimp only at ar;obtain ⟨ia,rfl⟩:∃ d:Nat,ia=d:=⟨ia.toNat,by omega⟩;have E:Below w.heap.size w ((w.alloc (.cells #[ZQ.p K] 211)).alloc (.cells #[.int .i64 26,.int .i64 ia,.int .i64 ib] 78)):=by exact bE
 have ab:=(Blk.new w #[ZQ.p K] 211).alloc (.cells #[.int .i64 26,.int .i64 ia,.int .i64 ib] 78);have aa:Blk ((w.alloc (.cells #[ZQ.p K] 211)).alloc (.cells #[.int .i64 26,.int .i64 ia,.int .i64 ib] 78)) (w.heap.size+1) #[.int .i64 26,.int .i64 ia,.int .i64 ib] 78:=Blk.new' (w:=w.alloc (.cells #[ZQ.p K] 211)) _ _ (by simp);have kl:=Blk.lt H.ck;have N:=H.old E;obtain ⟨D,M⟩:=hi.o26 rfl;dsimp only at D M;have aF:=HW.1;have cc:=ab.cell 0 (v:=.pointer (some ⟨K,0,none⟩)) rfl;have i1:=aa.cell 1 (v:=.int .i64 ia) rfl;obtain ⟨y,J⟩:∃ y,y=((w.alloc (.cells #[ZQ.p K] 211)).alloc (.cells #[.int .i64 26,.int .i64 ia,.int .i64 ib] 78)):=⟨_,rfl⟩;rw [←J] at N E cc i1;have A:∀ w',Upd K K y w'→(∃ L S O e,Ck w' K h m L S O e)→(fun w':World=>w'.cell? ⟨w.heap.size,0,none⟩=some (.pointer (some ⟨K,0,none⟩))∧w'.cell? ⟨w.heap.size+1,1,none⟩=some (.int .i64 ia)∧w'.cell? ⟨K,0,none⟩=some (.slice h.co m.cl.length h.cc)∧w'.cell? ⟨K,1,none⟩=some (.slice h.so m.st.length h.sc)∧w'.cell? ⟨K,2,none⟩=some (.slice h.eo m.me.length h.ec)∧w'.cell? ⟨K,3,none⟩=some (.int .i64 m.sel)) w':=fun w' hu hc=>by obtain ⟨L,S,O,e,hc⟩:=hc;obtain ⟨-,k0,k1,k2,k3,-⟩:=hc.cells;exact ⟨hu.cell cc (by show w.heap.size≠K;omega) (by show w.heap.size≠K;omega),hu.cell i1 (by show w.heap.size+1≠K;omega) (by show w.heap.size+1≠K;omega),k0,k1,k2,k3⟩
 have HS:=Zh A;have HB1:=Zh E;have HH:=Zh N;have Y:=Zh J;have U:=Zh Hj;have an:=Zh HW;have HHm:=Zh hm;have HT:=Zh (show ∀ w',Below y.heap.size y w'→Calls Tryz.prog 293 #[.agg (HM.mk h m),.int .i64 ia] w' (Zik w' (ZaN m ia) 0) from fun w' av=>Ziq m h ia w' (Hj.old (N.hb.trans (av.mono N.hb.size))) hm D);have aI:w.heap.size+1<y.heap.size:=Zac i1;have aq:=Zh M;have HX:=Zh (And.intro cc i1);clear E ab aa N H Hj hlo HW hi hm cc i1 A J M;go_enter Tryz.func262,Tryz.ntmps262
 go_wp2_with fail
 refine rO (fun w':World=>w'.cell? ⟨w.heap.size,0,none⟩=some (.pointer (some ⟨K,0,none⟩))∧w'.cell? ⟨w.heap.size+1,1,none⟩=some (.int .i64 ia)∧w'.cell? ⟨K,0,none⟩=some (.slice h.co m.cl.length h.cc)∧w'.cell? ⟨K,1,none⟩=some (.slice h.so m.st.length h.sc)∧w'.cell? ⟨K,2,none⟩=some (.slice h.eo m.me.length h.ec)∧w'.cell? ⟨K,3,none⟩=some (.int .i64 m.sel)) (oL [0,1,2,3,4,5,106,7,8,9,10,11]) (Y.out▸HS.out _ (Upd.refl K K y).drew ⟨_,_,_,_,Ck.drew HH.out.ck⟩) ?_;rw [←Y.out];have HB2:=Zh (show Below y.heap.size y y.drew by exact bE)
 repeat refine pO ?_
 refine oO fun Kv hK=>?_;go_simp;refine (HT.out _ HB2.out).mono ?_;rintro r I ⟨⟨ao,aB,rfl,hr,G⟩,hb3⟩;have V:=Zh G;have HB3:=Zh (Zaf HB2.out hb3);have HR:=Zh hr;refine hK _ _ ⟨HS.out _ (Upd.of HB3.out) ⟨_,_,_,_,HH.out.ck.old HB3.out⟩,?_⟩;clear hK Kv hb3 hr G
 repeat refine pO ?_
 refine Zd5 ?_;have z:∀ (o:Option Mth),Zew m ⟨26,ia,ib⟩=o→o=match ZaN m ia with|[]=>none|t :: _=>some (m.me.getD t.toNat default):=fun o ho=>by rw [←ho];rfl
 cases htg:ZaN m ia with
 | nil=>
  have ae:ZhO m ls ⟨26,ia,ib⟩ s=(11,s.stk):=by
   have hc:Zew m ⟨26,ia,ib⟩=none:=by have:=z _ rfl;rw [htg] at this;exact this
   unfold ZhO;rw [Zgl rfl,Zga rfl,hc,if_neg (by dsimp only;omega)]
  have ap:=Zh ae;have HL:=Zh htg;obtain ⟨nt,f⟩:∃ n,n=(ZaN m ia).length:=⟨_,rfl⟩;rw [←htg,←f];have hn0:nt=0:=by rw [f,htg];rfl
  subst hn0;have HC2:=Zh (HH.out.ck.old HB3.out);have cc:=(HB3.out.cell (p:=⟨w.heap.size,0,none⟩) (by show w.heap.size<y.heap.size;omega)).trans HX.out.1;have HF:=Zh (ZeS K h m _ _ _ 0 11 I HC2.out);clear htg z ae f
  go_wp2_with (go_at_call 318;refine HF.out.mono ?_;rintro r w4 ⟨⟨v4,rfl⟩,hc4,hu4⟩;have HC4:=Zh hc4;have HU4:=Zh hu4;clear hc4 hu4)
  go_end0;refine ZhR.bel ⟨⟨_,rfl⟩,(Upd.of HB3.out).trans HU4.out,?_⟩ HB1.out;rw [ap.out];exact ⟨so,sc,s.stk,HC4.out,((HH.out.old HB3.out).ts.upd HU4.out HC2.out.noTy HC2.out.noTy),by omega,fun h0=>by cases h0⟩
 | cons t rest=>
  have C:t∈ZaN m ia:=by rw [htg];exact List.mem_cons_self
  have aG:=ZfT C;have aH:=aq.out t C;obtain ⟨tj,rfl⟩:∃ d:Nat,t=d:=⟨t.toNat,by omega⟩;have ah:tj<m.me.length:=by omega
  have F:Zew m ⟨26,ia,ib⟩=some (m.me.getD tj default):=by have:=z _ rfl;rw [htg] at this;exact this
  have hr:=HR.out;obtain ⟨nt,f⟩:∃ n,n=(ZaN m ia).length:=⟨_,rfl⟩;have az:0<nt:=by rw [f,htg];simp
  obtain ⟨ta,au,t0⟩:=ZaB hr (i:=0) (by omega);rw [show ta.add 0=ta from by simp [Addr.add],htg] at t0;have aj:I.cell? ta=some (.int .i64 tj):=t0;subst au;obtain ⟨ea,heo,-⟩:=U.out.mth ah;have aD:((nt:Int) == 0)=false:=by simp;omega
  have Z:∀ w',Upd K K I w'→(∃ L S O e,Ck w' K h m L S O e)→(fun w':World=>w'.cell? ⟨w.heap.size,0,none⟩=some (.pointer (some ⟨K,0,none⟩))∧w'.cell? ⟨w.heap.size+1,1,none⟩=some (.int .i64 ia)∧w'.cell? ⟨K,2,none⟩=some (.slice (some ea) m.me.length h.ec)∧w'.cell? ta=some (.int .i64 tj)) w':=fun w' hu hc=>by
   obtain ⟨L,S,O,e,hc⟩:=hc;have k2:=hc.cells.2.2.2.1;rw [heo] at k2;have ay:=HH.out.ck.old HB3.out;have ag:ta.block≠K:=by have h1:=V.out ta rfl;have h2:=HB1.out.size;have h3:y.heap.size≤ta.block:=h1;omega
   exact ⟨hu.cell ((HB3.out.cell (p:=⟨w.heap.size,0,none⟩) (by show w.heap.size<y.heap.size;omega)).trans HX.out.1) (by show w.heap.size≠K;omega) (by show w.heap.size≠K;omega),hu.cell ((HB3.out.cell (p:=⟨w.heap.size+1,1,none⟩) (by show w.heap.size+1<y.heap.size;omega)).trans HX.out.2) (by show w.heap.size+1≠K;omega) (by show w.heap.size+1≠K;omega),k2,hu.cell aj ag ag⟩
  have X:=Zh Z;have R:=Zh F;have HEo:=Zh heo;have aw:ia≤1000:=by have:=(ZfJ HHm.out);simp only [ZaZ,Bool.and_eq_true,decide_eq_true_eq] at this;omega
  rw [←htg,←f];clear Z F heo C htg hr t0 aj f z
  go_wp2_with fail
  refine rO (fun w':World=>w'.cell? ⟨w.heap.size,0,none⟩=some (.pointer (some ⟨K,0,none⟩))∧w'.cell? ⟨w.heap.size+1,1,none⟩=some (.int .i64 ia)∧w'.cell? ⟨K,2,none⟩=some (.slice (some ea) m.me.length h.ec)∧w'.cell? ta=some (.int .i64 tj)) (oL [0,1,2,3,4,5,6,7,8,9,10,11,112]) (X.out _ (Upd.refl K K I).drew ⟨_,_,_,_,Ck.drew (HH.out.ck.old HB3.out)⟩) ?_
  repeat refine pO ?_
  refine oO fun Kv hK=>?_;go_simp;refine (ZjW (i:=⟨26,ia,ib⟩) HHm.out an.out (HH.out.old (Zaf HB3.out (show Below I.heap.size I I.drew by exact bE))) U.out hd ah HEo.out rfl rfl R.out (fun c h0 h1=>Zkx HHm.out D c h0 h1) aw).mono ?_;rintro r w4 ⟨⟨v4,rfl⟩,hu4,ac⟩;have HU4:=Zh ((Upd.refl K K I).drew.trans hu4);have T:=Zh ac;have A:∃ L S O e,Ck w4 K h m L S O e:=by obtain ⟨aK,aJ,aL,h1,-⟩:=T.out;exact ⟨_,_,_,_,h1⟩
  refine hK _ _ ⟨X.out _ HU4.out A,?_⟩;clear hK Kv hu4 ac A;refine Zd5 ?_;go_wp2;go_end0;exact ZhR.bel ⟨⟨_,rfl⟩,(Upd.of HB3.out).trans HU4.out,T.out⟩ HB1.out
theorem ZkA (c:Zev s.opn≤s.stk.length) (a:k<m.me.length) (hop:i.op=0∨(14≤i.op∧i.op≤26)∨i.op=28):
  Calls Tryz.prog 262 #[ZQ.p K,ZI.i i] w (ZhR w K h m lo lc ls oo oc bs (ZhO m ls i s)):=by
 have b:(i.op=0∨i.op=28)∨i.op=14∨i.op=15∨i.op=16∨i.op=17∨i.op=18∨i.op=19∨i.op=20∨i.op=21∨i.op=22∨i.op=23∨i.op=24∨i.op=25∨i.op=26:=by omega
 rcases b with q|q|q|q|q|q|q|q|q|q|q|q|q|q
 ·exact ZjI hm hlo HW H Hj hd hi c q
 ·exact ZjE hm hlo HW H Hj hd hi q
 ·exact ZjF hm hlo HW H Hj hd hi q
 ·exact ZjG hm hlo HW H Hj hd hi q
 ·exact Zjx hm hlo HW H Hj hd hi q
 ·exact Zjy hm hlo HW H Hj hd hi q
 ·exact Zjz hm hlo HW H Hj hd hi q
 ·exact ZjA hm hlo HW H Hj hd hi q
 ·exact ZjB hm hlo HW H Hj hd hi q
 ·exact ZjH hm hlo HW H Hj hd hi q
 ·exact ZjC hm hlo HW H Hj hd hi q
 ·exact ZjD hm hlo HW H Hj hd hi q
 ·exact Zky hm hlo HW H Hj hd hi a q
 ·exact Zkz hm hlo HW H Hj hd hi c a q
theorem ZkB (l:Zev s.opn≤s.stk.length) (g:k<m.me.length) (hop:i.op=0∨(14≤i.op∧i.op≤26)∨i.op=28):
  Calls Tryz.prog 187 #[ZQ.p K,ZI.i i] w (ZhR w K h m lo lc ls oo oc bs (ZhO m ls i s)):=by
 have j:=Zh (fun w' (hb':Below w.heap.size w w')=>ZkA hm hlo HW (H.old hb') Hj hd hi l g hop);obtain ⟨a,ia,ib⟩:=i;dsimp only at hop j;have f:a=0∨a=28∨a=14∨a=15∨a=16∨a=17∨a=18∨a=19∨a=20∨a=21∨a=22∨a=23∨a=24∨a=25∨a=26:=by omega
 clear hop hi H Hj hlo HW hm l;rcases f with rfl|rfl|rfl|rfl|rfl|rfl|rfl|rfl|rfl|rfl|rfl|rfl|rfl|rfl|rfl
 all_goals
  go_enter Tryz.func187,Tryz.ntmps187
  go_wp2_with (go_at_call 262;refine (j.out _ bE).mono ?_;rintro r n ⟨⟨v,rfl⟩,c,b⟩;have e:=Zh c;have d:=Zh b;clear c b)
  go_end0;exact ZhR.bel ⟨⟨_,rfl⟩,e.out,d.out⟩ bE
theorem ZkC (c:Zev s.opn≤s.stk.length) (b:k<m.me.length) (hop:0≤i.op∧i.op<29):
  Calls Tryz.prog 187 #[ZQ.p K,ZI.i i] w (ZhR w K h m lo lc ls oo oc bs (ZhO m ls i s)):=by
 have a:i.op=1∨i.op=2∨i.op=3∨i.op=4∨i.op=5∨i.op=6∨i.op=7∨i.op=8∨i.op=9∨i.op=10∨i.op=11∨i.op=12∨i.op=13∨i.op=27∨(i.op=0∨(14≤i.op∧i.op≤26)∨i.op=28):=by omega
 rcases a with q|q|q|q|q|q|q|q|q|q|q|q|q|q|q
 ·exact s_1 hm hlo HW H Hj hd hi q
 ·exact s_2 hm hlo HW H Hj hd hi q
 ·exact s_3 hm hlo HW H Hj hd hi q
 ·exact s_4 hm hlo HW H Hj hd hi q
 ·exact s_5 hm hlo HW H Hj hd hi q
 ·exact s_6 hm hlo HW H Hj hd hi q
 ·exact s_7 hm hlo HW H Hj hd hi q
 ·exact s_8 hm hlo HW H Hj hd hi q
 ·exact s_9 hm hlo HW H Hj hd hi q
 ·exact Zjs hm hlo HW H Hj hd hi q
 ·exact Zjt hm hlo HW H Hj hd hi q
 ·exact Zjw hm hlo HW H Hj hd hi q
 ·exact Zju hm hlo HW H Hj hd hi q
 ·exact Zjv hm hlo HW H Hj hd hi q
 ·exact ZkB hm hlo HW H Hj hd hi c b q
end
end
section
open Go.RowKit
section
variable {w:World}{K:Nat}{h:Hd}{m:Md}{L S O:Value}(H:Pk w K h m L S O)(Hj:Zay w h m)(hm:Za1 m=true){k:Nat}(hk:k<m.me.length){i:In3}(hi:ZfR m k i)(hop:i.op=25∨i.op=26)
include w K h m L S O H Hj hm k hk i hi hop
theorem ZkD:
  Calls Tryz.prog 336 #[ZQ.p K,ZI.i i] w (ZdE w (Zkp m i)):=by
 have c:=hi.a0 (by omega);obtain ⟨j,ia,ib⟩:=i;dsimp only at c hop ⊢;obtain ⟨ia,rfl⟩:∃ d:Nat,ia=d:=⟨ia.toNat,by omega⟩;rcases hop with rfl|rfl
 ·have a:=(hi.o25 rfl).1;dsimp only at a;have:=Zkr H Hj hm (ia:=ia) (ib:=ib) (by omega);unfold Zkp;rw [if_pos rfl];dsimp only;rwa [Int.toNat_natCast]
 ·obtain ⟨a,b⟩:=hi.o26 rfl;dsimp only at a b;have e:Zkp m ⟨26,ia,ib⟩=match ZaN m ia with|[]=>[]|t :: _=>⟨2,-1⟩ :: (m.me.getD t.toNat default).p:=by
   unfold Zkp Zew;rw [if_neg (by simp),if_neg (by simp)];cases ZaN m ia<;>rfl
  rw [e];cases htg:ZaN m ia with
  | nil=>exact Zks H Hj hm a htg
  | cons t r=>
   have f:0≤t:=ZfT (by rw [htg];exact List.mem_cons_self);have g:=b t (by rw [htg];exact List.mem_cons_self);obtain ⟨l,rfl⟩:∃ d:Nat,t=d:=⟨t.toNat,by omega⟩;dsimp only;rw [Int.toNat_natCast];exact Zkt H Hj hm a htg (by omega)
theorem ZkE:
  Calls Tryz.prog 335 #[ZQ.p K,ZI.i i] w (Ret w (.agg #[.int .i64 (Zkq m i).k,.int .i64 (Zkq m i).c])):=by
 have e:=hi.a0 (by omega);obtain ⟨j,ia,ib⟩:=i;dsimp only at e hop ⊢;obtain ⟨ia,rfl⟩:∃ d:Nat,ia=d:=⟨ia.toNat,by omega⟩;rcases hop with rfl|rfl
 ·have a:=(hi.o25 rfl).1;dsimp only at a;have:=Zku H Hj hm (ia:=ia) (ib:=ib) (by omega);have b:Zkq m ⟨25,ia,ib⟩=(m.me.getD ia default).r:=by unfold Zkq Zew;rw [if_pos rfl];dsimp only;rw [Int.toNat_natCast]
  rwa [b]
 ·obtain ⟨a,c⟩:=hi.o26 rfl;dsimp only at a c;have b:Zkq m ⟨26,ia,ib⟩=match ZaN m ia with|[]=>ty0|t :: _=>(m.me.getD t.toNat default).r:=by
   unfold Zkq Zew;rw [if_neg (by simp)];cases ZaN m ia<;>rfl
  rw [b];cases htg:ZaN m ia with
  | nil=>exact Zkv H Hj hm a htg
  | cons t r=>
   have f:0≤t:=ZfT (by rw [htg];exact List.mem_cons_self);have g:=c t (by rw [htg];exact List.mem_cons_self);obtain ⟨l,rfl⟩:∃ d:Nat,t=d:=⟨t.toNat,by omega⟩;dsimp only;rw [Int.toNat_natCast];exact Zkw H Hj hm a htg (by omega)
end
theorem Pk.old {w w':World}{K:Nat}{h:Hd}{m:Md}{L S O:Value} (H:Pk w K h m L S O) (hb:Below w.heap.size w w'):Pk w' K h m L S O:=Blk.old H hb
theorem ZkF (a b:Int) (w:World):Sem.run Tryz.prog (Instr.field 76 (.agg #[.int .i64 a,.int .i64 b]) 0) w=.ok (.int .i64 a) w:=by kernel_rfl
theorem ZkG {m:Md}{i:In3} (hop:i.op=25∨i.op=26):Zex m i=((Zkp m i).length,if (Zkq m i).k=0 then 0 else 1):=by
 rcases hop with hop|hop
 ·rw [Zgk hop];have a:Zew m i=some (m.me.getD i.a.toNat default):=by unfold Zew;rw [if_pos hop]
  unfold Zkp Zkq;rw [if_pos hop,a]
 ·rw [Zgl hop];unfold Zkp Zkq;rw [if_neg (by omega)];cases Zew m i<;>simp [ty0]
theorem ZkH {w:World}{K:Nat}{h:Hd}{m:Md}{L S O:Value} (H:Pk w K h m L S O) (Hj:Zay w h m) (hm:Za1 m=true) {k:Nat} (hk:k<m.me.length) {i:In3} (hi:ZfR m k i) (hop:0≤i.op∧i.op<34) :
  Calls Tryz.prog 271 #[ZQ.p K,ZI.i i] w (Zhf w (.int .i64 (Zex m i).1) (.int .i64 (Zex m i).2)):=by
 by_cases hc:i.op=25∨i.op=26
 ·rw [ZkG hc];have g:=Zh (fun w' (hb:Below w.heap.size w w')=>ZkE (H.old hb) (Hj.old hb) hm hk hi hc);have f:=Zh (fun w' (hb:Below w.heap.size w w')=>ZkD (H.old hb) (Hj.old hb) hm hk hi hc);generalize hr:Zkq m i=r at g ⊢;generalize hl:Zkp m i=l at f ⊢;have D:l.length≤1000000:=by rw [←hl];exact k44
  clear hr hl H Hj hi;obtain ⟨a,ia,ib⟩:=i;obtain ⟨n,A⟩:=r;dsimp only at hc hop g f ⊢;by_cases hk0:n=0
  ·subst hk0;rcases hc with rfl|rfl
   all_goals
    have y:=ZkF 0 A;go_enter Tryz.func271,Tryz.ntmps271
    go_wp2_with (first|(go_at_call 335;refine (g.out _ bE).mono ?_;rintro r I ⟨rfl,b⟩;have c:=Zh (Zaf (show Below w.heap.size w _ by exact bE) b);have E:=((Blk.new w _ _).old b).cell 0 (v:=.int .i64 _) rfl;have F:=((Blk.new w _ _).old b).cell 1 (v:=.int .i64 ia) rfl;have G:=((Blk.new w _ _).old b).cell 2 (v:=.int .i64 ib) rfl;clear b)|(go_at_call 336;refine (f.out _ c.out).mono ?_;rintro r J ⟨⟨B,o,rfl,z⟩,d⟩))
    go_ret2;exact Zhg rfl (by simp) (Zaf c.out d)
  ·have C:(n != 0)=true:=by simpa using hk0
   have e:(if n=0 then 0 else 1)=1:=if_neg hk0;rw [e];clear e hk0;rcases hc with rfl|rfl
   all_goals
    have y:=ZkF n A;go_enter Tryz.func271,Tryz.ntmps271
    go_wp2_with (first|(go_at_call 335;refine (g.out _ bE).mono ?_;rintro r I ⟨rfl,b⟩;have c:=Zh (Zaf (show Below w.heap.size w _ by exact bE) b);have E:=((Blk.new w _ _).old b).cell 0 (v:=.int .i64 _) rfl;have F:=((Blk.new w _ _).old b).cell 1 (v:=.int .i64 ia) rfl;have G:=((Blk.new w _ _).old b).cell 2 (v:=.int .i64 ib) rfl;clear b)|(go_at_call 336;refine (f.out _ c.out).mono ?_;rintro r J ⟨⟨B,o,rfl,z⟩,d⟩))
    go_ret2;exact Zhg rfl rfl (Zaf c.out d)
 ·obtain ⟨a,ia,ib⟩:=i;clear hi H Hj;dsimp only at hc hop ⊢;have u:a=0∨a=1∨a=2∨a=3∨a=4∨a=5∨a=6∨a=7∨a=8∨a=9∨a=10∨a=11∨a=12∨a=13∨a=14∨a=15∨a=16∨a=17∨a=18∨a=19∨a=20∨a=21∨a=22∨a=23∨a=24∨a=27∨a=28∨a=29∨a=30∨a=31∨a=32∨a=33:=by omega
  clear hop hc;rcases u with rfl|rfl|rfl|rfl|rfl|rfl|rfl|rfl|rfl|rfl|rfl|rfl|rfl|rfl|rfl|rfl|rfl|rfl|rfl|rfl|rfl|rfl|rfl|rfl|rfl|rfl|rfl|rfl|rfl|rfl|rfl|rfl
  all_goals
   go_enter Tryz.func271,Tryz.ntmps271;go_wp2;go_ret2;exact Zhg rfl rfl bE
end
section
open Go.RowKit
section
variable {w:World}{K:Nat}{h:Hd}{m:Md}{lo:Option Addr}{lc:Nat}{ls:List Ty}{S O:Value}(H:Pk w K h m (.slice lo ls.length lc) S O)(Hj:Zay w h m)(hd:Zc3 m m.cl.length)(ht:Zar w lo lc ls)
include w K h m lo lc ls S O H Hj hd ht
theorem ZkI {ia ib:Int} {b:Option Addr} {a:Nat} (hr:Zar w b a ([]:List Ty)):
  Calls Tryz.prog 273 #[ZQ.p K,.agg #[.int .i64 15,.int .i64 ia,.int .i64 ib],.slice b 0 a] w (Zj6 w (ZeB m ls ⟨15,ia,ib⟩ [])):=by
 have HPv:=Zh (show ZeB m ls ⟨15,ia,ib⟩ []=some ⟨3,0⟩ from ZfZ rfl);exact k58
theorem ZkJ {op:Int} (hop:op=6∨op=7∨op=8∨op=9∨op=10∨op=11) {ia ib:Int} {N:Option Addr} {g:Nat} {a b:Ty} (M:Zar w N g ([a,b]:List Ty)) (h1:a≠Zeu):
  Calls Tryz.prog 273 #[ZQ.p K,.agg #[.int .i64 op,.int .i64 ia,.int .i64 ib],.slice N 2 g] w (Zj6 w (ZeB m ls ⟨op,ia,ib⟩ [a,b])):=by
 have C:=Zh (show ZeB m ls ⟨op,ia,ib⟩ [a,b]=none from by rw [pv6 hop];rw [show (decide ([a,b].getD 0 default=Zeu)&&decide ([a,b].getD 1 default=Zeu))=false from by rw [show [a,b].getD 0 default=a from rfl,decide_eq_false h1];rfl];rfl);obtain ⟨j,rfl,E,F,G,I⟩:=Zkb M;obtain ⟨ak,ac⟩:=a;obtain ⟨U,T⟩:=b;dsimp only at E F G I;have V:(decide (ak=1)&&decide (ac=0))=false:=by exact k34
 clear h1;obtain ⟨J,D,B,R,u,Z⟩:=Zkf w op ia ib (l:=[(j,.int .i64 ak),(⟨j.block,j.off+1,none⟩,.int .i64 ac),(⟨j.block,j.off+2,none⟩,.int .i64 U),(⟨j.block,j.off+3,none⟩,.int .i64 T)]) ⟨E,F,G,I,trivial⟩;have n:=Zh (Below.refl J.heap.size J);have Y:=ZdW;have W:=ZdV;have X:=ZdX;clear H Hj ht M E F G I;rcases hop with rfl|rfl|rfl|rfl|rfl|rfl
 all_goals
  go_enter Tryz.func273,Tryz.ntmps273
  go_upto_region 18 with fail
  rw [←D.out];refine kO u.out (oL [1,2,3,100,104,5,6,7,8,9,110,11,12,113,14]) (Upd.of n.out).drew ?_;have A:=Zh n.out.drew
  repeat refine pO ?_
  refine oO fun x f=>?_;go_simp;refine (Zj9 _).mono ?_;rintro r w5 ⟨rfl,y⟩;have q:=Zh (Zaf A.out y);refine f _ _ ⟨u.out _ (Upd.of q.out),?_⟩;clear f x y
  repeat refine pO ?_
  refine oO fun x f=>?_;go_simp;refine (Zj9 _).mono ?_;rintro r w6 ⟨rfl,z⟩;have e:=Zh (Zaf q.out z);refine f _ _ ⟨u.out _ (Upd.of e.out),?_⟩;clear f x z
  repeat refine pO ?_
  refine sO 83 (u.out _ (Upd.of e.out)) ?_
  repeat refine pO ?_
  obtain ⟨y0,y1,g0,g1⟩:=Zki (R.out.old e.out);refine oO fun x f=>?_;go_simp;refine f _ _ ⟨u.out _ (((Upd.of e.out).set 0 _).set 1 _),?_⟩;clear f x
  repeat refine pO ?_
  refine Zd5 ?_;go_wp2;refine bodyPost_ret (v:=.tuple #[.agg #[.int .i64 1,.int .i64 0],.bool false]) (by simp [results,Tryz.results273,go_sem,y0,y1]) rfl ?_;exact Zkl C.out (Zkj B.out e.out)
theorem ZkK {op:Int} (hop:op=27∨op=29) {ia ib:Int} {G:Option Addr} {e:Nat} {a:Ty} (F:Zar w G e ([a]:List Ty)):
  Calls Tryz.prog 273 #[ZQ.p K,.agg #[.int .i64 op,.int .i64 ia,.int .i64 ib],.slice G 1 e] w (Zj6 w (ZeB m ls ⟨op,ia,ib⟩ [a])):=by
 have q:=Zh (show ZeB m ls ⟨op,ia,ib⟩ [a]=if decide (a=Zeu)=true then some ty0 else none from Zgb hop);obtain ⟨B,rfl,z,A⟩:=Zka F;obtain ⟨E,D⟩:=a;dsimp only at z A;obtain ⟨C,x,p,I,u,R⟩:=Zkf w op ia ib (l:=[(B,.int .i64 E),(⟨B.block,B.off+1,none⟩,.int .i64 D)]) ⟨z,A,trivial⟩;have f:=Zh (Below.refl C.heap.size C);have N:=ZdW;have J:=ZdV;have M:=ZdX;clear H Hj ht F z A;rcases hop with rfl|rfl
 all_goals
  go_enter Tryz.func273,Tryz.ntmps273
  go_upto_region 37 with fail
  rw [←x.out];refine kO u.out (oL [0,1,2,3,104,5,106,7]) (Upd.of f.out).drew ?_;have n:=Zh f.out.drew
  repeat refine pO ?_
  refine oO fun y g=>?_;go_simp;refine (Zj9 _).mono ?_;rintro r X ⟨rfl,j⟩;have b:=Zh (Zaf n.out j);refine g _ _ ⟨u.out _ (Upd.of b.out),?_⟩;clear g y j
  repeat refine pO ?_
  obtain ⟨T,U,V,W⟩:=Zki (I.out.old b.out);refine oO fun y g=>?_;go_simp;refine g _ _ ⟨u.out _ (((Upd.of b.out).set 0 _).set 1 _),?_⟩;clear g y
  repeat refine pO ?_
  refine Zd5 ?_;go_wp2;refine bodyPost_ret (v:=.tuple #[.agg #[.int .i64 0,.int .i64 0],.bool (decide (E=1)&&decide (D=0))]) (by simp [results,Tryz.results273,go_sem,T,U]) rfl ?_;exact Zko q.out (by rw [Zhp];rfl) (Zkj p.out b.out)
theorem ZkL {ia ib:Int} {q:Option Addr} {b:Nat} {a:Ty} (n:Zar w q b ([a]:List Ty)) (h1:a≠Zeu):
  Calls Tryz.prog 273 #[ZQ.p K,.agg #[.int .i64 30,.int .i64 ia,.int .i64 ib],.slice q 1 b] w (Zj6 w (ZeB m ls ⟨30,ia,ib⟩ [a])):=by
 have HPv:=Zh (show ZeB m ls ⟨30,ia,ib⟩ [a]=none from by rw [Zgc rfl];rw [show (decide ([a].getD 0 default=Zeu)&&decide (ls[ib.toNat]?=some Zeu))=false from by rw [show [a].getD 0 default=a from rfl,decide_eq_false h1];rfl];rfl);obtain ⟨g,rfl,e,f⟩:=Zka n;obtain ⟨ak,ac⟩:=a;dsimp only at e f;have u:(decide (ak=1)&&decide (ac=0))=false:=by exact k34
 clear h1;obtain ⟨j,HW1,HBw,HX,HS,A⟩:=Zkf w 30 ia ib (l:=[(g,.int .i64 ak),(⟨g.block,g.off+1,none⟩,.int .i64 ac)]) ⟨e,f,trivial⟩;have HB0:=Zh (Below.refl j.heap.size j);have z:=ZdW;have x:=ZdV;have y:=ZdX;clear H Hj ht n e f;exact k17
theorem ZkM {ia ib:Int} {b:Option Addr} {a:Nat} (hr:Zar w b a ([]:List Ty)):
  Calls Tryz.prog 273 #[ZQ.p K,.agg #[.int .i64 28,.int .i64 ia,.int .i64 ib],.slice b 0 a] w (Zj6 w (ZeB m ls ⟨28,ia,ib⟩ [])):=by
 have HPv:=Zh (show ZeB m ls ⟨28,ia,ib⟩ []=some ty0 from pvx (by simp));exact k12
theorem ZkN {ia ib:Int} {Y:Option Addr} {A:Nat} {a:Ty} (X:Zar w Y A ([a]:List Ty)) (R:a.k=2→0≤a.c∧a.c<m.cl.length) (h1:a.k=2) (ah:0≤ia) (F:¬ ia<(m.cl.getD a.c.toNat default).f.length):
  Calls Tryz.prog 338 #[ZQ.p K,.agg #[.int .i64 17,.int .i64 ia,.int .i64 ib],.slice Y 1 A] w (Zj6 w (ZeB m ls ⟨17,ia,ib⟩ [a])):=by
 obtain ⟨kl,k0,k1,k2,k3,k4⟩:=H.cells;obtain ⟨ad,rfl,a0,a1⟩:=Zka X;obtain ⟨ak,U⟩:=a;dsimp only at a0 a1;dsimp only at F;obtain rfl:ak=2:=h1;obtain ⟨M,N⟩:=R rfl;dsimp only at M N;obtain ⟨c,rfl⟩:∃ d:Nat,U=d:=⟨U.toNat,by omega⟩;have y:c<m.cl.length:=by omega
 have V:(c:Int) < m.cl.length:=by omega
 obtain ⟨G,D,-,-,I,-⟩:=Hj.cls y;have E:=Hj.f c y;obtain ⟨J,f⟩:∃ l,l=(m.cl.getD c default).f:=⟨_,rfl⟩;have z:Zey m ⟨2,(c:Int)⟩ ia=J[ia.toNat]?:=by rw [f];show (if (2:Int)=2 then (m.cl.getD ((c:Int)).toNat default).f[ia.toNat]? else none)=_;rw [if_pos rfl,Int.toNat_natCast]
 rw [←f] at I E;have C:=k0;rw [D] at C;rw [Int.toNat_natCast,←f] at F;have HPv:=Zh (show ZeB m ls ⟨17,ia,ib⟩ [⟨2,(c:Int)⟩]=none from by rw [Zf1 rfl];show Zey m ⟨2,(c:Int)⟩ ia=none;rw [z];exact List.getElem?_eq_none (by omega));have af:decide ((J.length:Int)≤ia)=true:=by simp;omega
 clear z f E D;obtain ⟨T,HW1,HBw,HX,aa,Z,HS,aj⟩:=Zkg w 17 ia ib 2 c (l:=[(ad,.int .i64 2),(⟨ad.block,ad.off+1,none⟩,.int .i64 c),(⟨K,0,none⟩,.slice (some G) m.cl.length h.cc),(⟨(G.add (c*4)).block,(G.add (c*4)).off+2,none⟩,.slice (h.c c).fo J.length (h.c c).fc)]) ⟨a0,a1,C,I,trivial⟩;have HB0:=Zh (Below.refl T.heap.size T);have ai:=ZdW;have ae:=ZdV;have ag:=ZdX;have hal:=Zac a0;clear H Hj ht X k0 k1 k2 k3 k4 C I;go_enter Tryz.func338,Tryz.ntmps338
 go_upto_region 4 with fail
 exact k8
theorem ZkO {ia ib:Int} {g:Option Addr} {b:Nat} {a:Ty} (hr:Zar w g b ([a]:List Ty)) (u:a.k=3):
  Calls Tryz.prog 338 #[ZQ.p K,.agg #[.int .i64 21,.int .i64 ia,.int .i64 ib],.slice g 1 b] w (Zj6 w (ZeB m ls ⟨21,ia,ib⟩ [a])):=by
 obtain ⟨f,rfl,a0,a1⟩:=Zka hr;obtain ⟨q,e⟩:=a;dsimp only at a0 a1;obtain rfl:q=3:=u;have HPv:=Zh (show ZeB m ls ⟨21,ia,ib⟩ [⟨3,e⟩]=some Zeu from by rw [Zf5 rfl];rfl);obtain ⟨W1,HW1,HBw,HX,n,j,HS,x⟩:=Zkg w 21 ia ib 3 e (l:=[(f,.int .i64 3),(⟨f.block,f.off+1,none⟩,.int .i64 e)]) ⟨a0,a1,trivial⟩;exact k15
theorem ZkP {ia ib:Int} {la:Option Addr} {y:Nat} {a:Ty} (hr:Zar w la y ([a]:List Ty)) (Y:a.k=2→0≤a.c∧a.c<m.cl.length) (h1:a.k=2) (V:0≤ia) (X:ia<m.cl.length) (T:Zet m ⟨2,ia⟩ a=false):
  Calls Tryz.prog 338 #[ZQ.p K,.agg #[.int .i64 24,.int .i64 ia,.int .i64 ib],.slice la 1 y] w (Zj6 w (ZeB m ls ⟨24,ia,ib⟩ [a])):=by
 obtain ⟨kl,k0,k1,k2,k3,k4⟩:=H.cells;obtain ⟨ad,rfl,I,R⟩:=Zka hr;obtain ⟨ak,f⟩:=a;dsimp only at I R;obtain rfl:ak=2:=h1;obtain ⟨D,E⟩:=Y rfl;dsimp only at D E;obtain ⟨q2,A⟩:∃ x,x=Zet m ⟨2,f⟩ ⟨2,ia⟩:=⟨_,rfl⟩;have F:Zet m ⟨2,ia⟩ ⟨2,f⟩=ZaH m (ia.toNat+1) ia f:=by simp [Zet]
 have G:Zet m ⟨2,f⟩ ⟨2,ia⟩=ZaH m (f.toNat+1) f ia:=by simp [Zet]
 have J:=Zh (show ∀ w',Below w.heap.size w w'→Calls Tryz.prog 340 #[.agg (HM.mk h m),.int .i64 ia,.int .i64 f] w' (Ret w' (.bool false)) from fun w' z=>by have:=ZjR m h ia f w' (Hj.old z) X D hd;rw [←F,T] at this;exact this);have M:=Zh (show ∀ w',Below w.heap.size w w'→Calls Tryz.prog 340 #[.agg (HM.mk h m),.int .i64 f,.int .i64 ia] w' (Ret w' (.bool q2)) from fun w' z=>by have:=ZjR m h f ia w' (Hj.old z) E V hd;rw [←G,←A] at this;exact this);have HPv:=Zh (show ZeB m ls ⟨24,ia,ib⟩ [⟨2,f⟩]=if q2=true then some ⟨2,ia⟩ else none from by rw [Zf8 rfl];rw [show (decide (([(⟨2,f⟩:Ty)].getD 0 default).k=2)&&(Zet m ([(⟨2,f⟩:Ty)].getD 0 default) ⟨2,ia⟩||Zet m ⟨2,ia⟩ ([(⟨2,f⟩:Ty)].getD 0 default)))=q2 from by show (true&&(Zet m ⟨2,f⟩ ⟨2,ia⟩||Zet m ⟨2,ia⟩ ⟨2,f⟩))=_;rw [T];rw [←A];simp]);clear F G T A;obtain ⟨Z,N,HBw,HX,af,ae,HS,al⟩:=Zkg w 24 ia ib 2 f (l:=[(ad,.int .i64 2),(⟨ad.block,ad.off+1,none⟩,.int .i64 f),(⟨K,0,none⟩,.slice h.co m.cl.length h.cc),(⟨K,1,none⟩,.slice h.so m.st.length h.sc),(⟨K,2,none⟩,.slice h.eo m.me.length h.ec),(⟨K,3,none⟩,.int .i64 m.sel)]) ⟨I,R,k0,k1,k2,k3,trivial⟩;have C:=Zh (Below.refl Z.heap.size Z);have aj:=ZdW;have ah:=ZdV;have ai:=ZdX;have U:=Zac I;clear H Hj ht hr k0 k1 k2 k3 k4;go_enter Tryz.func338,Tryz.ntmps338
 go_upto_region 16 with fail
 rw [←N.out];clear I R U;refine kO HS.out (oL [0,1,2,3,4,5,6,7,8,9,10,111,12,13,14,15,16,17,18,19,20,121,22,123,24]) (Upd.of C.out).drew ?_;have HB1:=Zh C.out.drew
 repeat refine pO ?_
 refine oO fun Kv hK=>?_;go_simp;refine (J.out _ (Zaf HBw.out HB1.out)).mono ?_;rintro r w5 ⟨rfl,hb5⟩;have HB2:=Zh (Zaf HB1.out hb5);refine hK _ _ ⟨HS.out _ (Upd.of HB2.out),?_⟩;clear hK Kv hb5
 repeat refine pO ?_
 refine oO fun Kv hK=>?_;go_simp;refine (M.out _ (Zaf HBw.out HB2.out)).mono ?_;rintro r w6 ⟨rfl,hb6⟩;have HB3:=Zh (Zaf HB2.out hb6);refine hK _ _ ⟨HS.out _ (Upd.of HB3.out),?_⟩;clear hK Kv hb6
 repeat refine pO ?_
 obtain ⟨y0,y1,g0,g1⟩:=Zki (HX.out.old HB3.out);refine oO fun Kv hK=>?_;go_simp;refine hK _ _ ⟨HS.out _ (((Upd.of HB3.out).set 0 _).set 1 _),?_⟩;clear hK Kv
 repeat refine pO ?_
 refine Zd5 ?_;go_wp2;refine bodyPost_ret (v:=.tuple #[.agg #[.int .i64 2,.int .i64 ia],.bool q2]) (by simp [results,Tryz.results338,go_sem,y0,y1]) rfl ?_;exact Zko HPv.out rfl (Zkj HBw.out HB3.out)
theorem ZkQ {ia ib:Int} {la:Option Addr} {j:Nat} {a b:Ty} (hr:Zar w la j ([a,b]:List Ty)) (h0:a.k=4) (h1:b=Zeu):
  Calls Tryz.prog 338 #[ZQ.p K,.agg #[.int .i64 19,.int .i64 ia,.int .i64 ib],.slice la 2 j] w (Zj6 w (ZeB m ls ⟨19,ia,ib⟩ [a,b])):=by
 obtain ⟨q,rfl,G,V,W,X⟩:=Zkb hr;obtain ⟨ak,e⟩:=a;obtain ⟨bk,bc⟩:=b;obtain ⟨rfl,rfl⟩:bk=1∧bc=0:=by cases h1;exact ⟨rfl,rfl⟩
 dsimp only at G V W X;obtain rfl:ak=4:=h0;have R:=Zh (show ZeB m ls ⟨19,ia,ib⟩ [⟨4,e⟩,Zeu]=some ⟨2,e⟩ from by rw [Zf3 rfl];rfl);obtain ⟨F,T,N,HX,n,M,Z,ar⟩:=Zkg w 19 ia ib 4 e (l:=[(q,.int .i64 4),(⟨q.block,q.off+1,none⟩,.int .i64 e),(⟨q.block,q.off+2,none⟩,.int .i64 1),(⟨q.block,q.off+3,none⟩,.int .i64 0)]) ⟨G,V,W,X,trivial⟩;have af:=Zh (Below.refl F.heap.size F);have aq:=ZdW;have ao:=ZdV;have ap:=ZdX;have Y:=Zac G;clear H Hj ht hr W X;go_enter Tryz.func338,Tryz.ntmps338
 go_upto_region 20 with (go_at_call 337;rw [←T.out];refine (Zj9 _).mono ?_;rintro r E ⟨rfl,f⟩;have J:=Zh f;have z0:=(n.out.old f).cell 0 (v:=.int .i64 4) rfl;have z1:=(n.out.old f).cell 1 (v:=.int .i64 e) rfl;have zl:=f.size;have zt:=n.out.lt;have zz:w.heap.size+2<E.heap.size:=(by omega);clear f)
 clear G V Y;clear z0 z1;have x:Below F.heap.size F (E.alloc (.cells #[.int .i64 2,.int .i64 e] 76)):=bal J.out _;have y:=Blk.new E #[.int .i64 2,.int .i64 e] 76;obtain ⟨A,D⟩:∃ A,A=E.alloc (.cells #[.int .i64 2,.int .i64 e] 76):=⟨_,rfl⟩;rw [←D] at x y ⊢;have B:=Zh x;have U:=Zh (show Blk A E.heap.size #[.int .i64 2,.int .i64 e] 76 from y);clear D x y;refine kO Z.out (oL [0,1,2,3,4,5,6,7,8,9,10,11,112,13,14]) (Upd.of B.out).drew ?_;have I:=Zh B.out.drew
 repeat refine pO ?_
 refine oO fun Kv hK=>?_;go_simp;refine (Zj9 _).mono ?_;rintro r w6 ⟨rfl,u⟩;have C:=Zh (Zaf (show Below A.heap.size A A.drew by exact bE) u);have g:=Zh (Zaf I.out u);refine hK _ _ ⟨Z.out _ (Upd.of g.out),?_⟩;clear hK Kv u
 repeat refine pO ?_
 refine Zd5 ?_;have z:=U.out.old C.out;have x0:=z.cell 0 (v:=.int .i64 2) rfl;have x1:=z.cell 1 (v:=.int .i64 e) rfl;have i0:=(M.out.old g.out).cell 0 (v:=.int .i64 19) rfl;clear z;obtain ⟨y0,y1,g0,g1⟩:=Zki (HX.out.old g.out);go_wp2;refine bodyPost_ret (v:=.tuple #[.agg #[.int .i64 2,.int .i64 e],.bool true]) (by simp [results,Tryz.results338,go_sem,y0,y1]) rfl ?_;exact Zkk R.out (Zkj N.out g.out)
theorem ZkR {ia ib:Int} {la:Option Addr} {z:Nat} {a b d:Ty} (hr:Zar w la z ([a,b,d]:List Ty)) (h0:a.k=4) (h1:b=Zeu) (Z:d.k=2→0≤d.c∧d.c<m.cl.length) (Y:0≤a.c):
  Calls Tryz.prog 338 #[ZQ.p K,.agg #[.int .i64 20,.int .i64 ia,.int .i64 ib],.slice la 3 z] w (Zj6 w (ZeB m ls ⟨20,ia,ib⟩ [a,b,d])):=by
 obtain ⟨kl,k0,k1,k2,k3,k4⟩:=H.cells;obtain ⟨ad,rfl,I,M,N,R,T,U⟩:=Zkc hr;obtain ⟨ak,f⟩:=a;obtain ⟨bk,bc⟩:=b;obtain ⟨rfl,rfl⟩:bk=1∧bc=0:=by cases h1;exact ⟨rfl,rfl⟩
 obtain ⟨E,D⟩:=d;dsimp only at I M N R T U;obtain rfl:ak=4:=h0;have HPv:=Zh (show ZeB m ls ⟨20,ia,ib⟩ [⟨4,f⟩,Zeu,⟨E,D⟩]=if Zet m ⟨E,D⟩ ⟨2,f⟩=true then some ty0 else none from by rw [Zf4 rfl];rfl);have aa:(⟨2,f⟩:Ty).k=2→0≤(⟨2,f⟩:Ty).c:=fun hk=>Y;obtain ⟨ft,hft⟩:∃ x,x=Zet m ⟨E,D⟩ ⟨2,f⟩:=⟨_,rfl⟩;have HFi:=Zh (show ∀ w',Below w.heap.size w w'→Calls Tryz.prog 274 #[.agg (HM.mk h m),.agg #[.int .i64 E,.int .i64 D],.agg #[.int .i64 2,.int .i64 f]] w' (Ret w' (.bool ft)) from fun w' X=>by have:=ZjS m h ⟨E,D⟩ ⟨2,f⟩ w' (Hj.old X) Z aa hd;rw [←hft] at this;exact this);have Hft:=Zh hft;clear hft;obtain ⟨G,J,HBw,HX,A,HBi,HS,ao⟩:=Zkg w 20 ia ib 4 f (l:=[(ad,.int .i64 4),(⟨ad.block,ad.off+1,none⟩,.int .i64 f),(⟨ad.block,ad.off+2,none⟩,.int .i64 1),(⟨ad.block,ad.off+3,none⟩,.int .i64 0),(⟨ad.block,ad.off+4,none⟩,.int .i64 E),(⟨ad.block,ad.off+5,none⟩,.int .i64 D),(⟨K,0,none⟩,.slice h.co m.cl.length h.cc),(⟨K,1,none⟩,.slice h.so m.st.length h.sc),(⟨K,2,none⟩,.slice h.eo m.me.length h.ec),(⟨K,3,none⟩,.int .i64 m.sel)]) ⟨I,M,N,R,T,U,k0,k1,k2,k3,trivial⟩;have af:=Zh (Below.refl G.heap.size G);have an:=ZdW;have aj:=ZdV;have al:=ZdX;have V:=Zac I;clear H Hj ht hr k0 k1 k2 k3 k4 N R T U;go_enter Tryz.func338,Tryz.ntmps338
 go_upto_region 20 with (go_at_call 337;rw [←J.out];refine (Zj9 _).mono ?_;rintro r w4 ⟨rfl,y⟩;have HB4:=Zh y;have z0:=(A.out.old y).cell 0 (v:=.int .i64 4) rfl;have z1:=(A.out.old y).cell 1 (v:=.int .i64 f) rfl;have zl:=y.size;have zt:=A.out.lt;have zz:w.heap.size+2<w4.heap.size:=(by omega);clear y)
 clear I M V;clear z0 z1;have hw5:Below G.heap.size G (w4.alloc (.cells #[.int .i64 2,.int .i64 f] 76)):=bal HB4.out _;have hx5:=Blk.new w4 #[.int .i64 2,.int .i64 f] 76;obtain ⟨C,hW5⟩:∃ C,C=w4.alloc (.cells #[.int .i64 2,.int .i64 f] 76):=⟨_,rfl⟩;rw [←hW5] at hw5 hx5 ⊢;have HB1:=Zh hw5;have HX5:=Zh (show Blk C w4.heap.size #[.int .i64 2,.int .i64 f] 76 from hx5);clear hW5 hw5 hx5;refine kO HS.out (oL [0,1,2,3,4,5,6,7,8,9,10,11,112,13,14]) (Upd.of HB1.out).drew ?_;have HB2:=Zh HB1.out.drew
 repeat refine pO ?_
 refine oO fun Kv hK=>?_;go_simp;refine (Zj9 _).mono ?_;rintro r w6 ⟨rfl,hb6⟩;have F:=Zh (Zaf (show Below C.heap.size C C.drew by exact bE) hb6);have HB3:=Zh (Zaf HB2.out hb6);refine hK _ _ ⟨HS.out _ (Upd.of HB3.out),?_⟩;clear hK Kv hb6
 repeat refine pO ?_
 refine Zd5 ?_;have hx6:=HX5.out.old F.out;have x0:=hx6.cell 0 (v:=.int .i64 2) rfl;have x1:=hx6.cell 1 (v:=.int .i64 f) rfl;exact k13
end
end
