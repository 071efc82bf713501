import Derived.Test.YtfmcclhfnpcokaaGreatG16
import Derived.Test.YtfmcclhfnpcokaaGreatG15
import Derived.Test.YtfmcclhfnpcokaaGreatG17
set_option linter.all false
set_option maxRecDepth 100000
set_option maxHeartbeats 10000000
namespace Go.Proofs.YtfmcclhfnpcokaaGreat
theorem k8{p:Prop}(h:p:=by
 rw [←HW1.out];clear a0 a1 hal;refine kO HS.out (oL [0,1,2,3,4,5,6,7,8,9,10,11,12,13,14,15,16,17,18]) (Upd.of HB0.out).drew ?_;have HB1:=Zh HB0.out.drew
 repeat refine pO ?_
 refine Zd7 ?_;obtain ⟨y0,y1,g0,g1⟩:=Zkm (HX.out.old HB0.out);go_wp2;refine bodyPost_ret (v:=.tuple #[.agg #[.int .i64 0,.int .i64 0],.bool false]) (by simp [results,Tryz.results229,go_sem,y0,y1]) rfl ?_;exact Zkp HPv.out (Zkn HBw.out HB1.out)):p:=h
theorem k12{p:Prop}(h:p:=by
 clear H Hj ht hr;go_enter Tryz.func167,Tryz.ntmps167;go_wp2;refine bodyPost_ret (v:=.tuple #[.agg #[.int .i64 0,.int .i64 0],.bool true]) (by simp [results,Tryz.results167,go_sem,Nat.add_zero]) rfl ?_;exact Zko HPv.out bE):p:=h
theorem k13{p:Prop}(h:p:=by
 have i0:=(HBi.out.old HB3.out).cell 0 (v:=.int .i64 20) rfl;have HS2:=Zh (Zkl HS.out (Upd.of HB3.out) hx6 (by omega));clear hx6 x0 x1
 go_wp2_with fail
 refine kO HS2.out (oL [0,1,2,3,4,5,6,7,8,109,110,11]) (Upd.refl _ _ _).drew ?_
 repeat refine pO ?_
 refine oO fun Kv hK=>?_;go_simp;refine (HFi.out _ (Zag HBw.out (Zag HB3.out (show Below w6.heap.size w6 w6.drew by exact bE)))).mono ?_;rintro r w7 ⟨rfl,hb7⟩;have HBv:=Zh (Zag (show Below w6.heap.size w6 w6.drew by exact bE) hb7);have HB4:=Zh (Zag HB3.out HBv.out);refine hK _ _ ⟨HS2.out _ (Upd.of HBv.out),?_⟩;clear hK Kv hb7
 repeat refine pO ?_
 obtain ⟨y0,y1,g0,g1⟩:=Zkm (HX.out.old HB4.out);refine oO fun Kv hK=>?_;go_simp;refine hK _ _ ⟨HS2.out _ (((Upd.of HBv.out).set 0 _).set 1 _),?_⟩;clear hK Kv
 repeat refine pO ?_
 refine Zd7 ?_;go_wp2;refine bodyPost_ret (v:=.tuple #[.agg #[.int .i64 0,.int .i64 0],.bool ft]) (by simp [results,Tryz.results229,go_sem,y0,y1]) rfl ?_;exact Zks HPv.out Hft.out (Zkn HBw.out HB4.out)):p:=h
theorem k15{p:Prop}(h:p:=by
 have HB0:=Zh (Below.refl W1.heap.size W1);have hne:=ZdY;have heq:=ZdX;have hgu:=ZdZ;have hal:=Zad a0;clear H Hj ht hr;go_enter Tryz.func229,Tryz.ntmps229
 go_upto_region 12 with fail
 rw [←HW1.out];clear a0 a1 hal;refine kO HS.out (oL [1,2,3,100,4,5,6,7,8,109,10]) (Upd.of HB0.out).drew ?_;have HB1:=Zh HB0.out.drew
 repeat refine pO ?_
 refine oO fun Kv hK=>?_;go_simp;refine (Zkd _).mono ?_;rintro r w5 ⟨rfl,hb5⟩;have HB2:=Zh (Zag HB1.out hb5);refine hK _ _ ⟨HS.out _ (Upd.of HB2.out),?_⟩;clear hK Kv hb5
 repeat refine pO ?_
 obtain ⟨y0,y1,g0,g1⟩:=Zkm (HX.out.old HB2.out);refine oO fun Kv hK=>?_;go_simp;refine hK _ _ ⟨HS.out _ (((Upd.of HB2.out).set 0 _).set 1 _),?_⟩;clear hK Kv
 repeat refine pO ?_
 refine Zd7 ?_;go_wp2;refine bodyPost_ret (v:=.tuple #[.agg #[.int .i64 1,.int .i64 0],.bool true]) (by simp [results,Tryz.results229,go_sem,y0,y1]) rfl ?_;exact k88):p:=h
theorem k17{p:Prop}(h:p:=by
 go_enter Tryz.func167,Tryz.ntmps167
 go_upto_region 39 with fail
 rw [←HW1.out];refine kO HS.out (oL [0,1,2,3,104,5,6,7,8,9,10,11,12,13,14,15,16,17,18,19,20,21,22,23,24,125,26,27,128,29]) (Upd.of HB0.out).drew ?_;have HB1:=Zh HB0.out.drew
 repeat refine pO ?_
 refine oO fun Kv hK=>?_;go_simp;refine (Zkd _).mono ?_;rintro r w5 ⟨rfl,hb5⟩;have HB2:=Zh (Zag HB1.out hb5);refine hK _ _ ⟨HS.out _ (Upd.of HB2.out),?_⟩;clear hK Kv hb5
 repeat refine pO ?_
 refine sO 185 (HS.out _ (Upd.of HB2.out)) ?_
 repeat refine pO ?_
 obtain ⟨y0,y1,g0,g1⟩:=Zkm (HX.out.old HB2.out);refine oO fun Kv hK=>?_;go_simp;refine hK _ _ ⟨HS.out _ (((Upd.of HB2.out).set 0 _).set 1 _),?_⟩;clear hK Kv
 repeat refine pO ?_
 refine Zd7 ?_;go_wp2;refine bodyPost_ret (v:=.tuple #[.agg #[.int .i64 0,.int .i64 0],.bool false]) (by simp [results,Tryz.results167,go_sem,y0,y1]) rfl ?_;exact Zkp HPv.out (Zkn HBw.out HB2.out)):p:=h
theorem k44{p:Prop}(h:p:=by
 unfold Zkt;have hz:=fun j (hj:j<m.me.length)=>(ZfQ hm hj).z.1;split
 ·rename_i q;have:=hz i.a.toNat (by have:=(hi.o25 q).1;have:=hi.a0 (by omega);omega);omega
 ·split
  ·simp
  ·rename_i x hx;obtain ⟨j,h1,h2,-⟩:=ZfY hi hc hx;have:=hz j (by omega);rw [←h2] at this;simp;omega):p:=h
theorem k58{p:Prop}(h:p:=by
 clear H Hj ht hr;go_enter Tryz.func167,Tryz.ntmps167;go_wp2;refine bodyPost_ret (v:=.tuple #[.agg #[.int .i64 3,.int .i64 0],.bool true]) (by simp [results,Tryz.results167,go_sem,Nat.add_zero]) rfl ?_;exact Zko HPv.out bE):p:=h
theorem k88{p:Prop}(h:p:=by
 exact Zko HPv.out (Zkn HBw.out HB2.out)):p:=h
section
open Go.RowKit
def Pk (w:World) (K:Nat) (h:Hd) (m:Md) (L S O:Value):Prop:=Blk w K #[.slice h.co m.cl.length h.cc,.slice h.so m.st.length h.sc,.slice h.eo m.me.length h.ec,.int .i64 m.sel,L,S,O] 147
theorem Pk.cells {w:World}{K:Nat}{h:Hd}{m:Md}{L S O:Value} (H:Pk w K h m L S O):K<w.heap.size∧w.cell? ⟨K,0,none⟩=some (.slice h.co m.cl.length h.cc)∧w.cell? ⟨K,1,none⟩=some (.slice h.so m.st.length h.sc)∧w.cell? ⟨K,2,none⟩=some (.slice h.eo m.me.length h.ec)∧w.cell? ⟨K,3,none⟩=some (.int .i64 m.sel)∧w.cell? ⟨K,4,none⟩=some L:=
 ⟨Blk.lt H,Blk.cell H 0 rfl,Blk.cell H 1 rfl,Blk.cell H 2 rfl,Blk.cell H 3 rfl,Blk.cell H 4 rfl⟩
theorem Zj7 {w w':World} (b:Below w.heap.size w w') {p:Addr}{v:Value} (a:w.cell? p=some v):w'.cell? p=some v:=(b.cell (Zad a)).trans a
theorem Zj8 {w:World}{K:Nat}{h:Hd}{m:Md}{t:TypeId} (H:Blk w K (HM.mk h m) t):w.cell? ⟨K,0,none⟩=some (.slice h.co m.cl.length h.cc)∧w.cell? ⟨K,1,none⟩=some (.slice h.so m.st.length h.sc)∧w.cell? ⟨K,2,none⟩=some (.slice h.eo m.me.length h.ec)∧w.cell? ⟨K,3,none⟩=some (.int .i64 m.sel):=
 ⟨H.cell 0 rfl,H.cell 1 rfl,H.cell 2 rfl,H.cell 3 rfl⟩
theorem Zj9 {w:World}{K:Nat}{a b:Int}{t:TypeId} (H:Blk w K #[.int .i64 a,.int .i64 b] t):w.cell? ⟨K,0,none⟩=some (.int .i64 a)∧w.cell? ⟨K,1,none⟩=some (.int .i64 b):=⟨H.cell 0 rfl,H.cell 1 rfl⟩
def Zka (W:World) (q:Option Ty):Ending→World→Prop:=fun e w'=>∃ t:Ty,e=.returned (.tuple #[.agg #[.int .i64 t.k,.int .i64 t.c],.bool q.isSome])∧(∀ u,q=some u→t=u)∧Below W.heap.size W w'
theorem Zkb {W w':World}{q:Option Ty}{x y:Int}{b:Bool} (a:b=q.isSome) (ht:∀ u,q=some u→(⟨x,y⟩:Ty)=u) (h:Below W.heap.size W w'):Zka W q (.returned (.tuple #[.agg #[.int .i64 x,.int .i64 y],.bool b])) w':=⟨⟨x,y⟩,by rw [a],ht,h⟩
theorem Zkc {w c w':World}{b:Nat} (d:Below w.heap.size w c) (e:w.heap.size≤b) (f:Upd b b c w') {p:Addr}{v:Value} (a:w.cell? p=some v):w'.cell? p=some v:=
 f.cell ((d.cell (Zad a)).trans a) (by have:=Zad a;omega) (by have:=Zad a;omega)
theorem Zkd (w:World):Calls Tryz.prog 228 #[] w (Ret w (.agg #[.int .i64 1,.int .i64 0])):=by go_enter Tryz.func228,Tryz.ntmps228;go_wp2;exact bodyPost_ret (v:=.agg #[.int .i64 1,.int .i64 0]) (by simp [results,Tryz.results228,go_sem]) rfl ⟨rfl,by exact bE⟩
theorem Zke {w:World}{g:Option Addr}{c:Nat}{a:Ty} (j:Zas w g c ([a]:List Ty)):∃ b,g=some b∧w.cell? b=some (.int .i64 a.k)∧w.cell? ⟨b.block,b.off+1,none⟩=some (.int .i64 a.c):=by obtain ⟨b,d,e,f⟩:=ZaA j (i:=0) (by simp);simp only [Nat.zero_mul,List.getD_cons_zero,show b.add 0=b from by simp [Addr.add]] at e f;exact ⟨b,d,e,f⟩
theorem Zkf {w:World}{n:Option Addr}{f:Nat}{a b:Ty} (l:Zas w n f ([a,b]:List Ty)):∃ c,n=some c∧w.cell? c=some (.int .i64 a.k)∧w.cell? ⟨c.block,c.off+1,none⟩=some (.int .i64 a.c)∧w.cell? ⟨c.block,c.off+2,none⟩=some (.int .i64 b.k)∧w.cell? ⟨c.block,c.off+3,none⟩=some (.int .i64 b.c):=by obtain ⟨c,e,g,j⟩:=ZaA l (i:=0) (by simp);obtain ⟨o,d,p,q⟩:=ZaA l (i:=1) (by simp);rw [e] at d;cases d;simp only [Nat.zero_mul,List.getD_cons_zero,show c.add 0=c from by simp [Addr.add]] at g j;exact ⟨c,e,g,j,p,q⟩
theorem Zkg {w:World}{p:Option Addr}{j:Nat}{a b d:Ty} (l:Zas w p j ([a,b,d]:List Ty)):∃ c,p=some c∧w.cell? c=some (.int .i64 a.k)∧w.cell? ⟨c.block,c.off+1,none⟩=some (.int .i64 a.c)∧w.cell? ⟨c.block,c.off+2,none⟩=some (.int .i64 b.k)∧w.cell? ⟨c.block,c.off+3,none⟩=some (.int .i64 b.c)∧w.cell? ⟨c.block,c.off+4,none⟩=some (.int .i64 d.k)∧w.cell? ⟨c.block,c.off+5,none⟩=some (.int .i64 d.c):=by obtain ⟨c,g,n,o⟩:=ZaA l (i:=0) (by simp);obtain ⟨q,e,u,v⟩:=ZaA l (i:=1) (by simp);obtain ⟨r,f,x,y⟩:=ZaA l (i:=2) (by simp);rw [g] at e f;cases e;cases f;simp only [Nat.zero_mul,List.getD_cons_zero,show c.add 0=c from by simp [Addr.add]] at n o;exact ⟨c,g,n,o,u,v,x,y⟩
def Zkh (S:World→Prop) (r:Nat) (W1:World):Prop:=∀ w',Upd r r W1 w'→S w'
theorem Zki {w c w':World}{b:Nat} (d:Below w.heap.size w c) (a:w.heap.size≤b) (e:Upd b b c w'):∀ {l:List (Addr × Value)},Cs l w→Cs l w'
 | [],_=>trivial
 | (_,_) :: _,h=>⟨Zkc d a e h.1,Zki d a e h.2⟩
theorem Zkj (w:World) (op ia ib:Int) {l:List (Addr × Value)} (h:Cs l w):∃ a,RowKit.Hid (a=((w.alloc (.cells #[.int .i64 op,.int .i64 ia,.int .i64 ib] 72)).alloc (.cells #[.int .i64 0,.int .i64 0] 38)))∧RowKit.Hid (Below w.heap.size w a)∧RowKit.Hid (Blk a (w.heap.size+1) #[.int .i64 0,.int .i64 0] 38) ∧
  RowKit.Hid (Zkh (fun w'=>Cs l w'∧Cs [(⟨w.heap.size,0,none⟩,.int .i64 op),(⟨w.heap.size,1,none⟩,.int .i64 ia),(⟨w.heap.size,2,none⟩,.int .i64 ib)] w') (w.heap.size+1) a)∧w.heap.size+1<a.heap.size:=by
 obtain ⟨a,b⟩:∃ a,a=((w.alloc (.cells #[.int .i64 op,.int .i64 ia,.int .i64 ib] 72)).alloc (.cells #[.int .i64 0,.int .i64 0] 38)):=⟨_,rfl⟩;have d:Below w.heap.size w a:=by rw [b];exact bE
 have c:Blk a w.heap.size #[.int .i64 op,.int .i64 ia,.int .i64 ib] 72:=by rw [b];exact ((Blk.new w _ _).alloc _)
 have e:Blk a (w.heap.size+1) #[.int .i64 0,.int .i64 0] 38:=by rw [b];exact (Blk.new' (w:=w.alloc (.cells #[.int .i64 op,.int .i64 ia,.int .i64 ib] 72)) _ _ (by simp))
 exact ⟨a,b,d,e,fun w' f=>⟨Zki d (Nat.le_succ _) f h,f.cell (c.cell 0 rfl) (by show w.heap.size≠_;omega) (by show w.heap.size≠_;omega),f.cell (c.cell 1 rfl) (by show w.heap.size≠_;omega) (by show w.heap.size≠_;omega),f.cell (c.cell 2 rfl) (by show w.heap.size≠_;omega) (by show w.heap.size≠_;omega),trivial⟩,e.lt⟩
theorem Zkk (w:World) (op ia ib n j:Int) {l:List (Addr × Value)} (h:Cs l w):∃ a,RowKit.Hid (a=((w.alloc (.cells #[.int .i64 op,.int .i64 ia,.int .i64 ib] 72)).alloc (.cells #[.int .i64 0,.int .i64 0] 38)).alloc (.cells #[.int .i64 n,.int .i64 j] 38))∧RowKit.Hid (Below w.heap.size w a)∧RowKit.Hid (Blk a (w.heap.size+1) #[.int .i64 0,.int .i64 0] 38)∧RowKit.Hid (Blk a (w.heap.size+2) #[.int .i64 n,.int .i64 j] 38)∧RowKit.Hid (Blk a w.heap.size #[.int .i64 op,.int .i64 ia,.int .i64 ib] 72) ∧
  RowKit.Hid (Zkh (fun w'=>Cs l w'∧Cs [(⟨w.heap.size+2,0,none⟩,.int .i64 n),(⟨w.heap.size+2,1,none⟩,.int .i64 j),(⟨w.heap.size,0,none⟩,.int .i64 op),(⟨w.heap.size,1,none⟩,.int .i64 ia),(⟨w.heap.size,2,none⟩,.int .i64 ib)] w') (w.heap.size+1) a)∧w.heap.size+1<a.heap.size:=by
 obtain ⟨a,b⟩:∃ a,a=((w.alloc (.cells #[.int .i64 op,.int .i64 ia,.int .i64 ib] 72)).alloc (.cells #[.int .i64 0,.int .i64 0] 38)).alloc (.cells #[.int .i64 n,.int .i64 j] 38):=⟨_,rfl⟩;have f:Below w.heap.size w a:=by rw [b];exact bE
 have c:Blk a w.heap.size #[.int .i64 op,.int .i64 ia,.int .i64 ib] 72:=by rw [b];exact ((Blk.new w _ _).alloc _).alloc _
 have g:Blk a (w.heap.size+1) #[.int .i64 0,.int .i64 0] 38:=by rw [b];exact (Blk.new' (w:=w.alloc (.cells #[.int .i64 op,.int .i64 ia,.int .i64 ib] 72)) _ _ (by simp)).alloc _
 have d:Blk a (w.heap.size+2) #[.int .i64 n,.int .i64 j] 38:=by rw [b];exact Blk.new' (w:=(w.alloc (.cells #[.int .i64 op,.int .i64 ia,.int .i64 ib] 72)).alloc (.cells #[.int .i64 0,.int .i64 0] 38)) _ _ (by simp)
 exact ⟨a,b,f,g,d,c,fun w' e=>⟨Zki f (Nat.le_succ _) e h,e.cell (d.cell 0 rfl) (by show w.heap.size+2≠_;omega) (by show w.heap.size+2≠_;omega),e.cell (d.cell 1 rfl) (by show w.heap.size+2≠_;omega) (by show w.heap.size+2≠_;omega),e.cell (c.cell 0 rfl) (by show w.heap.size≠_;omega) (by show w.heap.size≠_;omega),e.cell (c.cell 1 rfl) (by show w.heap.size≠_;omega) (by show w.heap.size≠_;omega),e.cell (c.cell 2 rfl) (by show w.heap.size≠_;omega) (by show w.heap.size≠_;omega),trivial⟩,g.lt⟩
theorem Zkl {S:World→Prop}{r b:Nat}{d w2:World} (j:Zkh S r d) (l:Upd r r d w2) {g f:Int}{t:TypeId} (e:Blk w2 b #[.int .i64 g,.int .i64 f] t) (c:b≠r):Zkh (fun w'=>S w'∧Cs [(⟨b,0,none⟩,.int .i64 g),(⟨b,1,none⟩,.int .i64 f)] w') r w2:=
 fun w' a=>⟨j w' (l.trans a),a.cell (e.cell 0 rfl) c c,a.cell (e.cell 1 rfl) c c,trivial⟩
theorem kO {P:Program}{S:World→Prop}{Q:Exit→Act→World→Prop}{id r:Nat}{a:Act}{W1 w:World}{l:List Oper} (HS:Zkh S r W1) (t:Ord) (hu:Upd r r W1 w.drew) (h:Zd0 P l Q S t a w.drew) (hm:P.follows .mixedOrders=true:=by kernel_rfl)
  (hB:(Region.noSelect l.toArray&&decide (t.len=l.length)&&t.inB l.length&&Zd1 .any l.toArray t (Array.replicate l.length false))=true:=by kernel_rfl) (hQ:∀ c a d v w,Q (.panic c) (Act.put a d v) w→Q (.panic c) a w:=by intro c a d v w h;cases d<;>exact h):(Code.region id l.toArray true).wp P Q a w:=Zd3 S t hm hB hQ (HS _ hu) h
theorem sO {P:Program}{S:World→Prop}{Q:Exit→Act→World→Prop}{l:List Oper}{k:Nat}{t:Ord}{a a':Act}{w:World} (d:Tmp) (hS:S w) (h:Zd0 P l Q S t a' w) (hs:(l.toArray[k]?.map fun o=>(o.dst,Region.wanted o (yielded l.toArray a.tmps)))=some (some d,false):=by rfl)
  (ha:({ a with tmps:=a.tmps.setIfInBounds d undef }:Act)=a':=by ((try simp only [List.setIfInBounds_toArray,List.set_cons_zero,List.set_cons_succ]);rfl)):Zd0 P l Q S (.one k t) a w:=by
 subst ha;exact Zd5 (Zh4 d hs ⟨hS,h⟩)
theorem Zkm {w:World}{b:Nat}{t:TypeId} (H:Blk w b #[.int .i64 0,.int .i64 0] t):w.cell? ⟨b,0,none⟩=some (.int .i64 0)∧w.cell? ⟨b,1,none⟩=some (.int .i64 0)∧w.frozen? ⟨b,0,none⟩=false∧w.frozen? ⟨b,1,none⟩=false:=⟨H.cell 0 rfl,H.cell 1 rfl,H.frozen 0,H.frozen 1⟩
theorem Zkn {w a w':World} (c:Below w.heap.size w a) (b:Below a.heap.size a w') {v u:Value}:Below w.heap.size w ((w'.setCell ⟨w.heap.size+1,0,none⟩ v).setCell ⟨w.heap.size+1,1,none⟩ u):=ZcS (ZcS (Zag c b) (Nat.le_succ _) _) (Nat.le_succ _) _
theorem Zko {W w':World}{q:Option Ty}{x y:Int} (h:q=some ⟨x,y⟩) (a:Below W.heap.size W w'):Zka W q (.returned (.tuple #[.agg #[.int .i64 x,.int .i64 y],.bool true])) w':=Zkb (by rw [h];rfl) (fun u b=>Option.some.inj (h.symm.trans b)) a
theorem Zkp {W w':World}{q:Option Ty}{x y:Int} (h:q=none) (b:Below W.heap.size W w'):Zka W q (.returned (.tuple #[.agg #[.int .i64 x,.int .i64 y],.bool false])) w':=Zkb (by rw [h];rfl) (fun u a=>by rw [h] at a;cases a) b
theorem Zkq {c:Bool}{t:Ty}:c=(if c=true then some t else none).isSome:=by cases c<;>rfl
theorem Zkr {c:Bool}{t u:Ty} (h:(if c=true then some t else none)=some u):t=u:=by cases c<;>simp_all
theorem Zks {W w':World}{q:Option Ty}{x y:Int}{b c:Bool} (h:q=if c=true then some ⟨x,y⟩ else none) (d:b=c) (a:Below W.heap.size W w'):Zka W q (.returned (.tuple #[.agg #[.int .i64 x,.int .i64 y],.bool b])) w':=Zkb (by rw [h,d];exact Zkq) (fun u e=>Zkr (h.symm.trans e)) a
end
section
open Go.RowKit
def Zkt (m:Md) (i:In3):List Ty:=if i.op=25 then (m.me.getD i.a.toNat default).p else match Zey m i with
 | none=>[]
 | some x=>⟨2,-1⟩ :: x.p
def Zku (m:Md) (i:In3):Ty:=match Zey m i with
 | none=>ty0
 | some x=>x.r
section
variable {w:World}{K:Nat}{h:Hd}{m:Md}{L S O:Value}(H:Pk w K h m L S O)(Hj:Zaz w h m)(hm:Za2 m=true){ia:Nat}{ib:Int}
include w K h m L S O H Hj hm ia ib
theorem Zkv (hj:ia<m.me.length):
  Calls Tryz.prog 227 #[ZQ.p K,.agg #[.int .i64 25,.int .i64 ia,.int .i64 ib]] w (ZdG w (m.me.getD ia default).p):=by
 obtain ⟨Y,k0,k1,k2,k3,-⟩:=H.cells;obtain ⟨R,heo,-,-,G,-,T,U,-⟩:=Hj.mth hj;obtain ⟨ma,C⟩:∃ a,a=R.add (ia*7):=⟨_,rfl⟩;rw [←C] at G T U;rw [heo] at k2;obtain ⟨ps,E⟩:∃ l,l=(m.me.getD ia default).p:=⟨_,rfl⟩;rw [←E] at G ⊢;have M:=Zh E;clear E;obtain ⟨V,D⟩:∃ n,n=ps.length:=⟨_,rfl⟩;rw [←D] at G;obtain ⟨A,f⟩:∃ A,A=(w.alloc (.cells #[.int .i64 25,.int .i64 ia,.int .i64 ib] 72)):=⟨_,rfl⟩;have y:Below w.heap.size w A:=by rw [f];exact bE
 have z:Blk A w.heap.size #[.int .i64 25,.int .i64 ia,.int .i64 ib] 72:=by rw [f];exact (Blk.new w _ _)
 have hS:∀ w',Below A.heap.size A w'→(fun w':World=>w'.cell? ⟨K,2,none⟩=some (.slice (some R) m.me.length h.ec)∧w'.cell? ⟨ma.block,ma.off+2,none⟩=some (.slice (h.e ia).po V (h.e ia).pc)∧w'.cell? ⟨w.heap.size,0,none⟩=some (.int .i64 25)∧w'.cell? ⟨w.heap.size,1,none⟩=some (.int .i64 ia)∧w'.cell? ⟨w.heap.size,2,none⟩=some (.int .i64 ib)) w':=fun w' hu=>⟨Zj7 (Zag y hu) k2,Zj7 (Zag y hu) G,(z.old hu).cell 0 rfl,(z.old hu).cell 1 rfl,(z.old hu).cell 2 rfl⟩;have HS:=Zh hS;have HBw:=Zh y;have N:=Zh f;have I:=Zh Hj;have HMa:=Zh C;have X:(ia:Int) < m.me.length:=by omega
 have F:=Zh (Below.refl A.heap.size A);have J:=Zh D;clear hS f y z H Hj hm k0 k1 k2 k3 C heo G T U D;go_enter Tryz.func227,Tryz.ntmps227
 go_upto_region 2 with fail
 rw [←N.out];refine rO (fun w':World=>w'.cell? ⟨K,2,none⟩=some (.slice (some R) m.me.length h.ec)∧w'.cell? ⟨ma.block,ma.off+2,none⟩=some (.slice (h.e ia).po V (h.e ia).pc)∧w'.cell? ⟨w.heap.size,0,none⟩=some (.int .i64 25)∧w'.cell? ⟨w.heap.size,1,none⟩=some (.int .i64 ia)∧w'.cell? ⟨w.heap.size,2,none⟩=some (.int .i64 ib)) (oL [0,1,2,3,4,5,6,7,8,9,10]) (HS.out _ F.out.drew) ?_;have HB1:=Zh F.out.drew
 iterate 8 (refine pO ?_)
 rw [←HMa.out]
 repeat refine pO ?_
 refine Zd7 ?_;go_wp2;go_ret;rw [J.out];exact ⟨⟨_,_,rfl,by rw [M.out];exact (I.out.old (Zag HBw.out HB1.out)).p ia hj⟩,Zag HBw.out HB1.out⟩
theorem Zkw (U:(ia:Int) < m.sel) (I:ZaO m ia=[]):
  Calls Tryz.prog 227 #[ZQ.p K,.agg #[.int .i64 26,.int .i64 ia,.int .i64 ib]] w (ZdG w ([]:List Ty)):=by
 obtain ⟨Y,k0,k1,k2,k3,-⟩:=H.cells;obtain ⟨y,z⟩:∃ y,y=(w.alloc (.cells #[.int .i64 26,.int .i64 ia,.int .i64 ib] 72)):=⟨_,rfl⟩;have f:Below w.heap.size w y:=by rw [z];exact bE
 have A:Blk y w.heap.size #[.int .i64 26,.int .i64 ia,.int .i64 ib] 72:=by rw [z];exact (Blk.new w _ _)
 have hS:∀ w',Below y.heap.size y w'→(fun w':World=>w'.cell? ⟨K,0,none⟩=some (.slice h.co m.cl.length h.cc)∧w'.cell? ⟨K,1,none⟩=some (.slice h.so m.st.length h.sc)∧w'.cell? ⟨K,2,none⟩=some (.slice h.eo m.me.length h.ec)∧w'.cell? ⟨K,3,none⟩=some (.int .i64 m.sel)∧w'.cell? ⟨w.heap.size,0,none⟩=some (.int .i64 26)∧w'.cell? ⟨w.heap.size,1,none⟩=some (.int .i64 ia)∧w'.cell? ⟨w.heap.size,2,none⟩=some (.int .i64 ib)) w':=fun w' hu=>⟨Zj7 (Zag f hu) k0,Zj7 (Zag f hu) k1,Zj7 (Zag f hu) k2,Zj7 (Zag f hu) k3,(A.old hu).cell 0 rfl,(A.old hu).cell 1 rfl,(A.old hu).cell 2 rfl⟩;have HS:=Zh hS;have HBw:=Zh f;have M:=Zh z;have R:=Zh Hj;have C:=Zh (Below.refl y.heap.size y);have HT:=Zh (show ∀ w',Below y.heap.size y w'→Calls Tryz.prog 212 #[.agg (HM.mk h m),.int .i64 ia] w' (Zin w' (ZaO m ia) 0) from fun w' N=>Zjq m h ia w' (Hj.old (Zag f N)) hm U);obtain ⟨V,F⟩:∃ n,n=(ZaO m ia).length:=⟨_,rfl⟩;have D:=Zh F;have J:=Zh I;clear hS z f A H Hj hm k0 k1 k2 k3 I F;go_enter Tryz.func227,Tryz.ntmps227
 go_upto_region 3 with fail
 rw [←M.out];refine rO (fun w':World=>w'.cell? ⟨K,0,none⟩=some (.slice h.co m.cl.length h.cc)∧w'.cell? ⟨K,1,none⟩=some (.slice h.so m.st.length h.sc)∧w'.cell? ⟨K,2,none⟩=some (.slice h.eo m.me.length h.ec)∧w'.cell? ⟨K,3,none⟩=some (.int .i64 m.sel)∧w'.cell? ⟨w.heap.size,0,none⟩=some (.int .i64 26)∧w'.cell? ⟨w.heap.size,1,none⟩=some (.int .i64 ia)∧w'.cell? ⟨w.heap.size,2,none⟩=some (.int .i64 ib)) (oL [0,1,2,3,4,5,106,7,8,9,10,11]) (HS.out _ C.out.drew) ?_;have HB1:=Zh C.out.drew
 repeat refine pO ?_
 refine oO fun Kv hK=>?_;go_simp;refine (HT.out _ HB1.out).mono ?_;rintro r Z ⟨⟨X,T,rfl,G⟩,E⟩;have HB2:=Zh (Zag HB1.out E);rw [←D.out];refine hK _ _ ⟨HS.out _ HB2.out,?_⟩;clear hK Kv E
 repeat refine pO ?_
 refine Zd7 ?_;have hn0:V=0:=by rw [D.out,J.out];rfl
 subst hn0;clear G;go_wp2;go_ret;exact ⟨⟨none,0,rfl,Zas.nil _⟩,Zag HBw.out HB2.out⟩
theorem Zkx (hs:(ia:Int) < m.sel) {y:Nat} {ak:List Int} (ai:ZaO m ia=(y:Int) :: ak) (R:y<m.me.length):
  Calls Tryz.prog 227 #[ZQ.p K,.agg #[.int .i64 26,.int .i64 ia,.int .i64 ib]] w (ZdG w ((⟨2,-1⟩:Ty) :: (m.me.getD y default).p)):=by
 obtain ⟨kl,k0,k1,k2,k3,-⟩:=H.cells;have T:=k2;obtain ⟨ea,heo,-,-,Z,-,f4,f5,-⟩:=Hj.mth R;obtain ⟨ma,J⟩:∃ a,a=ea.add (y*7):=⟨_,rfl⟩;rw [←J] at Z f4 f5;rw [heo] at T;have ah:(m.me.getD y default).p.length≤4:=(ZfQ hm R).z.1;obtain ⟨ps,N⟩:∃ l,l=(m.me.getD y default).p:=⟨_,rfl⟩;rw [←N] at Z ah ⊢;have ar:=Zh N;clear N;obtain ⟨np,M⟩:∃ n,n=ps.length:=⟨_,rfl⟩;rw [←M] at Z ah;obtain ⟨C,E⟩:∃ C,C=(w.alloc (.cells #[.int .i64 26,.int .i64 ia,.int .i64 ib] 72)):=⟨_,rfl⟩;have f:Below w.heap.size w C:=by rw [E];exact bE
 have z:Blk C w.heap.size #[.int .i64 26,.int .i64 ia,.int .i64 ib] 72:=by rw [E];exact (Blk.new w _ _)
 have hS:∀ w',Below C.heap.size C w'→(fun w':World=>w'.cell? ⟨K,0,none⟩=some (.slice h.co m.cl.length h.cc)∧w'.cell? ⟨K,1,none⟩=some (.slice h.so m.st.length h.sc)∧w'.cell? ⟨K,2,none⟩=some (.slice h.eo m.me.length h.ec)∧w'.cell? ⟨K,3,none⟩=some (.int .i64 m.sel)∧w'.cell? ⟨w.heap.size,0,none⟩=some (.int .i64 26)∧w'.cell? ⟨w.heap.size,1,none⟩=some (.int .i64 ia)∧w'.cell? ⟨w.heap.size,2,none⟩=some (.int .i64 ib)) w':=fun w' hu=>⟨Zj7 (Zag f hu) k0,Zj7 (Zag f hu) k1,Zj7 (Zag f hu) k2,Zj7 (Zag f hu) k3,(z.old hu).cell 0 rfl,(z.old hu).cell 1 rfl,(z.old hu).cell 2 rfl⟩;have HS:=Zh hS;have aa:∀ w',Below C.heap.size C w'→(fun w':World=>w'.cell? ⟨K,2,none⟩=some (.slice (some ea) m.me.length h.ec)∧w'.cell? ⟨ma.block,ma.off+2,none⟩=some (.slice (h.e y).po np (h.e y).pc)∧w'.cell? ⟨w.heap.size,0,none⟩=some (.int .i64 26)∧w'.cell? ⟨w.heap.size,1,none⟩=some (.int .i64 ia)∧w'.cell? ⟨w.heap.size,2,none⟩=some (.int .i64 ib)) w':=fun w' hu=>⟨Zj7 (Zag f hu) T,Zj7 (Zag f hu) Z,(z.old hu).cell 0 rfl,(z.old hu).cell 1 rfl,(z.old hu).cell 2 rfl⟩;have au:=Zh aa;have HMa:=Zh J;have X:=Zh M;have HBw:=Zh f;have av:=Zh E;have ap:=Zh Hj;have U:=Zh (Below.refl C.heap.size C);have HT:=Zh (show ∀ w',Below C.heap.size C w'→Calls Tryz.prog 212 #[.agg (HM.mk h m),.int .i64 ia] w' (Zin w' (ZaO m ia) 0) from fun w' ax=>Zjq m h ia w' (Hj.old (Zag f ax)) hm hs);obtain ⟨nt,ag⟩:∃ n,n=(ZaO m ia).length:=⟨_,rfl⟩;have G:=Zh ag;have Y:=Zh ai;clear hS E f z H Hj hm k0 k1 k2 k3 ai ag J heo Z f4 f5 aa T M
 go_enter Tryz.func227,Tryz.ntmps227
 go_upto_region 3 with fail
 rw [←av.out];refine rO (fun w':World=>w'.cell? ⟨K,0,none⟩=some (.slice h.co m.cl.length h.cc)∧w'.cell? ⟨K,1,none⟩=some (.slice h.so m.st.length h.sc)∧w'.cell? ⟨K,2,none⟩=some (.slice h.eo m.me.length h.ec)∧w'.cell? ⟨K,3,none⟩=some (.int .i64 m.sel)∧w'.cell? ⟨w.heap.size,0,none⟩=some (.int .i64 26)∧w'.cell? ⟨w.heap.size,1,none⟩=some (.int .i64 ia)∧w'.cell? ⟨w.heap.size,2,none⟩=some (.int .i64 ib)) (oL [0,1,2,3,4,5,106,7,8,9,10,11]) (HS.out _ U.out.drew) ?_;have HB1:=Zh U.out.drew
 repeat refine pO ?_
 refine oO fun Kv hK=>?_;go_simp;refine (HT.out _ HB1.out).mono ?_;rintro r A ⟨⟨ao,aD,rfl,F⟩,ac⟩;have HB2:=Zh (Zag HB1.out ac);rw [←G.out];refine hK _ _ ⟨HS.out _ HB2.out,?_⟩;clear hK Kv ac
 repeat refine pO ?_
 refine Zd7 ?_;have hn0:0<nt:=by rw [G.out,Y.out];simp
 have aF:((nt:Int) == 0)=false:=by simp;omega
 obtain ⟨ta,aw,t0⟩:=ZaC F (i:=0) (by have:=G.out;omega);rw [show ta.add 0=ta from by simp [Addr.add],Y.out] at t0;have al:A.cell? ta=some (.int .i64 y):=t0;subst aw;have aA:(y:Int) < m.me.length:=by omega
 have ab:∀ w',Below A.heap.size A w'→(fun w':World=>w'.cell? ⟨K,2,none⟩=some (.slice (some ea) m.me.length h.ec)∧w'.cell? ⟨ma.block,ma.off+2,none⟩=some (.slice (h.e y).po np (h.e y).pc)∧w'.cell? ta=some (.int .i64 y)∧w'.cell? ⟨w.heap.size,0,none⟩=some (.int .i64 26)∧w'.cell? ⟨w.heap.size,1,none⟩=some (.int .i64 ia)∧w'.cell? ⟨w.heap.size,2,none⟩=some (.int .i64 ib)) w':=fun w' hu=>by obtain ⟨z0,z1,z2,z3,z4⟩:=au.out w' (Zag HB2.out hu);exact ⟨z0,z1,Zj7 hu al,z2,z3,z4⟩
 have I:=Zh ab;clear ab F t0 al
 go_wp2_with fail
 refine rO (fun w':World=>w'.cell? ⟨K,2,none⟩=some (.slice (some ea) m.me.length h.ec)∧w'.cell? ⟨ma.block,ma.off+2,none⟩=some (.slice (h.e y).po np (h.e y).pc)∧w'.cell? ta=some (.int .i64 y)∧w'.cell? ⟨w.heap.size,0,none⟩=some (.int .i64 26)∧w'.cell? ⟨w.heap.size,1,none⟩=some (.int .i64 ia)∧w'.cell? ⟨w.heap.size,2,none⟩=some (.int .i64 ib)) (oL [0,2,3,4,5,6,7,8,9,10,11,12,101,113,14]) (I.out _ (show Below A.heap.size A A.drew by exact bE)) ?_
 iterate 10 (refine pO ?_)
 rw [←HMa.out]
 repeat refine pO ?_
 refine oO fun Kv hK=>?_;go_simp;have HB3:=Zh (show Below A.heap.size A (A.alloc (.cells #[.int .i64 2,.int .i64 (-1)] 38)).drew by exact bE);refine hK _ _ ⟨I.out _ HB3.out,?_⟩;clear hK Kv
 repeat refine pO ?_
 have HO:=Zh (World.ownsRow.drew (World.ownsRow_lit (base:=A.heap.size) (e:=38) (size:=2) A #[.int .i64 2,.int .i64 (-1)] 1 (Nat.le_refl _) (by decide) rfl));have HR:=Zh ((ap.out.old (Zag (Zag HBw.out HB2.out) HB3.out)).p y R);refine oO fun Kv hK=>?_;refine Zel (.tmp 34) (.tmp 45) 23 rfl A.heap.size 38 2 16 Zfh _ 1 _ rfl HO.out (h.e y).po np (h.e y).pc (Zal ps) rfl (by rw [X.out,ar.out];exact HR.out) (Zar _) (by omega) (by unfold maxLen;omega) (by simp) ?_;intro ao2 cap2 w4 D ae;have aq:=Zh D;have V:=Zh ((show Below A.heap.size A (A.alloc (.cells #[.int .i64 2,.int .i64 (-1)] 38)).drew from HB3.out).grown ae (by simp) (fun k hk=>by cases hk;exact Nat.le_refl _));refine hK _ _ ⟨I.out _ V.out,?_⟩;clear hK Kv D ae
 repeat refine pO ?_
 refine Zd7 ?_;go_wp2;go_ret;have af:((⟨2,-1⟩:Ty) :: ps).length=1+np:=by rw [List.length_cons,←X.out,Nat.add_comm]
 refine ⟨⟨ao2,cap2,?_,?_⟩,Zag (Zag HBw.out HB2.out) V.out⟩
 ·rw [af];rfl
 ·have h9:=(Zai aq.out).2;unfold Zas;rw [af];exact h9
theorem Zky (hj:ia<m.me.length):
  Calls Tryz.prog 226 #[ZQ.p K,.agg #[.int .i64 25,.int .i64 ia,.int .i64 ib]] w (Ret w (.agg #[.int .i64 (m.me.getD ia default).r.k,.int .i64 (m.me.getD ia default).r.c])):=by
 obtain ⟨Z,k0,k1,k2,k3,-⟩:=H.cells;obtain ⟨M,heo,-,-,T,-,G,I,-⟩:=Hj.mth hj;obtain ⟨ma,F⟩:∃ a,a=M.add (ia*7):=⟨_,rfl⟩;rw [←F] at T G I;rw [heo] at k2;obtain ⟨⟨N,R⟩,U⟩:∃ r:Ty,r=(m.me.getD ia default).r:=⟨_,rfl⟩;rw [←U] at G I ⊢;dsimp only at G I ⊢;obtain ⟨C,f⟩:∃ C,C=(w.alloc (.cells #[.int .i64 25,.int .i64 ia,.int .i64 ib] 72)).alloc (.cells #[.int .i64 0,.int .i64 0] 38):=⟨_,rfl⟩;have y:Below w.heap.size w C:=by rw [f];exact bE
 have z:Blk C w.heap.size #[.int .i64 25,.int .i64 ia,.int .i64 ib] 72:=by rw [f];exact (Blk.new w _ _).alloc _
 have E:Blk C (w.heap.size+1) #[.int .i64 0,.int .i64 0] 38:=by rw [f];exact Blk.new' (w:=w.alloc (.cells #[.int .i64 25,.int .i64 ia,.int .i64 ib] 72)) _ _ (by simp)
 have HX:=Zh E;have Y:=E.lt;have hS:∀ w',Upd (w.heap.size+1) (w.heap.size+1) C w'→(fun w':World=>w'.cell? ⟨K,2,none⟩=some (.slice (some M) m.me.length h.ec)∧w'.cell? ⟨ma.block,ma.off+4,none⟩=some (.int .i64 N)∧w'.cell? ⟨ma.block,ma.off+5,none⟩=some (.int .i64 R)∧w'.cell? ⟨w.heap.size,0,none⟩=some (.int .i64 25)∧w'.cell? ⟨w.heap.size,1,none⟩=some (.int .i64 ia)∧w'.cell? ⟨w.heap.size,2,none⟩=some (.int .i64 ib)) w':=fun w' hu=>⟨Zkc y (Nat.le_succ _) hu k2,Zkc y (Nat.le_succ _) hu G,Zkc y (Nat.le_succ _) hu I,hu.cell (z.cell 0 rfl) (by show w.heap.size≠_;omega) (by show w.heap.size≠_;omega),hu.cell (z.cell 1 rfl) (by show w.heap.size≠_;omega) (by show w.heap.size≠_;omega),hu.cell (z.cell 2 rfl) (by show w.heap.size≠_;omega) (by show w.heap.size≠_;omega)⟩;have HS:=Zh hS;have HBw:=Zh y;have J:=Zh f;have V:=Zh Hj;have HMa:=Zh F;have X:(ia:Int) < m.me.length:=by omega
 have D:=Zh (Below.refl C.heap.size C);clear hS f y z E H Hj hm k0 k1 k2 k3 F heo T G I U;go_enter Tryz.func226,Tryz.ntmps226
 go_upto_region 2 with fail
 rw [←J.out];refine rO (fun w':World=>w'.cell? ⟨K,2,none⟩=some (.slice (some M) m.me.length h.ec)∧w'.cell? ⟨ma.block,ma.off+4,none⟩=some (.int .i64 N)∧w'.cell? ⟨ma.block,ma.off+5,none⟩=some (.int .i64 R)∧w'.cell? ⟨w.heap.size,0,none⟩=some (.int .i64 25)∧w'.cell? ⟨w.heap.size,1,none⟩=some (.int .i64 ia)∧w'.cell? ⟨w.heap.size,2,none⟩=some (.int .i64 ib)) (oL [0,1,2,3,4,5,6,7,8,9,110]) (HS.out _ (Upd.of D.out).drew) ?_;have HB1:=Zh D.out.drew
 iterate 8 (refine pO ?_)
 rw [←HMa.out]
 repeat refine pO ?_
 have A:=HX.out.old D.out;have y0:=A.cell 0 (v:=.int .i64 0) rfl;have y1:=A.cell 1 (v:=.int .i64 0) rfl;have g0:=A.frozen 0;have g1:=A.frozen 1;refine oO fun Kv hK=>?_;go_simp;refine hK _ _ ⟨HS.out _ (((Upd.of HB1.out).set 0 _).set 1 _),?_⟩;clear hK Kv;refine Zd7 ?_;go_wp2;refine bodyPost_ret (v:=.agg #[.int .i64 N,.int .i64 R]) (by simp [results,Tryz.results226,go_sem,y0,y1]) rfl ⟨rfl,?_⟩;exact ZcS (ZcS (Zag HBw.out HB1.out) (Nat.le_succ _) _) (Nat.le_succ _) _
theorem Zkz (Y:(ia:Int) < m.sel) (M:ZaO m ia=[]):
  Calls Tryz.prog 226 #[ZQ.p K,.agg #[.int .i64 26,.int .i64 ia,.int .i64 ib]] w (Ret w (.agg #[.int .i64 0,.int .i64 0])):=by
 obtain ⟨kl,k0,k1,k2,k3,-⟩:=H.cells;obtain ⟨z,y⟩:∃ z,z=(w.alloc (.cells #[.int .i64 26,.int .i64 ia,.int .i64 ib] 72)).alloc (.cells #[.int .i64 0,.int .i64 0] 38):=⟨_,rfl⟩;have f:Below w.heap.size w z:=by rw [y];exact bE
 have A:Blk z w.heap.size #[.int .i64 26,.int .i64 ia,.int .i64 ib] 72:=by rw [y];exact (Blk.new w _ _).alloc _
 have D:Blk z (w.heap.size+1) #[.int .i64 0,.int .i64 0] 38:=by rw [y];exact Blk.new' (w:=w.alloc (.cells #[.int .i64 26,.int .i64 ia,.int .i64 ib] 72)) _ _ (by simp)
 have HX:=Zh D;have X:=D.lt;have hS:∀ w',Upd (w.heap.size+1) (w.heap.size+1) z w'→(fun w':World=>w'.cell? ⟨K,0,none⟩=some (.slice h.co m.cl.length h.cc)∧w'.cell? ⟨K,1,none⟩=some (.slice h.so m.st.length h.sc)∧w'.cell? ⟨K,2,none⟩=some (.slice h.eo m.me.length h.ec)∧w'.cell? ⟨K,3,none⟩=some (.int .i64 m.sel)∧w'.cell? ⟨w.heap.size,0,none⟩=some (.int .i64 26)∧w'.cell? ⟨w.heap.size,1,none⟩=some (.int .i64 ia)∧w'.cell? ⟨w.heap.size,2,none⟩=some (.int .i64 ib)) w':=fun w' hu=>⟨Zkc f (Nat.le_succ _) hu k0,Zkc f (Nat.le_succ _) hu k1,Zkc f (Nat.le_succ _) hu k2,Zkc f (Nat.le_succ _) hu k3,hu.cell (A.cell 0 rfl) (by show w.heap.size≠_;omega) (by show w.heap.size≠_;omega),hu.cell (A.cell 1 rfl) (by show w.heap.size≠_;omega) (by show w.heap.size≠_;omega),hu.cell (A.cell 2 rfl) (by show w.heap.size≠_;omega) (by show w.heap.size≠_;omega)⟩;have HS:=Zh hS;have HBw:=Zh f;have R:=Zh y;have U:=Zh Hj;have E:=Zh (Below.refl z.heap.size z);have HT:=Zh (show ∀ w',Below z.heap.size z w'→Calls Tryz.prog 212 #[.agg (HM.mk h m),.int .i64 ia] w' (Zin w' (ZaO m ia) 0) from fun w' T=>Zjq m h ia w' (Hj.old (Zag f T)) hm Y);obtain ⟨Z,I⟩:∃ n,n=(ZaO m ia).length:=⟨_,rfl⟩;have F:=Zh I;have N:=Zh M;clear hS y f A D H Hj hm k0 k1 k2 k3 M I;go_enter Tryz.func226,Tryz.ntmps226
 go_upto_region 3 with fail
 rw [←R.out];refine rO (fun w':World=>w'.cell? ⟨K,0,none⟩=some (.slice h.co m.cl.length h.cc)∧w'.cell? ⟨K,1,none⟩=some (.slice h.so m.st.length h.sc)∧w'.cell? ⟨K,2,none⟩=some (.slice h.eo m.me.length h.ec)∧w'.cell? ⟨K,3,none⟩=some (.int .i64 m.sel)∧w'.cell? ⟨w.heap.size,0,none⟩=some (.int .i64 26)∧w'.cell? ⟨w.heap.size,1,none⟩=some (.int .i64 ia)∧w'.cell? ⟨w.heap.size,2,none⟩=some (.int .i64 ib)) (oL [0,1,2,3,4,5,106,7,8,9,10,11]) (HS.out _ (Upd.of E.out).drew) ?_;have HB1:=Zh E.out.drew
 repeat refine pO ?_
 refine oO fun Kv hK=>?_;go_simp;refine (HT.out _ HB1.out).mono ?_;rintro r w2 ⟨⟨ao,V,rfl,J⟩,G⟩;have HB2:=Zh (Zag HB1.out G);rw [←F.out];refine hK _ _ ⟨HS.out _ (Upd.of HB2.out),?_⟩;clear hK Kv G
 repeat refine pO ?_
 refine Zd7 ?_;have hn0:Z=0:=by rw [F.out,N.out];rfl
 subst hn0;have C:=HX.out.old HB2.out;have y0:=C.cell 0 (v:=.int .i64 0) rfl;have y1:=C.cell 1 (v:=.int .i64 0) rfl;have g0:=C.frozen 0;have g1:=C.frozen 1;clear J;go_wp2;refine bodyPost_ret (v:=.agg #[.int .i64 0,.int .i64 0]) (by simp [results,Tryz.results226,go_sem,y0,y1]) rfl ⟨rfl,?_⟩;exact ZcS (ZcS (Zag HBw.out HB2.out) (Nat.le_succ _) _) (Nat.le_succ _) _
theorem ZkA (hs:(ia:Int) < m.sel) {C:Nat} {ab:List Int} (aa:ZaO m ia=(C:Int) :: ab) (an:C<m.me.length):
  Calls Tryz.prog 226 #[ZQ.p K,.agg #[.int .i64 26,.int .i64 ia,.int .i64 ib]] w (Ret w (.agg #[.int .i64 (m.me.getD C default).r.k,.int .i64 (m.me.getD C default).r.c])):=by
 obtain ⟨kl,k0,k1,k2,k3,-⟩:=H.cells;have M:=k2;obtain ⟨ea,heo,-,-,f2,-,T,U,-⟩:=Hj.mth an;obtain ⟨ma,J⟩:∃ a,a=ea.add (C*7):=⟨_,rfl⟩;rw [←J] at f2 T U;rw [heo] at M;obtain ⟨⟨rk,rq⟩,hr⟩:∃ r:Ty,r=(m.me.getD C default).r:=⟨_,rfl⟩;rw [←hr] at T U ⊢;dsimp only at T U ⊢;obtain ⟨z,A⟩:∃ z,z=(w.alloc (.cells #[.int .i64 26,.int .i64 ia,.int .i64 ib] 72)).alloc (.cells #[.int .i64 0,.int .i64 0] 38):=⟨_,rfl⟩;have f:Below w.heap.size w z:=by rw [A];exact bE
 have y:Blk z w.heap.size #[.int .i64 26,.int .i64 ia,.int .i64 ib] 72:=by rw [A];exact (Blk.new w _ _).alloc _
 have I:Blk z (w.heap.size+1) #[.int .i64 0,.int .i64 0] 38:=by rw [A];exact Blk.new' (w:=w.alloc (.cells #[.int .i64 26,.int .i64 ia,.int .i64 ib] 72)) _ _ (by simp)
 have HX:=Zh I;have ay:=I.lt;have hS:∀ w',Upd (w.heap.size+1) (w.heap.size+1) z w'→(fun w':World=>w'.cell? ⟨K,0,none⟩=some (.slice h.co m.cl.length h.cc)∧w'.cell? ⟨K,1,none⟩=some (.slice h.so m.st.length h.sc)∧w'.cell? ⟨K,2,none⟩=some (.slice h.eo m.me.length h.ec)∧w'.cell? ⟨K,3,none⟩=some (.int .i64 m.sel)∧w'.cell? ⟨w.heap.size,0,none⟩=some (.int .i64 26)∧w'.cell? ⟨w.heap.size,1,none⟩=some (.int .i64 ia)∧w'.cell? ⟨w.heap.size,2,none⟩=some (.int .i64 ib)) w':=fun w' hu=>⟨Zkc f (Nat.le_succ _) hu k0,Zkc f (Nat.le_succ _) hu k1,Zkc f (Nat.le_succ _) hu k2,Zkc f (Nat.le_succ _) hu k3,hu.cell (y.cell 0 rfl) (by show w.heap.size≠_;omega) (by show w.heap.size≠_;omega),hu.cell (y.cell 1 rfl) (by show w.heap.size≠_;omega) (by show w.heap.size≠_;omega),hu.cell (y.cell 2 rfl) (by show w.heap.size≠_;omega) (by show w.heap.size≠_;omega)⟩;have HS:=Zh hS
 have V:∀ w',Upd (w.heap.size+1) (w.heap.size+1) z w'→(fun w':World=>w'.cell? ⟨K,2,none⟩=some (.slice (some ea) m.me.length h.ec)∧w'.cell? ⟨ma.block,ma.off+4,none⟩=some (.int .i64 rk)∧w'.cell? ⟨ma.block,ma.off+5,none⟩=some (.int .i64 rq)∧w'.cell? ⟨w.heap.size,0,none⟩=some (.int .i64 26)∧w'.cell? ⟨w.heap.size,1,none⟩=some (.int .i64 ia)∧w'.cell? ⟨w.heap.size,2,none⟩=some (.int .i64 ib)) w':=fun w' hu=>⟨Zkc f (Nat.le_succ _) hu M,Zkc f (Nat.le_succ _) hu T,Zkc f (Nat.le_succ _) hu U,hu.cell (y.cell 0 rfl) (by show w.heap.size≠_;omega) (by show w.heap.size≠_;omega),hu.cell (y.cell 1 rfl) (by show w.heap.size≠_;omega) (by show w.heap.size≠_;omega),hu.cell (y.cell 2 rfl) (by show w.heap.size≠_;omega) (by show w.heap.size≠_;omega)⟩;have ah:=Zh V;have HMa:=Zh J;have HBw:=Zh f;have aj:=Zh A;have av:=Zh Hj;have N:=Zh (Below.refl z.heap.size z);have HT:=Zh (show ∀ w',Below z.heap.size z w'→Calls Tryz.prog 212 #[.agg (HM.mk h m),.int .i64 ia] w' (Zin w' (ZaO m ia) 0) from fun w' al=>Zjq m h ia w' (Hj.old (Zag f al)) hm hs);obtain ⟨nt,Z⟩:∃ n,n=(ZaO m ia).length:=⟨_,rfl⟩;have G:=Zh Z;have R:=Zh aa;clear hS A f y I H Hj hm k0 k1 k2 k3 aa Z J heo f2 T U V M hr;go_enter Tryz.func226,Tryz.ntmps226
 go_upto_region 3 with fail
 rw [←aj.out];refine rO (fun w':World=>w'.cell? ⟨K,0,none⟩=some (.slice h.co m.cl.length h.cc)∧w'.cell? ⟨K,1,none⟩=some (.slice h.so m.st.length h.sc)∧w'.cell? ⟨K,2,none⟩=some (.slice h.eo m.me.length h.ec)∧w'.cell? ⟨K,3,none⟩=some (.int .i64 m.sel)∧w'.cell? ⟨w.heap.size,0,none⟩=some (.int .i64 26)∧w'.cell? ⟨w.heap.size,1,none⟩=some (.int .i64 ia)∧w'.cell? ⟨w.heap.size,2,none⟩=some (.int .i64 ib)) (oL [0,1,2,3,4,5,106,7,8,9,10,11]) (HS.out _ (Upd.of N.out).drew) ?_;have HB1:=Zh N.out.drew
 repeat refine pO ?_
 refine oO fun Kv hK=>?_;go_simp;refine (HT.out _ HB1.out).mono ?_;rintro r E ⟨⟨ao,aw,rfl,F⟩,Y⟩;have HB2:=Zh (Zag HB1.out Y);rw [←G.out];refine hK _ _ ⟨HS.out _ (Upd.of HB2.out),?_⟩;clear hK Kv Y
 repeat refine pO ?_
 refine Zd7 ?_;have hn0:0<nt:=by rw [G.out,R.out];simp
 have ax:((nt:Int) == 0)=false:=by simp;omega
 obtain ⟨ta,ak,t0⟩:=ZaC F (i:=0) (by have:=G.out;omega);rw [show ta.add 0=ta from by simp [Addr.add],R.out] at t0;have ac:E.cell? ta=some (.int .i64 C):=t0;subst ak;have ar:(C:Int) < m.me.length:=by omega
 have X:∀ w',Below E.heap.size E w'→(fun w':World=>w'.cell? ⟨K,2,none⟩=some (.slice (some ea) m.me.length h.ec)∧w'.cell? ⟨ma.block,ma.off+4,none⟩=some (.int .i64 rk)∧w'.cell? ⟨ma.block,ma.off+5,none⟩=some (.int .i64 rq)∧w'.cell? ta=some (.int .i64 C)∧w'.cell? ⟨w.heap.size,0,none⟩=some (.int .i64 26)∧w'.cell? ⟨w.heap.size,1,none⟩=some (.int .i64 ia)∧w'.cell? ⟨w.heap.size,2,none⟩=some (.int .i64 ib)) w':=fun w' hu=>by obtain ⟨z0,z1,z2,z3,z4,z5⟩:=ah.out w' ((Upd.of HB2.out).trans (Upd.of hu));exact ⟨z0,z1,z2,Zj7 hu ac,z3,z4,z5⟩
 have ai:=Zh X;clear X F t0 ac
 go_wp2_with fail
 refine rE (fun w':World=>w'.cell? ⟨K,2,none⟩=some (.slice (some ea) m.me.length h.ec)∧w'.cell? ⟨ma.block,ma.off+4,none⟩=some (.int .i64 rk)∧w'.cell? ⟨ma.block,ma.off+5,none⟩=some (.int .i64 rq)∧w'.cell? ta=some (.int .i64 C)∧w'.cell? ⟨w.heap.size,0,none⟩=some (.int .i64 26)∧w'.cell? ⟨w.heap.size,1,none⟩=some (.int .i64 ia)∧w'.cell? ⟨w.heap.size,2,none⟩=some (.int .i64 ib)) 11 (oL [0,1,2,3,4,5,6,7,8,9,10]) (ai.out _ (show Below E.heap.size E E.drew by exact bE)) ?_
 iterate 9 (refine pE ?_)
 rw [←HMa.out]
 repeat refine pE ?_
 have D:=HX.out.old HB2.out;have y0:=D.cell 0 (v:=.int .i64 0) rfl;have y1:=D.cell 1 (v:=.int .i64 0) rfl;have g0:=D.frozen 0;have g1:=D.frozen 1;refine sE fun Kv hK=>?_;go_simp;refine hK _ _ ?_;clear hK Kv;go_wp2;refine bodyPost_ret (v:=.agg #[.int .i64 rk,.int .i64 rq]) (by simp [results,Tryz.results226,go_sem,y0,y1]) rfl ⟨rfl,?_⟩;exact ZcS (ZcS (Zag HBw.out (HB2.out.trans ((show Below E.heap.size E E.drew by exact bE).mono HB2.out.size))) (Nat.le_succ _) _) (Nat.le_succ _) _
end
end
section
open Go.RowKit
theorem ZkB {m:Md} (hm:Za2 m=true) {b:Nat} (f:(b:Int) < m.sel) (c:Int) (d:0≤c) (e:c<m.cl.length):b<(m.cl.getD c.toNat default).m.length:=by have a:=ZfK hm c.toNat (by omega);simp only [ZaL,Bool.and_eq_true,decide_eq_true_eq] at a;have:=a.1.1.2;omega
section
variable {w0 w:World}{K:Nat}{h:Hd}{m:Md}{lo:Option Addr}{lc:Nat}{ls:List Ty}{s:Ps}{so:Option Addr}{sc:Nat}{oo:Option Addr}{oc:Nat}{bs:List VB}{i:In3}{k:Nat}(hm:Za2 m=true)(hlo:∀ t∈ls,Zfk m t)(HW:Zfl m s.stk)(H:St w0 w K h m lo lc ls s so sc oo oc bs)(Hj:Zaz w0 h m)(hd:s.opn.length≤6)(hi:ZfU m k i)
include w0 w K h m lo lc ls s so sc oo oc bs i k hm hlo HW H Hj hd hi
theorem ZkC (W:k<m.me.length) (hop:i.op=25):
  Calls Tryz.prog 201 #[ZQ.p K,ZI.i i] w (ZhV w K h m lo lc ls oo oc bs (ZhS m ls i s)):=by
 obtain ⟨Z,ia,ib⟩:=i;dsimp only at hop;subst hop;have I:=hi.a0 (by simp);dsimp only at I;obtain ⟨ia,rfl⟩:∃ d:Nat,ia=d:=⟨ia.toNat,by omega⟩;have g:Below w.heap.size w ((w.alloc (.cells #[ZQ.p K] 163)).alloc (.cells #[.int .i64 25,.int .i64 ia,.int .i64 ib] 72)):=by exact bE
 have x:=(Blk.new w #[ZQ.p K] 163).alloc (.cells #[.int .i64 25,.int .i64 ia,.int .i64 ib] 72);have u:Blk ((w.alloc (.cells #[ZQ.p K] 163)).alloc (.cells #[.int .i64 25,.int .i64 ia,.int .i64 ib] 72)) (w.heap.size+1) #[.int .i64 25,.int .i64 ia,.int .i64 ib] 72:=Blk.new' (w:=w.alloc (.cells #[ZQ.p K] 163)) _ _ (by simp);have Y:=Blk.lt H.ck;have M:=H.old g;obtain ⟨J,-⟩:=hi.o25 rfl;dsimp only at J;have z:ia<m.me.length:=by omega
 obtain ⟨G,j,-⟩:=Hj.mth z;have A:∀ b,(∃ L S O e,Ck b K h m L S O e)→b.cell? ⟨K,2,none⟩=some (.slice (some G) m.me.length h.ec):=fun b y=>by obtain ⟨L,S,O,e,y⟩:=y;have:=y.cells.2.2.2.1;rwa [j] at this
 have B:=Zh j;clear j;have HB1:=Zh g;have C:=Zh M;have N:=x.cell 0 (v:=.pointer (some ⟨K,0,none⟩)) rfl;have U:=u.cell 1 (v:=.int .i64 ia) rfl;have R:∀ b,Upd K K ((w.alloc (.cells #[ZQ.p K] 163)).alloc (.cells #[.int .i64 25,.int .i64 ia,.int .i64 ib] 72)) b→(∃ L S O e,Ck b K h m L S O e)→(fun b:World=>b.cell? ⟨w.heap.size,0,none⟩=some (.pointer (some ⟨K,0,none⟩))∧b.cell? ⟨w.heap.size+1,1,none⟩=some (.int .i64 ia)∧b.cell? ⟨K,2,none⟩=some (.slice (some G) m.me.length h.ec)) b:=fun b T y=>⟨T.cell N (by show w.heap.size≠K;omega) (by show w.heap.size≠K;omega),T.cell U (by show w.heap.size+1≠K;omega) (by show w.heap.size+1≠K;omega),A b y⟩;have HS:=Zh R;have D:=Zh Hj;obtain ⟨n,f⟩:∃ n,n=((w.alloc (.cells #[ZQ.p K] 163)).alloc (.cells #[.int .i64 25,.int .i64 ia,.int .i64 ib] 72)):=⟨_,rfl⟩;rw [←f] at HS C HB1;have q:=Zh f;have E:=Zh HW;have X:=Zh hi;have F:=Zh hm;have V:=Zh hlo;clear g x u M H Hj hlo HW hi hm N U R f A;go_enter Tryz.func201,Tryz.ntmps201
 go_wp2_with fail
 refine rO (fun b:World=>b.cell? ⟨w.heap.size,0,none⟩=some (.pointer (some ⟨K,0,none⟩))∧b.cell? ⟨w.heap.size+1,1,none⟩=some (.int .i64 ia)∧b.cell? ⟨K,2,none⟩=some (.slice (some G) m.me.length h.ec)) (oL [0,1,2,3,4,5,6,7,8,109]) (q.out▸HS.out _ (Upd.refl K K n).drew ⟨_,_,_,_,Ck.drew C.out.ck⟩) ?_;rw [←q.out];have HB2:=Zh (show Below n.heap.size n n.drew by exact bE)
 repeat refine pO ?_
 refine oO fun Kv hK=>?_;go_simp;refine (ZjY (i:=⟨25,ia,ib⟩) F.out E.out (C.out.old HB2.out) D.out hd z B.out rfl (by simp)).mono ?_;exact k95
theorem ZkD (hb:Zex s.opn≤s.stk.length) (aC:k<m.me.length) (hop:i.op=26):
  Calls Tryz.prog 201 #[ZQ.p K,ZI.i i] w (ZhV w K h m lo lc ls oo oc bs (ZhS m ls i s)):=by
 obtain ⟨op,ia,ib⟩:=i;dsimp only at hop;subst hop;have ar:=hi.a0 (by simp);dsimp only at ar;obtain ⟨ia,rfl⟩:∃ d:Nat,ia=d:=⟨ia.toNat,by omega⟩;have E:Below w.heap.size w ((w.alloc (.cells #[ZQ.p K] 163)).alloc (.cells #[.int .i64 26,.int .i64 ia,.int .i64 ib] 72)):=by exact bE
 have ab:=(Blk.new w #[ZQ.p K] 163).alloc (.cells #[.int .i64 26,.int .i64 ia,.int .i64 ib] 72);have aa:Blk ((w.alloc (.cells #[ZQ.p K] 163)).alloc (.cells #[.int .i64 26,.int .i64 ia,.int .i64 ib] 72)) (w.heap.size+1) #[.int .i64 26,.int .i64 ia,.int .i64 ib] 72:=Blk.new' (w:=w.alloc (.cells #[ZQ.p K] 163)) _ _ (by simp);have kl:=Blk.lt H.ck;have N:=H.old E;obtain ⟨D,M⟩:=hi.o26 rfl;dsimp only at D M;have aF:=HW.1;have cc:=ab.cell 0 (v:=.pointer (some ⟨K,0,none⟩)) rfl;have i1:=aa.cell 1 (v:=.int .i64 ia) rfl;obtain ⟨y,J⟩:∃ y,y=((w.alloc (.cells #[ZQ.p K] 163)).alloc (.cells #[.int .i64 26,.int .i64 ia,.int .i64 ib] 72)):=⟨_,rfl⟩;rw [←J] at N E cc i1;have A:∀ w',Upd K K y w'→(∃ L S O e,Ck w' K h m L S O e)→(fun w':World=>w'.cell? ⟨w.heap.size,0,none⟩=some (.pointer (some ⟨K,0,none⟩))∧w'.cell? ⟨w.heap.size+1,1,none⟩=some (.int .i64 ia)∧w'.cell? ⟨K,0,none⟩=some (.slice h.co m.cl.length h.cc)∧w'.cell? ⟨K,1,none⟩=some (.slice h.so m.st.length h.sc)∧w'.cell? ⟨K,2,none⟩=some (.slice h.eo m.me.length h.ec)∧w'.cell? ⟨K,3,none⟩=some (.int .i64 m.sel)) w':=fun w' hu hc=>by obtain ⟨L,S,O,e,hc⟩:=hc;obtain ⟨-,k0,k1,k2,k3,-⟩:=hc.cells;exact ⟨hu.cell cc (by show w.heap.size≠K;omega) (by show w.heap.size≠K;omega),hu.cell i1 (by show w.heap.size+1≠K;omega) (by show w.heap.size+1≠K;omega),k0,k1,k2,k3⟩
 have HS:=Zh A;have HB1:=Zh E;have HH:=Zh N;have Y:=Zh J;have U:=Zh Hj;have an:=Zh HW;have HHm:=Zh hm;have HT:=Zh (show ∀ w',Below y.heap.size y w'→Calls Tryz.prog 211 #[.agg (HM.mk h m),.int .i64 ia] w' (Zio w' (ZaO m ia) 0) from fun w' av=>Ziu m h ia w' (Hj.old (N.hb.trans (av.mono N.hb.size))) hm D);have aI:w.heap.size+1<y.heap.size:=Zad i1;have aq:=Zh M;have HX:=Zh (And.intro cc i1);clear E ab aa N H Hj hlo HW hi hm cc i1 A J M;go_enter Tryz.func201,Tryz.ntmps201
 go_wp2_with fail
 refine rO (fun w':World=>w'.cell? ⟨w.heap.size,0,none⟩=some (.pointer (some ⟨K,0,none⟩))∧w'.cell? ⟨w.heap.size+1,1,none⟩=some (.int .i64 ia)∧w'.cell? ⟨K,0,none⟩=some (.slice h.co m.cl.length h.cc)∧w'.cell? ⟨K,1,none⟩=some (.slice h.so m.st.length h.sc)∧w'.cell? ⟨K,2,none⟩=some (.slice h.eo m.me.length h.ec)∧w'.cell? ⟨K,3,none⟩=some (.int .i64 m.sel)) (oL [0,1,2,3,4,5,106,7,8,9,10,11]) (Y.out▸HS.out _ (Upd.refl K K y).drew ⟨_,_,_,_,Ck.drew HH.out.ck⟩) ?_;rw [←Y.out];have HB2:=Zh (show Below y.heap.size y y.drew by exact bE)
 repeat refine pO ?_
 refine oO fun Kv hK=>?_;go_simp;refine (HT.out _ HB2.out).mono ?_;rintro r I ⟨⟨ao,aB,rfl,hr,G⟩,hb3⟩;have V:=Zh G;have HB3:=Zh (Zag HB2.out hb3);have HR:=Zh hr;refine hK _ _ ⟨HS.out _ (Upd.of HB3.out) ⟨_,_,_,_,HH.out.ck.old HB3.out⟩,?_⟩;clear hK Kv hb3 hr G
 repeat refine pO ?_
 refine Zd7 ?_;have z:∀ (o:Option Mth),Zey m ⟨26,ia,ib⟩=o→o=match ZaO m ia with|[]=>none|t :: _=>some (m.me.getD t.toNat default):=fun o ho=>by rw [←ho];rfl
 cases htg:ZaO m ia with
 | nil=>
  have ae:ZhS m ls ⟨26,ia,ib⟩ s=(11,s.stk):=by
   have hc:Zey m ⟨26,ia,ib⟩=none:=by have:=z _ rfl;rw [htg] at this;exact this
   unfold ZhS;rw [Zgo rfl,Zgd rfl,hc,if_neg (by dsimp only;omega)]
  have ap:=Zh ae;have HL:=Zh htg;obtain ⟨nt,f⟩:∃ n,n=(ZaO m ia).length:=⟨_,rfl⟩;rw [←htg,←f];have hn0:nt=0:=by rw [f,htg];rfl
  subst hn0;have HC2:=Zh (HH.out.ck.old HB3.out);have cc:=(HB3.out.cell (p:=⟨w.heap.size,0,none⟩) (by show w.heap.size<y.heap.size;omega)).trans HX.out.1;have HF:=Zh (ZeU K h m _ _ _ 0 11 I HC2.out);clear htg z ae f
  go_wp2_with (go_at_call 252;refine HF.out.mono ?_;rintro r w4 ⟨⟨v4,rfl⟩,hc4,hu4⟩;have HC4:=Zh hc4;have HU4:=Zh hu4;clear hc4 hu4)
  go_end0;refine ZhV.bel ⟨⟨_,rfl⟩,(Upd.of HB3.out).trans HU4.out,?_⟩ HB1.out;rw [ap.out];exact ⟨so,sc,s.stk,HC4.out,((HH.out.old HB3.out).ts.upd HU4.out HC2.out.noTy HC2.out.noTy),by omega,fun h0=>by cases h0⟩
 | cons t rest=>
  have C:t∈ZaO m ia:=by rw [htg];exact List.mem_cons_self
  have aG:=ZfW C;have aH:=aq.out t C;obtain ⟨tj,rfl⟩:∃ d:Nat,t=d:=⟨t.toNat,by omega⟩;have ah:tj<m.me.length:=by omega
  have F:Zey m ⟨26,ia,ib⟩=some (m.me.getD tj default):=by have:=z _ rfl;rw [htg] at this;exact this
  have hr:=HR.out;obtain ⟨nt,f⟩:∃ n,n=(ZaO m ia).length:=⟨_,rfl⟩;have az:0<nt:=by rw [f,htg];simp
  obtain ⟨ta,au,t0⟩:=ZaC hr (i:=0) (by omega);rw [show ta.add 0=ta from by simp [Addr.add],htg] at t0;have aj:I.cell? ta=some (.int .i64 tj):=t0;subst au;obtain ⟨ea,heo,-⟩:=U.out.mth ah;have aD:((nt:Int) == 0)=false:=by simp;omega
  have Z:∀ w',Upd K K I w'→(∃ L S O e,Ck w' K h m L S O e)→(fun w':World=>w'.cell? ⟨w.heap.size,0,none⟩=some (.pointer (some ⟨K,0,none⟩))∧w'.cell? ⟨w.heap.size+1,1,none⟩=some (.int .i64 ia)∧w'.cell? ⟨K,2,none⟩=some (.slice (some ea) m.me.length h.ec)∧w'.cell? ta=some (.int .i64 tj)) w':=fun w' hu hc=>by
   obtain ⟨L,S,O,e,hc⟩:=hc;have k2:=hc.cells.2.2.2.1;rw [heo] at k2;have ay:=HH.out.ck.old HB3.out;have ag:ta.block≠K:=by have h1:=V.out ta rfl;have h2:=HB1.out.size;have h3:y.heap.size≤ta.block:=h1;omega
   exact ⟨hu.cell ((HB3.out.cell (p:=⟨w.heap.size,0,none⟩) (by show w.heap.size<y.heap.size;omega)).trans HX.out.1) (by show w.heap.size≠K;omega) (by show w.heap.size≠K;omega),hu.cell ((HB3.out.cell (p:=⟨w.heap.size+1,1,none⟩) (by show w.heap.size+1<y.heap.size;omega)).trans HX.out.2) (by show w.heap.size+1≠K;omega) (by show w.heap.size+1≠K;omega),k2,hu.cell aj ag ag⟩
  have X:=Zh Z;have R:=Zh F;have HEo:=Zh heo;have aw:ia≤1000:=by have:=(ZfM HHm.out);simp only [Za0,Bool.and_eq_true,decide_eq_true_eq] at this;omega
  rw [←htg,←f];clear Z F heo C htg hr t0 aj f z
  go_wp2_with fail
  refine rO (fun w':World=>w'.cell? ⟨w.heap.size,0,none⟩=some (.pointer (some ⟨K,0,none⟩))∧w'.cell? ⟨w.heap.size+1,1,none⟩=some (.int .i64 ia)∧w'.cell? ⟨K,2,none⟩=some (.slice (some ea) m.me.length h.ec)∧w'.cell? ta=some (.int .i64 tj)) (oL [0,1,2,3,4,5,6,7,8,9,10,11,112]) (X.out _ (Upd.refl K K I).drew ⟨_,_,_,_,Ck.drew (HH.out.ck.old HB3.out)⟩) ?_
  repeat refine pO ?_
  refine oO fun Kv hK=>?_;go_simp;refine (ZjZ (i:=⟨26,ia,ib⟩) HHm.out an.out (HH.out.old (Zag HB3.out (show Below I.heap.size I I.drew by exact bE))) U.out hd ah HEo.out rfl rfl R.out (fun c h0 h1=>ZkB HHm.out D c h0 h1) aw).mono ?_;rintro r w4 ⟨⟨v4,rfl⟩,hu4,ac⟩;have HU4:=Zh ((Upd.refl K K I).drew.trans hu4);have T:=Zh ac;have A:∃ L S O e,Ck w4 K h m L S O e:=by obtain ⟨aK,aJ,aL,h1,-⟩:=T.out;exact ⟨_,_,_,_,h1⟩
  refine hK _ _ ⟨X.out _ HU4.out A,?_⟩;clear hK Kv hu4 ac A;refine Zd7 ?_;go_wp2;go_end0;exact ZhV.bel ⟨⟨_,rfl⟩,(Upd.of HB3.out).trans HU4.out,T.out⟩ HB1.out
theorem ZkE (c:Zex s.opn≤s.stk.length) (a:k<m.me.length) (hop:i.op=0∨(14≤i.op∧i.op≤26)∨i.op=28):
  Calls Tryz.prog 201 #[ZQ.p K,ZI.i i] w (ZhV w K h m lo lc ls oo oc bs (ZhS m ls i s)):=by
 have b:(i.op=0∨i.op=28)∨i.op=14∨i.op=15∨i.op=16∨i.op=17∨i.op=18∨i.op=19∨i.op=20∨i.op=21∨i.op=22∨i.op=23∨i.op=24∨i.op=25∨i.op=26:=by omega
 rcases b with q|q|q|q|q|q|q|q|q|q|q|q|q|q
 ·exact ZjL hm hlo HW H Hj hd hi c q
 ·exact ZjH hm hlo HW H Hj hd hi q
 ·exact ZjI hm hlo HW H Hj hd hi q
 ·exact ZjJ hm hlo HW H Hj hd hi q
 ·exact ZjA hm hlo HW H Hj hd hi q
 ·exact ZjB hm hlo HW H Hj hd hi q
 ·exact ZjC hm hlo HW H Hj hd hi q
 ·exact ZjD hm hlo HW H Hj hd hi q
 ·exact ZjE hm hlo HW H Hj hd hi q
 ·exact ZjK hm hlo HW H Hj hd hi q
 ·exact ZjF hm hlo HW H Hj hd hi q
 ·exact ZjG hm hlo HW H Hj hd hi q
 ·exact ZkC hm hlo HW H Hj hd hi a q
 ·exact ZkD hm hlo HW H Hj hd hi c a q
theorem ZkF (l:Zex s.opn≤s.stk.length) (g:k<m.me.length) (hop:i.op=0∨(14≤i.op∧i.op≤26)∨i.op=28):
  Calls Tryz.prog 131 #[ZQ.p K,ZI.i i] w (ZhV w K h m lo lc ls oo oc bs (ZhS m ls i s)):=by
 have j:=Zh (fun w' (hb':Below w.heap.size w w')=>ZkE hm hlo HW (H.old hb') Hj hd hi l g hop);obtain ⟨a,ia,ib⟩:=i;dsimp only at hop j;have f:a=0∨a=28∨a=14∨a=15∨a=16∨a=17∨a=18∨a=19∨a=20∨a=21∨a=22∨a=23∨a=24∨a=25∨a=26:=by omega
 clear hop hi H Hj hlo HW hm l;rcases f with rfl|rfl|rfl|rfl|rfl|rfl|rfl|rfl|rfl|rfl|rfl|rfl|rfl|rfl|rfl
 all_goals
  go_enter Tryz.func131,Tryz.ntmps131
  go_wp2_with (go_at_call 201;refine (j.out _ bE).mono ?_;rintro r n ⟨⟨v,rfl⟩,c,b⟩;have e:=Zh c;have d:=Zh b;clear c b)
  go_end0;exact ZhV.bel ⟨⟨_,rfl⟩,e.out,d.out⟩ bE
theorem ZkG (c:Zex s.opn≤s.stk.length) (b:k<m.me.length) (hop:0≤i.op∧i.op<29):
  Calls Tryz.prog 131 #[ZQ.p K,ZI.i i] w (ZhV w K h m lo lc ls oo oc bs (ZhS m ls i s)):=by
 have a:i.op=1∨i.op=2∨i.op=3∨i.op=4∨i.op=5∨i.op=6∨i.op=7∨i.op=8∨i.op=9∨i.op=10∨i.op=11∨i.op=12∨i.op=13∨i.op=27∨(i.op=0∨(14≤i.op∧i.op≤26)∨i.op=28):=by omega
 rcases a with q|q|q|q|q|q|q|q|q|q|q|q|q|q|q
 ·exact s_1 hm hlo HW H Hj hd hi q
 ·exact s_2 hm hlo HW H Hj hd hi q
 ·exact s_3 hm hlo HW H Hj hd hi q
 ·exact s_4 hm hlo HW H Hj hd hi q
 ·exact s_5 hm hlo HW H Hj hd hi q
 ·exact s_6 hm hlo HW H Hj hd hi q
 ·exact s_7 hm hlo HW H Hj hd hi q
 ·exact s_8 hm hlo HW H Hj hd hi q
 ·exact s_9 hm hlo HW H Hj hd hi q
 ·exact Zjv hm hlo HW H Hj hd hi q
 ·exact Zjw hm hlo HW H Hj hd hi q
 ·exact Zjz hm hlo HW H Hj hd hi q
 ·exact Zjx hm hlo HW H Hj hd hi q
 ·exact Zjy hm hlo HW H Hj hd hi q
 ·exact ZkF hm hlo HW H Hj hd hi c b q
end
end
section
open Go.RowKit
section
variable {w:World}{K:Nat}{h:Hd}{m:Md}{L S O:Value}(H:Pk w K h m L S O)(Hj:Zaz w h m)(hm:Za2 m=true){k:Nat}(hk:k<m.me.length){i:In3}(hi:ZfU m k i)(hop:i.op=25∨i.op=26)
include w K h m L S O H Hj hm k hk i hi hop
theorem ZkH:
  Calls Tryz.prog 227 #[ZQ.p K,ZI.i i] w (ZdG w (Zkt m i)):=by
 have c:=hi.a0 (by omega);obtain ⟨j,ia,ib⟩:=i;dsimp only at c hop ⊢;obtain ⟨ia,rfl⟩:∃ d:Nat,ia=d:=⟨ia.toNat,by omega⟩;rcases hop with rfl|rfl
 ·have a:=(hi.o25 rfl).1;dsimp only at a;have:=Zkv H Hj hm (ia:=ia) (ib:=ib) (by omega);unfold Zkt;rw [if_pos rfl];dsimp only;rwa [Int.toNat_natCast]
 ·obtain ⟨a,b⟩:=hi.o26 rfl;dsimp only at a b;have e:Zkt m ⟨26,ia,ib⟩=match ZaO m ia with|[]=>[]|t :: _=>⟨2,-1⟩ :: (m.me.getD t.toNat default).p:=by
   unfold Zkt Zey;rw [if_neg (by simp),if_neg (by simp)];cases ZaO m ia<;>rfl
  rw [e];cases htg:ZaO m ia with
  | nil=>exact Zkw H Hj hm a htg
  | cons t r=>
   have f:0≤t:=ZfW (by rw [htg];exact List.mem_cons_self);have g:=b t (by rw [htg];exact List.mem_cons_self);obtain ⟨l,rfl⟩:∃ d:Nat,t=d:=⟨t.toNat,by omega⟩;dsimp only;rw [Int.toNat_natCast];exact Zkx H Hj hm a htg (by omega)
theorem ZkI:
  Calls Tryz.prog 226 #[ZQ.p K,ZI.i i] w (Ret w (.agg #[.int .i64 (Zku m i).k,.int .i64 (Zku m i).c])):=by
 have e:=hi.a0 (by omega);obtain ⟨j,ia,ib⟩:=i;dsimp only at e hop ⊢;obtain ⟨ia,rfl⟩:∃ d:Nat,ia=d:=⟨ia.toNat,by omega⟩;rcases hop with rfl|rfl
 ·have a:=(hi.o25 rfl).1;dsimp only at a;have:=Zky H Hj hm (ia:=ia) (ib:=ib) (by omega);have b:Zku m ⟨25,ia,ib⟩=(m.me.getD ia default).r:=by unfold Zku Zey;rw [if_pos rfl];dsimp only;rw [Int.toNat_natCast]
  rwa [b]
 ·obtain ⟨a,c⟩:=hi.o26 rfl;dsimp only at a c;have b:Zku m ⟨26,ia,ib⟩=match ZaO m ia with|[]=>ty0|t :: _=>(m.me.getD t.toNat default).r:=by
   unfold Zku Zey;rw [if_neg (by simp)];cases ZaO m ia<;>rfl
  rw [b];cases htg:ZaO m ia with
  | nil=>exact Zkz H Hj hm a htg
  | cons t r=>
   have f:0≤t:=ZfW (by rw [htg];exact List.mem_cons_self);have g:=c t (by rw [htg];exact List.mem_cons_self);obtain ⟨l,rfl⟩:∃ d:Nat,t=d:=⟨t.toNat,by omega⟩;dsimp only;rw [Int.toNat_natCast];exact ZkA H Hj hm a htg (by omega)
end
theorem Pk.old {w w':World}{K:Nat}{h:Hd}{m:Md}{L S O:Value} (H:Pk w K h m L S O) (hb:Below w.heap.size w w'):Pk w' K h m L S O:=Blk.old H hb
theorem ZkJ (a b:Int) (w:World):Sem.run Tryz.prog (Instr.field 38 (.agg #[.int .i64 a,.int .i64 b]) 0) w=.ok (.int .i64 a) w:=by kernel_rfl
theorem ZkK {m:Md}{i:In3} (hop:i.op=25∨i.op=26):Zez m i=((Zkt m i).length,if (Zku m i).k=0 then 0 else 1):=by
 rcases hop with hop|hop
 ·rw [Zgn hop];have a:Zey m i=some (m.me.getD i.a.toNat default):=by unfold Zey;rw [if_pos hop]
  unfold Zkt Zku;rw [if_pos hop,a]
 ·rw [Zgo hop];unfold Zkt Zku;rw [if_neg (by omega)];cases Zey m i<;>simp [ty0]
theorem ZkL {w:World}{K:Nat}{h:Hd}{m:Md}{L S O:Value} (H:Pk w K h m L S O) (Hj:Zaz w h m) (hm:Za2 m=true) {k:Nat} (hk:k<m.me.length) {i:In3} (hi:ZfU m k i) (hop:0≤i.op∧i.op<34) :
  Calls Tryz.prog 165 #[ZQ.p K,ZI.i i] w (Zhi w (.int .i64 (Zez m i).1) (.int .i64 (Zez m i).2)):=by
 by_cases hc:i.op=25∨i.op=26
 ·rw [ZkK hc];have g:=Zh (fun w' (hb:Below w.heap.size w w')=>ZkI (H.old hb) (Hj.old hb) hm hk hi hc);have f:=Zh (fun w' (hb:Below w.heap.size w w')=>ZkH (H.old hb) (Hj.old hb) hm hk hi hc);generalize hr:Zku m i=r at g ⊢;generalize hl:Zkt m i=l at f ⊢;have D:l.length≤1000000:=by rw [←hl];exact k44
  clear hr hl H Hj hi;obtain ⟨a,ia,ib⟩:=i;obtain ⟨n,A⟩:=r;dsimp only at hc hop g f ⊢;by_cases hk0:n=0
  ·subst hk0;rcases hc with rfl|rfl
   all_goals
    have y:=ZkJ 0 A;go_enter Tryz.func165,Tryz.ntmps165
    go_wp2_with (first|(go_at_call 226;refine (g.out _ bE).mono ?_;rintro r I ⟨rfl,b⟩;have c:=Zh (Zag (show Below w.heap.size w _ by exact bE) b);have E:=((Blk.new w _ _).old b).cell 0 (v:=.int .i64 _) rfl;have F:=((Blk.new w _ _).old b).cell 1 (v:=.int .i64 ia) rfl;have G:=((Blk.new w _ _).old b).cell 2 (v:=.int .i64 ib) rfl;clear b)|(go_at_call 227;refine (f.out _ c.out).mono ?_;rintro r J ⟨⟨B,o,rfl,z⟩,d⟩))
    go_ret2;exact Zhj rfl (by simp) (Zag c.out d)
  ·have C:(n != 0)=true:=by simpa using hk0
   have e:(if n=0 then 0 else 1)=1:=if_neg hk0;rw [e];clear e hk0;rcases hc with rfl|rfl
   all_goals
    have y:=ZkJ n A;go_enter Tryz.func165,Tryz.ntmps165
    go_wp2_with (first|(go_at_call 226;refine (g.out _ bE).mono ?_;rintro r I ⟨rfl,b⟩;have c:=Zh (Zag (show Below w.heap.size w _ by exact bE) b);have E:=((Blk.new w _ _).old b).cell 0 (v:=.int .i64 _) rfl;have F:=((Blk.new w _ _).old b).cell 1 (v:=.int .i64 ia) rfl;have G:=((Blk.new w _ _).old b).cell 2 (v:=.int .i64 ib) rfl;clear b)|(go_at_call 227;refine (f.out _ c.out).mono ?_;rintro r J ⟨⟨B,o,rfl,z⟩,d⟩))
    go_ret2;exact Zhj rfl rfl (Zag c.out d)
 ·obtain ⟨a,ia,ib⟩:=i;clear hi H Hj;dsimp only at hc hop ⊢;have u:a=0∨a=1∨a=2∨a=3∨a=4∨a=5∨a=6∨a=7∨a=8∨a=9∨a=10∨a=11∨a=12∨a=13∨a=14∨a=15∨a=16∨a=17∨a=18∨a=19∨a=20∨a=21∨a=22∨a=23∨a=24∨a=27∨a=28∨a=29∨a=30∨a=31∨a=32∨a=33:=by omega
  clear hop hc;rcases u with rfl|rfl|rfl|rfl|rfl|rfl|rfl|rfl|rfl|rfl|rfl|rfl|rfl|rfl|rfl|rfl|rfl|rfl|rfl|rfl|rfl|rfl|rfl|rfl|rfl|rfl|rfl|rfl|rfl|rfl|rfl|rfl
  all_goals
   go_enter Tryz.func165,Tryz.ntmps165;go_wp2;go_ret2;exact Zhj rfl rfl bE
end
section
open Go.RowKit
section
variable {w:World}{K:Nat}{h:Hd}{m:Md}{lo:Option Addr}{lc:Nat}{ls:List Ty}{S O:Value}(H:Pk w K h m (.slice lo ls.length lc) S O)(Hj:Zaz w h m)(hd:ZcZ m m.cl.length)(ht:Zas w lo lc ls)
include w K h m lo lc ls S O H Hj hd ht
theorem ZkM {ia ib:Int} {b:Option Addr} {a:Nat} (hr:Zas w b a ([]:List Ty)):
  Calls Tryz.prog 167 #[ZQ.p K,.agg #[.int .i64 15,.int .i64 ia,.int .i64 ib],.slice b 0 a] w (Zka w (ZeD m ls ⟨15,ia,ib⟩ [])):=by
 have HPv:=Zh (show ZeD m ls ⟨15,ia,ib⟩ []=some ⟨3,0⟩ from Zf2 rfl);exact k58
theorem ZkN {op:Int} (hop:op=6∨op=7∨op=8∨op=9∨op=10∨op=11) {ia ib:Int} {N:Option Addr} {g:Nat} {a b:Ty} (M:Zas w N g ([a,b]:List Ty)) (h1:a≠Zew):
  Calls Tryz.prog 167 #[ZQ.p K,.agg #[.int .i64 op,.int .i64 ia,.int .i64 ib],.slice N 2 g] w (Zka w (ZeD m ls ⟨op,ia,ib⟩ [a,b])):=by
 have C:=Zh (show ZeD m ls ⟨op,ia,ib⟩ [a,b]=none from by rw [pv6 hop];rw [show (decide ([a,b].getD 0 default=Zew)&&decide ([a,b].getD 1 default=Zew))=false from by rw [show [a,b].getD 0 default=a from rfl,decide_eq_false h1];rfl];rfl);obtain ⟨j,rfl,E,F,G,I⟩:=Zkf M;obtain ⟨ak,ac⟩:=a;obtain ⟨U,T⟩:=b;dsimp only at E F G I;have V:(decide (ak=1)&&decide (ac=0))=false:=by exact k34
 clear h1;obtain ⟨J,D,B,R,u,Z⟩:=Zkj w op ia ib (l:=[(j,.int .i64 ak),(⟨j.block,j.off+1,none⟩,.int .i64 ac),(⟨j.block,j.off+2,none⟩,.int .i64 U),(⟨j.block,j.off+3,none⟩,.int .i64 T)]) ⟨E,F,G,I,trivial⟩;have n:=Zh (Below.refl J.heap.size J);have Y:=ZdY;have W:=ZdX;have X:=ZdZ;clear H Hj ht M E F G I;rcases hop with rfl|rfl|rfl|rfl|rfl|rfl
 all_goals
  go_enter Tryz.func167,Tryz.ntmps167
  go_upto_region 18 with fail
  rw [←D.out];refine kO u.out (oL [1,2,3,100,104,5,6,7,8,9,110,11,12,113,14]) (Upd.of n.out).drew ?_;have A:=Zh n.out.drew
  repeat refine pO ?_
  refine oO fun x f=>?_;go_simp;refine (Zkd _).mono ?_;rintro r w5 ⟨rfl,y⟩;have q:=Zh (Zag A.out y);refine f _ _ ⟨u.out _ (Upd.of q.out),?_⟩;clear f x y
  repeat refine pO ?_
  refine oO fun x f=>?_;go_simp;refine (Zkd _).mono ?_;rintro r w6 ⟨rfl,z⟩;have e:=Zh (Zag q.out z);refine f _ _ ⟨u.out _ (Upd.of e.out),?_⟩;clear f x z
  repeat refine pO ?_
  refine sO 83 (u.out _ (Upd.of e.out)) ?_
  repeat refine pO ?_
  obtain ⟨y0,y1,g0,g1⟩:=Zkm (R.out.old e.out);refine oO fun x f=>?_;go_simp;refine f _ _ ⟨u.out _ (((Upd.of e.out).set 0 _).set 1 _),?_⟩;clear f x
  repeat refine pO ?_
  refine Zd7 ?_;go_wp2;refine bodyPost_ret (v:=.tuple #[.agg #[.int .i64 1,.int .i64 0],.bool false]) (by simp [results,Tryz.results167,go_sem,y0,y1]) rfl ?_;exact Zkp C.out (Zkn B.out e.out)
theorem ZkO {op:Int} (hop:op=27∨op=29) {ia ib:Int} {G:Option Addr} {e:Nat} {a:Ty} (F:Zas w G e ([a]:List Ty)):
  Calls Tryz.prog 167 #[ZQ.p K,.agg #[.int .i64 op,.int .i64 ia,.int .i64 ib],.slice G 1 e] w (Zka w (ZeD m ls ⟨op,ia,ib⟩ [a])):=by
 have q:=Zh (show ZeD m ls ⟨op,ia,ib⟩ [a]=if decide (a=Zew)=true then some ty0 else none from Zge hop);obtain ⟨B,rfl,z,A⟩:=Zke F;obtain ⟨E,D⟩:=a;dsimp only at z A;obtain ⟨C,x,p,I,u,R⟩:=Zkj w op ia ib (l:=[(B,.int .i64 E),(⟨B.block,B.off+1,none⟩,.int .i64 D)]) ⟨z,A,trivial⟩;have f:=Zh (Below.refl C.heap.size C);have N:=ZdY;have J:=ZdX;have M:=ZdZ;clear H Hj ht F z A;rcases hop with rfl|rfl
 all_goals
  go_enter Tryz.func167,Tryz.ntmps167
  go_upto_region 37 with fail
  rw [←x.out];refine kO u.out (oL [0,1,2,3,104,5,106,7]) (Upd.of f.out).drew ?_;have n:=Zh f.out.drew
  repeat refine pO ?_
  refine oO fun y g=>?_;go_simp;refine (Zkd _).mono ?_;rintro r X ⟨rfl,j⟩;have b:=Zh (Zag n.out j);refine g _ _ ⟨u.out _ (Upd.of b.out),?_⟩;clear g y j
  repeat refine pO ?_
  obtain ⟨T,U,V,W⟩:=Zkm (I.out.old b.out);refine oO fun y g=>?_;go_simp;refine g _ _ ⟨u.out _ (((Upd.of b.out).set 0 _).set 1 _),?_⟩;clear g y
  repeat refine pO ?_
  refine Zd7 ?_;go_wp2;refine bodyPost_ret (v:=.tuple #[.agg #[.int .i64 0,.int .i64 0],.bool (decide (E=1)&&decide (D=0))]) (by simp [results,Tryz.results167,go_sem,T,U]) rfl ?_;exact Zks q.out (by rw [Zhs];rfl) (Zkn p.out b.out)
theorem ZkP {ia ib:Int} {q:Option Addr} {b:Nat} {a:Ty} (n:Zas w q b ([a]:List Ty)) (h1:a≠Zew):
  Calls Tryz.prog 167 #[ZQ.p K,.agg #[.int .i64 30,.int .i64 ia,.int .i64 ib],.slice q 1 b] w (Zka w (ZeD m ls ⟨30,ia,ib⟩ [a])):=by
 have HPv:=Zh (show ZeD m ls ⟨30,ia,ib⟩ [a]=none from by rw [Zgf rfl];rw [show (decide ([a].getD 0 default=Zew)&&decide (ls[ib.toNat]?=some Zew))=false from by rw [show [a].getD 0 default=a from rfl,decide_eq_false h1];rfl];rfl);obtain ⟨g,rfl,e,f⟩:=Zke n;obtain ⟨ak,ac⟩:=a;dsimp only at e f;have u:(decide (ak=1)&&decide (ac=0))=false:=by exact k34
 clear h1;obtain ⟨j,HW1,HBw,HX,HS,A⟩:=Zkj w 30 ia ib (l:=[(g,.int .i64 ak),(⟨g.block,g.off+1,none⟩,.int .i64 ac)]) ⟨e,f,trivial⟩;have HB0:=Zh (Below.refl j.heap.size j);have z:=ZdY;have x:=ZdX;have y:=ZdZ;clear H Hj ht n e f;exact k17
theorem ZkQ {ia ib:Int} {b:Option Addr} {a:Nat} (hr:Zas w b a ([]:List Ty)):
  Calls Tryz.prog 167 #[ZQ.p K,.agg #[.int .i64 28,.int .i64 ia,.int .i64 ib],.slice b 0 a] w (Zka w (ZeD m ls ⟨28,ia,ib⟩ [])):=by
 have HPv:=Zh (show ZeD m ls ⟨28,ia,ib⟩ []=some ty0 from pvx (by simp));exact k12
theorem ZkR {ia ib:Int} {Y:Option Addr} {A:Nat} {a:Ty} (X:Zas w Y A ([a]:List Ty)) (R:a.k=2→0≤a.c∧a.c<m.cl.length) (h1:a.k=2) (ah:0≤ia) (F:¬ ia<(m.cl.getD a.c.toNat default).f.length):
  Calls Tryz.prog 229 #[ZQ.p K,.agg #[.int .i64 17,.int .i64 ia,.int .i64 ib],.slice Y 1 A] w (Zka w (ZeD m ls ⟨17,ia,ib⟩ [a])):=by
 obtain ⟨kl,k0,k1,k2,k3,k4⟩:=H.cells;obtain ⟨ad,rfl,a0,a1⟩:=Zke X;obtain ⟨ak,U⟩:=a;dsimp only at a0 a1;dsimp only at F;obtain rfl:ak=2:=h1;obtain ⟨M,N⟩:=R rfl;dsimp only at M N;obtain ⟨c,rfl⟩:∃ d:Nat,U=d:=⟨U.toNat,by omega⟩;have y:c<m.cl.length:=by omega
 have V:(c:Int) < m.cl.length:=by omega
 obtain ⟨G,D,-,-,I,-⟩:=Hj.cls y;have E:=Hj.f c y;obtain ⟨J,f⟩:∃ l,l=(m.cl.getD c default).f:=⟨_,rfl⟩;have z:ZeA m ⟨2,(c:Int)⟩ ia=J[ia.toNat]?:=by rw [f];show (if (2:Int)=2 then (m.cl.getD ((c:Int)).toNat default).f[ia.toNat]? else none)=_;rw [if_pos rfl,Int.toNat_natCast]
 rw [←f] at I E;have C:=k0;rw [D] at C;rw [Int.toNat_natCast,←f] at F;have HPv:=Zh (show ZeD m ls ⟨17,ia,ib⟩ [⟨2,(c:Int)⟩]=none from by rw [Zf4 rfl];show ZeA m ⟨2,(c:Int)⟩ ia=none;rw [z];exact List.getElem?_eq_none (by omega));have af:decide ((J.length:Int)≤ia)=true:=by simp;omega
 clear z f E D;obtain ⟨T,HW1,HBw,HX,aa,Z,HS,aj⟩:=Zkk w 17 ia ib 2 c (l:=[(ad,.int .i64 2),(⟨ad.block,ad.off+1,none⟩,.int .i64 c),(⟨K,0,none⟩,.slice (some G) m.cl.length h.cc),(⟨(G.add (c*4)).block,(G.add (c*4)).off+2,none⟩,.slice (h.c c).fo J.length (h.c c).fc)]) ⟨a0,a1,C,I,trivial⟩;have HB0:=Zh (Below.refl T.heap.size T);have ai:=ZdY;have ae:=ZdX;have ag:=ZdZ;have hal:=Zad a0;clear H Hj ht X k0 k1 k2 k3 k4 C I;go_enter Tryz.func229,Tryz.ntmps229
 go_upto_region 4 with fail
 exact k8
theorem ZkS {ia ib:Int} {g:Option Addr} {b:Nat} {a:Ty} (hr:Zas w g b ([a]:List Ty)) (u:a.k=3):
  Calls Tryz.prog 229 #[ZQ.p K,.agg #[.int .i64 21,.int .i64 ia,.int .i64 ib],.slice g 1 b] w (Zka w (ZeD m ls ⟨21,ia,ib⟩ [a])):=by
 obtain ⟨f,rfl,a0,a1⟩:=Zke hr;obtain ⟨q,e⟩:=a;dsimp only at a0 a1;obtain rfl:q=3:=u;have HPv:=Zh (show ZeD m ls ⟨21,ia,ib⟩ [⟨3,e⟩]=some Zew from by rw [Zf8 rfl];rfl);obtain ⟨W1,HW1,HBw,HX,n,j,HS,x⟩:=Zkk w 21 ia ib 3 e (l:=[(f,.int .i64 3),(⟨f.block,f.off+1,none⟩,.int .i64 e)]) ⟨a0,a1,trivial⟩;exact k15
theorem ZkT {ia ib:Int} {la:Option Addr} {y:Nat} {a:Ty} (hr:Zas w la y ([a]:List Ty)) (Y:a.k=2→0≤a.c∧a.c<m.cl.length) (h1:a.k=2) (V:0≤ia) (X:ia<m.cl.length) (T:Zev m ⟨2,ia⟩ a=false):
  Calls Tryz.prog 229 #[ZQ.p K,.agg #[.int .i64 24,.int .i64 ia,.int .i64 ib],.slice la 1 y] w (Zka w (ZeD m ls ⟨24,ia,ib⟩ [a])):=by
 obtain ⟨kl,k0,k1,k2,k3,k4⟩:=H.cells;obtain ⟨ad,rfl,I,R⟩:=Zke hr;obtain ⟨ak,f⟩:=a;dsimp only at I R;obtain rfl:ak=2:=h1;obtain ⟨D,E⟩:=Y rfl;dsimp only at D E;obtain ⟨q2,A⟩:∃ x,x=Zev m ⟨2,f⟩ ⟨2,ia⟩:=⟨_,rfl⟩;have F:Zev m ⟨2,ia⟩ ⟨2,f⟩=ZaI m (ia.toNat+1) ia f:=by simp [Zev]
 have G:Zev m ⟨2,f⟩ ⟨2,ia⟩=ZaI m (f.toNat+1) f ia:=by simp [Zev]
 have J:=Zh (show ∀ w',Below w.heap.size w w'→Calls Tryz.prog 231 #[.agg (HM.mk h m),.int .i64 ia,.int .i64 f] w' (Ret w' (.bool false)) from fun w' z=>by have:=ZjU m h ia f w' (Hj.old z) X D hd;rw [←F,T] at this;exact this);have M:=Zh (show ∀ w',Below w.heap.size w w'→Calls Tryz.prog 231 #[.agg (HM.mk h m),.int .i64 f,.int .i64 ia] w' (Ret w' (.bool q2)) from fun w' z=>by have:=ZjU m h f ia w' (Hj.old z) E V hd;rw [←G,←A] at this;exact this);have HPv:=Zh (show ZeD m ls ⟨24,ia,ib⟩ [⟨2,f⟩]=if q2=true then some ⟨2,ia⟩ else none from by rw [Zgb rfl];rw [show (decide (([(⟨2,f⟩:Ty)].getD 0 default).k=2)&&(Zev m ([(⟨2,f⟩:Ty)].getD 0 default) ⟨2,ia⟩||Zev m ⟨2,ia⟩ ([(⟨2,f⟩:Ty)].getD 0 default)))=q2 from by show (true&&(Zev m ⟨2,f⟩ ⟨2,ia⟩||Zev m ⟨2,ia⟩ ⟨2,f⟩))=_;rw [T];rw [←A];simp]);clear F G T A;obtain ⟨Z,N,HBw,HX,af,ae,HS,al⟩:=Zkk w 24 ia ib 2 f (l:=[(ad,.int .i64 2),(⟨ad.block,ad.off+1,none⟩,.int .i64 f),(⟨K,0,none⟩,.slice h.co m.cl.length h.cc),(⟨K,1,none⟩,.slice h.so m.st.length h.sc),(⟨K,2,none⟩,.slice h.eo m.me.length h.ec),(⟨K,3,none⟩,.int .i64 m.sel)]) ⟨I,R,k0,k1,k2,k3,trivial⟩;have C:=Zh (Below.refl Z.heap.size Z);have aj:=ZdY;have ah:=ZdX;have ai:=ZdZ;have U:=Zad I;clear H Hj ht hr k0 k1 k2 k3 k4;go_enter Tryz.func229,Tryz.ntmps229
 go_upto_region 16 with fail
 rw [←N.out];clear I R U;refine kO HS.out (oL [0,1,2,3,4,5,6,7,8,9,10,111,12,13,14,15,16,17,18,19,20,121,22,123,24]) (Upd.of C.out).drew ?_;have HB1:=Zh C.out.drew
 repeat refine pO ?_
 refine oO fun Kv hK=>?_;go_simp;refine (J.out _ (Zag HBw.out HB1.out)).mono ?_;rintro r w5 ⟨rfl,hb5⟩;have HB2:=Zh (Zag HB1.out hb5);refine hK _ _ ⟨HS.out _ (Upd.of HB2.out),?_⟩;clear hK Kv hb5
 repeat refine pO ?_
 refine oO fun Kv hK=>?_;go_simp;refine (M.out _ (Zag HBw.out HB2.out)).mono ?_;rintro r w6 ⟨rfl,hb6⟩;have HB3:=Zh (Zag HB2.out hb6);refine hK _ _ ⟨HS.out _ (Upd.of HB3.out),?_⟩;clear hK Kv hb6
 repeat refine pO ?_
 obtain ⟨y0,y1,g0,g1⟩:=Zkm (HX.out.old HB3.out);refine oO fun Kv hK=>?_;go_simp;refine hK _ _ ⟨HS.out _ (((Upd.of HB3.out).set 0 _).set 1 _),?_⟩;clear hK Kv
 repeat refine pO ?_
 refine Zd7 ?_;go_wp2;refine bodyPost_ret (v:=.tuple #[.agg #[.int .i64 2,.int .i64 ia],.bool q2]) (by simp [results,Tryz.results229,go_sem,y0,y1]) rfl ?_;exact Zks HPv.out rfl (Zkn HBw.out HB3.out)
theorem ZkU {ia ib:Int} {la:Option Addr} {j:Nat} {a b:Ty} (hr:Zas w la j ([a,b]:List Ty)) (h0:a.k=4) (h1:b=Zew):
  Calls Tryz.prog 229 #[ZQ.p K,.agg #[.int .i64 19,.int .i64 ia,.int .i64 ib],.slice la 2 j] w (Zka w (ZeD m ls ⟨19,ia,ib⟩ [a,b])):=by
 obtain ⟨q,rfl,G,V,W,X⟩:=Zkf hr;obtain ⟨ak,e⟩:=a;obtain ⟨bk,bc⟩:=b;obtain ⟨rfl,rfl⟩:bk=1∧bc=0:=by cases h1;exact ⟨rfl,rfl⟩
 dsimp only at G V W X;obtain rfl:ak=4:=h0;have R:=Zh (show ZeD m ls ⟨19,ia,ib⟩ [⟨4,e⟩,Zew]=some ⟨2,e⟩ from by rw [Zf6 rfl];rfl);obtain ⟨F,T,N,HX,n,M,Z,ar⟩:=Zkk w 19 ia ib 4 e (l:=[(q,.int .i64 4),(⟨q.block,q.off+1,none⟩,.int .i64 e),(⟨q.block,q.off+2,none⟩,.int .i64 1),(⟨q.block,q.off+3,none⟩,.int .i64 0)]) ⟨G,V,W,X,trivial⟩;have af:=Zh (Below.refl F.heap.size F);have aq:=ZdY;have ao:=ZdX;have ap:=ZdZ;have Y:=Zad G;clear H Hj ht hr W X;go_enter Tryz.func229,Tryz.ntmps229
 go_upto_region 20 with (go_at_call 228;rw [←T.out];refine (Zkd _).mono ?_;rintro r E ⟨rfl,f⟩;have J:=Zh f;have z0:=(n.out.old f).cell 0 (v:=.int .i64 4) rfl;have z1:=(n.out.old f).cell 1 (v:=.int .i64 e) rfl;have zl:=f.size;have zt:=n.out.lt;have zz:w.heap.size+2<E.heap.size:=(by omega);clear f)
 clear G V Y;clear z0 z1;have x:Below F.heap.size F (E.alloc (.cells #[.int .i64 2,.int .i64 e] 38)):=bal J.out _;have y:=Blk.new E #[.int .i64 2,.int .i64 e] 38;obtain ⟨A,D⟩:∃ A,A=E.alloc (.cells #[.int .i64 2,.int .i64 e] 38):=⟨_,rfl⟩;rw [←D] at x y ⊢;have B:=Zh x;have U:=Zh (show Blk A E.heap.size #[.int .i64 2,.int .i64 e] 38 from y);clear D x y;refine kO Z.out (oL [0,1,2,3,4,5,6,7,8,9,10,11,112,13,14]) (Upd.of B.out).drew ?_;have I:=Zh B.out.drew
 repeat refine pO ?_
 refine oO fun Kv hK=>?_;go_simp;refine (Zkd _).mono ?_;rintro r w6 ⟨rfl,u⟩;have C:=Zh (Zag (show Below A.heap.size A A.drew by exact bE) u);have g:=Zh (Zag I.out u);refine hK _ _ ⟨Z.out _ (Upd.of g.out),?_⟩;clear hK Kv u
 repeat refine pO ?_
 refine Zd7 ?_;have z:=U.out.old C.out;have x0:=z.cell 0 (v:=.int .i64 2) rfl;have x1:=z.cell 1 (v:=.int .i64 e) rfl;have i0:=(M.out.old g.out).cell 0 (v:=.int .i64 19) rfl;clear z;obtain ⟨y0,y1,g0,g1⟩:=Zkm (HX.out.old g.out);go_wp2;refine bodyPost_ret (v:=.tuple #[.agg #[.int .i64 2,.int .i64 e],.bool true]) (by simp [results,Tryz.results229,go_sem,y0,y1]) rfl ?_;exact Zko R.out (Zkn N.out g.out)
theorem ZkV {ia ib:Int} {la:Option Addr} {z:Nat} {a b d:Ty} (hr:Zas w la z ([a,b,d]:List Ty)) (h0:a.k=4) (h1:b=Zew) (Z:d.k=2→0≤d.c∧d.c<m.cl.length) (Y:0≤a.c):
  Calls Tryz.prog 229 #[ZQ.p K,.agg #[.int .i64 20,.int .i64 ia,.int .i64 ib],.slice la 3 z] w (Zka w (ZeD m ls ⟨20,ia,ib⟩ [a,b,d])):=by
 obtain ⟨kl,k0,k1,k2,k3,k4⟩:=H.cells;obtain ⟨ad,rfl,I,M,N,R,T,U⟩:=Zkg hr;obtain ⟨ak,f⟩:=a;obtain ⟨bk,bc⟩:=b;obtain ⟨rfl,rfl⟩:bk=1∧bc=0:=by cases h1;exact ⟨rfl,rfl⟩
 obtain ⟨E,D⟩:=d;dsimp only at I M N R T U;obtain rfl:ak=4:=h0;have HPv:=Zh (show ZeD m ls ⟨20,ia,ib⟩ [⟨4,f⟩,Zew,⟨E,D⟩]=if Zev m ⟨E,D⟩ ⟨2,f⟩=true then some ty0 else none from by rw [Zf7 rfl];rfl);have aa:(⟨2,f⟩:Ty).k=2→0≤(⟨2,f⟩:Ty).c:=fun hk=>Y;obtain ⟨ft,hft⟩:∃ x,x=Zev m ⟨E,D⟩ ⟨2,f⟩:=⟨_,rfl⟩;have HFi:=Zh (show ∀ w',Below w.heap.size w w'→Calls Tryz.prog 168 #[.agg (HM.mk h m),.agg #[.int .i64 E,.int .i64 D],.agg #[.int .i64 2,.int .i64 f]] w' (Ret w' (.bool ft)) from fun w' X=>by have:=ZjV m h ⟨E,D⟩ ⟨2,f⟩ w' (Hj.old X) Z aa hd;rw [←hft] at this;exact this);have Hft:=Zh hft;clear hft;obtain ⟨G,J,HBw,HX,A,HBi,HS,ao⟩:=Zkk w 20 ia ib 4 f (l:=[(ad,.int .i64 4),(⟨ad.block,ad.off+1,none⟩,.int .i64 f),(⟨ad.block,ad.off+2,none⟩,.int .i64 1),(⟨ad.block,ad.off+3,none⟩,.int .i64 0),(⟨ad.block,ad.off+4,none⟩,.int .i64 E),(⟨ad.block,ad.off+5,none⟩,.int .i64 D),(⟨K,0,none⟩,.slice h.co m.cl.length h.cc),(⟨K,1,none⟩,.slice h.so m.st.length h.sc),(⟨K,2,none⟩,.slice h.eo m.me.length h.ec),(⟨K,3,none⟩,.int .i64 m.sel)]) ⟨I,M,N,R,T,U,k0,k1,k2,k3,trivial⟩;have af:=Zh (Below.refl G.heap.size G);have an:=ZdY;have aj:=ZdX;have al:=ZdZ;have V:=Zad I;clear H Hj ht hr k0 k1 k2 k3 k4 N R T U;go_enter Tryz.func229,Tryz.ntmps229
 go_upto_region 20 with (go_at_call 228;rw [←J.out];refine (Zkd _).mono ?_;rintro r w4 ⟨rfl,y⟩;have HB4:=Zh y;have z0:=(A.out.old y).cell 0 (v:=.int .i64 4) rfl;have z1:=(A.out.old y).cell 1 (v:=.int .i64 f) rfl;have zl:=y.size;have zt:=A.out.lt;have zz:w.heap.size+2<w4.heap.size:=(by omega);clear y)
 clear I M V;clear z0 z1;have hw5:Below G.heap.size G (w4.alloc (.cells #[.int .i64 2,.int .i64 f] 38)):=bal HB4.out _;have hx5:=Blk.new w4 #[.int .i64 2,.int .i64 f] 38;obtain ⟨C,hW5⟩:∃ C,C=w4.alloc (.cells #[.int .i64 2,.int .i64 f] 38):=⟨_,rfl⟩;rw [←hW5] at hw5 hx5 ⊢;have HB1:=Zh hw5;have HX5:=Zh (show Blk C w4.heap.size #[.int .i64 2,.int .i64 f] 38 from hx5);clear hW5 hw5 hx5;refine kO HS.out (oL [0,1,2,3,4,5,6,7,8,9,10,11,112,13,14]) (Upd.of HB1.out).drew ?_;have HB2:=Zh HB1.out.drew
 repeat refine pO ?_
 refine oO fun Kv hK=>?_;go_simp;refine (Zkd _).mono ?_;rintro r w6 ⟨rfl,hb6⟩;have F:=Zh (Zag (show Below C.heap.size C C.drew by exact bE) hb6);have HB3:=Zh (Zag HB2.out hb6);refine hK _ _ ⟨HS.out _ (Upd.of HB3.out),?_⟩;clear hK Kv hb6
 repeat refine pO ?_
 refine Zd7 ?_;have hx6:=HX5.out.old F.out;have x0:=hx6.cell 0 (v:=.int .i64 2) rfl;have x1:=hx6.cell 1 (v:=.int .i64 f) rfl;exact k13
end
end
