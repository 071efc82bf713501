import Derived.Test.YtfmcclhfnpcokaaGreatU26
import Derived.Test.YtfmcclhfnpcokaaGreatU25
import Derived.Test.YtfmcclhfnpcokaaGreatU27
set_option linter.all false
set_option maxRecDepth 100000
set_option maxHeartbeats 8000000
namespace Go.Proofs.YtfmcclhfnpcokaaGreat
theorem j1{p:Prop}(h:p:=by
 intro n
 induction n with
 | zero=>intro _;rw [Zqb];simp
 |succ n ih=>
  intro hn;have h1:=ih (by omega);have h2:(cdM m n).length≤120:=(ZfQ hm (k:=n) (by omega)).z.2.2;rw [Zqd (by omega)];have h3:=Zq4 t (cdM m n);have h4:(Zqa m t n (cdM m n).length).length=(Zqa m t n 0).length+(ZmQ t (cdM m n)).length:=by unfold Zqa;rw [List.take_length];simp [ZmQ]
  omega):p:=h
theorem j4{p:Prop}(h:p:=by
 rw [hq];go_enter Tryz.func74,Tryz.ntmps74
 go_upto_region 1 with fail
 rw [←HW.out];obtain ⟨t0,t1⟩:=Zj9 HT.out
 go_wp2_with fail
 all_goals
  go_ret;exact ZcP (ZcT (by simp)) HB.out):p:=h
theorem j9{p:Prop}(h:p:=by
 rw [Zqc hj,if_neg,List.append_nil];unfold ZmP;simp only [decide_eq_true_eq];omega):p:=h
section
theorem Zqw {m:Md} (f:Za2 m=true) {c d:Nat} (a:c<m.cl.length) (b:d∈ZmX m c) {x:T3} (e:Zm2 m c=some x):∃ s,ZmZ (Zm3 m) (szC m d) (fsC m d)=some s∧LeT s x:=by rw [Znk f a] at e;obtain ⟨s,g,k⟩:=ZoF f (fun _ a _ e=>ZoD f a e) BdT.z (fun d b=>Zm8 b) e b;exact ⟨s,g,k⟩
theorem Zqx {m:Md}{t:Ty} (c:t.k=3) {n:Int} (b:n∈ZmR m t) {x:T3} (e:Zm3 m t=some x):LeT (ZmD n true) x:=by unfold Zm3 ZmY at e;rw [if_pos c] at e;obtain rfl:=Option.some.inj e;exact (Zox (a:=z3)).2 n b
theorem Zqy {m:Md} (g:Za2 m=true) {t:Ty} (k:Zfk m t) (c:t.k=4) {n:Nat} (d:(n:Int)∈ZmR m t) {x:T3} (e:Zm3 m t=some x) :
  (n=0∧LeT (ZmD n true) x)∨∃ y,Zm2 m t.c.toNat=some y∧LeT (plT (ZmD n true) (mlT y n)) x:=by
 have l:=ZfH k (.inr c);have b:LeT (ZmD n true) (ZmV m t):=(Zox (a:=z3)).2 n d;have f:(n:Int)≤ZmT m t:=(Zou (a:=0)).2 n d;unfold Zm3 ZmY at e;rw [if_neg (by omega),if_neg (by omega),if_pos c] at e;by_cases q:ZmT m t=0
 ·rw [if_pos q] at e;obtain rfl:=Option.some.inj e;exact .inl ⟨by omega,b⟩
 ·rw [if_neg q] at e;cases hv:Zm2 m t.c.toNat with
  | none=>rw [hv] at e;cases e
  |some y=>
   rw [hv] at e;obtain rfl:=Option.some.inj e;exact .inr ⟨y,rfl,LeT.pl b (Zo7 (ZoD g (by omega) hv) f)⟩
theorem Zqz {F:Ty→Option T3}{a s:T3}{t:Ty}{r:List Ty} (e:ZmZ F a (t :: r)=some s):∃ x,F t=some x∧ZmZ F (plT a x) r=some s:=by
 unfold ZmZ at e;cases hf:F t with
 | none=>rw [hf] at e;cases e
 | some x=>rw [hf] at e;exact ⟨x,rfl,e⟩
end
section
open Go.RowKit
theorem ZoW.nil {m:Md}{t:Ty} (h:ZoW m [] t):Zm3 m t=none:=by obtain ⟨d,a,b⟩:=h;exact Znm a b.nil
def okL (m:Md):Prop:=(Zmk m).2.2=0
instance (m:Md):Decidable (okL m):=inferInstanceAs (Decidable (_=_))
instance (m:Md) (t:Ty):Decidable (Zfk m t):=inferInstanceAs (Decidable (_=true))
theorem okL.v {m:Md} (h:okL m):Za2 m=true:=by
 unfold okL Zmk at h;split at h
 ·assumption
 ·cases h
def ZqA (m:Md) (t:Ty):T3 × Int:=if okL m∧Zfk m t then ZpU (Zm3 m t) else (z3,1)
theorem ZqB {v:Option T3}{r:T3 × Int} (h:ZpU v=r) (e:r.2=0):∃ x,v=some x∧r.1=x∧x.1≤1000000000∧x.2.1≤1000000000∧x.2.2≤1000000000:=by
 subst h;cases v with
 | none=>cases e
 |some x=>
  unfold ZpU at e ⊢;dsimp only at e ⊢;cases hb:Zpm x.1 x.2.1 x.2.2
  ·rw [hb] at e;have:=Zpo hb;exact ⟨x,rfl,rfl,this⟩
  ·rw [hb] at e;cases e
end
section
open Go.RowKit
def ZqC (w:World) (base:Nat) (ao:Option Addr) (cap:Nat) (zs:List Int):Prop:=w.ownsRow base 3 1 (.slice ao zs.length cap) zs.length (zs.map (Value.int .i64))
def ZqD (ao:Option Addr):Option Nat:=ao.map Addr.block
theorem ZqE (ao:Option Addr) (n cap:Nat):(Value.slice ao n cap).ownBlock=ZqD ao:=by cases ao<;>rfl
theorem ZqC.old {w w':World}{base:Nat}{ao:Option Addr}{cap:Nat}{zs:List Int} (h:ZqC w base ao cap zs) (hb:Below w.heap.size w w'):ZqC w' base ao cap zs:=
 ZhM h fun q a=>hb.block q (h.lt q a).2
theorem ZqC.nil (w:World) (base:Nat):ZqC w base none 0 []:=World.ownsRow_nil _ _ _ _
theorem ZqC.row {w:World}{base:Nat}{ao:Option Addr}{cap:Nat}{zs:List Int} (h:ZqC w base ao cap zs):Zas w ao cap zs:=Zas.of_own (by
 have:Zal zs=zs.map (Value.int .i64):=Zau zs
 rw [this];exact h)
theorem ZqC.grown {w w':World}{base:Nat}{ao:Option Addr}{cap:Nat}{zs:List Int} (h:ZqC w base ao cap zs) {row:Option Nat} (hg:w.grownBy w' row) (hn:∀ b,ZqD ao=some b→row≠some b):ZqC w' base ao cap zs:=by
 refine World.ownsRow.kept h hg ?_;rw [ZqE];cases h4:ZqD ao with
 | none=>exact .inl rfl
 | some b=>exact .inr fun e=>hn b h4 e.symm
theorem ZqC.lt {w:World}{base:Nat}{ao:Option Addr}{cap:Nat}{zs:List Int} (h:ZqC w base ao cap zs):∀ b,ZqD ao=some b→base≤b∧b<w.heap.size:=fun b a=>World.ownsRow.lt h b (by rw [ZqE];exact a)
theorem ZqC.map {w:World}{base:Nat}{ao:Option Addr}{cap:Nat}{zs:List Int} (h:ZqC w base ao cap zs) {M:Nat} (hm:ZmK w M):∀ b,ZqD ao=some b→b≠M:=by
 intro b d q;subst q;obtain ⟨k,c,hm⟩:=hm;rcases (show w.ownsRow base 3 1 (.slice ao zs.length cap) zs.length (zs.map (Value.int .i64)) from h).2 with ⟨a,_⟩|⟨g,c,f,a,_,e,_⟩
 ·cases ao with
  | none=>cases d
  | some _=>cases a
 ·cases ao with
  | none=>cases a
  |some ad=>
   obtain ⟨rfl,-,-⟩:=by simpa using a
   have:g=b:=Option.some.inj d;subst this;rw [hm] at e;cases e
def LnT (t:Ty):Prop:=(t.k=3∧t.c=0)∨t.k=4
structure LnI (w:World) (base:Nat) (f:Ty→Option Value) (L:Ty→List Int):Prop where
 at':∀ t,(f t=none∧(LnT t→L t=[]))∨∃ ao cap,LnT t∧f t=some (.slice ao (L t).length cap)∧ZqC w base ao cap (L t)
 ne:∀ t u ao n c bo k d,t≠u→f t=some (.slice ao n c)→f u=some (.slice bo k d)→∀ b,ZqD ao=some b→ZqD bo≠some b
theorem LnI.start (w:World) (base:Nat) (L:Ty→List Int) (hL:∀ t,L t=[]):LnI w base (fun _=>none) L:=⟨fun t=>.inl ⟨rfl,fun _=>hL t⟩,fun _ _ _ _ _ _ _ _ _ h=>by cases h⟩
theorem LnI.old {w w':World}{base:Nat}{f:Ty→Option Value}{L:Ty→List Int} (H:LnI w base f L) (hb:Below w.heap.size w w'):LnI w' base f L:=
 ⟨fun t=>(H.at' t).imp id fun ⟨ao,cap,h1,h2,h3⟩=>⟨ao,cap,h1,h2,h3.old hb⟩,H.ne⟩
theorem LnI.map {w w':World}{base:Nat}{f:Ty→Option Value}{L:Ty→List Int} (H:LnI w base f L) {M:Nat} (hm:ZmK w M) (hg:w.grownBy w' (some M)):LnI w' base f L:=
 ⟨fun t=>(H.at' t).imp id fun ⟨ao,cap,h1,h2,h3⟩=>⟨ao,cap,h1,h2,h3.grown hg fun b a e=>h3.map hm b a (Option.some.inj e).symm⟩,H.ne⟩
theorem LnI.congr {w:World}{base:Nat}{f:Ty→Option Value}{L K:Ty→List Int} (H:LnI w base f L) (h:∀ t,LnT t→L t=K t):LnI w base f K:=
 ⟨fun t=>by
  rcases H.at' t with ⟨a,b⟩|⟨e,c,a,b,d⟩
  ·exact .inl ⟨a,fun q=>by rw [←h t q];exact b q⟩
  ·rw [h t a] at b d;exact .inr ⟨e,c,a,b,d⟩,H.ne⟩
theorem LnI.get {w:World}{base:Nat}{f:Ty→Option Value}{L:Ty→List Int} (H:LnI w base f L) {t:Ty} (ht:LnT t):∃ ao cap,(f t).getD (.slice none 0 0)=.slice ao (L t).length cap∧ZqC w base ao cap (L t)∧∀ u bo k d,t≠u→f u=some (.slice bo k d)→∀ b,ZqD ao=some b→ZqD bo≠some b:=by
 rcases H.at' t with ⟨c,a⟩|⟨ao,cap,c,a,e⟩
 ·refine ⟨none,0,?_,?_,fun _ _ _ _ _ _ b h=>by cases h⟩
  ·rw [c,a ht];rfl
  ·rw [a ht];exact .nil _ _
 ·exact ⟨ao,cap,by rw [a];rfl,e,fun u bo k d l n b g=>H.ne t u ao _ cap bo k d l a n b g⟩
theorem LnI.put {w w':World}{base:Nat}{f:Ty→Option Value}{L:Ty→List Int} (H:LnI w base f L) {t:Ty} (ht:LnT t) {ao ao':Option Addr}{cap cap':Nat}{n:Int}
  (hne:∀ u bo k d,t≠u→f u=some (.slice bo k d)→∀ b,ZqD ao=some b→ZqD bo≠some b)
  (hown:ZqC w' base ao' cap' (L t++[n])) (hg:w.grownBy w' (ZqD ao)) (hat:∀ b,ZqD ao'=some b→ZqD ao=some b∨w.heap.size≤b) :
  LnI w' base (fun j=>if j=t then some (.slice ao' (L t++[n]).length cap') else f j) (fun j=>if j=t then L t++[n] else L j):=by
 have A:∀ u bo k d,t≠u→f u=some (.slice bo k d)→∀ b,ZqD ao'=some b→ZqD bo≠some b:=by
  intro u bo k d r p b g e;rcases hat b g with q|q
  ·exact hne u bo k d r p b q e
  ·rcases H.at' u with ⟨a,-⟩|⟨D,z,-,c,s⟩
   ·rw [a] at p;cases p
   ·rw [c] at p;cases p;have:=(s.lt b e).2;omega
 refine ⟨fun u=>?_,fun u v x B y l C o r a c b g=>?_⟩
 ·by_cases q:u=t
  ·subst q;refine .inr ⟨ao',cap',ht,?_,?_⟩
   ·simp
   ·simpa using hown
  ·simp only [if_neg q];rcases H.at' u with a|⟨l,o,a,c,s⟩
   ·exact .inl a
   ·exact .inr ⟨l,o,a,c,s.grown hg fun b g e=>hne u l _ o (fun e=>q e.symm) c b e g⟩
 ·by_cases q1:u=t
  ·by_cases q2:v=t
   ·exact absurd (q1.trans q2.symm) r
   ·rw [if_pos q1] at a;rw [if_neg q2] at c;cases a;exact A v l C o (fun e=>q2 e.symm) c b g
  ·rw [if_neg q1] at a;by_cases q2:v=t
   ·rw [if_pos q2] at c;cases c;intro e;exact A u x B y (fun e=>q1 e.symm) a b e g
   ·rw [if_neg q2] at c;exact H.ne u v x B y l C o r a c b g
theorem LnI.fin {w:World}{base:Nat}{f:Ty→Option Value}{m:Md} (H:LnI w base f (fun t=>ZmR m t)):∀ t,Zfk m t→ZoP w (f t) (ZmR m t):=by
 intro t a;rcases H.at' t with ⟨d,c⟩|⟨k,b,d,c,l⟩
 ·refine .inl ⟨d,?_⟩;by_cases q:LnT t
  ·exact c q
  ·have n:t.k≠3∧t.k≠4:=by unfold Zfk ZaG at a;unfold LnT at q;refine ⟨fun e=>q (.inl ⟨e,?_⟩),fun e=>q (.inr e)⟩;rw [e] at a;simp at a;exact a
   unfold ZmR;rw [List.flatMap_eq_nil_iff];intro x _;unfold ZmQ;rw [List.map_eq_nil_iff,List.filter_eq_nil_iff];intro i _ g;unfold ZmP at g;simp at g;omega
 ·exact .inr ⟨k,b,c,l.row⟩
theorem ZqF {w:World}{o:Oper}{a:Act}{Q:Exit→Act→World→Prop}{B:Act→World→Prop} (s x:Operand)
  (J:o.op=.call { callee:=.builtin .append,args:=#[s,x],argTypes:=#[27,27] })
  (base:Nat) (ao:Option Addr) (cap:Nat) (d:List Int) (L:a.eval s=.slice ao d.length cap) (l:ZqC w base ao cap d) (b:Nat) (n:Int) (N:a.eval x=.slice (some ⟨b,0,none⟩) 1 1) (K:Zas w (some ⟨b,0,none⟩) 1 [n]) (T:d.length≤1000000) (F:base≤w.heap.size)
  (h:∀ ao' cap' w',ZqC w' base ao' cap' (d++[n])→w.grownBy w' (ZqD ao)→(∀ b,ZqD ao'=some b→ZqD ao=some b∨w.heap.size≤b)→B (a.put o.dst (.slice ao' (d++[n]).length cap')) w'):o.wp Tryz.prog a w B Q:=by
 obtain ⟨i,z,H,O,k,v,A⟩:=Zcm.info;have p:=K.2.2;rw [Zau] at p;obtain ⟨X,w',r,c,C,-,f⟩:=run_append_own_at (P:=Tryz.prog) w base 27 o.type 3 i z 1 8 Zcm.und H O k v A (by decide) (.slice ao d.length cap) d.length (d.map (Value.int .i64)) l ⟨b,0,none⟩ 1 1 [.int .i64 n] (by simp) (fun j u y=>by
  obtain ⟨R,t,G⟩:=p j u y;cases t;exact G) (by intro u y;rw [List.mem_singleton.1 y];rfl) (by unfold maxLen;omega) (by omega) F
 unfold Oper.wp execOp;simp only [J,resolve,invoke,builtin,Sem.run_bind,Sem.run_pure,Result.andThen_ok,List.map_toArray,List.map_cons,List.map_nil,L,N,r];rw [ZqE] at C f;rcases c.2 with ⟨rfl,I⟩|⟨g,D,E,rfl,W⟩
 ·omega
 ·have:=h (some ⟨g,0,none⟩) D w' (by unfold ZqC;rw [List.length_append,List.map_append];exact c) C (fun b q=>by
   rw [ZqE] at f;rcases f with e|e
   ·exact .inl (e▸q)
   ·right
    rw [e] at q;cases q;exact Nat.le_refl _)
  rwa [List.length_append] at this
end
section
open Go.RowKit
theorem ZqC.ne_blk {w:World}{base:Nat}{ao:Option Addr}{cap:Nat}{zs:List Int} (h:ZqC w base ao cap zs) {B:Nat}{xs:Array Value}{t:TypeId} (hB:Blk w B xs t) (ht:t≠3):ZqD ao≠some B:=by
 intro q;rcases (show w.ownsRow base 3 1 (.slice ao zs.length cap) zs.length (zs.map (Value.int .i64)) from h).2 with ⟨a,_⟩|⟨g,c,b,a,_,d,_⟩
 ·cases ao with
  | none=>cases q
  | some _=>cases a
 ·cases ao with
  | none=>cases a
  |some ad=>
   obtain ⟨rfl,-,-⟩:=by simpa using a
   have:g=B:=Option.some.inj q;subst this;have hB:w.heap[g]?=_:=hB;rw [d] at hB;cases hB;exact ht rfl
def mdP (m:Md) (c:Int) (i j:Nat):Option Value:=if 0≤c∧Zqg m c.toNat i j=true then some (.bool true) else none
structure SzI (w0 w:World) (S:Nat) (M:MsL) (h:Hd) (m:Md) (i j:Nat):Prop where
 bw:Below w0.heap.size w0 w
 md:Zaz w0 h m
 bk:Blk w S #[.slice h.co m.cl.length h.cc,.slice h.so m.st.length h.sc,.slice h.eo m.me.length h.ec,.int .i64 m.sel,.map (some M.l),.map (some M.a),.map (some M.u),.map (some M.k),.map (some M.t)] 176
 ln:∃ f,MpF kT w M.l f∧LnI w w0.heap.size f (fun t=>Zqa m t i j)
 ma:MpF kI w M.a (fun c=>mdP m c i j)
 un:MpF kI w M.u (fun _=>none)
 kn:MpF kI w M.k (fun _=>none)
 mt:MpF kI w M.t (fun _=>none)
 nd:[M.l,M.a,M.u,M.k,M.t].Nodup
 lo:w0.heap.size≤M.l∧w0.heap.size≤M.a
section
variable {w0 w w':World}{S:Nat}{M:MsL}{h:Hd}{m:Md}{i j:Nat}
theorem SzI.old (H:SzI w0 w S M h m i j) (hb:Below w.heap.size w w'):SzI w0 w' S M h m i j:=by obtain ⟨b,c,d,⟨f,e,a⟩,g,k,l,n,o,p⟩:=H;exact ⟨Zag b hb,c,d.old hb,⟨f,e.old hb,a.old hb⟩,g.old hb,k.old hb,l.old hb,n.old hb,o,p⟩
theorem SzI.to (H:SzI w0 w S M h m i j) {i' j':Nat} (hl:∀ t,LnT t→Zqa m t i' j'=Zqa m t i j) (hm:∀ c,Zqg m c i' j'=Zqg m c i j):SzI w0 w S M h m i' j':=by obtain ⟨b,d,e,⟨f,g,a⟩,k,l,n,o,p,q⟩:=H;exact ⟨b,d,e,⟨f,g,a.congr fun t r=>(hl t r).symm⟩,k.congr fun c=>by unfold mdP;rw [hm],l,n,o,p,q⟩
theorem SzI.skip (H:SzI w0 w S M h m i j) (hj:j<(cdM m i).length) (ho:((cdM m i).getD j default).op≠14∧((cdM m i).getD j default).op≠15∧((cdM m i).getD j default).op≠16):SzI w0 w S M h m i (j+1):=by
 refine H.to (fun t _=>?_) fun c=>?_
 ·exact j9
 ·rw [Zqi hj];unfold Zqf;rw [decide_eq_false (by omega),Bool.or_false]
theorem SzI.next (H:SzI w0 w S M h m i (cdM m i).length) (hi:i<m.me.length):SzI w0 w S M h m (i+1) 0:=
 H.to (fun _ _=>Zqd hi) fun _=>Zqj hi
theorem SzI.new (H:SzI w0 w S M h m i j) (hj:j<(cdM m i).length) (ho:((cdM m i).getD j default).op=14) (ha:0≤((cdM m i).getD j default).a) (hg:w.grownBy w' (some M.a)) (hs:MpF kI w' M.a (fun c=>if c=((cdM m i).getD j default).a then some (.bool true) else mdP m c i j)):SzI w0 w' S M h m i (j+1):=by
 obtain ⟨n,z,d,⟨f,o,g⟩,r,s,u,v,a,y⟩:=H;have b:∀ x,x≠M.a→some x≠some M.a:=fun x A e=>A (Option.some.inj e);have l:=a;simp only [List.nodup_cons,List.mem_cons,List.not_mem_nil,or_false,not_or,not_false_eq_true,List.nodup_nil,and_true] at a;refine ⟨n.grown hg n.size fun k e=>by cases e;exact y.2,z,(hg.block S d.lt (b _ (ZoO d r.map))).trans d,⟨f,o.eq (hg.block _ o.map.lt (b _ a.1.1)),(g.map r.map hg).congr fun t _=>?_⟩,hs.congr fun c=>?_,s.eq (hg.block _ s.map.lt (b _ (fun e=>a.2.1.1 e.symm))),u.eq (hg.block _ u.map.lt (b _ (fun e=>a.2.1.2.1 e.symm))),v.eq (hg.block _ v.map.lt (b _ (fun e=>a.2.1.2.2 e.symm))),l,y⟩
 ·exact j9
 ·try dsimp only
  unfold mdP;rw [Zqi hj];unfold Zqf;by_cases q:c=((cdM m i).getD j default).a
  ·rw [if_pos q,if_pos];refine ⟨by omega,?_⟩;rw [decide_eq_true ⟨ho,by omega⟩,Bool.or_true]
  ·rw [if_neg q];by_cases q0:0≤c
   ·rw [decide_eq_false (by omega),Bool.or_false]
   ·rw [if_neg (fun e=>q0 e.1),if_neg (fun e=>q0 e.1)]
theorem SzI.len (H:SzI w0 w S M h m i j) (hj:j<(cdM m i).length) {t:Ty} (ht:LnT t) (hop:∀ u,LnT u→(ZmP u ((cdM m i).getD j default)=true↔u=t)) (h14:((cdM m i).getD j default).op≠14)
  {f:Ty→Option Value}{w1 w2 w3 w4:World}{ao ao':Option Addr}{cap':Nat}
  (hL:LnI w w0.heap.size f (fun t=>Zqa m t i j)) (hne:∀ u bo k d,t≠u→f u=some (.slice bo k d)→∀ b,ZqD ao=some b→ZqD bo≠some b) {cap:Nat} (how:ZqC w w0.heap.size ao cap (Zqa m t i j))
  (hg1:w.grownBy w1 (some M.l)) (hm1:ZmK w1 M.l) (hb2:Below w1.heap.size w1 w2) (hg3:w2.grownBy w3 (ZqD ao)) (hat:∀ b,ZqD ao'=some b→ZqD ao=some b∨w2.heap.size≤b)
  (ho3:ZqC w3 w0.heap.size ao' cap' (Zqa m t i j++[((cdM m i).getD j default).a])) (hg4:w3.grownBy w4 (some M.l))
  (hs4:MpF kT w4 M.l (fun x=>if x=t then some (.slice ao' (Zqa m t i j++[((cdM m i).getD j default).a]).length cap') else f x)):SzI w0 w4 S M h m i (j+1):=by
 obtain ⟨o,v,a,⟨Z,z,-⟩,O,P,Q,R,g,B⟩:=H;have A:=g;simp only [List.nodup_cons,List.mem_cons,List.not_mem_nil,or_false,not_or,not_false_eq_true,List.nodup_nil,and_true] at g;have K:∀ x,x≠M.l→some x≠some M.l:=fun x r e=>r (Option.some.inj e);have C:=hL.map z.map hg1;have D:=C.old hb2;have J:ZqC w1 w0.heap.size ao cap (Zqa m t i j):=how.grown hg1 fun b T e=>how.map z.map b T (Option.some.inj e).symm;have p:=J.old hb2;have E:=D.put (t:=t) (cap:=0) ht (n:=((cdM m i).getD j default).a) hne ho3 hg3 hat
 have G:ZmK w2 M.l:=by obtain ⟨s,c,l⟩:=hm1;exact ⟨s,c,(hb2.block _ (Array.getElem?_eq_some_iff.1 l).1).trans l⟩
 have I:ZmK w3 M.l:=by obtain ⟨s,c,l⟩:=G;exact ⟨s,c,(hg3.block _ (Array.getElem?_eq_some_iff.1 l).1 (fun e=>p.map ⟨s,c,l⟩ _ e.symm rfl)).trans l⟩
 have F:=E.map I hg4;have W:w.heap.size≤w1.heap.size:=hg1.size;have X:w1.heap.size≤w2.heap.size:=hb2.size;have Y:w2.heap.size≤w3.heap.size:=hg3.size
 -- what is kept of another block
 have N:∀ x,x<w.heap.size→x≠M.l→ZqD ao≠some x→w4.heap[x]?=w.heap[x]?:=fun x r v a=>
  (hg4.block x (by omega) (K x v)).trans ((hg3.block x (by omega) (fun e=>a e.symm)).trans ((hb2.block x (by omega)).trans (hg1.block x r (K x v))))
 have y:=fun (x:Nat) (r:x≠M.l) (f:Int→Option Value) (hf:MpF kI w x f)=>hf.eq (w':=w4) (N x hf.map.lt r (fun e=>how.map hf.map x e rfl));refine ⟨(((o.grown hg1 o.size fun k e=>by cases e;exact B.1).trans (hb2.mono (by have:=o.size;omega))).grown hg3 (by have:=o.size;omega) fun k e=>(p.lt k e).1).grown hg4 (by have:=o.size;omega) fun k e=>by cases e;exact B.1,v,(N S a.lt (ZoO a z.map) (how.ne_blk a (by decide))).trans a,⟨_,hs4,F.congr fun u L=>?_⟩,(y _ (fun e=>g.1.1 e.symm) _ O).congr fun c=>?_,y _ (fun e=>g.1.2.1 e.symm) _ P,y _ (fun e=>g.1.2.2.1 e.symm) _ Q,y _ (fun e=>g.1.2.2.2 e.symm) _ R,A,B⟩
 ·try dsimp only
  rw [Zqc hj];by_cases q:u=t
  ·subst q;rw [if_pos rfl,if_pos ((hop u L).2 rfl)]
  ·rw [if_neg q,if_neg (fun e=>q ((hop u L).1 e)),List.append_nil]
 ·unfold mdP;rw [Zqi hj];unfold Zqf;rw [decide_eq_false (fun e=>h14 e.1),Bool.or_false]
theorem SzI.init (H:Zaz w0 h m) (hb:Below w0.heap.size w0 w) {B:Nat} (hB:B=w.heap.size):SzI w0 ((((((w.alloc (.map #[] 0)).alloc (.map #[] 0)).alloc (.map #[] 0)).alloc (.map #[] 0)).alloc (.map #[] 0)).alloc (.cells #[.slice h.co m.cl.length h.cc,.slice h.so m.st.length h.sc,.slice h.eo m.me.length h.ec,.int .i64 m.sel,.map (some B),.map (some (B+1)),.map (some (B+2)),.map (some (B+3)),.map (some (B+4))] 176)) (B+5) ⟨B,B+1,B+2,B+3,B+4⟩ h m 0 0:=by
 have p:=hb.size;obtain ⟨o,n⟩:∃ o:Obj,o=.map #[] 0:=⟨_,rfl⟩;have mk:∀ {κ:Type} [DecidableEq κ] {enc:κ→Value} (v:World) (b:Nat),b=v.heap.size→MpF enc (v.alloc (.map #[] 0)) b (fun _=>none):=fun v b hb=>by subst hb;exact MpF.made _ _
 have a:∀ {κ:Type} [DecidableEq κ] {enc:κ→Value}{v:World}{b:Nat}{f:κ→Option Value},MpF enc v b f→∀ o,MpF enc (v.alloc o) b f:=fun h o=>h.old ((Below.refl _ _).alloc (Nat.le_refl _) o);have d:=mk (enc:=kT) w B hB;have e:=mk (enc:=kI) (w.alloc (.map #[] 0)) (B+1) (by simp [hB]);have g:=mk (enc:=kI) ((w.alloc (.map #[] 0)).alloc (.map #[] 0)) (B+2) (by simp [hB]);have k:=mk (enc:=kI) (((w.alloc (.map #[] 0)).alloc (.map #[] 0)).alloc (.map #[] 0)) (B+3) (by simp [hB]);have l:=mk (enc:=kI) ((((w.alloc (.map #[] 0)).alloc (.map #[] 0)).alloc (.map #[] 0)).alloc (.map #[] 0)) (B+4) (by simp [hB]);refine ⟨?_,H,Blk.new' _ _ (by simp [hB]),⟨_,a (a (a (a (a d _) _) _) _) _,LnI.start _ _ _ fun t=>Zqb m t⟩,(a (a (a (a e _) _) _) _).congr fun c=>?_,a (a (a g _) _) _,a (a k _) _,a l _,?_,⟨by show w0.heap.size≤B;omega,by show w0.heap.size≤B+1;omega⟩⟩
 ·exact (((((hb.alloc (by first|omega|(simp;omega)) _).alloc (by first|omega|(simp;omega)) _).alloc (by first|omega|(simp;omega)) _).alloc (by first|omega|(simp;omega)) _).alloc (by first|omega|(simp;omega)) _).alloc (by first|omega|(simp;omega)) _
 ·unfold mdP;rw [Zqh,if_neg (by rintro ⟨-,q⟩;cases q)]
 ·simp only [List.nodup_cons,List.mem_cons,List.not_mem_nil,or_false,not_or,List.nodup_nil,and_true,not_false_eq_true];omega
theorem SzI.fin (H:SzI w0 w S M h m m.me.length 0):ZoR w S M h m []:=by
 obtain ⟨b,d,g,⟨f,k,a⟩,l,n,o,p,q,s⟩:=H;refine ⟨g,d.old b,⟨f,k,LnI.fin (a.congr fun t _=>Zqe m t)⟩,l.congr fun c=>?_,n.congr fun c=>?_,⟨_,o,fun c v e=>by cases e⟩,⟨_,p,fun c v e=>by cases e⟩,q⟩
 ·unfold mdP mdF;rw [Zqk]
 ·unfold unF;rw [if_neg (by rintro ⟨u,r,-⟩;cases r)]
end
end
section
def ZqG (m:Md) (c j:Nat):List Nat:=(List.range j).filter fun d=>ZaI m (d+1) d c&&ZmW m d
theorem ZqH (m:Md) (c j:Nat):ZqG m c (j+1)=ZqG m c j++if (ZaI m (j+1) j c&&ZmW m j)=true then [j] else []:=by
 unfold ZqG;rw [List.range_succ,List.filter_append];congr 1;cases h:(ZaI m (j+1) j c&&ZmW m j)<;>simp [h]
def ZqI (m:Md) (c j:Nat) (a:T3):Prop:=ZpY m (Zm3 m) z3 (ZqG m c j)=some a∧BdT a
theorem ZqI.zero (m:Md) (c:Nat):ZqI m c 0 z3:=⟨rfl,.z⟩
theorem ZqI.skip {m:Md}{c j:Nat}{a:T3} (h:ZqI m c j a) (hn:(ZaI m (j+1) j c&&ZmW m j)=false):ZqI m c (j+1) a:=by refine ⟨?_,h.2⟩;rw [ZqH,if_neg (by rw [hn];decide),List.append_nil];exact h.1
theorem ZqI.next {m:Md}{c j:Nat}{a s:T3} (h:ZqI m c j a) (hn:(ZaI m (j+1) j c&&ZmW m j)=true) (hs:ZmZ (Zm3 m) (szC m j) (fsC m j)=some s) (hb:BdT s):ZqI m c (j+1) (mxT a s):=by refine ⟨?_,h.2.mx hb⟩;rw [ZqH,if_pos hn,Zp7,h.1,hs]
theorem ZqI.fin {m:Md} (hm:Za2 m=true) {c:Nat} (hc:c<m.cl.length) {a:T3} (h:ZqI m c m.cl.length a):Zm2 m c=some a:=by rw [Zp0 hm hc];exact h.1
def ZqJ (m:Md) (z:T3) (l:List Ty) (i:Nat) (a:T3):Prop:=ZmZ (Zm3 m) z (l.take i)=some a∧BdT a
theorem ZqJ.zero {m:Md}{z:T3}{l:List Ty} (h:BdT z):ZqJ m z l 0 z:=⟨rfl,h⟩
theorem ZqJ.next {m:Md}{z:T3}{l:List Ty}{i:Nat}{a x:T3} (h:ZqJ m z l i a) (hi:i<l.length) (hx:Zm3 m (l.getD i default)=some x) (hb:BdT x):ZqJ m z l (i+1) (plT a x):=by refine ⟨?_,h.2.pl hb⟩;rw [Zam _ _ hi,Zp6,h.1,hx]
theorem ZqJ.fin {m:Md}{z:T3}{l:List Ty}{a:T3} (h:ZqJ m z l l.length a):ZmZ (Zm3 m) z l=some a:=by have:=h.1;rwa [List.take_length] at this
def ZqK (l:List Int) (i:Nat) (a:T3):Prop:=ZmU (l.take i) z3=a
theorem ZqK.next {l:List Int}{i:Nat}{a:T3} (h:ZqK l i a) (hi:i<l.length):ZqK l (i+1) (mxT a (ZmD (l.getD i 0) true)):=by unfold ZqK at h ⊢;rw [Zam l i hi,Zp5,h];rfl
theorem ZqK.bd {l:List Int} (hl:∀ n∈l,0≤n∧n≤48) {i:Nat}{a:T3} (h:ZqK l i a):BdT a:=by rw [←h];exact Zov .z fun n b=>hl n (List.mem_of_mem_take b)
def ZqL (l:List Int) (i:Nat):Int:=ZmS ((l.take i).drop 1) (l.getD 0 0)
theorem ZqM {l:List Int}:ZqL l 1=l.getD 0 0:=by
 unfold ZqL;cases l with
 | nil=>rfl
 | cons a r=>rfl
theorem ZqN {l:List Int}{i:Nat} (b:0<i) (a:i<l.length):ZqL l (i+1)=Zmt (ZqL l i) (l.getD i 0):=by unfold ZqL;rw [Zam l i a,List.drop_append_of_le_length (by simp;omega),Zp4];rfl
theorem ZqO {l:List Int} (c:∀ n∈l,0≤n∧n≤48) (h:0<l.length):ZqL l l.length=ZmS l 0:=by
 cases l with
 | nil=>simp at h
 |cons a r=>
  have b:=(c a (by simp)).1;unfold ZqL ZmS;rw [List.take_length];show r.foldl Zmt a=r.foldl Zmt (Zmt 0 a);rw [show Zmt 0 a=a by unfold Zmt;rw [if_pos b]]
end
section
open Go.RowKit
attribute [local go_sem] World.cell?_alloc_some
theorem ZqP (m:Md) (h:Hd) (w:World) (H:Zaz w h m):Calls Tryz.prog 73 #[.agg (HM.mk h m)] w (Ret w (.bool (decide (okL m)))):=by
 obtain ⟨w0,a⟩:∃ w0,w0=w.alloc (.cells (HM.mk h m) 26):=⟨_,rfl⟩;have d:=Zh (show Below w.heap.size w w0 by rw [a];exact bE);have k:=Zh (show Blk w0 w.heap.size (HM.mk h m) 26 by rw [a];exact Blk.new _ _ _);have g:=Zh a;have f:=Zh (Zmn w0 h m (H.old d.out));show Calls _ _ _ w (Ret w (.bool (decide ((Zmk m).2.2=0))));generalize Zmk m=q at f ⊢;obtain ⟨l,n,o⟩:=q;clear a H;go_enter Tryz.func73,Tryz.ntmps73
 go_upto_region 1 with fail
 rw [←g.out];obtain ⟨s,t,u,v⟩:=Zj8 k.out
 go_wp2_with (go_at_call 110;refine f.out.mono ?_;rintro e r ⟨rfl,b⟩;have c:=Zh (Zag d.out b);clear b)
 all_goals
  go_ret;exact ZcP (ZcT (by first|rfl|simp)) c.out
def ZqQ (m:Md) (t:Ty) (least:Int):Bool:=decide (least≤t.k)&&decide (t.k≤4)&&(Za2 m&&ZaG m.cl.length t 1)
theorem ZqR (m:Md) (h:Hd) (t:Ty) (a:Int) (w:World) (H:Zaz w h m):Calls Tryz.prog 74 #[.agg (HM.mk h m),.agg #[.int .i64 t.k,.int .i64 t.c],.int .i64 a] w (Ret w (.bool (ZqQ m t a))):=by
 obtain ⟨w0,d⟩:∃ w0,w0=(w.alloc (.cells (HM.mk h m) 26)).alloc (.cells #[.int .i64 t.k,.int .i64 t.c] 38):=⟨_,rfl⟩;have HB:=Zh (show Below w.heap.size w w0 by rw [d];exact bE);have q:=Zh (show Blk w0 w.heap.size (HM.mk h m) 26 by rw [d];exact (Blk.new _ _ _).alloc _);have HT:=Zh (show Blk w0 (w.heap.size+1) #[.int .i64 t.k,.int .i64 t.c] 38 by rw [d];exact Blk.new' (w:=w.alloc _) _ _ (by simp));have HW:=Zh d;have l:=Zh (Znw m h t t w0 (H.old HB.out));obtain ⟨b,n⟩:∃ b,b=(Za2 m&&ZaG m.cl.length t 1):=⟨_,rfl⟩;have o:(Znv m t t).2=if b=true then 0 else 1:=by
  rw [n];unfold Znv;cases Za2 m<;>cases ZaG m.cl.length t 1<;>rfl
 generalize Znv m t t=r at l o;obtain ⟨s,u⟩:=r;dsimp only at o;subst o;unfold ZqQ;rw [←n];obtain ⟨k,c⟩:=t;dsimp only at q HT HW l ⊢;clear d H n;by_cases h1:k<a
 ·have hq:decide (a≤k)=false:=decide_eq_false (by omega);exact j4
 ·have hq:decide (a≤k)=true:=decide_eq_true (by omega);rw [hq];by_cases h2:4<k
  ·have hq:decide (k≤4)=false:=decide_eq_false (by omega);exact j4
  ·have hq:decide (k≤4)=true:=decide_eq_true (by omega);rw [hq];go_enter Tryz.func74,Tryz.ntmps74
   go_upto_region 1 with fail
   rw [←HW.out];obtain ⟨x,y,z,A⟩:=Zj8 q.out;obtain ⟨t0,t1⟩:=Zj9 HT.out
   go_wp2_with (go_at_call 134;refine l.out.mono ?_;rintro e v ⟨rfl,f⟩;have g:=Zh (Zag HB.out f);clear f)
   all_goals
    go_ret;exact ZcP (ZcT (by cases b<;>simp)) g.out
theorem ZqS {d:Nat} (a:d<10):ZaR false ⟨14,d,0⟩=true:=by
 have:∀ d:Fin 10,ZaR false ⟨14,(d.val:Int),0⟩=true:=by decide
 exact this ⟨d,a⟩
theorem ZqT {n:Int} (a:0≤n) (b:n≤48):ZaR false ⟨15,n,0⟩=true:=by
 obtain ⟨k,rfl⟩:∃ k:Nat,n=k:=⟨n.toNat,by omega⟩;have:∀ d:Fin 49,ZaR false ⟨15,(d.val:Int),0⟩=true:=by decide
 exact this ⟨k,by omega⟩
theorem ZqU (m:Md) (h:Hd) (i:In3) (w:World) (H:Zaz w h m) (W:okL m) (Y:ZaR false i=true) (l:i.op=14∨i.op=15) (F:i.op=14→i.a<m.cl.length) (X:ZmG m i):Calls Tryz.prog 149 #[.agg (HM.mk h m),ZI.i i] w (Zhi w (ag3 (szV m i)) (.int .i64 0)):=by
 obtain ⟨w0,f⟩:∃ w0,w0=(((w.alloc (.cells (HM.mk h m) 26)).alloc (.cells #[.int .i64 i.op,.int .i64 i.a,.int .i64 i.b] 72)).alloc (.cells #[.int .i64 0,.int .i64 0,.int .i64 0] 45)):=⟨_,rfl⟩;have A:=Zh (show Below w.heap.size w w0 by rw [f];exact bE);have E:=Zh (show Blk w0 w.heap.size (HM.mk h m) 26 by rw [f];exact ((Blk.new _ _ _).alloc _).alloc _);have k:=Zh (show Blk w0 (w.heap.size+1) #[.int .i64 i.op,.int .i64 i.a,.int .i64 i.b] 72 by rw [f];exact (Blk.new' (w:=w.alloc _) _ _ (by simp)).alloc _);have HR:=Zh (show Blk w0 (w.heap.size+2) #[.int .i64 0,.int .i64 0,.int .i64 0] 45 by rw [f];exact Blk.new' (w:=(w.alloc _).alloc _) _ _ (by simp));have R:=Zh f;have Q:=Zh (Zmn w0 h m (H.old A.out));have D:=Zh (Zdk i false);rw [Y] at D;have B:=Zh (fun w' (hb:Below w0.heap.size w0 w')=>ZmH m h i w' (H.old (Zag A.out hb)) X);have n:(Zmk m).2.2=0:=W;generalize Zmk m=q at Q n;obtain ⟨q1,q2,q3⟩:=q;dsimp only at n;subst n;generalize szV m i=v at B ⊢;obtain ⟨Z,v1,v2⟩:=v;unfold ag3 at B ⊢;obtain ⟨C,a,b⟩:=i;dsimp only at E k R D B l F ⊢;clear f H W Y X;have T:(C == 16)=false:=by
  have:C≠16:=by omega
  simpa using this
 have s:C=14∧a<m.cl.length∨(C == 14)=false:=by
  rcases l with q|q
  ·exact .inl ⟨q,F q⟩
  ·right;rw [q];rfl
 clear l F;rcases s with ⟨rfl,ad⟩|ae
 all_goals
  go_enter Tryz.func149,Tryz.ntmps149
  go_upto_region 1 with fail
  rw [←R.out];obtain ⟨L,N,O,P⟩:=Zj8 E.out
  go_wp2_with (first
   | (go_at_call 110;refine Q.out.mono ?_;rintro e w1 ⟨rfl,r⟩;have g:=Zh r;clear r L N O P;have I:=(k.out.old g.out).cell 0 (v:=.int .i64 _) rfl;have J:=(k.out.old g.out).cell 1 (v:=.int .i64 a) rfl;have K:=(k.out.old g.out).cell 2 (v:=.int .i64 b) rfl)
   | (go_at_call 209;refine (D.out _).mono ?_;rintro e w2 ⟨rfl,t⟩;have d:=Zh (Zag g.out t);clear t I J K;have I:=(k.out.old d.out).cell 0 (v:=.int .i64 _) rfl;have J:=(k.out.old d.out).cell 1 (v:=.int .i64 a) rfl;have K:=(k.out.old d.out).cell 2 (v:=.int .i64 b) rfl;obtain ⟨L,N,O,P⟩:=Zj8 (E.out.old d.out))
   | (go_at_call 210;refine (B.out _ d.out).mono ?_;rintro e w3 ⟨rfl,u⟩;have o:=Zh (Zag d.out u);clear u I J K L N O P;have c:=Zh (HR.out.old o.out);have f0:=c.out.frozen 0;have f1:=c.out.frozen 1;have f2:=c.out.frozen 2;have r0:=c.out.cell 0 (v:=.int .i64 0) rfl;have r1:=c.out.cell 1 (v:=.int .i64 0) rfl;have r2:=c.out.cell 2 (v:=.int .i64 0) rfl))
  have G:=Zmx (x:=Z) (y:=v1) (z:=v2) c.out;have z0:=G.c3.1;have z1:=G.c3.2.1;have z2:=G.c3.2.2;exact bodyPost_ret (v:=.tuple #[.agg #[.int .i64 Z,.int .i64 v1,.int .i64 v2],.int .i64 0]) (by simp [results,Tryz.results149,go_sem,z0,z1,z2]) rfl ⟨rfl,Zmz (Zag A.out o.out) _ _ _ (by have:=A.out.size;omega)⟩
theorem ZqV {m:Md} (b:Za2 m=true) {d:Nat} (a:d<m.cl.length):szV m ⟨14,d,0⟩=szC m d∧ZmG m ⟨14,d,0⟩:=by
 refine ⟨by simp [szV,szC,fsC],⟨fun _=>⟨by show (0:Int)≤d;omega,by show (d:Int) < _;omega,?_⟩,fun q=>?_⟩⟩
 ·have c:(m.cl.getD d default).f.length≤7:=by have:=Zip b d a;simp only [ZaL,Bool.and_eq_true,decide_eq_true_eq] at this;omega
  show (m.cl.getD (d:Int).toNat default).f.length≤100000;rw [Int.toNat_natCast];omega
 ·rcases q with q|q<;>cases q
theorem ZqW {m:Md}{n:Int} (a:0≤n) (b:n≤48):szV m ⟨15,n,0⟩=ZmD n true∧ZmG m ⟨15,n,0⟩:=by refine ⟨by simp [szV],?_⟩;unfold ZmG;exact ⟨fun q=>by simp at q,fun _=>⟨a,by dsimp only;omega⟩⟩
theorem ZqX (m:Md) (h:Hd) (d:Nat) (w:World) (H:Zaz w h m) (a:okL m) (c:d<m.cl.length):Calls Tryz.prog 149 #[.agg (HM.mk h m),.agg #[.int .i64 14,.int .i64 d,.int .i64 0]] w (Zhi w (ag3 (szC m d)) (.int .i64 0)):=by have b:=ZqV a.v c;have:=ZqU m h ⟨14,d,0⟩ w H a (ZqS (by have:=(Zir a.v).1;omega)) (.inl rfl) (fun _=>by show (d:Int) < _;omega) b.2;rwa [b.1] at this
theorem ZqY (m:Md) (h:Hd) (n:Int) (w:World) (H:Zaz w h m) (d:okL m) (a:0≤n) (b:n≤48):Calls Tryz.prog 149 #[.agg (HM.mk h m),.agg #[.int .i64 15,.int .i64 n,.int .i64 0]] w (Zhi w (ag3 (ZmD n true)) (.int .i64 0)):=by have c:=ZqW (m:=m) a b;have:=ZqU m h ⟨15,n,0⟩ w H d (ZqT a b) (.inr rfl) (fun q=>by cases q) c.2;rwa [c.1] at this
theorem ZqZ (l:List Int) (ao:Option Addr) (cap:Nat) (w:World) (q:Zas w ao cap l) (y:0<l.length) (C:l.length≤1000000):Calls Tryz.prog 135 #[.slice ao l.length cap] w (Ret w (.int .i64 (ZqL l l.length))):=by
 have r:=Zh q;obtain ⟨s,f,o⟩:=ZaC q y;subst f;have d:w.cell? s=some (.int .i64 (l.getD 0 0)):=o;obtain ⟨E,a⟩:∃ v,v=l.getD 0 0:=⟨_,rfl⟩;rw [←a] at d;have c:=Zh a;clear o a;have z:(0:Int) < l.length:=by omega
 have p:¬ (l.length:Int) < 1:=by omega
 go_enter Tryz.func135,Tryz.ntmps135;go_wp2
 go_loop [3,4] (fun x i=>∃ k:Nat,1≤k∧k≤l.length∧i=.int .i64 k∧x=.int .i64 (ZqL l k)) (fun _ i=>l.length-(intOf i).toNat)
 case atStart=>exact ⟨1,by omega,by omega,rfl,by rw [ZqM,←c.out]⟩
 case round=>
  obtain ⟨k,A,D,rfl,rfl⟩:=hrel;by_cases hkl:k<l.length
  ·have b:(k:Int) < l.length:=by omega
   have B:IntKind.i64.wrap ((k:Int)+1)=((k+1:Nat):Int):=IntWalk.i64_in _ (by omega);obtain ⟨t,e,u⟩:=ZaC r.out hkl;cases e;have n:=Zh (ZqN (l:=l) (by omega) hkl);generalize l.getD k 0=x at u n;go_wp2
   all_goals
    go_round
    case rel=>exact ⟨k+1,by omega,by omega,rfl,by rw [n.out];unfold Zmt;first|rfl|(congr 1;split<;>omega)|(congr 1;omega)⟩
    case measure=>simp [intOf];omega
  ·have b:¬ (k:Int) < l.length:=by omega
   have g:k=l.length:=by omega
   subst g;go_wp2;go_ret;exact ZcP rfl (Below.refl _ _)
end
section
open Go.RowKit
attribute [local go_sem] World.cell?_alloc_some
theorem Zq0 {κ:Type} [DecidableEq κ] {enc:κ→Value}{g e:TypeId} (K:Zoa g enc) {t:TypeId} (n:Tryz.prog.underlying t=some (.map g e)) {z:Value} (q:∀ w,(zeroValue e).run Tryz.prog w=.ok z w) {o:Oper} (m x:Operand) (d:Bool) (c:o.op=Op.lookup t m x d) {b:Operand→Value}{M:Nat}{f:κ→Option Value} (l:b m=.map (some M)) (k:κ) (p:b x=enc k) {w:World} (H:MpF enc w M f) :
  (execOp b o).run Tryz.prog w=.ok (.value (if d then .tuple #[(f k).getD z,.bool (f k).isSome] else (f k).getD z)) w:=by
 have a:=H.look K n (q w) k d;simp [execOp,c,l,p,a,Result.andThen]
theorem Zq1 (w:World):(zeroValue 27).run Tryz.prog w=.ok (.slice none 0 0) w:=by kernel_rfl
theorem Zq2 (w:World):(zeroValue 4).run Tryz.prog w=.ok (.bool false) w:=by kernel_rfl
theorem Zq3 (w:World):(zeroValue 45).run Tryz.prog w=.ok (ag3 z3) w:=by kernel_rfl
theorem MpF.drew {κ:Type} [DecidableEq κ] {enc:κ→Value}{w:World}{M:Nat}{f:κ→Option Value} (H:MpF enc w M f):MpF enc w.drew M f:=H.eq rfl
theorem Zq4 (t:Ty) (k:List In3):(ZmQ t k).length≤k.length:=by unfold ZmQ;rw [List.length_map];exact List.length_filter_le _ _
theorem Zq5 {m:Md} (hm:Za2 m=true) (t:Ty):(ZmR m t).length≤1000000:=by
 have a:∀ n,n≤m.me.length→(Zqa m t n 0).length≤120*n:=by exact j1
 have:=a m.me.length (Nat.le_refl _);have b:=(Zir hm).2.1;rw [Zqe] at this;omega
section
variable {S:Nat}{M:MsL}{h:Hd}{m:Md}{U:List Nat}
theorem Zq6 {w:World}{o:Option Value}{l:List Int} (h:ZoP w o l):∃ ao cap,o.getD (.slice none 0 0)=.slice ao l.length cap∧Zas w ao cap l:=by
 rcases h with ⟨rfl,rfl⟩|⟨ao,cap,rfl,a⟩
 ·exact ⟨none,0,rfl,Zas.nil _⟩
 ·exact ⟨ao,cap,rfl,a⟩
theorem Zq7 (I:Za2 m=true) (t:Ty) (Z:Zfk m t) (w:World) (H:ZoR w S M h m U):Calls Tryz.prog 87 #[ZQ.p S,.agg #[.int .i64 t.k,.int .i64 t.c]] w (Ret w (.int .i64 (ZmT m t))):=by
 obtain ⟨f,G,x⟩:=H.ln;have n:=Zor I (t:=t);obtain ⟨F,r,B,J⟩:=Zq6 (x t Z);obtain ⟨w0,g⟩:∃ w0,w0=w.alloc (.cells #[.int .i64 t.k,.int .i64 t.c] 38):=⟨_,rfl⟩;have q:=Zh (show Below w.heap.size w w0 by rw [g];exact bE);have T:=Zh (show Blk w0 w.heap.size #[.int .i64 t.k,.int .i64 t.c] 38 by rw [g];exact Blk.new _ _ _);have X:=Zh g;have O:=Zh (G.old q.out);have E:=Zh (ZmJ J (ZmI.of q.out));have R:=Zh ((H.bk.old q.out).cell 4 (v:=.map (some M.l)) rfl);have D:=Zh n;have b:=Zh (show ZmT m t=ZmS (ZmR m t) 0 from rfl);have u:(ZmR m t).length≤1000000:=Zq5 I t;generalize ZmT m t=lo at b ⊢;generalize ZmR m t=l at B E D b u;have W:=Zh B;clear g G x J H n B;go_enter Tryz.func87,Tryz.ntmps87
 go_upto_region 1 with fail
 rw [←X.out];obtain ⟨L,N⟩:=Zj9 T.out;have K:=R.out;refine rO (fun w'=>Cs [(⟨S,4,none⟩,.map (some M.l)),(⟨w.heap.size,0,none⟩,.int .i64 t.k),(⟨w.heap.size,1,none⟩,.int .i64 t.c)] w'∧MpF kT w' M.l f) (oL [0,1,2,3,4,5,6]) ⟨⟨K,L,N,trivial⟩,O.out.drew⟩ ?_;clear K L N
 (refine pO ?_)
 (refine pO ?_)
 (refine pO ?_)
 (refine pO ?_)
 (refine pO ?_)
 refine pO (v:=.slice F l.length r) ?_ (hy:=Or.inl ⟨by rfl,fun w' C=>by rw [←W.out];exact Zq0 Zoe Tryz.underlying173 Zq1 _ _ false rfl rfl t rfl C.2⟩)
 (refine pO ?_)
 refine Zd7 ?_;by_cases h0:0<l.length
 ·have z:(0:Int) < l.length:=by omega
  go_wp2_with (go_at_call 135;refine (ZqZ l F r _ (ZmJ E.out (ZmI.of bE)) h0 u).mono ?_;rintro e w1 ⟨rfl,s⟩;have y:=Zh s;clear s)
  go_ret;exact ZcP (by rw [b.out,ZqO D.out h0];rfl) (Zag q.out (Zag bE y.out))
 ·have z:¬ (0:Int) < l.length:=by omega
  have A:l.length=0:=by omega
  have Y:=Zh (List.eq_nil_of_length_eq_zero A)
  go_wp2_with fail
  go_ret;exact ZcP (by rw [b.out,Y.out];rfl) (Zag q.out bE)
end
end
section
open Go.RowKit
theorem Zq8 {w0 w1:World} (c:ZmI w0 w1) {B:Nat} (d:w0.heap.size≤B) (i:Nat) (v:Value):ZmI w0 (w1.setCell ⟨B,i,none⟩ v):=fun p u a=>by
 have b:=c p u a
 have e:=Zad a
 refine (World.cell?_of_block (w:=w1) (Below.heap_setCell _ _ _ _ (show p.block≠B by omega))).trans b
theorem ZoR.m_ne {w:World}{S:Nat}{M:MsL}{h:Hd}{m:Md}{U:List Nat} (H:ZoR w S M h m U):M.l ∉ M.s∧M.a ∉ M.s:=by have a:=H.nd;simp only [List.nodup_cons,List.mem_cons,List.not_mem_nil,or_false,not_or,not_false_eq_true,List.nodup_nil,and_true] at a;simp only [MsL.s,List.mem_cons,List.not_mem_nil,or_false,not_or];exact ⟨a.1.2,a.2.1⟩
structure FrO (w0 w:World) (S:Nat) (M:MsL) (h:Hd) (m:Md) (U:List Nat):Prop where
 sz:ZoR w S M h m U
 up:UpL M.s w0 w
 kp:ZmI w0 w
section
variable {w0 w w':World}{S:Nat}{M:MsL}{h:Hd}{m:Md}{U V:List Nat}
theorem FrO.start (H:ZoR w S M h m U):FrO w w S M h m U:=⟨H,UpL.refl _ _,ZmI.refl _⟩
theorem FrO.old (F:FrO w0 w S M h m U) (hb:Below w.heap.size w w'):FrO w0 w' S M h m U:=⟨F.sz.old hb,F.up.trans (UpL.of hb),F.kp.trans (ZmI.of hb)⟩
theorem FrO.call (F:FrO w0 w S M h m U) (H:ZoR w' S M h m V) (hu:UpL M.s w w') (hk:ZmI w w'):FrO w0 w' S M h m V:=⟨H,F.up.trans hu,F.kp.trans hk⟩
theorem FrO.set (H0:ZoR w0 S M h m V) (F:FrO w0 w S M h m U) {B:Nat}{xs:Array Value}{t:TypeId} (hb:Blk w B xs t) (hB:w0.heap.size≤B) (i:Nat) (v:Value):FrO w0 (w.setCell ⟨B,i,none⟩ v) S M h m U:=by obtain ⟨⟨r,H,⟨f,I,s⟩,u,y,⟨g,z,l⟩,⟨k,A,n⟩,C⟩,p,D⟩:=F;have a:=Zq8 D hB i v;have o:∀ x,x≠B→(w.setCell ⟨B,i,none⟩ v).heap[x]?=w.heap[x]?:=fun x G=>Below.heap_setCell _ _ _ _ G;have b:=fun {κ:Type} [DecidableEq κ] {enc:κ→Value}{x:Nat}{f:κ→Option Value} (hf:MpF enc w x f)=>hf.eq (w':=w.setCell ⟨B,i,none⟩ v) (o x (fun e=>ZoO hb hf.map e.symm));refine ⟨⟨(o S (by have:=H0.bk.lt;omega)).trans r,H0.md.keeps a,?_,b u,b y,⟨g,b z,l⟩,⟨k,b A,n⟩,C⟩,p.set hB,a⟩;obtain ⟨q,c,d⟩:=H0.ln;refine ⟨q,c.eq ((o _ (by have:=c.map.lt;omega)).trans (p.block _ c.map.lt H0.m_ne.1)),fun t E=>(d t E).keeps a⟩
theorem FrO.set3 (H0:ZoR w0 S M h m V) (F:FrO w0 w S M h m U) {B:Nat}{a b c:Int}{t:TypeId} (hb:Blk w B (cl3 a b c) t) (hB:w0.heap.size≤B) (x y z:Int):FrO w0 (((w.setCell ⟨B,0,none⟩ (.int .i64 x)).setCell ⟨B,1,none⟩ (.int .i64 y)).setCell ⟨B,2,none⟩ (.int .i64 z)) S M h m U:=
 FrO.set H0 (FrO.set H0 (FrO.set H0 F hb hB 0 _) (Zmu hb rfl) hB 1 _) (Zmv (Zmu hb rfl) rfl) hB 2 _
theorem FrO.putU (F:FrO w0 w S M h m U) (hg:w.grownBy w' (some M.u)) (hs:MpF kI w' M.u (unF V)):FrO w0 w' S M h m V:=
 ⟨F.sz.putU hg hs,F.up.trans (UpL.grown hg (by simp [MsL.s])),F.kp.trans (ZoN F.sz.un.map hg)⟩
theorem FrO.putK (F:FrO w0 w S M h m U) (hg:w.grownBy w' (some M.k)) {g:Int→Option Value} (hs:MpF kI w' M.k g) (hok:ZoQ (Zm2 m) m.cl.length g):FrO w0 w' S M h m U:=by obtain ⟨f,a,-⟩:=F.sz.kn;exact ⟨F.sz.putK hg hs hok,F.up.trans (UpL.grown hg (by simp [MsL.s])),F.kp.trans (ZoN a.map hg)⟩
theorem FrO.blk (F:FrO w0 w S M h m U) {B:Nat}{xs:Array Value}{t:TypeId} (hb:Blk w0 B xs t) (hn:B ∉ M.s):Blk w B xs t:=F.up.blk hb hn
theorem ZoR.own (H:ZoR w S M h m U) {B:Nat}{xs:Array Value}{t:TypeId} (hb:Blk w B xs t) (hu:UpL M.s w w'):Blk w' B xs t:=hu.blk hb (H.blk_ne hb)
theorem FrO.val (F:FrO w0 w S M h m U) {v:Option T3}{stuck:Prop}{e:Ending}{x:T3}{ok:Bool} (he:e=.returned (.tuple #[ag3 x,.bool ok])) (hb:BdT x) (h1:ok=true→v=some x) (h2:ok=false→stuck):ZoV w0 S M h m U v stuck e w:=
 ⟨F.sz,F.up,F.kp,x,ok,he,hb,h1,h2⟩
end
end
