import Derived.Test.YtfmcclhfnpcokaaGreatG10
set_option linter.all false
set_option maxRecDepth 100000
set_option maxHeartbeats 4000000
namespace Go.Proofs.YtfmcclhfnpcokaaGreat
theorem k0{p:Prop}(h:p:=by
 have mb0:=(Blk.upd HB.out.2.2.1 HU1.out mne mne).cell 0 (v:=.pointer (some ma)) rfl;have mp:=(HMa.out _ HU1.out).1;clear hsb hcb hmb hvb hob hown
 go_wp2_with fail
 go_loopw [42] (fun i wr=>∃ k:Nat,k≤ps.length∧i=.int .i64 k∧Hid (Upd K K W wr)∧Hid (Ck wr K h m L S O (Ziv m l ps more e0 k))) (fun i _=>ps.length-(intOf i).toNat)
 case atStart=>exact ⟨0,by omega,rfl,HU1,HC1⟩
 case round=>
  obtain ⟨k,hk,rfl,HU2,HC2⟩:=hrel;by_cases hkl:k<ps.length
  ·obtain ⟨pa,hpo,p0,p1⟩:=ZaA (HMa.out _ HU2.out).2 hkl;obtain ⟨ta,hto,t0,t1⟩:=ZaA (HT.out.upd HU2.out HNo.out HNo.out).1 (i:=more+k) (by have:=HLen.out;omega);have tne:=HNe.out _ hto;cases hto;cases hpo;have hkl2:(k:Int) < ps.length:=by omega
   have hml2:((more+k:Nat):Int) < l.length:=by have:=HLen.out;omega
   have hwr:IntKind.i64.wrap ((k:Int)+1)=k+1:=IntWalk.i64_in _ (by omega);have hwm:IntKind.i64.wrap ((more:Int)+k)=((more+k:Nat):Int):=by rw [show (more:Int)+k=((more+k:Nat):Int) by omega];exact IntWalk.i64_in _ (by omega)
   have pl:=Zad p0;have tl:=Zad t0;have v0:=(Blk.upd HB.out.2.2.2.1 HU2.out vne vne).cell 0 (v:=.int .i64 more) rfl;have c0:=(Blk.upd HB.out.2.1 HU2.out cne cne).cell 0 (v:=.pointer (some ⟨K,0,none⟩)) rfl;have vl:=Zad v0;have cl:=Zad c0;have kl2:=Blk.lt HC2.out;have hwn:IntKind.i64.wrap (((more+k:Nat):Int))=((more+k:Nat):Int):=IntWalk.i64_in _ (by omega);have hsum:(more:Int)+(k:Int)=((more+k:Nat):Int):=by omega
   generalize hn:more+k=n at t0 t1 hwm hml2 tl hsum hwn;have tadd:(ta.add (n*2)).block=ta.block:=by unfold Addr.add;split<;>rfl
   have padd:(pa.add (k*2)).block=pa.block:=by unfold Addr.add;split<;>rfl
   obtain ⟨⟨pk,pq⟩,hp⟩:∃ x,x=ps.getD k default:=⟨_,rfl⟩;obtain ⟨⟨tk,tq⟩,ht⟩:∃ x,x=l.getD n default:=⟨_,rfl⟩;rw [←hp] at p0 p1;rw [←ht] at t0 t1;dsimp only at p0 p1 t0 t1;obtain ⟨ft,hft⟩:∃ x,x=Zhr m ⟨tk,tq⟩ ⟨pk,pq⟩:=⟨_,rfl⟩;obtain ⟨ek,hek⟩:∃ x,x=Ziv m l ps more e0 k:=⟨_,rfl⟩;rw [←hek] at HC2;have HFi:=Zh (show ∀ w':World,Upd K K W w'→Ck w' K h m L S O ek→Calls Tryz.prog 196 #[ZQ.p K,.agg #[.int .i64 tk,.int .i64 tq],.agg #[.int .i64 pk,.int .i64 pq]] w' fun r w''=>(∃ v,r=.returned v)∧Ck w'' K h m L S O (ZeV ek (decide (ek=0)&&ft))∧Upd K K w' w'' from fun w' hu hc=>by have:=Zhx K h m L S O ek ⟨tk,tq⟩ ⟨pk,pq⟩ w' hc (HMo'.out w' hu);rw [←hft] at this;exact this);have HE:=Zh (show Ziv m l ps more e0 (k+1)=ZeV ek (decide (ek=0)&&ft) from by rw [hft,ht,hp,←hn,hek];rfl);have HU3:=Zh (HU2.out.alloc (.cells #[.int .i64 pk,.int .i64 pq] 38));have HC3:=Zh (Ck.old (w':=wr.alloc (.cells #[.int .i64 pk,.int .i64 pq] 38)) HC2.out bE);have hx:=Blk.new wr #[.int .i64 pk,.int .i64 pq] 38;have x0:=hx.cell 0 (v:=.int .i64 pk) rfl;have x1:=hx.cell 1 (v:=.int .i64 pq) rfl;have hS:∀ w',Upd K K (wr.alloc (.cells #[.int .i64 pk,.int .i64 pq] 38)) w'→(fun w':World=>w'.cell? ⟨cb,0,none⟩=some (.pointer (some ⟨K,0,none⟩))∧w'.cell? ⟨vb,0,none⟩=some (.int .i64 more)∧w'.cell? (ta.add (n*2))=some (.int .i64 tk)∧w'.cell? ⟨(ta.add (n*2)).block,(ta.add (n*2)).off+1,none⟩=some (.int .i64 tq)∧w'.cell? ⟨wr.heap.size,0,none⟩=some (.int .i64 pk)∧w'.cell? ⟨wr.heap.size,1,none⟩=some (.int .i64 pq)) w':=by
    intro w' hu;have ha:∀ {p:Addr}{v:Value},wr.cell? p=some v→(wr.alloc (.cells #[.int .i64 pk,.int .i64 pq] 38)).cell? p=some v:=fun {p v} hc=>((Below.refl wr.heap.size wr).alloc (Nat.le_refl _) _).cell (Zad hc) |>.trans hc;have q:∀ {p:Addr}{v:Value},wr.cell? p=some v→p.block≠K→w'.cell? p=some v:=fun hc hp=>hu.cell (ha hc) hp hp;exact ⟨q c0 cne,q v0 vne,q t0 (by rw [tadd];exact tne),q (p:=⟨(ta.add (n*2)).block,(ta.add (n*2)).off+1,none⟩) t1 (by show (ta.add (n*2)).block≠K;rw [tadd];exact tne),hu.cell x0 (by show wr.heap.size≠K;omega) (by show wr.heap.size≠K;omega),hu.cell x1 (by show wr.heap.size≠K;omega) (by show wr.heap.size≠K;omega)⟩
   have HS:=Zh hS;have HK:=Zh hkl;have HN:=Zh hn;clear hS x0 x1 hx v0 c0 t0 t1 hp ht hft hek hn hkl tadd padd mb0 mp
   go_upto_region 6 with fail
   refine rO (fun w':World=>w'.cell? ⟨cb,0,none⟩=some (.pointer (some ⟨K,0,none⟩))∧w'.cell? ⟨vb,0,none⟩=some (.int .i64 more)∧w'.cell? (ta.add (n*2))=some (.int .i64 tk)∧w'.cell? ⟨(ta.add (n*2)).block,(ta.add (n*2)).off+1,none⟩=some (.int .i64 tq)∧w'.cell? ⟨wr.heap.size,0,none⟩=some (.int .i64 pk)∧w'.cell? ⟨wr.heap.size,1,none⟩=some (.int .i64 pq)) (oL [0,1,2,3,4,5,6,7,108]) (HS.out _ (Upd.refl K K _).drew) ?_
   repeat refine pO ?_
   refine oO fun Kv hK=>?_;go_simp;refine (HFi.out _ HU3.out.drew (Ck.drew HC3.out)).mono ?_;rintro r w4 ⟨⟨v4,rfl⟩,hc4,hu4⟩;have HU4:=Zh (HU3.out.drew.trans hu4);have HC4:=Zh hc4;have HV4:=Zh ((Upd.refl K K (wr.alloc (.cells #[.int .i64 pk,.int .i64 pq] 38))).drew.trans hu4);clear hc4 hu4;refine hK _ _ ⟨HS.out _ HV4.out,?_⟩;clear hK Kv
   repeat refine pO ?_
   refine Zd7 ?_
   go_wp2_with fail
   go_roundw
   case rel=>exact ⟨k+1,HK.out,rfl,HU4,by rw [HE.out];exact HC4⟩
   case measure=>simp [intOf];have:=HK.out;omega
  ·obtain rfl:k=ps.length:=by omega
   have o0:=(Blk.upd HB.out.2.2.2.2 HU2.out one one).cell 0 (v:=.slice ro rl.length rc) rfl
   go_wp2_with fail
   go_ret;exact ⟨ro,rc,rl,_,rfl,HR.out.upd HU2.out HNo.out HNo.out,HC2.out,HU2.out,rfl,rfl⟩):p:=h
theorem k3{p:Prop}(h:p:=by
 have q:∀ {p:Addr}{v:Value},w1.cell? p=some v→some p.block≠(Value.slice oo bs.length oc).ownBlock→w'.cell? p=some v:=fun hc hp=>(World.cell?_of_block (w:=w1) (hk _ (Zad hc) hp)).trans hc;have nk:some K≠(Value.slice oo bs.length oc).ownBlock:=fun e=>by exact k90
 have nb:∀ b (t:TypeId) xs,Blk w1 b xs t→t≠232→some b≠(Value.slice oo bs.length oc).ownBlock:=fun b t xs hb ht e=>by
  cases oo with
  | none=>cases e
  | some a=>
   obtain ⟨g,cur,rfl,-,hg⟩:=HO1.out.blk rfl;have e':b=g:=Option.some.inj e;rw [←e',show w1.heap[b]?=_ from hb] at hg;cases hg;exact ht rfl
 have k5:=HC1.out.cells.2.2.2.2.2.2.1;have k6:=HC1.out.cells.2.2.2.2.2.2.2.1;exact ⟨q (HB.out.1.cell 0 rfl) (nb _ _ _ HB.out.1 (by decide)),q (HB.out.2.cell 0 rfl) (nb _ _ _ HB.out.2 (by decide)),q k6 nk,q k5 nk⟩):p:=h
theorem k10{p:Prop}(h:p:=by
 have hnk:some K≠(Value.slice oo bs.length oc).ownBlock:=fun e=>by exact k90
 have hc4:Blk w4 K _ 166:=(HG4.out.block K (Nat.lt_of_lt_of_le (Blk.lt HC1.out) HB4.out.size) hnk).trans (HC1.out.old HB4.out);exact hc4.frozen 6):p:=h
theorem k36{p:Prop}(h:p:=by
 obtain rfl:j=bs.length:=by omega
 rw [show (bs++[(⟨i.op,bo,st.length,bc,none,0,0,false⟩:VB)]).getD bs.length default=⟨i.op,bo,st.length,bc,none,0,0,false⟩ by simp,show (s.opn++[(⟨i.op,st,[],false⟩:Opn)]).getD bs.length default=⟨i.op,st,[],false⟩ by rw [H.op.len];simp];exact ⟨rfl,rfl,rfl,rfl,hcl.upd (hu4.trans hu5) hc2.noTy hno2,ZeR.nil _⟩):p:=h
theorem k50{p:Prop}(h:p:=by
 cases oo with
 | none=>exact H.hK
 | some a=>obtain ⟨g,cur,rfl,hb,_⟩:=H.op.blk rfl;exact hb):p:=h
theorem k54{p:Prop}(h:p:=by
 rw [hlen,Zao,Zap];refine ownsRow_setCell_other hown4 ?_ _;intro e;rcases hown4.2 with ⟨_,hn⟩|⟨g,c,cur,hv,hb,hg,_⟩
 ·omega
 ·cases hv;have e':g=K:=Option.some.inj e;rw [e',show w4.heap[K]?=_ from hc4] at hg;cases hg):p:=h
theorem k71{p:Prop}(h:p:=by
 unfold ZhS;rw [cvx (by simp),pvx (by simp),if_neg (by dsimp only;omega)];simp):p:=h
theorem k78{p:Prop}(h:p:=by
 obtain ⟨xs,z,hx⟩:=HT.out.2.2 a ha;exact HNo.out.2 xs z (q▸hx)):p:=h
theorem k79{p:Prop}(h:p:=by
 rw [hg4.block K hKw (fun e=>by
  rcases hneK with q|q
  ·exact q (Zi4 K oo _ _ K e.symm)
  ·subst q;cases e)]
 exact hc2):p:=h
theorem k90{p:Prop}(h:p:=by
 have h1:=Zi4 K oo _ _ K e.symm;cases oo with
 | none=>cases e
 | some a=>exact HH.out.ne a rfl h1.symm):p:=h
theorem k93{p:Prop}(h:p:=by
 refine ZiD (by simp) (fun _=>rfl) ?_;rw [ZiB];rfl):p:=h
section
open Go.RowKit
def Ziv (m:Md) (l ps:List Ty) (more:Nat) (e0:Int):Nat→Int
 | 0=>e0
 | k+1=>ZeV (Ziv m l ps more e0 k) (decide (Ziv m l ps more e0 k=0)&&Zhr m (l.getD (more+k) default) (ps.getD k default))
theorem Ziw (m:Md) (l ps:List Ty) (more:Nat) (e0:Int) (h:e0=0∨e0=11):∀ k,Ziv m l ps more e0 k=if e0=0∧(List.range k).all (fun j=>Zhr m (l.getD (more+j) default) (ps.getD j default))=true then 0 else 11
 | 0=>by rcases h with h|h<;>simp [Ziv,h]
 | k+1=>by
  unfold Ziv;rw [Ziw m l ps more e0 h k,List.range_succ,List.all_append];by_cases h1:e0=0∧(List.range k).all (fun j=>Zhr m (l.getD (more+j) default) (ps.getD j default))=true
  ·rw [if_pos h1];cases hq:Zhr m (l.getD (more+k) default) (ps.getD k default)
   ·rw [if_neg (fun c=>by have:=c.2;simp only [List.all_cons,List.all_nil,hq,Bool.false_and,Bool.and_false,Bool.false_eq_true] at this)];rfl
   ·rw [if_pos ⟨h1.1,by simp only [List.all_cons,List.all_nil,hq,h1.2];rfl⟩];rfl
  ·rw [if_neg h1,if_neg (fun c=>h1 ⟨c.1,by have:=c.2;simp only [Bool.and_eq_true] at this;exact this.1⟩)];rfl
section
variable (K:Nat)(h:Hd)(m:Md)(L S O:Value)(l ps:List Ty)(po:Option Addr)(pc:Nat)(ma:Addr)(sel:Int)(more:Nat)(ro:Option Addr)(rc:Nat)(rl:List Ty)(sb cb mb vb ob:Nat)(to':Option Addr)(tc base:Nat)(W:World)(H:Ck W K h m L S O 0)(HMo:∀ w',Upd K K W w'→Zaz w' h m)(hsb:Blk W sb #[.int .i64 sel] 3)(hcb:Blk W cb #[ZQ.p K] 163)(hmb:Blk W mb #[.pointer (some ma)] 167)(hvb:Blk W vb #[.int .i64 more] 3)(hob:Blk W ob #[.slice ro rl.length rc] 23)(hrl:ZeR W ro rc rl)(hma:∀ w',Upd K K W w'→w'.cell? ⟨ma.block,ma.off+2,none⟩=some (.slice po ps.length pc)∧Zas w' po pc ps)(hown:W.ownsRow base 38 2 (.slice to' l.length tc) l.length (Zal l))(hlen:l.length=more+ps.length)(hps:ps.length≤1000)(hmo:more≤1)
include K h m L S O l ps po pc ma sel more ro rc rl sb cb mb vb ob to' tc base W H HMo hsb hcb hmb hvb hob hrl hma hown hlen hps hmo
theorem Zix (C:sel<0):
  Calls Tryz.prog 306 #[.slice to' l.length tc,ZQ.p sb,ZQ.p cb,ZQ.p mb,ZQ.p vb,ZQ.p ob] W (ZhZ W K h m L S O fun B D=>B=rl∧D=Ziv m l ps more (0) ps.length):=by
 obtain ⟨e0,e⟩:∃ x:Int,x=0:=⟨_,rfl⟩;rw [←e];have y:=Zh e;clear e;have HLen:=Zh hlen;clear hlen;have G:=Blk.lt H;have E:sb≠K:=Zh3 hsb H (by decide);have cne:cb≠K:=Zh3 hcb H (by decide);have mne:mb≠K:=Zh3 hmb H (by decide);have vne:vb≠K:=Zh3 hvb H (by decide);have one:ob≠K:=Zh3 hob H (by decide);have HT:=Zh (ZeR.own hown);have HNo:=Zh H.noTy;have HR:=Zh hrl;have HMa:=Zh hma;have HMo':=Zh HMo;have HB:=Zh (And.intro hsb (And.intro hcb (And.intro hmb (And.intro hvb hob))));have f:=Zh (Upd.refl K K W);have u:=Zh H;have g:∀ a,to'=some a→a.block≠K:=fun a ha q=>by exact k78
 have HNe:=Zh g;clear hrl hma HMo g H;have I:=hsb.cell 0 (v:=.int .i64 sel) rfl;have HU1:=f;have HC1:=Zh (show Ck W K h m L S O e0 from by rw [y.out];exact u.out);have A:=hmb.cell 0 (v:=.pointer (some ma)) rfl;have j:=(HMa.out _ f.out).1;have F:=Zh j;clear j A;go_enter Tryz.func306,Tryz.ntmps306
 go_upto_region 3 with fail
 exact k0
theorem Ziy (J:0≤sel) (g:more=1) (hk:(l.getD 0 default).k≠2):
  Calls Tryz.prog 306 #[.slice to' l.length tc,ZQ.p sb,ZQ.p cb,ZQ.p mb,ZQ.p vb,ZQ.p ob] W (ZhZ W K h m L S O fun G R=>G=rl∧R=Ziv m l ps more (11) ps.length):=by
 obtain ⟨e0,e⟩:∃ x:Int,x=11:=⟨_,rfl⟩;rw [←e];have E:=Zh e;clear e;have HLen:=Zh hlen;have M:=Zh g;have V:0<l.length:=by omega
 clear g;clear hlen;have Y:=Blk.lt H;have A:sb≠K:=Zh3 hsb H (by decide);have cne:cb≠K:=Zh3 hcb H (by decide);have mne:mb≠K:=Zh3 hmb H (by decide);have vne:vb≠K:=Zh3 hvb H (by decide);have one:ob≠K:=Zh3 hob H (by decide);have HT:=Zh (ZeR.own hown);have HNo:=Zh H.noTy;have HR:=Zh hrl;have HMa:=Zh hma;have HMo':=Zh HMo;have HB:=Zh (And.intro hsb (And.intro hcb (And.intro hmb (And.intro hvb hob))));have F:=Zh (Upd.refl K K W);have D:=Zh H;have j:∀ a,to'=some a→a.block≠K:=fun a ha q=>by exact k78
 have HNe:=Zh j;clear hrl hma HMo j H;obtain ⟨y,rfl⟩:∃ d:Nat,sel=d:=⟨sel.toNat,by omega⟩;obtain ⟨ta,hto,t0,t1⟩:=ZaA HT.out.1 (i:=0) (by omega);have tne:=HNe.out _ hto;cases hto;rw [Nat.zero_mul,show ta.add 0=ta from by simp [Addr.add]] at t0 t1;obtain ⟨⟨B,N⟩,T⟩:∃ x,x=l.getD 0 default:=⟨_,rfl⟩;rw [←T] at t0 t1 hk;dsimp only at t0 t1 hk;have c0:=hcb.cell 0 (v:=.pointer (some ⟨K,0,none⟩)) rfl;have C:=hsb.cell 0 (v:=.int .i64 y) rfl;have U:(B == 2)=false:=by simpa using hk
 have I:(decide (B=2)&&decide (0≤m.ent N y))=false:=by simp [hk]
 have hS:∀ w',Upd K K W w'→(fun w':World=>w'.cell? ⟨cb,0,none⟩=some (.pointer (some ⟨K,0,none⟩))∧w'.cell? ⟨sb,0,none⟩=some (.int .i64 y)∧w'.cell? ta=some (.int .i64 B)) w':=fun w' hu=>⟨hu.cell c0 cne cne,hu.cell C A A,hu.cell t0 tne tne⟩;have HS:=Zh hS;have X:=Zh I;clear hS c0 C t0 t1 I hk;go_enter Tryz.func306,Tryz.ntmps306;have C:=hsb.cell 0 (v:=.int .i64 y) rfl
 go_upto_region 2 with fail
 clear C;refine rO (fun w':World=>w'.cell? ⟨cb,0,none⟩=some (.pointer (some ⟨K,0,none⟩))∧w'.cell? ⟨sb,0,none⟩=some (.int .i64 y)∧w'.cell? ta=some (.int .i64 B)) (oL [0,1,2,3,4,5,6,7,8,9,10,11,12,13,14,15,16,17,18,19,20,21,22,23,124]) (HS.out _ (Upd.refl K K _).drew) ?_
 repeat refine pO ?_
 refine oO fun Kv hK=>?_;go_simp;refine (ZeW K h m L S O _ _ _ (Ck.drew D.out)).mono ?_;rintro r w3 ⟨⟨Z,rfl⟩,f,u⟩;have HU1:=Zh (F.out.drew.trans u);have HC1:=Zh f;clear f u;refine hK _ _ ⟨HS.out _ HU1.out,?_⟩;clear hK Kv
 repeat refine pO ?_
 refine Zd7 ?_;rw [show ZeV 0 false=e0 from E.out.symm] at HC1;exact k0
theorem Ziz (ap:0≤sel) (U:more=1) (hk:(l.getD 0 default).k=2) (ht:0≤(l.getD 0 default).c∧(l.getD 0 default).c<m.cl.length∧sel.toNat<(m.cl.getD (l.getD 0 default).c.toNat default).m.length):
  Calls Tryz.prog 306 #[.slice to' l.length tc,ZQ.p sb,ZQ.p cb,ZQ.p mb,ZQ.p vb,ZQ.p ob] W (ZhZ W K h m L S O fun aj C=>aj=rl∧C=Ziv m l ps more (ZeV 0 (decide ((l.getD 0 default).k=2)&&decide (0≤m.ent (l.getD 0 default).c sel.toNat))) ps.length):=by
 obtain ⟨e0,j⟩:∃ x:Int,x=ZeV 0 (decide ((l.getD 0 default).k=2)&&decide (0≤m.ent (l.getD 0 default).c sel.toNat)):=⟨_,rfl⟩;rw [←j];have aa:=Zh j;clear j;have HLen:=Zh hlen;have ar:=Zh U;have av:0<l.length:=by omega
 clear U;clear hlen;have kl:=Blk.lt H;have Y:sb≠K:=Zh3 hsb H (by decide);have cne:cb≠K:=Zh3 hcb H (by decide);have mne:mb≠K:=Zh3 hmb H (by decide);have vne:vb≠K:=Zh3 hvb H (by decide);have one:ob≠K:=Zh3 hob H (by decide);have HT:=Zh (ZeR.own hown);have HNo:=Zh H.noTy;have HR:=Zh hrl;have HMa:=Zh hma;have HMo':=Zh HMo;have HB:=Zh (And.intro hsb (And.intro hcb (And.intro hmb (And.intro hvb hob))));have B:=Zh (Upd.refl K K W);have J:=Zh H;have V:∀ a,to'=some a→a.block≠K:=fun a ha q=>by exact k78
 have HNe:=Zh V;clear hrl hma HMo V H;obtain ⟨y,rfl⟩:∃ d:Nat,sel=d:=⟨sel.toNat,by omega⟩;obtain ⟨ta,hto,t0,t1⟩:=ZaA HT.out.1 (i:=0) (by omega);have tne:=HNe.out _ hto;cases hto;rw [Nat.zero_mul,show ta.add 0=ta from by simp [Addr.add]] at t0 t1;obtain ⟨⟨ak,e⟩,hA⟩:∃ x,x=l.getD 0 default:=⟨_,rfl⟩;rw [←hA] at t0 t1 hk ht;dsimp only at t0 t1 hk;have c0:=hcb.cell 0 (v:=.pointer (some ⟨K,0,none⟩)) rfl;have Z:=hsb.cell 0 (v:=.int .i64 y) rfl;obtain rfl:ak=2:=hk;obtain ⟨ag,ah,u⟩:=ht;dsimp only at ag ah u;obtain ⟨e,rfl⟩:∃ d:Nat,e=d:=⟨e.toNat,by omega⟩;have f:e<m.cl.length:=by omega
 rw [Int.toNat_natCast,Int.toNat_natCast] at u;obtain ⟨A,D,-,-,-,-⟩:=(HMo'.out W B.out).cls f;obtain ⟨I,G,-⟩:=ZaC ((HMo'.out W B.out).t e f) u;obtain ⟨M,E⟩:∃ x,x=(m.cl.getD e default).m.getD y 0:=⟨_,rfl⟩;have R:m.ent (e:Int) y=M:=by rw [E];rfl
 have g:∀ w',Upd K K W w'→w'.cell? ⟨(A.add (e*4)).block,(A.add (e*4)).off+3,none⟩=some (.slice (some I) (m.cl.getD e default).m.length (h.c e).mc)∧w'.cell? (I.add y)=some (.int .i64 M):=fun w' hu=>by obtain ⟨ad,h1,-,-,-,h2⟩:=(HMo'.out w' hu).cls f;obtain ⟨nd,h3,h4⟩:=ZaC ((HMo'.out w' hu).t e f) u;rw [D] at h1;cases h1;rw [G] at h3;cases h3;rw [G] at h2;rw [←E] at h4;exact ⟨h2,h4⟩
 have T:∀ w' C,Ck w' K h m L S O C→w'.cell? ⟨K,0,none⟩=some (.slice (some A) m.cl.length h.cc):=fun w' C hc=>by have:=hc.cells.2.1;rwa [D] at this
 obtain ⟨ml,F⟩:∃ x,x=(m.cl.getD e default).m.length:=⟨_,rfl⟩;rw [←F] at u;rw [←F] at g;have aq:(y:Int) < ml:=by omega
 have ab:=Zh (show e0=ZeV 0 (decide (0≤M)) from by rw [aa.out,←hA];show ZeV 0 (decide ((2:Int)=2)&&decide (0≤m.ent (e:Int) ((y:Int).toNat)))=_;rw [Int.toNat_natCast,R];rfl);have hS:∀ w' C,Upd K K W w'→Ck w' K h m L S O C→(fun w':World=>w'.cell? ⟨cb,0,none⟩=some (.pointer (some ⟨K,0,none⟩))∧w'.cell? ⟨sb,0,none⟩=some (.int .i64 y)∧w'.cell? ta=some (.int .i64 2)∧w'.cell? ⟨ta.block,ta.off+1,none⟩=some (.int .i64 e)∧w'.cell? ⟨K,0,none⟩=some (.slice (some A) m.cl.length h.cc)∧w'.cell? ⟨(A.add (e*4)).block,(A.add (e*4)).off+3,none⟩=some (.slice (some I) ml (h.c e).mc)∧w'.cell? (I.add y)=some (.int .i64 M)) w':=fun w' C hu af=>⟨hu.cell c0 cne cne,hu.cell Z Y Y,hu.cell t0 tne tne,hu.cell (p:=⟨ta.block,ta.off+1,none⟩) t1 tne tne,T _ _ af,(g _ hu).1,(g _ hu).2⟩;have HS:=Zh hS;clear hS c0 Z t0 t1 hA g T E R F D G;go_enter Tryz.func306,Tryz.ntmps306;have Z:=hsb.cell 0 (v:=.int .i64 y) rfl
 go_upto_region 2 with fail
 clear Z;refine rO (fun w':World=>w'.cell? ⟨cb,0,none⟩=some (.pointer (some ⟨K,0,none⟩))∧w'.cell? ⟨sb,0,none⟩=some (.int .i64 y)∧w'.cell? ta=some (.int .i64 2)∧w'.cell? ⟨ta.block,ta.off+1,none⟩=some (.int .i64 e)∧w'.cell? ⟨K,0,none⟩=some (.slice (some A) m.cl.length h.cc)∧w'.cell? ⟨(A.add (e*4)).block,(A.add (e*4)).off+3,none⟩=some (.slice (some I) ml (h.c e).mc)∧w'.cell? (I.add y)=some (.int .i64 M)) (oL [0,1,2,3,4,5,6,7,8,9,10,11,12,13,14,15,16,17,18,19,20,21,22,23,124]) (HS.out _ _ (Upd.refl K K _).drew (Ck.drew J.out)) ?_
 repeat refine pO ?_
 refine oO fun Kv hK=>?_;go_simp;refine (ZeW K h m L S O _ _ _ (Ck.drew J.out)).mono ?_;rintro r w3 ⟨⟨v3,rfl⟩,N,X⟩;have HU1:=Zh (B.out.drew.trans X);have HC1:=Zh N;clear N X;refine hK _ _ ⟨HS.out _ _ HU1.out HC1.out,?_⟩;clear hK Kv
 repeat refine pO ?_
 refine Zd7 ?_;rw [←ab.out] at HC1;exact k0
end
end
section
open Go.RowKit
theorem ZiA {m:Md} (j:Za2 m=true) {t u:Ty} (k:Zfk m t) (n:Zfk m u):Zhr m t u=Zev m t u:=by
 unfold Zhr Zev;by_cases h:t.k=2∧u.k=2
 ·rw [if_pos h,if_pos h];obtain ⟨c,e⟩:=ZfH k (.inl h.1);obtain ⟨f,g⟩:=ZfH n (.inl h.2);have o:inV m.cl.length t.c=true:=by simp [inV,c,e]
  have p:inV m.cl.length u.c=true:=by simp [inV,f,g]
  rw [j,o,p];simp
 ·rw [if_neg h,if_neg h]
theorem ZiB (b:Bool):ZeV 0 b=if b then 0 else 11:=by cases b<;>rfl
theorem ZiC (b:Bool):ZeV 11 b=11:=by cases b<;>rfl
theorem ZhZ.imp {W:World}{K:Nat}{h:Hd}{m:Md}{L S O:Value}{P Q:List Ty→Int→Prop}{r:Ending}{w':World} (H:ZhZ W K h m L S O P r w') (hq:∀ out e',P out e'→Q out e'):ZhZ W K h m L S O Q r w':=by obtain ⟨ro,rc,out,e',c,e,f,g,j⟩:=H;exact ⟨ro,rc,out,e',c,e,f,g,hq _ _ j⟩
section
variable {m:Md}{ls:List Ty}{i:In3}{a b d:Ty}
theorem ZiD {n:Nat}{c:Bool}{t:Ty}{e:List Ty}{f:Int} (j:e.length≤1000) (k:c=true→e=List.replicate n t) (g:f=if c then 0 else 11):Zh0 n (if c then some t else none) e f:=by
 cases c
 ·exact ⟨j,g⟩
 ·exact ⟨j,g,k rfl⟩
theorem getD_some {l:List Ty}{n:Nat} (h:n<l.length):l[n]?=some (l.getD n default):=by simp [h]
theorem ZiE (g:Za2 m=true) (e:∀ t∈ls,Zfk m t) (h:i.op=3) (j:0≤i.a) (f:Zfk m a):Zh0 0 (ZeD m ls i [a]) [] (ZeV (ZeV 0 (decide (i.a<ls.length))) (decide (ZeV 0 (decide (i.a<ls.length))=0)&&Zhr m a (ls.getD i.a.toNat default))):=by
 rw [pv3 h];refine ZiD (by simp) (fun _=>rfl) ?_;by_cases hq:i.a<ls.length
 ·have c:i.a.toNat<ls.length:=by omega
  rw [getD_some c,decide_eq_true hq];show ZeV 0 (decide (ZeV 0 true=0)&&_)=if Zev m a _=true then 0 else 11;rw [ZiA g f (e _ (ZfX _ c)),show (decide (ZeV 0 true=0)&&Zev m a (ls.getD i.a.toNat default))=Zev m a (ls.getD i.a.toNat default) from rfl,ZiB]
 ·rw [decide_eq_false hq,List.getElem?_eq_none (by omega)];rfl
theorem ZiF (h:i.op=4):Zh0 0 (ZeD m ls i [a]) [] 0:=by rw [pvx (by omega)];exact ⟨by simp,rfl,rfl⟩
theorem ZiG (h:i.op=5):Zh0 2 (ZeD m ls i [a]) [a,a] 0:=by rw [pv5 h];exact ⟨by simp,rfl,rfl⟩
theorem ZiH (h:i.op=6∨i.op=7∨i.op=8∨i.op=9∨i.op=10∨i.op=11) (c:a=Zew):Zh0 1 (ZeD m ls i [a,b]) [a] (ZeV 0 (decide (b=Zew))):=by rw [pv6 h];subst c;exact k93
theorem ZiI (h:i.op=6∨i.op=7∨i.op=8∨i.op=9∨i.op=10∨i.op=11) (c:a≠Zew):Zh0 1 (ZeD m ls i [a,b]) [a] 11:=by
 rw [pv6 h];have e:(decide ([a,b].getD 0 default=Zew)&&decide ([a,b].getD 1 default=Zew))=false:=by rw [show [a,b].getD 0 default=a from rfl,decide_eq_false c];rfl
 rw [e];exact ⟨by simp,rfl⟩
theorem ZiJ (h:i.op=13):Zh0 1 (ZeD m ls i [a]) [Zew] (ZeV 0 (!decide (a=Zew))):=by rw [Zf0 h];refine ZiD (by simp) (fun _=>rfl) ?_;rw [ZiB];show (if (!decide (a=Zew))=true then (0:Int) else 11)=if decide (a≠Zew)=true then 0 else 11;simp
theorem ZiK (h:i.op=27∨i.op=29):Zh0 0 (ZeD m ls i [a]) [] (ZeV 0 (decide (a=Zew))):=by rw [Zge h];exact k93
theorem ZiL (h:i.op=17):Zh0 1 (ZeD m ls i [a]) [(ZeA m a i.a).getD default] (ZeV 0 (ZeA m a i.a).isSome):=by
 rw [Zf4 h];show Zh0 1 (ZeA m a i.a) _ _;cases ZeA m a i.a with
 | none=>exact ⟨by simp,rfl⟩
 | some t=>exact ⟨by simp,rfl,rfl⟩
theorem ZiM (g:Za2 m=true) (f:Zfk m a) {n:Int}{t:Ty} (h:ZeA m a n=some t):Zfk m t:=by
 unfold ZeA at h;split at h
 ·rename_i q;obtain ⟨c,e⟩:=ZfH f (.inl q);exact ZfN g c e t (List.mem_of_getElem? h)
 ·cases h
theorem ZiN (f:Zfk m a) {t:Ty} (h:ZeB a=some t):Zfk m t:=by
 unfold ZeB at h;split at h
 ·cases h;exact ZfF m
 ·split at h
  ·rename_i q;obtain ⟨c,e⟩:=ZfH f (.inr q);cases h;exact ZfG (.inl rfl) c e
  ·cases h
theorem ZiO (c:Za2 m=true) (e:Zfk m a) (f:Zfk m b) (h:i.op=18):Zh0 0 (ZeD m ls i [a,b]) [] (ZeV (ZeV 0 (ZeA m a i.a).isSome) (decide (ZeV 0 (ZeA m a i.a).isSome=0)&&Zhr m b ((ZeA m a i.a).getD default))):=by
 rw [Zf5 h];refine ZiD (by simp) (fun _=>rfl) ?_;show _=if ZeC m b (ZeA m a i.a)=true then 0 else 11;cases hf:ZeA m a i.a with
 | none=>rfl
 | some t=>
  show ZeV 0 (Zhr m b t)=if Zev m b t=true then 0 else 11;rw [ZiA c f (ZiM c e hf),ZiB]
theorem ZiP (h:i.op=19):Zh0 1 (ZeD m ls i [a,b]) [(ZeB a).getD default] (ZeV (ZeV 0 (decide (b=Zew))) (ZeB a).isSome):=by
 rw [Zf6 h];show Zh0 1 (if b=Zew then ZeB a else none) _ _;by_cases hb:b=Zew
 ·rw [if_pos hb,decide_eq_true hb];cases ZeB a with
  | none=>exact ⟨by simp,rfl⟩
  | some t=>exact ⟨by simp,rfl,rfl⟩
 ·rw [if_neg hb,decide_eq_false hb];exact ⟨by simp,ZiC _⟩
theorem ZiQ (f:Za2 m=true) (c:Zfk m a) (e:Zfk m d) (h:i.op=20):Zh0 0 (ZeD m ls i [a,b,d]) [] (ZeV (ZeV (ZeV 0 (decide (b=Zew))) (ZeB a).isSome) (decide (ZeV (ZeV 0 (decide (b=Zew))) (ZeB a).isSome=0)&&Zhr m d ((ZeB a).getD default))):=by
 rw [Zf7 h];refine ZiD (by simp) (fun _=>rfl) ?_;show _=if (decide (b=Zew)&&ZeC m d (ZeB a))=true then 0 else 11;by_cases hb:b=Zew
 ·rw [decide_eq_true hb];cases he:ZeB a with
  | none=>rfl
  | some t=>
   show ZeV 0 (Zhr m d t)=if Zev m d t=true then 0 else 11;rw [ZiA f e (ZiN c he),ZiB]
 ·rw [decide_eq_false hb,show ZeV 0 false=11 from rfl,ZiC,ZiC];rfl
theorem ZiR (h:i.op=21):Zh0 1 (ZeD m ls i [a]) [Zew] (ZeV 0 (ZeB a).isSome):=by rw [Zf8 h];exact k93
theorem ZiS (c:Za2 m=true) (e:Zfk m a) (h:i.op=23) (f:0≤i.a) (g:i.a<m.st.length):Zh0 0 (ZeD m ls i [a]) [] (ZeV 0 (Zhr m a (m.st.getD i.a.toNat default))):=by rw [Zga h];refine ZiD (by simp) (fun _=>rfl) ?_;rw [ZiA c e (ZfO c _ (ZfX _ (by omega))),ZiB];rfl
theorem ZiT (f:Za2 m=true) (e:Zfk m a) (h:i.op=24) (j:0≤i.a) (k:i.a<m.cl.length) {c:Int} (n:c=if a.k=2 then (if Zhr m a ⟨2,i.a⟩=true then 0 else ZeV 0 (Zhr m ⟨2,i.a⟩ a)) else 11):Zh0 1 (ZeD m ls i [a]) [⟨2,i.a⟩] c:=by
 rw [Zgb h];refine ZiD (by simp) (fun _=>rfl) ?_;subst n;show _=if (decide (a.k=2)&&(Zev m a ⟨2,i.a⟩||Zev m ⟨2,i.a⟩ a))=true then 0 else 11;have g:Zfk m ⟨2,i.a⟩:=ZfG (.inl rfl) j k;rw [ZiA f e g,ZiA f g e,ZiB];by_cases hk:a.k=2
 ·rw [if_pos hk,decide_eq_true hk];cases Zev m a ⟨2,i.a⟩<;>cases Zev m ⟨2,i.a⟩ a<;>rfl
 ·rw [if_neg hk,decide_eq_false hk];rfl
theorem ZiU (e:0≤i.b) (h:i.op=30) (c:a=Zew):Zh0 0 (ZeD m ls i [a]) [] (ZeV (ZeV 0 (decide (i.b<ls.length))) (decide (ls.getD i.b.toNat default=Zew))):=by
 rw [Zgf h];refine ZiD (by simp) (fun _=>rfl) ?_;subst c;show _=if (decide (Zew=Zew)&&decide (ls[i.b.toNat]?=some Zew))=true then 0 else 11;rw [decide_eq_true rfl,Bool.true_and];by_cases hq:i.b<ls.length
 ·rw [getD_some (by omega),decide_eq_true hq,show ZeV 0 true=0 from rfl,ZiB];simp
 ·rw [decide_eq_false hq,List.getElem?_eq_none (by omega),show ZeV 0 false=11 from rfl,ZiC];rfl
theorem ZiV (h:i.op=30) (c:a≠Zew):Zh0 0 (ZeD m ls i [a]) [] 11:=by
 rw [Zgf h];have e:(decide ([a].getD 0 default=Zew)&&decide (ls[i.b.toNat]?=some Zew))=false:=by rw [show [a].getD 0 default=a from rfl,decide_eq_false c];rfl
 rw [e];exact ⟨by simp,rfl⟩
theorem ZiW (r:Ty):ZhB r=List.replicate (if r.k=0 then 0 else 1) r:=by
 unfold ZhB;split<;>rfl
theorem ZiX (r:Ty):(ZhB r).length≤1:=by unfold ZhB;split<;>simp
theorem ZiY {n:Nat}{p q:Nat→Bool} (h:∀ k,k<n→p k=q k):(List.range n).all p=(List.range n).all q:=by apply Bool.eq_iff_iff.2;rw [ZaF,ZaF];exact ⟨fun e k c=>(h k c)▸e k c,fun e k c=>(h k c).symm▸e k c⟩
theorem ZiZ (f:Za2 m=true) (h:i.op=25) {x:Mth} (j:x=m.me.getD i.a.toNat default) {l:List Ty} (hlen:l.length=x.p.length) (e:∀ t∈l,Zfk m t) (g:∀ t∈x.p,Zfk m t) :
  Zh0 (if x.r.k=0 then 0 else 1) (ZeD m ls i l) (ZhB x.r) (Ziv m l x.p 0 0 x.p.length):=by
 rw [Zgc h,←j];refine ZiD (by have:=ZiX x.r;omega) (fun _=>ZiW _) ?_;rw [Ziw _ _ _ _ _ (.inl rfl)];rw [ZiY (q:=fun k=>Zev m (l.getD k default) (x.p.getD k default)) (fun k c=>by rw [Nat.zero_add];exact ZiA f (e _ (ZfX _ (by omega))) (g _ (ZfX _ c)))];cases (List.range x.p.length).all fun k=>Zev m (l.getD k default) (x.p.getD k default)<;>rfl
theorem Zi0 (j:Za2 m=true) (h:i.op=26) {x:Mth} (o:Zey m i=some x) {l:List Ty} (hlen:l.length=1+x.p.length) (g:∀ t∈l,Zfk m t) (n:∀ t∈x.p,Zfk m t) {e0:Int}
  (e:e0=if (decide ((l.getD 0 default).k=2)&&decide (0≤m.ent (l.getD 0 default).c i.a.toNat))=true then 0 else 11) :
  Zh0 (if x.r.k=0 then 0 else 1) (ZeD m ls i l) (ZhB x.r) (Ziv m l x.p 1 e0 x.p.length):=by
 rw [Zgd h,o];dsimp only;refine ZiD (by have:=ZiX x.r;omega) (fun _=>ZiW _) ?_;generalize (decide ((l.getD 0 default).k=2)&&decide (0≤m.ent (l.getD 0 default).c i.a.toNat))=c at e ⊢;rw [Ziw _ _ _ _ _ (by subst e;split<;>simp)];rw [ZiY (q:=fun k=>Zev m (l.getD (k+1) default) (x.p.getD k default)) (fun k f=>by rw [Nat.add_comm];exact ZiA j (g _ (ZfX _ (by omega))) (n _ (ZfX _ f)))];subst e;cases c<;>cases (List.range x.p.length).all fun k=>Zev m (l.getD (k+1) default) (x.p.getD k default)<;>rfl
end
section
variable {w0 w:World}{K:Nat}{h:Hd}{m:Md}{lo:Option Addr}{lc:Nat}{ls:List Ty}{s:Ps}{so:Option Addr}{sc:Nat}{oo:Option Addr}{oc:Nat}{bs:List VB}{i:In3}
theorem St.old {w':World} (H:St w0 w K h m lo lc ls s so sc oo oc bs) (hb:Below w.heap.size w w'):St w0 w' K h m lo lc ls s so sc oo oc bs:=
 H.next (Upd.of hb) (H.ck.old hb) (H.ts.upd (Upd.of (K:=K) (B:=K) hb) H.ck.noTy H.ck.noTy)
theorem ZhV.bel {w1:World}{q:Int × List Ty}{r:Ending}{w':World} (H:ZhV w1 K h m lo lc ls oo oc bs q r w') (hb:Below w.heap.size w w1):ZhV w K h m lo lc ls oo oc bs q r w':=
 ⟨H.1,(Upd.of hb).trans H.2.1,H.2.2⟩
theorem one_of {l:List Ty} (h:l.length=1):∃ a,l=[a]:=by
 cases l with
 | nil=>cases h
 | cons a r=>cases r with
  | nil=>exact ⟨a,rfl⟩
  | cons b r=>simp at h
theorem Zi1 {l:List Ty} (h:l.length=2):∃ a b,l=[a,b]:=by
 cases l with
 | nil=>cases h
 | cons a r=>
  obtain ⟨b,rfl⟩:=one_of (l:=r) (by simpa using h);exact ⟨a,b,rfl⟩
theorem Zi2 {l:List Ty} (h:l.length=3):∃ a b c,l=[a,b,c]:=by
 cases l with
 | nil=>cases h
 | cons a r=>
  obtain ⟨b,c,rfl⟩:=Zi1 (l:=r) (by simpa using h);exact ⟨a,b,c,rfl⟩
end
end
section
open Go.RowKit
theorem Zi3:El Tryz.prog 164 232 4 64:=El.mk' (z:=.agg #[.int .i64 0,.slice none 0 0,.slice none 0 0,.bool false]) Tryz.underlying164 (by kernel_rfl) (by kernel_rfl) (by decide)
theorem Upd.grown {K B:Nat}{a b c:World}{row:Option Nat} (h:Upd K B a b) (hg:b.grownBy c row) (hr:∀ k,row=some k→k=B∨a.heap.size≤k):Upd K B a c:=
 ⟨hg.os.trans h.os,hg.tape.trans h.tape,hg.output.trans h.output,Nat.le_trans h.size hg.size,fun k f g j=>(hg.block k (Nat.lt_of_lt_of_le f h.size) (fun e=>by rcases hr k e.symm with q|q<;>omega)).trans (h.block k f g j)⟩
def vbL (op:Int) (bo:Option Addr) (n bc:Nat):List Value:=[.int .i64 op,.slice bo n bc,.slice none 0 0,.bool false]
theorem Zi4 (K:Nat) (oo:Option Addr) (n c:Nat):∀ k,(Value.slice oo n c).ownBlock=some k→k=ZhL K oo:=by
 intro k e;cases oo with
 | none=>cases e
 | some a=>cases e;rfl
section
variable {w0 w:World}{K:Nat}{h:Hd}{m:Md}{lo:Option Addr}{lc:Nat}{ls:List Ty}{s:Ps}{so:Option Addr}{sc:Nat}{oo:Option Addr}{oc:Nat}{bs:List VB}{i:In3}
include w0 w K h m lo lc ls s so sc oo oc bs i
theorem Zi5 (H:St w0 w K h m lo lc ls s so sc oo oc bs) (E:i.op≠34) (F:i.op≠35) (G:ZaS i.op=true) {w1 w2 w4:World} {t:Option Addr} {r:Nat} {st:List Ty} (Q:Upd K K w w1) (A:Ck w1 K h m (.slice lo ls.length lc) (.slice t st.length r) (.slice oo bs.length oc) (ZhS m ls i s).1) (P:ZeR w1 t r st) (J:(ZhS m ls i s).1=0→st=(ZhS m ls i s).2) (x:Below w1.heap.size w1 w2) {bo:Option Addr} {bc:Nat} (hcl:ZeR w2 bo bc st) {o:Option Addr} {f:Nat} (hown4:w4.ownsRow w0.heap.size 232 4 (.slice o (bs.length+1) f) (bs.length+1) (Zal bs++vbL i.op bo st.length bc)) (hg4:w2.grownBy w4 (Value.slice oo bs.length oc).ownBlock) (v:Value):
  ZhX w0 w K h m lo lc ls oo (ZeE m ls i s) (.returned v) (w4.setCell ⟨K,6,none⟩ (.slice o (bs.length+1) f)):=by
 have y:Upd K K w w2:=Q.bel x;have z:=H.op.upd y H.ck.noTy H.ne;have hc2:=A.old x;have hno2:=z.noTy hc2.noTy;have hneK:K≠ZhL K oo∨oo=none:=by
  cases oo with
  | none=>exact .inr rfl
  | some a=>exact .inl (fun q=>H.ne a rfl q.symm)
 have hu4:Upd K (ZhL K oo) w2 w4:=(Upd.refl K (ZhL K oo) w2).grown hg4 (fun k N=>.inl (Zi4 K oo _ _ k N));have hKw:K<w2.heap.size:=Blk.lt hc2;have hc4:Ck w4 K h m (.slice lo ls.length lc) (.slice t st.length r) (.slice oo bs.length oc) (ZhS m ls i s).1:=by unfold Ck Blk;exact k79
 have hu5:Upd K (ZhL K oo) w4 (w4.setCell ⟨K,6,none⟩ (.slice o (bs.length+1) f)):=(Upd.refl K _ w4).set 6 _;have n:Upd K (ZhL K oo) w (w4.setCell ⟨K,6,none⟩ (.slice o (bs.length+1) f)):=(y.more.trans hu4).trans hu5;have u:=H.op.noTy H.ck.noTy;have I:w0.heap.size≤ZhL K oo:=by exact k50
 refine ⟨⟨v,rfl⟩,n,?_⟩;rw [ZhT E F,G];by_cases h0:(ZhS m ls i s).1=0
 ·refine .inl ⟨h0,t,r,o,f,bs++[⟨i.op,bo,st.length,bc,none,0,0,false⟩],?_⟩;simp only [if_pos h0,if_true];have D:=J h0;rw [←D];have hlen:(bs++[(⟨i.op,bo,st.length,bc,none,0,0,false⟩:VB)]).length=bs.length+1:=by simp
  refine ⟨?_,?_,⟨?_,by simp [H.op.len],fun j M=>?_⟩,H.tl.upd n H.ck.noTy u,n.below H.hb (Nat.le_refl _) H.hK I,H.hK⟩
  ·rw [hlen];rw [h0] at hc4;exact hc4.setO _
  ·exact (P.upd (Upd.of (K:=K) (B:=K) x) A.noTy A.noTy).upd (hu4.trans hu5) hc2.noTy hno2
  ·exact k54
  ·rw [hlen] at M;by_cases hjl:j<bs.length
   ·have hb:=H.op.at_ j hjl;have C:j<s.opn.length:=by rw [←H.op.len];exact hjl
    rw [show (bs++[(⟨i.op,bo,st.length,bc,none,0,0,false⟩:VB)]).getD j default=bs.getD j default by simp [List.getElem?_append_left hjl],show (s.opn++[(⟨i.op,st,[],false⟩:Opn)]).getD j default=s.opn.getD j default by simp [List.getElem?_append_left C]];exact hb.upd n H.ck.noTy u
   ·exact k36
 ·exact .inr ⟨h0,_,_,hc4.setO _⟩
theorem Zi6 {k:Nat} (hm:Za2 m=true) (aw:∀ t∈ls,Zfk m t) (HW:Zfl m s.stk) (H:St w0 w K h m lo lc ls s so sc oo oc bs) (Hj:Zaz w0 h m) (hd:s.opn.length≤6) (hi:ZfU m k i) (hb:Zex s.opn≤s.stk.length) (ah:i.op=29):
  Calls Tryz.prog 128 #[ZQ.p K,ZI.i i] w (ZhX w0 w K h m lo lc ls oo (ZeE m ls i s)):=by
 obtain ⟨op,ia,ib⟩:=i;dsimp only at ah;subst ah;have J:Below w.heap.size w ((w.alloc (.cells #[ZQ.p K] 163)).alloc (.cells #[.int .i64 29,.int .i64 ia,.int .i64 ib] 72)):=by exact bE
 have N:=(Blk.new w #[ZQ.p K] 163).alloc (.cells #[.int .i64 29,.int .i64 ia,.int .i64 ib] 72);have M:Blk ((w.alloc (.cells #[ZQ.p K] 163)).alloc (.cells #[.int .i64 29,.int .i64 ia,.int .i64 ib] 72)) (w.heap.size+1) #[.int .i64 29,.int .i64 ia,.int .i64 ib] 72:=Blk.new' (w:=w.alloc (.cells #[ZQ.p K] 163)) _ _ (by simp);have kl:=Blk.lt H.ck;have C:=H.old J;have aM:=HW.1;have HD:=Zh (Zh1 (i:=⟨29,ia,ib⟩) HW C hd 1 0 186 #[.pointer (some ⟨w.heap.size,0,none⟩)] (Zgh (by simp)) (by decide) (by decide) (fun _ _=>rfl) (fun l hl av w1 to' tc hu au hown=>by
  obtain ⟨a,rfl⟩:=one_of hl;have ha:=HW.2 a (List.mem_of_mem_drop (by rw [av];simp));have aE:∀ w',Upd K K w1 w'→Zaz w' h m:=fun w' ax=>Hj.old ((hu.trans ax).below C.hb (Nat.le_refl _) C.hK C.hK);have ay:=Blk.upd N hu (by omega) (by omega);have aI:=Blk.upd M hu (by omega) (by omega);have hT:=C.tl.upd hu C.ck.noTy C.ck.noTy;refine (Zh7 K h m _ _ _ a 0 0 0 to' tc _ w.heap.size 0 w1 au ay hown).mono ?_;exact fun r F hp=>hp.imp fun aN e' hq=>by obtain ⟨h1,h2⟩:=hq;rw [h1,h2];exact ZiK (.inr rfl)))
 have HB1:=Zh J;have HH:=Zh H;have aB:=Zh C;have V:=Zh (And.intro N M);clear J N M C H Hj aw HW hi hm hb;go_enter Tryz.func128,Tryz.ntmps128
 go_upto_region 6 with (go_at_call 185;refine HD.out.mono ?_;rintro r w1 ⟨⟨v,rfl⟩,aj,E,D,A,ac,ai,ag,ae⟩;have I:=Zh aj;have HC1:=Zh ac;have aa:=Zh ai;have ao:=Zh ag;have an:=Zh ae;clear aj ac ai ag ae)
 have G:=Zh ((Upd.of (K:=K) (B:=K) HB1.out).trans I.out);have HB:=Zh (And.intro (V.out.1.upd I.out (by omega) (by omega)) (V.out.2.upd I.out (by omega) (by omega)));have HO1:=Zh (HH.out.op.upd G.out HH.out.ck.noTy HH.out.ne);have hS:∀ w',w1.heap.size≤w'.heap.size→(∀ k,k<w1.heap.size→some k≠(Value.slice oo bs.length oc).ownBlock→w'.heap[k]?=w1.heap[k]?)→(fun w':World=>w'.cell? ⟨w.heap.size,0,none⟩=some (.pointer (some ⟨K,0,none⟩))∧w'.cell? ⟨w.heap.size+1,0,none⟩=some (.int .i64 29)∧w'.cell? ⟨K,6,none⟩=some (.slice oo bs.length oc)∧w'.cell? ⟨K,5,none⟩=some (.slice E A.length D)) w':=fun w' hz hk=>by exact k3
 have HS:=Zh hS;clear hS;have Y:=Zh (show ∀ w',Below w1.heap.size w1 w'→Calls Tryz.prog 126 #[.slice E A.length D] w' (Zfi 38 w' A) from fun w' ar=>ZhE w' E D A (aa.out.1.old ar) (by have:=ao.out;omega));have aF:bs.length≤6:=by have:=HH.out.op.len;omega
 go_wp2_with fail
 refine rE (fun w':World=>w'.cell? ⟨w.heap.size,0,none⟩=some (.pointer (some ⟨K,0,none⟩))∧w'.cell? ⟨w.heap.size+1,0,none⟩=some (.int .i64 29)∧w'.cell? ⟨K,6,none⟩=some (.slice oo bs.length oc)∧w'.cell? ⟨K,5,none⟩=some (.slice E A.length D)) 17 (oL [0,1,2,3,4,5,6,7,8,9,10,111,12,113,114,115,116]) (HS.out _ (Nat.le_refl _) (fun _ _ _=>rfl)) ?_;have HB2:=Zh (show Below w1.heap.size w1 w1.drew by exact bE)
 repeat refine pE ?_
 refine oE fun Kv hK=>?_;go_simp;refine (Y.out _ HB2.out).mono ?_;rintro r F ⟨⟨U,T,rfl,y⟩,ab⟩;have HB3:=Zh (Zag HB2.out ab);have X:=Zh (ZeR.own y);refine hK _ _ ⟨HS.out _ HB3.out.size (fun k hk _=>HB3.out.block k hk),?_⟩;clear hK Kv ab y
 repeat refine pE ?_
 refine oE fun Kv hK=>?_;go_simp;have HB4:=Zh (show Below w1.heap.size w1 (F.alloc (.cells #[.int .i64 29,.slice U A.length T,.slice none 0 0,.bool false] 232)) from bal HB3.out _);refine hK _ _ ⟨HS.out _ HB4.out.size (fun k hk _=>HB4.out.block k hk),?_⟩;clear hK Kv
 repeat refine pE ?_
 have aq:=Zh (show (F.alloc (.cells #[.int .i64 29,.slice U A.length T,.slice none 0 0,.bool false] 232)).ownsRow w0.heap.size 232 4 (.slice oo bs.length oc) bs.length (Zal bs) from ZhM HO1.out.own fun k hk=>HB4.out.block k (HO1.out.own.lt k hk).2);have HX:=Zh (ZdN (n:=1) (size:=4) (Blk.new F #[.int .i64 29,.slice U A.length T,.slice none 0 0,.bool false] 232) rfl);have HZ:=Zh (show w0.heap.size≤(F.alloc (.cells #[.int .i64 29,.slice U A.length T,.slice none 0 0,.bool false] 232)).heap.size from by have:=HH.out.hb.size;have:=G.out.size;have:=HB4.out.size;omega);refine oE fun Kv hK=>?_;refine Zel (.tmp 20) (.tmp 29) 164 rfl w0.heap.size 232 4 64 Zi3 _ bs.length _ rfl aq.out _ 1 1 (vbL 29 U A.length T) rfl HX.out (by intro u hu;simp only [vbL,List.mem_cons,List.not_mem_nil,or_false] at hu;rcases hu with rfl|rfl|rfl|rfl<;>rfl) (by omega) (by unfold maxLen;omega) HZ.out ?_;intro ao2 cap2 w4 z af;have ap:=Zh z;have HG4:=Zh af;have R:=HG4.out.size;refine hK _ _ ⟨HS.out _ (Nat.le_trans HB4.out.size R) (fun k hk f=>(HG4.out.block k (Nat.lt_of_lt_of_le hk HB4.out.size) f).trans (HB4.out.block k hk)),?_⟩;clear hK Kv z af;have Z:=Zh (HS.out w4 (Nat.le_trans HB4.out.size R) (fun k hk f=>(HG4.out.block k (Nat.lt_of_lt_of_le hk HB4.out.size) f).trans (HB4.out.block k hk)));refine oE fun Kv hK=>?_;go_simp;refine hK _ _ ⟨Z.out,?_⟩;clear hK Kv;refine oE fun Kv hK=>?_;go_simp;refine hK _ _ ⟨Z.out,?_⟩;clear hK Kv
 have k6:w4.cell? ⟨K,6,none⟩=some (.slice oo bs.length oc):=(HS.out w4 (Nat.le_trans HB4.out.size R) (fun k hk f=>(HG4.out.block k (Nat.lt_of_lt_of_le hk HB4.out.size) f).trans (HB4.out.block k hk))).2.2.1;have f6:w4.frozen? ⟨K,6,none⟩=false:=by exact k10
 refine sE fun Kv hK=>?_;go_simp;refine hK _ _ ?_;clear hK Kv;go_wp2;go_end0;exact Zi5 HH.out (by simp) (by simp) (by rfl) G.out HC1.out aa.out an.out HB4.out (X.out.upd (Upd.of (K:=K) (B:=K) (show Below F.heap.size F (F.alloc (.cells #[.int .i64 29,.slice U A.length T,.slice none 0 0,.bool false] 232)) by exact bE)) (HC1.out.old HB3.out).noTy (HC1.out.old HB3.out).noTy) ap.out HG4.out _
theorem Zi7 {k:Nat} (hm:Za2 m=true) (aA:∀ t∈ls,Zfk m t) (HW:Zfl m s.stk) (H:St w0 w K h m lo lc ls s so sc oo oc bs) (Hj:Zaz w0 h m) (hd:s.opn.length≤6) (hi:ZfU m k i) (hb:Zex s.opn≤s.stk.length) (al:i.op=30):
  Calls Tryz.prog 128 #[ZQ.p K,ZI.i i] w (ZhX w0 w K h m lo lc ls oo (ZeE m ls i s)):=by
 obtain ⟨op,T,U⟩:=i;dsimp only at al;subst al;have J:Below w.heap.size w ((w.alloc (.cells #[ZQ.p K] 163)).alloc (.cells #[.int .i64 30,.int .i64 T,.int .i64 U] 72)):=by exact bE
 have N:=(Blk.new w #[ZQ.p K] 163).alloc (.cells #[.int .i64 30,.int .i64 T,.int .i64 U] 72);have M:Blk ((w.alloc (.cells #[ZQ.p K] 163)).alloc (.cells #[.int .i64 30,.int .i64 T,.int .i64 U] 72)) (w.heap.size+1) #[.int .i64 30,.int .i64 T,.int .i64 U] 72:=Blk.new' (w:=w.alloc (.cells #[ZQ.p K] 163)) _ _ (by simp);have kl:=Blk.lt H.ck;have C:=H.old J;have aO:=HW.1;have HD:=Zh (Zh1 (i:=⟨30,T,U⟩) HW C hd 1 0 189 #[.pointer (some ⟨w.heap.size,0,none⟩),.pointer (some ⟨w.heap.size+1,0,none⟩)] (Zgh (by simp)) (by decide) (by decide) (fun _ _=>rfl) (fun l hl ay w1 to' tc hu ag hown=>by
  obtain ⟨a,rfl⟩:=one_of hl;have ha:=HW.2 a (List.mem_of_mem_drop (by rw [ay];simp));have aI:∀ w',Upd K K w1 w'→Zaz w' h m:=fun w' aC=>Hj.old ((hu.trans aC).below C.hb (Nat.le_refl _) C.hK C.hK);have ao:=Blk.upd N hu (by omega) (by omega);have aj:=Blk.upd M hu (by omega) (by omega);have hT:=C.tl.upd hu C.ck.noTy C.ck.noTy;by_cases hA:a=Zew
  ·refine (Zii K h m _ _ _ a 30 T U to' tc _ w.heap.size (w.heap.size+1) w1 ag ao aj hown lo lc ls rfl hT hi.b0 hA).mono ?_;exact fun r F hp=>hp.imp fun aD e' hq=>by obtain ⟨h1,h2⟩:=hq;rw [h1,h2];exact ZiU hi.b0 rfl hA
  ·refine (Zij K h m _ _ _ a 30 T U to' tc _ w.heap.size (w.heap.size+1) w1 ag ao aj hown hA).mono ?_;exact fun r F hp=>hp.imp fun aD e' hq=>by obtain ⟨h1,h2⟩:=hq;rw [h1,h2];exact ZiV rfl hA))
 have HB1:=Zh J;have HH:=Zh H;have aG:=Zh C;have Y:=Zh (And.intro N M);clear J N M C H Hj aA HW hi hm hb;go_enter Tryz.func128,Tryz.ntmps128
 go_upto_region 6 with (go_at_call 185;refine HD.out.mono ?_;rintro r w1 ⟨⟨v,rfl⟩,an,E,D,A,af,am,ak,ah⟩;have I:=Zh an;have HC1:=Zh af;have ac:=Zh am;have ar:=Zh ak;have aq:=Zh ah;clear an af am ak ah)
 have G:=Zh ((Upd.of (K:=K) (B:=K) HB1.out).trans I.out);have HB:=Zh (And.intro (Y.out.1.upd I.out (by omega) (by omega)) (Y.out.2.upd I.out (by omega) (by omega)));have HO1:=Zh (HH.out.op.upd G.out HH.out.ck.noTy HH.out.ne);have hS:∀ w',w1.heap.size≤w'.heap.size→(∀ k,k<w1.heap.size→some k≠(Value.slice oo bs.length oc).ownBlock→w'.heap[k]?=w1.heap[k]?)→(fun w':World=>w'.cell? ⟨w.heap.size,0,none⟩=some (.pointer (some ⟨K,0,none⟩))∧w'.cell? ⟨w.heap.size+1,0,none⟩=some (.int .i64 30)∧w'.cell? ⟨K,6,none⟩=some (.slice oo bs.length oc)∧w'.cell? ⟨K,5,none⟩=some (.slice E A.length D)) w':=fun w' hz hk=>by exact k3
 have HS:=Zh hS;clear hS;have aa:=Zh (show ∀ w',Below w1.heap.size w1 w'→Calls Tryz.prog 126 #[.slice E A.length D] w' (Zfi 38 w' A) from fun w' ax=>ZhE w' E D A (ac.out.1.old ax) (by have:=ar.out;omega));have aK:bs.length≤6:=by have:=HH.out.op.len;omega
 go_wp2_with fail
 refine rE (fun w':World=>w'.cell? ⟨w.heap.size,0,none⟩=some (.pointer (some ⟨K,0,none⟩))∧w'.cell? ⟨w.heap.size+1,0,none⟩=some (.int .i64 30)∧w'.cell? ⟨K,6,none⟩=some (.slice oo bs.length oc)∧w'.cell? ⟨K,5,none⟩=some (.slice E A.length D)) 17 (oL [0,1,2,3,4,5,6,7,8,9,10,111,12,113,114,115,116]) (HS.out _ (Nat.le_refl _) (fun _ _ _=>rfl)) ?_;have HB2:=Zh (show Below w1.heap.size w1 w1.drew by exact bE)
 repeat refine pE ?_
 refine oE fun Kv hK=>?_;go_simp;refine (aa.out _ HB2.out).mono ?_;rintro r F ⟨⟨X,V,rfl,y⟩,ae⟩;have HB3:=Zh (Zag HB2.out ae);have Z:=Zh (ZeR.own y);refine hK _ _ ⟨HS.out _ HB3.out.size (fun k hk _=>HB3.out.block k hk),?_⟩;clear hK Kv ae y
 repeat refine pE ?_
 refine oE fun Kv hK=>?_;go_simp;have HB4:=Zh (show Below w1.heap.size w1 (F.alloc (.cells #[.int .i64 30,.slice X A.length V,.slice none 0 0,.bool false] 232)) from bal HB3.out _);refine hK _ _ ⟨HS.out _ HB4.out.size (fun k hk _=>HB4.out.block k hk),?_⟩;clear hK Kv
 repeat refine pE ?_
 have av:=Zh (show (F.alloc (.cells #[.int .i64 30,.slice X A.length V,.slice none 0 0,.bool false] 232)).ownsRow w0.heap.size 232 4 (.slice oo bs.length oc) bs.length (Zal bs) from ZhM HO1.out.own fun k hk=>HB4.out.block k (HO1.out.own.lt k hk).2);have HX:=Zh (ZdN (n:=1) (size:=4) (Blk.new F #[.int .i64 30,.slice X A.length V,.slice none 0 0,.bool false] 232) rfl);have HZ:=Zh (show w0.heap.size≤(F.alloc (.cells #[.int .i64 30,.slice X A.length V,.slice none 0 0,.bool false] 232)).heap.size from by have:=HH.out.hb.size;have:=G.out.size;have:=HB4.out.size;omega);refine oE fun Kv hK=>?_;refine Zel (.tmp 20) (.tmp 29) 164 rfl w0.heap.size 232 4 64 Zi3 _ bs.length _ rfl av.out _ 1 1 (vbL 30 X A.length V) rfl HX.out (by intro u hu;simp only [vbL,List.mem_cons,List.not_mem_nil,or_false] at hu;rcases hu with rfl|rfl|rfl|rfl<;>rfl) (by omega) (by unfold maxLen;omega) HZ.out ?_;intro ao2 cap2 w4 z ai;have au:=Zh z;have HG4:=Zh ai;have R:=HG4.out.size;refine hK _ _ ⟨HS.out _ (Nat.le_trans HB4.out.size R) (fun k hk f=>(HG4.out.block k (Nat.lt_of_lt_of_le hk HB4.out.size) f).trans (HB4.out.block k hk)),?_⟩;clear hK Kv z ai;have ab:=Zh (HS.out w4 (Nat.le_trans HB4.out.size R) (fun k hk f=>(HG4.out.block k (Nat.lt_of_lt_of_le hk HB4.out.size) f).trans (HB4.out.block k hk)));refine oE fun Kv hK=>?_;go_simp;refine hK _ _ ⟨ab.out,?_⟩;clear hK Kv;refine oE fun Kv hK=>?_;go_simp;refine hK _ _ ⟨ab.out,?_⟩;clear hK Kv
 have k6:w4.cell? ⟨K,6,none⟩=some (.slice oo bs.length oc):=(HS.out w4 (Nat.le_trans HB4.out.size R) (fun k hk f=>(HG4.out.block k (Nat.lt_of_lt_of_le hk HB4.out.size) f).trans (HB4.out.block k hk))).2.2.1;have f6:w4.frozen? ⟨K,6,none⟩=false:=by exact k10
 refine sE fun Kv hK=>?_;go_simp;refine hK _ _ ?_;clear hK Kv;go_wp2;go_end0;exact Zi5 HH.out (by simp) (by simp) (by rfl) G.out HC1.out ac.out aq.out HB4.out (Z.out.upd (Upd.of (K:=K) (B:=K) (show Below F.heap.size F (F.alloc (.cells #[.int .i64 30,.slice X A.length V,.slice none 0 0,.bool false] 232)) by exact bE)) (HC1.out.old HB3.out).noTy (HC1.out.old HB3.out).noTy) au.out HG4.out _
theorem Zi8 {k:Nat} (hm:Za2 m=true) (ar:∀ t∈ls,Zfk m t) (HW:Zfl m s.stk) (H:St w0 w K h m lo lc ls s so sc oo oc bs) (Hj:Zaz w0 h m) (hd:s.opn.length≤6) (hi:ZfU m k i) (hb:Zex s.opn≤s.stk.length) (ak:i.op=31):
  Calls Tryz.prog 128 #[ZQ.p K,ZI.i i] w (ZhX w0 w K h m lo lc ls oo (ZeE m ls i s)):=by
 obtain ⟨op,F,G⟩:=i;dsimp only at ak;subst ak;have M:Below w.heap.size w ((w.alloc (.cells #[ZQ.p K] 163)).alloc (.cells #[.int .i64 31,.int .i64 F,.int .i64 G] 72)):=by exact bE
 have ah:=(Blk.new w #[ZQ.p K] 163).alloc (.cells #[.int .i64 31,.int .i64 F,.int .i64 G] 72);have ag:Blk ((w.alloc (.cells #[ZQ.p K] 163)).alloc (.cells #[.int .i64 31,.int .i64 F,.int .i64 G] 72)) (w.heap.size+1) #[.int .i64 31,.int .i64 F,.int .i64 G] 72:=Blk.new' (w:=w.alloc (.cells #[ZQ.p K] 163)) _ _ (by simp);have kl:=Blk.lt H.ck;have H1:=H.old M;have aB:=HW.1;have aj:ZhS m ls ⟨31,F,G⟩ s=(0,s.stk):=by exact k71
 have HB1:=Zh M;have HH:=Zh H;have I:=Zh H1;have Y:=Zh (And.intro ah ag);have ab:=Zh aj;clear aj;clear M ah ag H1 H Hj ar HW hi hm hb;go_enter Tryz.func128,Tryz.ntmps128
 go_upto_region 6 with fail
 obtain ⟨w1,al⟩:∃ w1,w1=((w.alloc (.cells #[ZQ.p K] 163)).alloc (.cells #[.int .i64 31,.int .i64 F,.int .i64 G] 72)):=⟨_,rfl⟩;rw [←al] at HB1 I Y ⊢;have J:=Zh (Upd.of (K:=K) (B:=K) HB1.out);have HB:=Y;obtain ⟨A,R⟩:∃ x,x=so:=⟨_,rfl⟩;obtain ⟨z,N⟩:∃ x,x=sc:=⟨_,rfl⟩;obtain ⟨y,f⟩:∃ x,x=s.stk:=⟨_,rfl⟩;have HC1:=Zh (show Ck w1 K h m (.slice lo ls.length lc) (.slice A y.length z) (.slice oo bs.length oc) (ZhS m ls ⟨31,F,G⟩ s).1 from by rw [ab.out,R,N,f];exact I.out.ck);have ae:=Zh (show ZeR w1 A z y from by rw [R,N,f];exact I.out.ts);have an:=Zh (show y.length≤2000 from by rw [f];omega);have am:=Zh (show (ZhS m ls ⟨31,F,G⟩ s).1=0→y=(ZhS m ls ⟨31,F,G⟩ s).2 from fun _=>by rw [ab.out,f]);clear R N f al;have HO1:=Zh (HH.out.op.upd J.out HH.out.ck.noTy HH.out.ne);have hS:∀ w',w1.heap.size≤w'.heap.size→(∀ k,k<w1.heap.size→some k≠(Value.slice oo bs.length oc).ownBlock→w'.heap[k]?=w1.heap[k]?)→(fun w':World=>w'.cell? ⟨w.heap.size,0,none⟩=some (.pointer (some ⟨K,0,none⟩))∧w'.cell? ⟨w.heap.size+1,0,none⟩=some (.int .i64 31)∧w'.cell? ⟨K,6,none⟩=some (.slice oo bs.length oc)∧w'.cell? ⟨K,5,none⟩=some (.slice A y.length z)) w':=fun w' hz hk=>by exact k3
 have HS:=Zh hS;clear hS;have aa:=Zh (show ∀ w',Below w1.heap.size w1 w'→Calls Tryz.prog 126 #[.slice A y.length z] w' (Zfi 38 w' y) from fun w' aq=>ZhE w' A z y (ae.out.1.old aq) (by have:=an.out;omega));have ay:bs.length≤6:=by have:=HH.out.op.len;omega
 go_wp2_with fail
 refine rE (fun w':World=>w'.cell? ⟨w.heap.size,0,none⟩=some (.pointer (some ⟨K,0,none⟩))∧w'.cell? ⟨w.heap.size+1,0,none⟩=some (.int .i64 31)∧w'.cell? ⟨K,6,none⟩=some (.slice oo bs.length oc)∧w'.cell? ⟨K,5,none⟩=some (.slice A y.length z)) 17 (oL [0,1,2,3,4,5,6,7,8,9,10,111,12,113,114,115,116]) (HS.out _ (Nat.le_refl _) (fun _ _ _=>rfl)) ?_;have HB2:=Zh (show Below w1.heap.size w1 w1.drew by exact bE)
 repeat refine pE ?_
 refine oE fun Kv hK=>?_;go_simp;refine (aa.out _ HB2.out).mono ?_;rintro r U ⟨⟨X,V,rfl,D⟩,af⟩;have HB3:=Zh (Zag HB2.out af);have Z:=Zh (ZeR.own D);refine hK _ _ ⟨HS.out _ HB3.out.size (fun k hk _=>HB3.out.block k hk),?_⟩;clear hK Kv af D
 repeat refine pE ?_
 refine oE fun Kv hK=>?_;go_simp;have HB4:=Zh (show Below w1.heap.size w1 (U.alloc (.cells #[.int .i64 31,.slice X y.length V,.slice none 0 0,.bool false] 232)) from bal HB3.out _);refine hK _ _ ⟨HS.out _ HB4.out.size (fun k hk _=>HB4.out.block k hk),?_⟩;clear hK Kv
 repeat refine pE ?_
 have ap:=Zh (show (U.alloc (.cells #[.int .i64 31,.slice X y.length V,.slice none 0 0,.bool false] 232)).ownsRow w0.heap.size 232 4 (.slice oo bs.length oc) bs.length (Zal bs) from ZhM HO1.out.own fun k hk=>HB4.out.block k (HO1.out.own.lt k hk).2);have HX:=Zh (ZdN (n:=1) (size:=4) (Blk.new U #[.int .i64 31,.slice X y.length V,.slice none 0 0,.bool false] 232) rfl);have HZ:=Zh (show w0.heap.size≤(U.alloc (.cells #[.int .i64 31,.slice X y.length V,.slice none 0 0,.bool false] 232)).heap.size from by have:=HH.out.hb.size;have:=J.out.size;have:=HB4.out.size;omega);refine oE fun Kv hK=>?_;refine Zel (.tmp 20) (.tmp 29) 164 rfl w0.heap.size 232 4 64 Zi3 _ bs.length _ rfl ap.out _ 1 1 (vbL 31 X y.length V) rfl HX.out (by intro u hu;simp only [vbL,List.mem_cons,List.not_mem_nil,or_false] at hu;rcases hu with rfl|rfl|rfl|rfl<;>rfl) (by omega) (by unfold maxLen;omega) HZ.out ?_;intro ao2 cap2 w4 E ai;have ao:=Zh E;have HG4:=Zh ai;have T:=HG4.out.size;refine hK _ _ ⟨HS.out _ (Nat.le_trans HB4.out.size T) (fun k hk C=>(HG4.out.block k (Nat.lt_of_lt_of_le hk HB4.out.size) C).trans (HB4.out.block k hk)),?_⟩;clear hK Kv E ai;have ac:=Zh (HS.out w4 (Nat.le_trans HB4.out.size T) (fun k hk C=>(HG4.out.block k (Nat.lt_of_lt_of_le hk HB4.out.size) C).trans (HB4.out.block k hk)));refine oE fun Kv hK=>?_;go_simp;refine hK _ _ ⟨ac.out,?_⟩;clear hK Kv;refine oE fun Kv hK=>?_;go_simp;refine hK _ _ ⟨ac.out,?_⟩;clear hK Kv
 have k6:w4.cell? ⟨K,6,none⟩=some (.slice oo bs.length oc):=(HS.out w4 (Nat.le_trans HB4.out.size T) (fun k hk C=>(HG4.out.block k (Nat.lt_of_lt_of_le hk HB4.out.size) C).trans (HB4.out.block k hk))).2.2.1;have f6:w4.frozen? ⟨K,6,none⟩=false:=by exact k10
 refine sE fun Kv hK=>?_;go_simp;refine hK _ _ ?_;clear hK Kv;go_wp2;go_end0;exact Zi5 HH.out (by simp) (by simp) (by rfl) J.out HC1.out ae.out am.out HB4.out (Z.out.upd (Upd.of (K:=K) (B:=K) (show Below U.heap.size U (U.alloc (.cells #[.int .i64 31,.slice X y.length V,.slice none 0 0,.bool false] 232)) by exact bE)) (HC1.out.old HB3.out).noTy (HC1.out.old HB3.out).noTy) ao.out HG4.out _
theorem Zi9 {k:Nat} (hm:Za2 m=true) (ar:∀ t∈ls,Zfk m t) (HW:Zfl m s.stk) (H:St w0 w K h m lo lc ls s so sc oo oc bs) (Hj:Zaz w0 h m) (hd:s.opn.length≤6) (hi:ZfU m k i) (hb:Zex s.opn≤s.stk.length) (ak:i.op=32):
  Calls Tryz.prog 128 #[ZQ.p K,ZI.i i] w (ZhX w0 w K h m lo lc ls oo (ZeE m ls i s)):=by
 obtain ⟨op,F,G⟩:=i;dsimp only at ak;subst ak;have M:Below w.heap.size w ((w.alloc (.cells #[ZQ.p K] 163)).alloc (.cells #[.int .i64 32,.int .i64 F,.int .i64 G] 72)):=by exact bE
 have ah:=(Blk.new w #[ZQ.p K] 163).alloc (.cells #[.int .i64 32,.int .i64 F,.int .i64 G] 72);have ag:Blk ((w.alloc (.cells #[ZQ.p K] 163)).alloc (.cells #[.int .i64 32,.int .i64 F,.int .i64 G] 72)) (w.heap.size+1) #[.int .i64 32,.int .i64 F,.int .i64 G] 72:=Blk.new' (w:=w.alloc (.cells #[ZQ.p K] 163)) _ _ (by simp);have kl:=Blk.lt H.ck;have H1:=H.old M;have aB:=HW.1;have aj:ZhS m ls ⟨32,F,G⟩ s=(0,s.stk):=by exact k71
 have HB1:=Zh M;have HH:=Zh H;have I:=Zh H1;have Y:=Zh (And.intro ah ag);have ab:=Zh aj;clear aj;clear M ah ag H1 H Hj ar HW hi hm hb;go_enter Tryz.func128,Tryz.ntmps128
 go_upto_region 6 with fail
 obtain ⟨w1,al⟩:∃ w1,w1=((w.alloc (.cells #[ZQ.p K] 163)).alloc (.cells #[.int .i64 32,.int .i64 F,.int .i64 G] 72)):=⟨_,rfl⟩;rw [←al] at HB1 I Y ⊢;have J:=Zh (Upd.of (K:=K) (B:=K) HB1.out);have HB:=Y;obtain ⟨A,R⟩:∃ x,x=so:=⟨_,rfl⟩;obtain ⟨z,N⟩:∃ x,x=sc:=⟨_,rfl⟩;obtain ⟨y,f⟩:∃ x,x=s.stk:=⟨_,rfl⟩;have HC1:=Zh (show Ck w1 K h m (.slice lo ls.length lc) (.slice A y.length z) (.slice oo bs.length oc) (ZhS m ls ⟨32,F,G⟩ s).1 from by rw [ab.out,R,N,f];exact I.out.ck);have ae:=Zh (show ZeR w1 A z y from by rw [R,N,f];exact I.out.ts);have an:=Zh (show y.length≤2000 from by rw [f];omega);have am:=Zh (show (ZhS m ls ⟨32,F,G⟩ s).1=0→y=(ZhS m ls ⟨32,F,G⟩ s).2 from fun _=>by rw [ab.out,f]);clear R N f al;have HO1:=Zh (HH.out.op.upd J.out HH.out.ck.noTy HH.out.ne);have hS:∀ w',w1.heap.size≤w'.heap.size→(∀ k,k<w1.heap.size→some k≠(Value.slice oo bs.length oc).ownBlock→w'.heap[k]?=w1.heap[k]?)→(fun w':World=>w'.cell? ⟨w.heap.size,0,none⟩=some (.pointer (some ⟨K,0,none⟩))∧w'.cell? ⟨w.heap.size+1,0,none⟩=some (.int .i64 32)∧w'.cell? ⟨K,6,none⟩=some (.slice oo bs.length oc)∧w'.cell? ⟨K,5,none⟩=some (.slice A y.length z)) w':=fun w' hz hk=>by exact k3
 have HS:=Zh hS;clear hS;have aa:=Zh (show ∀ w',Below w1.heap.size w1 w'→Calls Tryz.prog 126 #[.slice A y.length z] w' (Zfi 38 w' y) from fun w' aq=>ZhE w' A z y (ae.out.1.old aq) (by have:=an.out;omega));have ay:bs.length≤6:=by have:=HH.out.op.len;omega
 go_wp2_with fail
 refine rE (fun w':World=>w'.cell? ⟨w.heap.size,0,none⟩=some (.pointer (some ⟨K,0,none⟩))∧w'.cell? ⟨w.heap.size+1,0,none⟩=some (.int .i64 32)∧w'.cell? ⟨K,6,none⟩=some (.slice oo bs.length oc)∧w'.cell? ⟨K,5,none⟩=some (.slice A y.length z)) 17 (oL [0,1,2,3,4,5,6,7,8,9,10,111,12,113,114,115,116]) (HS.out _ (Nat.le_refl _) (fun _ _ _=>rfl)) ?_;have HB2:=Zh (show Below w1.heap.size w1 w1.drew by exact bE)
 repeat refine pE ?_
 refine oE fun Kv hK=>?_;go_simp;refine (aa.out _ HB2.out).mono ?_;rintro r U ⟨⟨X,V,rfl,D⟩,af⟩;have HB3:=Zh (Zag HB2.out af);have Z:=Zh (ZeR.own D);refine hK _ _ ⟨HS.out _ HB3.out.size (fun k hk _=>HB3.out.block k hk),?_⟩;clear hK Kv af D
 repeat refine pE ?_
 refine oE fun Kv hK=>?_;go_simp;have HB4:=Zh (show Below w1.heap.size w1 (U.alloc (.cells #[.int .i64 32,.slice X y.length V,.slice none 0 0,.bool false] 232)) from bal HB3.out _);refine hK _ _ ⟨HS.out _ HB4.out.size (fun k hk _=>HB4.out.block k hk),?_⟩;clear hK Kv
 repeat refine pE ?_
 have ap:=Zh (show (U.alloc (.cells #[.int .i64 32,.slice X y.length V,.slice none 0 0,.bool false] 232)).ownsRow w0.heap.size 232 4 (.slice oo bs.length oc) bs.length (Zal bs) from ZhM HO1.out.own fun k hk=>HB4.out.block k (HO1.out.own.lt k hk).2);have HX:=Zh (ZdN (n:=1) (size:=4) (Blk.new U #[.int .i64 32,.slice X y.length V,.slice none 0 0,.bool false] 232) rfl);have HZ:=Zh (show w0.heap.size≤(U.alloc (.cells #[.int .i64 32,.slice X y.length V,.slice none 0 0,.bool false] 232)).heap.size from by have:=HH.out.hb.size;have:=J.out.size;have:=HB4.out.size;omega);refine oE fun Kv hK=>?_;refine Zel (.tmp 20) (.tmp 29) 164 rfl w0.heap.size 232 4 64 Zi3 _ bs.length _ rfl ap.out _ 1 1 (vbL 32 X y.length V) rfl HX.out (by intro u hu;simp only [vbL,List.mem_cons,List.not_mem_nil,or_false] at hu;rcases hu with rfl|rfl|rfl|rfl<;>rfl) (by omega) (by unfold maxLen;omega) HZ.out ?_;intro ao2 cap2 w4 E ai;have ao:=Zh E;have HG4:=Zh ai;have T:=HG4.out.size;refine hK _ _ ⟨HS.out _ (Nat.le_trans HB4.out.size T) (fun k hk C=>(HG4.out.block k (Nat.lt_of_lt_of_le hk HB4.out.size) C).trans (HB4.out.block k hk)),?_⟩;clear hK Kv E ai;have ac:=Zh (HS.out w4 (Nat.le_trans HB4.out.size T) (fun k hk C=>(HG4.out.block k (Nat.lt_of_lt_of_le hk HB4.out.size) C).trans (HB4.out.block k hk)));refine oE fun Kv hK=>?_;go_simp;refine hK _ _ ⟨ac.out,?_⟩;clear hK Kv;refine oE fun Kv hK=>?_;go_simp;refine hK _ _ ⟨ac.out,?_⟩;clear hK Kv
 have k6:w4.cell? ⟨K,6,none⟩=some (.slice oo bs.length oc):=(HS.out w4 (Nat.le_trans HB4.out.size T) (fun k hk C=>(HG4.out.block k (Nat.lt_of_lt_of_le hk HB4.out.size) C).trans (HB4.out.block k hk))).2.2.1;have f6:w4.frozen? ⟨K,6,none⟩=false:=by exact k10
 refine sE fun Kv hK=>?_;go_simp;refine hK _ _ ?_;clear hK Kv;go_wp2;go_end0;exact Zi5 HH.out (by simp) (by simp) (by rfl) J.out HC1.out ae.out am.out HB4.out (Z.out.upd (Upd.of (K:=K) (B:=K) (show Below U.heap.size U (U.alloc (.cells #[.int .i64 32,.slice X y.length V,.slice none 0 0,.bool false] 232)) by exact bE)) (HC1.out.old HB3.out).noTy (HC1.out.old HB3.out).noTy) ao.out HG4.out _
theorem Zja {k:Nat} (hm:Za2 m=true) (ar:∀ t∈ls,Zfk m t) (HW:Zfl m s.stk) (H:St w0 w K h m lo lc ls s so sc oo oc bs) (Hj:Zaz w0 h m) (hd:s.opn.length≤6) (hi:ZfU m k i) (hb:Zex s.opn≤s.stk.length) (ak:i.op=33):
  Calls Tryz.prog 128 #[ZQ.p K,ZI.i i] w (ZhX w0 w K h m lo lc ls oo (ZeE m ls i s)):=by
 obtain ⟨op,F,G⟩:=i;dsimp only at ak;subst ak;have M:Below w.heap.size w ((w.alloc (.cells #[ZQ.p K] 163)).alloc (.cells #[.int .i64 33,.int .i64 F,.int .i64 G] 72)):=by exact bE
 have ah:=(Blk.new w #[ZQ.p K] 163).alloc (.cells #[.int .i64 33,.int .i64 F,.int .i64 G] 72);have ag:Blk ((w.alloc (.cells #[ZQ.p K] 163)).alloc (.cells #[.int .i64 33,.int .i64 F,.int .i64 G] 72)) (w.heap.size+1) #[.int .i64 33,.int .i64 F,.int .i64 G] 72:=Blk.new' (w:=w.alloc (.cells #[ZQ.p K] 163)) _ _ (by simp);have kl:=Blk.lt H.ck;have H1:=H.old M;have aB:=HW.1;have aj:ZhS m ls ⟨33,F,G⟩ s=(0,s.stk):=by exact k71
 have HB1:=Zh M;have HH:=Zh H;have I:=Zh H1;have Y:=Zh (And.intro ah ag);have ab:=Zh aj;clear aj;clear M ah ag H1 H Hj ar HW hi hm hb;go_enter Tryz.func128,Tryz.ntmps128
 go_upto_region 6 with fail
 obtain ⟨w1,al⟩:∃ w1,w1=((w.alloc (.cells #[ZQ.p K] 163)).alloc (.cells #[.int .i64 33,.int .i64 F,.int .i64 G] 72)):=⟨_,rfl⟩;rw [←al] at HB1 I Y ⊢;have J:=Zh (Upd.of (K:=K) (B:=K) HB1.out);have HB:=Y;obtain ⟨A,R⟩:∃ x,x=so:=⟨_,rfl⟩;obtain ⟨z,N⟩:∃ x,x=sc:=⟨_,rfl⟩;obtain ⟨y,f⟩:∃ x,x=s.stk:=⟨_,rfl⟩;have HC1:=Zh (show Ck w1 K h m (.slice lo ls.length lc) (.slice A y.length z) (.slice oo bs.length oc) (ZhS m ls ⟨33,F,G⟩ s).1 from by rw [ab.out,R,N,f];exact I.out.ck);have ae:=Zh (show ZeR w1 A z y from by rw [R,N,f];exact I.out.ts);have an:=Zh (show y.length≤2000 from by rw [f];omega);have am:=Zh (show (ZhS m ls ⟨33,F,G⟩ s).1=0→y=(ZhS m ls ⟨33,F,G⟩ s).2 from fun _=>by rw [ab.out,f]);clear R N f al;have HO1:=Zh (HH.out.op.upd J.out HH.out.ck.noTy HH.out.ne);have hS:∀ w',w1.heap.size≤w'.heap.size→(∀ k,k<w1.heap.size→some k≠(Value.slice oo bs.length oc).ownBlock→w'.heap[k]?=w1.heap[k]?)→(fun w':World=>w'.cell? ⟨w.heap.size,0,none⟩=some (.pointer (some ⟨K,0,none⟩))∧w'.cell? ⟨w.heap.size+1,0,none⟩=some (.int .i64 33)∧w'.cell? ⟨K,6,none⟩=some (.slice oo bs.length oc)∧w'.cell? ⟨K,5,none⟩=some (.slice A y.length z)) w':=fun w' hz hk=>by exact k3
 have HS:=Zh hS;clear hS;have aa:=Zh (show ∀ w',Below w1.heap.size w1 w'→Calls Tryz.prog 126 #[.slice A y.length z] w' (Zfi 38 w' y) from fun w' aq=>ZhE w' A z y (ae.out.1.old aq) (by have:=an.out;omega));have ay:bs.length≤6:=by have:=HH.out.op.len;omega
 go_wp2_with fail
 refine rE (fun w':World=>w'.cell? ⟨w.heap.size,0,none⟩=some (.pointer (some ⟨K,0,none⟩))∧w'.cell? ⟨w.heap.size+1,0,none⟩=some (.int .i64 33)∧w'.cell? ⟨K,6,none⟩=some (.slice oo bs.length oc)∧w'.cell? ⟨K,5,none⟩=some (.slice A y.length z)) 17 (oL [0,1,2,3,4,5,6,7,8,9,10,111,12,113,114,115,116]) (HS.out _ (Nat.le_refl _) (fun _ _ _=>rfl)) ?_;have HB2:=Zh (show Below w1.heap.size w1 w1.drew by exact bE)
 repeat refine pE ?_
 refine oE fun Kv hK=>?_;go_simp;refine (aa.out _ HB2.out).mono ?_;rintro r U ⟨⟨X,V,rfl,D⟩,af⟩;have HB3:=Zh (Zag HB2.out af);have Z:=Zh (ZeR.own D);refine hK _ _ ⟨HS.out _ HB3.out.size (fun k hk _=>HB3.out.block k hk),?_⟩;clear hK Kv af D
 repeat refine pE ?_
 refine oE fun Kv hK=>?_;go_simp;have HB4:=Zh (show Below w1.heap.size w1 (U.alloc (.cells #[.int .i64 33,.slice X y.length V,.slice none 0 0,.bool false] 232)) from bal HB3.out _);refine hK _ _ ⟨HS.out _ HB4.out.size (fun k hk _=>HB4.out.block k hk),?_⟩;clear hK Kv
 repeat refine pE ?_
 have ap:=Zh (show (U.alloc (.cells #[.int .i64 33,.slice X y.length V,.slice none 0 0,.bool false] 232)).ownsRow w0.heap.size 232 4 (.slice oo bs.length oc) bs.length (Zal bs) from ZhM HO1.out.own fun k hk=>HB4.out.block k (HO1.out.own.lt k hk).2);have HX:=Zh (ZdN (n:=1) (size:=4) (Blk.new U #[.int .i64 33,.slice X y.length V,.slice none 0 0,.bool false] 232) rfl);have HZ:=Zh (show w0.heap.size≤(U.alloc (.cells #[.int .i64 33,.slice X y.length V,.slice none 0 0,.bool false] 232)).heap.size from by have:=HH.out.hb.size;have:=J.out.size;have:=HB4.out.size;omega);refine oE fun Kv hK=>?_;refine Zel (.tmp 20) (.tmp 29) 164 rfl w0.heap.size 232 4 64 Zi3 _ bs.length _ rfl ap.out _ 1 1 (vbL 33 X y.length V) rfl HX.out (by intro u hu;simp only [vbL,List.mem_cons,List.not_mem_nil,or_false] at hu;rcases hu with rfl|rfl|rfl|rfl<;>rfl) (by omega) (by unfold maxLen;omega) HZ.out ?_;intro ao2 cap2 w4 E ai;have ao:=Zh E;have HG4:=Zh ai;have T:=HG4.out.size;refine hK _ _ ⟨HS.out _ (Nat.le_trans HB4.out.size T) (fun k hk C=>(HG4.out.block k (Nat.lt_of_lt_of_le hk HB4.out.size) C).trans (HB4.out.block k hk)),?_⟩;clear hK Kv E ai;have ac:=Zh (HS.out w4 (Nat.le_trans HB4.out.size T) (fun k hk C=>(HG4.out.block k (Nat.lt_of_lt_of_le hk HB4.out.size) C).trans (HB4.out.block k hk)));refine oE fun Kv hK=>?_;go_simp;refine hK _ _ ⟨ac.out,?_⟩;clear hK Kv;refine oE fun Kv hK=>?_;go_simp;refine hK _ _ ⟨ac.out,?_⟩;clear hK Kv
 have k6:w4.cell? ⟨K,6,none⟩=some (.slice oo bs.length oc):=(HS.out w4 (Nat.le_trans HB4.out.size T) (fun k hk C=>(HG4.out.block k (Nat.lt_of_lt_of_le hk HB4.out.size) C).trans (HB4.out.block k hk))).2.2.1;have f6:w4.frozen? ⟨K,6,none⟩=false:=by exact k10
 refine sE fun Kv hK=>?_;go_simp;refine hK _ _ ?_;clear hK Kv;go_wp2;go_end0;exact Zi5 HH.out (by simp) (by simp) (by rfl) J.out HC1.out ae.out am.out HB4.out (Z.out.upd (Upd.of (K:=K) (B:=K) (show Below U.heap.size U (U.alloc (.cells #[.int .i64 33,.slice X y.length V,.slice none 0 0,.bool false] 232)) by exact bE)) (HC1.out.old HB3.out).noTy (HC1.out.old HB3.out).noTy) ao.out HG4.out _
theorem Zjb {k:Nat} (o:Za2 m=true) (c:∀ t∈ls,Zfk m t) (f:Zfl m s.stk) (H:St w0 w K h m lo lc ls s so sc oo oc bs) (e:Zaz w0 h m) (j:s.opn.length≤6) (n:ZfU m k i) (g:Zex s.opn≤s.stk.length) (r:29≤i.op∧i.op≤33):
  Calls Tryz.prog 128 #[ZQ.p K,ZI.i i] w (ZhX w0 w K h m lo lc ls oo (ZeE m ls i s)):=by
 have p:i.op=29∨i.op=30∨i.op=31∨i.op=32∨i.op=33:=by omega
 rcases p with q|q|q|q|q
 ·exact Zi6 o c f H e j n g q
 ·exact Zi7 o c f H e j n g q
 ·exact Zi8 o c f H e j n g q
 ·exact Zi9 o c f H e j n g q
 ·exact Zja o c f H e j n g q
end
end
