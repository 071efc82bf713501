/- Joined texts. The first: VerifyNops, the plain law: a method without its nops is valid, and has the same error. -/
import Derived.Test.YtcfjblcgceednaaGreatG20
set_option linter.all false
set_option linter.unusedVariables false
set_option linter.unusedSimpArgs false
namespace Go.Proofs.YtcfjblcgceednaaGreat
section
open Go.RowKit
theorem Zn6 {m:Md} (hm:Za1 m=true) {lo:List Ty} (hlo:∀ t∈lo,Zfi m t) {k:Nat} (hk:k<m.me.length) (r:Ty):∀ (l:List In3) (n:Nat) (s:Ps),(∀ i∈l,ZfR m k i∧0≤i.op∧i.op<36)→Wf m s l→(∀ t∈(ZeE m lo r n l s).1,Zfj m t)∧(ZeE m lo r n l s).1.length≤l.length+1
 |[],n,s,_,hw=>by
  unfold ZeE
  split
  ·exact ⟨fun t ht=>by rw [List.mem_singleton.1 ht];exact hw.stk,by simp⟩
  ·exact ⟨fun t ht=>(by cases ht),by simp⟩
 |i :: l,n,s,hi,hw=>by
  unfold ZeE
  split
  ·rename_i h0
   obtain ⟨q1,q2⟩:=hi i List.mem_cons_self
   obtain ⟨a1,a2⟩:=Zn6 hm hlo hk r l (n+1) _ (fun j hj=>hi j (List.mem_cons_of_mem _ hj)) (Zgo hm hlo hk q2 q1 hw h0)
   dsimp only
   split
   ·refine ⟨fun t ht=>?_,by simp;omega⟩
    rcases List.mem_cons.1 ht with rfl|ht
    ·exact hw.stk
    ·exact a1 t ht
   ·exact ⟨fun t ht=>(by cases ht),by simp⟩
  ·exact ⟨fun t ht=>(by cases ht),by simp⟩
theorem Zn7 (m:Md) (k:Int):(∀ t∈(ZeH m k).1,Zfj m t)∧(ZeH m k).1.length≤121:=by
 unfold ZeH
 split
 ·rename_i h
  obtain ⟨hm,h0,h1⟩:=h
  have hk:k.toNat<m.me.length:=by omega
  have hmt:=ZfN hm hk
  obtain ⟨a,b⟩:=Zn6 hm (ZfO hm hk) hk (m.me.getD k.toNat default).r (m.me.getD k.toNat default).k 0 ⟨[],[]⟩ (fun i hi=>⟨ZfS (hmt.i i hi).1 (hmt.i i hi).2,ZfQ (hmt.i i hi).1⟩) (Zfo hmt.n)
  have:=hmt.z.2.2
  exact ⟨a,by unfold ZeG;omega⟩
 ·exact ⟨fun t ht=>(by cases ht),by simp⟩
theorem ZjL.rows {w:World}{N:Nat}{so:Option Addr}{sc:Nat}{rows:List SH}{m:Md}{k:Int} (H:ZjJ w N so sc rows (ZeH m k).1):rows.length≤121:=by rw [H.len];exact (Zn7 m k).2
end
end Go.Proofs.YtcfjblcgceednaaGreat
