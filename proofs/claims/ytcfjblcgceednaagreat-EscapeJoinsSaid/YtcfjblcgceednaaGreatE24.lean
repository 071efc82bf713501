/- Joined texts. The first: Where an opening's else and end stand, computed; what a stretch of code weighs. -/
import Derived.Test.YtcfjblcgceednaaGreatG16
set_option linter.all false
set_option linter.unusedVariables false
set_option linter.unusedSimpArgs false
set_option maxRecDepth 100000
set_option maxHeartbeats 8000000
namespace Go.Proofs.YtcfjblcgceednaaGreat
section
open Go.RowKit
structure VN where
 at_:Int
 alt:Int
 en:Int
 fo:Option Addr
 fn:Nat
 fc:Nat
 so:Option Addr
 sn:Nat
 sc:Nat
instance:Inhabited VN:=⟨⟨0,0,0,none,0,0,none,0,0⟩⟩
instance:Cells VN:=⟨5,by decide,fun t=>[.int .i64 t.at_,.int .i64 t.alt,.int .i64 t.en,.slice t.fo t.fn t.fc,.slice t.so t.sn t.sc],fun _=>rfl,by
 intro x u hu;simp only [List.mem_cons,List.not_mem_nil,or_false] at hu;rcases hu with rfl|rfl|rfl|rfl|rfl<;>rfl⟩
def Lie (P:Nat→Prop) (ao:Option Addr):Prop:=∀ ad,ao=some ad→P ad.block
theorem Zml {w:World}{base:Nat}{e:TypeId}{size:Nat}{ao:Option Addr}{n c:Nat}{xs:List Value} (h:w.ownsRow base e size (.slice ao n c) n xs):Lie (fun k=>base≤k∧k<w.heap.size) ao:=by
 intro ad hd
 subst hd
 exact h.lt ad.block rfl
end
section
open Go.RowKit
theorem Zmm {w:World}{a b:Nat}{xs ys:Array Value}{t u:TypeId} (h:Blk w a xs t) (g:Blk w b ys u) (hn:t≠u):a≠b:=by
 rintro rfl
 unfold Blk at h g
 rw [h] at g
 cases g
 exact hn rfl
theorem ZcI.set {l:List In3}{w:World}{v0 v1 v2 v3:Value} (H:ZcI l w v0 v1 v2 v3) {B:Nat}{xs:Array Value}{t:TypeId} (hB:Blk w B xs t) (ht:3≠t) (j:Nat) (v:Value):ZcI l (w.setCell ⟨B,j,none⟩ v) v0 v1 v2 v3:=by
 obtain ⟨g0,g1,g2,g3,P,E,Q,R,h0,h1,h2,h3,hl,b0,b1,b2,b3,ha⟩:=H
 exact ⟨g0,g1,g2,g3,P,E,Q,R,h0,h1,h2,h3,hl,b0.other (a:=⟨B,j,none⟩) (Zmm b0 hB ht) v,b1.other (a:=⟨B,j,none⟩) (Zmm b1 hB ht) v,b2.other (a:=⟨B,j,none⟩) (Zmm b2 hB ht) v,b3.other (a:=⟨B,j,none⟩) (Zmm b3 hB ht) v,ha⟩
theorem ZcI.alloc {l:List In3}{w:World}{v0 v1 v2 v3:Value} (H:ZcI l w v0 v1 v2 v3) (o:Obj):ZcI l (w.alloc o) v0 v1 v2 v3:=by
 obtain ⟨g0,g1,g2,g3,P,E,Q,R,h0,h1,h2,h3,hl,b0,b1,b2,b3,ha⟩:=H
 exact ⟨g0,g1,g2,g3,P,E,Q,R,h0,h1,h2,h3,hl,b0.alloc o,b1.alloc o,b2.alloc o,b3.alloc o,ha⟩
end
section
structure Ms where
 wt:In3→Int
 tl:Int
 sc:Bool
end
end Go.Proofs.YtcfjblcgceednaaGreat
