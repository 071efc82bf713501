/- Joined texts. The first: link.reached: classes and types. -/
import Derived.Test.YtcfjblcgceednaaGreatE27
import Derived.Test.YtcfjblcgceednaaGreatE28
set_option linter.all false
set_option linter.unusedVariables false
set_option linter.unusedSimpArgs false
set_option maxRecDepth 100000
set_option maxHeartbeats 16000000
namespace Go.Proofs.YtcfjblcgceednaaGreat
section
open Go.RowKit
theorem ZnF {w w':World}{M:Nat} (hm:ZmX w M) (hg:w.grownBy w' (some M)):ZmV w w':=fun p v hc=>by
 obtain ⟨es,c,hm⟩:=hm
 have hne:p.block≠M:=fun e=>by unfold World.cell? at hc;rw [e,hm] at hc;simp at hc
 exact (World.cell?_of_block (w:=w) (hg.block _ (Zac hc) fun e=>hne (Option.some.inj e))).trans hc
end
section
open Go.RowKit
attribute [local go_sem] World.cell?_alloc_some
end
end Go.Proofs.YtcfjblcgceednaaGreat
