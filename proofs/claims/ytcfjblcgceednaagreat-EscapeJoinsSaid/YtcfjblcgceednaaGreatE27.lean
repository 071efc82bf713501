/- Joined texts. The first: bound: a weigher's node. -/
import Derived.Test.YtcfjblcgceednaaGreatE26
set_option linter.all false
set_option linter.unusedVariables false
set_option linter.unusedSimpArgs false
set_option maxRecDepth 100000
set_option maxHeartbeats 16000000
namespace Go.Proofs.YtcfjblcgceednaaGreat
section
open Go.RowKit
theorem Zm8 {α:Type} [Cells α] {w w':World}{g:Nat}{ao:Option Addr}{c:Nat}{L:List α} (h:Zar w ao c L) (hu:Upd g g w w') (hne:Lie (·≠g) ao):Zar w' ao c L:=
 ⟨h.1,h.2.1,fun j u hu'=>by
  obtain ⟨a,ha,hc⟩:=h.2.2 j u hu'
  exact ⟨a,ha,(World.cell?_of_block (w:=w) (hu.block _ (Zac hc) (by rw [Zag];exact hne a ha) (by rw [Zag];exact hne a ha))).trans hc⟩⟩
end
section
open Go.RowKit
theorem Zm9 {w:World}{b n:Nat}{D:DataW Unit} (h:w.ownsMap Tryz.prog 3 (plainElem Tryz.prog 4) b n D):w.ownsMap Tryz.prog 3 (plainElem Tryz.prog 4) b (Maps.size D) D:=by
 obtain ⟨es,c,h1,h2,h3,rfl⟩:=h
 refine ⟨es,c,h1,h2,?_,rfl⟩
 show es.size≤List.length _
 rw [length_sorted]
 simp
theorem Zna {v:Value}{z:DataW Unit × List MemPlace} (h:plainElem (H:=Unit) Tryz.prog 4 v=some z):∃ b,v=.bool b∧z=(.lit (.bool b),[]):=by
 unfold plainElem at h
 rw [show (Tryz.prog).underlying 4=some .bool from Tryz.underlying4] at h
 cases v<;>simp at h
 exact ⟨_,rfl,h.symm⟩
def Znb (k:Nat) (K:List Nat):List Nat:=if k∈K then K else k :: K
theorem Znc {k j:Nat}{K:List Nat}:j∈Znb k K↔j=k∨j∈K:=by
 unfold Znb
 split
 ·constructor
  ·exact .inr
  ·rintro (rfl|h)<;>assumption
 ·simp
end
end Go.Proofs.YtcfjblcgceednaaGreat
