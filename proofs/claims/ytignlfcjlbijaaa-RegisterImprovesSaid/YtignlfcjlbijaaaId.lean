/- What Improve calls: through, and the copies of both lists. -/
import Derived.Test.YtignlfcjlbijaaaIc
import Derived.Test.YtignlfcjlbijaaaHh
import Derived.Lib.SliceRun
namespace Go.Proofs.Ytignlfcjlbijaaa
open Go.RowKit

theorem thr_succ' (l : List Ins) : ∀ (m a : Nat), thr l (m + 1) a = if (l.getD (thr l m a) default).d = 4 then (l.getD (thr l m a) default).a.toNat else thr l m a
  | 0, a => rfl
  | m + 1, a => by
    show (if (l.getD a default).d = 4 then thr l (m + 1) (l.getD a default).a.toNat else a) = _
    have e : thr l (m + 1) a = if (l.getD a default).d = 4 then thr l m (l.getD a default).a.toNat else a := rfl
    rw [e]
    split
    · rename_i h; exact thr_succ' l m _
    · rfl
theorem thr_stay {l : List Ins} {k a : Nat} (h : (l.getD (thr l k a) default).d ≠ 4) : ∀ j, thr l (k + j) a = thr l k a
  | 0 => rfl
  | j + 1 => by
    have ih := thr_stay h j
    rw [show k + (j + 1) = (k + j) + 1 by omega, thr_succ', ih, if_neg h]

set_option maxHeartbeats 4000000 in
theorem through_any (W : World) (lo : Option Addr) (lc : Nat) (c : Cd) (hl : InsAt W lo lc c.l) (hv : codeV c = true) (a : Nat) (ha : a < c.l.length) :
    Calls Try.prog 45 #[.slice lo c.l.length lc, .int .i64 a] W fun e w' => e = .returned (.int .i64 (thr c.l c.l.length a)) ∧ Below W.heap.size W w' := by
  obtain ⟨v1, v2, v3, v4, v5⟩ := codeV_ins hv
  have HL := Lib.hid hl
  have HV := Lib.hid hv
  have HV4 := Lib.hid v4
  have HV2 := Lib.hid v2
  clear hl hv v1 v2 v3 v4 v5
  go_enter Try.func45, Try.ntmps45
  go_wp2
  go_loopw [1, 5] (fun p i wr => ∃ (k : Nat), k ≤ c.l.length ∧ p = .int .i64 (thr c.l k a) ∧ i = .int .i64 k ∧ Below W.heap.size W wr) (fun _ i _ => c.l.length - (intOf i).toNat)
  case atStart => exact ⟨0, by omega, rfl, rfl, Below.refl _ _⟩
  case round =>
    obtain ⟨k, hk, rfl, rfl, hbel⟩ := hrel
    have HB := Lib.hid hbel
    clear hbel
    have hb := thr_lt HV.out k a ha
    have hs := thr_succ' c.l k a
    have hkw : IntKind.i64.wrap ((k : Int) + 1) = k + 1 := IntWalk.i64_in _ (by have := HV2.out; omega)
    have hins := HV4.out _ hb
    obtain ⟨ad, had, e0, e1, e2, e3⟩ := (show InsAt wr lo lc c.l from SlA.old HL.out HB.out).cell hb
    generalize hbb : thr c.l k a = b at *
    obtain ⟨x, hx⟩ : ∃ x, x = c.l.getD b default := ⟨_, rfl⟩
    rw [← hx] at e0 e1 e2 e3 hs hins
    have HS := Lib.hid hs
    have HBB := Lib.hid hbb
    have HI := Lib.hid hins
    have HAd := Lib.hid had
    have HX := Lib.hid hx
    clear hs hbb hx hins
    subst had
    have hbi : (b : Int) < c.l.length := by omega
    by_cases hkl : k < c.l.length
    · have hkl2 : (k : Int) < c.l.length := by omega
      by_cases h4 : x.d = 4
      · obtain ⟨d, a1, b1, c1⟩ := x
        dsimp only at h4 e0 e1 e2 e3
        subst h4
        have hj := insV_J HI.out (.inl rfl)
        obtain ⟨j, rfl⟩ : ∃ j : Nat, a1 = j := ⟨a1.toNat, by have := hj.1; dsimp only at this; omega⟩
        clear hj
        go_wp2
        refine ⟨⟨k + 1, by omega, ?_, by go_num, HB.out⟩, by show c.l.length - ((k : Int) + 1).toNat < c.l.length - (k : Int).toNat; omega⟩
        rw [HS.out, if_pos rfl]; simp
      · obtain ⟨d, a1, b1, c1⟩ := x
        dsimp only at h4 e0 e1 e2 e3
        have hd4 : decide (d = 4) = false := decide_eq_false h4
        have HD4 := Lib.hid h4
        go_wp2
        go_ret
        refine ⟨?_, HB.out⟩
        have := thr_stay (l := c.l) (k := k) (a := a) (by rw [HBB.out, ← HX.out]; exact HD4.out) (c.l.length - k)
        rw [show k + (c.l.length - k) = c.l.length by omega] at this
        rw [this, HBB.out]
        rfl
    · have hkn : k = c.l.length := by omega
      go_wp2
      go_ret
      exact ⟨by rw [← HBB.out, hkn]; rfl, HB.out⟩

set_option maxHeartbeats 2000000 in
theorem clone_regs (W : World) (a : Addr) (cap : Nat) (l : List Ins) (h : InsAt W (some a) cap l) (hl : l.length ≤ 2000) :
    Calls Try.prog 43 #[.slice (some a) l.length cap] W fun e w' => ∃ lo' lc', e = .returned (.slice lo' l.length lc') ∧ Below W.heap.size W w' ∧ w'.ownsRow W.heap.size 53 4 (.slice lo' l.length lc') l.length (flat l) := by
  have HH := Lib.hid h
  clear h
  have HO := Lib.hid (World.ownsRow_made (e := 53) (size := 4) W #[] 0 (Nat.le_refl _) (by decide) rfl)
  have hnil := fun w => Lib.run_eql_slice_nil (P := Try.prog) w 28 53 (some a) l.length cap 0 0 Try.underlying28
  go_enter Try.func43, Try.ntmps43
  go_wp2_with (first
    | (at_builtin; refine wpList_append_sl rfl (.tmp 5) (.tmp 6) 28 rfl W.heap.size 53 4 32 elReg (.slice (some ⟨W.heap.size, 0, none⟩) 0 0) 0 [] rfl HO.out (some a) l.length cap (flat l) rfl (HH.out.alloc _) (flat_one _) (by omega) (by unfold maxLen; omega) (by simp) ?_
       intro ao1 cap1 w1 hown hg
       simp only [Nat.zero_add, List.nil_append] at hown ⊢
       have hb := ((Below.refl W.heap.size W).alloc (Nat.le_refl _) (.cells #[] 53)).grown hg (by simp) (by intro k hk; simp [Value.ownBlock] at hk; omega)
       have HR := Lib.hid (And.intro hown hb)
       clear hown hg hb))
  go_ret
  exact ⟨ao1, cap1, rfl, HR.out.2, HR.out.1⟩
set_option maxHeartbeats 2000000 in
theorem clone_ints (W : World) (a : Addr) (cap : Nat) (l : List Int) (h : SlA W 1 (some a) l.length cap (l.map (Value.int .i64))) (hl : l.length ≤ 2000) :
    Calls Try.prog 44 #[.slice (some a) l.length cap] W fun e w' => ∃ lo' lc', e = .returned (.slice lo' l.length lc') ∧ Below W.heap.size W w' ∧ w'.ownsRow W.heap.size 3 1 (.slice lo' l.length lc') l.length (l.map (Value.int .i64)) := by
  have HH := Lib.hid h
  clear h
  have HO := Lib.hid (World.ownsRow_made (e := 3) (size := 1) W #[] 0 (Nat.le_refl _) (by decide) rfl)
  have hnil := fun w => Lib.run_eql_slice_nil (P := Try.prog) w 23 3 (some a) l.length cap 0 0 Try.underlying23
  go_enter Try.func44, Try.ntmps44
  go_wp2_with (first
    | (at_builtin; refine wpList_append_sl rfl (.tmp 5) (.tmp 6) 23 rfl W.heap.size 3 1 8 elInt (.slice (some ⟨W.heap.size, 0, none⟩) 0 0) 0 [] rfl HO.out (some a) l.length cap (l.map (Value.int .i64)) rfl (HH.out.alloc _) (by intro u hu; obtain ⟨z, _, rfl⟩ := List.mem_map.1 hu; rfl) (by omega) (by unfold maxLen; omega) (by simp) ?_
       intro ao1 cap1 w1 hown hg
       simp only [Nat.zero_add, List.nil_append] at hown ⊢
       have hb := ((Below.refl W.heap.size W).alloc (Nat.le_refl _) (.cells #[] 3)).grown hg (by simp) (by intro k hk; simp [Value.ownBlock] at hk; omega)
       have HR := Lib.hid (And.intro hown hb)
       clear hown hg hb))
  go_ret
  exact ⟨ao1, cap1, rfl, HR.out.2, HR.out.1⟩

end Go.Proofs.Ytignlfcjlbijaaa
