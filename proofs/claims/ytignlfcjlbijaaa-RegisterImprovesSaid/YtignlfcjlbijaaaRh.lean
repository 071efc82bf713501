/- A run under way, as the reference keeps it. -/
import Derived.Test.YtignlfcjlbijaaaRg
namespace Go.Proofs.Ytignlfcjlbijaaa
open Go.RowKit

/-- a run under way -/
structure RS where
  ws : List Int
  at_ : Nat
  ov : Bool
  res : Int
  trap : Int
  cost : Int
  told : List (Int × Int)

def stL (lv hv : Value) (s : RS) (tv : Value) : List Value := [lv, hv] ++ (s.ws.map (Value.int .i64) ++ [.int .i64 s.at_, .bool s.ov, .int .i64 s.res, .int .i64 s.trap, .int .i64 s.cost, tv])
def stA (lv hv : Value) (s : RS) (tv : Value) : Array Value := (stL lv hv s tv).toArray
section
variable {lv hv tv : Value} {s : RS}
theorem stA_0 : (stA lv hv s tv)[0]? = some lv := by simp [stA, stL]
theorem stA_1 : (stA lv hv s tv)[1]? = some hv := by simp [stA, stL]
theorem stA_w (h : s.ws.length = 40) {i : Nat} (hi : i < 40) : (stA lv hv s tv)[2 + i]? = some (.int .i64 (s.ws.getD i 0)) := by
  simp only [stA, stL, List.getElem?_toArray]
  rw [List.getElem?_append_right (by simp), List.getElem?_append_left (by simp; omega)]
  simp [show i < s.ws.length by omega]
theorem stA_t (h : s.ws.length = 40) {i : Nat} : (stA lv hv s tv)[42 + i]? = [Value.int .i64 s.at_, .bool s.ov, .int .i64 s.res, .int .i64 s.trap, .int .i64 s.cost, tv][i]? := by
  simp only [stA, stL, List.getElem?_toArray]
  rw [List.getElem?_append_right (by simp; omega), List.getElem?_append_right (by simp; omega)]
  congr 1; simp; omega
theorem stA_set_w (h : s.ws.length = 40) {i : Nat} (hi : i < 40) (v : Int) : (stA lv hv s tv).setIfInBounds (2 + i) (.int .i64 v) = stA lv hv { s with ws := s.ws.set i v } tv := by
  simp only [stA, stL, List.setIfInBounds_toArray]
  congr 1
  rw [List.set_append_right _ _ (by simp), List.set_append_left _ _ (by simp; omega), List.map_set]
  congr 3; simp
theorem stA_set_t (h : s.ws.length = 40) {i : Nat} (v : Value) : (stA lv hv s tv).setIfInBounds (42 + i) v = ([lv, hv] ++ (s.ws.map (Value.int .i64) ++ [Value.int .i64 s.at_, .bool s.ov, .int .i64 s.res, .int .i64 s.trap, .int .i64 s.cost, tv].set i v)).toArray := by
  simp only [stA, stL, List.setIfInBounds_toArray]
  congr 1
  rw [List.set_append_right _ _ (by simp; omega), List.set_append_right _ _ (by simp; omega)]
  congr 3; simp; omega
theorem stA_42 (h : s.ws.length = 40) (n : Nat) : (stA lv hv s tv).setIfInBounds 42 (.int .i64 n) = stA lv hv { s with at_ := n } tv := by rw [show 42 = 42 + 0 from rfl, stA_set_t h]; rfl
theorem stA_43 (h : s.ws.length = 40) (n : Bool) : (stA lv hv s tv).setIfInBounds 43 (.bool n) = stA lv hv { s with ov := n } tv := by rw [show 43 = 42 + 1 from rfl, stA_set_t h]; rfl
theorem stA_44 (h : s.ws.length = 40) (n : Int) : (stA lv hv s tv).setIfInBounds 44 (.int .i64 n) = stA lv hv { s with res := n } tv := by rw [show 44 = 42 + 2 from rfl, stA_set_t h]; rfl
theorem stA_45 (h : s.ws.length = 40) (n : Int) : (stA lv hv s tv).setIfInBounds 45 (.int .i64 n) = stA lv hv { s with trap := n } tv := by rw [show 45 = 42 + 3 from rfl, stA_set_t h]; rfl
theorem stA_46 (h : s.ws.length = 40) (n : Int) : (stA lv hv s tv).setIfInBounds 46 (.int .i64 n) = stA lv hv { s with cost := n } tv := by rw [show 46 = 42 + 4 from rfl, stA_set_t h]; rfl
theorem stA_47 (h : s.ws.length = 40) (l : List (Int × Int)) (v : Value) : (stA lv hv s tv).setIfInBounds 47 v = stA lv hv { s with told := l } v := by rw [show 47 = 42 + 5 from rfl, stA_set_t h]; rfl
end

/-- what a trap makes of a run -/
def trapS (c : Cd) (s : RS) (n : Int) : RS := if 0 ≤ c.h.getD s.at_ 0 then { s with at_ := (c.h.getD s.at_ 0).toNat } else { s with ov := true, trap := n }

set_option maxHeartbeats 4000000 in
theorem trap_any (W : World) (S : Nat) (c : Cd) (lv : Value) (ho : Option Addr) (hc : Nat) (s : RS) (tv : Value) (n : Int) (hb : Blk W S (stA lv (.slice ho c.h.length hc) s tv) 71) (hws : s.ws.length = 40) (hh : SlA W 1 ho c.h.length hc (c.h.map (Value.int .i64))) (hat : s.at_ < c.h.length) (_hlen : c.h.length ≤ 600) :
    Calls Try.prog 52 #[.pointer (some ⟨S, 0, none⟩), .int .i64 n] W fun e w' => e = .returned (.tuple #[]) ∧ Blk w' S (stA lv (.slice ho c.h.length hc) (trapS c s n) tv) 71 ∧ Below S W w' ∧ ∀ b, b ≠ S → w'.heap[b]? = W.heap[b]? := by
  obtain ⟨ad, rfl, e0⟩ := sla_int hh hat
  generalize hz : c.h.getD s.at_ 0 = z at e0
  have c1 : W.cell? ⟨S, 1, none⟩ = some (.slice (some ad) c.h.length hc) := hb.cell 1 stA_1
  have c42 : W.cell? ⟨S, 42, none⟩ = some (.int .i64 s.at_) := hb.cell 42 (by rw [show 42 = 42 + 0 from rfl, stA_t hws]; rfl)
  have HB := Lib.hid hb
  have HZ := Lib.hid hz
  clear hb hz hh
  go_enter Try.func52, Try.ntmps52
  go_wp2
  refine wp_still_all (by kernel_rfl) (by kernel_rfl) ?_
  repeat still_step
  refine wpStill_nil ?_
  by_cases h0 : 0 ≤ z
  · go_wp2
    refine wp_still_tail 14 (by kernel_rfl) (by kernel_rfl) ?_
    simp only [List.take_succ_cons, List.take_zero, List.drop_succ_cons, List.drop_zero]
    repeat still_step
    refine wpStill_nil ?_
    have f42 := HB.out.frozen 42
    have l42 := HB.out.lt
    go_wp2
    refine bodyPost_ret (v := .tuple #[]) (by simp [results, Try.results52, go_sem]) rfl ⟨rfl, ?_, ?_, ?_⟩
    · have h1 := HB.out.set 42 (.int .i64 z)
      rw [show z = ((z.toNat : Nat) : Int) by omega, stA_42 hws] at h1
      have h2 : trapS c s n = { s with at_ := z.toNat } := by unfold trapS; rw [HZ.out, if_pos h0]
      rw [h2]
      rw [show z = ((z.toNat : Nat) : Int) by omega]
      exact h1
    · exact (((Below.refl S W).setCell (p := ⟨S, 42, none⟩) (Nat.le_refl _) _).drew).drew
    · exact fun b hb => heap_setCell_other W ⟨S, 42, none⟩ b _ hb
  · have f43 := HB.out.frozen 43
    have f45 := HB.out.frozen 45
    have x43 : W.cell? ⟨S, 43, none⟩ = some (.bool s.ov) := HB.out.cell 43 (by rw [show 43 = 42 + 1 from rfl, stA_t hws]; rfl)
    have x45 : W.cell? ⟨S, 45, none⟩ = some (.int .i64 s.trap) := HB.out.cell 45 (by rw [show 45 = 42 + 3 from rfl, stA_t hws]; rfl)
    go_wp2
    refine bodyPost_end (v := .tuple #[]) (by simp [results, Try.results52, go_sem]) rfl ⟨rfl, ?_, ?_, ?_⟩
    · have h1 := HB.out.set 43 (.bool true)
      rw [stA_43 hws] at h1
      have h3 := h1.set 45 (.int .i64 n)
      rw [stA_45 (by exact hws)] at h3
      have h2 : trapS c s n = { s with ov := true, trap := n } := by unfold trapS; rw [HZ.out, if_neg (by omega)]
      rw [h2]
      exact h3
    · exact (((Below.refl S W).setCell (p := ⟨S, 43, none⟩) (Nat.le_refl _) _).setCell (p := ⟨S, 45, none⟩) (Nat.le_refl _) _).drew
    · exact fun b hb => (heap_setCell_other (W.setCell ⟨S, 43, none⟩ (.bool true)) ⟨S, 45, none⟩ b _ hb).trans (heap_setCell_other W ⟨S, 43, none⟩ b _ hb)

end Go.Proofs.Ytignlfcjlbijaaa
