/- What can be reached (the program's reached and Reached). -/
import Derived.Test.YtignlfcjlbijaaaRv
import Derived.Deep.OwnRows
namespace Go.Proofs.Ytignlfcjlbijaaa
open Go.RowKit

/-- what can be reached from the first instruction -/
inductive Reach (c : Cd) : Nat → Prop
  | zero : Reach c 0
  | step {i j : Nat} : Reach c i → j ∈ folV c i → Reach c j

theorem nxV_lt {c : Cd} {i j : Nat} (h : j ∈ nxV c i) : j < c.l.length := by
  unfold nxV at h; split at h
  · simp at h; omega
  · cases h
theorem folV_lt {c : Cd} (hv : codeV c = true) {i j : Nat} (hi : i < c.l.length) (h : j ∈ folV c i) : j < c.l.length := by
  obtain ⟨v1, v2, v3, v4, v5⟩ := codeV_ins hv
  have hx := v4 _ hi
  have hz := v5 _ hi
  simp only [inB, Bool.and_eq_true, decide_eq_true_eq] at hz
  have hh : ∀ j, j ∈ hdV c i → j < c.l.length := by
    intro j hj; unfold hdV at hj; split at hj
    · simp only [List.mem_singleton] at hj; omega
    · cases hj
  unfold folV at h
  dsimp only at h
  generalize c.l.getD i default = x at h hx
  split at h
  · cases h
  split at h
  · rename_i h4
    unfold insV at hx
    simp only [h4] at hx
    simp [inB] at hx
    simp only [List.mem_singleton] at h
    omega
  split at h
  · rename_i h4
    rcases List.mem_cons.1 h with rfl | h
    · unfold insV at hx
      rcases h4 with h4 | h4 <;> simp only [h4] at hx <;> simp [inB] at hx <;> omega
    · exact nxV_lt h
  split at h
  · exact hh _ h
  split at h
  · rcases List.mem_append.1 h with h | h
    · exact hh _ h
    · exact nxV_lt h
  · exact nxV_lt h

theorem made_rep (v : Value) (n : Nat) : madeCells #[v] n = ((List.replicate n v)).toArray := by
  apply Array.ext
  · simp [madeCells]
  · intro i h1 h2
    simp [madeCells, Nat.mod_one]

theorem own_cap {w : World} {base : Nat} {e : TypeId} {size g cap n : Nat} {xs : List Value} (h : w.ownsRow base e size (.slice (some ⟨g, 0, none⟩) n cap) n xs) : n ≤ cap := by
  rcases h.2 with ⟨h0, _⟩ | ⟨g', cap', cur, hv, hg, hh, hn, _⟩
  · cases h0
  · cases hv; exact hn
def isF : Value → Bool
  | .bool false => true
  | _ => false
/-- how many marks are still false -/
def cf (o : Option Obj) : Nat := match o with
  | some (.cells xs _ _) => xs.toList.countP isF
  | _ => 0
theorem cf_blk {w : World} {b : Nat} {bs : List Bool} {t : TypeId} (h : Blk w b (bs.map Value.bool).toArray t) : cf w.heap[b]? = bs.count false := by
  unfold Blk at h
  rw [h]
  simp only [cf, List.countP_map]
  rw [List.count]
  congr 1
  funext x; cases x <;> rfl
theorem count_set {bs : List Bool} {j : Nat} (hj : j < bs.length) (hb : bs.getD j false = false) : (bs.set j true).count false + 1 = bs.count false := by
  induction bs generalizing j with
  | nil => simp at hj
  | cons x r ih =>
    cases j with
    | zero =>
      simp at hb; subst hb; simp
    | succ j =>
      have := ih (j := j) (by simpa using hj) (by simpa using hb)
      simp only [List.set_cons_succ, List.count_cons]
      omega

/-- what the search keeps to -/
structure Srch (c : Cd) (bs : List Bool) (st : List Nat) : Prop where
  len : bs.length = c.l.length
  mark : ∀ i, bs.getD i false = true → Reach c i
  top : ∀ j ∈ st, Reach c j ∧ j < c.l.length
  closed : ∀ i, bs.getD i false = true → ∀ j ∈ folV c i, bs.getD j false = true ∨ j ∈ st
  zero : bs.getD 0 false = true ∨ 0 ∈ st
  size : st.length + 2 * bs.count false ≤ 2 * c.l.length + 1

theorem Srch.beg (c : Cd) (h : 0 < c.l.length) : Srch c (List.replicate c.l.length false) [0] :=
  ⟨by simp, fun i hi => by simp [List.getD_eq_getElem?_getD, List.getElem?_replicate] at hi; split at hi <;> simp at hi, fun j hj => by simp at hj; subst hj; exact ⟨.zero, h⟩,
   fun i hi => by simp [List.getD_eq_getElem?_getD, List.getElem?_replicate] at hi; split at hi <;> simp at hi, .inr (by simp), by simp; omega⟩
theorem Srch.skip {c : Cd} {bs : List Bool} {st : List Nat} {j : Nat} (h : Srch c bs (st ++ [j])) (hb : bs.getD j false = true) : Srch c bs st := by
  refine ⟨h.len, h.mark, fun k hk => h.top k (by simp [hk]), fun i hi k hk => ?_, ?_, by have := h.size; simp at this; omega⟩
  · rcases h.closed i hi k hk with h1 | h1
    · exact .inl h1
    · rcases List.mem_append.1 h1 with h1 | h1
      · exact .inr h1
      · simp at h1; subst h1; exact .inl hb
  · rcases h.zero with h1 | h1
    · exact .inl h1
    · rcases List.mem_append.1 h1 with h1 | h1
      · exact .inr h1
      · simp at h1; subst h1; exact .inl hb
theorem getD_setB (l : List Bool) (i j : Nat) (hi : i < l.length) : (l.set i true).getD j false = if i = j then true else l.getD j false := by
  simp only [List.getD_eq_getElem?_getD, List.getElem?_set]
  split
  · subst_vars; simp
  · rfl
theorem folV_len (c : Cd) (i : Nat) : (folV c i).length ≤ 2 := by
  have h1 : (nxV c i).length ≤ 1 := by unfold nxV; split <;> simp
  have h2 : (hdV c i).length ≤ 1 := by unfold hdV; split <;> simp
  unfold folV
  dsimp only
  repeat' split
  all_goals (try simp only [List.length_nil, List.length_cons, List.length_append])
  all_goals omega
theorem Srch.go {c : Cd} (hv : codeV c = true) {bs : List Bool} {st : List Nat} {j : Nat} (h : Srch c bs (st ++ [j])) (hb : bs.getD j false = false) : Srch c (bs.set j true) (st ++ folV c j) := by
  obtain ⟨hr, hj⟩ := h.top j (by simp)
  have hjl : j < bs.length := by rw [h.len]; exact hj
  have hcs := count_set hjl hb
  have hfl := folV_len c j
  refine ⟨by simp [h.len], fun i hi => ?_, fun k hk => ?_, fun i hi k hk => ?_, ?_, ?_⟩
  · rw [getD_setB _ _ _ hjl] at hi
    split at hi
    · subst_vars; exact hr
    · exact h.mark i hi
  · rcases List.mem_append.1 hk with hk | hk
    · exact h.top k (by simp [hk])
    · exact ⟨.step hr hk, folV_lt hv hj hk⟩
  · rw [getD_setB _ _ _ hjl] at hi ⊢
    by_cases hjk : j = k
    · exact .inl (by rw [if_pos hjk])
    · rw [if_neg hjk]
      split at hi
      · subst_vars; exact .inr (by simp [hk])
      · rcases h.closed i hi k hk with h1 | h1
        · exact .inl h1
        · rcases List.mem_append.1 h1 with h1 | h1
          · exact .inr (by simp [h1])
          · simp at h1; exact absurd h1.symm hjk
  · rw [getD_setB _ _ _ hjl]
    split
    · exact .inl rfl
    · rcases h.zero with h1 | h1
      · exact .inl h1
      · rcases List.mem_append.1 h1 with h1 | h1
        · exact .inr (by simp [h1])
        · simp at h1; omega
  · have := h.size
    simp only [List.length_append, List.length_cons, List.length_nil] at this ⊢
    omega
theorem Srch.done {c : Cd} {bs : List Bool} (h : Srch c bs []) (i : Nat) : bs.getD i false = true ↔ Reach c i := by
  refine ⟨h.mark i, fun hr => ?_⟩
  induction hr with
  | zero => rcases h.zero with h1 | h1; exact h1; cases h1
  | step _ hj ih => rcases h.closed _ ih _ hj with h1 | h1; exact h1; cases h1

set_option maxHeartbeats 4000000 in
theorem reached_any (W : World) (lo : Option Addr) (lc : Nat) (ho : Option Addr) (hc : Nat) (c : Cd) (hcd : CdAt W lo lc ho hc c) (hv : codeV c = true) :
    Calls Try.prog 35 #[.agg #[.slice lo c.l.length lc, .slice ho c.h.length hc]] W fun e w' => ∃ (O : Nat) (bs : List Bool), e = .returned (.slice (some ⟨O, 0, none⟩) c.l.length c.l.length) ∧ Below W.heap.size W w' ∧ W.heap.size ≤ O ∧ Blk w' O (bs.map Value.bool).toArray 4 ∧ bs.length = c.l.length ∧ ∀ i, bs.getD i false = true ↔ Reach c i := by
  obtain ⟨B, hB⟩ : ∃ B, B = W.heap.size := ⟨_, rfl⟩
  obtain ⟨v1, v2, v3, v4, v5⟩ := codeV_ins hv
  have HC := Lib.hid hcd
  have HV := Lib.hid hv
  have HV1 := Lib.hid v1
  have HV2 := Lib.hid v2
  clear hcd hv v3 v4 v5
  have hmk := run_make_row' (P := Try.prog) 49 4 (.bool false) 1 Try.underlying49 (by kernel_rfl) rfl .i64 .i64 c.l.length (by omega) (by omega)
  rw [made_rep] at hmk
  go_enter Try.func35, Try.ntmps35
  go_upto_region 3 with fail
  clear hmk
  have H := Lib.hid (show ∃ w3, w3 = (((W.alloc (.cells #[.slice lo c.l.length lc, .slice ho c.h.length hc] 30)).alloc (.cells (List.replicate c.l.length (Value.bool false)).toArray 4)).alloc (.cells #[.int .i64 0] 3)) ∧
      Blk w3 B #[.slice lo c.l.length lc, .slice ho c.h.length hc] 30 ∧ Blk w3 (B+1) ((List.replicate c.l.length false).map Value.bool).toArray 4 ∧ Below W.heap.size W w3 ∧ w3.ownsRow (B+2) 3 1 (.slice (some ⟨B+2, 0, none⟩) 1 1) 1 [.int .i64 0] from
    ⟨_, rfl, ((Blk.new' _ _ hB).alloc _).alloc _, by rw [List.map_replicate]; exact (Blk.new' _ _ (by simp [hB])).alloc _, (((Below.refl _ _).alloc (Nat.le_refl _) _).alloc (by simp) _).alloc (by simp; omega) _, by
      have := own_full ((W.alloc (.cells #[.slice lo c.l.length lc, .slice ho c.h.length hc] 30)).alloc (.cells (List.replicate c.l.length (Value.bool false)).toArray 4)) #[.int .i64 0] 3 (base := B + 2) (by simp [hB]) (by unfold maxLen; simp)
      rw [show ((W.alloc (.cells #[.slice lo c.l.length lc, .slice ho c.h.length hc] 30)).alloc (.cells (List.replicate c.l.length (Value.bool false)).toArray 4)).heap.size = B + 2 by simp [hB]] at this
      exact this⟩)
  rw [← hB]
  have HB := Lib.hid hB
  obtain ⟨w3, hw3, hA, hO, hbl, hS⟩ := H.out
  change Code.wp _ _ _ _ (((W.alloc (.cells #[.slice lo c.l.length lc, .slice ho c.h.length hc] 30)).alloc (.cells (List.replicate c.l.length (Value.bool false)).toArray 4)).alloc (.cells #[.int .i64 0] 3))
  rw [← hw3]
  clear hw3 hB H
  go_loopw [4] (fun p wr => ∃ (bs : List Bool) (st : List Nat) (so : Option Addr) (sc : Nat), p = .slice so st.length sc ∧ Srch c bs st ∧ Blk wr B #[.slice lo c.l.length lc, .slice ho c.h.length hc] 30 ∧ Blk wr (B+1) (bs.map Value.bool).toArray 4 ∧ Below W.heap.size W wr ∧
      wr.ownsRow (B+2) 3 1 (.slice so st.length sc) st.length (st.map (fun j : Nat => Value.int .i64 j))) (fun p w => (match p with | .slice _ n _ => n | _ => 0) + 2 * cf w.heap[B+1]?)
  case atStart => exact ⟨List.replicate c.l.length false, [0], _, 1, rfl, Srch.beg c HV1.out, hA, hO, hbl, hS⟩
  case round =>
    clear hA hO hbl hS w3
    obtain ⟨bs, st, so, sc, rfl, hsr, hA, hO, hbl, hS⟩ := hrel
    have HSr := Lib.hid hsr
    have HA := Lib.hid hA
    have HO := Lib.hid hO
    have HL := Lib.hid hbl
    have HS := Lib.hid hS
    clear hsr hA hO hbl hS
    by_cases hst : st.length = 0
    · obtain rfl : st = [] := List.length_eq_zero_iff.1 hst
      go_wp2_with fail
      go_ret
      exact ⟨B + 1, bs, rfl, HL.out, by have := HB.out; omega, HO.out, HSr.out.len, fun i => HSr.out.done i⟩
    · obtain ⟨st', j, rfl⟩ : ∃ st' j, st = st' ++ [j] := ⟨st.dropLast, st.getLast (by intro h; subst h; exact hst rfl), (List.dropLast_concat_getLast _).symm⟩
      clear hst
      have hlen : (st' ++ [j]).length = st'.length + 1 := by simp
      have hS := HS.out
      rw [hlen] at hS
      rw [hlen]
      obtain ⟨g, rfl⟩ := ownsRow_some hS (by omega)
      have hj := (HSr.out.top j (by simp)).2
      have hjb : j < bs.length := by rw [HSr.out.len]; exact hj
      have hszs := HSr.out.size
      have hcell : wr.cell? ⟨g, st'.length, none⟩ = some (.int .i64 j) := by
        obtain ⟨a, ha, hc⟩ := (ownsRow_slA hS).2.2.2 st'.length (.int .i64 j) (by simp)
        obtain rfl := Option.some.inj ha
        rw [show (⟨g, 0, none⟩ : Addr).add st'.length = ⟨g, st'.length, none⟩ by unfold Addr.add; split <;> simp_all] at hc
        exact hc
      have hsw : IntKind.i64.wrap ((((st'.length + 1 : Nat) : Int)) - 1) = st'.length := by rw [show (((st'.length + 1 : Nat) : Int)) - 1 = st'.length by omega]; exact IntWalk.i64_in _ (by simp only [List.length_append] at hszs; have := HV2.out; omega)
      have hjl : (j : Int) < c.l.length := by omega
      have hcap : (st'.length : Int) ≤ sc := by have := own_cap hS; omega
      have HT := Lib.hid (show wr.ownsRow (B+2) 3 1 (.slice (some ⟨g, 0, none⟩) st'.length sc) st'.length (st'.map (fun j : Nat => Value.int .i64 j)) by
        have := own_take hS (m := st'.length) (by omega)
        rw [Nat.mul_one, List.map_append, List.take_left' (by simp)] at this
        exact this)
      have HS1 := Lib.hid hS
      clear hS
      rcases hbj : bs.getD j false with _ | _
      · have o1 : wr.cell? ⟨B+1, j, none⟩ = some (.bool false) := HO.out.cell j (by
          have : bs[j] = false := by simpa [List.getD_eq_getElem?_getD, hjb] using hbj
          simp [hjb, this])
        have f1 := HO.out.frozen j
        have l1 := HO.out.lt
        have b0 : wr.cell? ⟨B, 0, none⟩ = some (.slice lo c.l.length lc) := HA.out.cell 0 rfl
        have b1 : wr.cell? ⟨B, 1, none⟩ = some (.slice ho c.h.length hc) := HA.out.cell 1 rfl
        go_wp2_with fail
        have hA2 := HA.out.other (a := ⟨B+1, j, none⟩) (by show B ≠ B + 1; omega) (.bool true)
        have hO2 := HO.out.set j (.bool true)
        rw [List.setIfInBounds_toArray, ← List.map_set] at hO2
        have hL2 := HL.out.setCell (p := ⟨B+1, j, none⟩) (by show _ ≤ B + 1; have := HB.out; omega) (.bool true)
        have hT2 := ownsRow_setCell_below HT.out (a := ⟨B+1, j, none⟩) (by show B + 1 < B + 2; omega) (.bool true)
        refine (follows_any _ lo lc ho hc c (HC.out.old hL2) HV.out j hj).mono ?_
        rintro e w4 ⟨fo, fc, rfl, hb4, ho4⟩
        have HA4 := Lib.hid (hA2.old hb4)
        have HO4 := Lib.hid (hO2.old hb4)
        have HL4 := Lib.hid (hL2.trans (hb4.mono hL2.size))
        have HT4 := Lib.hid (own_old hT2 hb4)
        have HF4 := Lib.hid (ownsRow_slA ho4).2
        have hfl := folV_len c j
        clear hA2 hO2 hL2 hT2 hb4 ho4 b0 b1 o1 f1 l1
        have hsr2 := HSr.out.go HV.out hbj
        have hcf : cf wr.heap[B+1]? = bs.count false := cf_blk HO.out
        have hcn := count_set hjb hbj
        have hlt : B + 2 ≤ w4.heap.size := by have := HO4.out.lt; omega
        go_wp2_with (first
          | (at_builtin; refine wpList_append_sl rfl (.tmp 33) (.tmp 36) 23 rfl (B+2) 3 1 8 elInt (.slice (some ⟨g, 0, none⟩) st'.length sc) st'.length (st'.map (fun j : Nat => Value.int .i64 j)) rfl HT4.out _ (folV c j).length fc ((folV c j).map (fun j : Nat => Value.int .i64 j)) rfl HF4.out (nats_one _) (by have := HV2.out; simp at hszs; omega) (by have := HV2.out; simp at hszs; unfold maxLen; omega) hlt ?_
             intro ao5 cap5 w5 hown hg5
             have hA5 := HA4.out.grown hg5 (own_ne HT4.out (by omega))
             have hO5 := HO4.out.grown hg5 (own_ne HT4.out (by omega))
             have hL5 := HL4.out.grown hg5 HL4.out.size (by intro k hk; have := (HT4.out.lt k hk).1; have := HB.out; omega)
             have HA5 := Lib.hid hA5
             have HO5 := Lib.hid hO5
             have HL5 := Lib.hid hL5
             have HS5 := Lib.hid hown
             clear hown hg5 hA5 hO5 hL5))
        have hc5 : cf w5.heap[B+1]? = (bs.set j true).count false := cf_blk HO5.out
        refine ⟨⟨bs.set j true, st' ++ folV c j, ao5, cap5, by rw [List.length_append], hsr2, HA5.out, HO5.out, HL5.out, by rw [List.length_append, List.map_append]; exact HS5.out⟩, ?_⟩
        show (st'.length + (folV c j).length) + 2 * cf w5.heap[B+1]? < (st'.length + 1) + 2 * cf wr.heap[B+1]?
        rw [hc5, hcf]; omega
      · have o1 : wr.cell? ⟨B+1, j, none⟩ = some (.bool true) := HO.out.cell j (by
          have : bs[j] = true := by simpa [List.getD_eq_getElem?_getD, hjb] using hbj
          simp [hjb, this])
        have hsr2 := HSr.out.skip hbj
        go_wp2_with fail
        refine ⟨⟨bs, st', some ⟨g, 0, none⟩, sc, rfl, hsr2, HA.out, HO.out, HL.out, HT.out⟩, ?_⟩
        show st'.length + 2 * cf wr.heap[B+1]? < (st'.length + 1) + 2 * cf wr.heap[B+1]?
        omega

set_option maxHeartbeats 1000000 in
theorem Reached_any (W : World) (lo : Option Addr) (lc : Nat) (ho : Option Addr) (hc : Nat) (c : Cd) (hcd : CdAt W lo lc ho hc c) (hv : codeV c = true) :
    Calls Try.prog 19 #[.agg #[.slice lo c.l.length lc, .slice ho c.h.length hc]] W fun e w' => ∃ (O : Nat) (bs : List Bool), e = .returned (.tuple #[.slice (some ⟨O, 0, none⟩) c.l.length c.l.length, .int .i64 0]) ∧ Below W.heap.size W w' ∧ W.heap.size ≤ O ∧ Blk w' O (bs.map Value.bool).toArray 4 ∧ bs.length = c.l.length ∧ ∀ i, bs.getD i false = true ↔ Reach c i := by
  obtain ⟨B, hB⟩ : ∃ B, B = W.heap.size := ⟨_, rfl⟩
  have HC := Lib.hid hcd
  have HV := Lib.hid hv
  clear hcd hv
  go_enter Try.func19, Try.ntmps19
  go_wp2_with fail
  have hb0 := (Below.refl W.heap.size W).alloc (Nat.le_refl _) (.cells #[.slice lo c.l.length lc, .slice ho c.h.length hc] 30)
  have hA0 := Blk.new' (w := W) #[.slice lo c.l.length lc, .slice ho c.h.length hc] 30 hB
  refine (Valid_any _ lo lc ho hc c (HC.out.old hb0)).mono ?_
  rw [HV.out]
  rintro e w1 ⟨rfl, hb1⟩
  have hA1 := hA0.old hb1
  have a0 : w1.cell? ⟨B, 0, none⟩ = some (.slice lo c.l.length lc) := hA1.cell 0 rfl
  have a1 : w1.cell? ⟨B, 1, none⟩ = some (.slice ho c.h.length hc) := hA1.cell 1 rfl
  have HL1 := Lib.hid (bthen hb0 hb1)
  rw [← hB]
  have HB := Lib.hid hB
  clear hb0 hA0 hb1 hA1 hB
  go_wp2_with fail
  refine (reached_any _ lo lc ho hc c (HC.out.old HL1.out) HV.out).mono ?_
  rintro e w2 ⟨O, bs, rfl, hb2, hO, hblk, hlen, hr⟩
  have HR := Lib.hid (And.intro hlen hr)
  have HK := Lib.hid hblk
  clear hlen hr hblk
  go_wp2_with fail
  go_ret2
  exact ⟨O, bs, rfl, bthen HL1.out hb2, by have := HL1.out.size; omega, HK.out, HR.out.1, HR.out.2⟩

end Go.Proofs.Ytignlfcjlbijaaa
