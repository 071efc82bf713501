/- One step of a run, as the reference does it. -/
import Derived.Test.YtignlfcjlbijaaaRh
import Derived.Test.YtignlfcjlbijaaaHe
namespace Go.Proofs.Ytignlfcjlbijaaa
open Go.RowKit

def flatT (l : List (Int × Int)) : List Value := l.flatMap fun p => [.int .i64 p.1, .int .i64 p.2]
theorem flatT_length (l : List (Int × Int)) : (flatT l).length = l.length * 2 := by
  induction l with
  | nil => rfl
  | cons x r ih => simp [flatT] at ih ⊢; omega
theorem flatT_append (l m : List (Int × Int)) : flatT (l ++ m) = flatT l ++ flatT m := by simp [flatT]
theorem flatT_one (l : List (Int × Int)) : ∀ u ∈ flatT l, u.oneCell' = true := by
  intro u hu
  simp only [flatT, List.mem_flatMap] at hu
  obtain ⟨x, _, hx⟩ := hu
  simp only [List.mem_cons, List.not_mem_nil, or_false] at hx
  rcases hx with rfl | rfl <;> rfl
theorem elTold : El Try.prog 32 45 2 16 := El.mk' (z := .agg #[.int .i64 0, .int .i64 0]) rfl (by kernel_rfl) (by kernel_rfl) (by decide)

/-- on to the instruction n -/
def goS (c : Cd) (n : Nat) (s : RS) : RS := { s with at_ := n, ov := decide (c.l.length ≤ n) }
/-- one step of a run that is not over -/
def stepS (c : Cd) (s0 : RS) : RS :=
  let x := c.l.getD s0.at_ default
  let s : RS := { s0 with cost := s0.cost + costV x.d }
  let w := fun (n : Int) => s0.ws.getD n.toNat 0
  if x.d = 0 then (if 0 ≤ x.a then { s with ov := true, res := w x.a } else { s with ov := true })
  else if x.d = 1 then goS c (s0.at_ + 1) { s with ws := s0.ws.set x.a.toNat x.b }
  else if x.d = 2 then goS c (s0.at_ + 1) { s with ws := s0.ws.set x.a.toNat (w x.b) }
  else if x.d = 4 then goS c x.a.toNat s
  else if x.d = 5 then goS c (if w x.b = 0 then x.a.toNat else s0.at_ + 1) s
  else if x.d = 6 then goS c (s0.at_ + 1) { s with told := s0.told ++ [(x.a, w x.b)] }
  else if x.d = 7 then trapS c s x.a
  else if x.d = 8 then goS c (if w x.b < w x.c then x.a.toNat else s0.at_ + 1) s
  else if x.d = 14 ∧ w x.c = 0 then trapS c s 4
  else goS c (s0.at_ + 1) { s with ws := s0.ws.set x.a.toNat (calcV x.d (w x.b) (w x.c)) }

/-- what a run keeps to -/
structure RunOk (c : Cd) (s : RS) : Prop where
  len : s.ws.length = 40
  wd : ∀ i, i < 40 → vB (s.ws.getD i 0) = true
  lt : s.at_ < c.l.length ∨ s.ov = true
  cost0 : 0 ≤ s.cost
  cost1 : s.cost ≤ 10000000
  told : s.told.length ≤ 1000000

theorem own_old {w w' : World} {base : Nat} {e : TypeId} {size : Nat} {v : Value} {n : Nat} {xs : List Value} (h : w.ownsRow base e size v n xs) (hb : Below w.heap.size w w') : w'.ownsRow base e size v n xs := by
  refine ⟨h.1, ?_⟩
  rcases h.2 with hn | ⟨g, cap, cur, rfl, hg, hgg, rest⟩
  · exact .inl hn
  · exact .inr ⟨g, cap, cur, rfl, hg, by rw [hb.block g (Array.getElem?_eq_some_iff.1 hgg).1]; exact hgg, rest⟩
theorem stFacts {W : World} {S : Nat} {lv hv tv : Value} {s : RS} (hb : Blk W S (stA lv hv s tv) 71) (h : s.ws.length = 40) :
    W.cell? ⟨S, 0, none⟩ = some lv ∧ W.cell? ⟨S, 1, none⟩ = some hv ∧ W.cell? ⟨S, 42, none⟩ = some (.int .i64 s.at_) ∧ W.cell? ⟨S, 43, none⟩ = some (.bool s.ov) ∧ W.cell? ⟨S, 44, none⟩ = some (.int .i64 s.res) ∧ W.cell? ⟨S, 45, none⟩ = some (.int .i64 s.trap) ∧ W.cell? ⟨S, 46, none⟩ = some (.int .i64 s.cost) ∧ W.cell? ⟨S, 47, none⟩ = some tv ∧
    W.frozen? ⟨S, 42, none⟩ = false ∧ W.frozen? ⟨S, 43, none⟩ = false ∧ W.frozen? ⟨S, 44, none⟩ = false ∧ W.frozen? ⟨S, 45, none⟩ = false ∧ W.frozen? ⟨S, 46, none⟩ = false ∧ W.frozen? ⟨S, 47, none⟩ = false ∧ S < W.heap.size :=
  ⟨hb.cell 0 stA_0, hb.cell 1 stA_1, hb.cell 42 (by rw [show 42 = 42 + 0 from rfl, stA_t h]; rfl), hb.cell 43 (by rw [show 43 = 42 + 1 from rfl, stA_t h]; rfl), hb.cell 44 (by rw [show 44 = 42 + 2 from rfl, stA_t h]; rfl), hb.cell 45 (by rw [show 45 = 42 + 3 from rfl, stA_t h]; rfl), hb.cell 46 (by rw [show 46 = 42 + 4 from rfl, stA_t h]; rfl), hb.cell 47 (by rw [show 47 = 42 + 5 from rfl, stA_t h]; rfl),
   hb.frozen 42, hb.frozen 43, hb.frozen 44, hb.frozen 45, hb.frozen 46, hb.frozen 47, hb.lt⟩

theorem wpList_one {P : Program} {ops : Array Oper} {o : Oper} {rest : List Oper} {a : Act} {w : World} {Q : Exit → Act → World → Prop} (hw : Region.wanted o (yielded ops a.tmps) = true) (h : ∀ K : Act → World → Prop, (∀ a w, wpList P ops Q rest a w → K a w) → o.wp P a w K Q) : wpList P ops Q (o :: rest) a w := by
  unfold wpList
  rw [if_pos hw]
  exact .inl (h _ fun _ _ h => h)

theorem own_keep {w w' : World} {S : Nat} {e : TypeId} {size : Nat} {v : Value} {n : Nat} {xs : List Value} (h : w.ownsRow (S+1) e size v n xs) (hb : ∀ b, b ≠ S → w'.heap[b]? = w.heap[b]?) : w'.ownsRow (S+1) e size v n xs := by
  refine ⟨h.1, ?_⟩
  rcases h.2 with hn | ⟨g, cap, cur, rfl, hg, hgg, rest⟩
  · exact .inl hn
  · exact .inr ⟨g, cap, cur, rfl, hg, by rw [hb g (by omega)]; exact hgg, rest⟩
/-- the middle of a step: the state's block, the instruction's, the row of what was told -/
structure Mid (S R : Nat) (lv hv tv : Value) (x : Ins) (W : World) (s : RS) (w : World) : Prop where
  st : Blk w S (stA lv hv s tv) 71
  reg : Blk w R #[.int .i64 x.d, .int .i64 x.a, .int .i64 x.b, .int .i64 x.c] 60
  own : w.ownsRow (S+1) 45 2 tv s.told.length (flatT s.told)
  bel : Below S W w
theorem Mid.set {S R : Nat} {lv hv tv : Value} {x : Ins} {W : World} {s s' : RS} {w : World} (h : Mid S R lv hv tv x W s w) (hRS : S < R) (i : Nat) {v : Value} (he : (stA lv hv s tv).setIfInBounds i v = stA lv hv s' tv) (ht : s'.told = s.told) : Mid S R lv hv tv x W s' (w.setCell ⟨S, i, none⟩ v) :=
  ⟨by rw [← he]; exact h.st.set i v, h.reg.other (by show R ≠ S; omega) _, by rw [ht]; exact ownsRow_setCell_below h.own (by show S < S + 1; omega) _, h.bel.setCell (Nat.le_refl _) _⟩
theorem Mid.drew {S R : Nat} {lv hv tv : Value} {x : Ins} {W : World} {s : RS} {w : World} (h : Mid S R lv hv tv x W s w) : Mid S R lv hv tv x W s w.drew := ⟨h.st, h.reg, h.own, h.bel.drew⟩
theorem Mid.drewN {S R : Nat} {lv hv tv : Value} {x : Ins} {W : World} {s : RS} {w : World} (h : Mid S R lv hv tv x W s w) (n : Nat) : Mid S R lv hv tv x W s (w.drewN n) := ⟨h.st, h.reg, h.own, ⟨h.bel.os, h.bel.tape, h.bel.output, h.bel.size, h.bel.block⟩⟩
theorem Mid.old {S R : Nat} {lv hv tv : Value} {x : Ins} {W : World} {s : RS} {w w' : World} (h : Mid S R lv hv tv x W s w) (hb : Below w.heap.size w w') : Mid S R lv hv tv x W s w' :=
  ⟨h.st.old hb, h.reg.old hb, own_old h.own hb, h.bel.trans (hb.mono (Nat.le_of_lt h.st.lt))⟩
theorem Mid.goes {S R : Nat} {lv hv tv : Value} {x : Ins} {W : World} {s : RS} {w : World} (h : Mid S R lv hv tv x W s w) (hRS : S < R) (hl : s.ws.length = 40) (c : Cd) (n : Nat) {v : Value} (hv' : v = .int .i64 n) {q : Value} (hq : q = .bool (decide (c.l.length ≤ n))) :
    Mid S R lv hv tv x W (goS c n s) ((w.setCell ⟨S, 42, none⟩ v).setCell ⟨S, 43, none⟩ q) := by
  subst hv' hq
  exact (h.set hRS 42 (stA_42 hl n) rfl).set hRS 43 (stA_43 (s := { s with at_ := n }) hl _) rfl

theorem blk_not_own {w : World} {b : Nat} {ys : Array Value} {t : TypeId} {base : Nat} {e : TypeId} {size : Nat} {v : Value} {n : Nat} {xs : List Value} (h : Blk w b ys t) (hr : w.ownsRow base e size v n xs) (hte : t ≠ e) : some b ≠ v.ownBlock := by
  rcases hr.2 with ⟨hn, _⟩ | ⟨g, c, cur, hv, _, hg, _⟩
  · rw [hn]; simp [Value.ownBlock]
  · rw [hv]
    intro hc
    simp [Value.ownBlock] at hc
    subst hc
    unfold Blk at h
    rw [h] at hg
    simp at hg
    exact hte hg.2
theorem Mid.told {S R : Nat} {lv hv tv : Value} {x : Ins} {W : World} {s : RS} {w w2 w3 : World} {o : Obj} {ao : Option Addr} {cap : Nat} {p : Int × Int} (h : Mid S R lv hv tv x W s w) (hRS : S < R) (hl : s.ws.length = 40)
    (hw2 : w2 = (w.alloc o).drew) (hg : w2.grownBy w3 tv.ownBlock) (hown : w3.ownsRow (S+1) 45 2 (.slice ao (s.told.length + 1) cap) (s.told.length + 1) (flatT s.told ++ flatT [p])) :
    Mid S R lv hv (.slice ao (s.told.length + 1) cap) x W { s with told := s.told ++ [p] } (w3.setCell ⟨S, 47, none⟩ (.slice ao (s.told.length + 1) cap)) := by
  have hst : Blk w3 S (stA lv hv s tv) 71 := by subst hw2; exact ((h.st.alloc o).drew).grown hg (own_ne h.own (by omega))
  have hreg : Blk w3 R #[.int .i64 x.d, .int .i64 x.a, .int .i64 x.b, .int .i64 x.c] 60 := by subst hw2; exact ((h.reg.alloc o).drew).grown hg (blk_not_own h.reg h.own (by decide))
  have hbel : Below S W w3 := by
    subst hw2
    have hSz : S ≤ w.heap.size := Nat.le_of_lt h.st.lt
    exact ((h.bel.alloc hSz o).drew).grown hg (by simp; omega) (fun j hj => by have := (h.own.lt j hj).1; omega)
  refine ⟨?_, hreg.other (by show R ≠ S; omega) _, ?_, hbel.setCell (Nat.le_refl _) _⟩
  · have := hst.set 47 (.slice ao (s.told.length + 1) cap)
    rw [stA_47 hl (s.told ++ [p])] at this
    exact this
  · rw [← flatT_append] at hown
    have h3 := ownsRow_setCell_below hown (a := ⟨S, 47, none⟩) (by show S < S + 1; omega) (.slice ao (s.told.length + 1) cap)
    simpa using h3

set_option maxHeartbeats 8000000 in
set_option maxRecDepth 100000 in
theorem rstep_any (W0 W : World) (S : Nat) (lo : Option Addr) (lc : Nat) (ho : Option Addr) (hc : Nat) (c : Cd) (s : RS) (to : Option Addr) (tc : Nat)
    (hcd : CdAt W0 lo lc ho hc c) (hsz : W0.heap.size ≤ S) (hbel : Below W0.heap.size W0 W) (hv : codeV c = true)
    (hb : Blk W S (stA (.slice lo c.l.length lc) (.slice ho c.h.length hc) s (.slice to s.told.length tc)) 71)
    (hok : RunOk c s) (hov : s.ov = false) (hown : W.ownsRow (S+1) 45 2 (.slice to s.told.length tc) s.told.length (flatT s.told)) :
    Calls Try.prog 31 #[.pointer (some ⟨S, 0, none⟩)] W fun e w' => e = .returned (.tuple #[]) ∧ (∃ to' tc', Blk w' S (stA (.slice lo c.l.length lc) (.slice ho c.h.length hc) (stepS c s) (.slice to' (stepS c s).told.length tc')) 71 ∧ w'.ownsRow (S+1) 45 2 (.slice to' (stepS c s).told.length tc') (stepS c s).told.length (flatT (stepS c s).told)) ∧ Below S W w' := by
  obtain ⟨v1, v2, v3, v4, v5⟩ := codeV_ins hv
  have hat : s.at_ < c.l.length := by rcases hok.lt with h | h; exact h; rw [hov] at h; cases h
  have hcd1 := hcd.old hbel
  obtain ⟨ad, had, e0, e1, e2, e3⟩ := hcd1.l.cell hat
  have hx := v4 _ hat
  obtain ⟨x, hxx⟩ : ∃ x, x = c.l.getD s.at_ default := ⟨_, rfl⟩
  rw [← hxx] at e0 e1 e2 e3 hx
  have c0 : W.cell? ⟨S, 0, none⟩ = some (.slice lo c.l.length lc) := hb.cell 0 stA_0
  have c42 : W.cell? ⟨S, 42, none⟩ = some (.int .i64 s.at_) := hb.cell 42 (by rw [show 42 = 42 + 0 from rfl, stA_t hok.len]; rfl)
  have hatl : (s.at_ : Int) < c.l.length := by omega
  have HB := Lib.hid hb
  have HC := Lib.hid hcd1
  have HO := Lib.hid hown
  have HK := Lib.hid hok
  have HX := Lib.hid hxx
  have HV := Lib.hid hx
  have HAd := Lib.hid had
  have HL5 := Lib.hid v5
  have HV3 := Lib.hid v3
  have HOV := Lib.hid hov
  have HC0 := Lib.hid hcd
  have HBEL := Lib.hid hbel
  clear hb hcd1 hown hok hxx hx hbel hv v4 v5 hcd v3 hov
  subst had
  go_enter Try.func31, Try.ntmps31
  go_wp2
  refine wp_held_tail (fun w => w.cell? ⟨S, 0, none⟩ = some (.slice (some ad) c.l.length lc) ∧ w.cell? ⟨S, 42, none⟩ = some (.int .i64 s.at_) ∧ w.cell? (ad.add (s.at_ * 4)) = some (.int .i64 x.d) ∧ w.cell? ⟨(ad.add (s.at_ * 4)).block, (ad.add (s.at_ * 4)).off + 1, none⟩ = some (.int .i64 x.a) ∧ w.cell? ⟨(ad.add (s.at_ * 4)).block, (ad.add (s.at_ * 4)).off + 2, none⟩ = some (.int .i64 x.b) ∧ w.cell? ⟨(ad.add (s.at_ * 4)).block, (ad.add (s.at_ * 4)).off + 3, none⟩ = some (.int .i64 x.c)) 11 (by kernel_rfl) (by kernel_rfl) (by intro c a d v w h; cases d <;> exact h) ⟨c0, c42, e0, e1, e2, e3⟩ ?_
  simp only [List.take_succ_cons, List.take_zero, List.drop_succ_cons, List.drop_zero]
  repeat ((first | (apply Exists.intro; refine ⟨Or.inl ⟨by rfl, ?_⟩, ?_⟩; focus (intro w hSw; (try dsimp only at hSw); go_simp; (try with_reducible rfl); done)) | (refine ⟨_, Or.inr ⟨by rfl, rfl⟩, ?_⟩)); (try simp only [Act.put, List.setIfInBounds_toArray, List.set_cons_zero, List.set_cons_succ]))
  refine wpHead_mid _ (by rfl) (by rfl) fun K hK => ?_
  go_simp
  refine hK _ _ ?_
  clear hK K
  refine ⟨⟨cell_alloc c0 _, cell_alloc c42 _, cell_alloc e0 _, cell_alloc e1 _, cell_alloc e2 _, cell_alloc e3 _⟩, ?_⟩
  go_wp2_with fail
  have hbA : Below W.heap.size W (W.alloc (.cells #[.int .i64 x.d, .int .i64 x.a, .int .i64 x.b, .int .i64 x.c] 60)).drew := ((Below.refl W.heap.size W).alloc (Nat.le_refl _) _).drew
  have hR : Blk (W.alloc (.cells #[.int .i64 x.d, .int .i64 x.a, .int .i64 x.b, .int .i64 x.c] 60)).drew W.heap.size #[.int .i64 x.d, .int .i64 x.a, .int .i64 x.b, .int .i64 x.c] 60 := (Blk.new _ _ _).drew
  refine (rCost_any x _).mono ?_
  rintro e w1 ⟨rfl, hb1⟩
  have hHL1 : Below S W w1 := (hbA.trans (hb1.mono hbA.size)).mono (Nat.le_of_lt HB.out.lt)
  have M1 : Mid S W.heap.size (.slice (some ad) c.l.length lc) (.slice ho c.h.length hc) (.slice to s.told.length tc) x W s w1 := ⟨(HB.out.old hbA).old hb1, hR.old hb1, own_old (own_old HO.out hbA) hb1, hHL1⟩
  have hRS : S < W.heap.size := HB.out.lt
  clear hbA hR hb1 c0 c42 e0 e1 e2 e3 hHL1
  generalize W.heap.size = R at M1 hRS
  obtain ⟨g0, g1, g42, g43, g44, g45, g46, g47, f42, f43, f44, f45, f46, f47, lS⟩ := stFacts M1.st HK.out.len
  obtain ⟨d, a, b, c'⟩ := x
  have r0 : w1.cell? ⟨R, 0, none⟩ = some (.int .i64 d) := M1.reg.cell 0 rfl
  have r1 : w1.cell? ⟨R, 1, none⟩ = some (.int .i64 a) := M1.reg.cell 1 rfl
  have r2 : w1.cell? ⟨R, 2, none⟩ = some (.int .i64 b) := M1.reg.cell 2 rfl
  have r3 : w1.cell? ⟨R, 3, none⟩ = some (.int .i64 c') := M1.reg.cell 3 rfl
  have hRne : R ≠ S := by omega
  have hcw : IntKind.i64.wrap (s.cost + costV d) = s.cost + costV d := IntWalk.i64_in _ (by have := HK.out.cost0; have := HK.out.cost1; have := costV_range d; omega)
  have haw : IntKind.i64.wrap ((s.at_ : Int) + 1) = s.at_ + 1 := IntWalk.i64_in _ (by omega)
  have HM := Lib.hid M1
  clear M1
  dsimp only
  rcases (show d = 0 ∨ d = 1 ∨ d = 2 ∨ d = 4 ∨ d = 5 ∨ d = 6 ∨ d = 7 ∨ d = 8 ∨ d = 11 ∨ d = 12 ∨ d = 13 ∨ d = 14 ∨ d = 15 ∨ d = 16 ∨ ¬ (d = 0 ∨ d = 1 ∨ d = 2 ∨ d = 4 ∨ d = 5 ∨ d = 6 ∨ d = 7 ∨ d = 8 ∨ d = 11 ∨ d = 12 ∨ d = 13 ∨ d = 14 ∨ d = 15 ∨ d = 16) by omega) with rfl | rfl | rfl | rfl | rfl | rfl | rfl | rfl | rfl | rfl | rfl | rfl | rfl | rfl | hd
  · have hv1 := HV.out
    simp [insV, inB] at hv1
    by_cases ha : 0 ≤ a
    · obtain ⟨ia, rfl⟩ : ∃ ia : Nat, a = ia := ⟨a.toNat, by omega⟩
      have hia : (ia : Int) < 40 := by omega
      have HS := Lib.hid (show stepS c s = { s with cost := s.cost + costV 0, ov := true, res := s.ws.getD ia 0 } by unfold stepS; rw [← HX.out]; simp)
      clear hv1
      go_wp2_with fail
      have M2 := (HM.out.set (s' := { s with cost := s.cost + costV 0 }) hRS 46 (stA_46 HK.out.len _) rfl).set (s' := { s with cost := s.cost + costV 0, ov := true }) hRS 43 (stA_43 (s := { s with cost := s.cost + costV 0 }) HK.out.len true) rfl
      clear r0 r1 r2 r3 g0 g1 g42 g43 g44 g45 g46 g47 f42 f43 f44 f45 f46 f47 lS HM
      generalize ((w1.setCell ⟨S, 46, none⟩ (.int .i64 (s.cost + costV 0))).setCell ⟨S, 43, none⟩ (.bool true)) = w2 at M2
      have r1 : w2.cell? ⟨R, 1, none⟩ = some (.int .i64 ia) := M2.reg.cell 1 rfl
      have xia : w2.cell? ⟨S, 2 + ia, none⟩ = some (.int .i64 (s.ws.getD ia 0)) := M2.st.cell (2 + ia) (stA_w (s := { s with cost := s.cost + costV 0, ov := true }) HK.out.len (by omega))
      obtain ⟨g0, g1, g42, g43, g44, g45, g46, g47, f42, f43, f44, f45, f46, f47, lS⟩ := stFacts M2.st (by simpa using HK.out.len)
      generalize s.ws.getD ia 0 = z at *
      have HM2 := Lib.hid M2
      clear M2
      refine wp_still_tail 11 (by kernel_rfl) (by kernel_rfl) ?_
      simp only [List.take_succ_cons, List.take_zero, List.drop_succ_cons, List.drop_zero]
      repeat still_step
      refine wpStill_nil ?_
      (refine wpList_one (by rfl) fun K hK => ?_; go_simp; refine hK _ _ ?_; clear hK K)
      go_wp2
      have M3 := (HM2.out.set (s' := { s with cost := s.cost + costV 0, ov := true, res := z }) hRS 44 (stA_44 (s := { s with cost := s.cost + costV 0, ov := true }) HK.out.len z) rfl).drew
      refine bodyPost_ret (v := .tuple #[]) (by simp [results, Try.results31, go_sem]) rfl ⟨rfl, ?_⟩
      rw [HS.out]
      exact ⟨⟨to, tc, M3.st, M3.own⟩, M3.bel⟩
    · have HS := Lib.hid (show stepS c s = { s with cost := s.cost + costV 0, ov := true } by unfold stepS; rw [← HX.out]; simp; omega)
      clear hv1
      go_wp2
      have M3 := (HM.out.set (s' := { s with cost := s.cost + costV 0 }) hRS 46 (stA_46 HK.out.len _) rfl).set (s' := { s with cost := s.cost + costV 0, ov := true }) hRS 43 (stA_43 (s := { s with cost := s.cost + costV 0 }) HK.out.len true) rfl
      refine bodyPost_ret (v := .tuple #[]) (by simp [results, Try.results31, go_sem]) rfl ⟨rfl, ?_⟩
      rw [HS.out]
      exact ⟨⟨to, tc, M3.st, M3.own⟩, M3.bel⟩
  · have hv1 := HV.out
    simp [insV, rgB, inB] at hv1
    obtain ⟨ia, rfl⟩ : ∃ ia : Nat, a = ia := ⟨a.toNat, by omega⟩
    have hia : (ia : Int) < 40 := by omega
    have HS := Lib.hid (show stepS c s = goS c (s.at_ + 1) { s with cost := s.cost + costV 1, ws := s.ws.set ia b } by unfold stepS; rw [← HX.out]; simp)
    clear hv1
    go_wp2_with fail
    have M2 := HM.out.set (s' := { s with cost := s.cost + costV 1 }) hRS 46 (stA_46 HK.out.len _) rfl
    clear r0 r1 r2 r3 g0 g1 g42 g43 g44 g45 g46 g47 f42 f43 f44 f45 f46 f47 lS HM
    generalize (w1.setCell ⟨S, 46, none⟩ (.int .i64 (s.cost + costV 1))) = w2 at M2
    have r1 : w2.cell? ⟨R, 1, none⟩ = some (.int .i64 ia) := M2.reg.cell 1 rfl
    have r2 : w2.cell? ⟨R, 2, none⟩ = some (.int .i64 b) := M2.reg.cell 2 rfl
    have xia : w2.cell? ⟨S, 2 + ia, none⟩ = some (.int .i64 (s.ws.getD ia 0)) := M2.st.cell (2 + ia) (stA_w (s := { s with cost := s.cost + costV 1 }) HK.out.len (by omega))
    have HM2 := Lib.hid M2
    clear M2
    refine wp_still_tail 8 (by kernel_rfl) (by kernel_rfl) ?_
    simp only [List.take_succ_cons, List.take_zero, List.drop_succ_cons, List.drop_zero]
    repeat still_step
    refine wpStill_nil ?_
    have y1 : w2.frozen? ⟨S, 2 + ia, none⟩ = false := HM2.out.st.frozen _
    have z1 : S < w2.heap.size := HM2.out.st.lt
    (refine wpList_one (by rfl) fun K hK => ?_; go_simp; refine hK _ _ ?_; clear hK K)
    have M3 := (HM2.out.set (s' := { s with cost := s.cost + costV 1, ws := s.ws.set ia b }) hRS (2 + ia) (stA_set_w (s := { s with cost := s.cost + costV 1 }) HK.out.len (by omega) b) rfl).drew
    clear r1 r2 xia y1 z1 HM2
    generalize (w2.setCell ⟨S, 2 + ia, none⟩ (.int .i64 b)).drew = w3 at M3
    obtain ⟨g0, g1, g42, g43, g44, g45, g46, g47, f42, f43, f44, f45, f46, f47, lS⟩ := stFacts M3.st (by simpa using HK.out.len)
    have HM3 := Lib.hid M3
    clear M3
    go_wp2
    refine bodyPost_end (v := .tuple #[]) (by simp [results, Try.results31, go_sem]) rfl ⟨rfl, ?_⟩
    have M4 := HM3.out.goes hRS (by simpa using HK.out.len) c (s.at_ + 1) (v := .int .i64 (s.at_ + 1)) (by simp) (q := .bool (decide ((c.l.length : Int) ≤ s.at_ + 1))) (by congr 1; exact decide_eq_decide.2 (by omega))
    rw [HS.out]
    exact ⟨⟨to, tc, M4.st, M4.own⟩, M4.bel⟩
  · have hv1 := HV.out
    simp [insV, rgB, inB] at hv1
    obtain ⟨ia, rfl⟩ : ∃ ia : Nat, a = ia := ⟨a.toNat, by omega⟩
    have hia : (ia : Int) < 40 := by omega
    obtain ⟨ib, rfl⟩ : ∃ ib : Nat, b = ib := ⟨b.toNat, by omega⟩
    have hib : (ib : Int) < 40 := by omega
    have HS := Lib.hid (show stepS c s = goS c (s.at_ + 1) { s with cost := s.cost + costV 2, ws := s.ws.set ia (s.ws.getD ib 0) } by unfold stepS; rw [← HX.out]; simp)
    clear hv1
    go_wp2_with fail
    have M2 := HM.out.set (s' := { s with cost := s.cost + costV 2 }) hRS 46 (stA_46 HK.out.len _) rfl
    clear r0 r1 r2 r3 g0 g1 g42 g43 g44 g45 g46 g47 f42 f43 f44 f45 f46 f47 lS HM
    generalize (w1.setCell ⟨S, 46, none⟩ (.int .i64 (s.cost + costV 2))) = w2 at M2
    have r1 : w2.cell? ⟨R, 1, none⟩ = some (.int .i64 ia) := M2.reg.cell 1 rfl
    have r2 : w2.cell? ⟨R, 2, none⟩ = some (.int .i64 ib) := M2.reg.cell 2 rfl
    have xia : w2.cell? ⟨S, 2 + ia, none⟩ = some (.int .i64 (s.ws.getD ia 0)) := M2.st.cell (2 + ia) (stA_w (s := { s with cost := s.cost + costV 2 }) HK.out.len (by omega))
    have xib : w2.cell? ⟨S, 2 + ib, none⟩ = some (.int .i64 (s.ws.getD ib 0)) := M2.st.cell (2 + ib) (stA_w (s := { s with cost := s.cost + costV 2 }) HK.out.len (by omega))
    generalize hz : s.ws.getD ib 0 = z at *
    have HZ := Lib.hid hz
    clear hz
    have HM2 := Lib.hid M2
    clear M2
    refine wp_still_tail 13 (by kernel_rfl) (by kernel_rfl) ?_
    simp only [List.take_succ_cons, List.take_zero, List.drop_succ_cons, List.drop_zero]
    repeat still_step
    refine wpStill_nil ?_
    have y1 : w2.frozen? ⟨S, 2 + ia, none⟩ = false := HM2.out.st.frozen _
    have z1 : S < w2.heap.size := HM2.out.st.lt
    (refine wpList_one (by rfl) fun K hK => ?_; go_simp; refine hK _ _ ?_; clear hK K)
    have M3 := (HM2.out.set (s' := { s with cost := s.cost + costV 2, ws := s.ws.set ia z }) hRS (2 + ia) (stA_set_w (s := { s with cost := s.cost + costV 2 }) HK.out.len (by omega) z) rfl).drew
    clear r1 r2 xia xib y1 z1 HM2
    generalize (w2.setCell ⟨S, 2 + ia, none⟩ (.int .i64 z)).drew = w3 at M3
    obtain ⟨g0, g1, g42, g43, g44, g45, g46, g47, f42, f43, f44, f45, f46, f47, lS⟩ := stFacts M3.st (by simpa using HK.out.len)
    have HM3 := Lib.hid M3
    clear M3
    go_wp2
    refine bodyPost_end (v := .tuple #[]) (by simp [results, Try.results31, go_sem]) rfl ⟨rfl, ?_⟩
    have M4 := HM3.out.goes hRS (by simpa using HK.out.len) c (s.at_ + 1) (v := .int .i64 (s.at_ + 1)) (by simp) (q := .bool (decide ((c.l.length : Int) ≤ s.at_ + 1))) (by congr 1; exact decide_eq_decide.2 (by omega))
    rw [HS.out]
    exact ⟨⟨to, tc, M4.st, M4.own⟩, M4.bel⟩
  · have hv1 := HV.out
    simp [insV, inB] at hv1
    obtain ⟨ja, rfl⟩ : ∃ ja : Nat, a = ja := ⟨a.toNat, by omega⟩
    have hja : (ja : Int) < c.l.length := by omega
    have HS := Lib.hid (show stepS c s = goS c ja { s with cost := s.cost + costV 4 } by unfold stepS; rw [← HX.out]; simp)
    clear hv1
    go_wp2
    have HM3 := Lib.hid (HM.out.set (s' := { s with cost := s.cost + costV 4 }) hRS 46 (stA_46 HK.out.len _) rfl)
    refine bodyPost_end (v := .tuple #[]) (by simp [results, Try.results31, go_sem]) rfl ⟨rfl, ?_⟩
    have M4 := HM3.out.goes hRS (by simpa using HK.out.len) c (ja) (v := .int .i64 (ja)) (by simp) (q := .bool (decide (c.l.length ≤ ja))) rfl
    rw [HS.out]
    exact ⟨⟨to, tc, M4.st, M4.own⟩, M4.bel⟩
  · have hv1 := HV.out
    simp [insV, rgB, inB] at hv1
    obtain ⟨ja, rfl⟩ : ∃ ja : Nat, a = ja := ⟨a.toNat, by omega⟩
    have hja : (ja : Int) < c.l.length := by omega
    obtain ⟨ib, rfl⟩ : ∃ ib : Nat, b = ib := ⟨b.toNat, by omega⟩
    have hib : (ib : Int) < 40 := by omega
    have HS := Lib.hid (show stepS c s = goS c (if s.ws.getD ib 0 = 0 then ja else s.at_ + 1) { s with cost := s.cost + costV 5 } by unfold stepS; rw [← HX.out]; simp)
    clear hv1
    go_wp2_with fail
    have M2 := HM.out.set (s' := { s with cost := s.cost + costV 5 }) hRS 46 (stA_46 HK.out.len _) rfl
    clear r0 r1 r2 r3 g0 g1 g42 g43 g44 g45 g46 g47 f42 f43 f44 f45 f46 f47 lS HM
    generalize (w1.setCell ⟨S, 46, none⟩ (.int .i64 (s.cost + costV 5))) = w2 at M2
    have r2 : w2.cell? ⟨R, 2, none⟩ = some (.int .i64 ib) := M2.reg.cell 2 rfl
    have xib : w2.cell? ⟨S, 2 + ib, none⟩ = some (.int .i64 (s.ws.getD ib 0)) := M2.st.cell (2 + ib) (stA_w (s := { s with cost := s.cost + costV 5 }) HK.out.len (by omega))
    have hS := HS.out
    clear HS
    generalize s.ws.getD ib 0 = z at xib hS
    have HM2 := Lib.hid M2
    clear M2
    have z1 : S < w2.heap.size := HM2.out.st.lt
    refine wp_still_all (by kernel_rfl) (by kernel_rfl) ?_
    repeat still_step
    refine wpStill_nil ?_
    clear r2 xib z1
    have M3 := HM2.out.drew
    generalize w2.drew = w3 at M3
    have r1 : w3.cell? ⟨R, 1, none⟩ = some (.int .i64 ja) := M3.reg.cell 1 rfl
    obtain ⟨g0, g1, g42, g43, g44, g45, g46, g47, f42, f43, f44, f45, f46, f47, lS⟩ := stFacts M3.st (by simpa using HK.out.len)
    have HM3 := Lib.hid M3
    clear M3 HM2
    by_cases hw : z = 0
    · rw [if_pos hw] at hS
      have HS := Lib.hid hS
      clear hS
      go_wp2
      refine bodyPost_end (v := .tuple #[]) (by simp [results, Try.results31, go_sem]) rfl ⟨rfl, ?_⟩
      have M4 := HM3.out.goes hRS (by simpa using HK.out.len) c (ja) (v := .int .i64 (ja)) (by simp) (q := .bool (decide (c.l.length ≤ ja))) rfl
      rw [HS.out]
      exact ⟨⟨to, tc, M4.st, M4.own⟩, M4.bel⟩
    · rw [if_neg hw] at hS
      have HS := Lib.hid hS
      clear hS
      go_wp2
      refine bodyPost_end (v := .tuple #[]) (by simp [results, Try.results31, go_sem]) rfl ⟨rfl, ?_⟩
      have M4 := HM3.out.goes hRS (by simpa using HK.out.len) c (s.at_ + 1) (v := .int .i64 (s.at_ + 1)) (by simp) (q := .bool (decide ((c.l.length : Int) ≤ s.at_ + 1))) (by congr 1; exact decide_eq_decide.2 (by omega))
      rw [HS.out]
      exact ⟨⟨to, tc, M4.st, M4.own⟩, M4.bel⟩
  · have hv1 := HV.out
    simp [insV, rgB, inB] at hv1
    obtain ⟨ib, rfl⟩ : ∃ ib : Nat, b = ib := ⟨b.toNat, by omega⟩
    have hib : (ib : Int) < 40 := by omega
    have HS := Lib.hid (show stepS c s = goS c (s.at_ + 1) { s with cost := s.cost + costV 6, told := s.told ++ [(a, s.ws.getD ib 0)] } by unfold stepS; rw [← HX.out]; simp)
    clear hv1
    go_wp2_with fail
    have M2 := HM.out.set (s' := { s with cost := s.cost + costV 6 }) hRS 46 (stA_46 HK.out.len _) rfl
    clear r0 r1 r2 r3 g0 g1 g42 g43 g44 g45 g46 g47 f42 f43 f44 f45 f46 f47 lS HM
    generalize (w1.setCell ⟨S, 46, none⟩ (.int .i64 (s.cost + costV 6))) = w2 at M2
    have r1 : w2.cell? ⟨R, 1, none⟩ = some (.int .i64 a) := M2.reg.cell 1 rfl
    have r2 : w2.cell? ⟨R, 2, none⟩ = some (.int .i64 ib) := M2.reg.cell 2 rfl
    have xib : w2.cell? ⟨S, 2 + ib, none⟩ = some (.int .i64 (s.ws.getD ib 0)) := M2.st.cell (2 + ib) (stA_w (s := { s with cost := s.cost + costV 6 }) HK.out.len (by omega))
    have g47 : w2.cell? ⟨S, 47, none⟩ = some (.slice to s.told.length tc) := (stFacts M2.st (by simpa using HK.out.len)).2.2.2.2.2.2.2.1
    have hS := HS.out
    clear HS
    generalize s.ws.getD ib 0 = z at xib hS
    have HS := Lib.hid hS
    clear hS
    have HM2 := Lib.hid M2
    clear M2
    have z1 : S < w2.heap.size := HM2.out.st.lt
    refine wp_held_tails (fun w => w.cell? ⟨R, 1, none⟩ = some (.int .i64 a) ∧ w.cell? ⟨R, 2, none⟩ = some (.int .i64 ib) ∧ w.cell? ⟨S, 2 + ib, none⟩ = some (.int .i64 z) ∧ w.cell? ⟨S, 47, none⟩ = some (.slice to s.told.length tc)) 16 2 (by kernel_rfl) (by kernel_rfl) (by intro c a d v w h; cases d <;> exact h) ⟨r1, r2, xib, g47⟩ ?_
    simp only [List.take_succ_cons, List.take_zero, List.drop_succ_cons, List.drop_zero]
    repeat ((first | (apply Exists.intro; refine ⟨Or.inl ⟨by rfl, ?_⟩, ?_⟩; focus (intro w hSw; (try dsimp only at hSw); go_simp; (try with_reducible rfl); done)) | (refine ⟨_, Or.inr ⟨by rfl, rfl⟩, ?_⟩)); (try simp only [Act.put, List.setIfInBounds_toArray, List.set_cons_zero, List.set_cons_succ]))
    refine wpHead_nil ?_
    refine wpMids_one _ (by rfl) (by rfl) fun K hK => ?_
    go_simp
    refine hK _ _ ?_ ?_
    exact ⟨cell_alloc r1 _, cell_alloc r2 _, cell_alloc xib _, cell_alloc g47 _⟩
    clear hK K
    have htl := HK.out.told
    refine wpMids_one _ (by rfl) (by rfl) fun K hK => ?_
    refine wp_append_sl (.tmp 141) (.tmp 152) 32 rfl (S+1) 45 2 16 elTold (.slice to s.told.length tc) s.told.length (flatT s.told) rfl (HM2.out.own.alloc _) _ 1 1 (flatT [(a, z)]) rfl (sla_built w2.drew #[.int .i64 a, .int .i64 z] 45 rfl) (flatT_one _) (by decide) (by omega) (by unfold maxLen; omega) (by simp; omega) ?_
    intro ao' cap' w3 hown3 hg3
    have M5 := HM2.out.told hRS (by simpa using HK.out.len) rfl hg3 hown3
    have st3 : Blk w3 S _ 71 := ((HM2.out.st.alloc _).drew).grown hg3 (own_ne HM2.out.own (by omega))
    have rg3 : Blk w3 R _ 60 := ((HM2.out.reg.alloc _).drew).grown hg3 (blk_not_own HM2.out.reg HM2.out.own (by decide))
    have z3 := st3.lt
    have y3 := st3.frozen 47
    have q3 : w3.cell? ⟨S, 47, none⟩ = some (.slice to s.told.length tc) := (stFacts st3 (by simpa using HK.out.len)).2.2.2.2.2.2.2.1
    have q1 : w3.cell? ⟨R, 1, none⟩ = some (.int .i64 a) := rg3.cell 1 rfl
    have q2 : w3.cell? ⟨R, 2, none⟩ = some (.int .i64 ib) := rg3.cell 2 rfl
    have q4 : w3.cell? ⟨S, 2 + ib, none⟩ = some (.int .i64 z) := (World.cell?_of_block (a := ⟨S, 2 + ib, none⟩) (hg3.block S (by simp; omega) (own_ne HM2.out.own (by omega)))).trans (cell_alloc xib _)
    refine hK _ _ ?_ ?_
    exact ⟨q1, q2, q4, q3⟩
    clear hK K hown3 hg3 r1 r2 xib g47 z1 st3 rg3 q1 q2 q4
    show wpList _ _ _ _ _ _
    (refine wpList_one (by rfl) fun K hK => ?_; go_simp; refine hK _ _ ?_; clear hK K)
    (refine wpList_one (by rfl) fun K hK => ?_; go_simp; refine hK _ _ ?_; clear hK K)
    (refine wpList_one (by rfl) fun K hK => ?_; go_simp; refine hK _ _ ?_; clear hK K)
    (refine wpList_one (by rfl) fun K hK => ?_; go_simp; refine hK _ _ ?_; clear hK K)
    generalize (w3.setCell ⟨S, 47, none⟩ (.slice ao' (s.told.length + 1) cap')) = w4 at M5
    obtain ⟨g0, g1, g42, g43, g44, g45, g46, g47, f42, f43, f44, f45, f46, f47, lS⟩ := stFacts M5.st (by simpa using HK.out.len)
    have HM5 := Lib.hid M5
    clear M5 q3 z3 y3
    go_wp2
    refine bodyPost_end (v := .tuple #[]) (by simp [results, Try.results31, go_sem]) rfl ⟨rfl, ?_⟩
    have M4 := HM5.out.goes hRS (by simpa using HK.out.len) c (s.at_ + 1) (v := .int .i64 (s.at_ + 1)) (by simp) (q := .bool (decide ((c.l.length : Int) ≤ s.at_ + 1))) (by congr 1; exact decide_eq_decide.2 (by omega))
    rw [HS.out]
    refine ⟨⟨ao', cap', ?_, ?_⟩, M4.bel⟩
    · simpa [goS] using M4.st
    · simpa [goS] using M4.own
  · have HS := Lib.hid (show stepS c s = trapS c { s with cost := s.cost + costV 7 } a by unfold stepS; rw [← HX.out]; simp)
    go_wp2_with fail
    have M2 := HM.out.set (s' := { s with cost := s.cost + costV 7 }) hRS 46 (stA_46 HK.out.len _) rfl
    clear r0 r1 r2 r3 g0 g1 g42 g43 g44 g45 g46 g47 f42 f43 f44 f45 f46 f47 lS HM
    generalize (w1.setCell ⟨S, 46, none⟩ (.int .i64 (s.cost + costV 7))) = w2 at M2
    have hb2 := M2.bel
    have hS2 := (HC0.out.old (HBEL.out.trans (hb2.mono hsz))).h
    refine (trap_any w2 S c _ ho hc { s with cost := s.cost + costV 7 } _ a M2.st HK.out.len hS2 (by show s.at_ < _; have := HV3.out; omega) (by have := HV3.out; omega)).mono ?_
    rintro e w3 ⟨rfl, hB3, hb3, hk3⟩
    have hO3 := Lib.hid (own_keep M2.own hk3)
    have HB3 := Lib.hid hB3
    have HBB := Lib.hid (hb2.trans hb3)
    clear hB3 hb3 hk3 hb2 hS2
    go_wp2
    refine bodyPost_ret (v := .tuple #[]) (by simp [results, Try.results31, go_sem]) rfl ⟨rfl, ?_⟩
    rw [HS.out, show (trapS c { s with cost := s.cost + costV 7 } a).told = s.told by unfold trapS; split <;> rfl]
    exact ⟨⟨to, tc, HB3.out, hO3.out⟩, HBB.out⟩
  · have hv1 := HV.out
    simp [insV, rgB, inB] at hv1
    obtain ⟨ja, rfl⟩ : ∃ ja : Nat, a = ja := ⟨a.toNat, by omega⟩
    have hja : (ja : Int) < c.l.length := by omega
    obtain ⟨ib, rfl⟩ : ∃ ib : Nat, b = ib := ⟨b.toNat, by omega⟩
    have hib : (ib : Int) < 40 := by omega
    obtain ⟨ic, rfl⟩ : ∃ ic : Nat, c' = ic := ⟨c'.toNat, by omega⟩
    have hic : (ic : Int) < 40 := by omega
    have HS := Lib.hid (show stepS c s = goS c (if s.ws.getD ib 0 < s.ws.getD ic 0 then ja else s.at_ + 1) { s with cost := s.cost + costV 8 } by unfold stepS; rw [← HX.out]; simp)
    clear hv1
    go_wp2_with fail
    have M2 := HM.out.set (s' := { s with cost := s.cost + costV 8 }) hRS 46 (stA_46 HK.out.len _) rfl
    clear r0 r1 r2 r3 g0 g1 g42 g43 g44 g45 g46 g47 f42 f43 f44 f45 f46 f47 lS HM
    generalize (w1.setCell ⟨S, 46, none⟩ (.int .i64 (s.cost + costV 8))) = w2 at M2
    have r2 : w2.cell? ⟨R, 2, none⟩ = some (.int .i64 ib) := M2.reg.cell 2 rfl
    have r3 : w2.cell? ⟨R, 3, none⟩ = some (.int .i64 ic) := M2.reg.cell 3 rfl
    have xib : w2.cell? ⟨S, 2 + ib, none⟩ = some (.int .i64 (s.ws.getD ib 0)) := M2.st.cell (2 + ib) (stA_w (s := { s with cost := s.cost + costV 8 }) HK.out.len (by omega))
    have xic : w2.cell? ⟨S, 2 + ic, none⟩ = some (.int .i64 (s.ws.getD ic 0)) := M2.st.cell (2 + ic) (stA_w (s := { s with cost := s.cost + costV 8 }) HK.out.len (by omega))
    have hS := HS.out
    clear HS
    generalize s.ws.getD ib 0 = z at xib hS
    generalize s.ws.getD ic 0 = y at xic hS
    have HM2 := Lib.hid M2
    clear M2
    have z1 : S < w2.heap.size := HM2.out.st.lt
    refine wp_still_all (by kernel_rfl) (by kernel_rfl) ?_
    repeat still_step
    refine wpStill_nil ?_
    clear r2 r3 xib xic z1
    have M3 := HM2.out.drew
    generalize w2.drew = w3 at M3
    have r1 : w3.cell? ⟨R, 1, none⟩ = some (.int .i64 ja) := M3.reg.cell 1 rfl
    obtain ⟨g0, g1, g42, g43, g44, g45, g46, g47, f42, f43, f44, f45, f46, f47, lS⟩ := stFacts M3.st (by simpa using HK.out.len)
    have HM3 := Lib.hid M3
    clear M3 HM2
    by_cases hw : z < y
    · rw [if_pos hw] at hS
      have HS := Lib.hid hS
      clear hS
      go_wp2
      refine bodyPost_end (v := .tuple #[]) (by simp [results, Try.results31, go_sem]) rfl ⟨rfl, ?_⟩
      have M4 := HM3.out.goes hRS (by simpa using HK.out.len) c (ja) (v := .int .i64 (ja)) (by simp) (q := .bool (decide (c.l.length ≤ ja))) rfl
      rw [HS.out]
      exact ⟨⟨to, tc, M4.st, M4.own⟩, M4.bel⟩
    · rw [if_neg hw] at hS
      have HS := Lib.hid hS
      clear hS
      go_wp2
      refine bodyPost_end (v := .tuple #[]) (by simp [results, Try.results31, go_sem]) rfl ⟨rfl, ?_⟩
      have M4 := HM3.out.goes hRS (by simpa using HK.out.len) c (s.at_ + 1) (v := .int .i64 (s.at_ + 1)) (by simp) (q := .bool (decide ((c.l.length : Int) ≤ s.at_ + 1))) (by congr 1; exact decide_eq_decide.2 (by omega))
      rw [HS.out]
      exact ⟨⟨to, tc, M4.st, M4.own⟩, M4.bel⟩
  · have hv1 := HV.out
    simp [insV, rgB, inB] at hv1
    obtain ⟨ia, rfl⟩ : ∃ ia : Nat, a = ia := ⟨a.toNat, by omega⟩
    have hia : (ia : Int) < 40 := by omega
    obtain ⟨ib, rfl⟩ : ∃ ib : Nat, b = ib := ⟨b.toNat, by omega⟩
    have hib : (ib : Int) < 40 := by omega
    obtain ⟨ic, rfl⟩ : ∃ ic : Nat, c' = ic := ⟨c'.toNat, by omega⟩
    have hic : (ic : Int) < 40 := by omega
    have HS := Lib.hid (show stepS c s = goS c (s.at_ + 1) { s with cost := s.cost + costV 11, ws := s.ws.set ia (calcV 11 (s.ws.getD ib 0) (s.ws.getD ic 0)) } by unfold stepS; rw [← HX.out]; simp)
    clear hv1
    go_wp2_with fail
    have M2 := HM.out.set (s' := { s with cost := s.cost + costV 11 }) hRS 46 (stA_46 HK.out.len _) rfl
    clear r0 r1 r2 r3 g0 g1 g42 g43 g44 g45 g46 g47 f42 f43 f44 f45 f46 f47 lS HM
    generalize (w1.setCell ⟨S, 46, none⟩ (.int .i64 (s.cost + costV 11))) = w2 at M2
    have r0 : w2.cell? ⟨R, 0, none⟩ = some (.int .i64 11) := M2.reg.cell 0 rfl
    have r2 : w2.cell? ⟨R, 2, none⟩ = some (.int .i64 ib) := M2.reg.cell 2 rfl
    have r3 : w2.cell? ⟨R, 3, none⟩ = some (.int .i64 ic) := M2.reg.cell 3 rfl
    have xib : w2.cell? ⟨S, 2 + ib, none⟩ = some (.int .i64 (s.ws.getD ib 0)) := M2.st.cell (2 + ib) (stA_w (s := { s with cost := s.cost + costV 11 }) HK.out.len (by omega))
    have xic : w2.cell? ⟨S, 2 + ic, none⟩ = some (.int .i64 (s.ws.getD ic 0)) := M2.st.cell (2 + ic) (stA_w (s := { s with cost := s.cost + costV 11 }) HK.out.len (by omega))
    have hS := HS.out
    clear HS
    have hvz := HK.out.wd ib (by omega)
    have hvy := HK.out.wd ic (by omega)
    generalize s.ws.getD ib 0 = z at xib hS hvz
    generalize s.ws.getD ic 0 = y at xic hS hvy
    have HM2 := Lib.hid M2
    clear M2
    have HS := Lib.hid hS
    clear hS
    have z1 : S < w2.heap.size := HM2.out.st.lt
    have hvv := Lib.hid (show (vB z && vB y) = true by rw [hvz, hvy]; rfl)
    clear hvz hvy
    refine wp_region_quiet_lit (by kernel_rfl) (by kernel_rfl) ?_
    repeat (first | go_big_quiet_step (exact Calls.quiet_of_same (Calls.mono (calc_ok _ _ _ _ (by omega) (by omega) hvv.out (fun h => absurd h (by decide))) fun e w' h => ⟨h.1, h.2.symm⟩)) | quiet_step (exact Calls.quiet_of_same (Calls.mono (calc_ok _ _ _ _ (by omega) (by omega) hvv.out (fun h => absurd h (by decide))) fun e w' h => ⟨h.1, h.2.symm⟩)))
    refine wpQuiet_nil ?_
    rintro _ ⟨nq, rfl⟩
    have M3 := HM2.out.drewN nq
    clear r0 r2 r3 xib xic z1 HM2
    generalize w2.drewN nq = w3 at M3
    go_wp2_with fail
    have r1 : w3.cell? ⟨R, 1, none⟩ = some (.int .i64 ia) := M3.reg.cell 1 rfl
    have xia : w3.cell? ⟨S, 2 + ia, none⟩ = some (.int .i64 (s.ws.getD ia 0)) := M3.st.cell (2 + ia) (stA_w (s := { s with cost := s.cost + costV 11 }) HK.out.len (by omega))
    generalize hq : calcV 11 z y = q at *
    have HQ := Lib.hid hq
    clear hq
    have HM3 := Lib.hid M3
    clear M3
    refine wp_still_tail 7 (by kernel_rfl) (by kernel_rfl) ?_
    simp only [List.take_succ_cons, List.take_zero, List.drop_succ_cons, List.drop_zero]
    repeat still_step
    refine wpStill_nil ?_
    have y1 : w3.frozen? ⟨S, 2 + ia, none⟩ = false := HM3.out.st.frozen _
    have z1 : S < w3.heap.size := HM3.out.st.lt
    (refine wpList_one (by rfl) fun K hK => ?_; go_simp; refine hK _ _ ?_; clear hK K)
    have M5 := (HM3.out.set (s' := { s with cost := s.cost + costV 11, ws := s.ws.set ia q }) hRS (2 + ia) (stA_set_w (s := { s with cost := s.cost + costV 11 }) HK.out.len (by omega) q) rfl).drew
    clear r1 xia y1 z1 HM3
    generalize (w3.setCell ⟨S, 2 + ia, none⟩ (.int .i64 q)).drew = w4 at M5
    obtain ⟨g0, g1, g42, g43, g44, g45, g46, g47, f42, f43, f44, f45, f46, f47, lS⟩ := stFacts M5.st (by simpa using HK.out.len)
    have HM5 := Lib.hid M5
    clear M5
    go_wp2
    refine bodyPost_end (v := .tuple #[]) (by simp [results, Try.results31, go_sem]) rfl ⟨rfl, ?_⟩
    have M4 := HM5.out.goes hRS (by simpa using HK.out.len) c (s.at_ + 1) (v := .int .i64 (s.at_ + 1)) (by simp) (q := .bool (decide ((c.l.length : Int) ≤ s.at_ + 1))) (by congr 1; exact decide_eq_decide.2 (by omega))
    rw [HS.out]
    exact ⟨⟨to, tc, M4.st, M4.own⟩, M4.bel⟩
  · have hv1 := HV.out
    simp [insV, rgB, inB] at hv1
    obtain ⟨ia, rfl⟩ : ∃ ia : Nat, a = ia := ⟨a.toNat, by omega⟩
    have hia : (ia : Int) < 40 := by omega
    obtain ⟨ib, rfl⟩ : ∃ ib : Nat, b = ib := ⟨b.toNat, by omega⟩
    have hib : (ib : Int) < 40 := by omega
    obtain ⟨ic, rfl⟩ : ∃ ic : Nat, c' = ic := ⟨c'.toNat, by omega⟩
    have hic : (ic : Int) < 40 := by omega
    have HS := Lib.hid (show stepS c s = goS c (s.at_ + 1) { s with cost := s.cost + costV 12, ws := s.ws.set ia (calcV 12 (s.ws.getD ib 0) (s.ws.getD ic 0)) } by unfold stepS; rw [← HX.out]; simp)
    clear hv1
    go_wp2_with fail
    have M2 := HM.out.set (s' := { s with cost := s.cost + costV 12 }) hRS 46 (stA_46 HK.out.len _) rfl
    clear r0 r1 r2 r3 g0 g1 g42 g43 g44 g45 g46 g47 f42 f43 f44 f45 f46 f47 lS HM
    generalize (w1.setCell ⟨S, 46, none⟩ (.int .i64 (s.cost + costV 12))) = w2 at M2
    have r0 : w2.cell? ⟨R, 0, none⟩ = some (.int .i64 12) := M2.reg.cell 0 rfl
    have r2 : w2.cell? ⟨R, 2, none⟩ = some (.int .i64 ib) := M2.reg.cell 2 rfl
    have r3 : w2.cell? ⟨R, 3, none⟩ = some (.int .i64 ic) := M2.reg.cell 3 rfl
    have xib : w2.cell? ⟨S, 2 + ib, none⟩ = some (.int .i64 (s.ws.getD ib 0)) := M2.st.cell (2 + ib) (stA_w (s := { s with cost := s.cost + costV 12 }) HK.out.len (by omega))
    have xic : w2.cell? ⟨S, 2 + ic, none⟩ = some (.int .i64 (s.ws.getD ic 0)) := M2.st.cell (2 + ic) (stA_w (s := { s with cost := s.cost + costV 12 }) HK.out.len (by omega))
    have hS := HS.out
    clear HS
    have hvz := HK.out.wd ib (by omega)
    have hvy := HK.out.wd ic (by omega)
    generalize s.ws.getD ib 0 = z at xib hS hvz
    generalize s.ws.getD ic 0 = y at xic hS hvy
    have HM2 := Lib.hid M2
    clear M2
    have HS := Lib.hid hS
    clear hS
    have z1 : S < w2.heap.size := HM2.out.st.lt
    have hvv := Lib.hid (show (vB z && vB y) = true by rw [hvz, hvy]; rfl)
    clear hvz hvy
    refine wp_region_quiet_lit (by kernel_rfl) (by kernel_rfl) ?_
    repeat (first | go_big_quiet_step (exact Calls.quiet_of_same (Calls.mono (calc_ok _ _ _ _ (by omega) (by omega) hvv.out (fun h => absurd h (by decide))) fun e w' h => ⟨h.1, h.2.symm⟩)) | quiet_step (exact Calls.quiet_of_same (Calls.mono (calc_ok _ _ _ _ (by omega) (by omega) hvv.out (fun h => absurd h (by decide))) fun e w' h => ⟨h.1, h.2.symm⟩)))
    refine wpQuiet_nil ?_
    rintro _ ⟨nq, rfl⟩
    have M3 := HM2.out.drewN nq
    clear r0 r2 r3 xib xic z1 HM2
    generalize w2.drewN nq = w3 at M3
    go_wp2_with fail
    have r1 : w3.cell? ⟨R, 1, none⟩ = some (.int .i64 ia) := M3.reg.cell 1 rfl
    have xia : w3.cell? ⟨S, 2 + ia, none⟩ = some (.int .i64 (s.ws.getD ia 0)) := M3.st.cell (2 + ia) (stA_w (s := { s with cost := s.cost + costV 12 }) HK.out.len (by omega))
    generalize hq : calcV 12 z y = q at *
    have HQ := Lib.hid hq
    clear hq
    have HM3 := Lib.hid M3
    clear M3
    refine wp_still_tail 7 (by kernel_rfl) (by kernel_rfl) ?_
    simp only [List.take_succ_cons, List.take_zero, List.drop_succ_cons, List.drop_zero]
    repeat still_step
    refine wpStill_nil ?_
    have y1 : w3.frozen? ⟨S, 2 + ia, none⟩ = false := HM3.out.st.frozen _
    have z1 : S < w3.heap.size := HM3.out.st.lt
    (refine wpList_one (by rfl) fun K hK => ?_; go_simp; refine hK _ _ ?_; clear hK K)
    have M5 := (HM3.out.set (s' := { s with cost := s.cost + costV 12, ws := s.ws.set ia q }) hRS (2 + ia) (stA_set_w (s := { s with cost := s.cost + costV 12 }) HK.out.len (by omega) q) rfl).drew
    clear r1 xia y1 z1 HM3
    generalize (w3.setCell ⟨S, 2 + ia, none⟩ (.int .i64 q)).drew = w4 at M5
    obtain ⟨g0, g1, g42, g43, g44, g45, g46, g47, f42, f43, f44, f45, f46, f47, lS⟩ := stFacts M5.st (by simpa using HK.out.len)
    have HM5 := Lib.hid M5
    clear M5
    go_wp2
    refine bodyPost_end (v := .tuple #[]) (by simp [results, Try.results31, go_sem]) rfl ⟨rfl, ?_⟩
    have M4 := HM5.out.goes hRS (by simpa using HK.out.len) c (s.at_ + 1) (v := .int .i64 (s.at_ + 1)) (by simp) (q := .bool (decide ((c.l.length : Int) ≤ s.at_ + 1))) (by congr 1; exact decide_eq_decide.2 (by omega))
    rw [HS.out]
    exact ⟨⟨to, tc, M4.st, M4.own⟩, M4.bel⟩
  · have hv1 := HV.out
    simp [insV, rgB, inB] at hv1
    obtain ⟨ia, rfl⟩ : ∃ ia : Nat, a = ia := ⟨a.toNat, by omega⟩
    have hia : (ia : Int) < 40 := by omega
    obtain ⟨ib, rfl⟩ : ∃ ib : Nat, b = ib := ⟨b.toNat, by omega⟩
    have hib : (ib : Int) < 40 := by omega
    obtain ⟨ic, rfl⟩ : ∃ ic : Nat, c' = ic := ⟨c'.toNat, by omega⟩
    have hic : (ic : Int) < 40 := by omega
    have HS := Lib.hid (show stepS c s = goS c (s.at_ + 1) { s with cost := s.cost + costV 13, ws := s.ws.set ia (calcV 13 (s.ws.getD ib 0) (s.ws.getD ic 0)) } by unfold stepS; rw [← HX.out]; simp)
    clear hv1
    go_wp2_with fail
    have M2 := HM.out.set (s' := { s with cost := s.cost + costV 13 }) hRS 46 (stA_46 HK.out.len _) rfl
    clear r0 r1 r2 r3 g0 g1 g42 g43 g44 g45 g46 g47 f42 f43 f44 f45 f46 f47 lS HM
    generalize (w1.setCell ⟨S, 46, none⟩ (.int .i64 (s.cost + costV 13))) = w2 at M2
    have r0 : w2.cell? ⟨R, 0, none⟩ = some (.int .i64 13) := M2.reg.cell 0 rfl
    have r2 : w2.cell? ⟨R, 2, none⟩ = some (.int .i64 ib) := M2.reg.cell 2 rfl
    have r3 : w2.cell? ⟨R, 3, none⟩ = some (.int .i64 ic) := M2.reg.cell 3 rfl
    have xib : w2.cell? ⟨S, 2 + ib, none⟩ = some (.int .i64 (s.ws.getD ib 0)) := M2.st.cell (2 + ib) (stA_w (s := { s with cost := s.cost + costV 13 }) HK.out.len (by omega))
    have xic : w2.cell? ⟨S, 2 + ic, none⟩ = some (.int .i64 (s.ws.getD ic 0)) := M2.st.cell (2 + ic) (stA_w (s := { s with cost := s.cost + costV 13 }) HK.out.len (by omega))
    have hS := HS.out
    clear HS
    have hvz := HK.out.wd ib (by omega)
    have hvy := HK.out.wd ic (by omega)
    generalize s.ws.getD ib 0 = z at xib hS hvz
    generalize s.ws.getD ic 0 = y at xic hS hvy
    have HM2 := Lib.hid M2
    clear M2
    have HS := Lib.hid hS
    clear hS
    have z1 : S < w2.heap.size := HM2.out.st.lt
    have hvv := Lib.hid (show (vB z && vB y) = true by rw [hvz, hvy]; rfl)
    clear hvz hvy
    refine wp_region_quiet_lit (by kernel_rfl) (by kernel_rfl) ?_
    repeat (first | go_big_quiet_step (exact Calls.quiet_of_same (Calls.mono (calc_ok _ _ _ _ (by omega) (by omega) hvv.out (fun h => absurd h (by decide))) fun e w' h => ⟨h.1, h.2.symm⟩)) | quiet_step (exact Calls.quiet_of_same (Calls.mono (calc_ok _ _ _ _ (by omega) (by omega) hvv.out (fun h => absurd h (by decide))) fun e w' h => ⟨h.1, h.2.symm⟩)))
    refine wpQuiet_nil ?_
    rintro _ ⟨nq, rfl⟩
    have M3 := HM2.out.drewN nq
    clear r0 r2 r3 xib xic z1 HM2
    generalize w2.drewN nq = w3 at M3
    go_wp2_with fail
    have r1 : w3.cell? ⟨R, 1, none⟩ = some (.int .i64 ia) := M3.reg.cell 1 rfl
    have xia : w3.cell? ⟨S, 2 + ia, none⟩ = some (.int .i64 (s.ws.getD ia 0)) := M3.st.cell (2 + ia) (stA_w (s := { s with cost := s.cost + costV 13 }) HK.out.len (by omega))
    generalize hq : calcV 13 z y = q at *
    have HQ := Lib.hid hq
    clear hq
    have HM3 := Lib.hid M3
    clear M3
    refine wp_still_tail 7 (by kernel_rfl) (by kernel_rfl) ?_
    simp only [List.take_succ_cons, List.take_zero, List.drop_succ_cons, List.drop_zero]
    repeat still_step
    refine wpStill_nil ?_
    have y1 : w3.frozen? ⟨S, 2 + ia, none⟩ = false := HM3.out.st.frozen _
    have z1 : S < w3.heap.size := HM3.out.st.lt
    (refine wpList_one (by rfl) fun K hK => ?_; go_simp; refine hK _ _ ?_; clear hK K)
    have M5 := (HM3.out.set (s' := { s with cost := s.cost + costV 13, ws := s.ws.set ia q }) hRS (2 + ia) (stA_set_w (s := { s with cost := s.cost + costV 13 }) HK.out.len (by omega) q) rfl).drew
    clear r1 xia y1 z1 HM3
    generalize (w3.setCell ⟨S, 2 + ia, none⟩ (.int .i64 q)).drew = w4 at M5
    obtain ⟨g0, g1, g42, g43, g44, g45, g46, g47, f42, f43, f44, f45, f46, f47, lS⟩ := stFacts M5.st (by simpa using HK.out.len)
    have HM5 := Lib.hid M5
    clear M5
    go_wp2
    refine bodyPost_end (v := .tuple #[]) (by simp [results, Try.results31, go_sem]) rfl ⟨rfl, ?_⟩
    have M4 := HM5.out.goes hRS (by simpa using HK.out.len) c (s.at_ + 1) (v := .int .i64 (s.at_ + 1)) (by simp) (q := .bool (decide ((c.l.length : Int) ≤ s.at_ + 1))) (by congr 1; exact decide_eq_decide.2 (by omega))
    rw [HS.out]
    exact ⟨⟨to, tc, M4.st, M4.own⟩, M4.bel⟩
  · have hv1 := HV.out
    simp [insV, rgB, inB] at hv1
    obtain ⟨ia, rfl⟩ : ∃ ia : Nat, a = ia := ⟨a.toNat, by omega⟩
    have hia : (ia : Int) < 40 := by omega
    obtain ⟨ib, rfl⟩ : ∃ ib : Nat, b = ib := ⟨b.toNat, by omega⟩
    have hib : (ib : Int) < 40 := by omega
    obtain ⟨ic, rfl⟩ : ∃ ic : Nat, c' = ic := ⟨c'.toNat, by omega⟩
    have hic : (ic : Int) < 40 := by omega
    have HS := Lib.hid (show stepS c s = (if s.ws.getD ic 0 = 0 then trapS c { s with cost := s.cost + costV 14 } 4 else goS c (s.at_ + 1) { s with cost := s.cost + costV 14, ws := s.ws.set ia (calcV 14 (s.ws.getD ib 0) (s.ws.getD ic 0)) }) by unfold stepS; rw [← HX.out]; simp)
    clear hv1
    go_wp2_with fail
    have M2 := HM.out.set (s' := { s with cost := s.cost + costV 14 }) hRS 46 (stA_46 HK.out.len _) rfl
    clear r0 r1 r2 r3 g0 g1 g42 g43 g44 g45 g46 g47 f42 f43 f44 f45 f46 f47 lS HM
    generalize (w1.setCell ⟨S, 46, none⟩ (.int .i64 (s.cost + costV 14))) = w2 at M2
    have r0 : w2.cell? ⟨R, 0, none⟩ = some (.int .i64 14) := M2.reg.cell 0 rfl
    have r2 : w2.cell? ⟨R, 2, none⟩ = some (.int .i64 ib) := M2.reg.cell 2 rfl
    have r3 : w2.cell? ⟨R, 3, none⟩ = some (.int .i64 ic) := M2.reg.cell 3 rfl
    have xib : w2.cell? ⟨S, 2 + ib, none⟩ = some (.int .i64 (s.ws.getD ib 0)) := M2.st.cell (2 + ib) (stA_w (s := { s with cost := s.cost + costV 14 }) HK.out.len (by omega))
    have xic : w2.cell? ⟨S, 2 + ic, none⟩ = some (.int .i64 (s.ws.getD ic 0)) := M2.st.cell (2 + ic) (stA_w (s := { s with cost := s.cost + costV 14 }) HK.out.len (by omega))
    have hS := HS.out
    clear HS
    have hvz := HK.out.wd ib (by omega)
    have hvy := HK.out.wd ic (by omega)
    generalize s.ws.getD ib 0 = z at xib hS hvz
    generalize s.ws.getD ic 0 = y at xic hS hvy
    by_cases hy : y = 0
    · rw [if_pos hy] at hS
      subst hy
      have HM2 := Lib.hid M2
      clear M2
      have HS := Lib.hid hS
      clear hS
      have z1 : S < w2.heap.size := HM2.out.st.lt
      have hvv := Lib.hid (show (vB z && vB 0) = true by rw [hvz, hvy]; rfl)
      clear hvz hvy
      refine wp_region_quiet_lit (by kernel_rfl) (by kernel_rfl) ?_
      repeat (first | go_big_quiet_step (exact Calls.quiet_of_same (Calls.mono (calc_no _ _) fun e w' h => ⟨h.1, h.2.symm⟩)) | quiet_step (exact Calls.quiet_of_same (Calls.mono (calc_no _ _) fun e w' h => ⟨h.1, h.2.symm⟩)))
      refine wpQuiet_nil ?_
      rintro _ ⟨nq, rfl⟩
      have M3 := HM2.out.drewN nq
      clear r0 r2 r3 xib xic z1 HM2
      generalize w2.drewN nq = w3 at M3
      go_wp2_with fail
      have hb2 := M3.bel
      have hS2 := (HC0.out.old (HBEL.out.trans (hb2.mono hsz))).h
      refine (trap_any w3 S c _ ho hc { s with cost := s.cost + costV 14 } _ 4 M3.st HK.out.len hS2 (by show s.at_ < _; have := HV3.out; omega) (by have := HV3.out; omega)).mono ?_
      rintro e w5 ⟨rfl, hB3, hb3, hk3⟩
      have hO3 := Lib.hid (own_keep M3.own hk3)
      have HB3 := Lib.hid hB3
      have HBB := Lib.hid (hb2.trans hb3)
      clear hB3 hb3 hk3 hb2 hS2
      go_wp2
      refine bodyPost_ret (v := .tuple #[]) (by simp [results, Try.results31, go_sem]) rfl ⟨rfl, ?_⟩
      rw [HS.out, show (trapS c { s with cost := s.cost + costV 14 } 4).told = s.told by unfold trapS; split <;> rfl]
      exact ⟨⟨to, tc, HB3.out, hO3.out⟩, HBB.out⟩
    · rw [if_neg hy] at hS
      have HM2 := Lib.hid M2
      clear M2
      have HS := Lib.hid hS
      clear hS
      have z1 : S < w2.heap.size := HM2.out.st.lt
      have hvv := Lib.hid (show (vB z && vB y) = true by rw [hvz, hvy]; rfl)
      clear hvz hvy
      refine wp_region_quiet_lit (by kernel_rfl) (by kernel_rfl) ?_
      repeat (first | go_big_quiet_step (exact Calls.quiet_of_same (Calls.mono (calc_ok _ _ _ _ (by omega) (by omega) hvv.out (fun _ => hy)) fun e w' h => ⟨h.1, h.2.symm⟩)) | quiet_step (exact Calls.quiet_of_same (Calls.mono (calc_ok _ _ _ _ (by omega) (by omega) hvv.out (fun _ => hy)) fun e w' h => ⟨h.1, h.2.symm⟩)))
      refine wpQuiet_nil ?_
      rintro _ ⟨nq, rfl⟩
      have M3 := HM2.out.drewN nq
      clear r0 r2 r3 xib xic z1 HM2
      generalize w2.drewN nq = w3 at M3
      go_wp2_with fail
      have r1 : w3.cell? ⟨R, 1, none⟩ = some (.int .i64 ia) := M3.reg.cell 1 rfl
      have xia : w3.cell? ⟨S, 2 + ia, none⟩ = some (.int .i64 (s.ws.getD ia 0)) := M3.st.cell (2 + ia) (stA_w (s := { s with cost := s.cost + costV 14 }) HK.out.len (by omega))
      generalize hq : calcV 14 z y = q at *
      have HQ := Lib.hid hq
      clear hq
      have HM3 := Lib.hid M3
      clear M3
      refine wp_still_tail 7 (by kernel_rfl) (by kernel_rfl) ?_
      simp only [List.take_succ_cons, List.take_zero, List.drop_succ_cons, List.drop_zero]
      repeat still_step
      refine wpStill_nil ?_
      have y1 : w3.frozen? ⟨S, 2 + ia, none⟩ = false := HM3.out.st.frozen _
      have z1 : S < w3.heap.size := HM3.out.st.lt
      (refine wpList_one (by rfl) fun K hK => ?_; go_simp; refine hK _ _ ?_; clear hK K)
      have M5 := (HM3.out.set (s' := { s with cost := s.cost + costV 14, ws := s.ws.set ia q }) hRS (2 + ia) (stA_set_w (s := { s with cost := s.cost + costV 14 }) HK.out.len (by omega) q) rfl).drew
      clear r1 xia y1 z1 HM3
      generalize (w3.setCell ⟨S, 2 + ia, none⟩ (.int .i64 q)).drew = w4 at M5
      obtain ⟨g0, g1, g42, g43, g44, g45, g46, g47, f42, f43, f44, f45, f46, f47, lS⟩ := stFacts M5.st (by simpa using HK.out.len)
      have HM5 := Lib.hid M5
      clear M5
      go_wp2
      refine bodyPost_end (v := .tuple #[]) (by simp [results, Try.results31, go_sem]) rfl ⟨rfl, ?_⟩
      have M4 := HM5.out.goes hRS (by simpa using HK.out.len) c (s.at_ + 1) (v := .int .i64 (s.at_ + 1)) (by simp) (q := .bool (decide ((c.l.length : Int) ≤ s.at_ + 1))) (by congr 1; exact decide_eq_decide.2 (by omega))
      rw [HS.out]
      exact ⟨⟨to, tc, M4.st, M4.own⟩, M4.bel⟩
  · have hv1 := HV.out
    simp [insV, rgB, inB] at hv1
    obtain ⟨ia, rfl⟩ : ∃ ia : Nat, a = ia := ⟨a.toNat, by omega⟩
    have hia : (ia : Int) < 40 := by omega
    obtain ⟨ib, rfl⟩ : ∃ ib : Nat, b = ib := ⟨b.toNat, by omega⟩
    have hib : (ib : Int) < 40 := by omega
    obtain ⟨ic, rfl⟩ : ∃ ic : Nat, c' = ic := ⟨c'.toNat, by omega⟩
    have hic : (ic : Int) < 40 := by omega
    have HS := Lib.hid (show stepS c s = goS c (s.at_ + 1) { s with cost := s.cost + costV 15, ws := s.ws.set ia (calcV 15 (s.ws.getD ib 0) (s.ws.getD ic 0)) } by unfold stepS; rw [← HX.out]; simp)
    clear hv1
    go_wp2_with fail
    have M2 := HM.out.set (s' := { s with cost := s.cost + costV 15 }) hRS 46 (stA_46 HK.out.len _) rfl
    clear r0 r1 r2 r3 g0 g1 g42 g43 g44 g45 g46 g47 f42 f43 f44 f45 f46 f47 lS HM
    generalize (w1.setCell ⟨S, 46, none⟩ (.int .i64 (s.cost + costV 15))) = w2 at M2
    have r0 : w2.cell? ⟨R, 0, none⟩ = some (.int .i64 15) := M2.reg.cell 0 rfl
    have r2 : w2.cell? ⟨R, 2, none⟩ = some (.int .i64 ib) := M2.reg.cell 2 rfl
    have r3 : w2.cell? ⟨R, 3, none⟩ = some (.int .i64 ic) := M2.reg.cell 3 rfl
    have xib : w2.cell? ⟨S, 2 + ib, none⟩ = some (.int .i64 (s.ws.getD ib 0)) := M2.st.cell (2 + ib) (stA_w (s := { s with cost := s.cost + costV 15 }) HK.out.len (by omega))
    have xic : w2.cell? ⟨S, 2 + ic, none⟩ = some (.int .i64 (s.ws.getD ic 0)) := M2.st.cell (2 + ic) (stA_w (s := { s with cost := s.cost + costV 15 }) HK.out.len (by omega))
    have hS := HS.out
    clear HS
    have hvz := HK.out.wd ib (by omega)
    have hvy := HK.out.wd ic (by omega)
    generalize s.ws.getD ib 0 = z at xib hS hvz
    generalize s.ws.getD ic 0 = y at xic hS hvy
    have HM2 := Lib.hid M2
    clear M2
    have HS := Lib.hid hS
    clear hS
    have z1 : S < w2.heap.size := HM2.out.st.lt
    have hvv := Lib.hid (show (vB z && vB y) = true by rw [hvz, hvy]; rfl)
    clear hvz hvy
    refine wp_region_quiet_lit (by kernel_rfl) (by kernel_rfl) ?_
    repeat (first | go_big_quiet_step (exact Calls.quiet_of_same (Calls.mono (calc_ok _ _ _ _ (by omega) (by omega) hvv.out (fun h => absurd h (by decide))) fun e w' h => ⟨h.1, h.2.symm⟩)) | quiet_step (exact Calls.quiet_of_same (Calls.mono (calc_ok _ _ _ _ (by omega) (by omega) hvv.out (fun h => absurd h (by decide))) fun e w' h => ⟨h.1, h.2.symm⟩)))
    refine wpQuiet_nil ?_
    rintro _ ⟨nq, rfl⟩
    have M3 := HM2.out.drewN nq
    clear r0 r2 r3 xib xic z1 HM2
    generalize w2.drewN nq = w3 at M3
    go_wp2_with fail
    have r1 : w3.cell? ⟨R, 1, none⟩ = some (.int .i64 ia) := M3.reg.cell 1 rfl
    have xia : w3.cell? ⟨S, 2 + ia, none⟩ = some (.int .i64 (s.ws.getD ia 0)) := M3.st.cell (2 + ia) (stA_w (s := { s with cost := s.cost + costV 15 }) HK.out.len (by omega))
    generalize hq : calcV 15 z y = q at *
    have HQ := Lib.hid hq
    clear hq
    have HM3 := Lib.hid M3
    clear M3
    refine wp_still_tail 7 (by kernel_rfl) (by kernel_rfl) ?_
    simp only [List.take_succ_cons, List.take_zero, List.drop_succ_cons, List.drop_zero]
    repeat still_step
    refine wpStill_nil ?_
    have y1 : w3.frozen? ⟨S, 2 + ia, none⟩ = false := HM3.out.st.frozen _
    have z1 : S < w3.heap.size := HM3.out.st.lt
    (refine wpList_one (by rfl) fun K hK => ?_; go_simp; refine hK _ _ ?_; clear hK K)
    have M5 := (HM3.out.set (s' := { s with cost := s.cost + costV 15, ws := s.ws.set ia q }) hRS (2 + ia) (stA_set_w (s := { s with cost := s.cost + costV 15 }) HK.out.len (by omega) q) rfl).drew
    clear r1 xia y1 z1 HM3
    generalize (w3.setCell ⟨S, 2 + ia, none⟩ (.int .i64 q)).drew = w4 at M5
    obtain ⟨g0, g1, g42, g43, g44, g45, g46, g47, f42, f43, f44, f45, f46, f47, lS⟩ := stFacts M5.st (by simpa using HK.out.len)
    have HM5 := Lib.hid M5
    clear M5
    go_wp2
    refine bodyPost_end (v := .tuple #[]) (by simp [results, Try.results31, go_sem]) rfl ⟨rfl, ?_⟩
    have M4 := HM5.out.goes hRS (by simpa using HK.out.len) c (s.at_ + 1) (v := .int .i64 (s.at_ + 1)) (by simp) (q := .bool (decide ((c.l.length : Int) ≤ s.at_ + 1))) (by congr 1; exact decide_eq_decide.2 (by omega))
    rw [HS.out]
    exact ⟨⟨to, tc, M4.st, M4.own⟩, M4.bel⟩
  · have hv1 := HV.out
    simp [insV, rgB, inB] at hv1
    obtain ⟨ia, rfl⟩ : ∃ ia : Nat, a = ia := ⟨a.toNat, by omega⟩
    have hia : (ia : Int) < 40 := by omega
    obtain ⟨ib, rfl⟩ : ∃ ib : Nat, b = ib := ⟨b.toNat, by omega⟩
    have hib : (ib : Int) < 40 := by omega
    obtain ⟨ic, rfl⟩ : ∃ ic : Nat, c' = ic := ⟨c'.toNat, by omega⟩
    have hic : (ic : Int) < 40 := by omega
    have HS := Lib.hid (show stepS c s = goS c (s.at_ + 1) { s with cost := s.cost + costV 16, ws := s.ws.set ia (calcV 16 (s.ws.getD ib 0) (s.ws.getD ic 0)) } by unfold stepS; rw [← HX.out]; simp)
    clear hv1
    go_wp2_with fail
    have M2 := HM.out.set (s' := { s with cost := s.cost + costV 16 }) hRS 46 (stA_46 HK.out.len _) rfl
    clear r0 r1 r2 r3 g0 g1 g42 g43 g44 g45 g46 g47 f42 f43 f44 f45 f46 f47 lS HM
    generalize (w1.setCell ⟨S, 46, none⟩ (.int .i64 (s.cost + costV 16))) = w2 at M2
    have r0 : w2.cell? ⟨R, 0, none⟩ = some (.int .i64 16) := M2.reg.cell 0 rfl
    have r2 : w2.cell? ⟨R, 2, none⟩ = some (.int .i64 ib) := M2.reg.cell 2 rfl
    have r3 : w2.cell? ⟨R, 3, none⟩ = some (.int .i64 ic) := M2.reg.cell 3 rfl
    have xib : w2.cell? ⟨S, 2 + ib, none⟩ = some (.int .i64 (s.ws.getD ib 0)) := M2.st.cell (2 + ib) (stA_w (s := { s with cost := s.cost + costV 16 }) HK.out.len (by omega))
    have xic : w2.cell? ⟨S, 2 + ic, none⟩ = some (.int .i64 (s.ws.getD ic 0)) := M2.st.cell (2 + ic) (stA_w (s := { s with cost := s.cost + costV 16 }) HK.out.len (by omega))
    have hS := HS.out
    clear HS
    have hvz := HK.out.wd ib (by omega)
    have hvy := HK.out.wd ic (by omega)
    generalize s.ws.getD ib 0 = z at xib hS hvz
    generalize s.ws.getD ic 0 = y at xic hS hvy
    have HM2 := Lib.hid M2
    clear M2
    have HS := Lib.hid hS
    clear hS
    have z1 : S < w2.heap.size := HM2.out.st.lt
    have hvv := Lib.hid (show (vB z && vB y) = true by rw [hvz, hvy]; rfl)
    clear hvz hvy
    refine wp_region_quiet_lit (by kernel_rfl) (by kernel_rfl) ?_
    repeat (first | go_big_quiet_step (exact Calls.quiet_of_same (Calls.mono (calc_ok _ _ _ _ (by omega) (by omega) hvv.out (fun h => absurd h (by decide))) fun e w' h => ⟨h.1, h.2.symm⟩)) | quiet_step (exact Calls.quiet_of_same (Calls.mono (calc_ok _ _ _ _ (by omega) (by omega) hvv.out (fun h => absurd h (by decide))) fun e w' h => ⟨h.1, h.2.symm⟩)))
    refine wpQuiet_nil ?_
    rintro _ ⟨nq, rfl⟩
    have M3 := HM2.out.drewN nq
    clear r0 r2 r3 xib xic z1 HM2
    generalize w2.drewN nq = w3 at M3
    go_wp2_with fail
    have r1 : w3.cell? ⟨R, 1, none⟩ = some (.int .i64 ia) := M3.reg.cell 1 rfl
    have xia : w3.cell? ⟨S, 2 + ia, none⟩ = some (.int .i64 (s.ws.getD ia 0)) := M3.st.cell (2 + ia) (stA_w (s := { s with cost := s.cost + costV 16 }) HK.out.len (by omega))
    generalize hq : calcV 16 z y = q at *
    have HQ := Lib.hid hq
    clear hq
    have HM3 := Lib.hid M3
    clear M3
    refine wp_still_tail 7 (by kernel_rfl) (by kernel_rfl) ?_
    simp only [List.take_succ_cons, List.take_zero, List.drop_succ_cons, List.drop_zero]
    repeat still_step
    refine wpStill_nil ?_
    have y1 : w3.frozen? ⟨S, 2 + ia, none⟩ = false := HM3.out.st.frozen _
    have z1 : S < w3.heap.size := HM3.out.st.lt
    (refine wpList_one (by rfl) fun K hK => ?_; go_simp; refine hK _ _ ?_; clear hK K)
    have M5 := (HM3.out.set (s' := { s with cost := s.cost + costV 16, ws := s.ws.set ia q }) hRS (2 + ia) (stA_set_w (s := { s with cost := s.cost + costV 16 }) HK.out.len (by omega) q) rfl).drew
    clear r1 xia y1 z1 HM3
    generalize (w3.setCell ⟨S, 2 + ia, none⟩ (.int .i64 q)).drew = w4 at M5
    obtain ⟨g0, g1, g42, g43, g44, g45, g46, g47, f42, f43, f44, f45, f46, f47, lS⟩ := stFacts M5.st (by simpa using HK.out.len)
    have HM5 := Lib.hid M5
    clear M5
    go_wp2
    refine bodyPost_end (v := .tuple #[]) (by simp [results, Try.results31, go_sem]) rfl ⟨rfl, ?_⟩
    have M4 := HM5.out.goes hRS (by simpa using HK.out.len) c (s.at_ + 1) (v := .int .i64 (s.at_ + 1)) (by simp) (q := .bool (decide ((c.l.length : Int) ≤ s.at_ + 1))) (by congr 1; exact decide_eq_decide.2 (by omega))
    rw [HS.out]
    exact ⟨⟨to, tc, M4.st, M4.own⟩, M4.bel⟩
  · exfalso
    have hv1 := HV.out
    rw [show insV ⟨d, a, b, c'⟩ c.l.length = false by unfold insV; dsimp only; rw [if_neg (by omega), if_neg (by omega), if_neg (by omega), if_neg (by omega), if_neg (by omega), if_neg (by omega), if_neg (by omega), if_neg (by omega), if_neg (by omega)]] at hv1
    cases hv1

end Go.Proofs.Ytignlfcjlbijaaa
