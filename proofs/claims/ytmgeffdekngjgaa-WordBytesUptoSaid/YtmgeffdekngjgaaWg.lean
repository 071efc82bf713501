/- Words as bytes and back: word.Bytes, word.FromBytes and their references, each by a contract. -/
import Derived.Test.YtmgeffdekngjgaaWd
import Derived.Test.YtmgeffdekngjgaaSl
import Derived.Laws.BytesArg
import Derived.Lib.EndianBits
namespace Go.Proofs.Ytmgeffdekngjgaa
open Go.RowKit

/-- the four bytes of a number below 2^32, the most significant one first -/
def bytes4 (m : Int) : List Int := [m / 16777216, m / 65536 % 256, m / 256 % 256, m % 256]
/-- the number of four bytes -/
def fromB (l : List Int) : Int := l.foldl (fun n c => n * 256 + c) 0
theorem fromB_bytes4 (m : Int) : fromB (bytes4 m) = m := by simp only [fromB, bytes4, List.foldl]; omega
theorem isB_bytes4 {m : Int} (h : 0 ≤ m ∧ m < 4294967296) : IsB (bytes4 m) := by
  intro i hi
  match i, hi with
  | 0, _ => show 0 ≤ m / 16777216 ∧ m / 16777216 ≤ 255; omega
  | 1, _ => show 0 ≤ m / 65536 % 256 ∧ m / 65536 % 256 ≤ 255; omega
  | 2, _ => show 0 ≤ m / 256 % 256 ∧ m / 256 % 256 ≤ 255; omega
  | 3, _ => show 0 ≤ m % 256 ∧ m % 256 ≤ 255; omega
theorem bytes4_fromB (l : List Int) (h : l.length = 4) (hb : IsB l) : bytes4 (res (wrap32 (fromB l))) = l := by
  match l, h with
  | [a, b, c, d], _ =>
    have ha := hb 0 (by simp)
    have hb' := hb 1 (by simp)
    have hc := hb 2 (by simp)
    have hd := hb 3 (by simp)
    simp at ha hb' hc hd
    have e : res (wrap32 (fromB [a, b, c, d])) = ((a * 256 + b) * 256 + c) * 256 + d := by
      simp only [fromB, List.foldl]; unfold res wrap32; omega
    rw [e]; simp only [bytes4]
    congr 1
    · omega
    congr 1
    · omega
    congr 1
    · omega
    congr 1
    omega
theorem res_back {a : Int} (h : vB a = true) : wrap32 (res a) = a := by rw [vB_iff] at h; unfold wrap32 res; omega

/-- What Bytes of a word leaves. -/
def Made4 (m : Int) (w : World) (e : Ending) (w' : World) : Prop :=
  ∃ g, e = .returned (.tuple #[.slice (some ⟨g, 0, none⟩) 4 4, .int .i64 0]) ∧ Below w.heap.size w w' ∧ Sl .u8 w' (some ⟨g, 0, none⟩) (bytes4 m)

theorem sl4 (w : World) (a b c d : Int) (t : TypeId) : Sl .u8 (w.alloc (.cells #[.int .u8 a, .int .u8 b, .int .u8 c, .int .u8 d] t)) (some ⟨w.heap.size, 0, none⟩) [a, b, c, d] := by
  intro i hi
  refine ⟨_, rfl, ?_⟩
  match i, hi with
  | 0, _ => simp [Addr.add]
  | 1, _ => simp [Addr.add]
  | 2, _ => simp [Addr.add]
  | 3, _ => simp [Addr.add]

set_option maxHeartbeats 400000 in
theorem bytes_no (a : Int) (w : World) (hv : vB a = false) :
    Calls Try.prog 32 #[.int .i64 a] w fun e w' => e = .returned (.tuple #[.slice none 0 0, .int .i64 1]) ∧ Below w.heap.size w w' := by
  go_enter Try.func32, Try.ntmps32
  go_wp2_with (go_at_call 45; refine (words1 a _ _ (by simp [go_sem])).mono ?_; rintro e w' ⟨rfl, rfl⟩)
  go_ret2
  exact ⟨rfl, (Below.refl _ _).alloc (Nat.le_refl _) _⟩
set_option maxHeartbeats 400000 in
theorem bytes_ok (a : Int) (w : World) (hv : vB a = true) :
    Calls Try.prog 32 #[.int .i64 a] w (Made4 (res a) w) := by
  have h := vB_iff.1 hv
  obtain ⟨h1, h2⟩ := h
  obtain ⟨r1, r2⟩ := res_range a
  have hu : IntKind.u32.wrap a = res a := by rw [IntKind.wrap_u32]; rfl
  go_enter Try.func32, Try.ntmps32
  go_wp2_with (go_at_call 45; refine (words1 a _ _ (by simp [go_sem])).mono ?_; rintro e w' ⟨rfl, rfl⟩)
  go_ret2
  exact ⟨w.heap.size + 1, rfl, ((Below.refl _ _).alloc (Nat.le_refl _) _).alloc (by simp) _, by have := sl4 (w.alloc (Obj.cells #[Value.int IntKind.i64 a] 3)) (res a / 16777216) (res a / 65536 % 256) (res a / 256 % 256) (res a % 256) 5; simpa [bytes4] using this⟩
set_option maxHeartbeats 400000 in
theorem rbytes_no (a : Int) (w : World) (hv : vB a = false) :
    Calls Try.prog 33 #[.int .i64 a] w fun e w' => e = .returned (.tuple #[.slice none 0 0, .int .i64 1]) ∧ w = w' := by
  go_enter Try.func33, Try.ntmps33
  go_wp2_with (go_at_call 15; refine (rvalid_any _ _).mono ?_; rintro e w' ⟨rfl, rfl⟩)
  go_ret2
  exact ⟨rfl, rfl⟩
set_option maxHeartbeats 400000 in
theorem rbytes_ok (a : Int) (w : World) (hv : vB a = true) :
    Calls Try.prog 33 #[.int .i64 a] w (Made4 (res a) w) := by
  obtain ⟨r1, r2⟩ := res_range a
  go_enter Try.func33, Try.ntmps33
  go_wp2_with (first | (go_at_call 15; refine (rvalid_any _ _).mono ?_; rintro e w' ⟨rfl, rfl⟩) | (go_at_call 40; refine (residue_any _ _).mono ?_; rintro e w' ⟨rfl, rfl⟩))
  go_ret2
  exact ⟨w.heap.size, rfl, (Below.refl _ _).alloc (Nat.le_refl _) _, sl4 w _ _ _ _ _⟩

theorem fromB_take (l : List Int) (k : Nat) (h : k < l.length) : fromB (l.take (k+1)) = fromB (l.take k) * 256 + l.getD k 0 := by
  rw [take_snoc l k h]; simp [fromB]
theorem fromB_range (l : List Int) (hb : IsB l) : 0 ≤ fromB l ∧ fromB l < 256 ^ l.length := by
  have h : ∀ k, k ≤ l.length → 0 ≤ fromB (l.take k) ∧ fromB (l.take k) < 256 ^ k := by
    intro k
    induction k with
    | zero => intro _; simp [fromB]
    | succ k ih =>
      intro hk
      have := ih (by omega)
      have h2 := hb k (by omega)
      rw [fromB_take l k (by omega), Int.pow_succ]; omega
  have := h l.length (Nat.le_refl _)
  rwa [List.take_length] at this
theorem or_byte (x y : Int) (hx : 0 ≤ x) (hx' : x < 16777216) (hy : 0 ≤ y) (hy' : y ≤ 255) : bits BinOp.or IntKind.u32 (x * 256) y = x * 256 + y := by
  have h := bits_join .u32 32 (by decide) wraps_u32 8 (x * 256) y (by omega) (by simp) (by omega) hy (by omega) (by omega)
  exact h
theorem fromB_lt {l : List Int} (hb : IsB l) {k : Nat} (hk : k < 4) (hl : l.length = 4) : 0 ≤ fromB (l.take k) ∧ fromB (l.take k) < 16777216 := by
  have hb' : IsB (l.take k) := by
    intro i hi
    rw [List.length_take] at hi
    have := hb i (by omega)
    rwa [List.getD_eq_getElem?_getD, List.getElem?_take_of_lt (by omega), ← List.getD_eq_getElem?_getD]
  have h := fromB_range (l.take k) hb'
  have hlen : (l.take k).length = k := by rw [List.length_take]; omega
  rw [hlen] at h
  match k, hk with
  | 0, _ => simp [fromB]
  | 1, _ => simp at h; omega
  | 2, _ => simp at h; omega
  | 3, _ => simp at h; omega

set_option maxHeartbeats 400000 in
theorem fromBytes_no (a : Option Addr) (m cap : Nat) (w : World) (h : m ≠ 4) :
    Calls Try.prog 34 #[.slice a m cap] w fun e w' => e = .returned (.tuple #[.int .i64 0, .int .i64 1]) ∧ w = w' := by
  have h4 : ((m : Int) == 4) = false := by simp; omega
  have h5 : ((m : Int) != 4) = true := by simp; omega
  clear h
  go_enter Try.func34, Try.ntmps34
  go_wp2
  go_ret2
  exact ⟨rfl, rfl⟩
set_option maxHeartbeats 400000 in
theorem rfromBytes_no (a : Option Addr) (m cap : Nat) (w : World) (h : m ≠ 4) :
    Calls Try.prog 35 #[.slice a m cap] w fun e w' => e = .returned (.tuple #[.int .i64 0, .int .i64 1]) ∧ w = w' := by
  have h4 : ((m : Int) == 4) = false := by simp; omega
  have h5 : ((m : Int) != 4) = true := by simp; omega
  clear h
  go_enter Try.func35, Try.ntmps35
  go_wp2
  go_ret2
  exact ⟨rfl, rfl⟩
set_option maxHeartbeats 400000 in
theorem fromBytes_ok (a : Option Addr) (cap : Nat) (zs : List Int) (w : World) (hl : zs.length = 4) (hc : Sl .u8 w a zs) (hb : IsB zs) :
    Calls Try.prog 34 #[.slice a 4 cap] w fun e w' => e = .returned (.tuple #[.int .i64 (wrap32 (fromB zs)), .int .i64 0]) ∧ w = w' := by
  have HT := Lib.hid (fromB_take zs)
  have HL := Lib.hid hl
  have HC := Lib.hid hc
  have HB := Lib.hid hb
  clear hl hc hb
  go_enter Try.func34, Try.ntmps34
  go_wp2
  go_loop [4, 12] (fun u i => ∃ k : Nat, k ≤ 4 ∧ i = .int .i64 k ∧ u = .int .u32 (fromB (zs.take k))) (fun _ i => 4 - (intOf i).toNat)
  case atStart => exact ⟨0, by omega, rfl, rfl⟩
  case round =>
    obtain ⟨k, hk, rfl, rfl⟩ := hrel
    by_cases hlt : k < 4
    · obtain ⟨ad, rfl, hcell⟩ := HC.out k (by rw [HL.out]; exact hlt)
      have HK := Lib.hid (HT.out k (by rw [HL.out]; exact hlt))
      obtain ⟨z1, z2⟩ := HB.out k (by rw [HL.out]; exact hlt)
      obtain ⟨q1, q2⟩ := fromB_lt HB.out hlt HL.out
      revert hcell HK z1 z2 q1 q2
      generalize zs.getD k 0 = z
      generalize hq : fromB (zs.take k) = q
      clear hq
      intro hcell HK z1 z2 q1 q2
      have ho := or_byte q z q1 q2 z1 z2
      go_wp2
      go_round
      case rel => exact ⟨k + 1, by omega, by go_num, by rw [HK.out]⟩
      case measure => simp [intOf]; omega
    · obtain rfl : k = 4 := by omega
      have hr := fromB_range zs HB.out
      rw [HL.out] at hr
      have HE : Hid (zs.take 4 = zs) := by show zs.take 4 = zs; rw [← HL.out, List.take_length]
      obtain ⟨r1, r2⟩ := hr
      clear hlt hk
      go_wp2
      go_ret2
      exact ⟨ret_two (by first | (rw [HE.out]; done) | (rw [HE.out]; exact ww _)) rfl, rfl⟩
set_option maxHeartbeats 400000 in
theorem rfromBytes_ok (a : Option Addr) (cap : Nat) (zs : List Int) (w : World) (hl : zs.length = 4) (hc : Sl .u8 w a zs) (hb : IsB zs) :
    Calls Try.prog 35 #[.slice a 4 cap] w fun e w' => e = .returned (.tuple #[.int .i64 (wrap32 (fromB zs)), .int .i64 0]) ∧ w = w' := by
  have HT := Lib.hid (fromB_take zs)
  have HL := Lib.hid hl
  have HC := Lib.hid hc
  have HB := Lib.hid hb
  clear hl hc hb
  go_enter Try.func35, Try.ntmps35
  go_wp2
  go_loop [4, 5] (fun u i => ∃ k : Nat, k ≤ 4 ∧ i = .int .i64 k ∧ u = .int .i64 (fromB (zs.take k))) (fun _ i => 4 - (intOf i).toNat)
  case atStart => exact ⟨0, by omega, rfl, rfl⟩
  case round =>
    obtain ⟨k, hk, rfl, rfl⟩ := hrel
    by_cases hlt : k < 4
    · obtain ⟨ad, rfl, hcell⟩ := HC.out k (by rw [HL.out]; exact hlt)
      have HK := Lib.hid (HT.out k (by rw [HL.out]; exact hlt))
      obtain ⟨z1, z2⟩ := HB.out k (by rw [HL.out]; exact hlt)
      obtain ⟨q1, q2⟩ := fromB_lt HB.out hlt HL.out
      revert hcell HK z1 z2 q1 q2
      generalize zs.getD k 0 = z
      generalize hq : fromB (zs.take k) = q
      clear hq
      intro hcell HK z1 z2 q1 q2
      go_wp2
      go_round
      case rel => exact ⟨k + 1, by omega, by go_num, by rw [HK.out]⟩
      case measure => simp [intOf]; omega
    · obtain rfl : k = 4 := by omega
      have HE : Hid (zs.take 4 = zs) := by show zs.take 4 = zs; rw [← HL.out, List.take_length]
      clear hlt hk
      go_wp2_with (go_at_call 17; refine (rwrap_any _ _).mono ?_; rintro e w' ⟨rfl, rfl⟩)
      go_ret2
      exact ⟨ret_two (by rw [HE.out]) rfl, rfl⟩

theorem conv_sl {P : Program} (w : World) (src e : TypeId) (hs : P.underlying src = some (.slice e)) (he : P.underlying e = some (.int .u8)) (a : Option Addr) (m cap : Nat) (zs : List Int) (hm : m = zs.length) (hc : Sl .u8 w a zs) (dst : TypeId) (hd : P.underlying dst = some .string) :
    (convert src dst (.slice a m cap)).run P w = .ok (.string (strOfNums zs)) w := by
  subst hm
  cases a with
  | none =>
    have hz : zs = [] := by
      cases zs with
      | nil => rfl
      | cons z r => obtain ⟨ad, h, _⟩ := hc 0 (by simp); cases h
    subst hz
    exact run_convert_bytes_nil w src e hs he 0 cap dst hd
  | some ad =>
    have hl : (loadCells ad zs.length).run P w = .ok (zs.map (Value.int .u8)).toArray w := by
      have := run_loadCells_list (P := P) w ad (zs.map (Value.int .u8)) (fun j v hj => by
        rw [List.getElem?_map] at hj
        obtain ⟨z, hz, rfl⟩ := Option.map_eq_some_iff.1 hj
        have hjl : j < zs.length := (List.getElem?_eq_some_iff.1 hz).1
        obtain ⟨ad', h1, h2⟩ := hc j hjl
        cases h1
        rw [h2, List.getD_eq_getElem?_getD, hz]; rfl)
      simpa using this
    rw [run_convert_bytes_string w src dst e _ zs.length cap hs he hd, run_bytesToString w _ zs.length cap zs hl, foldl_push_bytes]
    simp [strOfNums, ByteArray.empty, ByteArray.emptyWithCapacity]
    rfl

end Go.Proofs.Ytmgeffdekngjgaa
