/-
  peers.find: slices.BinarySearchFunc over a table in order.
-/
import Derived.Test.YtpomdnglknbanaaPe
import Derived.Test.YtpomdnglknbanaaShelf
set_option linter.unusedSimpArgs false
set_option linter.unusedVariables false
namespace Go.Proofs.Ytpomdnglknbanaa
open Go.RowKit

theorem cmpB_lt : ∀ a b : List UInt8, Lib.compareBytes a b < 0 ↔ Op.bytesLess a b = true
  | [], [] => by simp [Lib.compareBytes, Op.bytesLess]
  | [], _ :: _ => by simp [Lib.compareBytes, Op.bytesLess]
  | _ :: _, [] => by simp [Lib.compareBytes, Op.bytesLess]
  | x :: a, y :: b => by
    have ih := cmpB_lt a b
    unfold Lib.compareBytes Op.bytesLess
    rcases u8_tri x y with h | rfl | h
    · simp [h]
    · simp [ih]
    · have h1 : ¬ x < y := fun h' => absurd (UInt8.lt_trans h h') (by simp)
      have h2 : x ≠ y := fun e => by subst e; exact absurd h (by simp)
      simp [h, h1, h2]
theorem cmpB_eq : ∀ a b : List UInt8, Lib.compareBytes a b = 0 ↔ a = b
  | [], [] => by simp [Lib.compareBytes]
  | [], _ :: _ => by simp [Lib.compareBytes]
  | _ :: _, [] => by simp [Lib.compareBytes]
  | x :: a, y :: b => by
    have ih := cmpB_eq a b
    unfold Lib.compareBytes
    rcases u8_tri x y with h | rfl | h
    · have h2 : x ≠ y := fun e => by subst e; exact absurd h (by simp)
      simp [h, h2]
    · simp [ih]
    · have h1 : ¬ x < y := fun h' => absurd (UInt8.lt_trans h h') (by simp)
      have h2 : x ≠ y := fun e => by subst e; exact absurd h (by simp)
      simp [h, h1, h2]
/-- How a name stands to another. -/
def cmpN (a b : ByteArray) : Int := Lib.compareBytes a.data.toList b.data.toList
theorem cmpN_lt (a b : ByteArray) : cmpN a b < 0 ↔ sl a b = true := by
  unfold cmpN sl; rw [cmpB_lt, ByteArray.toList_eq, ByteArray.toList_eq]
theorem cmpN_eq (a b : ByteArray) : cmpN a b = 0 ↔ a = b := by
  unfold cmpN; rw [cmpB_eq]
  exact ⟨fun h => ByteArray.ext (Array.toList_inj.1 h), fun h => by rw [h]⟩

set_option maxHeartbeats 2000000 in
theorem find1_ok (s id : ByteArray) (a b c d x : Int) (v : Value) (z : Int) (hz : cmpN s id = z) (w : World) (hv : v.oneCell' = true) :
    Calls Try.prog 142 #[.agg #[.string s, .int .i64 a, .int .i64 b, .int .i64 c, .int .i64 d, v, .int .i64 x], .string id] w fun e w' => e = .returned (.int .i64 z) ∧ Below w.heap.size w w' := by
  have HS := Lib.hid (fun w' => Try.strings_Compare s id w')
  rw [show Lib.compareBytes s.data.toList id.data.toList = z from hz] at HS
  have qa := alloc_cells
  have qf := alloc_frozens
  go_enter Try.func142, Try.ntmps142
  go_wp2_with fail
  refine (HS.out _).mono ?_
  rintro e w' ⟨rfl, rfl⟩
  go_wp2_with fail
  go_ret
  exact ⟨rfl, (by repeat (first | (with_reducible exact Below.refl _ _) | ((with_reducible refine Below.alloc ?_ ?_ _); rotate_left; (next => ((try dsimp only); (try simp only [World.size_alloc, World.size_setCell, World.size_drew]); omega))) | ((with_reducible refine Below.setCell ?_ ?_ _); rotate_left; (next => ((try dsimp only); (try simp only [World.size_alloc, World.size_setCell, World.size_drew]); omega))) | (with_reducible refine Below.drew ?_) | (refine Below.trans ?_ (by assumption))))⟩

set_option maxRecDepth 100000 in
set_option maxHeartbeats 4000000 in
theorem bsearch_ok (A : Option Addr) (n c : Nat) (L : List Peer) (f : Nat → Prop) (id : ByteArray) (w : World) (hr : PRow w A n L f) (hn : n ≤ 1000) (ho : L.Pairwise (fun p q => sl p.id q.id = true)) :
    Calls Try.prog 141 #[.slice A n c, .string id, .func (.func 142) #[] #[]] w fun e w' => e = .returned (.tuple #[.int .i64 (pos L id), .bool (has L id)]) ∧ Below w.heap.size w w' := by
  have HR := Lib.hid hr
  have hl := hr.1
  have hp := pos_le L id
  have HLo := Lib.hid (fun k (h : k < pos L id) => pos_lo h)
  have HHi := Lib.hid (fun k (h : pos L id ≤ k) (hk : k < L.length) => pos_hi ho h hk)
  have HHas := Lib.hid (show has L id = (decide (pos L id < L.length) && decide ((L.getD (pos L id) default).id = id)) from rfl)
  obtain ⟨P, hP⟩ : ∃ P, pos L id = P := ⟨_, rfl⟩
  obtain ⟨H, hH⟩ : ∃ H, has L id = H := ⟨_, rfl⟩
  rw [hP] at hp HLo HHi HHas ⊢
  rw [hH] at HHas ⊢
  have HF := Lib.hid find1_ok
  clear hr ho hP hH
  have qa := alloc_cells
  have qf := alloc_frozens
  go_enter Try.func141, Try.ntmps141
  go_wp2_with fail
  go_loopw [9, 10] (fun i j wr => ∃ (a b : Nat), a ≤ P ∧ P ≤ b ∧ b ≤ n ∧ i = .int .i64 a ∧ j = .int .i64 b ∧ Below w.heap.size w wr) (fun i j _ => (intOf j).toNat - (intOf i).toNat)
  case atStart => exact ⟨0, n, Nat.zero_le _, by omega, Nat.le_refl _, rfl, rfl, (by repeat (first | (with_reducible exact Below.refl _ _) | ((with_reducible refine Below.alloc ?_ ?_ _); rotate_left; (next => ((try dsimp only); (try simp only [World.size_alloc, World.size_setCell, World.size_drew]); omega))) | ((with_reducible refine Below.setCell ?_ ?_ _); rotate_left; (next => ((try dsimp only); (try simp only [World.size_alloc, World.size_setCell, World.size_drew]); omega))) | (with_reducible refine Below.drew ?_) | (refine Below.trans ?_ (by assumption))))⟩
  case round =>
    obtain ⟨i, j, hi, hj, hjn, rfl, rfl, bel⟩ := hrel
    by_cases hij : i < j
    · obtain ⟨m, hm⟩ : ∃ m, (i + j) / 2 = m := ⟨_, rfl⟩
      have hmn : m < n := by omega
      obtain ⟨b, off, rfl, lb, _, hpk⟩ := (HR.out.below bel).at hmn
      obtain ⟨p, hpe⟩ : ∃ p, L.getD m default = p := ⟨_, rfl⟩
      rw [hpe] at hpk
      obtain ⟨k0, k1, k2, k3, k4, k6, B, cc, k5, hin, _⟩ := hpk
      have sz0 := bel.size
      obtain ⟨z, hz⟩ : ∃ z, cmpN p.id id = z := ⟨_, rfl⟩
      have HZ := Lib.hid hz
      have HPe := Lib.hid hpe
      have B0 := Lib.hid bel
      have hsum : ((i : Int) + j) / 2 = (m : Int) := by omega
      have u1 : IntKind.i64.wrap ((i : Int) + j) = ((i + j : Nat) : Int) := by rw [IntWalk.i64_in _ (by omega)]; omega
      have u2 : IntKind.u64.wrap ((i + j : Nat) : Int) = ((i + j : Nat) : Int) := IntWalk.u64_in _ (by omega)
      clear bel hin hz hpe
      by_cases hz0 : z < 0
      · have hs : sl p.id id = true := (cmpN_lt _ _).1 (by rw [HZ.out]; exact hz0)
        have hmP : m < P := by
          rcases Nat.lt_or_ge m P with h | h
          · exact h
          · have := HHi.out m h (by omega)
            rw [HPe.out, hs] at this; cases this
        clear hs
        go_wp2_with fail
        refine (HF.out _ _ _ _ _ _ _ _ z HZ.out _ rfl).mono ?_
        rintro e w1 ⟨rfl, hb1⟩
        have z1 := hb1.size
        have c1 := Below.cells hb1
        have f1 := Below.frozens hb1
        try simp only [World.size_alloc, World.size_setCell, World.size_drew] at z1 c1 f1
        go_wp2_with fail
        go_roundw
        case rel => exact ⟨m + 1, j, by omega, by omega, by omega, by go_num, by go_num, B0.out.trans (Below.mono hb1 sz0)⟩
        case measure => simp [intOf]; omega
      · have hs : ¬ sl p.id id = true := fun h => hz0 (by rw [← HZ.out]; exact (cmpN_lt _ _).2 h)
        have hmP : P ≤ m := by
          rcases Nat.lt_or_ge m P with h | h
          · have := HLo.out m h
            rw [HPe.out] at this
            exact absurd this hs
          · exact h
        clear hs
        go_wp2_with fail
        refine (HF.out _ _ _ _ _ _ _ _ z HZ.out _ rfl).mono ?_
        rintro e w1 ⟨rfl, hb1⟩
        have z1 := hb1.size
        have c1 := Below.cells hb1
        have f1 := Below.frozens hb1
        try simp only [World.size_alloc, World.size_setCell, World.size_drew] at z1 c1 f1
        go_wp2_with fail
        go_roundw
        case rel => exact ⟨i, m, by omega, by omega, by omega, by go_num, by go_num, B0.out.trans (Below.mono hb1 sz0)⟩
        case measure => simp [intOf]; omega
    · obtain rfl : i = P := by omega
      obtain rfl : j = i := by omega
      by_cases hlt : j < n
      · obtain ⟨b, off, rfl, lb, _, hpk⟩ := (HR.out.below bel).at hlt
        obtain ⟨p, hpe⟩ : ∃ p, L.getD j default = p := ⟨_, rfl⟩
        rw [hpe] at hpk
        obtain ⟨k0, k1, k2, k3, k4, k6, B, cc, k5, hin, _⟩ := hpk
        have sz0 := bel.size
        obtain ⟨z, hz⟩ : ∃ z, cmpN p.id id = z := ⟨_, rfl⟩
        have HZ := Lib.hid hz
        have B0 := Lib.hid bel
        have hH : H = (z == 0) := by
          rw [HHas.out, hpe, hl, decide_eq_true hlt, Bool.true_and, ← hz]
          rcases Bool.eq_false_or_eq_true (cmpN p.id id == 0) with h | h
          · rw [h]; exact decide_eq_true ((cmpN_eq _ _).1 (by simpa using h))
          · rw [h]; exact decide_eq_false (fun e => by rw [(cmpN_eq _ _).2 e] at h; cases h)
        have hd : decide ((j : Int) < n) = true := by simp; omega
        have HHz := Lib.hid hH
        clear bel hin hz hpe hH
        go_wp2_with fail
        refine (HF.out _ _ _ _ _ _ _ _ z HZ.out _ rfl).mono ?_
        rintro e w1 ⟨rfl, hb1⟩
        have z1 := hb1.size
        have c1 := Below.cells hb1
        have f1 := Below.frozens hb1
        try simp only [World.size_alloc, World.size_setCell, World.size_drew] at z1 c1 f1
        go_wp2_with fail
        go_ret2
        exact ⟨by rw [HHz.out]; rfl, B0.out.trans (Below.mono hb1 sz0)⟩
      · have hH : H = false := by rw [HHas.out, hl, decide_eq_false hlt, Bool.false_and]
        have hd : decide ((j : Int) < n) = false := by simp; omega
        have HHz := Lib.hid hH
        clear hH
        go_wp2_with fail
        go_ret2
        exact ⟨by rw [HHz.out]; rfl, bel⟩
set_option maxHeartbeats 2000000 in
theorem find_ok (A : Option Addr) (n c : Nat) (L : List Peer) (f : Nat → Prop) (id : ByteArray) (w : World) (hr : PRow w A n L f) (hn : n ≤ 1000) (ho : L.Pairwise (fun p q => sl p.id q.id = true)) :
    Calls Try.prog 105 #[.slice A n c, .string id] w fun e w' => e = .returned (.tuple #[.int .i64 (pos L id), .bool (has L id)]) ∧ Below w.heap.size w w' := by
  have HB := Lib.hid (bsearch_ok A n c L f id w hr hn ho)
  clear hr ho
  obtain ⟨P, hP⟩ : ∃ P, pos L id = P := ⟨_, rfl⟩
  obtain ⟨H, hH⟩ : ∃ H, has L id = H := ⟨_, rfl⟩
  rw [hP, hH] at HB ⊢
  clear hP hH
  go_enter Try.func105, Try.ntmps105
  go_wp2_with fail
  refine (HB.out).mono ?_
  rintro e w1 ⟨rfl, hb1⟩
  have z1 := hb1.size
  have c1 := Below.cells hb1
  have f1 := Below.frozens hb1
  try simp only [World.size_alloc, World.size_setCell, World.size_drew] at z1 c1 f1
  go_wp2_with fail
  go_ret2
  exact ⟨rfl, hb1⟩
end Go.Proofs.Ytpomdnglknbanaa
