/-
  hwkeep's townBegun and two.
-/
import Derived.Test.YtpomdnglknbanaaTh
set_option linter.unusedSimpArgs false
set_option linter.unusedVariables false
namespace Go.Proofs.Ytpomdnglknbanaa
open Go Go.RowKit
theorem lit_own {w : World} {base n size : Nat} {T : TypeId} {xs : Array Value} (hl : xs.size = n * size) (hb : base ≤ w.heap.size) (hn : n ≤ maxLen) : (w.alloc (.cells xs T)).ownsRow base T size (.slice (some ⟨w.heap.size, 0, none⟩) n n) n xs.toList :=
  ⟨by simpa using hl, .inr ⟨w.heap.size, n, xs, rfl, hb, heap_alloc_new' w _, Nat.le_refl _, hn, hl, by rw [List.take_of_length_le (by simp [hl])]⟩⟩
/-- What New leaves. -/
theorem stN_nd (C : Nat → Cfg) {n j : Nat} (hj : j < n) : (stN C n n 0).nd j = wpS C j n := by
  show (if j < n then _ else _) = _
  rw [if_pos hj]
theorem wpS_tn {C : Nat → Cfg} {n j : Nat} (hn : n ≤ 5) (hC : ∀ j, j < n → CfgOK (C j)) (hne : ∀ i j, i < n → j < n → (C i).id = (C j).id → i = j) (hj : j < n) : TN (wpS C j n) :=
  ⟨(wpS_ok hn hC hne hj n (Nat.le_refl _)).1, rfl, by show (0 : Int) = 0 / _; simp⟩
def twoC (E1 E2 z L : Int) (j : Nat) : Cfg := if j = 0 then ⟨nA, E1, z, L⟩ else ⟨nB, E2, z, L⟩
theorem twoC_ok {E1 E2 z L : Int} (h1 : 1 ≤ E1 ∧ E1 ≤ 50) (h2 : 1 ≤ E2 ∧ E2 ≤ 50) (h3 : 1 ≤ z ∧ z ≤ 64) (h4 : 1 ≤ L ∧ L ≤ 50) : (∀ j, j < 2 → CfgOK (twoC E1 E2 z L j)) ∧ (∀ i j, i < 2 → j < 2 → (twoC E1 E2 z L i).id = (twoC E1 E2 z L j).id → i = j) := by
  refine ⟨fun j hj => ?_, fun i j hi hj h => ?_⟩
  · unfold twoC
    split
    · exact ⟨nA_ok, by show 1 ≤ E1 ∧ E1 ≤ _; omega, h3, by show 1 ≤ L ∧ L ≤ _; omega⟩
    · exact ⟨nB_ok, by show 1 ≤ E2 ∧ E2 ≤ _; omega, h3, by show 1 ≤ L ∧ L ≤ _; omega⟩
  · have hab : nA ≠ nB := by decide
    unfold twoC at h
    split at h <;> split at h
    · omega
    · exact absurd h hab
    · exact absurd h.symm hab
    · omega
theorem twoC_row (E1 E2 z L : Int) : cfgV (twoC E1 E2 z L) 2 = [.string ⟨#[97]⟩, .int .i64 0, .int .i64 E1, .int .i64 z, .int .i64 L, .string ⟨#[98]⟩, .int .i64 0, .int .i64 E2, .int .i64 z, .int .i64 L] := rfl
/-- A town of two. -/
def twoS (E1 E2 z L : Int) : TSt := stN (twoC E1 E2 z L) 2 2 0
theorem twoS_tn {E1 E2 z L : Int} (h1 : 1 ≤ E1 ∧ E1 ≤ 50) (h2 : 1 ≤ E2 ∧ E2 ≤ 50) (h3 : 1 ≤ z ∧ z ≤ 64) (h4 : 1 ≤ L ∧ L ≤ 50) : ∀ j, j < 2 → TN ((twoS E1 E2 z L).nd j) := fun j hj => by
  obtain ⟨a, b⟩ := twoC_ok h1 h2 h3 h4
  unfold twoS
  rw [stN_nd _ hj]
  exact wpS_tn (by omega) a b hj
theorem tnew2_ok (E1 E2 z L : Int) (w : World) (h1 : 1 ≤ E1 ∧ E1 ≤ 50) (h2 : 1 ≤ E2 ∧ E2 ≤ 50) (h3 : 1 ≤ z ∧ z ≤ 64) (h4 : 1 ≤ L ∧ L ≤ 50) :
    Calls Try.prog 55 #[.slice (some ⟨w.heap.size, 0, none⟩) 2 2] (w.alloc (.cells #[.string ⟨#[97]⟩, .int .i64 0, .int .i64 E1, .int .i64 z, .int .i64 L, .string ⟨#[98]⟩, .int .i64 0, .int .i64 E2, .int .i64 z, .int .i64 L] 29))
      fun e w' => ∃ t f, e = .returned (.tuple #[.pointer (some ⟨t, 0, none⟩), .int .i64 0]) ∧ TRep w' t (twoS E1 E2 z L) f ∧ (∀ x, f x → w.heap.size ≤ x) ∧ Below w.heap.size w w' := by
  obtain ⟨a, b⟩ := twoC_ok h1 h2 h3 h4
  have own := lit_own (w := w) (base := w.heap.size) (n := 2) (size := 5) (T := 29) (xs := #[.string ⟨#[97]⟩, .int .i64 0, .int .i64 E1, .int .i64 z, .int .i64 L, .string ⟨#[98]⟩, .int .i64 0, .int .i64 E2, .int .i64 z, .int .i64 L]) rfl (Nat.le_refl _) (by unfold maxLen; omega)
  have own' : (w.alloc (.cells #[.string ⟨#[97]⟩, .int .i64 0, .int .i64 E1, .int .i64 z, .int .i64 L, .string ⟨#[98]⟩, .int .i64 0, .int .i64 E2, .int .i64 z, .int .i64 L] 29)).ownsRow w.heap.size 29 5 (.slice (some ⟨w.heap.size, 0, none⟩) 2 2) 2 (cfgV (twoC E1 E2 z L) 2) := by rw [twoC_row]; exact own
  refine (tnew_ok 2 2 w.heap.size _ _ _ own' (by omega) a b).mono ?_
  rintro e w' ⟨t, f, rfl, h, hf, hb⟩
  have ab : Below w.heap.size w (w.alloc (.cells #[.string ⟨#[97]⟩, .int .i64 0, .int .i64 E1, .int .i64 z, .int .i64 L, .string ⟨#[98]⟩, .int .i64 0, .int .i64 E2, .int .i64 z, .int .i64 L] 29)) := (Below.refl _ _).alloc (Nat.le_refl _) _
  exact ⟨t, f, rfl, h, fun x hx => Nat.le_trans ab.size (hf x hx), ab.trans (hb.mono ab.size)⟩
theorem two_tick {E1 E2 z L : Int} (h1 : 1 ≤ E1 ∧ E1 ≤ 50) (h2 : 1 ≤ E2 ∧ E2 ≤ 50) (h3 : 1 ≤ z ∧ z ≤ 64) (h4 : 1 ≤ L ∧ L ≤ 50) {g : Int} (hg : 1 ≤ g ∧ g ≤ 60) : TickOK (twoS E1 E2 z L) g :=
  ⟨by show 2 ≤ 5; omega, by omega, twoS_tn h1 h2 h3 h4, fun j hj _ => by
    unfold twoS
    rw [stN_nd _ (show j < 2 from hj)]
    have he : 1 ≤ (wpS (twoC E1 E2 z L) j 2).every := by
      show 1 ≤ (twoC E1 E2 z L j).every
      unfold twoC
      split
      · exact h1.1
      · exact h2.1
    exact ⟨by show (0 : Int) + g ≤ _; omega, by have := seq_le (n := g) (by omega) he; omega⟩, by show (0 : Nat) ≤ 1000; omega⟩
set_option maxRecDepth 100000 in
set_option maxHeartbeats 8000000 in
theorem tbegun2_ok (w : World) : Calls Try.prog 54 #[] w fun e w' => e = .returned (.bool true) ∧ Below w.heap.size w w' := by
  have HN := Lib.hid (fun w' => tnew2_ok 5 7 3 1 w' (by omega) (by omega) (by omega) (by omega))
  have ok := two_tick (E1 := 5) (E2 := 7) (z := 3) (L := 1) (g := 10) (by omega) (by omega) (by omega) (by omega) (by omega)
  have hs : sumM (twoS 5 7 3 1) 10 2 = 3 := by
    unfold sumM
    have t0 : (txN (twoS 5 7 3 1) 10 0).length = 2 := by
      show (txT (wpS (twoC 5 7 3 1) 0 2) 10).length = 2
      unfold txT
      rw [sentB_len]
      rfl
    have t1 : (txN (twoS 5 7 3 1) 10 1).length = 1 := by
      show (txT (wpS (twoC 5 7 3 1) 1 2) 10).length = 1
      unfold txT
      rw [sentB_len]
      rfl
    rw [show List.range 2 = [0, 1] from rfl]
    simp [t0, t1]
  have HT := Lib.hid (fun t f w' (h : TRep w' t (twoS 5 7 3 1) f) => ttick_ok w' h ok)
  rw [show (twoS 5 7 3 1).n = 2 from rfl, hs, show (twoS 5 7 3 1).way.length = 0 from rfl] at HT
  have hwl : (twS (twoS 5 7 3 1) 10 2).way.length = 3 := by rw [sumM_way, hs]; rfl
  have HW := Lib.hid hwl
  clear ok hs hwl
  go_enter Try.func54, Try.ntmps54
  go_wp2_with fail
  refine (HN.out _).mono ?_
  rintro e w1 ⟨t, f, rfl, h1, hf1, hb1⟩
  have T1 := Lib.hid h1
  have F1 := Lib.hid hf1
  have B1 := Lib.hid hb1
  clear h1 hf1 hb1
  go_wp2_with fail
  refine (HT.out _ _ _ T1.out).mono ?_
  rintro e w2 (⟨h, _⟩ | ⟨_, A2, c2, f2, rfl, _, h2, hf2, k2⟩)
  · exact absurd h (by omega)
  · have T2 := Lib.hid h2
    have B2 := Lib.hid (B1.out.trans (k2.below B1.out.size F1.out))
    have HWy := Lib.hid (tway_ok w2 h2 (by rw [HW.out]; omega))
    rw [HW.out] at HWy
    clear h2 hf2 k2
    go_wp2_with fail
    refine HWy.out.mono ?_
    rintro e w3 ⟨A3, c3, rfl, _, hb3⟩
    have B3 := Lib.hid (B2.out.trans (hb3.mono B2.out.size))
    clear hb3
    go_wp2_with fail
    go_ret
    exact ⟨rfl, B3.out⟩
set_option maxRecDepth 100000 in
set_option maxHeartbeats 8000000 in
theorem two_ok (e0 l0 E L : Int) (w : World) (hE : within e0 20 = E - 1) (hL : within l0 20 = L - 1) :
    Calls Try.prog 67 #[.int .i64 e0, .int .i64 l0] w fun e w' => ∃ t f, e = .returned (.pointer (some ⟨t, 0, none⟩)) ∧ TRep w' t (twoS E E 4 L) f ∧ (∀ x, f x → w.heap.size ≤ x) ∧ Below w.heap.size w w' := by
  have b1 := within_bd e0 (n := 20) (by omega)
  have b2 := within_bd l0 (n := 20) (by omega)
  have v1 : IntKind.i64.wrap (1 + (E - 1)) = E := by rw [show 1 + (E - 1) = E by omega]; exact IntWalk.i64_in _ (by omega)
  have v2 : IntKind.i64.wrap (1 + (L - 1)) = L := by rw [show 1 + (L - 1) = L by omega]; exact IntWalk.i64_in _ (by omega)
  have HN := Lib.hid (fun w' => tnew2_ok E E 4 L w' (by omega) (by omega) (by omega) (by omega))
  obtain ⟨E1, hE1⟩ : ∃ x, E - 1 = x := ⟨_, rfl⟩
  obtain ⟨L1, hL1⟩ : ∃ x, L - 1 = x := ⟨_, rfl⟩
  rw [hE1] at hE v1
  rw [hL1] at hL v2
  have HE := Lib.hid (And.intro hE hL)
  clear hE hL hE1 hL1 b1 b2
  go_enter Try.func67, Try.ntmps67
  go_wp2_with fail
  refine (within_any e0 20 E1 _ (by omega) (by omega) HE.out.1).mono ?_
  rintro e w' ⟨rfl, rfl⟩
  go_wp2_with fail
  refine (within_any l0 20 L1 _ (by omega) (by omega) HE.out.2).mono ?_
  rintro e w' ⟨rfl, rfl⟩
  go_wp2_with fail
  refine (within_any e0 20 E1 _ (by omega) (by omega) HE.out.1).mono ?_
  rintro e w' ⟨rfl, rfl⟩
  go_wp2_with fail
  refine (within_any l0 20 L1 _ (by omega) (by omega) HE.out.2).mono ?_
  rintro e w' ⟨rfl, rfl⟩
  go_wp2_with fail
  refine (HN.out _).mono ?_
  rintro e w1 ⟨t, f, rfl, h1, hf1, hb1⟩
  have T1 := Lib.hid h1
  have F1 := Lib.hid hf1
  have B1 := Lib.hid hb1
  clear h1 hf1 hb1
  go_wp2_with fail
  go_ret
  exact ⟨t, f, rfl, T1.out, F1.out, B1.out⟩
end Go.Proofs.Ytpomdnglknbanaa
