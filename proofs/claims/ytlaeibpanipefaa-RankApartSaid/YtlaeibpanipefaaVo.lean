/-
  The walks of package vote (look, Some) and of the statements' own levels.
-/
import Derived.Test.YtlaeibpanipefaaLs
import Derived.Test.YtlaeibpanipefaaCm
import Derived.Test.YtlaeibpanipefaaTl
set_option linter.unusedSimpArgs false
set_option linter.unusedVariables false
namespace Go.Proofs.Ytlaeibpanipefaa
open Go.RowKit

/-- The levels out of l. -/
def lvls (l : List Int) : List Int := (l.take 64).map fun x => within x 128
theorem lvls_len (l : List Int) : (lvls l).length = min 64 l.length := by simp [lvls]
theorem lvls_btw (l : List Int) : Btw 0 127 (lvls l) := by
  intro x hx
  obtain ⟨y, _, rfl⟩ := List.mem_map.1 hx
  have := within_bd y (n := 128) (by omega)
  omega
theorem lvls_get {l : List Int} {k : Nat} (h : k < (lvls l).length) : (lvls l).getD k 0 = within (l.getD k 0) 128 := by
  have h2 := h
  rw [lvls_len] at h2
  simp [lvls, List.getD, List.getElem?_take, show k < 64 by omega, show k < l.length by omega]

set_option maxRecDepth 20000 in
set_option maxHeartbeats 1000000 in
theorem levels_any (A : Option Addr) (n c : Nat) (l : List Int) (w : World) (h : InRow w A n c l) :
    Calls Try.prog 27 #[.slice A n c] w fun e w' => ∃ A' c', e = .returned (.slice A' (lvls l).length c') ∧ InRow w' A' (lvls l).length c' (lvls l) ∧ Below w.heap.size w w' := by
  obtain ⟨hr, hc, hm, _⟩ := h
  unfold maxLen at hm
  have hl := hr.len
  have hv := lvls_len l
  rw [hl] at hv
  obtain ⟨i0, hi, hz0, hz1, hz2⟩ := info_parts info_int
  have hcell : ∀ k, k < (lvls l).length → (0 : Nat) < n := fun k hk => by omega
  obtain ⟨m, hmv⟩ : ∃ m, m = (lvls l).length := ⟨_, rfl⟩
  rw [← hmv] at hv ⊢
  have hml : m ≤ 64 := by omega
  have hmn : m ≤ n := by omega
  have HM := Lib.hid hmv
  have HL := Lib.hid hl
  have hB : ∀ k, k < m → ∃ b off, A = some ⟨b, off, none⟩ ∧ b < w.heap.size ∧ w.cell? ⟨b, off + k, none⟩ = some (.int .i64 (l.getD k 0)) := fun k hk => by
    obtain ⟨b, off, e, lt, hc⟩ := hr.at (by omega)
    exact ⟨b, off, e, lt, hc k (by omega)⟩
  have HB := Lib.hid hB
  clear hmv hl hcell hB hr
  have hcase : n ≤ 64 ∧ n = m ∨ 64 < n ∧ m = 64 := by omega
  clear hv
  rcases hcase with ⟨h64, rfl⟩ | ⟨h64, rfl⟩
  all_goals
    go_enter Try.func27, Try.ntmps27
    go_wp2_with fail
  · go_loopw [3, 12] (fun v i wr => ∃ k : Nat, k ≤ n ∧ i = .int .i64 k ∧ wr.ownsRow w.heap.size 3 1 v k (((lvls l).take k).map (Value.int .i64)) ∧ Below w.heap.size w wr)
      (fun _ i _ => n - (intOf i).toNat)
    case atStart => exact ⟨0, Nat.zero_le _, rfl, World.ownsRow_nil _ _ _ _, Below.refl _ _⟩
    case round =>
      obtain ⟨k, hk, rfl, hown, bel⟩ := hrel
      by_cases hlt : k < n
      · obtain ⟨b, off, hA, lt, hx0⟩ := HB.out k hlt
        subst hA
        have hx := (bel.cell (p := ⟨b, off + k, none⟩) lt).trans hx0
        have hsz := bel.size
        clear hx0
        obtain ⟨x, hxv⟩ : ∃ x, x = l.getD k 0 := ⟨_, rfl⟩
        rw [← hxv] at hx
        have HX := Lib.hid hxv
        clear hxv
        obtain ⟨y, hyv⟩ : ∃ y, y = within x 128 := ⟨_, rfl⟩
        have HY := Lib.hid hyv
        clear hyv
        go_wp2_with fail
        refine (within_any x 128 y _ (by omega) (by omega) HY.out.symm).mono ?_
        rintro e w' ⟨rfl, rfl⟩
        go_wp2_with (at_builtin; refine wpList_append_own _ rfl _ _ 22 rfl w.heap.size 3 i0 (.int .i64 0) 1 8 Try.underlying22 hi hz0 hz1 hz2 rfl (by decide) _ _ _ rfl (hown.alloc _) ⟨wr.heap.size, 0, none⟩ 1 1 [.int .i64 y] rfl rfl ?c1 ?c2 ?c3 ?c4 ?c5 ?_)
        case c1 =>
          intro j u hj
          match j, hj with
          | 0, hj => simp at hj; subst hj; simp [Addr.add]
        case c2 => intro u hu; simp at hu; subst hu; rfl
        case c3 => unfold maxLen; omega
        case c4 => omega
        case c5 => simp; omega
        · intro v' w1 hown' hgrow _
          have hrow := hown.lt
          have bel' := (bel.alloc hsz _).grown hgrow (by simp; omega) (fun g hg => (hrow g hg).1)
          have htk : (lvls l).take (k + 1) = (lvls l).take k ++ [y] := by
            rw [take_snoc _ (by have := HM.out; omega), lvls_get (by have := HM.out; omega), ← HX.out, ← HY.out]
          have hown2 : w1.ownsRow w.heap.size 3 1 v' (k + 1) (((lvls l).take (k + 1)).map (Value.int .i64)) := by rw [htk]; simpa [List.map_append, List.map_take] using hown'
          clear hgrow hown hrow hx htk hown'
          go_wp2_with fail
          go_roundw
          case rel => exact ⟨k + 1, by omega, by go_num, hown2, bel'⟩
          case measure => simp [intOf]; omega
      · obtain rfl : k = n := by omega
        go_wp2_with fail
        rw [List.take_of_length_le (by have := HM.out; omega)] at hown
        obtain ⟨A', c', rfl, q1, q2, q3⟩ := own_form hown
        go_ret
        exact ⟨A', c', rfl, ⟨Row.of_own hown, q1, q2, q3⟩, bel⟩
  · go_loopw [3, 12] (fun v i wr => ∃ k : Nat, k ≤ 64 ∧ i = .int .i64 k ∧ wr.ownsRow w.heap.size 3 1 v k (((lvls l).take k).map (Value.int .i64)) ∧ Below w.heap.size w wr)
      (fun _ i _ => 64 - (intOf i).toNat)
    case atStart => exact ⟨0, Nat.zero_le _, rfl, World.ownsRow_nil _ _ _ _, Below.refl _ _⟩
    case round =>
      obtain ⟨k, hk, rfl, hown, bel⟩ := hrel
      by_cases hlt : k < 64
      · obtain ⟨b, off, hA, lt, hx0⟩ := HB.out k hlt
        subst hA
        have hx := (bel.cell (p := ⟨b, off + k, none⟩) lt).trans hx0
        have hsz := bel.size
        clear hx0
        obtain ⟨x, hxv⟩ : ∃ x, x = l.getD k 0 := ⟨_, rfl⟩
        rw [← hxv] at hx
        have HX := Lib.hid hxv
        clear hxv
        obtain ⟨y, hyv⟩ : ∃ y, y = within x 128 := ⟨_, rfl⟩
        have HY := Lib.hid hyv
        clear hyv
        go_wp2_with fail
        refine (within_any x 128 y _ (by omega) (by omega) HY.out.symm).mono ?_
        rintro e w' ⟨rfl, rfl⟩
        go_wp2_with (at_builtin; refine wpList_append_own _ rfl _ _ 22 rfl w.heap.size 3 i0 (.int .i64 0) 1 8 Try.underlying22 hi hz0 hz1 hz2 rfl (by decide) _ _ _ rfl (hown.alloc _) ⟨wr.heap.size, 0, none⟩ 1 1 [.int .i64 y] rfl rfl ?c1 ?c2 ?c3 ?c4 ?c5 ?_)
        case c1 =>
          intro j u hj
          match j, hj with
          | 0, hj => simp at hj; subst hj; simp [Addr.add]
        case c2 => intro u hu; simp at hu; subst hu; rfl
        case c3 => unfold maxLen; omega
        case c4 => omega
        case c5 => simp; omega
        · intro v' w1 hown' hgrow _
          have hrow := hown.lt
          have bel' := (bel.alloc hsz _).grown hgrow (by simp; omega) (fun g hg => (hrow g hg).1)
          have htk : (lvls l).take (k + 1) = (lvls l).take k ++ [y] := by
            rw [take_snoc _ (by have := HM.out; omega), lvls_get (by have := HM.out; omega), ← HX.out, ← HY.out]
          have hown2 : w1.ownsRow w.heap.size 3 1 v' (k + 1) (((lvls l).take (k + 1)).map (Value.int .i64)) := by rw [htk]; simpa [List.map_append, List.map_take] using hown'
          clear hgrow hown hrow hx htk hown'
          go_wp2_with fail
          go_roundw
          case rel => exact ⟨k + 1, by omega, by go_num, hown2, bel'⟩
          case measure => simp [intOf]; omega
      · obtain rfl : k = 64 := by omega
        go_wp2_with fail
        rw [List.take_of_length_le (by have := HM.out; omega)] at hown
        obtain ⟨A', c', rfl, q1, q2, q3⟩ := own_form hown
        go_ret
        exact ⟨A', c', rfl, ⟨Row.of_own hown, q1, q2, q3⟩, bel⟩
/-- The same with its parts named. -/
theorem levels_at (A : Option Addr) (n c : Nat) (l : List Int) (w : World) (h : InRow w A n c l) (ys : List Int) (m : Nat) (hy : lvls l = ys) (hm : ys.length = m) :
    Calls Try.prog 27 #[.slice A n c] w fun e w' => ∃ A' c', e = .returned (.slice A' m c') ∧ InRow w' A' m c' ys ∧ Below w.heap.size w w' := by
  subst hy hm
  exact levels_any A n c l w h

set_option maxHeartbeats 400000 in
theorem vpred_ok (n : Int) (a : 0 ≤ n) (b : n ≤ 127) (w : World) :
    Calls Try.prog 71 #[.int .i64 n] w fun e w' => e = .returned (.bool false) ∧ w = w' := by
  have h1 : ¬ n < 0 := by omega
  have h2 : ¬ 127 < n := by omega
  go_enter Try.func71, Try.ntmps71
  go_wp2_with fail
  go_ret
  exact ⟨rfl, rfl⟩
set_option maxHeartbeats 1000000 in
theorem vindex_none (A : Option Addr) (n c : Nat) (l : List Int) (w : World) (h : Row w A n l) (hm : n ≤ 9223372036854775807) (hb : Btw 0 127 l) :
    Calls Try.prog 93 #[.slice A n c, .func (.func 71) #[] #[]] w fun e w' => e = .returned (.int .i64 (-1)) ∧ w = w' := by
  have HB := Lib.hid h.each
  have HL := Lib.hid h.len
  have HV := Lib.hid hb
  clear h hb
  go_enter Try.func93, Try.ntmps93
  go_wp2_with fail
  go_loop [8] (fun i => ∃ k : Nat, k ≤ n ∧ i = .int .i64 k) (fun i => n - (intOf i).toNat)
  case atStart => exact ⟨0, Nat.zero_le _, rfl⟩
  case round =>
    obtain ⟨k, hk, rfl⟩ := hrel
    by_cases hlt : k < n
    · obtain ⟨bkx, offx, hAx, ltx, hrx⟩ := HB.out k hlt
      subst hAx
      obtain ⟨x, hvx, hxx⟩ := name_num hrx
      have HX := Lib.hid hvx
      clear hvx hrx
      have hv := HV.out.get (k := k) (by have := HL.out; omega)
      rw [← HX.out] at hv
      go_wp2_with fail
      refine (vpred_ok x hv.1 hv.2 _).mono ?_
      rintro e w' ⟨rfl, rfl⟩
      go_wp2_with fail
      go_round
      case rel => exact ⟨k + 1, by omega, by go_num⟩
      case measure => simp [intOf]; omega
    · obtain rfl : k = n := by omega
      go_wp2_with fail
      go_ret
      exact ⟨rfl, rfl⟩
set_option maxHeartbeats 400000 in
theorem vcont_none (A : Option Addr) (n c : Nat) (l : List Int) (w : World) (h : Row w A n l) (hm : n ≤ 9223372036854775807) (hb : Btw 0 127 l) :
    Calls Try.prog 66 #[.slice A n c, .func (.func 71) #[] #[]] w fun e w' => e = .returned (.bool false) ∧ w = w' := by
  have C := Lib.hid (vindex_none A n c l w h hm hb)
  clear h hb
  go_enter Try.func66, Try.ntmps66
  go_wp2_with fail
  refine (C.out).mono ?_
  rintro e w' ⟨rfl, rfl⟩
  go_wp2_with fail
  go_ret
  exact ⟨rfl, rfl⟩

theorem same_below {P : Program} {f : FuncId} {args : Array Value} {w : World} {v : Value} (h : Calls P f args w fun e w' => e = .returned v ∧ w = w') : Calls P f args w fun e w' => e = .returned v ∧ Below w.heap.size w w' :=
  h.mono fun _ _ ⟨he, hw⟩ => ⟨he, hw ▸ Below.refl _ _⟩
theorem vlook_ok (A : Option Addr) (n c : Nat) (l : List Int) (w : World) (h : Row w A n l) (hm : n ≤ 64) (hb : Btw 0 127 l) :
    Calls Try.prog 53 #[.slice A n c] w fun e w' => e = .returned (.int .i64 0) ∧ w = w' := by
  have C := Lib.hid (vcont_none A n c l w h (by omega) hb)
  clear h hb
  go_enter Try.func53, Try.ntmps53
  go_wp2_with fail
  refine (C.out).mono ?_
  rintro e w' ⟨rfl, rfl⟩
  go_wp2_with fail
  go_ret
  exact ⟨rfl, rfl⟩

set_option maxHeartbeats 1000000 in
theorem some_ok (A : Option Addr) (n c : Nat) (l : List Int) (k t f : Int) (w : World) (hr : Row w A n l) (hm : n ≤ 64) (hb : Btw 0 127 l) (hk : 1 ≤ k ∧ k ≤ 64) (ht : 1 ≤ t ∧ t ≤ 60) (hf : cnt t l = f) :
    Calls Try.prog 28 #[.slice A n c, .int .i64 k, .int .i64 t] w fun e w' => e = .returned (.tuple #[.bool (decide (k ≤ f)), .int .i64 0]) ∧ w = w' := by
  have HB := Lib.hid hr.each
  have HL := Lib.hid hr.len
  have HF := Lib.hid hf
  have C := Lib.hid (vlook_ok A n c l w hr hm hb)
  clear hr hf hb
  obtain ⟨k0, k1⟩ := hk
  obtain ⟨t0, t1⟩ := ht
  go_enter Try.func28, Try.ntmps28
  go_wp2_with fail
  refine (C.out).mono ?_
  rintro e w' ⟨rfl, rfl⟩
  go_wp2_with fail
  go_loop [9, 33] (fun v i => ∃ (k : Nat) (D : Int), k ≤ n ∧ i = .int .i64 k ∧ v = .int .i64 D ∧ cnt t (l.take k) = D) (fun _ i => n - (intOf i).toNat)
  case atStart => exact ⟨0, 0, Nat.zero_le _, rfl, rfl, by simp [cnt]⟩
  case round =>
    obtain ⟨m, D, hk, rfl, rfl, hD⟩ := hrel
    have d1 := cnt_bd t (l.take m)
    have hlen : (l.take m).length ≤ 64 := by simp; omega
    rw [hD] at d1
    have d3 : 0 ≤ D ∧ D ≤ 64 := by omega
    by_cases hlt : m < n
    · have d2 := cnt_snoc t l (k := m) (by have := HL.out; omega)
      rw [hD] at d2
      obtain ⟨bkx, offx, hAx, ltx, hrx⟩ := HB.out m hlt
      subst hAx
      obtain ⟨x, hvx, hxx⟩ := name_num hrx
      have HX := Lib.hid hvx
      clear hvx hrx
      rw [← HX.out] at d2
      clear d1 hlen hD
      by_cases hc : t ≤ x
      · rw [if_pos hc] at d2
        have D2 := Lib.hid d2
        clear d2
        go_wp2_with fail
        go_round
        case rel => exact ⟨m + 1, _, by omega, by go_num, rfl, D2.out⟩
        case measure => simp [intOf]; omega
      · rw [if_neg hc, Int.add_zero] at d2
        have D2 := Lib.hid d2
        clear d2
        go_wp2_with fail
        go_round
        case rel => exact ⟨m + 1, _, by omega, by go_num, rfl, D2.out⟩
        case measure => simp [intOf]; omega
    · obtain rfl : m = n := by omega
      rw [List.take_of_length_le (by have := HL.out; omega), HF.out] at hD
      subst hD
      clear d1 hlen
      go_wp2_with fail
      go_ret2
      exact ⟨rfl, rfl⟩
end Go.Proofs.Ytlaeibpanipefaa
