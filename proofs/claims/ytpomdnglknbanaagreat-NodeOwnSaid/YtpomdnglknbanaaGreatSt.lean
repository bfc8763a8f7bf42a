
/-
  The walks of package stat: Check, Of, Spread; the statements' own sums and statBegun.
-/
import Derived.Test.YtpomdnglknbanaaGreatSl
import Derived.Test.YtpomdnglknbanaaGreatVal
set_option linter.unusedSimpArgs false
set_option linter.unusedVariables false
namespace Go.Proofs.YtpomdnglknbanaaGreat
open Go.RowKit

/-- Sums that may be. -/
def SumsOK (n s q : Int) : Prop := 0 ≤ n ∧ n ≤ 64 ∧ 0 ≤ s ∧ s ≤ n * 16777216 ∧ s ≤ q ∧ q ≤ s * 16777216 ∧ s * s ≤ n * q
theorem sumsOK_of {l : List Int} (h : Btw 0 16777216 l) (hl : l.length ≤ 64) : SumsOK l.length (sumI l) (sqI l) := by
  have h1 := sumI_bd h
  have h2 := sqI_bd h
  have h3 := spr_nonneg l
  unfold spr at h3
  exact ⟨by omega, by omega, by omega, by omega, by omega, by omega, by omega⟩
/-- Values, and all that is asked of them. -/
theorem stat_pack (l : List Int) : ∃ (ys : List Int) (n : Nat) (S Q X : Int), vals l = ys ∧ ys.length = n ∧ n ≤ 64 ∧ Btw 0 16777216 ys ∧ sumI ys = S ∧ sqI ys = Q ∧ (n : Int) * Q - S * S = X ∧ spr ys = X ∧ SumsOK n S Q :=
  ⟨vals l, _, _, _, _, rfl, rfl, by rw [vals_len]; omega, vals_btw l, rfl, rfl, rfl, rfl, sumsOK_of (vals_btw l) (by rw [vals_len]; omega)⟩
theorem SumsOK.bd {n s q : Int} (h : SumsOK n s q) : 0 ≤ n ∧ n ≤ 64 ∧ 0 ≤ s ∧ s ≤ 1073741824 ∧ 0 ≤ q ∧ q ≤ 18014398509481984 ∧ 0 ≤ n * q ∧ n * q ≤ 1152921504606846976 ∧ 0 ≤ s * s ∧ s * s ≤ n * q := by
  obtain ⟨h1, h2, h3, h4, h5, h6, h7⟩ := h
  have a : 0 ≤ n * q := Int.mul_nonneg h1 (by omega)
  have b : n * q ≤ 64 * q := Int.mul_le_mul_of_nonneg_right h2 (by omega)
  have c : 0 ≤ s * s := Int.mul_nonneg h3 h3
  exact ⟨h1, h2, h3, by omega, by omega, by omega, a, by omega, c, h7⟩

set_option maxHeartbeats 2000000 in
theorem scheck_ok (n s q : Int) (h : SumsOK n s q) (w : World) :
    Calls Tryz.prog 103 #[.agg #[.int .i64 n, .int .i64 s, .int .i64 q]] w fun e w' => e = .returned (.int .i64 0) ∧ Below w.heap.size w w' := by
  obtain ⟨_, _, _, b4, b5, b6, b7, b8, b9, _⟩ := h.bd
  obtain ⟨h1, h2, h3, h4, h5, h6, h7⟩ := h
  go_enter Tryz.func103, Tryz.ntmps103
  go_wp2_with fail
  go_ret
  exact ⟨rfl, (by repeat (first | (with_reducible exact Below.refl _ _) | ((with_reducible refine Below.alloc ?_ ?_ _); rotate_left; (next => ((try dsimp only); (try simp only [World.size_alloc, World.size_setCell, World.size_drew]); omega))) | ((with_reducible refine Below.setCell ?_ ?_ _); rotate_left; (next => ((try dsimp only); (try simp only [World.size_alloc, World.size_setCell, World.size_drew]); omega))) | (with_reducible refine Below.drew ?_) | (refine Below.trans ?_ (by assumption))))⟩

set_option maxHeartbeats 2000000 in
theorem spread_ok (n s q x : Int) (h : SumsOK n s q) (hx : n * q - s * s = x) (w : World) :
    Calls Tryz.prog 93 #[.agg #[.int .i64 n, .int .i64 s, .int .i64 q]] w fun e w' => e = .returned (.tuple #[.int .i64 x, .int .i64 0]) ∧ Below w.heap.size w w' := by
  obtain ⟨_, _, _, b4, b5, b6, b7, b8, b9, b10⟩ := h.bd
  have HX := Lib.hid hx
  clear hx
  have qa := alloc_cells
  have qf := alloc_frozens
  go_enter Tryz.func93, Tryz.ntmps93
  go_wp2_with fail
  refine (scheck_ok n s q h _).mono ?_
  rintro e w1 ⟨rfl, hb1⟩
  have z1 := hb1.size
  have c1 := Below.cells hb1
  have f1 := Below.frozens hb1
  try simp only [World.size_alloc, World.size_setCell, World.size_drew] at z1 c1 f1
  go_wp2_with fail
  rw [HX.out]
  go_ret2
  exact ⟨rfl, (by repeat (first | (with_reducible exact Below.refl _ _) | ((with_reducible refine Below.alloc ?_ ?_ _); rotate_left; (next => ((try dsimp only); (try simp only [World.size_alloc, World.size_setCell, World.size_drew]); omega))) | ((with_reducible refine Below.setCell ?_ ?_ _); rotate_left; (next => ((try dsimp only); (try simp only [World.size_alloc, World.size_setCell, World.size_drew]); omega))) | (with_reducible refine Below.drew ?_) | ((with_reducible refine Below.trans ?_ (Below.mono hb1 ?_)); rotate_left; (next => ((try dsimp only); (try simp only [World.size_alloc, World.size_setCell, World.size_drew]); omega)))))⟩

set_option maxHeartbeats 4000000 in
theorem sof_ok (A : Option Addr) (n c : Nat) (l : List Int) (s q : Int) (w : World) (hr : Row w A n l) (hm : n ≤ 64) (hb : Btw 0 16777216 l) (hs : sumI l = s) (hq : sqI l = q) :
    Calls Tryz.prog 92 #[.slice A n c] w fun e w' => e = .returned (.tuple #[.agg #[.int .i64 n, .int .i64 s, .int .i64 q], .int .i64 0]) ∧ Below w.heap.size w w' := by
  have HB := Lib.hid hr.each
  have HL := Lib.hid hr.len
  have HV := Lib.hid hb
  have HR := Lib.hid hr
  have Hs := Lib.hid hs
  have Hq := Lib.hid hq
  clear hr hb hs hq
  have qa := alloc_cells
  have qf := alloc_frozens
  go_enter Tryz.func92, Tryz.ntmps92
  go_wp2_with fail
  refine (list_ok A n c l _ (HR.out.below (by repeat (first | (with_reducible exact Below.refl _ _) | ((with_reducible refine Below.alloc ?_ ?_ _); rotate_left; (next => ((try dsimp only); (try simp only [World.size_alloc, World.size_setCell, World.size_drew]); omega))) | ((with_reducible refine Below.setCell ?_ ?_ _); rotate_left; (next => ((try dsimp only); (try simp only [World.size_alloc, World.size_setCell, World.size_drew]); omega))) | (with_reducible refine Below.drew ?_) | (refine Below.trans ?_ (by assumption))))) (by omega) HV.out).mono ?_
  rintro e w' ⟨rfl, rfl⟩
  go_wp2_with fail
  go_loopw [19] (fun i wr => ∃ k : Nat, k ≤ n ∧ i = .int .i64 k ∧ wr.cell? ⟨w.heap.size + 1, 0, none⟩ = some (.int .i64 n) ∧ wr.cell? ⟨w.heap.size + 1, 1, none⟩ = some (.int .i64 (sumI (l.take k))) ∧
      wr.cell? ⟨w.heap.size + 1, 2, none⟩ = some (.int .i64 (sqI (l.take k))) ∧ wr.frozen? ⟨w.heap.size + 1, 1, none⟩ = false ∧ wr.frozen? ⟨w.heap.size + 1, 2, none⟩ = false ∧
      wr.cell? ⟨w.heap.size, 0, none⟩ = some (.int .i64 0) ∧ wr.cell? ⟨w.heap.size, 1, none⟩ = some (.int .i64 0) ∧ wr.cell? ⟨w.heap.size, 2, none⟩ = some (.int .i64 0) ∧
      wr.frozen? ⟨w.heap.size, 0, none⟩ = false ∧ wr.frozen? ⟨w.heap.size, 1, none⟩ = false ∧ wr.frozen? ⟨w.heap.size, 2, none⟩ = false ∧
      w.heap.size + 2 ≤ wr.heap.size ∧ Below w.heap.size w wr)
    (fun i _ => n - (intOf i).toNat)
  case atStart => exact ⟨0, Nat.zero_le _, rfl, by simp [go_sem], by simp [go_sem, sumI], by simp [go_sem, sqI], by simp [go_sem], by simp [go_sem], by simp [go_sem], by simp [go_sem], by simp [go_sem], by simp [go_sem], by simp [go_sem], by simp [go_sem], by simp, (by repeat (first | (with_reducible exact Below.refl _ _) | ((with_reducible refine Below.alloc ?_ ?_ _); rotate_left; (next => ((try dsimp only); (try simp only [World.size_alloc, World.size_setCell, World.size_drew]); omega))) | ((with_reducible refine Below.setCell ?_ ?_ _); rotate_left; (next => ((try dsimp only); (try simp only [World.size_alloc, World.size_setCell, World.size_drew]); omega))) | (with_reducible refine Below.drew ?_) | (refine Below.trans ?_ (by assumption))))⟩
  case round =>
    obtain ⟨k, hk, rfl, c0, c1, c2, f1, f2, r0, r1, r2, g0, g1, g2, sz, bel⟩ := hrel
    have hV := HV.out.take k
    have hL := HL.out
    have hlen : (l.take k).length ≤ 64 := by simp; omega
    have s1 := sumI_bd hV
    have s2 := sqI_bd hV
    obtain ⟨S, e_S⟩ : ∃ z_, sumI (l.take k) = z_ := ⟨_, rfl⟩
    rw [e_S] at s1 s2 c1
    have HS := Lib.hid e_S
    clear e_S
    obtain ⟨Q, e_Q⟩ : ∃ z_, sqI (l.take k) = z_ := ⟨_, rfl⟩
    rw [e_Q] at s2 c2
    have HQ := Lib.hid e_Q
    clear e_Q
    have s3 : 0 ≤ S ∧ S ≤ 1073741824 := by omega
    have s4 : 0 ≤ Q ∧ Q ≤ 18014398509481984 := by omega
    clear s1 s2 hV hlen
    by_cases hlt : k < n
    · have hx2 := HV.out.get (k := k) (by omega)
      have e1 := sumI_snoc l (k := k) (by omega)
      have e2 := sqI_snoc l (k := k) (by omega)
      obtain ⟨bkx, offx, hAx, ltx, hrx⟩ := HB.out k hlt
      subst hAx
      replace hrx := (bel.cell (p := ⟨bkx, offx + k, none⟩) ltx).trans hrx
      obtain ⟨x, hvx, hxx⟩ := name_num hrx
      have HX := Lib.hid hvx
      clear hvx hrx
      rw [← HX.out] at hx2 e1 e2
      have hxx : 0 ≤ x * x ∧ x * x ≤ 281474976710656 := by
        refine ⟨Int.mul_nonneg hx2.1 hx2.1, ?_⟩
        exact Int.le_trans (Int.mul_le_mul_of_nonneg_left hx2.2 hx2.1) (by omega)
      rw [HS.out] at e1
      rw [HQ.out] at e2
      have E1 := Lib.hid e1
      have E2 := Lib.hid e2
      clear e1 e2 hL
      go_wp2_with fail
      go_roundw
      case rel =>
        refine ⟨k + 1, by omega, by go_num, ?_, ?_, ?_, ?_, ?_, ?_, ?_, ?_, ?_, ?_, ?_, ?_, ?_⟩
        · simp [go_sem, ↓IntWalk.iteOmega, *]
        · rw [E1.out]; simp [go_sem, ↓IntWalk.iteOmega, *]
        · rw [E2.out]; simp [go_sem, ↓IntWalk.iteOmega, *]
        all_goals first | (simp [go_sem, ↓IntWalk.iteOmega, *]; done) | (simp only [World.size_setCell]; omega) | exact (by repeat (first | (with_reducible exact Below.refl _ _) | ((with_reducible refine Below.alloc ?_ ?_ _); rotate_left; (next => ((try dsimp only); (try simp only [World.size_alloc, World.size_setCell, World.size_drew]); omega))) | ((with_reducible refine Below.setCell ?_ ?_ _); rotate_left; (next => ((try dsimp only); (try simp only [World.size_alloc, World.size_setCell, World.size_drew]); omega))) | (with_reducible refine Below.drew ?_) | (with_reducible exact bel)))
      case measure => simp [intOf]; omega
    · obtain rfl : k = n := by omega
      have e1 := HS.out
      have e2 := HQ.out
      rw [List.take_of_length_le (by omega)] at e1 e2
      have E1 := Lib.hid e1
      have E2 := Lib.hid e2
      clear e1 e2 hL
      go_wp2_with fail
      refine bodyPost_ret (v := .tuple #[.agg #[.int .i64 k, .int .i64 S, .int .i64 Q], .int .i64 0]) (by simp [results, Tryz.results92, go_sem, ↓IntWalk.iteOmega, *]) rfl ?_
      exact ⟨by rw [← Hs.out, ← Hq.out, E1.out, E2.out], (by repeat (first | (with_reducible exact Below.refl _ _) | ((with_reducible refine Below.alloc ?_ ?_ _); rotate_left; (next => ((try dsimp only); (try simp only [World.size_alloc, World.size_setCell, World.size_drew]); omega))) | ((with_reducible refine Below.setCell ?_ ?_ _); rotate_left; (next => ((try dsimp only); (try simp only [World.size_alloc, World.size_setCell, World.size_drew]); omega))) | (with_reducible refine Below.drew ?_) | (with_reducible exact bel)))⟩

end Go.Proofs.YtpomdnglknbanaaGreat
