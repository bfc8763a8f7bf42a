/-
  The walks of package level: look, spread, Of.
-/
import Derived.Test.YtlnagfmaiabhaaaLp
import Derived.Test.YtlnagfmaiabhaaaSt
import Derived.Test.YtlnagfmaiabhaaaWi
import Derived.RegionTactic
import Derived.BigRegion
set_option linter.unusedSimpArgs false
set_option linter.unusedVariables false
namespace Go.Proofs.Ytlnagfmaiabhaaa
open Go.RowKit

set_option maxHeartbeats 1000000 in
theorem look_ok (z L : Int) (A : Option Addr) (n c : Nat) (l : List Int) (w : World) (hr : Row w A n l) (hz : 1 ≤ z ∧ z ≤ 64) (hn : (n : Int) ≤ z) (h0 : 0 < n) (hb : Btw 0 16777216 l) (hL : 1 ≤ L ∧ L ≤ 16777216) :
    Calls Try.prog 81 #[.agg #[.int .i64 z, .slice A n c], .int .i64 L] w fun e w' => e = .returned (.int .i64 0) ∧ Below w.heap.size w w' := by
  have hc : ∀ w', Row w' A n l → _ := fun w' h => wcheck_ok z A n c l w' h hz hn hb
  have HC := Lib.hid hc
  have HR := Lib.hid hr
  have hne : ((n : Int) == 0) = false := by simp; omega
  obtain ⟨L0, L1⟩ := hL
  have qa := alloc_cells
  have qf := alloc_frozens
  clear hc hr hb
  go_enter Try.func81, Try.ntmps81
  go_wp2_with fail
  refine (HC.out _ (HR.out.below (by repeat (first | (with_reducible exact Below.refl _ _) | ((with_reducible refine Below.alloc ?_ ?_ _); rotate_left; (next => ((try dsimp only); (try simp only [World.size_alloc, World.size_setCell, World.size_drew]); omega))) | ((with_reducible refine Below.setCell ?_ ?_ _); rotate_left; (next => ((try dsimp only); (try simp only [World.size_alloc, World.size_setCell, World.size_drew]); omega))) | (with_reducible refine Below.drew ?_) | (refine Below.trans ?_ (by assumption)))))).mono ?_
  rintro e w1 ⟨rfl, hb1⟩
  have z1 := hb1.size
  have c1 := Below.cells hb1
  have f1 := Below.frozens hb1
  try simp only [World.size_alloc, World.size_setCell, World.size_drew] at z1 c1 f1
  go_wp2_with fail
  go_ret
  exact ⟨rfl, (by repeat (first | (with_reducible exact Below.refl _ _) | ((with_reducible refine Below.alloc ?_ ?_ _); rotate_left; (next => ((try dsimp only); (try simp only [World.size_alloc, World.size_setCell, World.size_drew]); omega))) | ((with_reducible refine Below.setCell ?_ ?_ _); rotate_left; (next => ((try dsimp only); (try simp only [World.size_alloc, World.size_setCell, World.size_drew]); omega))) | (with_reducible refine Below.drew ?_) | ((with_reducible refine Below.trans ?_ (Below.mono hb1 ?_)); rotate_left; (next => ((try dsimp only); (try simp only [World.size_alloc, World.size_setCell, World.size_drew]); omega)))))⟩

set_option maxHeartbeats 2000000 in
theorem lspread_ok (z L S Q X N : Int) (A : Option Addr) (n c : Nat) (l : List Int) (w : World) (hr : Row w A n l) (h0 : 0 < n) (hm : n ≤ 64) (hb : Btw 0 16777216 l) (hL : 1 ≤ L ∧ L ≤ 16777216) (hS : sumI l = S) (hQ : sqI l = Q) (ok : SumsOK n S Q) (hX : (n : Int) * Q - S * S = X) (hN : lfl n X L = N) :
    Calls Try.prog 82 #[.agg #[.int .i64 z, .slice A n c], .int .i64 L] w fun e w' => e = .returned (.tuple #[.agg #[.int .i64 n, .int .i64 S, .int .i64 Q], .int .i64 N]) ∧ Below w.heap.size w w' := by
  have hc : ∀ w', Row w' A n l → _ := fun w' h => sof_ok A n c l S Q w' h hm hb hS hQ
  have hs : ∀ w', _ := fun w' => spread_ok n S Q X ok hX w'
  have bd := ok.bd
  have HC := Lib.hid hc
  have HS := Lib.hid hs
  have HR := Lib.hid hr
  have a := mul_bd (a := (n : Int)) (b := n) (A := 64) (B := 64) (by omega) (by omega)
  have b := mul_bd a (b := L) (B := 16777216) (by omega)
  have d := mul_bd b (b := L) (B := 16777216) (by omega)
  have e1 : IntKind.i64.wrap ((n : Int) * n) = n * n := IntWalk.i64_in _ (by omega)
  have e2 : IntKind.i64.wrap ((n : Int) * n * L) = n * n * L := IntWalk.i64_in _ (by omega)
  have e3 : IntKind.i64.wrap ((n : Int) * n * L * L) = n * n * L * L := IntWalk.i64_in _ (by omega)
  have hcs : (X < (n : Int) * n * L * L ∧ N = n * n * L * L) ∨ (¬ X < (n : Int) * n * L * L ∧ N = X) := by
    unfold lfl at hN
    by_cases q : X < (n : Int) * n * L * L
    · rw [if_pos q] at hN; exact .inl ⟨q, hN.symm⟩
    · rw [if_neg q] at hN; exact .inr ⟨q, hN.symm⟩
  have qa := alloc_cells
  have qf := alloc_frozens
  clear hc hs hr hb hS hQ ok hX hN
  rcases hcs with ⟨q, rfl⟩ | ⟨q, rfl⟩
  · have em : max X ((n : Int) * n * L * L) = n * n * L * L := by omega
    go_enter Try.func82, Try.ntmps82
    go_wp2_with fail
    refine (HC.out _ (HR.out.below (by repeat (first | (with_reducible exact Below.refl _ _) | ((with_reducible refine Below.alloc ?_ ?_ _); rotate_left; (next => ((try dsimp only); (try simp only [World.size_alloc, World.size_setCell, World.size_drew]); omega))) | ((with_reducible refine Below.setCell ?_ ?_ _); rotate_left; (next => ((try dsimp only); (try simp only [World.size_alloc, World.size_setCell, World.size_drew]); omega))) | (with_reducible refine Below.drew ?_) | (refine Below.trans ?_ (by assumption)))))).mono ?_
    rintro e w1 ⟨rfl, hb1⟩
    have z1 := hb1.size
    have c1 := Below.cells hb1
    have f1 := Below.frozens hb1
    try simp only [World.size_alloc, World.size_setCell, World.size_drew] at z1 c1 f1
    go_wp2_with fail
    refine (HS.out _).mono ?_
    rintro e w2 ⟨rfl, hb2⟩
    have z2 := hb2.size
    have c2 := Below.cells hb2
    have f2 := Below.frozens hb2
    try simp only [World.size_alloc, World.size_setCell, World.size_drew] at z2 c2 f2
    go_wp2_with fail
    go_region
    go_wp2_with fail
    refine bodyPost_ret (v := .tuple #[.agg #[.int .i64 n, .int .i64 S, .int .i64 Q], .int .i64 ((n : Int) * n * L * L)]) (by simp [results, Try.results82, go_sem, ↓IntWalk.iteOmega, *]) rfl ?_
    exact ⟨rfl, (by repeat (first | (with_reducible exact Below.refl _ _) | ((with_reducible refine Below.alloc ?_ ?_ _); rotate_left; (next => ((try dsimp only); (try simp only [World.size_alloc, World.size_setCell, World.size_drew]); omega))) | ((with_reducible refine Below.setCell ?_ ?_ _); rotate_left; (next => ((try dsimp only); (try simp only [World.size_alloc, World.size_setCell, World.size_drew]); omega))) | (with_reducible refine Below.drew ?_) | ((with_reducible refine Below.trans ?_ (Below.mono hb2 ?_)); rotate_left; (next => ((try dsimp only); (try simp only [World.size_alloc, World.size_setCell, World.size_drew]); omega))) | ((with_reducible refine Below.trans ?_ (Below.mono hb1 ?_)); rotate_left; (next => ((try dsimp only); (try simp only [World.size_alloc, World.size_setCell, World.size_drew]); omega)))))⟩
  · have em : max N ((n : Int) * n * L * L) = N := by omega
    go_enter Try.func82, Try.ntmps82
    go_wp2_with fail
    refine (HC.out _ (HR.out.below (by repeat (first | (with_reducible exact Below.refl _ _) | ((with_reducible refine Below.alloc ?_ ?_ _); rotate_left; (next => ((try dsimp only); (try simp only [World.size_alloc, World.size_setCell, World.size_drew]); omega))) | ((with_reducible refine Below.setCell ?_ ?_ _); rotate_left; (next => ((try dsimp only); (try simp only [World.size_alloc, World.size_setCell, World.size_drew]); omega))) | (with_reducible refine Below.drew ?_) | (refine Below.trans ?_ (by assumption)))))).mono ?_
    rintro e w1 ⟨rfl, hb1⟩
    have z1 := hb1.size
    have c1 := Below.cells hb1
    have f1 := Below.frozens hb1
    try simp only [World.size_alloc, World.size_setCell, World.size_drew] at z1 c1 f1
    go_wp2_with fail
    refine (HS.out _).mono ?_
    rintro e w2 ⟨rfl, hb2⟩
    have z2 := hb2.size
    have c2 := Below.cells hb2
    have f2 := Below.frozens hb2
    try simp only [World.size_alloc, World.size_setCell, World.size_drew] at z2 c2 f2
    go_wp2_with fail
    go_region
    go_wp2_with fail
    refine bodyPost_ret (v := .tuple #[.agg #[.int .i64 n, .int .i64 S, .int .i64 Q], .int .i64 N]) (by simp [results, Try.results82, go_sem, ↓IntWalk.iteOmega, *]) rfl ?_
    exact ⟨rfl, (by repeat (first | (with_reducible exact Below.refl _ _) | ((with_reducible refine Below.alloc ?_ ?_ _); rotate_left; (next => ((try dsimp only); (try simp only [World.size_alloc, World.size_setCell, World.size_drew]); omega))) | ((with_reducible refine Below.setCell ?_ ?_ _); rotate_left; (next => ((try dsimp only); (try simp only [World.size_alloc, World.size_setCell, World.size_drew]); omega))) | (with_reducible refine Below.drew ?_) | ((with_reducible refine Below.trans ?_ (Below.mono hb2 ?_)); rotate_left; (next => ((try dsimp only); (try simp only [World.size_alloc, World.size_setCell, World.size_drew]); omega))) | ((with_reducible refine Below.trans ?_ (Below.mono hb1 ?_)); rotate_left; (next => ((try dsimp only); (try simp only [World.size_alloc, World.size_setCell, World.size_drew]); omega)))))⟩

set_option maxRecDepth 100000 in
set_option maxHeartbeats 2000000 in
theorem level_ok (z L T S Q X N k : Int) (A : Option Addr) (n c : Nat) (l : List Int) (w : World) (hr : Row w A n l) (hz : 1 ≤ z ∧ z ≤ 64) (hn : (n : Int) ≤ z) (h0 : 0 < n) (hb : Btw 0 16777216 l) (hL : 1 ≤ L ∧ L ≤ 16777216) (hT : 0 ≤ T ∧ T ≤ 1073741824)
    (hS : sumI l = S) (hQ : sqI l = Q) (ok : SumsOK n S Q) (hX : (n : Int) * Q - S * S = X) (hN : lfl n X L = N) (hk : LevR N (late0 n S T) k) :
    Calls Try.prog 52 #[.agg #[.int .i64 z, .slice A n c], .int .i64 L, .int .i64 T] w fun e w' => e = .returned (.tuple #[.int .i64 k, .int .i64 0]) ∧ Below w.heap.size w w' := by
  have hlook : ∀ w', Row w' A n l → _ := fun w' h => look_ok z L A n c l w' h hz hn h0 hb hL
  have hsp : ∀ w', Row w' A n l → _ := fun w' h => lspread_ok z L S Q X N A n c l w' h h0 (by omega) hb hL hS hQ ok hX hN
  have bd := ok.bd
  have Xb : 0 ≤ X ∧ X ≤ 1152921504606846976 := by omega
  have Nb := lfl_bd (n := n) (by omega) Xb hL
  rw [hN] at Nb
  have HLook := Lib.hid hlook
  have HSp := Lib.hid hsp
  have HR := Lib.hid hr
  have tb := mul_bd (a := (n : Int)) (b := T) (A := 64) (B := 1073741824) (by omega) hT
  obtain ⟨T0, T1⟩ := hT
  have qa := alloc_cells
  have qf := alloc_frozens
  by_cases hd : 0 < (n : Int) * T - S
  · have e : late0 n S T = n * T - S := by unfold late0; rw [if_pos hd]
    rw [e] at hk
    obtain ⟨D, hD⟩ : ∃ D, (n : Int) * T - S = D := ⟨_, rfl⟩
    rw [hD] at hk hd
    have Db : 1 ≤ D ∧ D ≤ 68719476736 := by omega
    have DD := mul_bd (a := D) (b := D) (A := 68719476736) (B := 68719476736) (by omega) (by omega)
    have uD : U64 D := by unfold U64; omega
    have uN : U64 N := by unfold U64; omega
    have uDD : U128 (D * D) := by unfold U128; omega
    have uA : U128 (N + D * D) := by unfold U128; omega
    have uNN : U128 N := by unfold U128; omega
    have hmul : ∀ w', _ := fun w' => mul_any D D (D * D) w' uD uD rfl
    have hadd : ∀ w', _ := fun w' => add_ok N (D * D) (N + D * D) (Wd.lit uN) (Wd.mk uDD) rfl uA w'
    have hhalv : ∀ w', _ := fun w' => halv_ok (N + D * D) N k (Wd.mk uA) (Wd.lit uN) (by omega) hk.1 hk.2.2.1 hk.2.2.2 w'
    have HMul := Lib.hid hmul
    have HAdd := Lib.hid hadd
    have HHalv := Lib.hid hhalv
    clear hlook hsp hr hb hS hQ ok hX hN hk hmul hadd hhalv e uD uN uDD uA uNN DD
    go_enter Try.func52, Try.ntmps52
    go_wp2_with fail
    refine (HLook.out _ (HR.out.below (by repeat (first | (with_reducible exact Below.refl _ _) | ((with_reducible refine Below.alloc ?_ ?_ _); rotate_left; (next => ((try dsimp only); (try simp only [World.size_alloc, World.size_setCell, World.size_drew]); omega))) | ((with_reducible refine Below.setCell ?_ ?_ _); rotate_left; (next => ((try dsimp only); (try simp only [World.size_alloc, World.size_setCell, World.size_drew]); omega))) | (with_reducible refine Below.drew ?_) | (refine Below.trans ?_ (by assumption)))))).mono ?_
    rintro e w1 ⟨rfl, hb1⟩
    have z1 := hb1.size
    have c1 := Below.cells hb1
    have f1 := Below.frozens hb1
    try simp only [World.size_alloc, World.size_setCell, World.size_drew] at z1 c1 f1
    go_wp2_with fail
    refine (HSp.out _ (HR.out.below (by repeat (first | (with_reducible exact Below.refl _ _) | ((with_reducible refine Below.alloc ?_ ?_ _); rotate_left; (next => ((try dsimp only); (try simp only [World.size_alloc, World.size_setCell, World.size_drew]); omega))) | ((with_reducible refine Below.setCell ?_ ?_ _); rotate_left; (next => ((try dsimp only); (try simp only [World.size_alloc, World.size_setCell, World.size_drew]); omega))) | (with_reducible refine Below.drew ?_) | ((with_reducible refine Below.trans ?_ (Below.mono hb1 ?_)); rotate_left; (next => ((try dsimp only); (try simp only [World.size_alloc, World.size_setCell, World.size_drew]); omega))))))).mono ?_
    rintro e w2 ⟨rfl, hb2⟩
    have z2 := hb2.size
    have c2 := Below.cells hb2
    have f2 := Below.frozens hb2
    try simp only [World.size_alloc, World.size_setCell, World.size_drew] at z2 c2 f2
    go_wp2_with fail
    refine (HMul.out _).mono ?_
    rintro e w3 ⟨rfl, hb3⟩
    have z3 := hb3.size
    have c3 := Below.cells hb3
    have f3 := Below.frozens hb3
    try simp only [World.size_alloc, World.size_setCell, World.size_drew] at z3 c3 f3
    go_wp2_with fail
    refine (HAdd.out _).mono ?_
    rintro e w4 ⟨rfl, hb4⟩
    have z4 := hb4.size
    have c4 := Below.cells hb4
    have f4 := Below.frozens hb4
    try simp only [World.size_alloc, World.size_setCell, World.size_drew] at z4 c4 f4
    go_wp2_with fail
    refine (HHalv.out _).mono ?_
    rintro e w5 ⟨rfl, hb5⟩
    have z5 := hb5.size
    have c5 := Below.cells hb5
    have f5 := Below.frozens hb5
    try simp only [World.size_alloc, World.size_setCell, World.size_drew] at z5 c5 f5
    go_wp2_with fail
    go_ret2
    exact ⟨rfl, (by repeat (first | (with_reducible exact Below.refl _ _) | ((with_reducible refine Below.alloc ?_ ?_ _); rotate_left; (next => ((try dsimp only); (try simp only [World.size_alloc, World.size_setCell, World.size_drew]); omega))) | ((with_reducible refine Below.setCell ?_ ?_ _); rotate_left; (next => ((try dsimp only); (try simp only [World.size_alloc, World.size_setCell, World.size_drew]); omega))) | (with_reducible refine Below.drew ?_) | ((with_reducible refine Below.trans ?_ (Below.mono hb5 ?_)); rotate_left; (next => ((try dsimp only); (try simp only [World.size_alloc, World.size_setCell, World.size_drew]); omega))) | ((with_reducible refine Below.trans ?_ (Below.mono hb4 ?_)); rotate_left; (next => ((try dsimp only); (try simp only [World.size_alloc, World.size_setCell, World.size_drew]); omega))) | ((with_reducible refine Below.trans ?_ (Below.mono hb3 ?_)); rotate_left; (next => ((try dsimp only); (try simp only [World.size_alloc, World.size_setCell, World.size_drew]); omega))) | ((with_reducible refine Below.trans ?_ (Below.mono hb2 ?_)); rotate_left; (next => ((try dsimp only); (try simp only [World.size_alloc, World.size_setCell, World.size_drew]); omega))) | ((with_reducible refine Below.trans ?_ (Below.mono hb1 ?_)); rotate_left; (next => ((try dsimp only); (try simp only [World.size_alloc, World.size_setCell, World.size_drew]); omega)))))⟩
  · have e : late0 n S T = 0 := by unfold late0; rw [if_neg hd]
    rw [e] at hk
    have k0 : k = 0 := by
      obtain ⟨a1, a2, a3, a4⟩ := hk
      rcases Int.lt_or_le 0 k with q | q
      · have p : (2 : Int) ^ 1 ≤ 2 ^ k.toNat := by
          exact pow_le (show 1 ≤ k.toNat by omega)
        have q := Int.mul_le_mul_of_nonneg_left p (show 0 ≤ N by omega)
        omega
      · omega
    subst k0
    clear hlook hsp hr hb hS hQ ok hX hN hk e
    go_enter Try.func52, Try.ntmps52
    go_wp2_with fail
    refine (HLook.out _ (HR.out.below (by repeat (first | (with_reducible exact Below.refl _ _) | ((with_reducible refine Below.alloc ?_ ?_ _); rotate_left; (next => ((try dsimp only); (try simp only [World.size_alloc, World.size_setCell, World.size_drew]); omega))) | ((with_reducible refine Below.setCell ?_ ?_ _); rotate_left; (next => ((try dsimp only); (try simp only [World.size_alloc, World.size_setCell, World.size_drew]); omega))) | (with_reducible refine Below.drew ?_) | (refine Below.trans ?_ (by assumption)))))).mono ?_
    rintro e w1 ⟨rfl, hb1⟩
    have z1 := hb1.size
    have c1 := Below.cells hb1
    have f1 := Below.frozens hb1
    try simp only [World.size_alloc, World.size_setCell, World.size_drew] at z1 c1 f1
    go_wp2_with fail
    refine (HSp.out _ (HR.out.below (by repeat (first | (with_reducible exact Below.refl _ _) | ((with_reducible refine Below.alloc ?_ ?_ _); rotate_left; (next => ((try dsimp only); (try simp only [World.size_alloc, World.size_setCell, World.size_drew]); omega))) | ((with_reducible refine Below.setCell ?_ ?_ _); rotate_left; (next => ((try dsimp only); (try simp only [World.size_alloc, World.size_setCell, World.size_drew]); omega))) | (with_reducible refine Below.drew ?_) | ((with_reducible refine Below.trans ?_ (Below.mono hb1 ?_)); rotate_left; (next => ((try dsimp only); (try simp only [World.size_alloc, World.size_setCell, World.size_drew]); omega))))))).mono ?_
    rintro e w2 ⟨rfl, hb2⟩
    have z2 := hb2.size
    have c2 := Below.cells hb2
    have f2 := Below.frozens hb2
    try simp only [World.size_alloc, World.size_setCell, World.size_drew] at z2 c2 f2
    go_wp2_with fail
    go_ret2
    exact ⟨rfl, (by repeat (first | (with_reducible exact Below.refl _ _) | ((with_reducible refine Below.alloc ?_ ?_ _); rotate_left; (next => ((try dsimp only); (try simp only [World.size_alloc, World.size_setCell, World.size_drew]); omega))) | ((with_reducible refine Below.setCell ?_ ?_ _); rotate_left; (next => ((try dsimp only); (try simp only [World.size_alloc, World.size_setCell, World.size_drew]); omega))) | (with_reducible refine Below.drew ?_) | ((with_reducible refine Below.trans ?_ (Below.mono hb2 ?_)); rotate_left; (next => ((try dsimp only); (try simp only [World.size_alloc, World.size_setCell, World.size_drew]); omega))) | ((with_reducible refine Below.trans ?_ (Below.mono hb1 ?_)); rotate_left; (next => ((try dsimp only); (try simp only [World.size_alloc, World.size_setCell, World.size_drew]); omega)))))⟩
end Go.Proofs.Ytlnagfmaiabhaaa
