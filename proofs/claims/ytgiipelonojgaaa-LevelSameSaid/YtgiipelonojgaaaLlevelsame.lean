import Derived.Test.YtgiipelonojgaaaLw
import Derived.Test.YtgiipelonojgaaaRo
import Derived.Test.YtgiipelonojgaaaRep
set_option linter.unusedSimpArgs false
set_option linter.unusedVariables false
namespace Go.Proofs.Ytgiipelonojgaaa
open Go.RowKit

set_option maxRecDepth 100000 in
set_option maxHeartbeats 16000000 in
theorem levelSame_walk (p q r s : Int) (w : World) (_ : (Lit.int .i64 p).wf = true) (_ : (Lit.int .i64 q).wf = true) (_ : (Lit.int .i64 r).wf = true) (_ : (Lit.int .i64 s).wf = true) :
    Calls Try.prog 17 #[.int .i64 p, .int .i64 q, .int .i64 r, .int .i64 s] w fun e w' =>
      e = .returned (.bool true) ∧ Below w.heap.size w w' := by
  have b1 := within_bd p (n := 100000) (by omega)
  have b2 := within_bd q (n := 64) (by omega)
  have b3 := within_bd r (n := 100) (by omega)
  have b4 := within_bd s (n := 10000) (by omega)
  obtain ⟨N, e_N⟩ : ∃ z_, within p 100000 = z_ := ⟨_, rfl⟩
  rw [e_N] at b1
  have HN := Lib.hid e_N
  clear e_N
  obtain ⟨KP, e_KP⟩ : ∃ z_, within q 64 = z_ := ⟨_, rfl⟩
  rw [e_KP] at b2
  have HKP := Lib.hid e_KP
  clear e_KP
  obtain ⟨LP, e_LP⟩ : ∃ z_, within r 100 = z_ := ⟨_, rfl⟩
  rw [e_LP] at b3
  have HLP := Lib.hid e_LP
  clear e_LP
  obtain ⟨RP, e_RP⟩ : ∃ z_, within s 10000 = z_ := ⟨_, rfl⟩
  rw [e_RP] at b4
  have HRP := Lib.hid e_RP
  clear e_RP
  obtain ⟨k, hk⟩ : ∃ k : Nat, 1 + KP = (k : Int) := ⟨(1 + KP).toNat, by omega⟩
  obtain ⟨L, hL⟩ : ∃ L, 1 + LP = L := ⟨_, rfl⟩
  obtain ⟨R, hR⟩ : ∃ R, 1 + RP = R := ⟨_, rfl⟩
  have kb : 1 ≤ k ∧ k ≤ 64 := by omega
  have Lb : 1 ≤ L ∧ L ≤ 100 := by omega
  have Rb : 1 ≤ R ∧ R ≤ 10000 := by omega
  have m1 := mul_bd (a := R) (b := L) (A := 10000) (B := 100) (by omega) (by omega)
  have m2 := mul_bd (a := R) (b := R) (A := 10000) (B := 10000) (by omega) (by omega)
  have m3 : 1 * 1 ≤ R * L := Int.mul_le_mul Rb.1 Lb.1 (by omega) (by omega)
  have kl : 1 * 1 ≤ (k : Int) * L := Int.mul_le_mul (by omega) Lb.1 (by omega) (by omega)
  have hb : Btw 0 16777216 (List.replicate k N) := rep_btw (by omega)
  have hn : (List.replicate k N).length = k := by simp
  have hS := sumI_rep k N
  have hQ := sqI_rep k N
  have hsp := spr_rep k N
  have ok := sumsOK_of hb (by rw [hn]; omega)
  rw [hn, hS, hQ] at ok
  have hX : (k : Int) * (k * (N * N)) - k * N * (k * N) = 0 := by
    rw [← hS, ← hQ, ← hsp]; unfold spr; rw [hn]
  obtain ⟨lev, hlev⟩ := levR_ex (N := 1) (D := R) (by omega) (by omega)
  have hsc := hlev.scale (c := (k : Int) * L) (by omega)
  rw [Int.one_mul] at hsc
  have hfl : lfl k 0 L = (k : Int) * L * ((k : Int) * L) := by
    have e : (k : Int) * k * L * L = (k : Int) * L * ((k : Int) * L) := by grind
    have pos : 1 * 1 ≤ (k : Int) * L * ((k : Int) * L) := Int.mul_le_mul kl kl (by omega) (by omega)
    unfold lfl; rw [e, if_pos (by omega)]
  obtain ⟨RL, hRL⟩ : ∃ z, R * L = z := ⟨_, rfl⟩
  obtain ⟨T, hT⟩ : ∃ z, N + RL = z := ⟨_, rfl⟩
  have hla : late0 k (k * N) T = R * ((k : Int) * L) := by
    have e : (k : Int) * T - k * N = R * ((k : Int) * L) := by rw [← hT, ← hRL]; grind
    have pos : 1 * 1 ≤ R * ((k : Int) * L) := Int.mul_le_mul Rb.1 kl (by omega) (by omega)
    unfold late0; rw [e, if_pos (by omega)]
  have uM : U64 (1 + R * R) := by unfold U64; omega
  have l0 := hlev.1
  obtain ⟨MM, hMM⟩ : ∃ z, R * R = z := ⟨_, rfl⟩
  obtain ⟨M, hM⟩ : ∃ z, 1 + MM = z := ⟨_, rfl⟩
  have h1 : ∀ A c w', Row w' A k (List.replicate k N) → _ := fun A c w' h => level_ok 64 L T _ _ 0 _ lev A k c _ w' h (by omega) (by omega) (by omega) hb (by omega) (by omega) hS hQ ok hX hfl (by rw [hla]; exact hsc)
  have h2 : ∀ w', _ := fun w' => halv_ok (1 + R * R) 1 lev (Wd.lit uM) (Wd.lit (by unfold U64; omega)) (by omega) hlev.1 hlev.2.2.1 hlev.2.2.2 w'
  rw [hMM, hM] at h2
  have H1 := Lib.hid h1
  have H2 := Lib.hid h2
  have NM := Lib.hid (fun w => num_any M w (by omega) (by omega))
  have N1 := Lib.hid (fun w => num_any 1 w (by omega) (by omega))
  have HR := Lib.hid (fun w' b c (h : World.cell? w' ⟨b, 0, none⟩ = some (.int .i64 N)) => repeat_ok b c N k w' h kb.1 (by omega))
  have w1 : IntKind.i64.wrap RL = RL := IntWalk.i64_in _ (by omega)
  have w2 : IntKind.i64.wrap T = T := IntWalk.i64_in _ (by omega)
  have w3 : IntKind.i64.wrap MM = MM := IntWalk.i64_in _ (by omega)
  have w4 : IntKind.i64.wrap M = M := IntWalk.i64_in _ (by omega)
  have qa := alloc_cells
  have qf := alloc_frozens
  clear h1 h2 hb hn hS hQ hsp ok hX hlev hsc hfl hla uM m1 m2 m3 kl
  go_enter Try.func17, Try.ntmps17
  go_wp2_with fail
  refine (lbegun_ok _).mono ?_
  rintro e w1 ⟨rfl, hb1⟩
  have z1 := hb1.size
  have c1 := Below.cells hb1
  have f1 := Below.frozens hb1
  try simp only [World.size_alloc, World.size_setCell, World.size_drew] at z1 c1 f1
  go_wp2_with fail
  refine (within_any p 100000 N _ (by omega) (by omega) HN.out).mono ?_
  rintro e w' ⟨rfl, rfl⟩
  go_wp2_with fail
  refine (within_any q 64 KP _ (by omega) (by omega) HKP.out).mono ?_
  rintro e w' ⟨rfl, rfl⟩
  go_wp2_with fail
  refine (within_any r 100 LP _ (by omega) (by omega) HLP.out).mono ?_
  rintro e w' ⟨rfl, rfl⟩
  go_wp2_with fail
  refine (within_any s 10000 RP _ (by omega) (by omega) HRP.out).mono ?_
  rintro e w' ⟨rfl, rfl⟩
  go_wp2_with fail
  refine (HR.out _ _ _ (by rw [World.cell?_alloc_new]; rfl)).mono ?_
  rintro e w2 ⟨A, c, rfl, hr, hb2⟩
  have RA := Lib.hid hr.1
  clear hr
  have z2 := hb2.size
  have c2 := Below.cells hb2
  have f2 := Below.frozens hb2
  try simp only [World.size_alloc, World.size_setCell, World.size_drew] at z2 c2 f2
  go_wp2_with fail
  refine (H1.out A c _ RA.out).mono ?_
  rintro e w3 ⟨rfl, hb3⟩
  have z3 := hb3.size
  have c3 := Below.cells hb3
  have f3 := Below.frozens hb3
  try simp only [World.size_alloc, World.size_setCell, World.size_drew] at z3 c3 f3
  go_wp2_with fail
  refine (NM.out _).mono ?_
  rintro e w4 ⟨rfl, hb4⟩
  have z4 := hb4.size
  have c4 := Below.cells hb4
  have f4 := Below.frozens hb4
  try simp only [World.size_alloc, World.size_setCell, World.size_drew] at z4 c4 f4
  go_wp2_with fail
  refine (N1.out _).mono ?_
  rintro e w5 ⟨rfl, hb5⟩
  have z5 := hb5.size
  have c5 := Below.cells hb5
  have f5 := Below.frozens hb5
  try simp only [World.size_alloc, World.size_setCell, World.size_drew] at z5 c5 f5
  go_wp2_with fail
  refine (H2.out _).mono ?_
  rintro e w6 ⟨rfl, hb6⟩
  have z6 := hb6.size
  have c6 := Below.cells hb6
  have f6 := Below.frozens hb6
  try simp only [World.size_alloc, World.size_setCell, World.size_drew] at z6 c6 f6
  go_wp2_with fail
  go_ret
  exact ⟨rfl, (by repeat (first | (with_reducible exact Below.refl _ _) | ((with_reducible refine Below.alloc ?_ ?_ _); rotate_left; (next => ((try dsimp only); (try simp only [World.size_alloc, World.size_setCell, World.size_drew]); omega))) | ((with_reducible refine Below.setCell ?_ ?_ _); rotate_left; (next => ((try dsimp only); (try simp only [World.size_alloc, World.size_setCell, World.size_drew]); omega))) | (with_reducible refine Below.drew ?_) | ((with_reducible refine Below.trans ?_ (Below.mono hb6 ?_)); rotate_left; (next => ((try dsimp only); (try simp only [World.size_alloc, World.size_setCell, World.size_drew]); omega))) | ((with_reducible refine Below.trans ?_ (Below.mono hb5 ?_)); rotate_left; (next => ((try dsimp only); (try simp only [World.size_alloc, World.size_setCell, World.size_drew]); omega))) | ((with_reducible refine Below.trans ?_ (Below.mono hb4 ?_)); rotate_left; (next => ((try dsimp only); (try simp only [World.size_alloc, World.size_setCell, World.size_drew]); omega))) | ((with_reducible refine Below.trans ?_ (Below.mono hb3 ?_)); rotate_left; (next => ((try dsimp only); (try simp only [World.size_alloc, World.size_setCell, World.size_drew]); omega))) | ((with_reducible refine Below.trans ?_ (Below.mono hb2 ?_)); rotate_left; (next => ((try dsimp only); (try simp only [World.size_alloc, World.size_setCell, World.size_drew]); omega))) | ((with_reducible refine Below.trans ?_ (Below.mono hb1 ?_)); rotate_left; (next => ((try dsimp only); (try simp only [World.size_alloc, World.size_setCell, World.size_drew]); omega)))))⟩
end Go.Proofs.Ytgiipelonojgaaa
