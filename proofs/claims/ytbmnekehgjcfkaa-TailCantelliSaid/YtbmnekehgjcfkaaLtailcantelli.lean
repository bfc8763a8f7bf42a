import Derived.Test.YtbmnekehgjcfkaaTc
set_option linter.unusedSimpArgs false
set_option linter.unusedVariables false
namespace Go.Proofs.Ytbmnekehgjcfkaa
open Go.RowKit

theorem same_bel {P : Program} {f : FuncId} {args : Array Value} {w : World} {v : Value} (h : Calls P f args w fun e w' => e = .returned v ∧ w = w') : Calls P f args w fun e w' => e = .returned v ∧ Below w.heap.size w w' :=
  h.mono fun _ _ ⟨he, hw⟩ => ⟨he, hw ▸ Below.refl _ _⟩

set_option maxRecDepth 100000 in
set_option maxHeartbeats 4000000 in
theorem tailCantelli_walk (a : Option Addr) (len cap : Nat) (l : List Int) (p q : Int) (w : World) (hin : InRow w a len cap l) (_ : (Lit.int .i64 p).wf = true) (_ : (Lit.int .i64 q).wf = true) :
    Calls Try.prog 22 #[.slice a len cap, .int .i64 p, .int .i64 q] w fun e w' =>
      e = .returned (.bool true) ∧ Below w.heap.size w w' := by
  obtain ⟨ys, n, S, Q, X, hy, hn, hm, hb, hS, hQ, hX, hsp, ok⟩ := stat_pack l
  have b1 := within_bd p (n := 536870912) (by omega)
  have b2 := within_bd q (n := 536870912) (by omega)
  obtain ⟨T, e_T⟩ : ∃ z_, within p 536870912 = z_ := ⟨_, rfl⟩
  rw [e_T] at b1
  have HT := Lib.hid e_T
  clear e_T
  obtain ⟨U, e_U⟩ : ∃ z_, within q 536870912 = z_ := ⟨_, rfl⟩
  rw [e_U] at b2
  have HU := Lib.hid e_U
  clear e_U
  have x0 : 0 ≤ X := by rw [← hsp]; exact spr_nonneg ys
  have c1 := cant_cnt (t := T) (show (ys.length : Int) = n by omega) hS hsp
  have c2 := cnt_bd T ys
  have c3 := cant_anti (s := S) (show (0 : Int) ≤ n by omega) x0 (show T ≤ T + U by omega)
  have c4 := cant_bd (n := (n : Int)) (s := S) (X := X) (t := T) (by omega) x0
  rw [hn] at c2
  obtain ⟨K, e_K⟩ : ∃ z_, cnt T ys = z_ := ⟨_, rfl⟩
  rw [e_K] at c1 c2
  have HK := Lib.hid e_K
  clear e_K
  obtain ⟨M, e_M⟩ : ∃ z_, cant (n : Int) S X T = z_ := ⟨_, rfl⟩
  rw [e_M] at c1 c3 c4
  have HM := Lib.hid e_M
  clear e_M
  obtain ⟨R, e_R⟩ : ∃ z_, cant (n : Int) S X (T + U) = z_ := ⟨_, rfl⟩
  rw [e_R] at c3
  have HR := Lib.hid e_R
  clear e_R
  have e1 : IntKind.i64.wrap (T + U) = T + U := IntWalk.i64_in _ (by omega)
  have hval : ∀ w', InRow w' a len cap l → _ := fun w' h => values_at a len cap l w' h ys n hy hn
  have hsum : ∀ A c w', Row w' A n ys → _ := fun A c w' h => sums_ok A n c ys S Q w' h hm hb hS hQ
  have hcnt : ∀ A c w', Row w' A n ys → _ := fun A c w' h => count_ok A n c ys T K w' h hm hb HK.out
  have hm1 : ∀ w', _ := fun w' => cant_ok n S Q X T M ok hX (by omega) HM.out w'
  have hm2 : ∀ w', _ := fun w' => cant_ok n S Q X (T + U) R ok hX (by omega) HR.out w'
  have HVal := Lib.hid hval
  have HSum := Lib.hid hsum
  have HCnt := Lib.hid hcnt
  have HM1 := Lib.hid hm1
  have HM2 := Lib.hid hm2
  have HIn := Lib.hid hin
  have HW := Lib.hid (fun w' => same_bel (within_any q 536870912 U w' (by omega) (by omega) HU.out))
  have qa := alloc_cells
  have qf := alloc_frozens
  clear hval hsum hcnt hm1 hm2 hin hb hn hy ok hsp hS hQ hX
  go_enter Try.func22, Try.ntmps22
  go_wp2_with fail
  refine (cant_ok 4 4 6 8 3 0 (by unfold SumsOK; omega) (by omega) (by omega) (by decide) _).mono ?_
  rintro e w1 ⟨rfl, hb1⟩
  have z1 := hb1.size
  have c1 := Below.cells hb1
  have f1 := Below.frozens hb1
  try simp only [World.size_alloc, World.size_setCell, World.size_drew] at z1 c1 f1
  go_wp2_with fail
  refine (cant_ok 2 4 10 4 3 1 (by unfold SumsOK; omega) (by omega) (by omega) (by decide) _).mono ?_
  rintro e w2 ⟨rfl, hb2⟩
  have z2 := hb2.size
  have c2 := Below.cells hb2
  have f2 := Below.frozens hb2
  try simp only [World.size_alloc, World.size_setCell, World.size_drew] at z2 c2 f2
  go_wp2_with fail
  refine (HVal.out _ (HIn.out.below (by repeat (first | (with_reducible exact Below.refl _ _) | ((with_reducible refine Below.alloc ?_ ?_ _); rotate_left; (next => ((try dsimp only); (try simp only [World.size_alloc, World.size_setCell, World.size_drew]); omega))) | ((with_reducible refine Below.setCell ?_ ?_ _); rotate_left; (next => ((try dsimp only); (try simp only [World.size_alloc, World.size_setCell, World.size_drew]); omega))) | (with_reducible refine Below.drew ?_) | ((with_reducible refine Below.trans ?_ (Below.mono hb2 ?_)); rotate_left; (next => ((try dsimp only); (try simp only [World.size_alloc, World.size_setCell, World.size_drew]); omega))) | ((with_reducible refine Below.trans ?_ (Below.mono hb1 ?_)); rotate_left; (next => ((try dsimp only); (try simp only [World.size_alloc, World.size_setCell, World.size_drew]); omega))))))).mono ?_
  rintro e w3 ⟨A, c, rfl, hrA, hb3⟩
  have RA := Lib.hid hrA.1
  have EA := Lib.hid hrA.1.each
  have IA := Lib.hid hrA
  have capA := hrA.2.1
  clear hrA
  have z3 := hb3.size
  have c3 := Below.cells hb3
  have f3 := Below.frozens hb3
  try simp only [World.size_alloc, World.size_setCell, World.size_drew] at z3 c3 f3
  go_wp2_with fail
  refine (within_any p 536870912 T _ (by omega) (by omega) HT.out).mono ?_
  rintro e w' ⟨rfl, rfl⟩
  go_wp2_with fail
  refine (HSum.out A c _ RA.out).mono ?_
  rintro e w4 ⟨rfl, hb4⟩
  have z4 := hb4.size
  have c4 := Below.cells hb4
  have f4 := Below.frozens hb4
  try simp only [World.size_alloc, World.size_setCell, World.size_drew] at z4 c4 f4
  go_wp2_with fail
  refine (HCnt.out A c _ (RA.out.below (by repeat (first | (with_reducible exact Below.refl _ _) | ((with_reducible refine Below.alloc ?_ ?_ _); rotate_left; (next => ((try dsimp only); (try simp only [World.size_alloc, World.size_setCell, World.size_drew]); omega))) | ((with_reducible refine Below.setCell ?_ ?_ _); rotate_left; (next => ((try dsimp only); (try simp only [World.size_alloc, World.size_setCell, World.size_drew]); omega))) | (with_reducible refine Below.drew ?_) | ((with_reducible refine Below.trans ?_ (Below.mono hb4 ?_)); rotate_left; (next => ((try dsimp only); (try simp only [World.size_alloc, World.size_setCell, World.size_drew]); omega))))))).mono ?_
  rintro e w' ⟨rfl, rfl⟩
  go_wp2_with fail
  refine (HM1.out _).mono ?_
  rintro e w5 ⟨rfl, hb5⟩
  have z5 := hb5.size
  have c5 := Below.cells hb5
  have f5 := Below.frozens hb5
  try simp only [World.size_alloc, World.size_setCell, World.size_drew] at z5 c5 f5
  go_wp2_with fail
  refine wp_region_quiet_all (Ext _) (by kernel_rfl) (by kernel_rfl) (Ext.drawn _) ?_
  repeat (first | (refine BigFrame.wpQuiet_skip rfl ?_) | go_big_quiet_step (fail) | (refine BigFrame.wpQuiet_want rfl (fun K hK => ?_); apply Exists.intro; refine ⟨fun w2 h2 => ?_, ?_⟩; (next => (have g1 := Below.cells h2.below; have g2 := Below.frozens h2.below; (try simp only [World.size_alloc, World.size_setCell] at g1 g2); first | (go_simp; (first | (go_at_call 26; with_reducible refine h2.calls (HW.out _)) | (go_at_call 64; with_reducible refine h2.calls (HM2.out _)))) | (simp [go_sem, ↓IntWalk.iteOmega, *]; done) | (simp [go_sem, ↓IntWalk.iteOmega, *]; rfl)))); (go_simp; refine hK _ ?_; clear hK K))
  refine wpQuiet_nil ?_
  intro w6 h6
  have hb6 := h6.below
  clear h6
  have z6 := hb6.size
  have c6 := Below.cells hb6
  have f6 := Below.frozens hb6
  try simp only [World.size_alloc, World.size_setCell, World.size_drew] at z6 c6 f6
  go_wp2_with fail
  go_ret
  exact ⟨rfl, (by repeat (first | (with_reducible exact Below.refl _ _) | ((with_reducible refine Below.alloc ?_ ?_ _); rotate_left; (next => ((try dsimp only); (try simp only [World.size_alloc, World.size_setCell, World.size_drew]); omega))) | ((with_reducible refine Below.setCell ?_ ?_ _); rotate_left; (next => ((try dsimp only); (try simp only [World.size_alloc, World.size_setCell, World.size_drew]); omega))) | (with_reducible refine Below.drew ?_) | ((with_reducible refine Below.trans ?_ (Below.mono hb6 ?_)); rotate_left; (next => ((try dsimp only); (try simp only [World.size_alloc, World.size_setCell, World.size_drew]); omega))) | ((with_reducible refine Below.trans ?_ (Below.mono hb5 ?_)); rotate_left; (next => ((try dsimp only); (try simp only [World.size_alloc, World.size_setCell, World.size_drew]); omega))) | ((with_reducible refine Below.trans ?_ (Below.mono hb4 ?_)); rotate_left; (next => ((try dsimp only); (try simp only [World.size_alloc, World.size_setCell, World.size_drew]); omega))) | ((with_reducible refine Below.trans ?_ (Below.mono hb3 ?_)); rotate_left; (next => ((try dsimp only); (try simp only [World.size_alloc, World.size_setCell, World.size_drew]); omega))) | ((with_reducible refine Below.trans ?_ (Below.mono hb2 ?_)); rotate_left; (next => ((try dsimp only); (try simp only [World.size_alloc, World.size_setCell, World.size_drew]); omega))) | ((with_reducible refine Below.trans ?_ (Below.mono hb1 ?_)); rotate_left; (next => ((try dsimp only); (try simp only [World.size_alloc, World.size_setCell, World.size_drew]); omega)))))⟩
end Go.Proofs.Ytbmnekehgjcfkaa
