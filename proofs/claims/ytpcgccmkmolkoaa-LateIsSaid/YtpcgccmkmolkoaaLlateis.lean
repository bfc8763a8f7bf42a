import Derived.Test.YtpcgccmkmolkoaaLate
set_option linter.unusedSimpArgs false
set_option linter.unusedVariables false
namespace Go.Proofs.Ytpcgccmkmolkoaa
open Go.RowKit

theorem same_below {P : Program} {f : FuncId} {args : Array Value} {w : World} {v : Value} (h : Calls P f args w fun e w' => e = .returned v ∧ w = w') : Calls P f args w fun e w' => e = .returned v ∧ Below w.heap.size w w' :=
  h.mono fun _ _ ⟨he, hw⟩ => ⟨he, hw ▸ Below.refl _ _⟩

set_option maxRecDepth 100000 in
set_option maxHeartbeats 8000000 in
theorem lateIs_walk (a : Option Addr) (len cap : Nat) (l : List Int) (p q r : Int) (w : World) (hin : InRow w a len cap l) (_ : (Lit.int .i64 p).wf = true) (_ : (Lit.int .i64 q).wf = true) (_ : (Lit.int .i64 r).wf = true) :
    Calls Try.prog 14 #[.slice a len cap, .int .i64 p, .int .i64 q, .int .i64 r] w fun e w' =>
      e = .returned (.bool true) ∧ Below w.heap.size w w' := by
  obtain ⟨ys, n, hy, hn, h1, hm, hb⟩ := wind_facts l
  obtain ⟨M, hM⟩ := IsMax.ex (l := ys) (by omega)
  have Mb := hb M hM.1
  have b1 := within_bd p (n := 536870912) (by omega)
  have b2 := within_bd q (n := 8388608) (by omega)
  have b3 := within_bd r (n := 536870912) (by omega)
  have b4 := within_bd r (n := 8388608) (by omega)
  obtain ⟨T, e_T⟩ : ∃ z_, within p 536870912 = z_ := ⟨_, rfl⟩
  rw [e_T] at b1
  have HT := Lib.hid e_T
  clear e_T
  obtain ⟨S, e_S⟩ : ∃ z_, within q 8388608 = z_ := ⟨_, rfl⟩
  rw [e_S] at b2
  have HS := Lib.hid e_S
  clear e_S
  obtain ⟨R, e_R⟩ : ∃ z_, within r 536870912 = z_ := ⟨_, rfl⟩
  rw [e_R] at b3
  have HR := Lib.hid e_R
  clear e_R
  obtain ⟨V, e_V⟩ : ∃ z_, within r 8388608 = z_ := ⟨_, rfl⟩
  rw [e_V] at b4
  have HV := Lib.hid e_V
  clear e_V
  have hwin : ∀ w', InRow w' a len cap l → _ := fun w' h => window_any a len cap l w' h ys n hy hn
  have hlate : ∀ t s b, 0 ≤ t ∧ t ≤ 1073741824 → 0 ≤ s ∧ s ≤ 16777216 → decide (M + s < t) = b → ∀ A c w', Row w' A n ys → _ := fun t s b ht hs hd A c w' h => late_ok 64 A n c ys t s M b w' h (by omega) (by omega) (by omega) hb ht hs hM hd
  have hmax : ∀ A c w', Row w' A n ys → _ := fun A c w' h => max_ok A n c ys M w' h (by omega) (by omega) hM
  have HWin := Lib.hid hwin
  have HLate := Lib.hid hlate
  have HMax := Lib.hid hmax
  have HIn := Lib.hid hin
  have e1 : IntKind.i64.wrap (T + R) = T + R := IntWalk.i64_in _ (by omega)
  have e2 : IntKind.i64.wrap (S + V) = S + V := IntWalk.i64_in _ (by omega)
  have qa := alloc_cells
  have qf := alloc_frozens
  have hcs : (M + (S + V) < T ∧ M + S < T ∧ M < T - S ∧ M + S < T + R) ∨ (¬ M + (S + V) < T ∧ M + S < T ∧ M < T - S ∧ M + S < T + R) ∨ (¬ M + (S + V) < T ∧ ¬ M + S < T ∧ ¬ M < T - S ∧ M + S < T + R) ∨ (¬ M + (S + V) < T ∧ ¬ M + S < T ∧ ¬ M < T - S ∧ ¬ M + S < T + R) := by omega
  have dd : ¬ M < T - S → decide (M < T - S) = false := fun h => by simpa using h
  have DD := Lib.hid dd
  clear hwin hlate hmax hin hb hn hy hM dd
  rcases hcs with ⟨u1, u2, u3, u4⟩ | ⟨u1, u2, u3, u4⟩ | ⟨u1, u2, u3, u4⟩ | ⟨u1, u2, u3, u4⟩
  all_goals
    obtain ⟨va, ha⟩ : ∃ v, decide (M + S < T) = v := ⟨_, rfl⟩
    obtain ⟨vb, hvb⟩ : ∃ v, decide (M + S < T + R) = v := ⟨_, rfl⟩
    obtain ⟨vc, hvc⟩ : ∃ v, decide (M + (S + V) < T) = v := ⟨_, rfl⟩
    have Ha := Lib.hid ha
    have Hb := Lib.hid hvb
    have Hc := Lib.hid hvc
    simp only [u1, u2, u3, u4, decide_true, decide_false] at ha hvb hvc
    subst ha hvb hvc
    try have d1 := DD.out u3
    go_enter Try.func14, Try.ntmps14
    go_wp2_with fail
    refine (late_ok 1 _ 1 1 [5] 6 0 5 true _ (Row.lit _ _ [5] 1 rfl) (by omega) (by omega) (by omega) (by decide) (by omega) (by omega) (IsMax.one 5) (by decide)).mono ?_
    rintro e w1 ⟨rfl, hb1⟩
    have z1 := hb1.size
    have c1 := Below.cells hb1
    have f1 := Below.frozens hb1
    try simp only [World.size_alloc, World.size_setCell, World.size_drew] at z1 c1 f1
    go_wp2_with fail
    refine (HWin.out _ (HIn.out.below (by repeat (first | (with_reducible exact Below.refl _ _) | ((with_reducible refine Below.alloc ?_ ?_ _); rotate_left; (next => ((try dsimp only); (try simp only [World.size_alloc, World.size_setCell, World.size_drew]); omega))) | ((with_reducible refine Below.setCell ?_ ?_ _); rotate_left; (next => ((try dsimp only); (try simp only [World.size_alloc, World.size_setCell, World.size_drew]); omega))) | (with_reducible refine Below.drew ?_) | ((with_reducible refine Below.trans ?_ (Below.mono hb1 ?_)); rotate_left; (next => ((try dsimp only); (try simp only [World.size_alloc, World.size_setCell, World.size_drew]); omega))))))).mono ?_
    rintro e w2 ⟨A, c, rfl, hrA, hb2⟩
    have RA := Lib.hid hrA.1
    clear hrA
    have z2 := hb2.size
    have c2 := Below.cells hb2
    have f2 := Below.frozens hb2
    go_wp2_with fail
    refine (within_any p 536870912 T _ (by omega) (by omega) HT.out).mono ?_
    rintro e w' ⟨rfl, rfl⟩
    go_wp2_with fail
    refine (within_any q 8388608 S _ (by omega) (by omega) HS.out).mono ?_
    rintro e w' ⟨rfl, rfl⟩
    go_wp2_with fail
    refine (HLate.out T S _ (by omega) (by omega) Ha.out A c _ (RA.out.below (by repeat (first | (with_reducible exact Below.refl _ _) | ((with_reducible refine Below.alloc ?_ ?_ _); rotate_left; (next => ((try dsimp only); (try simp only [World.size_alloc, World.size_setCell, World.size_drew]); omega))) | ((with_reducible refine Below.setCell ?_ ?_ _); rotate_left; (next => ((try dsimp only); (try simp only [World.size_alloc, World.size_setCell, World.size_drew]); omega))) | (with_reducible refine Below.drew ?_) | (refine Below.trans ?_ (by assumption)))))).mono ?_
    rintro e w3 ⟨rfl, hb3⟩
    have z3 := hb3.size
    have c3 := Below.cells hb3
    have f3 := Below.frozens hb3
    try simp only [World.size_alloc, World.size_setCell, World.size_drew] at z3 c3 f3
    go_wp2_with fail
    have R3 := Lib.hid (RA.out.below (w' := w3) (by repeat (first | (with_reducible exact Below.refl _ _) | ((with_reducible refine Below.alloc ?_ ?_ _); rotate_left; (next => ((try dsimp only); (try simp only [World.size_alloc, World.size_setCell, World.size_drew]); omega))) | ((with_reducible refine Below.setCell ?_ ?_ _); rotate_left; (next => ((try dsimp only); (try simp only [World.size_alloc, World.size_setCell, World.size_drew]); omega))) | (with_reducible refine Below.drew ?_) | ((with_reducible refine Below.trans ?_ (Below.mono hb3 ?_)); rotate_left; (next => ((try dsimp only); (try simp only [World.size_alloc, World.size_setCell, World.size_drew]); omega))))))
    refine wp_region_quiet_all (Ext _) (by kernel_rfl) (by kernel_rfl) (Ext.drawn _) ?_
    repeat (first | (refine BigFrame.wpQuiet_skip rfl ?_) | go_big_quiet_step (fail) | (refine BigFrame.wpQuiet_want rfl (fun K hK => ?_); apply Exists.intro; refine ⟨fun w2 h2 => ?_, ?_⟩; (next => (have g1 := Below.cells h2.below; have g2 := Below.frozens h2.below; (try simp only [World.size_alloc, World.size_setCell] at g1 g2); first | (go_simp; (first | (go_at_call 23; refine h2.calls (same_below (within_any r 536870912 R _ (by omega) (by omega) HR.out))) | (go_at_call 34; refine h2.calls (HLate.out (T + R) S _ (by omega) (by omega) Hb.out A c _ (R3.out.below h2.below))))) | (simp [go_sem, ↓IntWalk.iteOmega, *]; done) | (simp [go_sem, ↓IntWalk.iteOmega, *]; rfl)))); (go_simp; refine hK _ ?_; clear hK K))
    refine wpQuiet_nil ?_
    intro w4 h4
    have hb4 := h4.below
    clear h4
    have z4 := hb4.size
    have c4 := Below.cells hb4
    have f4 := Below.frozens hb4
    try simp only [World.size_alloc, World.size_setCell, World.size_drew] at z4 c4 f4
    go_wp2_with fail
    have R4 := Lib.hid (RA.out.below (w' := w4) (by repeat (first | (with_reducible exact Below.refl _ _) | ((with_reducible refine Below.alloc ?_ ?_ _); rotate_left; (next => ((try dsimp only); (try simp only [World.size_alloc, World.size_setCell, World.size_drew]); omega))) | ((with_reducible refine Below.setCell ?_ ?_ _); rotate_left; (next => ((try dsimp only); (try simp only [World.size_alloc, World.size_setCell, World.size_drew]); omega))) | (with_reducible refine Below.drew ?_) | ((with_reducible refine Below.trans ?_ (Below.mono hb4 ?_)); rotate_left; (next => ((try dsimp only); (try simp only [World.size_alloc, World.size_setCell, World.size_drew]); omega))) | ((with_reducible refine Below.trans ?_ (Below.mono hb3 ?_)); rotate_left; (next => ((try dsimp only); (try simp only [World.size_alloc, World.size_setCell, World.size_drew]); omega))))))
    refine wp_region_quiet_all (Ext _) (by kernel_rfl) (by kernel_rfl) (Ext.drawn _) ?_
    repeat (first | (refine BigFrame.wpQuiet_skip rfl ?_) | go_big_quiet_step (fail) | (refine BigFrame.wpQuiet_want rfl (fun K hK => ?_); apply Exists.intro; refine ⟨fun w2 h2 => ?_, ?_⟩; (next => (have g1 := Below.cells h2.below; have g2 := Below.frozens h2.below; (try simp only [World.size_alloc, World.size_setCell] at g1 g2); first | (go_simp; (first | (go_at_call 23; refine h2.calls (same_below (within_any r 8388608 V _ (by omega) (by omega) HV.out))) | (go_at_call 34; refine h2.calls (HLate.out T (S + V) _ (by omega) (by omega) Hc.out A c _ (R4.out.below h2.below))))) | (simp [go_sem, ↓IntWalk.iteOmega, *]; done) | (simp [go_sem, ↓IntWalk.iteOmega, *]; rfl)))); (go_simp; refine hK _ ?_; clear hK K))
    refine wpQuiet_nil ?_
    intro w5 h5
    have hb5 := h5.below
    clear h5
    have z5 := hb5.size
    have c5 := Below.cells hb5
    have f5 := Below.frozens hb5
    try simp only [World.size_alloc, World.size_setCell, World.size_drew] at z5 c5 f5
    go_wp2_with fail
    refine (HMax.out A c _ (RA.out.below (by repeat (first | (with_reducible exact Below.refl _ _) | ((with_reducible refine Below.alloc ?_ ?_ _); rotate_left; (next => ((try dsimp only); (try simp only [World.size_alloc, World.size_setCell, World.size_drew]); omega))) | ((with_reducible refine Below.setCell ?_ ?_ _); rotate_left; (next => ((try dsimp only); (try simp only [World.size_alloc, World.size_setCell, World.size_drew]); omega))) | (with_reducible refine Below.drew ?_) | ((with_reducible refine Below.trans ?_ (Below.mono hb5 ?_)); rotate_left; (next => ((try dsimp only); (try simp only [World.size_alloc, World.size_setCell, World.size_drew]); omega))) | ((with_reducible refine Below.trans ?_ (Below.mono hb4 ?_)); rotate_left; (next => ((try dsimp only); (try simp only [World.size_alloc, World.size_setCell, World.size_drew]); omega))) | ((with_reducible refine Below.trans ?_ (Below.mono hb3 ?_)); rotate_left; (next => ((try dsimp only); (try simp only [World.size_alloc, World.size_setCell, World.size_drew]); omega))))))).mono ?_
    rintro e w' ⟨rfl, rfl⟩
    go_wp2_with fail
    go_ret
    exact ⟨rfl, (by repeat (first | (with_reducible exact Below.refl _ _) | ((with_reducible refine Below.alloc ?_ ?_ _); rotate_left; (next => ((try dsimp only); (try simp only [World.size_alloc, World.size_setCell, World.size_drew]); omega))) | ((with_reducible refine Below.setCell ?_ ?_ _); rotate_left; (next => ((try dsimp only); (try simp only [World.size_alloc, World.size_setCell, World.size_drew]); omega))) | (with_reducible refine Below.drew ?_) | ((with_reducible refine Below.trans ?_ (Below.mono hb5 ?_)); rotate_left; (next => ((try dsimp only); (try simp only [World.size_alloc, World.size_setCell, World.size_drew]); omega))) | ((with_reducible refine Below.trans ?_ (Below.mono hb4 ?_)); rotate_left; (next => ((try dsimp only); (try simp only [World.size_alloc, World.size_setCell, World.size_drew]); omega))) | ((with_reducible refine Below.trans ?_ (Below.mono hb3 ?_)); rotate_left; (next => ((try dsimp only); (try simp only [World.size_alloc, World.size_setCell, World.size_drew]); omega))) | ((with_reducible refine Below.trans ?_ (Below.mono hb2 ?_)); rotate_left; (next => ((try dsimp only); (try simp only [World.size_alloc, World.size_setCell, World.size_drew]); omega))) | ((with_reducible refine Below.trans ?_ (Below.mono hb1 ?_)); rotate_left; (next => ((try dsimp only); (try simp only [World.size_alloc, World.size_setCell, World.size_drew]); omega)))))⟩
end Go.Proofs.Ytpcgccmkmolkoaa
