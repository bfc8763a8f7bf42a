import Derived.Test.YtpcgccmkmolkoaaGate
set_option linter.unusedSimpArgs false
set_option linter.unusedVariables false
namespace Go.Proofs.Ytpcgccmkmolkoaa
open Go.RowKit

theorem same_below {P : Program} {f : FuncId} {args : Array Value} {w : World} {v : Value} (h : Calls P f args w fun e w' => e = .returned v ∧ w = w') : Calls P f args w fun e w' => e = .returned v ∧ Below w.heap.size w w' :=
  h.mono fun _ _ ⟨he, hw⟩ => ⟨he, hw ▸ Below.refl _ _⟩

set_option maxRecDepth 100000 in
set_option maxHeartbeats 4000000 in
theorem gateRaise_walk (i s d seq old : Int) (w : World) (_ : (Lit.int .i64 i).wf = true) (_ : (Lit.int .i64 s).wf = true) (_ : (Lit.int .i64 d).wf = true) (_ : (Lit.int .i64 seq).wf = true) (_ : (Lit.int .i64 old).wf = true) :
    Calls Try.prog 5 #[.agg #[.int .i64 i, .int .i64 s, .int .i64 d], .int .i64 seq, .int .i64 old] w fun e w' =>
      e = .returned (.bool true) ∧ Below w.heap.size w w' := by
  have qa := alloc_cells
  have qf := alloc_frozens
  have b1 := within_bd seq (n := 2147483647) (by omega)
  have b2 := within_bd old (n := 2147483647) (by omega)
  obtain ⟨S, hS⟩ : ∃ x, within seq 2147483647 = x := ⟨_, rfl⟩
  rw [hS] at b1
  have HS := Lib.hid hS
  clear hS
  obtain ⟨O, hO⟩ : ∃ x, within old 2147483647 = x := ⟨_, rfl⟩
  rw [hO] at b2
  have HO := Lib.hid hO
  clear hO
  by_cases h : GateOK i s d
  · by_cases c : i = 2147483647
    · subst c
      go_enter Try.func5, Try.ntmps5
      go_wp2_with fail
      refine (take_new 1 9 0 2 1 (by unfold GateOK; omega) (by omega) (by omega) (by omega) (by omega) (by omega) _).mono ?_
      rintro e w1 ⟨rfl, hb1⟩
      have z1 := hb1.size
      have c1 := Below.cells hb1
      have f1 := Below.frozens hb1
      try simp only [World.size_alloc, World.size_setCell, World.size_drew] at z1 c1 f1
      go_wp2_with fail
      refine (gcheck_ok 2147483647 s d h _).mono ?_
      rintro e w2 ⟨rfl, hb2⟩
      have z2 := hb2.size
      have c2 := Below.cells hb2
      have f2 := Below.frozens hb2
      try simp only [World.size_alloc, World.size_setCell, World.size_drew] at z2 c2 f2
      go_wp2_with fail
      go_ret
      exact ⟨rfl, (by repeat (first | (with_reducible exact Below.refl _ _) | ((with_reducible refine Below.alloc ?_ ?_ _); rotate_left; (next => ((try dsimp only); (try simp only [World.size_alloc, World.size_setCell, World.size_drew]); omega))) | ((with_reducible refine Below.setCell ?_ ?_ _); rotate_left; (next => ((try dsimp only); (try simp only [World.size_alloc, World.size_setCell, World.size_drew]); omega))) | (with_reducible refine Below.drew ?_) | ((with_reducible refine Below.trans ?_ (Below.mono hb2 ?_)); rotate_left; (next => ((try dsimp only); (try simp only [World.size_alloc, World.size_setCell, World.size_drew]); omega))) | ((with_reducible refine Below.trans ?_ (Below.mono hb1 ?_)); rotate_left; (next => ((try dsimp only); (try simp only [World.size_alloc, World.size_setCell, World.size_drew]); omega)))))⟩
    · have hb := h
      unfold GateOK at hb
      obtain ⟨h1, h2, h3, h4, h5, h6, h7⟩ := hb
      have e1 : IntKind.i64.wrap (i + 1) = i + 1 := IntWalk.i64_in _ (by omega)
      have e2 : IntKind.i64.wrap (1 + S) = 1 + S := IntWalk.i64_in _ (by omega)
      have e3 : IntKind.i64.wrap (1 + O) = 1 + O := IntWalk.i64_in _ (by omega)
      obtain ⟨D, hD⟩ : ∃ x, (if d = 1073741824 then d else d + 1) = x := ⟨_, rfl⟩
      have HD := Lib.hid hD
      clear hD
      have hg3 : GateOK (i + 1) (1 + S) d := by unfold GateOK; omega
      clear h7
      have k : ((i == 2147483647) = false) := by simpa using c
      have hlt : i + 1 < 2147483648 := by omega
      clear c
      go_enter Try.func5, Try.ntmps5
      go_wp2_with fail
      refine (take_new 1 9 0 2 1 (by unfold GateOK; omega) (by omega) (by omega) (by omega) (by omega) (by omega) _).mono ?_
      rintro e w1 ⟨rfl, hb1⟩
      have z1 := hb1.size
      have c1 := Below.cells hb1
      have f1 := Below.frozens hb1
      try simp only [World.size_alloc, World.size_setCell, World.size_drew] at z1 c1 f1
      go_wp2_with fail
      refine (gcheck_ok i s d h _).mono ?_
      rintro e w2 ⟨rfl, hb2⟩
      have z2 := hb2.size
      have c2 := Below.cells hb2
      have f2 := Below.frozens hb2
      try simp only [World.size_alloc, World.size_setCell, World.size_drew] at z2 c2 f2
      go_wp2_with fail
      refine wp_region_rest 12 (by kernel_rfl) (by kernel_rfl) ?_
      simp only [List.take_succ_cons, List.take_zero, List.drop_succ_cons, List.drop_zero]
      repeat (first | (refine wpMild_skip rfl ?_) | (refine wpMild_step rfl (fun K hK => ?_); apply Exists.intro; refine ⟨fun w2 h2 => ?_, ?_⟩; (next => (have h2' := Below.undrew h2; have g1 := Below.cells h2'; have g2 := Below.frozens h2'; (try simp only [World.size_alloc, World.size_setCell] at g1 g2); clear h2 h2'; unfold mildAt; first | (go_simp; simp only [mildUpon, true_and]; (first | (go_at_call 23; refine same_below (within_any seq 2147483647 S _ (by omega) (by omega) HS.out)) | (go_at_call 24; refine take_new i s d (i + 1) (1 + S) h (by omega) (by omega) (by omega) (by omega) (by omega) _))) | (simp [mildUpon, go_sem, ↓IntWalk.iteOmega, *]; done) | (simp [mildUpon, go_sem, ↓IntWalk.iteOmega, *]; (try go_ints); rfl)))); (go_simp; refine hK _ ?_; clear hK K))
      refine wpMild_nil ?_
      refine rest_make _ _ rfl (makes_gate rfl rfl) (fun b3 _ => ?_)
      rw [oneBlock_of]
      go_simp
      refine rest_tail ?_ rfl rfl (fun w2 hw2 => ?_) ?_
      rotate_left
      next =>
        obtain ⟨d2, e2⟩ := block_cells hw2.one.2
        unfold tailAt
        simp [tailUpon, go_sem, ↓IntWalk.iteOmega, *]
        exact (((hw2).one_set 0 _).one_set 1 _).one_set 2 _
      repeat (first | (refine rest_nil ?_) | (refine rest_mild rfl (fun K hK => ?_); apply Exists.intro; refine ⟨fun w2 h2 => ?_, ?_⟩; (next => (unfold mildAt; first | (simp [mildUpon, go_sem]; done) | (simp [mildUpon, go_sem]; rfl))); (go_simp; refine hK _ ?_; clear hK K)))
      intro w3 st3
      have hb3 := Below.undrew st3.below
      obtain ⟨lo3, blk3⟩ := st3.one
      have up3 := st3.one_lt
      obtain ⟨d3, e3⟩ := block_cells blk3
      clear st3 blk3
      try simp only [World.size_alloc, World.size_setCell, World.size_drew] at lo3
      have z3 := hb3.size
      have c3 := Below.cells hb3
      have f3 := Below.frozens hb3
      try simp only [World.size_alloc, World.size_setCell, World.size_drew] at z3 c3 f3
      go_wp2_with fail
      refine wp_region_rest 11 (by kernel_rfl) (by kernel_rfl) ?_
      simp only [List.take_succ_cons, List.take_zero, List.drop_succ_cons, List.drop_zero]
      repeat (first | (refine wpMild_skip rfl ?_) | (refine wpMild_step rfl (fun K hK => ?_); apply Exists.intro; refine ⟨fun w2 h2 => ?_, ?_⟩; (next => (have h2' := Below.undrew h2; have g1 := Below.cells h2'; have g2 := Below.frozens h2'; (try simp only [World.size_alloc, World.size_setCell] at g1 g2); clear h2 h2'; unfold mildAt; first | (go_simp; simp only [mildUpon, true_and]; (first | (go_at_call 23; refine same_below (within_any old 2147483647 O _ (by omega) (by omega) HO.out)) | (go_at_call 24; refine take_old (i + 1) (1 + S) d i (1 + O) D hg3 (by omega) (by omega) (by omega) (by omega) (by omega) HD.out.symm _))) | (simp [mildUpon, go_sem, ↓IntWalk.iteOmega, *]; done) | (simp [mildUpon, go_sem, ↓IntWalk.iteOmega, *]; (try go_ints); rfl)))); (go_simp; refine hK _ ?_; clear hK K))
      refine wpMild_nil ?_
      refine rest_make _ _ rfl (makes_gate rfl rfl) (fun b4 _ => ?_)
      rw [oneBlock_of]
      go_simp
      refine rest_tail ?_ rfl rfl (fun w2 hw2 => ?_) ?_
      rotate_left
      next =>
        obtain ⟨d2, e2⟩ := block_cells hw2.one.2
        unfold tailAt
        simp [tailUpon, go_sem, ↓IntWalk.iteOmega, *]
        exact (((hw2).one_set 0 _).one_set 1 _).one_set 2 _
      repeat (first | (refine rest_nil ?_) | (refine rest_mild rfl (fun K hK => ?_); apply Exists.intro; refine ⟨fun w2 h2 => ?_, ?_⟩; (next => (unfold mildAt; first | (simp [mildUpon, go_sem]; done) | (simp [mildUpon, go_sem]; rfl))); (go_simp; refine hK _ ?_; clear hK K)))
      intro w4 st4
      have hb4 := Below.undrew st4.below
      obtain ⟨lo4, blk4⟩ := st4.one
      have up4 := st4.one_lt
      obtain ⟨d4, e4⟩ := block_cells blk4
      clear st4 blk4
      try simp only [World.size_alloc, World.size_setCell, World.size_drew] at lo4
      have z4 := hb4.size
      have c4 := Below.cells hb4
      have f4 := Below.frozens hb4
      try simp only [World.size_alloc, World.size_setCell, World.size_drew] at z4 c4 f4
      go_wp2_with fail
      go_ret
      exact ⟨rfl, (by repeat (first | (with_reducible exact Below.refl _ _) | ((with_reducible refine Below.alloc ?_ ?_ _); rotate_left; (next => ((try dsimp only); (try simp only [World.size_alloc, World.size_setCell, World.size_drew]); omega))) | ((with_reducible refine Below.setCell ?_ ?_ _); rotate_left; (next => ((try dsimp only); (try simp only [World.size_alloc, World.size_setCell, World.size_drew]); omega))) | (with_reducible refine Below.drew ?_) | ((with_reducible refine Below.trans ?_ (Below.mono hb4 ?_)); rotate_left; (next => ((try dsimp only); (try simp only [World.size_alloc, World.size_setCell, World.size_drew]); omega))) | ((with_reducible refine Below.trans ?_ (Below.mono hb3 ?_)); rotate_left; (next => ((try dsimp only); (try simp only [World.size_alloc, World.size_setCell, World.size_drew]); omega))) | ((with_reducible refine Below.trans ?_ (Below.mono hb2 ?_)); rotate_left; (next => ((try dsimp only); (try simp only [World.size_alloc, World.size_setCell, World.size_drew]); omega))) | ((with_reducible refine Below.trans ?_ (Below.mono hb1 ?_)); rotate_left; (next => ((try dsimp only); (try simp only [World.size_alloc, World.size_setCell, World.size_drew]); omega)))))⟩
  · go_enter Try.func5, Try.ntmps5
    go_wp2_with fail
    refine (take_new 1 9 0 2 1 (by unfold GateOK; omega) (by omega) (by omega) (by omega) (by omega) (by omega) _).mono ?_
    rintro e w1 ⟨rfl, hb1⟩
    have z1 := hb1.size
    have c1 := Below.cells hb1
    have f1 := Below.frozens hb1
    try simp only [World.size_alloc, World.size_setCell, World.size_drew] at z1 c1 f1
    go_wp2_with fail
    refine (gcheck_bad i s d h _).mono ?_
    rintro e w2 ⟨rfl, hb2⟩
    have z2 := hb2.size
    have c2 := Below.cells hb2
    have f2 := Below.frozens hb2
    try simp only [World.size_alloc, World.size_setCell, World.size_drew] at z2 c2 f2
    go_wp2_with fail
    go_ret
    exact ⟨rfl, (by repeat (first | (with_reducible exact Below.refl _ _) | ((with_reducible refine Below.alloc ?_ ?_ _); rotate_left; (next => ((try dsimp only); (try simp only [World.size_alloc, World.size_setCell, World.size_drew]); omega))) | ((with_reducible refine Below.setCell ?_ ?_ _); rotate_left; (next => ((try dsimp only); (try simp only [World.size_alloc, World.size_setCell, World.size_drew]); omega))) | (with_reducible refine Below.drew ?_) | ((with_reducible refine Below.trans ?_ (Below.mono hb2 ?_)); rotate_left; (next => ((try dsimp only); (try simp only [World.size_alloc, World.size_setCell, World.size_drew]); omega))) | ((with_reducible refine Below.trans ?_ (Below.mono hb1 ?_)); rotate_left; (next => ((try dsimp only); (try simp only [World.size_alloc, World.size_setCell, World.size_drew]); omega)))))⟩
end Go.Proofs.Ytpcgccmkmolkoaa
