import Derived.Test.YtlnagfmaiabhaaaWO
set_option linter.unusedSimpArgs false
set_option linter.unusedVariables false
namespace Go.Proofs.Ytlnagfmaiabhaaa
open Go.RowKit

set_option maxRecDepth 100000 in
set_option maxHeartbeats 64000000 in
theorem wideOrder_a (a b c : Int) (w : World) (ha : U128 a) (hb : U128 b) (hc : U128 c) (hord : a < b) :
    Calls Try.prog 3 #[.agg #[.int .u64 (hi a), .int .u64 (lo a)], .agg #[.int .u64 (hi b), .int .u64 (lo b)], .agg #[.int .u64 (hi c), .int .u64 (lo c)]] w fun e w' =>
      e = .returned (.bool true) ∧ Below w.heap.size w w' := by
  have ka := Wd.mk ha
  have kb := Wd.mk hb
  have kc := Wd.mk hc
  have neq : a ≠ b → hi a = hi b → ¬ lo a = lo b := fun h h1 h2 => h (eq_halves h1 h2)
  generalize hi a = ah at ka neq ⊢
  generalize lo a = al at ka neq ⊢
  generalize hi b = bh at kb neq ⊢
  generalize lo b = bl at kb neq ⊢
  have qa := alloc_cells
  have qf := alloc_frozens
  have ma := half_u128 ha
  have mb := half_u128 hb
  have mc := half_u128 hc
  have na := half_lt ha
  have nb := half_lt hb
  have nc := half_lt hc
  have uac : U128 (half a + half c) := by unfold U128; omega
  have ubc : U128 (half b + half c) := by unfold U128; omega
  have b1 : U64 5 := by unfold U64; omega
  -- the contracts
  have c0 : ∀ w', _ := fun w' => cmp_gt 18446744073709551616 5 (Wd.lits (h := 1) (l := 0) (by unfold U64; omega) (by unfold U64; omega)) (Wd.lit b1) (by omega) w'
  have c1 : ∀ w', _ := fun w' => cmp_lt 5 18446744073709551616 (Wd.lit b1) (Wd.lits (h := 1) (l := 0) (by unfold U64; omega) (by unfold U64; omega)) (by omega) w'
  have cab : ∀ w', _ := fun w' => cmp_var a b (cmpv a b) ka kb (cmpv_spec a b) w'
  have cbc : ∀ w', _ := fun w' => cmp_var b c (cmpv b c) kb kc (cmpv_spec b c) w'
  have cac : ∀ w', _ := fun w' => cmp_var a c (cmpv a c) ka kc (cmpv_spec a c) w'
  have cba : ∀ w', _ := fun w' => cmp_var b a (cmpv b a) kb ka (cmpv_spec b a) w'
  have cs : ∀ w', _ := fun w' => cmp_var (half a + half c) (half b + half c) (cmpv (half a + half c) (half b + half c)) (Wd.mk uac) (Wd.mk ubc) (cmpv_spec _ _) w'
  have ch : ∀ w', _ := fun w' => cmp_var (half a) (half b) (cmpv (half a) (half b)) (Wd.mk ma) (Wd.mk mb) (cmpv_spec _ _) w'
  rw [cmpv_add] at cs
  rw [cmpv_swap a b] at cba
  have la : ∀ w', _ := fun w' => len_any a ka w'
  have lb : ∀ w', _ := fun w' => len_any b kb w'
  have hla := blen_bd ha
  have hlb := blen_bd hb
  have sab := cmpv_spec a b
  have sbc := cmpv_spec b c
  have sac := cmpv_spec a c
  have shh := cmpv_spec (half a) (half b)
  have lm : a ≤ b → blen a ≤ blen b := blen_mono ha hb
  have h1 : ∀ w', _ := fun w' => half_any a ka w'
  have h2 : ∀ w', _ := fun w' => half_any b kb w'
  have h3 : ∀ w', _ := fun w' => half_any c kc w'
  have a1 : ∀ w', _ := fun w' => add_ok (half a) (half c) _ (Wd.mk ma) (Wd.mk mc) rfl uac w'
  have a2 : ∀ w', _ := fun w' => add_ok (half b) (half c) _ (Wd.mk mb) (Wd.mk mc) rfl ubc w'
  obtain ⟨x, hx⟩ : ∃ v, cmpv a b = v := ⟨_, rfl⟩
  obtain ⟨y, hy⟩ : ∃ v, cmpv b c = v := ⟨_, rfl⟩
  obtain ⟨z, hz⟩ : ∃ v, cmpv a c = v := ⟨_, rfl⟩
  obtain ⟨u, hu⟩ : ∃ v, cmpv (half a) (half b) = v := ⟨_, rfl⟩
  obtain ⟨L, hL⟩ : ∃ v, blen a = v := ⟨_, rfl⟩
  obtain ⟨M, hM⟩ : ∃ v, blen b = v := ⟨_, rfl⟩
  rw [hx] at cab cba sab
  rw [hy] at cbc sbc
  rw [hz] at cac sac
  rw [hu] at cs ch shh
  rw [hL] at la hla lm
  rw [hM] at lb hlb lm
  have C0 := Lib.hid c0
  have C1 := Lib.hid c1
  have Cab := Lib.hid cab
  have Cbc := Lib.hid cbc
  have Cac := Lib.hid cac
  have Cba := Lib.hid cba
  have Cs := Lib.hid cs
  have Ch := Lib.hid ch
  have La := Lib.hid la
  have Lb := Lib.hid lb
  have H1 := Lib.hid h1
  have H2 := Lib.hid h2
  have H3 := Lib.hid h3
  have A1 := Lib.hid a1
  have A2 := Lib.hid a2
  have en : IntKind.i64.wrap (-x) = -x := IntWalk.i64_in _ (by omega)
  have nx : - -x = x := by omega
  clear c0 c1 cab cbc cac cba cs ch la lb h1 h2 h3 a1 a2 hx hy hz hu hL hM
  have trans : x ≤ 0 → y ≤ 0 → z ≤ 0 := by omega
  have hx : x = -1 := by omega
  clear sab
  subst hx
  have sab := hord
  have us : ¬ U128 (a - b) := by unfold U128; omega
  have hlm := lm (by omega)
  have hd : decide (M < L) = false := by simp; omega
  have neq := neq (by omega)
  clear lm sbc sac shh
  by_cases ch : ah = bh
  · have cl := neq ch
    clear neq
    subst ch
    by_cases cy : y ≤ 0
    · have cz := trans (by omega) cy
      have dz : decide (0 < z) = false := by simp; omega
      have dy : decide (0 < y) = false := by simp; omega
      clear trans
      go_enter Try.func3, Try.ntmps3
      go_wp2_with fail
      refine (C0.out _).mono ?_
      rintro e w1 ⟨rfl, hb1⟩
      have z1 := hb1.size
      have c1 := Below.cells hb1
      have f1 := Below.frozens hb1
      try simp only [World.size_alloc, World.size_setCell, World.size_drew] at z1 c1 f1
      go_wp2_with fail
      refine (C1.out _).mono ?_
      rintro e w2 ⟨rfl, hb2⟩
      have z2 := hb2.size
      have c2 := Below.cells hb2
      have f2 := Below.frozens hb2
      try simp only [World.size_alloc, World.size_setCell, World.size_drew] at z2 c2 f2
      go_wp2_with fail
      refine wp_region_quiet_all (Ext _) (by kernel_rfl) (by kernel_rfl) (Ext.drawn _) ?_
      repeat (first | go_big_quiet_skip | go_big_quiet_step (fail) | (refine BigFrame.wpQuiet_want rfl (fun K hK => ?_); apply Exists.intro; refine ⟨fun w2 h2 => ?_, ?_⟩; (next => (have g1 := Below.cells h2.below; have g2 := Below.frozens h2.below; (try simp only [World.size_alloc, World.size_setCell] at g1 g2); first | (go_simp; (go_at_call 15; first | (with_reducible refine h2.calls (Cab.out _)) | (with_reducible refine h2.calls (Cbc.out _)) | (with_reducible refine h2.calls (Cac.out _)))) | (simp [go_sem, ↓IntWalk.iteOmega, *]; done) | (simp [go_sem, ↓IntWalk.iteOmega, *]; rfl)))); (go_simp; refine hK _ ?_; clear hK K))
      refine wpQuiet_nil ?_
      intro w3 h3
      have hb3 := h3.below
      clear h3
      have z3 := hb3.size
      have c3 := Below.cells hb3
      have f3 := Below.frozens hb3
      try simp only [World.size_alloc, World.size_setCell, World.size_drew] at z3 c3 f3
      go_wp2_with fail
      refine (Cba.out _).mono ?_
      rintro e w4 ⟨rfl, hb4⟩
      have z4 := hb4.size
      have c4 := Below.cells hb4
      have f4 := Below.frozens hb4
      try simp only [World.size_alloc, World.size_setCell, World.size_drew] at z4 c4 f4
      go_wp2_with fail
      refine (sub_sign a b ka kb us _).mono ?_
      rintro e w5 ⟨rfl, hb5⟩
      have z5 := hb5.size
      have c5 := Below.cells hb5
      have f5 := Below.frozens hb5
      try simp only [World.size_alloc, World.size_setCell, World.size_drew] at z5 c5 f5
      go_wp2_with fail
      refine wp_region_quiet_all (Ext _) (by kernel_rfl) (by kernel_rfl) (Ext.drawn _) ?_
      repeat (first | go_big_quiet_skip | go_big_quiet_step (fail) | (refine BigFrame.wpQuiet_want rfl (fun K hK => ?_); apply Exists.intro; refine ⟨fun w2 h2 => ?_, ?_⟩; (next => (have g1 := Below.cells h2.below; have g2 := Below.frozens h2.below; (try simp only [World.size_alloc, World.size_setCell] at g1 g2); first | (go_simp; (go_at_call 17; first | (with_reducible refine h2.calls (La.out _)) | (with_reducible refine h2.calls (Lb.out _)))) | (simp [go_sem, ↓IntWalk.iteOmega, *]; done) | (simp [go_sem, ↓IntWalk.iteOmega, *]; rfl)))); (go_simp; refine hK _ ?_; clear hK K))
      refine wpQuiet_nil ?_
      intro w6 h6
      have hb6 := h6.below
      clear h6
      have z6 := hb6.size
      have c6 := Below.cells hb6
      have f6 := Below.frozens hb6
      try simp only [World.size_alloc, World.size_setCell, World.size_drew] at z6 c6 f6
      go_wp2_with fail
      refine wp_region_rest 8 (by kernel_rfl) (by kernel_rfl) ?_
      simp only [List.take_succ_cons, List.take_zero, List.drop_succ_cons, List.drop_zero]
      repeat (first | (refine wpMild_skip rfl ?_) | (refine wpMild_step rfl (fun K hK => ?_); apply Exists.intro; refine ⟨fun w2 h2 => ?_, ?_⟩; (next => (have h2' := Below.undrew h2; have g1 := Below.cells h2'; have g2 := Below.frozens h2'; (try simp only [World.size_alloc, World.size_setCell] at g1 g2); clear h2 h2'; unfold mildAt; first | (go_simp; simp only [mildUpon, true_and]; (first | (go_at_call 19; first | (with_reducible exact H1.out _) | (with_reducible exact H3.out _)) | (go_at_call 18; refine A1.out _))) | (simp [mildUpon, go_sem, ↓IntWalk.iteOmega, *]; done) | (simp [mildUpon, go_sem, ↓IntWalk.iteOmega, *]; (try go_ints); rfl)))); (go_simp; refine hK _ ?_; clear hK K))
      refine wpMild_nil ?_
      refine rest_make _ _ rfl (makes_wide rfl rfl) (fun b7 _ => ?_)
      rw [oneBlock_of]
      go_simp
      refine rest_tail ?_ rfl rfl (fun w2 hw2 => ?_) ?_
      rotate_left
      next =>
        obtain ⟨d2, e2⟩ := block_cells hw2.one.2
        unfold tailAt
        simp [tailUpon, go_sem, ↓IntWalk.iteOmega, *]
        exact ((hw2).one_set 0 _).one_set 1 _
      repeat (first | (refine rest_nil ?_) | (refine rest_mild rfl (fun K hK => ?_); apply Exists.intro; refine ⟨fun w2 h2 => ?_, ?_⟩; (next => (unfold mildAt; first | (simp [mildUpon, go_sem]; done) | (simp [mildUpon, go_sem]; rfl))); (go_simp; refine hK _ ?_; clear hK K)))
      intro w7 st7
      have hb7 := Below.undrew st7.below
      obtain ⟨lo7, blk7⟩ := st7.one
      have up7 := st7.one_lt
      obtain ⟨d7, e7⟩ := block_cells blk7
      clear st7 blk7
      try simp only [World.size_alloc, World.size_setCell, World.size_drew] at lo7
      have z7 := hb7.size
      have c7 := Below.cells hb7
      have f7 := Below.frozens hb7
      try simp only [World.size_alloc, World.size_setCell, World.size_drew] at z7 c7 f7
      go_wp2_with fail
      refine wp_region_rest 8 (by kernel_rfl) (by kernel_rfl) ?_
      simp only [List.take_succ_cons, List.take_zero, List.drop_succ_cons, List.drop_zero]
      repeat (first | (refine wpMild_skip rfl ?_) | (refine wpMild_step rfl (fun K hK => ?_); apply Exists.intro; refine ⟨fun w2 h2 => ?_, ?_⟩; (next => (have h2' := Below.undrew h2; have g1 := Below.cells h2'; have g2 := Below.frozens h2'; (try simp only [World.size_alloc, World.size_setCell] at g1 g2); clear h2 h2'; unfold mildAt; first | (go_simp; simp only [mildUpon, true_and]; (first | (go_at_call 19; first | (with_reducible exact H2.out _) | (with_reducible exact H3.out _)) | (go_at_call 18; refine A2.out _))) | (simp [mildUpon, go_sem, ↓IntWalk.iteOmega, *]; done) | (simp [mildUpon, go_sem, ↓IntWalk.iteOmega, *]; (try go_ints); rfl)))); (go_simp; refine hK _ ?_; clear hK K))
      refine wpMild_nil ?_
      refine rest_make _ _ rfl (makes_wide rfl rfl) (fun b8 _ => ?_)
      rw [oneBlock_of]
      go_simp
      refine rest_tail ?_ rfl rfl (fun w2 hw2 => ?_) ?_
      rotate_left
      next =>
        obtain ⟨d2, e2⟩ := block_cells hw2.one.2
        unfold tailAt
        simp [tailUpon, go_sem, ↓IntWalk.iteOmega, *]
        exact ((hw2).one_set 0 _).one_set 1 _
      repeat (first | (refine rest_nil ?_) | (refine rest_mild rfl (fun K hK => ?_); apply Exists.intro; refine ⟨fun w2 h2 => ?_, ?_⟩; (next => (unfold mildAt; first | (simp [mildUpon, go_sem]; done) | (simp [mildUpon, go_sem]; rfl))); (go_simp; refine hK _ ?_; clear hK K)))
      intro w8 st8
      have hb8 := Below.undrew st8.below
      obtain ⟨lo8, blk8⟩ := st8.one
      have up8 := st8.one_lt
      obtain ⟨d8, e8⟩ := block_cells blk8
      clear st8 blk8
      try simp only [World.size_alloc, World.size_setCell, World.size_drew] at lo8
      have z8 := hb8.size
      have c8 := Below.cells hb8
      have f8 := Below.frozens hb8
      try simp only [World.size_alloc, World.size_setCell, World.size_drew] at z8 c8 f8
      go_wp2_with fail
      refine wp_region_quiet_all (Ext _) (by kernel_rfl) (by kernel_rfl) (Ext.drawn _) ?_
      repeat (first | go_big_quiet_skip | go_big_quiet_step (fail) | (refine BigFrame.wpQuiet_want rfl (fun K hK => ?_); apply Exists.intro; refine ⟨fun w2 h2 => ?_, ?_⟩; (next => (have g1 := Below.cells h2.below; have g2 := Below.frozens h2.below; (try simp only [World.size_alloc, World.size_setCell] at g1 g2); first | (go_simp; (first | (go_at_call 19; first | (with_reducible refine h2.calls (H1.out _)) | (with_reducible refine h2.calls (H2.out _))) | (go_at_call 15; first | (with_reducible refine h2.calls (Cs.out _)) | (with_reducible refine h2.calls (Ch.out _))))) | (simp [go_sem, ↓IntWalk.iteOmega, *]; done) | (simp [go_sem, ↓IntWalk.iteOmega, *]; rfl)))); (go_simp; refine hK _ ?_; clear hK K))
      refine wpQuiet_nil ?_
      intro w9 h9
      have hb9 := h9.below
      clear h9
      have z9 := hb9.size
      have c9 := Below.cells hb9
      have f9 := Below.frozens hb9
      try simp only [World.size_alloc, World.size_setCell, World.size_drew] at z9 c9 f9
      go_wp2_with fail
      go_ret
      exact ⟨rfl, (by repeat (first | (with_reducible exact Below.refl _ _) | ((with_reducible refine Below.alloc ?_ ?_ _); rotate_left; (next => ((try dsimp only); (try simp only [World.size_alloc, World.size_setCell, World.size_drew]); omega))) | ((with_reducible refine Below.setCell ?_ ?_ _); rotate_left; (next => ((try dsimp only); (try simp only [World.size_alloc, World.size_setCell, World.size_drew]); omega))) | (with_reducible refine Below.drew ?_) | ((with_reducible refine Below.trans ?_ (Below.mono hb9 ?_)); rotate_left; (next => ((try dsimp only); (try simp only [World.size_alloc, World.size_setCell, World.size_drew]); omega))) | ((with_reducible refine Below.trans ?_ (Below.mono hb8 ?_)); rotate_left; (next => ((try dsimp only); (try simp only [World.size_alloc, World.size_setCell, World.size_drew]); omega))) | ((with_reducible refine Below.trans ?_ (Below.mono hb7 ?_)); rotate_left; (next => ((try dsimp only); (try simp only [World.size_alloc, World.size_setCell, World.size_drew]); omega))) | ((with_reducible refine Below.trans ?_ (Below.mono hb6 ?_)); rotate_left; (next => ((try dsimp only); (try simp only [World.size_alloc, World.size_setCell, World.size_drew]); omega))) | ((with_reducible refine Below.trans ?_ (Below.mono hb5 ?_)); rotate_left; (next => ((try dsimp only); (try simp only [World.size_alloc, World.size_setCell, World.size_drew]); omega))) | ((with_reducible refine Below.trans ?_ (Below.mono hb4 ?_)); rotate_left; (next => ((try dsimp only); (try simp only [World.size_alloc, World.size_setCell, World.size_drew]); omega))) | ((with_reducible refine Below.trans ?_ (Below.mono hb3 ?_)); rotate_left; (next => ((try dsimp only); (try simp only [World.size_alloc, World.size_setCell, World.size_drew]); omega))) | ((with_reducible refine Below.trans ?_ (Below.mono hb2 ?_)); rotate_left; (next => ((try dsimp only); (try simp only [World.size_alloc, World.size_setCell, World.size_drew]); omega))) | ((with_reducible refine Below.trans ?_ (Below.mono hb1 ?_)); rotate_left; (next => ((try dsimp only); (try simp only [World.size_alloc, World.size_setCell, World.size_drew]); omega)))))⟩
    · have dy : decide (y ≤ 0) = false := by simp; omega
      clear trans
      go_enter Try.func3, Try.ntmps3
      go_wp2_with fail
      refine (C0.out _).mono ?_
      rintro e w1 ⟨rfl, hb1⟩
      have z1 := hb1.size
      have c1 := Below.cells hb1
      have f1 := Below.frozens hb1
      try simp only [World.size_alloc, World.size_setCell, World.size_drew] at z1 c1 f1
      go_wp2_with fail
      refine (C1.out _).mono ?_
      rintro e w2 ⟨rfl, hb2⟩
      have z2 := hb2.size
      have c2 := Below.cells hb2
      have f2 := Below.frozens hb2
      try simp only [World.size_alloc, World.size_setCell, World.size_drew] at z2 c2 f2
      go_wp2_with fail
      refine wp_region_quiet_all (Ext _) (by kernel_rfl) (by kernel_rfl) (Ext.drawn _) ?_
      repeat (first | go_big_quiet_skip | go_big_quiet_step (fail) | (refine BigFrame.wpQuiet_want rfl (fun K hK => ?_); apply Exists.intro; refine ⟨fun w2 h2 => ?_, ?_⟩; (next => (have g1 := Below.cells h2.below; have g2 := Below.frozens h2.below; (try simp only [World.size_alloc, World.size_setCell] at g1 g2); first | (go_simp; (go_at_call 15; first | (with_reducible refine h2.calls (Cab.out _)) | (with_reducible refine h2.calls (Cbc.out _)) | (with_reducible refine h2.calls (Cac.out _)))) | (simp [go_sem, ↓IntWalk.iteOmega, *]; done) | (simp [go_sem, ↓IntWalk.iteOmega, *]; rfl)))); (go_simp; refine hK _ ?_; clear hK K))
      refine wpQuiet_nil ?_
      intro w3 h3
      have hb3 := h3.below
      clear h3
      have z3 := hb3.size
      have c3 := Below.cells hb3
      have f3 := Below.frozens hb3
      try simp only [World.size_alloc, World.size_setCell, World.size_drew] at z3 c3 f3
      go_wp2_with fail
      refine (Cba.out _).mono ?_
      rintro e w4 ⟨rfl, hb4⟩
      have z4 := hb4.size
      have c4 := Below.cells hb4
      have f4 := Below.frozens hb4
      try simp only [World.size_alloc, World.size_setCell, World.size_drew] at z4 c4 f4
      go_wp2_with fail
      refine (sub_sign a b ka kb us _).mono ?_
      rintro e w5 ⟨rfl, hb5⟩
      have z5 := hb5.size
      have c5 := Below.cells hb5
      have f5 := Below.frozens hb5
      try simp only [World.size_alloc, World.size_setCell, World.size_drew] at z5 c5 f5
      go_wp2_with fail
      refine wp_region_quiet_all (Ext _) (by kernel_rfl) (by kernel_rfl) (Ext.drawn _) ?_
      repeat (first | go_big_quiet_skip | go_big_quiet_step (fail) | (refine BigFrame.wpQuiet_want rfl (fun K hK => ?_); apply Exists.intro; refine ⟨fun w2 h2 => ?_, ?_⟩; (next => (have g1 := Below.cells h2.below; have g2 := Below.frozens h2.below; (try simp only [World.size_alloc, World.size_setCell] at g1 g2); first | (go_simp; (go_at_call 17; first | (with_reducible refine h2.calls (La.out _)) | (with_reducible refine h2.calls (Lb.out _)))) | (simp [go_sem, ↓IntWalk.iteOmega, *]; done) | (simp [go_sem, ↓IntWalk.iteOmega, *]; rfl)))); (go_simp; refine hK _ ?_; clear hK K))
      refine wpQuiet_nil ?_
      intro w6 h6
      have hb6 := h6.below
      clear h6
      have z6 := hb6.size
      have c6 := Below.cells hb6
      have f6 := Below.frozens hb6
      try simp only [World.size_alloc, World.size_setCell, World.size_drew] at z6 c6 f6
      go_wp2_with fail
      refine wp_region_rest 8 (by kernel_rfl) (by kernel_rfl) ?_
      simp only [List.take_succ_cons, List.take_zero, List.drop_succ_cons, List.drop_zero]
      repeat (first | (refine wpMild_skip rfl ?_) | (refine wpMild_step rfl (fun K hK => ?_); apply Exists.intro; refine ⟨fun w2 h2 => ?_, ?_⟩; (next => (have h2' := Below.undrew h2; have g1 := Below.cells h2'; have g2 := Below.frozens h2'; (try simp only [World.size_alloc, World.size_setCell] at g1 g2); clear h2 h2'; unfold mildAt; first | (go_simp; simp only [mildUpon, true_and]; (first | (go_at_call 19; first | (with_reducible exact H1.out _) | (with_reducible exact H3.out _)) | (go_at_call 18; refine A1.out _))) | (simp [mildUpon, go_sem, ↓IntWalk.iteOmega, *]; done) | (simp [mildUpon, go_sem, ↓IntWalk.iteOmega, *]; (try go_ints); rfl)))); (go_simp; refine hK _ ?_; clear hK K))
      refine wpMild_nil ?_
      refine rest_make _ _ rfl (makes_wide rfl rfl) (fun b7 _ => ?_)
      rw [oneBlock_of]
      go_simp
      refine rest_tail ?_ rfl rfl (fun w2 hw2 => ?_) ?_
      rotate_left
      next =>
        obtain ⟨d2, e2⟩ := block_cells hw2.one.2
        unfold tailAt
        simp [tailUpon, go_sem, ↓IntWalk.iteOmega, *]
        exact ((hw2).one_set 0 _).one_set 1 _
      repeat (first | (refine rest_nil ?_) | (refine rest_mild rfl (fun K hK => ?_); apply Exists.intro; refine ⟨fun w2 h2 => ?_, ?_⟩; (next => (unfold mildAt; first | (simp [mildUpon, go_sem]; done) | (simp [mildUpon, go_sem]; rfl))); (go_simp; refine hK _ ?_; clear hK K)))
      intro w7 st7
      have hb7 := Below.undrew st7.below
      obtain ⟨lo7, blk7⟩ := st7.one
      have up7 := st7.one_lt
      obtain ⟨d7, e7⟩ := block_cells blk7
      clear st7 blk7
      try simp only [World.size_alloc, World.size_setCell, World.size_drew] at lo7
      have z7 := hb7.size
      have c7 := Below.cells hb7
      have f7 := Below.frozens hb7
      try simp only [World.size_alloc, World.size_setCell, World.size_drew] at z7 c7 f7
      go_wp2_with fail
      refine wp_region_rest 8 (by kernel_rfl) (by kernel_rfl) ?_
      simp only [List.take_succ_cons, List.take_zero, List.drop_succ_cons, List.drop_zero]
      repeat (first | (refine wpMild_skip rfl ?_) | (refine wpMild_step rfl (fun K hK => ?_); apply Exists.intro; refine ⟨fun w2 h2 => ?_, ?_⟩; (next => (have h2' := Below.undrew h2; have g1 := Below.cells h2'; have g2 := Below.frozens h2'; (try simp only [World.size_alloc, World.size_setCell] at g1 g2); clear h2 h2'; unfold mildAt; first | (go_simp; simp only [mildUpon, true_and]; (first | (go_at_call 19; first | (with_reducible exact H2.out _) | (with_reducible exact H3.out _)) | (go_at_call 18; refine A2.out _))) | (simp [mildUpon, go_sem, ↓IntWalk.iteOmega, *]; done) | (simp [mildUpon, go_sem, ↓IntWalk.iteOmega, *]; (try go_ints); rfl)))); (go_simp; refine hK _ ?_; clear hK K))
      refine wpMild_nil ?_
      refine rest_make _ _ rfl (makes_wide rfl rfl) (fun b8 _ => ?_)
      rw [oneBlock_of]
      go_simp
      refine rest_tail ?_ rfl rfl (fun w2 hw2 => ?_) ?_
      rotate_left
      next =>
        obtain ⟨d2, e2⟩ := block_cells hw2.one.2
        unfold tailAt
        simp [tailUpon, go_sem, ↓IntWalk.iteOmega, *]
        exact ((hw2).one_set 0 _).one_set 1 _
      repeat (first | (refine rest_nil ?_) | (refine rest_mild rfl (fun K hK => ?_); apply Exists.intro; refine ⟨fun w2 h2 => ?_, ?_⟩; (next => (unfold mildAt; first | (simp [mildUpon, go_sem]; done) | (simp [mildUpon, go_sem]; rfl))); (go_simp; refine hK _ ?_; clear hK K)))
      intro w8 st8
      have hb8 := Below.undrew st8.below
      obtain ⟨lo8, blk8⟩ := st8.one
      have up8 := st8.one_lt
      obtain ⟨d8, e8⟩ := block_cells blk8
      clear st8 blk8
      try simp only [World.size_alloc, World.size_setCell, World.size_drew] at lo8
      have z8 := hb8.size
      have c8 := Below.cells hb8
      have f8 := Below.frozens hb8
      try simp only [World.size_alloc, World.size_setCell, World.size_drew] at z8 c8 f8
      go_wp2_with fail
      refine wp_region_quiet_all (Ext _) (by kernel_rfl) (by kernel_rfl) (Ext.drawn _) ?_
      repeat (first | go_big_quiet_skip | go_big_quiet_step (fail) | (refine BigFrame.wpQuiet_want rfl (fun K hK => ?_); apply Exists.intro; refine ⟨fun w2 h2 => ?_, ?_⟩; (next => (have g1 := Below.cells h2.below; have g2 := Below.frozens h2.below; (try simp only [World.size_alloc, World.size_setCell] at g1 g2); first | (go_simp; (first | (go_at_call 19; first | (with_reducible refine h2.calls (H1.out _)) | (with_reducible refine h2.calls (H2.out _))) | (go_at_call 15; first | (with_reducible refine h2.calls (Cs.out _)) | (with_reducible refine h2.calls (Ch.out _))))) | (simp [go_sem, ↓IntWalk.iteOmega, *]; done) | (simp [go_sem, ↓IntWalk.iteOmega, *]; rfl)))); (go_simp; refine hK _ ?_; clear hK K))
      refine wpQuiet_nil ?_
      intro w9 h9
      have hb9 := h9.below
      clear h9
      have z9 := hb9.size
      have c9 := Below.cells hb9
      have f9 := Below.frozens hb9
      try simp only [World.size_alloc, World.size_setCell, World.size_drew] at z9 c9 f9
      go_wp2_with fail
      go_ret
      exact ⟨rfl, (by repeat (first | (with_reducible exact Below.refl _ _) | ((with_reducible refine Below.alloc ?_ ?_ _); rotate_left; (next => ((try dsimp only); (try simp only [World.size_alloc, World.size_setCell, World.size_drew]); omega))) | ((with_reducible refine Below.setCell ?_ ?_ _); rotate_left; (next => ((try dsimp only); (try simp only [World.size_alloc, World.size_setCell, World.size_drew]); omega))) | (with_reducible refine Below.drew ?_) | ((with_reducible refine Below.trans ?_ (Below.mono hb9 ?_)); rotate_left; (next => ((try dsimp only); (try simp only [World.size_alloc, World.size_setCell, World.size_drew]); omega))) | ((with_reducible refine Below.trans ?_ (Below.mono hb8 ?_)); rotate_left; (next => ((try dsimp only); (try simp only [World.size_alloc, World.size_setCell, World.size_drew]); omega))) | ((with_reducible refine Below.trans ?_ (Below.mono hb7 ?_)); rotate_left; (next => ((try dsimp only); (try simp only [World.size_alloc, World.size_setCell, World.size_drew]); omega))) | ((with_reducible refine Below.trans ?_ (Below.mono hb6 ?_)); rotate_left; (next => ((try dsimp only); (try simp only [World.size_alloc, World.size_setCell, World.size_drew]); omega))) | ((with_reducible refine Below.trans ?_ (Below.mono hb5 ?_)); rotate_left; (next => ((try dsimp only); (try simp only [World.size_alloc, World.size_setCell, World.size_drew]); omega))) | ((with_reducible refine Below.trans ?_ (Below.mono hb4 ?_)); rotate_left; (next => ((try dsimp only); (try simp only [World.size_alloc, World.size_setCell, World.size_drew]); omega))) | ((with_reducible refine Below.trans ?_ (Below.mono hb3 ?_)); rotate_left; (next => ((try dsimp only); (try simp only [World.size_alloc, World.size_setCell, World.size_drew]); omega))) | ((with_reducible refine Below.trans ?_ (Below.mono hb2 ?_)); rotate_left; (next => ((try dsimp only); (try simp only [World.size_alloc, World.size_setCell, World.size_drew]); omega))) | ((with_reducible refine Below.trans ?_ (Below.mono hb1 ?_)); rotate_left; (next => ((try dsimp only); (try simp only [World.size_alloc, World.size_setCell, World.size_drew]); omega)))))⟩
  · clear neq
    by_cases cy : y ≤ 0
    · have cz := trans (by omega) cy
      have dz : decide (0 < z) = false := by simp; omega
      have dy : decide (0 < y) = false := by simp; omega
      clear trans
      go_enter Try.func3, Try.ntmps3
      go_wp2_with fail
      refine (C0.out _).mono ?_
      rintro e w1 ⟨rfl, hb1⟩
      have z1 := hb1.size
      have c1 := Below.cells hb1
      have f1 := Below.frozens hb1
      try simp only [World.size_alloc, World.size_setCell, World.size_drew] at z1 c1 f1
      go_wp2_with fail
      refine (C1.out _).mono ?_
      rintro e w2 ⟨rfl, hb2⟩
      have z2 := hb2.size
      have c2 := Below.cells hb2
      have f2 := Below.frozens hb2
      try simp only [World.size_alloc, World.size_setCell, World.size_drew] at z2 c2 f2
      go_wp2_with fail
      refine wp_region_quiet_all (Ext _) (by kernel_rfl) (by kernel_rfl) (Ext.drawn _) ?_
      repeat (first | go_big_quiet_skip | go_big_quiet_step (fail) | (refine BigFrame.wpQuiet_want rfl (fun K hK => ?_); apply Exists.intro; refine ⟨fun w2 h2 => ?_, ?_⟩; (next => (have g1 := Below.cells h2.below; have g2 := Below.frozens h2.below; (try simp only [World.size_alloc, World.size_setCell] at g1 g2); first | (go_simp; (go_at_call 15; first | (with_reducible refine h2.calls (Cab.out _)) | (with_reducible refine h2.calls (Cbc.out _)) | (with_reducible refine h2.calls (Cac.out _)))) | (simp [go_sem, ↓IntWalk.iteOmega, *]; done) | (simp [go_sem, ↓IntWalk.iteOmega, *]; rfl)))); (go_simp; refine hK _ ?_; clear hK K))
      refine wpQuiet_nil ?_
      intro w3 h3
      have hb3 := h3.below
      clear h3
      have z3 := hb3.size
      have c3 := Below.cells hb3
      have f3 := Below.frozens hb3
      try simp only [World.size_alloc, World.size_setCell, World.size_drew] at z3 c3 f3
      go_wp2_with fail
      refine (Cba.out _).mono ?_
      rintro e w4 ⟨rfl, hb4⟩
      have z4 := hb4.size
      have c4 := Below.cells hb4
      have f4 := Below.frozens hb4
      try simp only [World.size_alloc, World.size_setCell, World.size_drew] at z4 c4 f4
      go_wp2_with fail
      refine (sub_sign a b ka kb us _).mono ?_
      rintro e w5 ⟨rfl, hb5⟩
      have z5 := hb5.size
      have c5 := Below.cells hb5
      have f5 := Below.frozens hb5
      try simp only [World.size_alloc, World.size_setCell, World.size_drew] at z5 c5 f5
      go_wp2_with fail
      refine wp_region_quiet_all (Ext _) (by kernel_rfl) (by kernel_rfl) (Ext.drawn _) ?_
      repeat (first | go_big_quiet_skip | go_big_quiet_step (fail) | (refine BigFrame.wpQuiet_want rfl (fun K hK => ?_); apply Exists.intro; refine ⟨fun w2 h2 => ?_, ?_⟩; (next => (have g1 := Below.cells h2.below; have g2 := Below.frozens h2.below; (try simp only [World.size_alloc, World.size_setCell] at g1 g2); first | (go_simp; (go_at_call 17; first | (with_reducible refine h2.calls (La.out _)) | (with_reducible refine h2.calls (Lb.out _)))) | (simp [go_sem, ↓IntWalk.iteOmega, *]; done) | (simp [go_sem, ↓IntWalk.iteOmega, *]; rfl)))); (go_simp; refine hK _ ?_; clear hK K))
      refine wpQuiet_nil ?_
      intro w6 h6
      have hb6 := h6.below
      clear h6
      have z6 := hb6.size
      have c6 := Below.cells hb6
      have f6 := Below.frozens hb6
      try simp only [World.size_alloc, World.size_setCell, World.size_drew] at z6 c6 f6
      go_wp2_with fail
      refine wp_region_rest 8 (by kernel_rfl) (by kernel_rfl) ?_
      simp only [List.take_succ_cons, List.take_zero, List.drop_succ_cons, List.drop_zero]
      repeat (first | (refine wpMild_skip rfl ?_) | (refine wpMild_step rfl (fun K hK => ?_); apply Exists.intro; refine ⟨fun w2 h2 => ?_, ?_⟩; (next => (have h2' := Below.undrew h2; have g1 := Below.cells h2'; have g2 := Below.frozens h2'; (try simp only [World.size_alloc, World.size_setCell] at g1 g2); clear h2 h2'; unfold mildAt; first | (go_simp; simp only [mildUpon, true_and]; (first | (go_at_call 19; first | (with_reducible exact H1.out _) | (with_reducible exact H3.out _)) | (go_at_call 18; refine A1.out _))) | (simp [mildUpon, go_sem, ↓IntWalk.iteOmega, *]; done) | (simp [mildUpon, go_sem, ↓IntWalk.iteOmega, *]; (try go_ints); rfl)))); (go_simp; refine hK _ ?_; clear hK K))
      refine wpMild_nil ?_
      refine rest_make _ _ rfl (makes_wide rfl rfl) (fun b7 _ => ?_)
      rw [oneBlock_of]
      go_simp
      refine rest_tail ?_ rfl rfl (fun w2 hw2 => ?_) ?_
      rotate_left
      next =>
        obtain ⟨d2, e2⟩ := block_cells hw2.one.2
        unfold tailAt
        simp [tailUpon, go_sem, ↓IntWalk.iteOmega, *]
        exact ((hw2).one_set 0 _).one_set 1 _
      repeat (first | (refine rest_nil ?_) | (refine rest_mild rfl (fun K hK => ?_); apply Exists.intro; refine ⟨fun w2 h2 => ?_, ?_⟩; (next => (unfold mildAt; first | (simp [mildUpon, go_sem]; done) | (simp [mildUpon, go_sem]; rfl))); (go_simp; refine hK _ ?_; clear hK K)))
      intro w7 st7
      have hb7 := Below.undrew st7.below
      obtain ⟨lo7, blk7⟩ := st7.one
      have up7 := st7.one_lt
      obtain ⟨d7, e7⟩ := block_cells blk7
      clear st7 blk7
      try simp only [World.size_alloc, World.size_setCell, World.size_drew] at lo7
      have z7 := hb7.size
      have c7 := Below.cells hb7
      have f7 := Below.frozens hb7
      try simp only [World.size_alloc, World.size_setCell, World.size_drew] at z7 c7 f7
      go_wp2_with fail
      refine wp_region_rest 8 (by kernel_rfl) (by kernel_rfl) ?_
      simp only [List.take_succ_cons, List.take_zero, List.drop_succ_cons, List.drop_zero]
      repeat (first | (refine wpMild_skip rfl ?_) | (refine wpMild_step rfl (fun K hK => ?_); apply Exists.intro; refine ⟨fun w2 h2 => ?_, ?_⟩; (next => (have h2' := Below.undrew h2; have g1 := Below.cells h2'; have g2 := Below.frozens h2'; (try simp only [World.size_alloc, World.size_setCell] at g1 g2); clear h2 h2'; unfold mildAt; first | (go_simp; simp only [mildUpon, true_and]; (first | (go_at_call 19; first | (with_reducible exact H2.out _) | (with_reducible exact H3.out _)) | (go_at_call 18; refine A2.out _))) | (simp [mildUpon, go_sem, ↓IntWalk.iteOmega, *]; done) | (simp [mildUpon, go_sem, ↓IntWalk.iteOmega, *]; (try go_ints); rfl)))); (go_simp; refine hK _ ?_; clear hK K))
      refine wpMild_nil ?_
      refine rest_make _ _ rfl (makes_wide rfl rfl) (fun b8 _ => ?_)
      rw [oneBlock_of]
      go_simp
      refine rest_tail ?_ rfl rfl (fun w2 hw2 => ?_) ?_
      rotate_left
      next =>
        obtain ⟨d2, e2⟩ := block_cells hw2.one.2
        unfold tailAt
        simp [tailUpon, go_sem, ↓IntWalk.iteOmega, *]
        exact ((hw2).one_set 0 _).one_set 1 _
      repeat (first | (refine rest_nil ?_) | (refine rest_mild rfl (fun K hK => ?_); apply Exists.intro; refine ⟨fun w2 h2 => ?_, ?_⟩; (next => (unfold mildAt; first | (simp [mildUpon, go_sem]; done) | (simp [mildUpon, go_sem]; rfl))); (go_simp; refine hK _ ?_; clear hK K)))
      intro w8 st8
      have hb8 := Below.undrew st8.below
      obtain ⟨lo8, blk8⟩ := st8.one
      have up8 := st8.one_lt
      obtain ⟨d8, e8⟩ := block_cells blk8
      clear st8 blk8
      try simp only [World.size_alloc, World.size_setCell, World.size_drew] at lo8
      have z8 := hb8.size
      have c8 := Below.cells hb8
      have f8 := Below.frozens hb8
      try simp only [World.size_alloc, World.size_setCell, World.size_drew] at z8 c8 f8
      go_wp2_with fail
      refine wp_region_quiet_all (Ext _) (by kernel_rfl) (by kernel_rfl) (Ext.drawn _) ?_
      repeat (first | go_big_quiet_skip | go_big_quiet_step (fail) | (refine BigFrame.wpQuiet_want rfl (fun K hK => ?_); apply Exists.intro; refine ⟨fun w2 h2 => ?_, ?_⟩; (next => (have g1 := Below.cells h2.below; have g2 := Below.frozens h2.below; (try simp only [World.size_alloc, World.size_setCell] at g1 g2); first | (go_simp; (first | (go_at_call 19; first | (with_reducible refine h2.calls (H1.out _)) | (with_reducible refine h2.calls (H2.out _))) | (go_at_call 15; first | (with_reducible refine h2.calls (Cs.out _)) | (with_reducible refine h2.calls (Ch.out _))))) | (simp [go_sem, ↓IntWalk.iteOmega, *]; done) | (simp [go_sem, ↓IntWalk.iteOmega, *]; rfl)))); (go_simp; refine hK _ ?_; clear hK K))
      refine wpQuiet_nil ?_
      intro w9 h9
      have hb9 := h9.below
      clear h9
      have z9 := hb9.size
      have c9 := Below.cells hb9
      have f9 := Below.frozens hb9
      try simp only [World.size_alloc, World.size_setCell, World.size_drew] at z9 c9 f9
      go_wp2_with fail
      go_ret
      exact ⟨rfl, (by repeat (first | (with_reducible exact Below.refl _ _) | ((with_reducible refine Below.alloc ?_ ?_ _); rotate_left; (next => ((try dsimp only); (try simp only [World.size_alloc, World.size_setCell, World.size_drew]); omega))) | ((with_reducible refine Below.setCell ?_ ?_ _); rotate_left; (next => ((try dsimp only); (try simp only [World.size_alloc, World.size_setCell, World.size_drew]); omega))) | (with_reducible refine Below.drew ?_) | ((with_reducible refine Below.trans ?_ (Below.mono hb9 ?_)); rotate_left; (next => ((try dsimp only); (try simp only [World.size_alloc, World.size_setCell, World.size_drew]); omega))) | ((with_reducible refine Below.trans ?_ (Below.mono hb8 ?_)); rotate_left; (next => ((try dsimp only); (try simp only [World.size_alloc, World.size_setCell, World.size_drew]); omega))) | ((with_reducible refine Below.trans ?_ (Below.mono hb7 ?_)); rotate_left; (next => ((try dsimp only); (try simp only [World.size_alloc, World.size_setCell, World.size_drew]); omega))) | ((with_reducible refine Below.trans ?_ (Below.mono hb6 ?_)); rotate_left; (next => ((try dsimp only); (try simp only [World.size_alloc, World.size_setCell, World.size_drew]); omega))) | ((with_reducible refine Below.trans ?_ (Below.mono hb5 ?_)); rotate_left; (next => ((try dsimp only); (try simp only [World.size_alloc, World.size_setCell, World.size_drew]); omega))) | ((with_reducible refine Below.trans ?_ (Below.mono hb4 ?_)); rotate_left; (next => ((try dsimp only); (try simp only [World.size_alloc, World.size_setCell, World.size_drew]); omega))) | ((with_reducible refine Below.trans ?_ (Below.mono hb3 ?_)); rotate_left; (next => ((try dsimp only); (try simp only [World.size_alloc, World.size_setCell, World.size_drew]); omega))) | ((with_reducible refine Below.trans ?_ (Below.mono hb2 ?_)); rotate_left; (next => ((try dsimp only); (try simp only [World.size_alloc, World.size_setCell, World.size_drew]); omega))) | ((with_reducible refine Below.trans ?_ (Below.mono hb1 ?_)); rotate_left; (next => ((try dsimp only); (try simp only [World.size_alloc, World.size_setCell, World.size_drew]); omega)))))⟩
    · have dy : decide (y ≤ 0) = false := by simp; omega
      clear trans
      go_enter Try.func3, Try.ntmps3
      go_wp2_with fail
      refine (C0.out _).mono ?_
      rintro e w1 ⟨rfl, hb1⟩
      have z1 := hb1.size
      have c1 := Below.cells hb1
      have f1 := Below.frozens hb1
      try simp only [World.size_alloc, World.size_setCell, World.size_drew] at z1 c1 f1
      go_wp2_with fail
      refine (C1.out _).mono ?_
      rintro e w2 ⟨rfl, hb2⟩
      have z2 := hb2.size
      have c2 := Below.cells hb2
      have f2 := Below.frozens hb2
      try simp only [World.size_alloc, World.size_setCell, World.size_drew] at z2 c2 f2
      go_wp2_with fail
      refine wp_region_quiet_all (Ext _) (by kernel_rfl) (by kernel_rfl) (Ext.drawn _) ?_
      repeat (first | go_big_quiet_skip | go_big_quiet_step (fail) | (refine BigFrame.wpQuiet_want rfl (fun K hK => ?_); apply Exists.intro; refine ⟨fun w2 h2 => ?_, ?_⟩; (next => (have g1 := Below.cells h2.below; have g2 := Below.frozens h2.below; (try simp only [World.size_alloc, World.size_setCell] at g1 g2); first | (go_simp; (go_at_call 15; first | (with_reducible refine h2.calls (Cab.out _)) | (with_reducible refine h2.calls (Cbc.out _)) | (with_reducible refine h2.calls (Cac.out _)))) | (simp [go_sem, ↓IntWalk.iteOmega, *]; done) | (simp [go_sem, ↓IntWalk.iteOmega, *]; rfl)))); (go_simp; refine hK _ ?_; clear hK K))
      refine wpQuiet_nil ?_
      intro w3 h3
      have hb3 := h3.below
      clear h3
      have z3 := hb3.size
      have c3 := Below.cells hb3
      have f3 := Below.frozens hb3
      try simp only [World.size_alloc, World.size_setCell, World.size_drew] at z3 c3 f3
      go_wp2_with fail
      refine (Cba.out _).mono ?_
      rintro e w4 ⟨rfl, hb4⟩
      have z4 := hb4.size
      have c4 := Below.cells hb4
      have f4 := Below.frozens hb4
      try simp only [World.size_alloc, World.size_setCell, World.size_drew] at z4 c4 f4
      go_wp2_with fail
      refine (sub_sign a b ka kb us _).mono ?_
      rintro e w5 ⟨rfl, hb5⟩
      have z5 := hb5.size
      have c5 := Below.cells hb5
      have f5 := Below.frozens hb5
      try simp only [World.size_alloc, World.size_setCell, World.size_drew] at z5 c5 f5
      go_wp2_with fail
      refine wp_region_quiet_all (Ext _) (by kernel_rfl) (by kernel_rfl) (Ext.drawn _) ?_
      repeat (first | go_big_quiet_skip | go_big_quiet_step (fail) | (refine BigFrame.wpQuiet_want rfl (fun K hK => ?_); apply Exists.intro; refine ⟨fun w2 h2 => ?_, ?_⟩; (next => (have g1 := Below.cells h2.below; have g2 := Below.frozens h2.below; (try simp only [World.size_alloc, World.size_setCell] at g1 g2); first | (go_simp; (go_at_call 17; first | (with_reducible refine h2.calls (La.out _)) | (with_reducible refine h2.calls (Lb.out _)))) | (simp [go_sem, ↓IntWalk.iteOmega, *]; done) | (simp [go_sem, ↓IntWalk.iteOmega, *]; rfl)))); (go_simp; refine hK _ ?_; clear hK K))
      refine wpQuiet_nil ?_
      intro w6 h6
      have hb6 := h6.below
      clear h6
      have z6 := hb6.size
      have c6 := Below.cells hb6
      have f6 := Below.frozens hb6
      try simp only [World.size_alloc, World.size_setCell, World.size_drew] at z6 c6 f6
      go_wp2_with fail
      refine wp_region_rest 8 (by kernel_rfl) (by kernel_rfl) ?_
      simp only [List.take_succ_cons, List.take_zero, List.drop_succ_cons, List.drop_zero]
      repeat (first | (refine wpMild_skip rfl ?_) | (refine wpMild_step rfl (fun K hK => ?_); apply Exists.intro; refine ⟨fun w2 h2 => ?_, ?_⟩; (next => (have h2' := Below.undrew h2; have g1 := Below.cells h2'; have g2 := Below.frozens h2'; (try simp only [World.size_alloc, World.size_setCell] at g1 g2); clear h2 h2'; unfold mildAt; first | (go_simp; simp only [mildUpon, true_and]; (first | (go_at_call 19; first | (with_reducible exact H1.out _) | (with_reducible exact H3.out _)) | (go_at_call 18; refine A1.out _))) | (simp [mildUpon, go_sem, ↓IntWalk.iteOmega, *]; done) | (simp [mildUpon, go_sem, ↓IntWalk.iteOmega, *]; (try go_ints); rfl)))); (go_simp; refine hK _ ?_; clear hK K))
      refine wpMild_nil ?_
      refine rest_make _ _ rfl (makes_wide rfl rfl) (fun b7 _ => ?_)
      rw [oneBlock_of]
      go_simp
      refine rest_tail ?_ rfl rfl (fun w2 hw2 => ?_) ?_
      rotate_left
      next =>
        obtain ⟨d2, e2⟩ := block_cells hw2.one.2
        unfold tailAt
        simp [tailUpon, go_sem, ↓IntWalk.iteOmega, *]
        exact ((hw2).one_set 0 _).one_set 1 _
      repeat (first | (refine rest_nil ?_) | (refine rest_mild rfl (fun K hK => ?_); apply Exists.intro; refine ⟨fun w2 h2 => ?_, ?_⟩; (next => (unfold mildAt; first | (simp [mildUpon, go_sem]; done) | (simp [mildUpon, go_sem]; rfl))); (go_simp; refine hK _ ?_; clear hK K)))
      intro w7 st7
      have hb7 := Below.undrew st7.below
      obtain ⟨lo7, blk7⟩ := st7.one
      have up7 := st7.one_lt
      obtain ⟨d7, e7⟩ := block_cells blk7
      clear st7 blk7
      try simp only [World.size_alloc, World.size_setCell, World.size_drew] at lo7
      have z7 := hb7.size
      have c7 := Below.cells hb7
      have f7 := Below.frozens hb7
      try simp only [World.size_alloc, World.size_setCell, World.size_drew] at z7 c7 f7
      go_wp2_with fail
      refine wp_region_rest 8 (by kernel_rfl) (by kernel_rfl) ?_
      simp only [List.take_succ_cons, List.take_zero, List.drop_succ_cons, List.drop_zero]
      repeat (first | (refine wpMild_skip rfl ?_) | (refine wpMild_step rfl (fun K hK => ?_); apply Exists.intro; refine ⟨fun w2 h2 => ?_, ?_⟩; (next => (have h2' := Below.undrew h2; have g1 := Below.cells h2'; have g2 := Below.frozens h2'; (try simp only [World.size_alloc, World.size_setCell] at g1 g2); clear h2 h2'; unfold mildAt; first | (go_simp; simp only [mildUpon, true_and]; (first | (go_at_call 19; first | (with_reducible exact H2.out _) | (with_reducible exact H3.out _)) | (go_at_call 18; refine A2.out _))) | (simp [mildUpon, go_sem, ↓IntWalk.iteOmega, *]; done) | (simp [mildUpon, go_sem, ↓IntWalk.iteOmega, *]; (try go_ints); rfl)))); (go_simp; refine hK _ ?_; clear hK K))
      refine wpMild_nil ?_
      refine rest_make _ _ rfl (makes_wide rfl rfl) (fun b8 _ => ?_)
      rw [oneBlock_of]
      go_simp
      refine rest_tail ?_ rfl rfl (fun w2 hw2 => ?_) ?_
      rotate_left
      next =>
        obtain ⟨d2, e2⟩ := block_cells hw2.one.2
        unfold tailAt
        simp [tailUpon, go_sem, ↓IntWalk.iteOmega, *]
        exact ((hw2).one_set 0 _).one_set 1 _
      repeat (first | (refine rest_nil ?_) | (refine rest_mild rfl (fun K hK => ?_); apply Exists.intro; refine ⟨fun w2 h2 => ?_, ?_⟩; (next => (unfold mildAt; first | (simp [mildUpon, go_sem]; done) | (simp [mildUpon, go_sem]; rfl))); (go_simp; refine hK _ ?_; clear hK K)))
      intro w8 st8
      have hb8 := Below.undrew st8.below
      obtain ⟨lo8, blk8⟩ := st8.one
      have up8 := st8.one_lt
      obtain ⟨d8, e8⟩ := block_cells blk8
      clear st8 blk8
      try simp only [World.size_alloc, World.size_setCell, World.size_drew] at lo8
      have z8 := hb8.size
      have c8 := Below.cells hb8
      have f8 := Below.frozens hb8
      try simp only [World.size_alloc, World.size_setCell, World.size_drew] at z8 c8 f8
      go_wp2_with fail
      refine wp_region_quiet_all (Ext _) (by kernel_rfl) (by kernel_rfl) (Ext.drawn _) ?_
      repeat (first | go_big_quiet_skip | go_big_quiet_step (fail) | (refine BigFrame.wpQuiet_want rfl (fun K hK => ?_); apply Exists.intro; refine ⟨fun w2 h2 => ?_, ?_⟩; (next => (have g1 := Below.cells h2.below; have g2 := Below.frozens h2.below; (try simp only [World.size_alloc, World.size_setCell] at g1 g2); first | (go_simp; (first | (go_at_call 19; first | (with_reducible refine h2.calls (H1.out _)) | (with_reducible refine h2.calls (H2.out _))) | (go_at_call 15; first | (with_reducible refine h2.calls (Cs.out _)) | (with_reducible refine h2.calls (Ch.out _))))) | (simp [go_sem, ↓IntWalk.iteOmega, *]; done) | (simp [go_sem, ↓IntWalk.iteOmega, *]; rfl)))); (go_simp; refine hK _ ?_; clear hK K))
      refine wpQuiet_nil ?_
      intro w9 h9
      have hb9 := h9.below
      clear h9
      have z9 := hb9.size
      have c9 := Below.cells hb9
      have f9 := Below.frozens hb9
      try simp only [World.size_alloc, World.size_setCell, World.size_drew] at z9 c9 f9
      go_wp2_with fail
      go_ret
      exact ⟨rfl, (by repeat (first | (with_reducible exact Below.refl _ _) | ((with_reducible refine Below.alloc ?_ ?_ _); rotate_left; (next => ((try dsimp only); (try simp only [World.size_alloc, World.size_setCell, World.size_drew]); omega))) | ((with_reducible refine Below.setCell ?_ ?_ _); rotate_left; (next => ((try dsimp only); (try simp only [World.size_alloc, World.size_setCell, World.size_drew]); omega))) | (with_reducible refine Below.drew ?_) | ((with_reducible refine Below.trans ?_ (Below.mono hb9 ?_)); rotate_left; (next => ((try dsimp only); (try simp only [World.size_alloc, World.size_setCell, World.size_drew]); omega))) | ((with_reducible refine Below.trans ?_ (Below.mono hb8 ?_)); rotate_left; (next => ((try dsimp only); (try simp only [World.size_alloc, World.size_setCell, World.size_drew]); omega))) | ((with_reducible refine Below.trans ?_ (Below.mono hb7 ?_)); rotate_left; (next => ((try dsimp only); (try simp only [World.size_alloc, World.size_setCell, World.size_drew]); omega))) | ((with_reducible refine Below.trans ?_ (Below.mono hb6 ?_)); rotate_left; (next => ((try dsimp only); (try simp only [World.size_alloc, World.size_setCell, World.size_drew]); omega))) | ((with_reducible refine Below.trans ?_ (Below.mono hb5 ?_)); rotate_left; (next => ((try dsimp only); (try simp only [World.size_alloc, World.size_setCell, World.size_drew]); omega))) | ((with_reducible refine Below.trans ?_ (Below.mono hb4 ?_)); rotate_left; (next => ((try dsimp only); (try simp only [World.size_alloc, World.size_setCell, World.size_drew]); omega))) | ((with_reducible refine Below.trans ?_ (Below.mono hb3 ?_)); rotate_left; (next => ((try dsimp only); (try simp only [World.size_alloc, World.size_setCell, World.size_drew]); omega))) | ((with_reducible refine Below.trans ?_ (Below.mono hb2 ?_)); rotate_left; (next => ((try dsimp only); (try simp only [World.size_alloc, World.size_setCell, World.size_drew]); omega))) | ((with_reducible refine Below.trans ?_ (Below.mono hb1 ?_)); rotate_left; (next => ((try dsimp only); (try simp only [World.size_alloc, World.size_setCell, World.size_drew]); omega)))))⟩
end Go.Proofs.Ytlnagfmaiabhaaa
