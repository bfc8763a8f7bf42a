
/-
  The walks of wide.Shl and root.Halvings.
-/
import Derived.Test.YtpomdnglknbanaaW2
import Derived.Deep.RegionWith
set_option linter.unusedSimpArgs false
set_option linter.unusedVariables false
namespace Go.Proofs.Ytpomdnglknbanaa
open Go.RowKit

theorem nz_of {b bh bl : Int} (hb : Wd b bh bl) (h : 0 < b) : ¬ bh = 0 ∨ bh = 0 ∧ ¬ bl = 0 := by
  obtain ⟨u, e1, e2⟩ := hb
  unfold hi at e1; unfold lo at e2; unfold U128 at u; omega

set_option maxHeartbeats 1000000 in
theorem halv_zero (a : Int) {ah al : Int} (ha : Wd a ah al) (w : World) :
    Calls Try.prog 103 #[.agg #[.int .u64 ah, .int .u64 al], .agg #[.int .u64 0, .int .u64 0]] w fun e w' =>
      e = .returned (.tuple #[.int .i64 0, .int .i64 6]) ∧ Below w.heap.size w w' := by
  clear ha
  go_enter Try.func103, Try.ntmps103
  go_wp2_with fail
  go_ret2
  exact ⟨rfl, (by repeat (first | (with_reducible exact Below.refl _ _) | ((with_reducible refine Below.alloc ?_ ?_ _); rotate_left; (next => ((try dsimp only); (try simp only [World.size_alloc, World.size_setCell, World.size_drew]); omega))) | ((with_reducible refine Below.setCell ?_ ?_ _); rotate_left; (next => ((try dsimp only); (try simp only [World.size_alloc, World.size_setCell, World.size_drew]); omega))) | (with_reducible refine Below.drew ?_) | (refine Below.trans ?_ (by assumption))))⟩

set_option maxHeartbeats 2000000 in
theorem halv_neg (a b k : Int) {ah al bh bl : Int} (ha : Wd a ah al) (hb : Wd b bh bl) (h : 0 < b) (hk : blen a - blen b = k) (kn : k < 0) (w : World) :
    Calls Try.prog 103 #[.agg #[.int .u64 ah, .int .u64 al], .agg #[.int .u64 bh, .int .u64 bl]] w fun e w' =>
      e = .returned (.tuple #[.int .i64 0, .int .i64 4]) ∧ Below w.heap.size w w' := by
  have nz := nz_of hb h
  have b1 := blen_bd ha.1
  have b2 := blen_bd hb.1
  have qa := alloc_cells
  have qf := alloc_frozens
  obtain ⟨L, e_L⟩ : ∃ z_, blen a = z_ := ⟨_, rfl⟩
  rw [e_L] at hk b1
  have HL := Lib.hid e_L
  clear e_L
  obtain ⟨M, e_M⟩ : ∃ z_, blen b = z_ := ⟨_, rfl⟩
  rw [e_M] at hk b2
  have HM := Lib.hid e_M
  clear e_M
  have hla : ∀ w', _ := fun w' => HL.out ▸ len_any a ha w'
  have hlb : ∀ w', _ := fun w' => HM.out ▸ len_any b hb w'
  have Hla := Lib.hid hla
  have Hlb := Lib.hid hlb
  have e1 : IntKind.i64.wrap (L - M) = L - M := IntWalk.i64_in _ (by omega)
  have kn' : L - M < 0 := by omega
  have kd : decide (0 ≤ L - M) = false := by simp; omega
  have kd' : decide (M ≤ L) = false := by simp; omega
  clear ha hb hla hlb hk kn
  rcases nz with nz | ⟨rfl, nz⟩
  all_goals
    go_enter Try.func103, Try.ntmps103
    go_wp2_with fail
    refine wp_region_quiet_all (Ext _) (by kernel_rfl) (by kernel_rfl) (Ext.drawn _) ?_
    repeat (first | go_big_quiet_skip | go_big_quiet_step (fail) | (refine BigFrame.wpQuiet_want rfl (fun K hK => ?_); apply Exists.intro; refine ⟨fun w2 h2 => ?_, ?_⟩; (next => (have g1 := Below.cells h2.below; have g2 := Below.frozens h2.below; (try simp only [World.size_alloc, World.size_setCell] at g1 g2); first | (go_simp; (first | (go_at_call_of 138 (Value.agg #[Value.int IntKind.u64 ah, Value.int IntKind.u64 al]); refine h2.calls (Hla.out _)) | (go_at_call 138; refine h2.calls (Hlb.out _)))) | (simp [go_sem, ↓IntWalk.iteOmega, *]; done) | (simp [go_sem, ↓IntWalk.iteOmega, *]; rfl)))); (go_simp; refine hK _ ?_; clear hK K))
    refine wpQuiet_nil ?_
    intro w1 h1
    have hb1 := h1.below
    clear h1
    have z1 := hb1.size
    have c1 := Below.cells hb1
    have f1 := Below.frozens hb1
    try simp only [World.size_alloc, World.size_setCell, World.size_drew] at z1 c1 f1
    go_wp2_with fail
    refine wp_region_quiet_all (Ext _) (by kernel_rfl) (by kernel_rfl) (Ext.drawn _) ?_
    repeat (first | go_big_quiet_skip | go_big_quiet_step (fail) | (refine BigFrame.wpQuiet_want rfl (fun K hK => ?_); apply Exists.intro; refine ⟨fun w2 h2 => ?_, ?_⟩; (next => (have g1 := Below.cells h2.below; have g2 := Below.frozens h2.below; (try simp only [World.size_alloc, World.size_setCell] at g1 g2); first | (go_simp; (fail)) | (simp [go_sem, ↓IntWalk.iteOmega, *]; done) | (simp [go_sem, ↓IntWalk.iteOmega, *]; rfl)))); (go_simp; refine hK _ ?_; clear hK K))
    refine wpQuiet_nil ?_
    intro w2 h2
    have hb2 := h2.below
    clear h2
    have z2 := hb2.size
    have c2 := Below.cells hb2
    have f2 := Below.frozens hb2
    try simp only [World.size_alloc, World.size_setCell, World.size_drew] at z2 c2 f2
    go_wp2_with fail
    go_ret2
    exact ⟨rfl, (by repeat (first | (with_reducible exact Below.refl _ _) | ((with_reducible refine Below.alloc ?_ ?_ _); rotate_left; (next => ((try dsimp only); (try simp only [World.size_alloc, World.size_setCell, World.size_drew]); omega))) | ((with_reducible refine Below.setCell ?_ ?_ _); rotate_left; (next => ((try dsimp only); (try simp only [World.size_alloc, World.size_setCell, World.size_drew]); omega))) | (with_reducible refine Below.drew ?_) | ((with_reducible refine Below.trans ?_ (Below.mono hb2 ?_)); rotate_left; (next => ((try dsimp only); (try simp only [World.size_alloc, World.size_setCell, World.size_drew]); omega))) | ((with_reducible refine Below.trans ?_ (Below.mono hb1 ?_)); rotate_left; (next => ((try dsimp only); (try simp only [World.size_alloc, World.size_setCell, World.size_drew]); omega)))))⟩

set_option maxHeartbeats 4000000 in
theorem halv_some (a b k x c r : Int) {ah al bh bl : Int} (ha : Wd a ah al) (hb : Wd b bh bl) (h : 0 < b) (hk : blen a - blen b = k) (kn : 0 ≤ k) (hx : b * 2 ^ k.toNat = x) (ux : U128 x)
    (k127 : k ≤ 127) (hc : (c = -1 ∧ x < a ∨ c = 0 ∧ x = a ∨ c = 1 ∧ a < x)) (hr : r = if c = 1 then k - 1 else k) (hr0 : 0 ≤ r) (w : World) :
    Calls Try.prog 103 #[.agg #[.int .u64 ah, .int .u64 al], .agg #[.int .u64 bh, .int .u64 bl]] w fun e w' =>
      e = .returned (.tuple #[.int .i64 r, .int .i64 0]) ∧ Below w.heap.size w w' := by
  have nz := nz_of hb h
  have b1 := blen_bd ha.1
  have b2 := blen_bd hb.1
  have qa := alloc_cells
  have qf := alloc_frozens
  have hcmp : ∀ w', Calls Try.prog 139 #[.agg #[.int .u64 (hi x), .int .u64 (lo x)], .agg #[.int .u64 ah, .int .u64 al]] w' fun e w'' => e = .returned (.int .i64 c) ∧ Below w'.heap.size w' w'' := by
    intro w'
    rcases hc with ⟨rfl, h1⟩ | ⟨rfl, h1⟩ | ⟨rfl, h1⟩
    · exact cmp_lt x a (Wd.mk ux) ha h1 w'
    · subst h1; exact cmp_eq x (Wd.mk ux) ha w'
    · exact cmp_gt x a (Wd.mk ux) ha h1 w'
  have hup : ∀ w', _ := fun w' => up_any b k hb w' kn k127
  rw [show up b k = x from by rw [up_fits (hx ▸ ux), hx]] at hup
  obtain ⟨L, e_L⟩ : ∃ z_, blen a = z_ := ⟨_, rfl⟩
  rw [e_L] at hk b1
  have HL := Lib.hid e_L
  clear e_L
  obtain ⟨M, e_M⟩ : ∃ z_, blen b = z_ := ⟨_, rfl⟩
  rw [e_M] at hk b2
  have HM := Lib.hid e_M
  clear e_M
  have hla : ∀ w', _ := fun w' => HL.out ▸ len_any a ha w'
  have hlb : ∀ w', _ := fun w' => HM.out ▸ len_any b hb w'
  have Hla := Lib.hid hla
  have Hlb := Lib.hid hlb
  have Hup := Lib.hid hup
  have Hcmp := Lib.hid hcmp
  have e1 : IntKind.i64.wrap (L - M) = k := by rw [IntWalk.i64_in _ (by omega)]; omega
  have e2 : IntKind.i64.wrap (k - 1) = k - 1 := IntWalk.i64_in _ (by omega)
  have e3 : L - M = k := hk
  have kd : decide (0 ≤ k) = true := by simp; omega
  have e0 : IntKind.i64.wrap k = k := IntWalk.i64_in _ (by omega)
  have kd1 : decide (0 ≤ L - M) = true := by simp; omega
  have kd2 : decide (M ≤ L) = true := by simp; omega
  have kd3 : M ≤ L := by omega
  clear ha hb hla hlb hk hup hcmp hx ux
  have hcc : c = 1 ∨ (c = -1 ∨ c = 0) := by omega
  rcases hcc with rfl | hcc
  · rw [if_pos rfl] at hr
    subst hr
    clear hc
    rcases nz with nz | ⟨rfl, nz⟩
    all_goals
      go_enter Try.func103, Try.ntmps103
      go_wp2_with fail
      refine wp_region_quiet_all (Ext _) (by kernel_rfl) (by kernel_rfl) (Ext.drawn _) ?_
      repeat (first | go_big_quiet_skip | go_big_quiet_step (fail) | (refine BigFrame.wpQuiet_want rfl (fun K hK => ?_); apply Exists.intro; refine ⟨fun w2 h2 => ?_, ?_⟩; (next => (have g1 := Below.cells h2.below; have g2 := Below.frozens h2.below; (try simp only [World.size_alloc, World.size_setCell] at g1 g2); first | (go_simp; (first | (go_at_call_of 138 (Value.agg #[Value.int IntKind.u64 ah, Value.int IntKind.u64 al]); refine h2.calls (Hla.out _)) | (go_at_call 138; refine h2.calls (Hlb.out _)))) | (simp [go_sem, ↓IntWalk.iteOmega, *]; done) | (simp [go_sem, ↓IntWalk.iteOmega, *]; rfl)))); (go_simp; refine hK _ ?_; clear hK K))
      refine wpQuiet_nil ?_
      intro w1 h1
      have hb1 := h1.below
      clear h1
      have z1 := hb1.size
      have c1 := Below.cells hb1
      have f1 := Below.frozens hb1
      try simp only [World.size_alloc, World.size_setCell, World.size_drew] at z1 c1 f1
      go_wp2_with fail
      refine wp_region_quiet_all (Ext _) (by kernel_rfl) (by kernel_rfl) (Ext.drawn _) ?_
      repeat (first | go_big_quiet_skip | go_big_quiet_step (fail) | (refine BigFrame.wpQuiet_want rfl (fun K hK => ?_); apply Exists.intro; refine ⟨fun w2 h2 => ?_, ?_⟩; (next => (have g1 := Below.cells h2.below; have g2 := Below.frozens h2.below; (try simp only [World.size_alloc, World.size_setCell] at g1 g2); first | (go_simp; (first | (go_at_call 140; refine h2.calls (Hup.out _)) | (go_at_call 139; refine h2.calls (Hcmp.out _)))) | (simp [go_sem, ↓IntWalk.iteOmega, *]; done) | (simp [go_sem, ↓IntWalk.iteOmega, *]; rfl)))); (go_simp; refine hK _ ?_; clear hK K))
      refine wpQuiet_nil ?_
      intro w2 h2
      have hb2 := h2.below
      clear h2
      have z2 := hb2.size
      have c2 := Below.cells hb2
      have f2 := Below.frozens hb2
      try simp only [World.size_alloc, World.size_setCell, World.size_drew] at z2 c2 f2
      go_wp2_with fail
      go_ret2
      exact ⟨rfl, (by repeat (first | (with_reducible exact Below.refl _ _) | ((with_reducible refine Below.alloc ?_ ?_ _); rotate_left; (next => ((try dsimp only); (try simp only [World.size_alloc, World.size_setCell, World.size_drew]); omega))) | ((with_reducible refine Below.setCell ?_ ?_ _); rotate_left; (next => ((try dsimp only); (try simp only [World.size_alloc, World.size_setCell, World.size_drew]); omega))) | (with_reducible refine Below.drew ?_) | ((with_reducible refine Below.trans ?_ (Below.mono hb2 ?_)); rotate_left; (next => ((try dsimp only); (try simp only [World.size_alloc, World.size_setCell, World.size_drew]); omega))) | ((with_reducible refine Below.trans ?_ (Below.mono hb1 ?_)); rotate_left; (next => ((try dsimp only); (try simp only [World.size_alloc, World.size_setCell, World.size_drew]); omega)))))⟩
  · rw [if_neg (by omega)] at hr
    subst hr
    clear hc
    rcases hcc with rfl | rfl
    all_goals
      rcases nz with nz | ⟨rfl, nz⟩
    all_goals
      go_enter Try.func103, Try.ntmps103
      go_wp2_with fail
      refine wp_region_quiet_all (Ext _) (by kernel_rfl) (by kernel_rfl) (Ext.drawn _) ?_
      repeat (first | go_big_quiet_skip | go_big_quiet_step (fail) | (refine BigFrame.wpQuiet_want rfl (fun K hK => ?_); apply Exists.intro; refine ⟨fun w2 h2 => ?_, ?_⟩; (next => (have g1 := Below.cells h2.below; have g2 := Below.frozens h2.below; (try simp only [World.size_alloc, World.size_setCell] at g1 g2); first | (go_simp; (first | (go_at_call_of 138 (Value.agg #[Value.int IntKind.u64 ah, Value.int IntKind.u64 al]); refine h2.calls (Hla.out _)) | (go_at_call 138; refine h2.calls (Hlb.out _)))) | (simp [go_sem, ↓IntWalk.iteOmega, *]; done) | (simp [go_sem, ↓IntWalk.iteOmega, *]; rfl)))); (go_simp; refine hK _ ?_; clear hK K))
      refine wpQuiet_nil ?_
      intro w1 h1
      have hb1 := h1.below
      clear h1
      have z1 := hb1.size
      have c1 := Below.cells hb1
      have f1 := Below.frozens hb1
      try simp only [World.size_alloc, World.size_setCell, World.size_drew] at z1 c1 f1
      go_wp2_with fail
      refine wp_region_quiet_all (Ext _) (by kernel_rfl) (by kernel_rfl) (Ext.drawn _) ?_
      repeat (first | go_big_quiet_skip | go_big_quiet_step (fail) | (refine BigFrame.wpQuiet_want rfl (fun K hK => ?_); apply Exists.intro; refine ⟨fun w2 h2 => ?_, ?_⟩; (next => (have g1 := Below.cells h2.below; have g2 := Below.frozens h2.below; (try simp only [World.size_alloc, World.size_setCell] at g1 g2); first | (go_simp; (first | (go_at_call 140; refine h2.calls (Hup.out _)) | (go_at_call 139; refine h2.calls (Hcmp.out _)))) | (simp [go_sem, ↓IntWalk.iteOmega, *]; done) | (simp [go_sem, ↓IntWalk.iteOmega, *]; rfl)))); (go_simp; refine hK _ ?_; clear hK K))
      refine wpQuiet_nil ?_
      intro w2 h2
      have hb2 := h2.below
      clear h2
      have z2 := hb2.size
      have c2 := Below.cells hb2
      have f2 := Below.frozens hb2
      try simp only [World.size_alloc, World.size_setCell, World.size_drew] at z2 c2 f2
      go_wp2_with fail
      go_ret2
      exact ⟨rfl, (by repeat (first | (with_reducible exact Below.refl _ _) | ((with_reducible refine Below.alloc ?_ ?_ _); rotate_left; (next => ((try dsimp only); (try simp only [World.size_alloc, World.size_setCell, World.size_drew]); omega))) | ((with_reducible refine Below.setCell ?_ ?_ _); rotate_left; (next => ((try dsimp only); (try simp only [World.size_alloc, World.size_setCell, World.size_drew]); omega))) | (with_reducible refine Below.drew ?_) | ((with_reducible refine Below.trans ?_ (Below.mono hb2 ?_)); rotate_left; (next => ((try dsimp only); (try simp only [World.size_alloc, World.size_setCell, World.size_drew]); omega))) | ((with_reducible refine Below.trans ?_ (Below.mono hb1 ?_)); rotate_left; (next => ((try dsimp only); (try simp only [World.size_alloc, World.size_setCell, World.size_drew]); omega)))))⟩

theorem cmp_var (a b c : Int) {ah al bh bl : Int} (ha : Wd a ah al) (hb : Wd b bh bl) (hc : c = -1 ∧ a < b ∨ c = 0 ∧ a = b ∨ c = 1 ∧ b < a) (w : World) :
    Calls Try.prog 139 #[.agg #[.int .u64 ah, .int .u64 al], .agg #[.int .u64 bh, .int .u64 bl]] w fun e w' =>
      e = .returned (.int .i64 c) ∧ Below w.heap.size w w' := by
  rcases hc with ⟨rfl, h1⟩ | ⟨rfl, h1⟩ | ⟨rfl, h1⟩
  · exact cmp_lt a b ha hb h1 w
  · subst h1; exact cmp_eq a ha hb w
  · exact cmp_gt a b ha hb h1 w

/-- The order as a number. -/
def cmpv (a b : Int) : Int := if a < b then -1 else if a = b then 0 else 1
theorem cmpv_spec (a b : Int) : cmpv a b = -1 ∧ a < b ∨ cmpv a b = 0 ∧ a = b ∨ cmpv a b = 1 ∧ b < a := by
  unfold cmpv; split
  · omega
  · split <;> omega

set_option maxHeartbeats 4000000 in
theorem halv_less (a b : Int) {ah al bh bl : Int} (ha : Wd a ah al) (hb : Wd b bh bl) (h : 0 < b) (hk : blen a - blen b = 0) (hc : a < b) (w : World) :
    Calls Try.prog 103 #[.agg #[.int .u64 ah, .int .u64 al], .agg #[.int .u64 bh, .int .u64 bl]] w fun e w' =>
      e = .returned (.tuple #[.int .i64 0, .int .i64 4]) ∧ Below w.heap.size w w' := by
  have nz := nz_of hb h
  have b1 := blen_bd ha.1
  have b2 := blen_bd hb.1
  have qa := alloc_cells
  have qf := alloc_frozens
  have hcmp : ∀ w', _ := fun w' => cmp_gt b a (Wd.mk hb.1) ha hc w'
  have hup : ∀ w', _ := fun w' => up_any b 0 hb w' (by omega) (by omega)
  rw [show up b 0 = b from by rw [up_fits (by simpa using hb.1)]; simp] at hup
  obtain ⟨L, e_L⟩ : ∃ z_, blen a = z_ := ⟨_, rfl⟩
  rw [e_L] at hk b1
  have HL := Lib.hid e_L
  clear e_L
  obtain ⟨M, e_M⟩ : ∃ z_, blen b = z_ := ⟨_, rfl⟩
  rw [e_M] at hk b2
  have HM := Lib.hid e_M
  clear e_M
  obtain rfl : L = M := by omega
  have hla : ∀ w', _ := fun w' => HL.out ▸ len_any a ha w'
  have hlb : ∀ w', _ := fun w' => HM.out ▸ len_any b hb w'
  have Hla := Lib.hid hla
  have Hlb := Lib.hid hlb
  have Hup := Lib.hid hup
  have Hcmp := Lib.hid hcmp
  have e1 : IntKind.i64.wrap (L - L) = 0 := by rw [IntWalk.i64_in _ (by omega)]; omega
  have e0 : IntKind.i64.wrap 0 = 0 := IntWalk.i64_in _ (by omega)
  have e3 : L - L = 0 := by omega
  clear ha hb hla hlb hk hup hcmp
  rcases nz with nz | ⟨rfl, nz⟩
  all_goals
    go_enter Try.func103, Try.ntmps103
    go_wp2_with fail
    refine wp_region_quiet_all (Ext _) (by kernel_rfl) (by kernel_rfl) (Ext.drawn _) ?_
    repeat (first | go_big_quiet_skip | go_big_quiet_step (fail) | (refine BigFrame.wpQuiet_want rfl (fun K hK => ?_); apply Exists.intro; refine ⟨fun w2 h2 => ?_, ?_⟩; (next => (have g1 := Below.cells h2.below; have g2 := Below.frozens h2.below; (try simp only [World.size_alloc, World.size_setCell] at g1 g2); first | (go_simp; (first | (go_at_call_of 138 (Value.agg #[Value.int IntKind.u64 ah, Value.int IntKind.u64 al]); refine h2.calls (Hla.out _)) | (go_at_call 138; refine h2.calls (Hlb.out _)))) | (simp [go_sem, ↓IntWalk.iteOmega, *]; done) | (simp [go_sem, ↓IntWalk.iteOmega, *]; rfl)))); (go_simp; refine hK _ ?_; clear hK K))
    refine wpQuiet_nil ?_
    intro w1 h1
    have hb1 := h1.below
    clear h1
    have z1 := hb1.size
    have c1 := Below.cells hb1
    have f1 := Below.frozens hb1
    try simp only [World.size_alloc, World.size_setCell, World.size_drew] at z1 c1 f1
    go_wp2_with fail
    refine wp_region_quiet_all (Ext _) (by kernel_rfl) (by kernel_rfl) (Ext.drawn _) ?_
    repeat (first | go_big_quiet_skip | go_big_quiet_step (fail) | (refine BigFrame.wpQuiet_want rfl (fun K hK => ?_); apply Exists.intro; refine ⟨fun w2 h2 => ?_, ?_⟩; (next => (have g1 := Below.cells h2.below; have g2 := Below.frozens h2.below; (try simp only [World.size_alloc, World.size_setCell] at g1 g2); first | (go_simp; (first | (go_at_call 140; refine h2.calls (Hup.out _)) | (go_at_call 139; refine h2.calls (Hcmp.out _)))) | (simp [go_sem, ↓IntWalk.iteOmega, *]; done) | (simp [go_sem, ↓IntWalk.iteOmega, *]; rfl)))); (go_simp; refine hK _ ?_; clear hK K))
    refine wpQuiet_nil ?_
    intro w2 h2
    have hb2 := h2.below
    clear h2
    have z2 := hb2.size
    have c2 := Below.cells hb2
    have f2 := Below.frozens hb2
    try simp only [World.size_alloc, World.size_setCell, World.size_drew] at z2 c2 f2
    go_wp2_with fail
    go_ret2
    exact ⟨rfl, (by repeat (first | (with_reducible exact Below.refl _ _) | ((with_reducible refine Below.alloc ?_ ?_ _); rotate_left; (next => ((try dsimp only); (try simp only [World.size_alloc, World.size_setCell, World.size_drew]); omega))) | ((with_reducible refine Below.setCell ?_ ?_ _); rotate_left; (next => ((try dsimp only); (try simp only [World.size_alloc, World.size_setCell, World.size_drew]); omega))) | (with_reducible refine Below.drew ?_) | ((with_reducible refine Below.trans ?_ (Below.mono hb2 ?_)); rotate_left; (next => ((try dsimp only); (try simp only [World.size_alloc, World.size_setCell, World.size_drew]); omega))) | ((with_reducible refine Below.trans ?_ (Below.mono hb1 ?_)); rotate_left; (next => ((try dsimp only); (try simp only [World.size_alloc, World.size_setCell, World.size_drew]); omega)))))⟩

/-- How often b can be doubled below a. -/
theorem halv_ok (a b k : Int) {ah al bh bl : Int} (ha : Wd a ah al) (hb : Wd b bh bl) (h : 0 < b) (k0 : 0 ≤ k) (h1 : b * 2 ^ k.toNat ≤ a) (h2 : a < b * 2 ^ (k + 1).toNat) (w : World) :
    Calls Try.prog 103 #[.agg #[.int .u64 ah, .int .u64 al], .agg #[.int .u64 bh, .int .u64 bl]] w fun e w' =>
      e = .returned (.tuple #[.int .i64 k, .int .i64 0]) ∧ Below w.heap.size w w' := by
  obtain ⟨m, rfl⟩ := Int.eq_ofNat_of_zero_le k0
  rw [show ((m : Int)).toNat = m from rfl] at h1
  rw [show ((m : Int) + 1).toNat = m + 1 from by omega] at h2
  have pm := p2 m
  have apos : 0 < a := by
    have : 0 < b * 2 ^ m := Int.mul_pos h pm
    omega
  obtain ⟨i, ei, li, ui⟩ := blen_pos ha.1 apos
  obtain ⟨j, ej, lj, uj⟩ := blen_pos hb.1 h
  -- the bits of b · 2^d
  have sh : ∀ d : Nat, (2 : Int) ^ (j + d) ≤ b * 2 ^ d ∧ b * 2 ^ d < 2 ^ (j + d + 1) := fun d => by
    have pd := p2 d
    refine ⟨by rw [Int.pow_add]; exact Int.mul_le_mul_of_nonneg_right lj (by omega), ?_⟩
    rw [show j + d + 1 = (j + 1) + d from by omega, Int.pow_add]; exact Int.mul_lt_mul_of_pos_right uj pd
  have lo1 : j + m ≤ i := by
    rcases Nat.lt_or_ge i (j + m) with c | c
    · exfalso
      have q := pow_lt_pow c
      rw [Int.pow_succ] at ui
      have := (sh m).1
      omega
    · exact c
  have up1 : i ≤ j + m + 1 := by
    rcases Nat.lt_or_ge (j + m + 1) i with c | c
    · exfalso
      have q := pow_lt_pow c
      have s1 := (sh (m + 1)).2
      rw [show j + (m + 1) + 1 = (j + m + 1) + 1 from by omega, Int.pow_succ 2 (j + m + 1)] at s1
      omega
    · exact c
  have b128 := blen_bd ha.1
  have fit : ∀ d : Nat, j + d ≤ i → U128 (b * 2 ^ d) := fun d hd => by
    have := (shift_fits hb.1 h (n := d) (by omega)).2 (by rw [ej]; omega)
    simpa using this
  rcases Nat.lt_or_ge (j + m) i with c | c
  · -- one too many at first
    have ei' : i = j + (m + 1) := by omega
    refine halv_some a b (m + 1 : Nat) (b * 2 ^ (m + 1)) 1 m ha hb h (by rw [ei, ej]; omega) (by omega) (by simp) (fit _ (by omega)) (by omega) (.inr (.inr ⟨rfl, h2⟩)) (by rw [if_pos rfl]; omega) (by omega) w
  · have ei' : i = j + m := by omega
    by_cases e : b * 2 ^ m = a
    · exact halv_some a b m (b * 2 ^ m) 0 m ha hb h (by rw [ei, ej]; omega) (by omega) (by simp) (fit _ (by omega)) (by omega) (.inr (.inl ⟨rfl, e⟩)) (by rw [if_neg (by omega)]) (by omega) w
    · exact halv_some a b m (b * 2 ^ m) (-1) m ha hb h (by rw [ei, ej]; omega) (by omega) (by simp) (fit _ (by omega)) (by omega) (.inl ⟨rfl, by omega⟩) (by rw [if_neg (by omega)]) (by omega) w

/-- What Halvings comes to. -/
def HalvR (a b k e : Int) : Prop :=
  (b = 0 ∧ k = 0 ∧ e = 6) ∨ (0 < b ∧ a < b ∧ k = 0 ∧ e = 4) ∨ (0 < b ∧ 0 ≤ k ∧ k ≤ 127 ∧ b * 2 ^ k.toNat ≤ a ∧ a < b * 2 ^ (k + 1).toNat ∧ e = 0)
theorem halvR_ex {a b : Int} (ha : U128 a) (hb : U128 b) : ∃ k e, HalvR a b k e := by
  by_cases c : 0 < b
  · by_cases d : a < b
    · exact ⟨0, 4, .inr (.inl ⟨c, d, rfl, rfl⟩)⟩
    · -- the greatest k
      have key : ∀ n : Nat, a < b * 2 ^ n → ∃ k : Nat, k < n ∧ b * 2 ^ k ≤ a ∧ a < b * 2 ^ (k + 1) := by
        intro n
        induction n with
        | zero => intro h; simp at h; omega
        | succ n ih =>
          intro h
          by_cases h' : a < b * 2 ^ n
          · obtain ⟨k, h1, h2⟩ := ih h'
            exact ⟨k, by omega, h2⟩
          · exact ⟨n, by omega, by omega, h⟩
      obtain ⟨k, h1, h2, h3⟩ := key 128 (by
        have : (1 : Int) * 2 ^ 128 ≤ b * 2 ^ 128 := Int.mul_le_mul_of_nonneg_right (by omega) (by have := p2 128; omega)
        have p128 : (2 : Int) ^ 128 = 340282366920938463463374607431768211456 := rfl
        unfold U128 at ha; omega)
      refine ⟨k, 0, .inr (.inr ⟨c, by omega, by omega, by simpa using h2, ?_, rfl⟩)⟩
      rw [show ((k : Int) + 1).toNat = k + 1 from by omega]; exact h3
  · exact ⟨0, 6, .inl ⟨by have := hb.1; omega, rfl, rfl⟩⟩
theorem halv_any (a b k e : Int) {ah al bh bl : Int} (ha : Wd a ah al) (hb : Wd b bh bl) (h : HalvR a b k e) (w : World) :
    Calls Try.prog 103 #[.agg #[.int .u64 ah, .int .u64 al], .agg #[.int .u64 bh, .int .u64 bl]] w fun e' w' =>
      e' = .returned (.tuple #[.int .i64 k, .int .i64 e]) ∧ Below w.heap.size w w' := by
  rcases h with ⟨rfl, rfl, rfl⟩ | ⟨h1, h2, rfl, rfl⟩ | ⟨h1, h2, h3, h4, h5, rfl⟩
  · obtain ⟨u, rfl, rfl⟩ := hb
    exact halv_zero a ha w
  · by_cases c : blen a - blen b < 0
    · exact halv_neg a b _ ha hb h1 rfl c w
    · refine halv_less a b ha hb h1 ?_ h2 w
      by_cases d : 0 < a
      · obtain ⟨i, ei, li, ui⟩ := blen_pos ha.1 d
        obtain ⟨j, ej, lj, uj⟩ := blen_pos hb.1 h1
        rcases Nat.lt_or_ge j i with q | q
        · have := pow_lt_pow q
          rw [Int.pow_succ] at uj
          omega
        · omega
      · have : a = 0 := by have := ha.1.1; omega
        obtain ⟨j, ej, lj, uj⟩ := blen_pos hb.1 h1
        rw [this, blen_zero, ej] at c
        omega
  · exact halv_ok a b k ha hb h1 h2 h4 h5 w
end Go.Proofs.Ytpomdnglknbanaa
