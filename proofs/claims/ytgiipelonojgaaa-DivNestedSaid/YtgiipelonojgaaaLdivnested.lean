import Derived.Test.YtgiipelonojgaaaDiv
import Derived.Test.YtgiipelonojgaaaW3
import Derived.Test.YtgiipelonojgaaaFl
set_option linter.unusedSimpArgs false
set_option linter.unusedVariables false
namespace Go.Proofs.Ytgiipelonojgaaa
open Go.RowKit

/-- Of a sum what comes out is what comes of both, or one more. -/
theorem div_sum {a b c u v x : Int} (hc : 0 < c) (hu : a / c = u) (hv : b / c = v) (hx : (a + b) / c = x) : x - (u + v) = 0 ∨ x - (u + v) = 1 := by
  have d1 := Int.emod_add_mul_ediv a c
  have d2 := Int.emod_add_mul_ediv b c
  have d3 := Int.emod_add_mul_ediv (a + b) c
  have a1 := Int.emod_nonneg a (show c ≠ 0 by omega)
  have a2 := Int.emod_lt_of_pos a hc
  have b1 := Int.emod_nonneg b (show c ≠ 0 by omega)
  have b2 := Int.emod_lt_of_pos b hc
  have c1 := Int.emod_nonneg (a + b) (show c ≠ 0 by omega)
  have c2 := Int.emod_lt_of_pos (a + b) hc
  rw [hu] at d1
  rw [hv] at d2
  rw [hx] at d3
  obtain ⟨k, hk⟩ : ∃ k, x - (u + v) = k := ⟨_, rfl⟩
  obtain rfl : x = u + v + k := by omega
  have e : c * (u + v + k) = c * u + c * v + c * k := by rw [Int.mul_add, Int.mul_add]
  rw [e] at d3
  rw [hk]
  rcases Int.lt_or_le k 0 with q | q
  · have := Int.mul_le_mul_of_nonneg_left (show k ≤ -1 by omega) (show 0 ≤ c by omega)
    omega
  · rcases Int.lt_or_le 1 k with q2 | q2
    · have := Int.mul_le_mul_of_nonneg_left (show 2 ≤ k by omega) (show 0 ≤ c by omega)
      omega
    · omega

set_option maxRecDepth 100000 in
set_option maxHeartbeats 16000000 in
theorem divNested_walk (a b c : Int) (w : World) (ha : U128 a) (hb : U128 b) (hc : U128 c) :
    Calls Try.prog 10 #[.agg #[.int .u64 (hi a), .int .u64 (lo a)], .agg #[.int .u64 (hi b), .int .u64 (lo b)], .agg #[.int .u64 (hi c), .int .u64 (lo c)]] w fun e w' =>
      e = .returned (.bool true) ∧ Below w.heap.size w w' := by
  have N100 := Lib.hid (fun w => num_any 100 w (by omega) (by omega))
  have N7 := Lib.hid (fun w => num_any 7 w (by omega) (by omega))
  have N14 := Lib.hid (fun w => num_any 14 w (by omega) (by omega))
  have N1 := Lib.hid (fun w => num_any 1 w (by omega) (by omega))
  have hd0 : ∀ w, Calls Try.prog 54 #[.agg #[.int .u64 0, .int .u64 100], .agg #[.int .u64 0, .int .u64 7]] w fun e w' => e = .returned (.tuple #[.agg #[.int .u64 0, .int .u64 14], .agg #[.int .u64 0, .int .u64 2], .int .i64 0]) ∧ Below w.heap.size w w' :=
    fun w => div_ok 100 7 14 2 (Wd.lit (by unfold U64; omega)) (Wd.lit (by unfold U64; omega)) (by omega) (by omega) (by omega) w
  have D0 := Lib.hid hd0
  have ha' := Wd.mk ha
  obtain ⟨X, hX⟩ : ∃ z, lo b / 4 = z := ⟨_, rfl⟩
  obtain ⟨Y, hY⟩ : ∃ z, lo c / 4 = z := ⟨_, rfl⟩
  have qX : 0 ≤ X ∧ X < 4611686018427387904 := by have := hb.lo; unfold U64 at this; omega
  have qY : 0 ≤ Y ∧ Y < 4611686018427387904 := by have := hc.lo; unfold U64 at this; omega
  have eX : IntKind.u64.wrap (X + 1) = X + 1 := IntWalk.u64_in _ (by omega)
  have eY : IntKind.u64.wrap (Y + 1) = Y + 1 := IntWalk.u64_in _ (by omega)
  obtain ⟨B, hB⟩ : ∃ z, X + 1 = z := ⟨_, rfl⟩
  obtain ⟨C, hC⟩ : ∃ z, Y + 1 = z := ⟨_, rfl⟩
  have bB : 1 ≤ B ∧ B ≤ 4611686018427387904 := by omega
  have bC : 1 ≤ C ∧ C ≤ 4611686018427387904 := by omega
  have uB : U64 B := by unfold U64; omega
  have uC : U64 C := by unfold U64; omega
  obtain ⟨P, hP⟩ : ∃ z, B * C = z := ⟨_, rfl⟩
  have p1 : 1 * 1 ≤ B * C := Int.mul_le_mul bB.1 bC.1 (by omega) (by omega)
  have p2 : B * C ≤ 4611686018427387904 * 4611686018427387904 := Int.mul_le_mul bB.2 bC.2 (by omega) (by omega)
  rw [hP] at p1 p2
  have uP : U128 P := by unfold U128; omega
  -- the five quotients
  obtain ⟨x, hx⟩ : ∃ z, a / B = z := ⟨_, rfl⟩
  obtain ⟨y, hy⟩ : ∃ z, x / C = z := ⟨_, rfl⟩
  have hz : a / P = y := by rw [← hP, ← hy, ← hx]; exact (Int.ediv_ediv_of_nonneg (by omega)).symm
  have du : ∀ {s t : Int}, U128 s → 1 ≤ t → U128 (s / t) := fun {s t} h h1 => by
    have := Int.ediv_le_self t h.1
    have := Int.ediv_nonneg h.1 (show 0 ≤ t by omega)
    unfold U128 at *; omega
  have ux : U128 x := by rw [← hx]; exact du ha bB.1
  have l1 := half_lt ha
  have l2 := half_lt uP
  have m1 := half_u128 ha
  have m2 := half_u128 uP
  have us : U128 (half a + half P) := by unfold U128; omega
  obtain ⟨u, hu⟩ : ∃ z, half a / C = z := ⟨_, rfl⟩
  obtain ⟨v, hv⟩ : ∃ z, half P / C = z := ⟨_, rfl⟩
  obtain ⟨q, hq⟩ : ∃ z, (half a + half P) / C = z := ⟨_, rfl⟩
  have uu : U128 u := by rw [← hu]; exact du m1 bC.1
  have uv : U128 v := by rw [← hv]; exact du m2 bC.1
  have uq : U128 q := by rw [← hq]; exact du us bC.1
  have dd := div_sum (by omega) hu hv hq
  have ut : U128 (u + v) := by unfold U128 at *; omega
  obtain ⟨d, hd⟩ : ∃ z, q - (u + v) = z := ⟨_, rfl⟩
  rw [hd] at dd
  have ud : U128 d := by unfold U128; omega
  have kb := Wd.lit uB
  have kc := Wd.lit uC
  have h1 : ∀ w, _ := fun w => div_ok a B x _ ha' kb (by omega) hx rfl w
  have h2 : ∀ w, _ := fun w => div_ok x C y _ (Wd.mk ux) kc (by omega) hy rfl w
  have h3 : ∀ w, _ := fun w => times_ok B C P kb kc hP uP w
  have h4 : ∀ w, _ := fun w => div_ok a P y _ ha' (Wd.mk uP) (by omega) hz rfl w
  have h5 : ∀ w, _ := fun w => half_any a ha' w
  have h6 : ∀ w, _ := fun w => half_any P (Wd.mk uP) w
  have h7 : ∀ w, _ := fun w => add_ok (half a) (half P) _ (Wd.mk m1) (Wd.mk m2) rfl us w
  have h8 : ∀ w, _ := fun w => div_ok (half a) C u _ (Wd.mk m1) kc (by omega) hu rfl w
  have h9 : ∀ w, _ := fun w => div_ok (half P) C v _ (Wd.mk m2) kc (by omega) hv rfl w
  have h10 : ∀ w, _ := fun w => div_ok (half a + half P) C q _ (Wd.mk us) kc (by omega) hq rfl w
  have h11 : ∀ w, _ := fun w => add_ok u v _ (Wd.mk uu) (Wd.mk uv) rfl ut w
  have h12 : ∀ w, _ := fun w => sub_ok q (u + v) d (Wd.mk uq) (Wd.mk ut) hd ud w
  obtain ⟨ra, e1⟩ : ∃ z, half a = z := ⟨_, rfl⟩
  obtain ⟨rp, e2⟩ : ∃ z, half P = z := ⟨_, rfl⟩
  rw [e1] at h5 h7 h8 h10
  rw [e2] at h6 h7 h9 h10
  have K1 := Lib.hid h1
  have K2 := Lib.hid h2
  have K3 := Lib.hid h3
  have K4 := Lib.hid h4
  have K5 := Lib.hid h5
  have K6 := Lib.hid h6
  have K7 := Lib.hid h7
  have K8 := Lib.hid h8
  have K9 := Lib.hid h9
  have K10 := Lib.hid h10
  have K11 := Lib.hid h11
  have K12 := Lib.hid h12
  have hd : (hi d = 0 ∧ lo d = 0) ∨ (hi d = 0 ∧ lo d = 1) := by
    rcases dd with h | h <;> rw [h] <;> decide
  obtain ⟨dh, e3⟩ : ∃ z, hi d = z := ⟨_, rfl⟩
  obtain ⟨dl, e4⟩ : ∃ z, lo d = z := ⟨_, rfl⟩
  rw [e3, e4] at K12 hd
  have EB := Lib.hid (IntWalk.u64_in B (by omega))
  have EC := Lib.hid (IntWalk.u64_in C (by omega))
  have HX := Lib.hid hX
  have HY := Lib.hid hY
  have HB := Lib.hid hB
  have HC := Lib.hid hC
  have qa := alloc_cells
  have qf := alloc_frozens
  clear h1 h2 h3 h4 h5 h6 h7 h8 h9 h10 h11 h12 hd0 dd ud ut uq uv uu us m1 m2 l1 l2 ux hz hy hx uP p1 p2 hP kb kc uB uC bB bC hB hC qX qY hX hY ha hb hc ha' e1 e2 e3 e4 hu hv hq du
  rcases hd with ⟨rfl, rfl⟩ | ⟨rfl, rfl⟩
  · go_enter Try.func10, Try.ntmps10
    go_wp2_with fail
    refine (N100.out _).mono ?_
    rintro e w1 ⟨rfl, hb1⟩
    have z1 := hb1.size
    have c1 := Below.cells hb1
    have f1 := Below.frozens hb1
    try simp only [World.size_alloc, World.size_setCell, World.size_drew] at z1 c1 f1
    go_wp2_with fail
    refine (N7.out _).mono ?_
    rintro e w2 ⟨rfl, hb2⟩
    have z2 := hb2.size
    have c2 := Below.cells hb2
    have f2 := Below.frozens hb2
    try simp only [World.size_alloc, World.size_setCell, World.size_drew] at z2 c2 f2
    go_wp2_with fail
    refine (D0.out _).mono ?_
    rintro e w3 ⟨rfl, hb3⟩
    have z3 := hb3.size
    have c3 := Below.cells hb3
    have f3 := Below.frozens hb3
    try simp only [World.size_alloc, World.size_setCell, World.size_drew] at z3 c3 f3
    go_wp2_with fail
    refine wp_region_quiet_all (Ext _) (by kernel_rfl) (by kernel_rfl) (Ext.drawn _) ?_
    repeat (first | go_big_quiet_skip | go_big_quiet_step (fail) | (refine BigFrame.wpQuiet_want rfl (fun K hK => ?_); apply Exists.intro; refine ⟨fun w2 h2 => ?_, ?_⟩; (next => (have g1 := Below.cells h2.below; have g2 := Below.frozens h2.below; (try simp only [World.size_alloc, World.size_setCell] at g1 g2); first | (go_simp; (go_at_call 49; refine h2.calls (N14.out _))) | (simp [go_sem, ↓IntWalk.iteOmega, *]; done) | (simp [go_sem, ↓IntWalk.iteOmega, *]; rfl)))); (go_simp; refine hK _ ?_; clear hK K))
    refine wpQuiet_nil ?_
    intro w4 h4
    have hb4 := h4.below
    clear h4
    have z4 := hb4.size
    have c4 := Below.cells hb4
    have f4 := Below.frozens hb4
    try simp only [World.size_alloc, World.size_setCell, World.size_drew] at z4 c4 f4
    go_wp2_with fail
    have gc0 : w4.cell? ⟨w.heap.size, 0, none⟩ = some (.int .u64 (hi a)) := by simp [go_sem, ↓IntWalk.iteOmega, *]
    have gc1 : w4.cell? ⟨w.heap.size, 1, none⟩ = some (.int .u64 (lo a)) := by simp [go_sem, ↓IntWalk.iteOmega, *]
    have gc2 : w4.cell? ⟨w.heap.size + 1, 0, none⟩ = some (.int .u64 (hi b)) := by simp [go_sem, ↓IntWalk.iteOmega, *]
    have gc3 : w4.cell? ⟨w.heap.size + 1, 1, none⟩ = some (.int .u64 (lo b)) := by simp [go_sem, ↓IntWalk.iteOmega, *]
    have gc4 : w4.cell? ⟨w.heap.size + 1 + 1, 0, none⟩ = some (.int .u64 (hi c)) := by simp [go_sem, ↓IntWalk.iteOmega, *]
    have gc5 : w4.cell? ⟨w.heap.size + 1 + 1, 1, none⟩ = some (.int .u64 (lo c)) := by simp [go_sem, ↓IntWalk.iteOmega, *]
    have gf0 : w4.frozen? ⟨w.heap.size, 0, none⟩ = false := by first | (simp [go_sem, ↓IntWalk.iteOmega, *]; done) | (simp [go_sem, ↓IntWalk.iteOmega, *]; intros; omega)
    have gf1 : w4.frozen? ⟨w.heap.size, 1, none⟩ = false := by first | (simp [go_sem, ↓IntWalk.iteOmega, *]; done) | (simp [go_sem, ↓IntWalk.iteOmega, *]; intros; omega)
    have gf2 : w4.frozen? ⟨w.heap.size + 1, 0, none⟩ = false := by first | (simp [go_sem, ↓IntWalk.iteOmega, *]; done) | (simp [go_sem, ↓IntWalk.iteOmega, *]; intros; omega)
    have gf3 : w4.frozen? ⟨w.heap.size + 1, 1, none⟩ = false := by first | (simp [go_sem, ↓IntWalk.iteOmega, *]; done) | (simp [go_sem, ↓IntWalk.iteOmega, *]; intros; omega)
    have gf4 : w4.frozen? ⟨w.heap.size + 1 + 1, 0, none⟩ = false := by first | (simp [go_sem, ↓IntWalk.iteOmega, *]; done) | (simp [go_sem, ↓IntWalk.iteOmega, *]; intros; omega)
    have gf5 : w4.frozen? ⟨w.heap.size + 1 + 1, 1, none⟩ = false := by first | (simp [go_sem, ↓IntWalk.iteOmega, *]; done) | (simp [go_sem, ↓IntWalk.iteOmega, *]; intros; omega)
    clear c1 c2 c3 c4 f1 f2 f3 f4
    have hX := HX.out
    have hY := HY.out
    have hB := HB.out
    have hC := HC.out
    have eB : IntKind.u64.wrap B = B := EB.out
    have eC : IntKind.u64.wrap C = C := EC.out
    go_region
    all_goals go_wp2_with fail
    refine (K1.out _).mono ?_
    rintro e w5 ⟨rfl, hb5⟩
    have z5 := hb5.size
    have c5 := Below.cells hb5
    have f5 := Below.frozens hb5
    try simp only [World.size_alloc, World.size_setCell, World.size_drew] at z5 c5 f5
    go_wp2_with fail
    refine (K2.out _).mono ?_
    rintro e w6 ⟨rfl, hb6⟩
    have z6 := hb6.size
    have c6 := Below.cells hb6
    have f6 := Below.frozens hb6
    try simp only [World.size_alloc, World.size_setCell, World.size_drew] at z6 c6 f6
    go_wp2_with fail
    refine (K3.out _).mono ?_
    rintro e w7 ⟨rfl, hb7⟩
    have z7 := hb7.size
    have c7 := Below.cells hb7
    have f7 := Below.frozens hb7
    try simp only [World.size_alloc, World.size_setCell, World.size_drew] at z7 c7 f7
    go_wp2_with fail
    refine (K4.out _).mono ?_
    rintro e w8 ⟨rfl, hb8⟩
    have z8 := hb8.size
    have c8 := Below.cells hb8
    have f8 := Below.frozens hb8
    try simp only [World.size_alloc, World.size_setCell, World.size_drew] at z8 c8 f8
    go_wp2_with fail
    refine wp_region_flow true (fun k => ([[], [], [], [], [], [], [], [], [8], [8]] : List (List Nat)).getD k []) (by kernel_rfl) (by kernel_rfl) ?_
    repeat (first | (refine flow_skip (fun _ => rfl) ?_; (try simp only [Act.put, List.setIfInBounds_toArray, List.set_cons_zero, List.set_cons_succ])) | (refine flow_mild (fun _ => rfl) (fun K hK => ?_); apply Exists.intro; refine ⟨fun B w2 h2 => ?_, ?_, ?_, ?_⟩; (next => (have h2' := Below.undrew h2.below; have g1 := Below.cells h2'; have g2 := Below.frozens h2'; (try simp only [World.size_alloc, World.size_setCell] at g1 g2); (try (obtain ⟨ql8, qc8, qf8, qh8, qz8⟩ := StF.cellsB h2 8 rfl rfl; (try simp only [World.size_alloc, World.size_setCell, World.size_drew] at ql8))); clear h2 h2'; unfold mildAt; first | (go_simp; simp only [mildUpon, true_and]; first | with_reducible exact K5.out _ | with_reducible exact K6.out _ | with_reducible exact K7.out _) | (simp [mildUpon, go_sem, ↓IntWalk.iteOmega, *]; done) | (simp [mildUpon, go_sem, ↓IntWalk.iteOmega, *]; (try go_ints); rfl))); (next => (first | (exact fun _ _ _ => rfl) | (intro B1 B2 hB; (try dsimp only); simp [hB]; done))); (next => (first | (intro k' hk'; cases hk'; done) | (intro k' hk'; simp at hk'; (try subst hk'); (try simp [Ress.put]); done) | (intro k' hk'; simp at hk'; (try rcases hk' with rfl | rfl); all_goals (simp [Ress.put])))); (go_simp; refine hK _ ?_; clear hK K)) | (refine flow_ptr (fun _ => rfl) (fun K hK => ?_); apply Exists.intro; apply Exists.intro; refine ⟨fun B w2 h2 => ?_, ?_, ?_, ?_⟩; (next => (have h2' := Below.undrew h2.below; have g1 := Below.cells h2'; have g2 := Below.frozens h2'; (try simp only [World.size_alloc, World.size_setCell] at g1 g2); (try (obtain ⟨ql8, qc8, qf8, qh8, qz8⟩ := StF.cellsB h2 8 rfl rfl; (try simp only [World.size_alloc, World.size_setCell, World.size_drew] at ql8))); clear h2 h2'; simp [go_sem, ptrOf, ↓IntWalk.iteOmega, *]; first | exact ⟨rfl, rfl⟩ | rfl)); (next => simp); (next => first | rfl | simp [Ress.put]); ((try simp only [Ress.put_def]); go_simp; refine hK _ _ ?_; clear hK K)) | (refine flow_slice (fun _ => rfl) (fun K hK => ?_); apply Exists.intro; apply Exists.intro; apply Exists.intro; refine ⟨fun B w2 h2 => ?_, ?_, ?_, ?_⟩; (next => (have h2' := Below.undrew h2.below; have g1 := Below.cells h2'; have g2 := Below.frozens h2'; (try simp only [World.size_alloc, World.size_setCell] at g1 g2); (try (obtain ⟨ql8, qc8, qf8, qh8, qz8⟩ := StF.cellsB h2 8 rfl rfl; (try simp only [World.size_alloc, World.size_setCell, World.size_drew] at ql8))); clear h2 h2'; simp [go_sem, ↓IntWalk.iteOmega, *]; first | exact ⟨rfl, rfl⟩ | rfl)); (next => simp); (next => first | rfl | simp [Ress.put]); ((try simp only [Ress.put_def]); go_simp; refine hK _ _ ?_; clear hK K)) | (refine flow_store2 8 0 (fun _ => rfl) rfl ?_ ?_ (fun K hK => ?_); (next => (simp; done)); (next => (first | (intro k' hk'; simp at hk'; (try subst hk'); simp [Ress.put]; done))); (repeat (apply Exists.intro)); (refine ⟨?_, fun B w2 h2 => ?_, ?_, ?_, ?_⟩); (next => first | rfl | (simp [Ress.put]; done)); (next => (have h2' := Below.undrew h2.below; have g1 := Below.cells h2'; have g2 := Below.frozens h2'; (try simp only [World.size_alloc, World.size_setCell] at g1 g2); (try (obtain ⟨ql8, qc8, qf8, qh8, qz8⟩ := StF.cellsB h2 8 rfl rfl; (try simp only [World.size_alloc, World.size_setCell, World.size_drew] at ql8))); clear h2 h2'; first | (simp [go_sem, ↓IntWalk.iteOmega, *]; done) | (simp [go_sem, ↓IntWalk.iteOmega, *]; rfl))); (next => (first | (exact fun _ _ _ => rfl) | (intro B1 B2 hB; (try dsimp only); simp [hB]; done))); (next => (first | (exact fun _ _ _ => rfl) | (intro B1 B2 hB; (try dsimp only); simp [hB]; done))); ((try simp only [Ress.put_def]); go_simp; refine hK _ _ ?_; clear hK K)))
    refine flow_nil ?_
    intro B w9 h9
    dsimp only
    have hb9 := Below.undrew h9.below
    obtain ⟨lo9_8, up9_8, e9_8, fz9_8⟩ := StA.cells h9 8 rfl
    try dsimp only at e9_8
    generalize (B 8).1 = b9_8 at *
    have eh9_8 := e9_8
    have fh9_8 := fz9_8
    change ∀ o, hcell _ _ o = _ at eh9_8
    change ∀ o, hfroz _ _ o = _ at fh9_8
    clear h9
    clear B
    try simp only [World.size_alloc, World.size_setCell, World.size_drew] at lo9_8
    have z9 := hb9.size
    have c9 := Below.cells hb9
    have f9 := Below.frozens hb9
    try simp only [World.size_alloc, World.size_setCell, World.size_drew] at z9 c9 f9
    go_wp2_with fail
    refine wp_region_flow true (fun k => ([[], [], [], [], [], [], [], [], [8], [9], [8], [9]] : List (List Nat)).getD k []) (by kernel_rfl) (by kernel_rfl) ?_
    repeat (first | (refine flow_skip (fun _ => rfl) ?_; (try simp only [Act.put, List.setIfInBounds_toArray, List.set_cons_zero, List.set_cons_succ])) | (refine flow_mild (fun _ => rfl) (fun K hK => ?_); apply Exists.intro; refine ⟨fun B w2 h2 => ?_, ?_, ?_, ?_⟩; (next => (have h2' := Below.undrew h2.below; have g1 := Below.cells h2'; have g2 := Below.frozens h2'; (try simp only [World.size_alloc, World.size_setCell] at g1 g2); (try (obtain ⟨ql8, qc8, qf8, qh8, qz8⟩ := StF.cellsB h2 8 rfl rfl; (try simp only [World.size_alloc, World.size_setCell, World.size_drew] at ql8))); (try (obtain ⟨ql9, qc9, qf9, qh9, qz9⟩ := StF.cellsB h2 9 rfl rfl; (try simp only [World.size_alloc, World.size_setCell, World.size_drew] at ql9))); clear h2 h2'; unfold mildAt; first | (go_simp; simp only [mildUpon, true_and]; first | with_reducible exact K5.out _ | with_reducible exact K8.out _) | (simp [mildUpon, go_sem, ↓IntWalk.iteOmega, *]; done) | (simp [mildUpon, go_sem, ↓IntWalk.iteOmega, *]; (try go_ints); rfl))); (next => (first | (exact fun _ _ _ => rfl) | (intro B1 B2 hB; (try dsimp only); simp [hB]; done))); (next => (first | (intro k' hk'; cases hk'; done) | (intro k' hk'; simp at hk'; (try subst hk'); (try simp [Ress.put]); done) | (intro k' hk'; simp at hk'; (try rcases hk' with rfl | rfl); all_goals (simp [Ress.put])))); (go_simp; refine hK _ ?_; clear hK K)) | (refine flow_ptr (fun _ => rfl) (fun K hK => ?_); apply Exists.intro; apply Exists.intro; refine ⟨fun B w2 h2 => ?_, ?_, ?_, ?_⟩; (next => (have h2' := Below.undrew h2.below; have g1 := Below.cells h2'; have g2 := Below.frozens h2'; (try simp only [World.size_alloc, World.size_setCell] at g1 g2); (try (obtain ⟨ql8, qc8, qf8, qh8, qz8⟩ := StF.cellsB h2 8 rfl rfl; (try simp only [World.size_alloc, World.size_setCell, World.size_drew] at ql8))); (try (obtain ⟨ql9, qc9, qf9, qh9, qz9⟩ := StF.cellsB h2 9 rfl rfl; (try simp only [World.size_alloc, World.size_setCell, World.size_drew] at ql9))); clear h2 h2'; simp [go_sem, ptrOf, ↓IntWalk.iteOmega, *]; first | exact ⟨rfl, rfl⟩ | rfl)); (next => simp); (next => first | rfl | simp [Ress.put]); ((try simp only [Ress.put_def]); go_simp; refine hK _ _ ?_; clear hK K)) | (refine flow_slice (fun _ => rfl) (fun K hK => ?_); apply Exists.intro; apply Exists.intro; apply Exists.intro; refine ⟨fun B w2 h2 => ?_, ?_, ?_, ?_⟩; (next => (have h2' := Below.undrew h2.below; have g1 := Below.cells h2'; have g2 := Below.frozens h2'; (try simp only [World.size_alloc, World.size_setCell] at g1 g2); (try (obtain ⟨ql8, qc8, qf8, qh8, qz8⟩ := StF.cellsB h2 8 rfl rfl; (try simp only [World.size_alloc, World.size_setCell, World.size_drew] at ql8))); (try (obtain ⟨ql9, qc9, qf9, qh9, qz9⟩ := StF.cellsB h2 9 rfl rfl; (try simp only [World.size_alloc, World.size_setCell, World.size_drew] at ql9))); clear h2 h2'; simp [go_sem, ↓IntWalk.iteOmega, *]; first | exact ⟨rfl, rfl⟩ | rfl)); (next => simp); (next => first | rfl | simp [Ress.put]); ((try simp only [Ress.put_def]); go_simp; refine hK _ _ ?_; clear hK K)) | (refine flow_store2 8 0 (fun _ => rfl) rfl ?_ ?_ (fun K hK => ?_); (next => (simp; done)); (next => (first | (intro k' hk'; simp at hk'; (try subst hk'); simp [Ress.put]; done))); (repeat (apply Exists.intro)); (refine ⟨?_, fun B w2 h2 => ?_, ?_, ?_, ?_⟩); (next => first | rfl | (simp [Ress.put]; done)); (next => (have h2' := Below.undrew h2.below; have g1 := Below.cells h2'; have g2 := Below.frozens h2'; (try simp only [World.size_alloc, World.size_setCell] at g1 g2); (try (obtain ⟨ql8, qc8, qf8, qh8, qz8⟩ := StF.cellsB h2 8 rfl rfl; (try simp only [World.size_alloc, World.size_setCell, World.size_drew] at ql8))); (try (obtain ⟨ql9, qc9, qf9, qh9, qz9⟩ := StF.cellsB h2 9 rfl rfl; (try simp only [World.size_alloc, World.size_setCell, World.size_drew] at ql9))); clear h2 h2'; first | (simp [go_sem, ↓IntWalk.iteOmega, *]; done) | (simp [go_sem, ↓IntWalk.iteOmega, *]; rfl))); (next => (first | (exact fun _ _ _ => rfl) | (intro B1 B2 hB; (try dsimp only); simp [hB]; done))); (next => (first | (exact fun _ _ _ => rfl) | (intro B1 B2 hB; (try dsimp only); simp [hB]; done))); ((try simp only [Ress.put_def]); go_simp; refine hK _ _ ?_; clear hK K)) | (refine flow_store2 9 0 (fun _ => rfl) rfl ?_ ?_ (fun K hK => ?_); (next => (simp; done)); (next => (first | (intro k' hk'; simp at hk'; (try subst hk'); simp [Ress.put]; done))); (repeat (apply Exists.intro)); (refine ⟨?_, fun B w2 h2 => ?_, ?_, ?_, ?_⟩); (next => first | rfl | (simp [Ress.put]; done)); (next => (have h2' := Below.undrew h2.below; have g1 := Below.cells h2'; have g2 := Below.frozens h2'; (try simp only [World.size_alloc, World.size_setCell] at g1 g2); (try (obtain ⟨ql8, qc8, qf8, qh8, qz8⟩ := StF.cellsB h2 8 rfl rfl; (try simp only [World.size_alloc, World.size_setCell, World.size_drew] at ql8))); (try (obtain ⟨ql9, qc9, qf9, qh9, qz9⟩ := StF.cellsB h2 9 rfl rfl; (try simp only [World.size_alloc, World.size_setCell, World.size_drew] at ql9))); clear h2 h2'; first | (simp [go_sem, ↓IntWalk.iteOmega, *]; done) | (simp [go_sem, ↓IntWalk.iteOmega, *]; rfl))); (next => (first | (exact fun _ _ _ => rfl) | (intro B1 B2 hB; (try dsimp only); simp [hB]; done))); (next => (first | (exact fun _ _ _ => rfl) | (intro B1 B2 hB; (try dsimp only); simp [hB]; done))); ((try simp only [Ress.put_def]); go_simp; refine hK _ _ ?_; clear hK K)))
    refine flow_nil ?_
    intro B w10 h10
    dsimp only
    have hb10 := Below.undrew h10.below
    obtain ⟨lo10_8, up10_8, e10_8, fz10_8⟩ := StA.cells h10 8 rfl
    try dsimp only at e10_8
    generalize (B 8).1 = b10_8 at *
    have eh10_8 := e10_8
    have fh10_8 := fz10_8
    change ∀ o, hcell _ _ o = _ at eh10_8
    change ∀ o, hfroz _ _ o = _ at fh10_8
    obtain ⟨lo10_9, up10_9, e10_9, fz10_9⟩ := StA.cells h10 9 rfl
    try dsimp only at e10_9
    generalize (B 9).1 = b10_9 at *
    have eh10_9 := e10_9
    have fh10_9 := fz10_9
    change ∀ o, hcell _ _ o = _ at eh10_9
    change ∀ o, hfroz _ _ o = _ at fh10_9
    clear h10
    clear B
    try simp only [World.size_alloc, World.size_setCell, World.size_drew] at lo10_8 lo10_9
    have z10 := hb10.size
    have c10 := Below.cells hb10
    have f10 := Below.frozens hb10
    try simp only [World.size_alloc, World.size_setCell, World.size_drew] at z10 c10 f10
    go_wp2_with fail
    refine wp_region_flow true (fun k => ([[], [], [], [], [], [], [], [], [8], [9], [8], [9]] : List (List Nat)).getD k []) (by kernel_rfl) (by kernel_rfl) ?_
    repeat (first | (refine flow_skip (fun _ => rfl) ?_; (try simp only [Act.put, List.setIfInBounds_toArray, List.set_cons_zero, List.set_cons_succ])) | (refine flow_mild (fun _ => rfl) (fun K hK => ?_); apply Exists.intro; refine ⟨fun B w2 h2 => ?_, ?_, ?_, ?_⟩; (next => (have h2' := Below.undrew h2.below; have g1 := Below.cells h2'; have g2 := Below.frozens h2'; (try simp only [World.size_alloc, World.size_setCell] at g1 g2); (try (obtain ⟨ql8, qc8, qf8, qh8, qz8⟩ := StF.cellsB h2 8 rfl rfl; (try simp only [World.size_alloc, World.size_setCell, World.size_drew] at ql8))); (try (obtain ⟨ql9, qc9, qf9, qh9, qz9⟩ := StF.cellsB h2 9 rfl rfl; (try simp only [World.size_alloc, World.size_setCell, World.size_drew] at ql9))); clear h2 h2'; unfold mildAt; first | (go_simp; simp only [mildUpon, true_and]; first | with_reducible exact K6.out _ | with_reducible exact K9.out _) | (simp [mildUpon, go_sem, ↓IntWalk.iteOmega, *]; done) | (simp [mildUpon, go_sem, ↓IntWalk.iteOmega, *]; (try go_ints); rfl))); (next => (first | (exact fun _ _ _ => rfl) | (intro B1 B2 hB; (try dsimp only); simp [hB]; done))); (next => (first | (intro k' hk'; cases hk'; done) | (intro k' hk'; simp at hk'; (try subst hk'); (try simp [Ress.put]); done) | (intro k' hk'; simp at hk'; (try rcases hk' with rfl | rfl); all_goals (simp [Ress.put])))); (go_simp; refine hK _ ?_; clear hK K)) | (refine flow_ptr (fun _ => rfl) (fun K hK => ?_); apply Exists.intro; apply Exists.intro; refine ⟨fun B w2 h2 => ?_, ?_, ?_, ?_⟩; (next => (have h2' := Below.undrew h2.below; have g1 := Below.cells h2'; have g2 := Below.frozens h2'; (try simp only [World.size_alloc, World.size_setCell] at g1 g2); (try (obtain ⟨ql8, qc8, qf8, qh8, qz8⟩ := StF.cellsB h2 8 rfl rfl; (try simp only [World.size_alloc, World.size_setCell, World.size_drew] at ql8))); (try (obtain ⟨ql9, qc9, qf9, qh9, qz9⟩ := StF.cellsB h2 9 rfl rfl; (try simp only [World.size_alloc, World.size_setCell, World.size_drew] at ql9))); clear h2 h2'; simp [go_sem, ptrOf, ↓IntWalk.iteOmega, *]; first | exact ⟨rfl, rfl⟩ | rfl)); (next => simp); (next => first | rfl | simp [Ress.put]); ((try simp only [Ress.put_def]); go_simp; refine hK _ _ ?_; clear hK K)) | (refine flow_slice (fun _ => rfl) (fun K hK => ?_); apply Exists.intro; apply Exists.intro; apply Exists.intro; refine ⟨fun B w2 h2 => ?_, ?_, ?_, ?_⟩; (next => (have h2' := Below.undrew h2.below; have g1 := Below.cells h2'; have g2 := Below.frozens h2'; (try simp only [World.size_alloc, World.size_setCell] at g1 g2); (try (obtain ⟨ql8, qc8, qf8, qh8, qz8⟩ := StF.cellsB h2 8 rfl rfl; (try simp only [World.size_alloc, World.size_setCell, World.size_drew] at ql8))); (try (obtain ⟨ql9, qc9, qf9, qh9, qz9⟩ := StF.cellsB h2 9 rfl rfl; (try simp only [World.size_alloc, World.size_setCell, World.size_drew] at ql9))); clear h2 h2'; simp [go_sem, ↓IntWalk.iteOmega, *]; first | exact ⟨rfl, rfl⟩ | rfl)); (next => simp); (next => first | rfl | simp [Ress.put]); ((try simp only [Ress.put_def]); go_simp; refine hK _ _ ?_; clear hK K)) | (refine flow_store2 8 0 (fun _ => rfl) rfl ?_ ?_ (fun K hK => ?_); (next => (simp; done)); (next => (first | (intro k' hk'; simp at hk'; (try subst hk'); simp [Ress.put]; done))); (repeat (apply Exists.intro)); (refine ⟨?_, fun B w2 h2 => ?_, ?_, ?_, ?_⟩); (next => first | rfl | (simp [Ress.put]; done)); (next => (have h2' := Below.undrew h2.below; have g1 := Below.cells h2'; have g2 := Below.frozens h2'; (try simp only [World.size_alloc, World.size_setCell] at g1 g2); (try (obtain ⟨ql8, qc8, qf8, qh8, qz8⟩ := StF.cellsB h2 8 rfl rfl; (try simp only [World.size_alloc, World.size_setCell, World.size_drew] at ql8))); (try (obtain ⟨ql9, qc9, qf9, qh9, qz9⟩ := StF.cellsB h2 9 rfl rfl; (try simp only [World.size_alloc, World.size_setCell, World.size_drew] at ql9))); clear h2 h2'; first | (simp [go_sem, ↓IntWalk.iteOmega, *]; done) | (simp [go_sem, ↓IntWalk.iteOmega, *]; rfl))); (next => (first | (exact fun _ _ _ => rfl) | (intro B1 B2 hB; (try dsimp only); simp [hB]; done))); (next => (first | (exact fun _ _ _ => rfl) | (intro B1 B2 hB; (try dsimp only); simp [hB]; done))); ((try simp only [Ress.put_def]); go_simp; refine hK _ _ ?_; clear hK K)) | (refine flow_store2 9 0 (fun _ => rfl) rfl ?_ ?_ (fun K hK => ?_); (next => (simp; done)); (next => (first | (intro k' hk'; simp at hk'; (try subst hk'); simp [Ress.put]; done))); (repeat (apply Exists.intro)); (refine ⟨?_, fun B w2 h2 => ?_, ?_, ?_, ?_⟩); (next => first | rfl | (simp [Ress.put]; done)); (next => (have h2' := Below.undrew h2.below; have g1 := Below.cells h2'; have g2 := Below.frozens h2'; (try simp only [World.size_alloc, World.size_setCell] at g1 g2); (try (obtain ⟨ql8, qc8, qf8, qh8, qz8⟩ := StF.cellsB h2 8 rfl rfl; (try simp only [World.size_alloc, World.size_setCell, World.size_drew] at ql8))); (try (obtain ⟨ql9, qc9, qf9, qh9, qz9⟩ := StF.cellsB h2 9 rfl rfl; (try simp only [World.size_alloc, World.size_setCell, World.size_drew] at ql9))); clear h2 h2'; first | (simp [go_sem, ↓IntWalk.iteOmega, *]; done) | (simp [go_sem, ↓IntWalk.iteOmega, *]; rfl))); (next => (first | (exact fun _ _ _ => rfl) | (intro B1 B2 hB; (try dsimp only); simp [hB]; done))); (next => (first | (exact fun _ _ _ => rfl) | (intro B1 B2 hB; (try dsimp only); simp [hB]; done))); ((try simp only [Ress.put_def]); go_simp; refine hK _ _ ?_; clear hK K)))
    refine flow_nil ?_
    intro B w11 h11
    dsimp only
    have hb11 := Below.undrew h11.below
    obtain ⟨lo11_8, up11_8, e11_8, fz11_8⟩ := StA.cells h11 8 rfl
    try dsimp only at e11_8
    generalize (B 8).1 = b11_8 at *
    have eh11_8 := e11_8
    have fh11_8 := fz11_8
    change ∀ o, hcell _ _ o = _ at eh11_8
    change ∀ o, hfroz _ _ o = _ at fh11_8
    obtain ⟨lo11_9, up11_9, e11_9, fz11_9⟩ := StA.cells h11 9 rfl
    try dsimp only at e11_9
    generalize (B 9).1 = b11_9 at *
    have eh11_9 := e11_9
    have fh11_9 := fz11_9
    change ∀ o, hcell _ _ o = _ at eh11_9
    change ∀ o, hfroz _ _ o = _ at fh11_9
    clear h11
    clear B
    try simp only [World.size_alloc, World.size_setCell, World.size_drew] at lo11_8 lo11_9
    have z11 := hb11.size
    have c11 := Below.cells hb11
    have f11 := Below.frozens hb11
    try simp only [World.size_alloc, World.size_setCell, World.size_drew] at z11 c11 f11
    go_wp2_with fail
    refine (K10.out _).mono ?_
    rintro e w16 ⟨rfl, hb16⟩
    have z16 := hb16.size
    have c16 := Below.cells hb16
    have f16 := Below.frozens hb16
    try simp only [World.size_alloc, World.size_setCell, World.size_drew] at z16 c16 f16
    go_wp2_with fail
    refine (K11.out _).mono ?_
    rintro e w17 ⟨rfl, hb17⟩
    have z17 := hb17.size
    have c17 := Below.cells hb17
    have f17 := Below.frozens hb17
    try simp only [World.size_alloc, World.size_setCell, World.size_drew] at z17 c17 f17
    go_wp2_with fail
    refine (K12.out _).mono ?_
    rintro e w18 ⟨rfl, hb18⟩
    have z18 := hb18.size
    have c18 := Below.cells hb18
    have f18 := Below.frozens hb18
    try simp only [World.size_alloc, World.size_setCell, World.size_drew] at z18 c18 f18
    go_wp2_with fail
    refine wp_region_quiet_all (Ext _) (by kernel_rfl) (by kernel_rfl) (Ext.drawn _) ?_
    repeat (first | go_big_quiet_skip | go_big_quiet_step (fail) | (refine BigFrame.wpQuiet_want rfl (fun K hK => ?_); apply Exists.intro; refine ⟨fun w2 h2 => ?_, ?_⟩; (next => (have g1 := Below.cells h2.below; have g2 := Below.frozens h2.below; (try simp only [World.size_alloc, World.size_setCell] at g1 g2); first | (go_simp; fail) | (simp [go_sem, ↓IntWalk.iteOmega, *]; done) | (simp [go_sem, ↓IntWalk.iteOmega, *]; rfl)))); (go_simp; refine hK _ ?_; clear hK K))
    refine wpQuiet_nil ?_
    intro w19 h19
    have hb19 := h19.below
    clear h19
    have z19 := hb19.size
    have c19 := Below.cells hb19
    have f19 := Below.frozens hb19
    try simp only [World.size_alloc, World.size_setCell, World.size_drew] at z19 c19 f19
    go_wp2_with fail
    go_ret
    exact ⟨rfl, (by repeat (first | (with_reducible exact Below.refl _ _) | ((with_reducible refine Below.alloc ?_ ?_ _); rotate_left; (next => ((try dsimp only); (try simp only [World.size_alloc, World.size_setCell, World.size_drew]); omega))) | ((with_reducible refine Below.setCell ?_ ?_ _); rotate_left; (next => ((try dsimp only); (try simp only [World.size_alloc, World.size_setCell, World.size_drew]); omega))) | (with_reducible refine Below.drew ?_) | ((with_reducible refine Below.trans ?_ (Below.mono hb19 ?_)); rotate_left; (next => ((try dsimp only); (try simp only [World.size_alloc, World.size_setCell, World.size_drew]); omega))) | ((with_reducible refine Below.trans ?_ (Below.mono hb18 ?_)); rotate_left; (next => ((try dsimp only); (try simp only [World.size_alloc, World.size_setCell, World.size_drew]); omega))) | ((with_reducible refine Below.trans ?_ (Below.mono hb17 ?_)); rotate_left; (next => ((try dsimp only); (try simp only [World.size_alloc, World.size_setCell, World.size_drew]); omega))) | ((with_reducible refine Below.trans ?_ (Below.mono hb16 ?_)); rotate_left; (next => ((try dsimp only); (try simp only [World.size_alloc, World.size_setCell, World.size_drew]); omega))) | ((with_reducible refine Below.trans ?_ (Below.mono hb11 ?_)); rotate_left; (next => ((try dsimp only); (try simp only [World.size_alloc, World.size_setCell, World.size_drew]); omega))) | ((with_reducible refine Below.trans ?_ (Below.mono hb10 ?_)); rotate_left; (next => ((try dsimp only); (try simp only [World.size_alloc, World.size_setCell, World.size_drew]); omega))) | ((with_reducible refine Below.trans ?_ (Below.mono hb9 ?_)); rotate_left; (next => ((try dsimp only); (try simp only [World.size_alloc, World.size_setCell, World.size_drew]); omega))) | ((with_reducible refine Below.trans ?_ (Below.mono hb8 ?_)); rotate_left; (next => ((try dsimp only); (try simp only [World.size_alloc, World.size_setCell, World.size_drew]); omega))) | ((with_reducible refine Below.trans ?_ (Below.mono hb7 ?_)); rotate_left; (next => ((try dsimp only); (try simp only [World.size_alloc, World.size_setCell, World.size_drew]); omega))) | ((with_reducible refine Below.trans ?_ (Below.mono hb6 ?_)); rotate_left; (next => ((try dsimp only); (try simp only [World.size_alloc, World.size_setCell, World.size_drew]); omega))) | ((with_reducible refine Below.trans ?_ (Below.mono hb5 ?_)); rotate_left; (next => ((try dsimp only); (try simp only [World.size_alloc, World.size_setCell, World.size_drew]); omega))) | ((with_reducible refine Below.trans ?_ (Below.mono hb4 ?_)); rotate_left; (next => ((try dsimp only); (try simp only [World.size_alloc, World.size_setCell, World.size_drew]); omega))) | ((with_reducible refine Below.trans ?_ (Below.mono hb3 ?_)); rotate_left; (next => ((try dsimp only); (try simp only [World.size_alloc, World.size_setCell, World.size_drew]); omega))) | ((with_reducible refine Below.trans ?_ (Below.mono hb2 ?_)); rotate_left; (next => ((try dsimp only); (try simp only [World.size_alloc, World.size_setCell, World.size_drew]); omega))) | ((with_reducible refine Below.trans ?_ (Below.mono hb1 ?_)); rotate_left; (next => ((try dsimp only); (try simp only [World.size_alloc, World.size_setCell, World.size_drew]); omega)))))⟩
  · go_enter Try.func10, Try.ntmps10
    go_wp2_with fail
    refine (N100.out _).mono ?_
    rintro e w1 ⟨rfl, hb1⟩
    have z1 := hb1.size
    have c1 := Below.cells hb1
    have f1 := Below.frozens hb1
    try simp only [World.size_alloc, World.size_setCell, World.size_drew] at z1 c1 f1
    go_wp2_with fail
    refine (N7.out _).mono ?_
    rintro e w2 ⟨rfl, hb2⟩
    have z2 := hb2.size
    have c2 := Below.cells hb2
    have f2 := Below.frozens hb2
    try simp only [World.size_alloc, World.size_setCell, World.size_drew] at z2 c2 f2
    go_wp2_with fail
    refine (D0.out _).mono ?_
    rintro e w3 ⟨rfl, hb3⟩
    have z3 := hb3.size
    have c3 := Below.cells hb3
    have f3 := Below.frozens hb3
    try simp only [World.size_alloc, World.size_setCell, World.size_drew] at z3 c3 f3
    go_wp2_with fail
    refine wp_region_quiet_all (Ext _) (by kernel_rfl) (by kernel_rfl) (Ext.drawn _) ?_
    repeat (first | go_big_quiet_skip | go_big_quiet_step (fail) | (refine BigFrame.wpQuiet_want rfl (fun K hK => ?_); apply Exists.intro; refine ⟨fun w2 h2 => ?_, ?_⟩; (next => (have g1 := Below.cells h2.below; have g2 := Below.frozens h2.below; (try simp only [World.size_alloc, World.size_setCell] at g1 g2); first | (go_simp; (go_at_call 49; refine h2.calls (N14.out _))) | (simp [go_sem, ↓IntWalk.iteOmega, *]; done) | (simp [go_sem, ↓IntWalk.iteOmega, *]; rfl)))); (go_simp; refine hK _ ?_; clear hK K))
    refine wpQuiet_nil ?_
    intro w4 h4
    have hb4 := h4.below
    clear h4
    have z4 := hb4.size
    have c4 := Below.cells hb4
    have f4 := Below.frozens hb4
    try simp only [World.size_alloc, World.size_setCell, World.size_drew] at z4 c4 f4
    go_wp2_with fail
    have gc0 : w4.cell? ⟨w.heap.size, 0, none⟩ = some (.int .u64 (hi a)) := by simp [go_sem, ↓IntWalk.iteOmega, *]
    have gc1 : w4.cell? ⟨w.heap.size, 1, none⟩ = some (.int .u64 (lo a)) := by simp [go_sem, ↓IntWalk.iteOmega, *]
    have gc2 : w4.cell? ⟨w.heap.size + 1, 0, none⟩ = some (.int .u64 (hi b)) := by simp [go_sem, ↓IntWalk.iteOmega, *]
    have gc3 : w4.cell? ⟨w.heap.size + 1, 1, none⟩ = some (.int .u64 (lo b)) := by simp [go_sem, ↓IntWalk.iteOmega, *]
    have gc4 : w4.cell? ⟨w.heap.size + 1 + 1, 0, none⟩ = some (.int .u64 (hi c)) := by simp [go_sem, ↓IntWalk.iteOmega, *]
    have gc5 : w4.cell? ⟨w.heap.size + 1 + 1, 1, none⟩ = some (.int .u64 (lo c)) := by simp [go_sem, ↓IntWalk.iteOmega, *]
    have gf0 : w4.frozen? ⟨w.heap.size, 0, none⟩ = false := by first | (simp [go_sem, ↓IntWalk.iteOmega, *]; done) | (simp [go_sem, ↓IntWalk.iteOmega, *]; intros; omega)
    have gf1 : w4.frozen? ⟨w.heap.size, 1, none⟩ = false := by first | (simp [go_sem, ↓IntWalk.iteOmega, *]; done) | (simp [go_sem, ↓IntWalk.iteOmega, *]; intros; omega)
    have gf2 : w4.frozen? ⟨w.heap.size + 1, 0, none⟩ = false := by first | (simp [go_sem, ↓IntWalk.iteOmega, *]; done) | (simp [go_sem, ↓IntWalk.iteOmega, *]; intros; omega)
    have gf3 : w4.frozen? ⟨w.heap.size + 1, 1, none⟩ = false := by first | (simp [go_sem, ↓IntWalk.iteOmega, *]; done) | (simp [go_sem, ↓IntWalk.iteOmega, *]; intros; omega)
    have gf4 : w4.frozen? ⟨w.heap.size + 1 + 1, 0, none⟩ = false := by first | (simp [go_sem, ↓IntWalk.iteOmega, *]; done) | (simp [go_sem, ↓IntWalk.iteOmega, *]; intros; omega)
    have gf5 : w4.frozen? ⟨w.heap.size + 1 + 1, 1, none⟩ = false := by first | (simp [go_sem, ↓IntWalk.iteOmega, *]; done) | (simp [go_sem, ↓IntWalk.iteOmega, *]; intros; omega)
    clear c1 c2 c3 c4 f1 f2 f3 f4
    have hX := HX.out
    have hY := HY.out
    have hB := HB.out
    have hC := HC.out
    have eB : IntKind.u64.wrap B = B := EB.out
    have eC : IntKind.u64.wrap C = C := EC.out
    go_region
    all_goals go_wp2_with fail
    refine (K1.out _).mono ?_
    rintro e w5 ⟨rfl, hb5⟩
    have z5 := hb5.size
    have c5 := Below.cells hb5
    have f5 := Below.frozens hb5
    try simp only [World.size_alloc, World.size_setCell, World.size_drew] at z5 c5 f5
    go_wp2_with fail
    refine (K2.out _).mono ?_
    rintro e w6 ⟨rfl, hb6⟩
    have z6 := hb6.size
    have c6 := Below.cells hb6
    have f6 := Below.frozens hb6
    try simp only [World.size_alloc, World.size_setCell, World.size_drew] at z6 c6 f6
    go_wp2_with fail
    refine (K3.out _).mono ?_
    rintro e w7 ⟨rfl, hb7⟩
    have z7 := hb7.size
    have c7 := Below.cells hb7
    have f7 := Below.frozens hb7
    try simp only [World.size_alloc, World.size_setCell, World.size_drew] at z7 c7 f7
    go_wp2_with fail
    refine (K4.out _).mono ?_
    rintro e w8 ⟨rfl, hb8⟩
    have z8 := hb8.size
    have c8 := Below.cells hb8
    have f8 := Below.frozens hb8
    try simp only [World.size_alloc, World.size_setCell, World.size_drew] at z8 c8 f8
    go_wp2_with fail
    refine wp_region_flow true (fun k => ([[], [], [], [], [], [], [], [], [8], [8]] : List (List Nat)).getD k []) (by kernel_rfl) (by kernel_rfl) ?_
    repeat (first | (refine flow_skip (fun _ => rfl) ?_; (try simp only [Act.put, List.setIfInBounds_toArray, List.set_cons_zero, List.set_cons_succ])) | (refine flow_mild (fun _ => rfl) (fun K hK => ?_); apply Exists.intro; refine ⟨fun B w2 h2 => ?_, ?_, ?_, ?_⟩; (next => (have h2' := Below.undrew h2.below; have g1 := Below.cells h2'; have g2 := Below.frozens h2'; (try simp only [World.size_alloc, World.size_setCell] at g1 g2); (try (obtain ⟨ql8, qc8, qf8, qh8, qz8⟩ := StF.cellsB h2 8 rfl rfl; (try simp only [World.size_alloc, World.size_setCell, World.size_drew] at ql8))); clear h2 h2'; unfold mildAt; first | (go_simp; simp only [mildUpon, true_and]; first | with_reducible exact K5.out _ | with_reducible exact K6.out _ | with_reducible exact K7.out _) | (simp [mildUpon, go_sem, ↓IntWalk.iteOmega, *]; done) | (simp [mildUpon, go_sem, ↓IntWalk.iteOmega, *]; (try go_ints); rfl))); (next => (first | (exact fun _ _ _ => rfl) | (intro B1 B2 hB; (try dsimp only); simp [hB]; done))); (next => (first | (intro k' hk'; cases hk'; done) | (intro k' hk'; simp at hk'; (try subst hk'); (try simp [Ress.put]); done) | (intro k' hk'; simp at hk'; (try rcases hk' with rfl | rfl); all_goals (simp [Ress.put])))); (go_simp; refine hK _ ?_; clear hK K)) | (refine flow_ptr (fun _ => rfl) (fun K hK => ?_); apply Exists.intro; apply Exists.intro; refine ⟨fun B w2 h2 => ?_, ?_, ?_, ?_⟩; (next => (have h2' := Below.undrew h2.below; have g1 := Below.cells h2'; have g2 := Below.frozens h2'; (try simp only [World.size_alloc, World.size_setCell] at g1 g2); (try (obtain ⟨ql8, qc8, qf8, qh8, qz8⟩ := StF.cellsB h2 8 rfl rfl; (try simp only [World.size_alloc, World.size_setCell, World.size_drew] at ql8))); clear h2 h2'; simp [go_sem, ptrOf, ↓IntWalk.iteOmega, *]; first | exact ⟨rfl, rfl⟩ | rfl)); (next => simp); (next => first | rfl | simp [Ress.put]); ((try simp only [Ress.put_def]); go_simp; refine hK _ _ ?_; clear hK K)) | (refine flow_slice (fun _ => rfl) (fun K hK => ?_); apply Exists.intro; apply Exists.intro; apply Exists.intro; refine ⟨fun B w2 h2 => ?_, ?_, ?_, ?_⟩; (next => (have h2' := Below.undrew h2.below; have g1 := Below.cells h2'; have g2 := Below.frozens h2'; (try simp only [World.size_alloc, World.size_setCell] at g1 g2); (try (obtain ⟨ql8, qc8, qf8, qh8, qz8⟩ := StF.cellsB h2 8 rfl rfl; (try simp only [World.size_alloc, World.size_setCell, World.size_drew] at ql8))); clear h2 h2'; simp [go_sem, ↓IntWalk.iteOmega, *]; first | exact ⟨rfl, rfl⟩ | rfl)); (next => simp); (next => first | rfl | simp [Ress.put]); ((try simp only [Ress.put_def]); go_simp; refine hK _ _ ?_; clear hK K)) | (refine flow_store2 8 0 (fun _ => rfl) rfl ?_ ?_ (fun K hK => ?_); (next => (simp; done)); (next => (first | (intro k' hk'; simp at hk'; (try subst hk'); simp [Ress.put]; done))); (repeat (apply Exists.intro)); (refine ⟨?_, fun B w2 h2 => ?_, ?_, ?_, ?_⟩); (next => first | rfl | (simp [Ress.put]; done)); (next => (have h2' := Below.undrew h2.below; have g1 := Below.cells h2'; have g2 := Below.frozens h2'; (try simp only [World.size_alloc, World.size_setCell] at g1 g2); (try (obtain ⟨ql8, qc8, qf8, qh8, qz8⟩ := StF.cellsB h2 8 rfl rfl; (try simp only [World.size_alloc, World.size_setCell, World.size_drew] at ql8))); clear h2 h2'; first | (simp [go_sem, ↓IntWalk.iteOmega, *]; done) | (simp [go_sem, ↓IntWalk.iteOmega, *]; rfl))); (next => (first | (exact fun _ _ _ => rfl) | (intro B1 B2 hB; (try dsimp only); simp [hB]; done))); (next => (first | (exact fun _ _ _ => rfl) | (intro B1 B2 hB; (try dsimp only); simp [hB]; done))); ((try simp only [Ress.put_def]); go_simp; refine hK _ _ ?_; clear hK K)))
    refine flow_nil ?_
    intro B w9 h9
    dsimp only
    have hb9 := Below.undrew h9.below
    obtain ⟨lo9_8, up9_8, e9_8, fz9_8⟩ := StA.cells h9 8 rfl
    try dsimp only at e9_8
    generalize (B 8).1 = b9_8 at *
    have eh9_8 := e9_8
    have fh9_8 := fz9_8
    change ∀ o, hcell _ _ o = _ at eh9_8
    change ∀ o, hfroz _ _ o = _ at fh9_8
    clear h9
    clear B
    try simp only [World.size_alloc, World.size_setCell, World.size_drew] at lo9_8
    have z9 := hb9.size
    have c9 := Below.cells hb9
    have f9 := Below.frozens hb9
    try simp only [World.size_alloc, World.size_setCell, World.size_drew] at z9 c9 f9
    go_wp2_with fail
    refine wp_region_flow true (fun k => ([[], [], [], [], [], [], [], [], [8], [9], [8], [9]] : List (List Nat)).getD k []) (by kernel_rfl) (by kernel_rfl) ?_
    repeat (first | (refine flow_skip (fun _ => rfl) ?_; (try simp only [Act.put, List.setIfInBounds_toArray, List.set_cons_zero, List.set_cons_succ])) | (refine flow_mild (fun _ => rfl) (fun K hK => ?_); apply Exists.intro; refine ⟨fun B w2 h2 => ?_, ?_, ?_, ?_⟩; (next => (have h2' := Below.undrew h2.below; have g1 := Below.cells h2'; have g2 := Below.frozens h2'; (try simp only [World.size_alloc, World.size_setCell] at g1 g2); (try (obtain ⟨ql8, qc8, qf8, qh8, qz8⟩ := StF.cellsB h2 8 rfl rfl; (try simp only [World.size_alloc, World.size_setCell, World.size_drew] at ql8))); (try (obtain ⟨ql9, qc9, qf9, qh9, qz9⟩ := StF.cellsB h2 9 rfl rfl; (try simp only [World.size_alloc, World.size_setCell, World.size_drew] at ql9))); clear h2 h2'; unfold mildAt; first | (go_simp; simp only [mildUpon, true_and]; first | with_reducible exact K5.out _ | with_reducible exact K8.out _) | (simp [mildUpon, go_sem, ↓IntWalk.iteOmega, *]; done) | (simp [mildUpon, go_sem, ↓IntWalk.iteOmega, *]; (try go_ints); rfl))); (next => (first | (exact fun _ _ _ => rfl) | (intro B1 B2 hB; (try dsimp only); simp [hB]; done))); (next => (first | (intro k' hk'; cases hk'; done) | (intro k' hk'; simp at hk'; (try subst hk'); (try simp [Ress.put]); done) | (intro k' hk'; simp at hk'; (try rcases hk' with rfl | rfl); all_goals (simp [Ress.put])))); (go_simp; refine hK _ ?_; clear hK K)) | (refine flow_ptr (fun _ => rfl) (fun K hK => ?_); apply Exists.intro; apply Exists.intro; refine ⟨fun B w2 h2 => ?_, ?_, ?_, ?_⟩; (next => (have h2' := Below.undrew h2.below; have g1 := Below.cells h2'; have g2 := Below.frozens h2'; (try simp only [World.size_alloc, World.size_setCell] at g1 g2); (try (obtain ⟨ql8, qc8, qf8, qh8, qz8⟩ := StF.cellsB h2 8 rfl rfl; (try simp only [World.size_alloc, World.size_setCell, World.size_drew] at ql8))); (try (obtain ⟨ql9, qc9, qf9, qh9, qz9⟩ := StF.cellsB h2 9 rfl rfl; (try simp only [World.size_alloc, World.size_setCell, World.size_drew] at ql9))); clear h2 h2'; simp [go_sem, ptrOf, ↓IntWalk.iteOmega, *]; first | exact ⟨rfl, rfl⟩ | rfl)); (next => simp); (next => first | rfl | simp [Ress.put]); ((try simp only [Ress.put_def]); go_simp; refine hK _ _ ?_; clear hK K)) | (refine flow_slice (fun _ => rfl) (fun K hK => ?_); apply Exists.intro; apply Exists.intro; apply Exists.intro; refine ⟨fun B w2 h2 => ?_, ?_, ?_, ?_⟩; (next => (have h2' := Below.undrew h2.below; have g1 := Below.cells h2'; have g2 := Below.frozens h2'; (try simp only [World.size_alloc, World.size_setCell] at g1 g2); (try (obtain ⟨ql8, qc8, qf8, qh8, qz8⟩ := StF.cellsB h2 8 rfl rfl; (try simp only [World.size_alloc, World.size_setCell, World.size_drew] at ql8))); (try (obtain ⟨ql9, qc9, qf9, qh9, qz9⟩ := StF.cellsB h2 9 rfl rfl; (try simp only [World.size_alloc, World.size_setCell, World.size_drew] at ql9))); clear h2 h2'; simp [go_sem, ↓IntWalk.iteOmega, *]; first | exact ⟨rfl, rfl⟩ | rfl)); (next => simp); (next => first | rfl | simp [Ress.put]); ((try simp only [Ress.put_def]); go_simp; refine hK _ _ ?_; clear hK K)) | (refine flow_store2 8 0 (fun _ => rfl) rfl ?_ ?_ (fun K hK => ?_); (next => (simp; done)); (next => (first | (intro k' hk'; simp at hk'; (try subst hk'); simp [Ress.put]; done))); (repeat (apply Exists.intro)); (refine ⟨?_, fun B w2 h2 => ?_, ?_, ?_, ?_⟩); (next => first | rfl | (simp [Ress.put]; done)); (next => (have h2' := Below.undrew h2.below; have g1 := Below.cells h2'; have g2 := Below.frozens h2'; (try simp only [World.size_alloc, World.size_setCell] at g1 g2); (try (obtain ⟨ql8, qc8, qf8, qh8, qz8⟩ := StF.cellsB h2 8 rfl rfl; (try simp only [World.size_alloc, World.size_setCell, World.size_drew] at ql8))); (try (obtain ⟨ql9, qc9, qf9, qh9, qz9⟩ := StF.cellsB h2 9 rfl rfl; (try simp only [World.size_alloc, World.size_setCell, World.size_drew] at ql9))); clear h2 h2'; first | (simp [go_sem, ↓IntWalk.iteOmega, *]; done) | (simp [go_sem, ↓IntWalk.iteOmega, *]; rfl))); (next => (first | (exact fun _ _ _ => rfl) | (intro B1 B2 hB; (try dsimp only); simp [hB]; done))); (next => (first | (exact fun _ _ _ => rfl) | (intro B1 B2 hB; (try dsimp only); simp [hB]; done))); ((try simp only [Ress.put_def]); go_simp; refine hK _ _ ?_; clear hK K)) | (refine flow_store2 9 0 (fun _ => rfl) rfl ?_ ?_ (fun K hK => ?_); (next => (simp; done)); (next => (first | (intro k' hk'; simp at hk'; (try subst hk'); simp [Ress.put]; done))); (repeat (apply Exists.intro)); (refine ⟨?_, fun B w2 h2 => ?_, ?_, ?_, ?_⟩); (next => first | rfl | (simp [Ress.put]; done)); (next => (have h2' := Below.undrew h2.below; have g1 := Below.cells h2'; have g2 := Below.frozens h2'; (try simp only [World.size_alloc, World.size_setCell] at g1 g2); (try (obtain ⟨ql8, qc8, qf8, qh8, qz8⟩ := StF.cellsB h2 8 rfl rfl; (try simp only [World.size_alloc, World.size_setCell, World.size_drew] at ql8))); (try (obtain ⟨ql9, qc9, qf9, qh9, qz9⟩ := StF.cellsB h2 9 rfl rfl; (try simp only [World.size_alloc, World.size_setCell, World.size_drew] at ql9))); clear h2 h2'; first | (simp [go_sem, ↓IntWalk.iteOmega, *]; done) | (simp [go_sem, ↓IntWalk.iteOmega, *]; rfl))); (next => (first | (exact fun _ _ _ => rfl) | (intro B1 B2 hB; (try dsimp only); simp [hB]; done))); (next => (first | (exact fun _ _ _ => rfl) | (intro B1 B2 hB; (try dsimp only); simp [hB]; done))); ((try simp only [Ress.put_def]); go_simp; refine hK _ _ ?_; clear hK K)))
    refine flow_nil ?_
    intro B w10 h10
    dsimp only
    have hb10 := Below.undrew h10.below
    obtain ⟨lo10_8, up10_8, e10_8, fz10_8⟩ := StA.cells h10 8 rfl
    try dsimp only at e10_8
    generalize (B 8).1 = b10_8 at *
    have eh10_8 := e10_8
    have fh10_8 := fz10_8
    change ∀ o, hcell _ _ o = _ at eh10_8
    change ∀ o, hfroz _ _ o = _ at fh10_8
    obtain ⟨lo10_9, up10_9, e10_9, fz10_9⟩ := StA.cells h10 9 rfl
    try dsimp only at e10_9
    generalize (B 9).1 = b10_9 at *
    have eh10_9 := e10_9
    have fh10_9 := fz10_9
    change ∀ o, hcell _ _ o = _ at eh10_9
    change ∀ o, hfroz _ _ o = _ at fh10_9
    clear h10
    clear B
    try simp only [World.size_alloc, World.size_setCell, World.size_drew] at lo10_8 lo10_9
    have z10 := hb10.size
    have c10 := Below.cells hb10
    have f10 := Below.frozens hb10
    try simp only [World.size_alloc, World.size_setCell, World.size_drew] at z10 c10 f10
    go_wp2_with fail
    refine wp_region_flow true (fun k => ([[], [], [], [], [], [], [], [], [8], [9], [8], [9]] : List (List Nat)).getD k []) (by kernel_rfl) (by kernel_rfl) ?_
    repeat (first | (refine flow_skip (fun _ => rfl) ?_; (try simp only [Act.put, List.setIfInBounds_toArray, List.set_cons_zero, List.set_cons_succ])) | (refine flow_mild (fun _ => rfl) (fun K hK => ?_); apply Exists.intro; refine ⟨fun B w2 h2 => ?_, ?_, ?_, ?_⟩; (next => (have h2' := Below.undrew h2.below; have g1 := Below.cells h2'; have g2 := Below.frozens h2'; (try simp only [World.size_alloc, World.size_setCell] at g1 g2); (try (obtain ⟨ql8, qc8, qf8, qh8, qz8⟩ := StF.cellsB h2 8 rfl rfl; (try simp only [World.size_alloc, World.size_setCell, World.size_drew] at ql8))); (try (obtain ⟨ql9, qc9, qf9, qh9, qz9⟩ := StF.cellsB h2 9 rfl rfl; (try simp only [World.size_alloc, World.size_setCell, World.size_drew] at ql9))); clear h2 h2'; unfold mildAt; first | (go_simp; simp only [mildUpon, true_and]; first | with_reducible exact K6.out _ | with_reducible exact K9.out _) | (simp [mildUpon, go_sem, ↓IntWalk.iteOmega, *]; done) | (simp [mildUpon, go_sem, ↓IntWalk.iteOmega, *]; (try go_ints); rfl))); (next => (first | (exact fun _ _ _ => rfl) | (intro B1 B2 hB; (try dsimp only); simp [hB]; done))); (next => (first | (intro k' hk'; cases hk'; done) | (intro k' hk'; simp at hk'; (try subst hk'); (try simp [Ress.put]); done) | (intro k' hk'; simp at hk'; (try rcases hk' with rfl | rfl); all_goals (simp [Ress.put])))); (go_simp; refine hK _ ?_; clear hK K)) | (refine flow_ptr (fun _ => rfl) (fun K hK => ?_); apply Exists.intro; apply Exists.intro; refine ⟨fun B w2 h2 => ?_, ?_, ?_, ?_⟩; (next => (have h2' := Below.undrew h2.below; have g1 := Below.cells h2'; have g2 := Below.frozens h2'; (try simp only [World.size_alloc, World.size_setCell] at g1 g2); (try (obtain ⟨ql8, qc8, qf8, qh8, qz8⟩ := StF.cellsB h2 8 rfl rfl; (try simp only [World.size_alloc, World.size_setCell, World.size_drew] at ql8))); (try (obtain ⟨ql9, qc9, qf9, qh9, qz9⟩ := StF.cellsB h2 9 rfl rfl; (try simp only [World.size_alloc, World.size_setCell, World.size_drew] at ql9))); clear h2 h2'; simp [go_sem, ptrOf, ↓IntWalk.iteOmega, *]; first | exact ⟨rfl, rfl⟩ | rfl)); (next => simp); (next => first | rfl | simp [Ress.put]); ((try simp only [Ress.put_def]); go_simp; refine hK _ _ ?_; clear hK K)) | (refine flow_slice (fun _ => rfl) (fun K hK => ?_); apply Exists.intro; apply Exists.intro; apply Exists.intro; refine ⟨fun B w2 h2 => ?_, ?_, ?_, ?_⟩; (next => (have h2' := Below.undrew h2.below; have g1 := Below.cells h2'; have g2 := Below.frozens h2'; (try simp only [World.size_alloc, World.size_setCell] at g1 g2); (try (obtain ⟨ql8, qc8, qf8, qh8, qz8⟩ := StF.cellsB h2 8 rfl rfl; (try simp only [World.size_alloc, World.size_setCell, World.size_drew] at ql8))); (try (obtain ⟨ql9, qc9, qf9, qh9, qz9⟩ := StF.cellsB h2 9 rfl rfl; (try simp only [World.size_alloc, World.size_setCell, World.size_drew] at ql9))); clear h2 h2'; simp [go_sem, ↓IntWalk.iteOmega, *]; first | exact ⟨rfl, rfl⟩ | rfl)); (next => simp); (next => first | rfl | simp [Ress.put]); ((try simp only [Ress.put_def]); go_simp; refine hK _ _ ?_; clear hK K)) | (refine flow_store2 8 0 (fun _ => rfl) rfl ?_ ?_ (fun K hK => ?_); (next => (simp; done)); (next => (first | (intro k' hk'; simp at hk'; (try subst hk'); simp [Ress.put]; done))); (repeat (apply Exists.intro)); (refine ⟨?_, fun B w2 h2 => ?_, ?_, ?_, ?_⟩); (next => first | rfl | (simp [Ress.put]; done)); (next => (have h2' := Below.undrew h2.below; have g1 := Below.cells h2'; have g2 := Below.frozens h2'; (try simp only [World.size_alloc, World.size_setCell] at g1 g2); (try (obtain ⟨ql8, qc8, qf8, qh8, qz8⟩ := StF.cellsB h2 8 rfl rfl; (try simp only [World.size_alloc, World.size_setCell, World.size_drew] at ql8))); (try (obtain ⟨ql9, qc9, qf9, qh9, qz9⟩ := StF.cellsB h2 9 rfl rfl; (try simp only [World.size_alloc, World.size_setCell, World.size_drew] at ql9))); clear h2 h2'; first | (simp [go_sem, ↓IntWalk.iteOmega, *]; done) | (simp [go_sem, ↓IntWalk.iteOmega, *]; rfl))); (next => (first | (exact fun _ _ _ => rfl) | (intro B1 B2 hB; (try dsimp only); simp [hB]; done))); (next => (first | (exact fun _ _ _ => rfl) | (intro B1 B2 hB; (try dsimp only); simp [hB]; done))); ((try simp only [Ress.put_def]); go_simp; refine hK _ _ ?_; clear hK K)) | (refine flow_store2 9 0 (fun _ => rfl) rfl ?_ ?_ (fun K hK => ?_); (next => (simp; done)); (next => (first | (intro k' hk'; simp at hk'; (try subst hk'); simp [Ress.put]; done))); (repeat (apply Exists.intro)); (refine ⟨?_, fun B w2 h2 => ?_, ?_, ?_, ?_⟩); (next => first | rfl | (simp [Ress.put]; done)); (next => (have h2' := Below.undrew h2.below; have g1 := Below.cells h2'; have g2 := Below.frozens h2'; (try simp only [World.size_alloc, World.size_setCell] at g1 g2); (try (obtain ⟨ql8, qc8, qf8, qh8, qz8⟩ := StF.cellsB h2 8 rfl rfl; (try simp only [World.size_alloc, World.size_setCell, World.size_drew] at ql8))); (try (obtain ⟨ql9, qc9, qf9, qh9, qz9⟩ := StF.cellsB h2 9 rfl rfl; (try simp only [World.size_alloc, World.size_setCell, World.size_drew] at ql9))); clear h2 h2'; first | (simp [go_sem, ↓IntWalk.iteOmega, *]; done) | (simp [go_sem, ↓IntWalk.iteOmega, *]; rfl))); (next => (first | (exact fun _ _ _ => rfl) | (intro B1 B2 hB; (try dsimp only); simp [hB]; done))); (next => (first | (exact fun _ _ _ => rfl) | (intro B1 B2 hB; (try dsimp only); simp [hB]; done))); ((try simp only [Ress.put_def]); go_simp; refine hK _ _ ?_; clear hK K)))
    refine flow_nil ?_
    intro B w11 h11
    dsimp only
    have hb11 := Below.undrew h11.below
    obtain ⟨lo11_8, up11_8, e11_8, fz11_8⟩ := StA.cells h11 8 rfl
    try dsimp only at e11_8
    generalize (B 8).1 = b11_8 at *
    have eh11_8 := e11_8
    have fh11_8 := fz11_8
    change ∀ o, hcell _ _ o = _ at eh11_8
    change ∀ o, hfroz _ _ o = _ at fh11_8
    obtain ⟨lo11_9, up11_9, e11_9, fz11_9⟩ := StA.cells h11 9 rfl
    try dsimp only at e11_9
    generalize (B 9).1 = b11_9 at *
    have eh11_9 := e11_9
    have fh11_9 := fz11_9
    change ∀ o, hcell _ _ o = _ at eh11_9
    change ∀ o, hfroz _ _ o = _ at fh11_9
    clear h11
    clear B
    try simp only [World.size_alloc, World.size_setCell, World.size_drew] at lo11_8 lo11_9
    have z11 := hb11.size
    have c11 := Below.cells hb11
    have f11 := Below.frozens hb11
    try simp only [World.size_alloc, World.size_setCell, World.size_drew] at z11 c11 f11
    go_wp2_with fail
    refine (K10.out _).mono ?_
    rintro e w16 ⟨rfl, hb16⟩
    have z16 := hb16.size
    have c16 := Below.cells hb16
    have f16 := Below.frozens hb16
    try simp only [World.size_alloc, World.size_setCell, World.size_drew] at z16 c16 f16
    go_wp2_with fail
    refine (K11.out _).mono ?_
    rintro e w17 ⟨rfl, hb17⟩
    have z17 := hb17.size
    have c17 := Below.cells hb17
    have f17 := Below.frozens hb17
    try simp only [World.size_alloc, World.size_setCell, World.size_drew] at z17 c17 f17
    go_wp2_with fail
    refine (K12.out _).mono ?_
    rintro e w18 ⟨rfl, hb18⟩
    have z18 := hb18.size
    have c18 := Below.cells hb18
    have f18 := Below.frozens hb18
    try simp only [World.size_alloc, World.size_setCell, World.size_drew] at z18 c18 f18
    go_wp2_with fail
    refine wp_region_quiet_all (Ext _) (by kernel_rfl) (by kernel_rfl) (Ext.drawn _) ?_
    repeat (first | go_big_quiet_skip | go_big_quiet_step (fail) | (refine BigFrame.wpQuiet_want rfl (fun K hK => ?_); apply Exists.intro; refine ⟨fun w2 h2 => ?_, ?_⟩; (next => (have g1 := Below.cells h2.below; have g2 := Below.frozens h2.below; (try simp only [World.size_alloc, World.size_setCell] at g1 g2); first | (go_simp; (go_at_call 49; refine h2.calls (N1.out _))) | (simp [go_sem, ↓IntWalk.iteOmega, *]; done) | (simp [go_sem, ↓IntWalk.iteOmega, *]; rfl)))); (go_simp; refine hK _ ?_; clear hK K))
    refine wpQuiet_nil ?_
    intro w19 h19
    have hb19 := h19.below
    clear h19
    have z19 := hb19.size
    have c19 := Below.cells hb19
    have f19 := Below.frozens hb19
    try simp only [World.size_alloc, World.size_setCell, World.size_drew] at z19 c19 f19
    go_wp2_with fail
    go_ret
    exact ⟨rfl, (by repeat (first | (with_reducible exact Below.refl _ _) | ((with_reducible refine Below.alloc ?_ ?_ _); rotate_left; (next => ((try dsimp only); (try simp only [World.size_alloc, World.size_setCell, World.size_drew]); omega))) | ((with_reducible refine Below.setCell ?_ ?_ _); rotate_left; (next => ((try dsimp only); (try simp only [World.size_alloc, World.size_setCell, World.size_drew]); omega))) | (with_reducible refine Below.drew ?_) | ((with_reducible refine Below.trans ?_ (Below.mono hb19 ?_)); rotate_left; (next => ((try dsimp only); (try simp only [World.size_alloc, World.size_setCell, World.size_drew]); omega))) | ((with_reducible refine Below.trans ?_ (Below.mono hb18 ?_)); rotate_left; (next => ((try dsimp only); (try simp only [World.size_alloc, World.size_setCell, World.size_drew]); omega))) | ((with_reducible refine Below.trans ?_ (Below.mono hb17 ?_)); rotate_left; (next => ((try dsimp only); (try simp only [World.size_alloc, World.size_setCell, World.size_drew]); omega))) | ((with_reducible refine Below.trans ?_ (Below.mono hb16 ?_)); rotate_left; (next => ((try dsimp only); (try simp only [World.size_alloc, World.size_setCell, World.size_drew]); omega))) | ((with_reducible refine Below.trans ?_ (Below.mono hb11 ?_)); rotate_left; (next => ((try dsimp only); (try simp only [World.size_alloc, World.size_setCell, World.size_drew]); omega))) | ((with_reducible refine Below.trans ?_ (Below.mono hb10 ?_)); rotate_left; (next => ((try dsimp only); (try simp only [World.size_alloc, World.size_setCell, World.size_drew]); omega))) | ((with_reducible refine Below.trans ?_ (Below.mono hb9 ?_)); rotate_left; (next => ((try dsimp only); (try simp only [World.size_alloc, World.size_setCell, World.size_drew]); omega))) | ((with_reducible refine Below.trans ?_ (Below.mono hb8 ?_)); rotate_left; (next => ((try dsimp only); (try simp only [World.size_alloc, World.size_setCell, World.size_drew]); omega))) | ((with_reducible refine Below.trans ?_ (Below.mono hb7 ?_)); rotate_left; (next => ((try dsimp only); (try simp only [World.size_alloc, World.size_setCell, World.size_drew]); omega))) | ((with_reducible refine Below.trans ?_ (Below.mono hb6 ?_)); rotate_left; (next => ((try dsimp only); (try simp only [World.size_alloc, World.size_setCell, World.size_drew]); omega))) | ((with_reducible refine Below.trans ?_ (Below.mono hb5 ?_)); rotate_left; (next => ((try dsimp only); (try simp only [World.size_alloc, World.size_setCell, World.size_drew]); omega))) | ((with_reducible refine Below.trans ?_ (Below.mono hb4 ?_)); rotate_left; (next => ((try dsimp only); (try simp only [World.size_alloc, World.size_setCell, World.size_drew]); omega))) | ((with_reducible refine Below.trans ?_ (Below.mono hb3 ?_)); rotate_left; (next => ((try dsimp only); (try simp only [World.size_alloc, World.size_setCell, World.size_drew]); omega))) | ((with_reducible refine Below.trans ?_ (Below.mono hb2 ?_)); rotate_left; (next => ((try dsimp only); (try simp only [World.size_alloc, World.size_setCell, World.size_drew]); omega))) | ((with_reducible refine Below.trans ?_ (Below.mono hb1 ?_)); rotate_left; (next => ((try dsimp only); (try simp only [World.size_alloc, World.size_setCell, World.size_drew]); omega)))))⟩
end Go.Proofs.Ytgiipelonojgaaa
