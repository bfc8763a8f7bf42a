import Derived.Test.YtnkeimpnnpndcaaW4
set_option linter.unusedSimpArgs false
set_option linter.unusedVariables false
namespace Go.Proofs.Ytnkeimpnnpndcaa
open Go.RowKit

/-- Halvings of quotients add up, to within one. -/
theorem halv_adds {a b c k m n e : Int} (c0 : 0 < c) (k0 : 0 ≤ k) (m0 : 0 ≤ m) (h1 : b * 2 ^ k.toNat ≤ a) (h2 : a < b * 2 ^ (k + 1).toNat) (h3 : c * 2 ^ m.toNat ≤ b) (h4 : b < c * 2 ^ (m + 1).toNat)
    (hn : HalvR a c n e) : e = 0 ∧ k + m ≤ n ∧ n ≤ k + m + 1 := by
  obtain ⟨i, rfl⟩ := Int.eq_ofNat_of_zero_le k0
  obtain ⟨j, rfl⟩ := Int.eq_ofNat_of_zero_le m0
  rw [show ((i : Int)).toNat = i from rfl] at h1
  rw [show ((j : Int)).toNat = j from rfl] at h3
  rw [show ((i : Int) + 1).toNat = i + 1 from by omega] at h2
  rw [show ((j : Int) + 1).toNat = j + 1 from by omega] at h4
  have pi := p2 i
  have pj := p2 j
  have lo : c * 2 ^ (j + i) ≤ a := by
    rw [Int.pow_add, ← Int.mul_assoc]
    exact Int.le_trans (Int.mul_le_mul_of_nonneg_right h3 (by omega)) h1
  have up : a < c * 2 ^ (j + i + 2) := by
    rw [show j + i + 2 = (j + 1) + (i + 1) from by omega, Int.pow_add, ← Int.mul_assoc]
    exact Int.lt_of_lt_of_le h2 (Int.mul_le_mul_of_nonneg_right (Int.le_of_lt h4) (by have := p2 (i + 1); omega))
  have cle : c * 1 ≤ c * 2 ^ (j + i) := Int.mul_le_mul_of_nonneg_left (by have := p2 (j + i); omega) (by omega)
  have mono : ∀ x y : Nat, x ≤ y → c * 2 ^ x ≤ c * 2 ^ y := fun x y h => by
    rcases Nat.lt_or_ge x y with q | q
    · exact Int.mul_le_mul_of_nonneg_left (by have := pow_lt_pow q; have := p2 x; omega) (by omega)
    · rw [show x = y from by omega]; exact Int.le_refl _
  rcases hn with ⟨rfl, _, _⟩ | ⟨_, h, _, _⟩ | ⟨_, n0, _, g1, g2, rfl⟩
  · omega
  · omega
  · obtain ⟨x, rfl⟩ := Int.eq_ofNat_of_zero_le n0
    rw [show ((x : Int)).toNat = x from rfl] at g1
    rw [show ((x : Int) + 1).toNat = x + 1 from by omega] at g2
    refine ⟨rfl, ?_, ?_⟩
    · rcases Nat.lt_or_ge x (j + i) with q | q
      · have := mono (x + 1) (j + i) (by omega); omega
      · omega
    · rcases Nat.lt_or_ge (j + i + 1) x with q | q
      · have := mono (j + i + 2) x (by omega); omega
      · omega

set_option maxHeartbeats 1000000 in
theorem shl_arg (a n : Int) {ah al : Int} (w : World) (h : 127 < n) (h1 : n ≤ 1000) :
    Calls Try.prog 27 #[.agg #[.int .u64 ah, .int .u64 al], .int .i64 n] w fun e w' =>
      e = .returned (.tuple #[.agg #[.int .u64 0, .int .u64 0], .int .i64 1]) ∧ Below w.heap.size w w' := by
  go_enter Try.func27, Try.ntmps27
  go_wp2_with fail
  refine bodyPost_ret (v := .tuple #[.agg #[.int .u64 0, .int .u64 0], .int .i64 1]) (by simp [results, Try.results27, go_sem]) rfl ?_
  exact ⟨rfl, (by repeat (first | (with_reducible exact Below.refl _ _) | ((with_reducible refine Below.alloc ?_ ?_ _); rotate_left; (next => ((try dsimp only); (try simp only [World.size_alloc, World.size_setCell, World.size_drew]); omega))) | ((with_reducible refine Below.setCell ?_ ?_ _); rotate_left; (next => ((try dsimp only); (try simp only [World.size_alloc, World.size_setCell, World.size_drew]); omega))) | (with_reducible refine Below.drew ?_) | (refine Below.trans ?_ (by assumption))))⟩

set_option maxRecDepth 100000 in
set_option maxHeartbeats 8000000 in
theorem halvingsAdd_walk (a b c : Int) (w : World) (ha : U128 a) (hb : U128 b) (hc : U128 c) :
    Calls Try.prog 6 #[.agg #[.int .u64 (hi a), .int .u64 (lo a)], .agg #[.int .u64 (hi b), .int .u64 (lo b)], .agg #[.int .u64 (hi c), .int .u64 (lo c)]] w fun e w' =>
      e = .returned (.bool true) ∧ Below w.heap.size w w' := by
  have ka := Wd.mk ha
  have kb := Wd.mk hb
  have kc := Wd.mk hc
  have qa := alloc_cells
  have qf := alloc_frozens
  obtain ⟨k, e1, r1⟩ := halvR_ex ha hb
  obtain ⟨m, e2, r2⟩ := halvR_ex hb hc
  obtain ⟨n, e3, r3⟩ := halvR_ex ha hc
  have hh1 : ∀ w', _ := fun w' => halv_any a b k e1 ka kb r1 w'
  have hh2 : ∀ w', _ := fun w' => halv_any b c m e2 kb kc r2 w'
  have hh3 : ∀ w', _ := fun w' => halv_any a c n e3 ka kc r3 w'
  have H1 := Lib.hid hh1
  have H2 := Lib.hid hh2
  have H3 := Lib.hid hh3
  clear hh1 hh2 hh3
  have hc1 : ∀ w', _ := fun w' => cmp_var a b (cmpv a b) ka kb (cmpv_spec a b) w'
  have b4 : U64 10 := by unfold U64; omega
  have b5 : U64 3 := by unfold U64; omega
  rcases r1 with ⟨q1, rfl, rfl⟩ | ⟨q1, q2, rfl, rfl⟩ | ⟨q1, q2, q3, q4, q5, rfl⟩
  · -- none to divide by
    clear q1 r2 r3 hc1
    go_enter Try.func6, Try.ntmps6
    go_wp2_with fail
    refine (num_any 10 _ (by omega) (by omega)).mono ?_
    rintro e w1 ⟨rfl, hb1⟩
    have z1 := hb1.size
    have c1 := Below.cells hb1
    have f1 := Below.frozens hb1
    try simp only [World.size_alloc, World.size_setCell, World.size_drew] at z1 c1 f1
    go_wp2_with fail
    refine (num_any 3 _ (by omega) (by omega)).mono ?_
    rintro e w2 ⟨rfl, hb2⟩
    have z2 := hb2.size
    have c2 := Below.cells hb2
    have f2 := Below.frozens hb2
    try simp only [World.size_alloc, World.size_setCell, World.size_drew] at z2 c2 f2
    go_wp2_with fail
    refine (halv_ok 10 3 1 (Wd.lit b4) (Wd.lit b5) (by omega) (by omega) (by decide) (by decide) _).mono ?_
    rintro e w3 ⟨rfl, hb3⟩
    have z3 := hb3.size
    have c3 := Below.cells hb3
    have f3 := Below.frozens hb3
    try simp only [World.size_alloc, World.size_setCell, World.size_drew] at z3 c3 f3
    go_wp2_with fail
    refine (H1.out _).mono ?_
    rintro e w4 ⟨rfl, hb4⟩
    have z4 := hb4.size
    have c4 := Below.cells hb4
    have f4 := Below.frozens hb4
    try simp only [World.size_alloc, World.size_setCell, World.size_drew] at z4 c4 f4
    go_wp2_with fail
    refine (H2.out _).mono ?_
    rintro e w5 ⟨rfl, hb5⟩
    have z5 := hb5.size
    have c5 := Below.cells hb5
    have f5 := Below.frozens hb5
    try simp only [World.size_alloc, World.size_setCell, World.size_drew] at z5 c5 f5
    go_wp2_with fail
    refine (H3.out _).mono ?_
    rintro e w6 ⟨rfl, hb6⟩
    have z6 := hb6.size
    have c6 := Below.cells hb6
    have f6 := Below.frozens hb6
    try simp only [World.size_alloc, World.size_setCell, World.size_drew] at z6 c6 f6
    go_wp2_with fail
    go_ret
    exact ⟨rfl, (by repeat (first | (with_reducible exact Below.refl _ _) | ((with_reducible refine Below.alloc ?_ ?_ _); rotate_left; (next => ((try dsimp only); (try simp only [World.size_alloc, World.size_setCell, World.size_drew]); omega))) | ((with_reducible refine Below.setCell ?_ ?_ _); rotate_left; (next => ((try dsimp only); (try simp only [World.size_alloc, World.size_setCell, World.size_drew]); omega))) | (with_reducible refine Below.drew ?_) | ((with_reducible refine Below.trans ?_ (Below.mono hb6 ?_)); rotate_left; (next => ((try dsimp only); (try simp only [World.size_alloc, World.size_setCell, World.size_drew]); omega))) | ((with_reducible refine Below.trans ?_ (Below.mono hb5 ?_)); rotate_left; (next => ((try dsimp only); (try simp only [World.size_alloc, World.size_setCell, World.size_drew]); omega))) | ((with_reducible refine Below.trans ?_ (Below.mono hb4 ?_)); rotate_left; (next => ((try dsimp only); (try simp only [World.size_alloc, World.size_setCell, World.size_drew]); omega))) | ((with_reducible refine Below.trans ?_ (Below.mono hb3 ?_)); rotate_left; (next => ((try dsimp only); (try simp only [World.size_alloc, World.size_setCell, World.size_drew]); omega))) | ((with_reducible refine Below.trans ?_ (Below.mono hb2 ?_)); rotate_left; (next => ((try dsimp only); (try simp only [World.size_alloc, World.size_setCell, World.size_drew]); omega))) | ((with_reducible refine Below.trans ?_ (Below.mono hb1 ?_)); rotate_left; (next => ((try dsimp only); (try simp only [World.size_alloc, World.size_setCell, World.size_drew]); omega)))))⟩
  · -- less
    have cv : cmpv a b = -1 := by unfold cmpv; rw [if_pos q2]
    rw [cv] at hc1
    have C1 := Lib.hid hc1
    clear q1 q2 r2 r3 hc1 cv
    go_enter Try.func6, Try.ntmps6
    go_wp2_with fail
    refine (num_any 10 _ (by omega) (by omega)).mono ?_
    rintro e w1 ⟨rfl, hb1⟩
    have z1 := hb1.size
    have c1 := Below.cells hb1
    have f1 := Below.frozens hb1
    try simp only [World.size_alloc, World.size_setCell, World.size_drew] at z1 c1 f1
    go_wp2_with fail
    refine (num_any 3 _ (by omega) (by omega)).mono ?_
    rintro e w2 ⟨rfl, hb2⟩
    have z2 := hb2.size
    have c2 := Below.cells hb2
    have f2 := Below.frozens hb2
    try simp only [World.size_alloc, World.size_setCell, World.size_drew] at z2 c2 f2
    go_wp2_with fail
    refine (halv_ok 10 3 1 (Wd.lit b4) (Wd.lit b5) (by omega) (by omega) (by decide) (by decide) _).mono ?_
    rintro e w3 ⟨rfl, hb3⟩
    have z3 := hb3.size
    have c3 := Below.cells hb3
    have f3 := Below.frozens hb3
    try simp only [World.size_alloc, World.size_setCell, World.size_drew] at z3 c3 f3
    go_wp2_with fail
    refine (H1.out _).mono ?_
    rintro e w4 ⟨rfl, hb4⟩
    have z4 := hb4.size
    have c4 := Below.cells hb4
    have f4 := Below.frozens hb4
    try simp only [World.size_alloc, World.size_setCell, World.size_drew] at z4 c4 f4
    go_wp2_with fail
    refine (H2.out _).mono ?_
    rintro e w5 ⟨rfl, hb5⟩
    have z5 := hb5.size
    have c5 := Below.cells hb5
    have f5 := Below.frozens hb5
    try simp only [World.size_alloc, World.size_setCell, World.size_drew] at z5 c5 f5
    go_wp2_with fail
    refine (H3.out _).mono ?_
    rintro e w6 ⟨rfl, hb6⟩
    have z6 := hb6.size
    have c6 := Below.cells hb6
    have f6 := Below.frozens hb6
    try simp only [World.size_alloc, World.size_setCell, World.size_drew] at z6 c6 f6
    go_wp2_with fail
    refine (C1.out _).mono ?_
    rintro e w7 ⟨rfl, hb7⟩
    have z7 := hb7.size
    have c7 := Below.cells hb7
    have f7 := Below.frozens hb7
    try simp only [World.size_alloc, World.size_setCell, World.size_drew] at z7 c7 f7
    go_wp2_with fail
    go_ret
    exact ⟨rfl, (by repeat (first | (with_reducible exact Below.refl _ _) | ((with_reducible refine Below.alloc ?_ ?_ _); rotate_left; (next => ((try dsimp only); (try simp only [World.size_alloc, World.size_setCell, World.size_drew]); omega))) | ((with_reducible refine Below.setCell ?_ ?_ _); rotate_left; (next => ((try dsimp only); (try simp only [World.size_alloc, World.size_setCell, World.size_drew]); omega))) | (with_reducible refine Below.drew ?_) | ((with_reducible refine Below.trans ?_ (Below.mono hb7 ?_)); rotate_left; (next => ((try dsimp only); (try simp only [World.size_alloc, World.size_setCell, World.size_drew]); omega))) | ((with_reducible refine Below.trans ?_ (Below.mono hb6 ?_)); rotate_left; (next => ((try dsimp only); (try simp only [World.size_alloc, World.size_setCell, World.size_drew]); omega))) | ((with_reducible refine Below.trans ?_ (Below.mono hb5 ?_)); rotate_left; (next => ((try dsimp only); (try simp only [World.size_alloc, World.size_setCell, World.size_drew]); omega))) | ((with_reducible refine Below.trans ?_ (Below.mono hb4 ?_)); rotate_left; (next => ((try dsimp only); (try simp only [World.size_alloc, World.size_setCell, World.size_drew]); omega))) | ((with_reducible refine Below.trans ?_ (Below.mono hb3 ?_)); rotate_left; (next => ((try dsimp only); (try simp only [World.size_alloc, World.size_setCell, World.size_drew]); omega))) | ((with_reducible refine Below.trans ?_ (Below.mono hb2 ?_)); rotate_left; (next => ((try dsimp only); (try simp only [World.size_alloc, World.size_setCell, World.size_drew]); omega))) | ((with_reducible refine Below.trans ?_ (Below.mono hb1 ?_)); rotate_left; (next => ((try dsimp only); (try simp only [World.size_alloc, World.size_setCell, World.size_drew]); omega)))))⟩
  · -- some
    clear hc1
    have ux : U128 (b * 2 ^ k.toNat) := by
      have := Int.mul_nonneg hb.1 (show (0 : Int) ≤ 2 ^ k.toNat by have := p2 k.toNat; omega)
      unfold U128 at ha ⊢; omega
    obtain ⟨x, hx⟩ : ∃ x, b * 2 ^ k.toNat = x := ⟨_, rfl⟩
    obtain ⟨y, hy⟩ : ∃ y, b * 2 ^ (k + 1).toNat = y := ⟨_, rfl⟩
    have fit : e2 = 0 → e3 = 0 ∧ k + m ≤ n ∧ n ≤ k + m + 1 := fun h0 => by
      rcases r2 with ⟨_, _, h⟩ | ⟨_, _, _, h⟩ | ⟨s1, s2, s3, s4, s5, h⟩
      · omega
      · omega
      · exact halv_adds s1 q2 s2 q4 q5 s4 s5 r3
    have m0 : 0 ≤ m ∧ m ≤ 127 := by
      rcases r2 with ⟨_, h, _⟩ | ⟨_, _, h, _⟩ | ⟨s1, s2, s3, s4, s5, h⟩ <;> omega
    have n0 : 0 ≤ n ∧ n ≤ 127 := by
      rcases r3 with ⟨_, h, _⟩ | ⟨_, _, h, _⟩ | ⟨s1, s2, s3, s4, s5, h⟩ <;> omega
    have k126 : k + 1 ≤ 127 ∨ ¬ U128 y := by
      by_cases h : k + 1 ≤ 127
      · exact .inl h
      · right
        rw [← hy, show (k + 1).toNat = 128 from by omega]
        intro hu
        have p128 : (2 : Int) ^ 128 = 340282366920938463463374607431768211456 := rfl
        have : (1 : Int) * 2 ^ 128 ≤ b * 2 ^ 128 := Int.mul_le_mul_of_nonneg_right (by omega) (by have := p2 128; omega)
        have := hu.2
        omega
    rw [hx] at q4 ux
    rw [hy] at q5
    have hlow : ∀ w', _ := fun w' => shl_ok b k x kb w' q2 q3 hx ux
    have hcl : ∀ w', _ := fun w' => cmp_var x a (cmpv x a) (Wd.mk ux) ka (cmpv_spec x a) w'
    have cl : cmpv x a ≤ 0 := by unfold cmpv; split; omega; split <;> omega
    obtain ⟨v, hv⟩ : ∃ v, cmpv x a = v := ⟨_, rfl⟩
    rw [hv] at hcl cl
    have cl' : decide (0 < v) = false := by simp; omega
    have hhigh : (U128 y ∧ ∀ w', Calls Try.prog 27 #[.agg #[.int .u64 (hi b), .int .u64 (lo b)], .int .i64 (k + 1)] w' fun e w'' => e = .returned (.tuple #[.agg #[.int .u64 (hi y), .int .u64 (lo y)], .int .i64 0]) ∧ Below w'.heap.size w' w'') ∨
        ∃ f : Int, (f == 0) = false ∧ ∀ w', Calls Try.prog 27 #[.agg #[.int .u64 (hi b), .int .u64 (lo b)], .int .i64 (k + 1)] w' fun e w'' => e = .returned (.tuple #[.agg #[.int .u64 0, .int .u64 0], .int .i64 f]) ∧ Below w'.heap.size w' w'' := by
      by_cases d : k + 1 ≤ 127
      · by_cases uy : U128 y
        · exact .inl ⟨uy, fun w' => shl_ok b (k + 1) y kb w' (by omega) d hy uy⟩
        · exact .inr ⟨2, rfl, fun w' => shl_large b (k + 1) kb w' (by omega) d (by rw [hy]; exact uy)⟩
      · exact .inr ⟨1, rfl, fun w' => shl_arg b (k + 1) w' (by omega) (by omega)⟩
    have ek : IntKind.i64.wrap (k + 1) = k + 1 := IntWalk.i64_in _ (by omega)
    have ekm : IntKind.i64.wrap (k + m) = k + m := IntWalk.i64_in _ (by omega)
    have ekm1 : IntKind.i64.wrap (k + m + 1) = k + m + 1 := IntWalk.i64_in _ (by omega)
    have Hlow := Lib.hid hlow
    have Hcl := Lib.hid hcl
    clear hlow hcl hx hv r2 r3 k126 q1 q4
    rcases hhigh with ⟨uy, hhigh⟩ | ⟨f, f0, hhigh⟩
    · have hch : ∀ w', _ := fun w' => cmp_gt y a (Wd.mk uy) ka q5 w'
      have Hhigh := Lib.hid hhigh
      have Hch := Lib.hid hch
      clear hhigh hch hy q5
      by_cases g : e2 = 0
      · obtain ⟨g1, g2, g3⟩ := fit g
        subst g g1
        clear fit
        go_enter Try.func6, Try.ntmps6
        go_wp2_with fail
        refine (num_any 10 _ (by omega) (by omega)).mono ?_
        rintro e w1 ⟨rfl, hb1⟩
        have z1 := hb1.size
        have c1 := Below.cells hb1
        have f1 := Below.frozens hb1
        try simp only [World.size_alloc, World.size_setCell, World.size_drew] at z1 c1 f1
        go_wp2_with fail
        refine (num_any 3 _ (by omega) (by omega)).mono ?_
        rintro e w2 ⟨rfl, hb2⟩
        have z2 := hb2.size
        have c2 := Below.cells hb2
        have f2 := Below.frozens hb2
        try simp only [World.size_alloc, World.size_setCell, World.size_drew] at z2 c2 f2
        go_wp2_with fail
        refine (halv_ok 10 3 1 (Wd.lit b4) (Wd.lit b5) (by omega) (by omega) (by decide) (by decide) _).mono ?_
        rintro e w3 ⟨rfl, hb3⟩
        have z3 := hb3.size
        have c3 := Below.cells hb3
        have f3 := Below.frozens hb3
        try simp only [World.size_alloc, World.size_setCell, World.size_drew] at z3 c3 f3
        go_wp2_with fail
        refine (H1.out _).mono ?_
        rintro e w4 ⟨rfl, hb4⟩
        have z4 := hb4.size
        have c4 := Below.cells hb4
        have f4 := Below.frozens hb4
        try simp only [World.size_alloc, World.size_setCell, World.size_drew] at z4 c4 f4
        go_wp2_with fail
        refine (H2.out _).mono ?_
        rintro e w5 ⟨rfl, hb5⟩
        have z5 := hb5.size
        have c5 := Below.cells hb5
        have f5 := Below.frozens hb5
        try simp only [World.size_alloc, World.size_setCell, World.size_drew] at z5 c5 f5
        go_wp2_with fail
        refine (H3.out _).mono ?_
        rintro e w6 ⟨rfl, hb6⟩
        have z6 := hb6.size
        have c6 := Below.cells hb6
        have f6 := Below.frozens hb6
        try simp only [World.size_alloc, World.size_setCell, World.size_drew] at z6 c6 f6
        go_wp2_with fail
        refine (Hlow.out _).mono ?_
        rintro e w7 ⟨rfl, hb7⟩
        have z7 := hb7.size
        have c7 := Below.cells hb7
        have f7 := Below.frozens hb7
        try simp only [World.size_alloc, World.size_setCell, World.size_drew] at z7 c7 f7
        go_wp2_with fail
        refine (Hhigh.out _).mono ?_
        rintro e w8 ⟨rfl, hb8⟩
        have z8 := hb8.size
        have c8 := Below.cells hb8
        have f8 := Below.frozens hb8
        try simp only [World.size_alloc, World.size_setCell, World.size_drew] at z8 c8 f8
        go_wp2_with fail
        refine (Hcl.out _).mono ?_
        rintro e w9 ⟨rfl, hb9⟩
        have z9 := hb9.size
        have c9 := Below.cells hb9
        have f9 := Below.frozens hb9
        try simp only [World.size_alloc, World.size_setCell, World.size_drew] at z9 c9 f9
        go_wp2_with fail
        refine (Hch.out _).mono ?_
        rintro e w10 ⟨rfl, hb10⟩
        have z10 := hb10.size
        have c10 := Below.cells hb10
        have f10 := Below.frozens hb10
        try simp only [World.size_alloc, World.size_setCell, World.size_drew] at z10 c10 f10
        go_wp2_with fail
        go_ret
        exact ⟨rfl, (by repeat (first | (with_reducible exact Below.refl _ _) | ((with_reducible refine Below.alloc ?_ ?_ _); rotate_left; (next => ((try dsimp only); (try simp only [World.size_alloc, World.size_setCell, World.size_drew]); omega))) | ((with_reducible refine Below.setCell ?_ ?_ _); rotate_left; (next => ((try dsimp only); (try simp only [World.size_alloc, World.size_setCell, World.size_drew]); omega))) | (with_reducible refine Below.drew ?_) | ((with_reducible refine Below.trans ?_ (Below.mono hb10 ?_)); rotate_left; (next => ((try dsimp only); (try simp only [World.size_alloc, World.size_setCell, World.size_drew]); omega))) | ((with_reducible refine Below.trans ?_ (Below.mono hb9 ?_)); rotate_left; (next => ((try dsimp only); (try simp only [World.size_alloc, World.size_setCell, World.size_drew]); omega))) | ((with_reducible refine Below.trans ?_ (Below.mono hb8 ?_)); rotate_left; (next => ((try dsimp only); (try simp only [World.size_alloc, World.size_setCell, World.size_drew]); omega))) | ((with_reducible refine Below.trans ?_ (Below.mono hb7 ?_)); rotate_left; (next => ((try dsimp only); (try simp only [World.size_alloc, World.size_setCell, World.size_drew]); omega))) | ((with_reducible refine Below.trans ?_ (Below.mono hb6 ?_)); rotate_left; (next => ((try dsimp only); (try simp only [World.size_alloc, World.size_setCell, World.size_drew]); omega))) | ((with_reducible refine Below.trans ?_ (Below.mono hb5 ?_)); rotate_left; (next => ((try dsimp only); (try simp only [World.size_alloc, World.size_setCell, World.size_drew]); omega))) | ((with_reducible refine Below.trans ?_ (Below.mono hb4 ?_)); rotate_left; (next => ((try dsimp only); (try simp only [World.size_alloc, World.size_setCell, World.size_drew]); omega))) | ((with_reducible refine Below.trans ?_ (Below.mono hb3 ?_)); rotate_left; (next => ((try dsimp only); (try simp only [World.size_alloc, World.size_setCell, World.size_drew]); omega))) | ((with_reducible refine Below.trans ?_ (Below.mono hb2 ?_)); rotate_left; (next => ((try dsimp only); (try simp only [World.size_alloc, World.size_setCell, World.size_drew]); omega))) | ((with_reducible refine Below.trans ?_ (Below.mono hb1 ?_)); rotate_left; (next => ((try dsimp only); (try simp only [World.size_alloc, World.size_setCell, World.size_drew]); omega)))))⟩
      · have g' : (e2 != 0) = true := by simpa using g
        clear fit g
        go_enter Try.func6, Try.ntmps6
        go_wp2_with fail
        refine (num_any 10 _ (by omega) (by omega)).mono ?_
        rintro e w1 ⟨rfl, hb1⟩
        have z1 := hb1.size
        have c1 := Below.cells hb1
        have f1 := Below.frozens hb1
        try simp only [World.size_alloc, World.size_setCell, World.size_drew] at z1 c1 f1
        go_wp2_with fail
        refine (num_any 3 _ (by omega) (by omega)).mono ?_
        rintro e w2 ⟨rfl, hb2⟩
        have z2 := hb2.size
        have c2 := Below.cells hb2
        have f2 := Below.frozens hb2
        try simp only [World.size_alloc, World.size_setCell, World.size_drew] at z2 c2 f2
        go_wp2_with fail
        refine (halv_ok 10 3 1 (Wd.lit b4) (Wd.lit b5) (by omega) (by omega) (by decide) (by decide) _).mono ?_
        rintro e w3 ⟨rfl, hb3⟩
        have z3 := hb3.size
        have c3 := Below.cells hb3
        have f3 := Below.frozens hb3
        try simp only [World.size_alloc, World.size_setCell, World.size_drew] at z3 c3 f3
        go_wp2_with fail
        refine (H1.out _).mono ?_
        rintro e w4 ⟨rfl, hb4⟩
        have z4 := hb4.size
        have c4 := Below.cells hb4
        have f4 := Below.frozens hb4
        try simp only [World.size_alloc, World.size_setCell, World.size_drew] at z4 c4 f4
        go_wp2_with fail
        refine (H2.out _).mono ?_
        rintro e w5 ⟨rfl, hb5⟩
        have z5 := hb5.size
        have c5 := Below.cells hb5
        have f5 := Below.frozens hb5
        try simp only [World.size_alloc, World.size_setCell, World.size_drew] at z5 c5 f5
        go_wp2_with fail
        refine (H3.out _).mono ?_
        rintro e w6 ⟨rfl, hb6⟩
        have z6 := hb6.size
        have c6 := Below.cells hb6
        have f6 := Below.frozens hb6
        try simp only [World.size_alloc, World.size_setCell, World.size_drew] at z6 c6 f6
        go_wp2_with fail
        refine (Hlow.out _).mono ?_
        rintro e w7 ⟨rfl, hb7⟩
        have z7 := hb7.size
        have c7 := Below.cells hb7
        have f7 := Below.frozens hb7
        try simp only [World.size_alloc, World.size_setCell, World.size_drew] at z7 c7 f7
        go_wp2_with fail
        refine (Hhigh.out _).mono ?_
        rintro e w8 ⟨rfl, hb8⟩
        have z8 := hb8.size
        have c8 := Below.cells hb8
        have f8 := Below.frozens hb8
        try simp only [World.size_alloc, World.size_setCell, World.size_drew] at z8 c8 f8
        go_wp2_with fail
        refine (Hcl.out _).mono ?_
        rintro e w9 ⟨rfl, hb9⟩
        have z9 := hb9.size
        have c9 := Below.cells hb9
        have f9 := Below.frozens hb9
        try simp only [World.size_alloc, World.size_setCell, World.size_drew] at z9 c9 f9
        go_wp2_with fail
        refine (Hch.out _).mono ?_
        rintro e w10 ⟨rfl, hb10⟩
        have z10 := hb10.size
        have c10 := Below.cells hb10
        have f10 := Below.frozens hb10
        try simp only [World.size_alloc, World.size_setCell, World.size_drew] at z10 c10 f10
        go_wp2_with fail
        go_ret
        exact ⟨rfl, (by repeat (first | (with_reducible exact Below.refl _ _) | ((with_reducible refine Below.alloc ?_ ?_ _); rotate_left; (next => ((try dsimp only); (try simp only [World.size_alloc, World.size_setCell, World.size_drew]); omega))) | ((with_reducible refine Below.setCell ?_ ?_ _); rotate_left; (next => ((try dsimp only); (try simp only [World.size_alloc, World.size_setCell, World.size_drew]); omega))) | (with_reducible refine Below.drew ?_) | ((with_reducible refine Below.trans ?_ (Below.mono hb10 ?_)); rotate_left; (next => ((try dsimp only); (try simp only [World.size_alloc, World.size_setCell, World.size_drew]); omega))) | ((with_reducible refine Below.trans ?_ (Below.mono hb9 ?_)); rotate_left; (next => ((try dsimp only); (try simp only [World.size_alloc, World.size_setCell, World.size_drew]); omega))) | ((with_reducible refine Below.trans ?_ (Below.mono hb8 ?_)); rotate_left; (next => ((try dsimp only); (try simp only [World.size_alloc, World.size_setCell, World.size_drew]); omega))) | ((with_reducible refine Below.trans ?_ (Below.mono hb7 ?_)); rotate_left; (next => ((try dsimp only); (try simp only [World.size_alloc, World.size_setCell, World.size_drew]); omega))) | ((with_reducible refine Below.trans ?_ (Below.mono hb6 ?_)); rotate_left; (next => ((try dsimp only); (try simp only [World.size_alloc, World.size_setCell, World.size_drew]); omega))) | ((with_reducible refine Below.trans ?_ (Below.mono hb5 ?_)); rotate_left; (next => ((try dsimp only); (try simp only [World.size_alloc, World.size_setCell, World.size_drew]); omega))) | ((with_reducible refine Below.trans ?_ (Below.mono hb4 ?_)); rotate_left; (next => ((try dsimp only); (try simp only [World.size_alloc, World.size_setCell, World.size_drew]); omega))) | ((with_reducible refine Below.trans ?_ (Below.mono hb3 ?_)); rotate_left; (next => ((try dsimp only); (try simp only [World.size_alloc, World.size_setCell, World.size_drew]); omega))) | ((with_reducible refine Below.trans ?_ (Below.mono hb2 ?_)); rotate_left; (next => ((try dsimp only); (try simp only [World.size_alloc, World.size_setCell, World.size_drew]); omega))) | ((with_reducible refine Below.trans ?_ (Below.mono hb1 ?_)); rotate_left; (next => ((try dsimp only); (try simp only [World.size_alloc, World.size_setCell, World.size_drew]); omega)))))⟩
    · have Hhigh := Lib.hid hhigh
      clear hhigh hy q5
      by_cases g : e2 = 0
      · obtain ⟨g1, g2, g3⟩ := fit g
        subst g g1
        clear fit
        go_enter Try.func6, Try.ntmps6
        go_wp2_with fail
        refine (num_any 10 _ (by omega) (by omega)).mono ?_
        rintro e w1 ⟨rfl, hb1⟩
        have z1 := hb1.size
        have c1 := Below.cells hb1
        have f1 := Below.frozens hb1
        try simp only [World.size_alloc, World.size_setCell, World.size_drew] at z1 c1 f1
        go_wp2_with fail
        refine (num_any 3 _ (by omega) (by omega)).mono ?_
        rintro e w2 ⟨rfl, hb2⟩
        have z2 := hb2.size
        have c2 := Below.cells hb2
        have f2 := Below.frozens hb2
        try simp only [World.size_alloc, World.size_setCell, World.size_drew] at z2 c2 f2
        go_wp2_with fail
        refine (halv_ok 10 3 1 (Wd.lit b4) (Wd.lit b5) (by omega) (by omega) (by decide) (by decide) _).mono ?_
        rintro e w3 ⟨rfl, hb3⟩
        have z3 := hb3.size
        have c3 := Below.cells hb3
        have f3 := Below.frozens hb3
        try simp only [World.size_alloc, World.size_setCell, World.size_drew] at z3 c3 f3
        go_wp2_with fail
        refine (H1.out _).mono ?_
        rintro e w4 ⟨rfl, hb4⟩
        have z4 := hb4.size
        have c4 := Below.cells hb4
        have f4 := Below.frozens hb4
        try simp only [World.size_alloc, World.size_setCell, World.size_drew] at z4 c4 f4
        go_wp2_with fail
        refine (H2.out _).mono ?_
        rintro e w5 ⟨rfl, hb5⟩
        have z5 := hb5.size
        have c5 := Below.cells hb5
        have f5 := Below.frozens hb5
        try simp only [World.size_alloc, World.size_setCell, World.size_drew] at z5 c5 f5
        go_wp2_with fail
        refine (H3.out _).mono ?_
        rintro e w6 ⟨rfl, hb6⟩
        have z6 := hb6.size
        have c6 := Below.cells hb6
        have f6 := Below.frozens hb6
        try simp only [World.size_alloc, World.size_setCell, World.size_drew] at z6 c6 f6
        go_wp2_with fail
        refine (Hlow.out _).mono ?_
        rintro e w7 ⟨rfl, hb7⟩
        have z7 := hb7.size
        have c7 := Below.cells hb7
        have f7 := Below.frozens hb7
        try simp only [World.size_alloc, World.size_setCell, World.size_drew] at z7 c7 f7
        go_wp2_with fail
        refine (Hhigh.out _).mono ?_
        rintro e w8 ⟨rfl, hb8⟩
        have z8 := hb8.size
        have c8 := Below.cells hb8
        have f8 := Below.frozens hb8
        try simp only [World.size_alloc, World.size_setCell, World.size_drew] at z8 c8 f8
        go_wp2_with fail
        refine (Hcl.out _).mono ?_
        rintro e w9 ⟨rfl, hb9⟩
        have z9 := hb9.size
        have c9 := Below.cells hb9
        have f9 := Below.frozens hb9
        try simp only [World.size_alloc, World.size_setCell, World.size_drew] at z9 c9 f9
        go_wp2_with fail
        go_ret
        exact ⟨rfl, (by repeat (first | (with_reducible exact Below.refl _ _) | ((with_reducible refine Below.alloc ?_ ?_ _); rotate_left; (next => ((try dsimp only); (try simp only [World.size_alloc, World.size_setCell, World.size_drew]); omega))) | ((with_reducible refine Below.setCell ?_ ?_ _); rotate_left; (next => ((try dsimp only); (try simp only [World.size_alloc, World.size_setCell, World.size_drew]); omega))) | (with_reducible refine Below.drew ?_) | ((with_reducible refine Below.trans ?_ (Below.mono hb9 ?_)); rotate_left; (next => ((try dsimp only); (try simp only [World.size_alloc, World.size_setCell, World.size_drew]); omega))) | ((with_reducible refine Below.trans ?_ (Below.mono hb8 ?_)); rotate_left; (next => ((try dsimp only); (try simp only [World.size_alloc, World.size_setCell, World.size_drew]); omega))) | ((with_reducible refine Below.trans ?_ (Below.mono hb7 ?_)); rotate_left; (next => ((try dsimp only); (try simp only [World.size_alloc, World.size_setCell, World.size_drew]); omega))) | ((with_reducible refine Below.trans ?_ (Below.mono hb6 ?_)); rotate_left; (next => ((try dsimp only); (try simp only [World.size_alloc, World.size_setCell, World.size_drew]); omega))) | ((with_reducible refine Below.trans ?_ (Below.mono hb5 ?_)); rotate_left; (next => ((try dsimp only); (try simp only [World.size_alloc, World.size_setCell, World.size_drew]); omega))) | ((with_reducible refine Below.trans ?_ (Below.mono hb4 ?_)); rotate_left; (next => ((try dsimp only); (try simp only [World.size_alloc, World.size_setCell, World.size_drew]); omega))) | ((with_reducible refine Below.trans ?_ (Below.mono hb3 ?_)); rotate_left; (next => ((try dsimp only); (try simp only [World.size_alloc, World.size_setCell, World.size_drew]); omega))) | ((with_reducible refine Below.trans ?_ (Below.mono hb2 ?_)); rotate_left; (next => ((try dsimp only); (try simp only [World.size_alloc, World.size_setCell, World.size_drew]); omega))) | ((with_reducible refine Below.trans ?_ (Below.mono hb1 ?_)); rotate_left; (next => ((try dsimp only); (try simp only [World.size_alloc, World.size_setCell, World.size_drew]); omega)))))⟩
      · have g' : (e2 != 0) = true := by simpa using g
        clear fit g
        go_enter Try.func6, Try.ntmps6
        go_wp2_with fail
        refine (num_any 10 _ (by omega) (by omega)).mono ?_
        rintro e w1 ⟨rfl, hb1⟩
        have z1 := hb1.size
        have c1 := Below.cells hb1
        have f1 := Below.frozens hb1
        try simp only [World.size_alloc, World.size_setCell, World.size_drew] at z1 c1 f1
        go_wp2_with fail
        refine (num_any 3 _ (by omega) (by omega)).mono ?_
        rintro e w2 ⟨rfl, hb2⟩
        have z2 := hb2.size
        have c2 := Below.cells hb2
        have f2 := Below.frozens hb2
        try simp only [World.size_alloc, World.size_setCell, World.size_drew] at z2 c2 f2
        go_wp2_with fail
        refine (halv_ok 10 3 1 (Wd.lit b4) (Wd.lit b5) (by omega) (by omega) (by decide) (by decide) _).mono ?_
        rintro e w3 ⟨rfl, hb3⟩
        have z3 := hb3.size
        have c3 := Below.cells hb3
        have f3 := Below.frozens hb3
        try simp only [World.size_alloc, World.size_setCell, World.size_drew] at z3 c3 f3
        go_wp2_with fail
        refine (H1.out _).mono ?_
        rintro e w4 ⟨rfl, hb4⟩
        have z4 := hb4.size
        have c4 := Below.cells hb4
        have f4 := Below.frozens hb4
        try simp only [World.size_alloc, World.size_setCell, World.size_drew] at z4 c4 f4
        go_wp2_with fail
        refine (H2.out _).mono ?_
        rintro e w5 ⟨rfl, hb5⟩
        have z5 := hb5.size
        have c5 := Below.cells hb5
        have f5 := Below.frozens hb5
        try simp only [World.size_alloc, World.size_setCell, World.size_drew] at z5 c5 f5
        go_wp2_with fail
        refine (H3.out _).mono ?_
        rintro e w6 ⟨rfl, hb6⟩
        have z6 := hb6.size
        have c6 := Below.cells hb6
        have f6 := Below.frozens hb6
        try simp only [World.size_alloc, World.size_setCell, World.size_drew] at z6 c6 f6
        go_wp2_with fail
        refine (Hlow.out _).mono ?_
        rintro e w7 ⟨rfl, hb7⟩
        have z7 := hb7.size
        have c7 := Below.cells hb7
        have f7 := Below.frozens hb7
        try simp only [World.size_alloc, World.size_setCell, World.size_drew] at z7 c7 f7
        go_wp2_with fail
        refine (Hhigh.out _).mono ?_
        rintro e w8 ⟨rfl, hb8⟩
        have z8 := hb8.size
        have c8 := Below.cells hb8
        have f8 := Below.frozens hb8
        try simp only [World.size_alloc, World.size_setCell, World.size_drew] at z8 c8 f8
        go_wp2_with fail
        refine (Hcl.out _).mono ?_
        rintro e w9 ⟨rfl, hb9⟩
        have z9 := hb9.size
        have c9 := Below.cells hb9
        have f9 := Below.frozens hb9
        try simp only [World.size_alloc, World.size_setCell, World.size_drew] at z9 c9 f9
        go_wp2_with fail
        go_ret
        exact ⟨rfl, (by repeat (first | (with_reducible exact Below.refl _ _) | ((with_reducible refine Below.alloc ?_ ?_ _); rotate_left; (next => ((try dsimp only); (try simp only [World.size_alloc, World.size_setCell, World.size_drew]); omega))) | ((with_reducible refine Below.setCell ?_ ?_ _); rotate_left; (next => ((try dsimp only); (try simp only [World.size_alloc, World.size_setCell, World.size_drew]); omega))) | (with_reducible refine Below.drew ?_) | ((with_reducible refine Below.trans ?_ (Below.mono hb9 ?_)); rotate_left; (next => ((try dsimp only); (try simp only [World.size_alloc, World.size_setCell, World.size_drew]); omega))) | ((with_reducible refine Below.trans ?_ (Below.mono hb8 ?_)); rotate_left; (next => ((try dsimp only); (try simp only [World.size_alloc, World.size_setCell, World.size_drew]); omega))) | ((with_reducible refine Below.trans ?_ (Below.mono hb7 ?_)); rotate_left; (next => ((try dsimp only); (try simp only [World.size_alloc, World.size_setCell, World.size_drew]); omega))) | ((with_reducible refine Below.trans ?_ (Below.mono hb6 ?_)); rotate_left; (next => ((try dsimp only); (try simp only [World.size_alloc, World.size_setCell, World.size_drew]); omega))) | ((with_reducible refine Below.trans ?_ (Below.mono hb5 ?_)); rotate_left; (next => ((try dsimp only); (try simp only [World.size_alloc, World.size_setCell, World.size_drew]); omega))) | ((with_reducible refine Below.trans ?_ (Below.mono hb4 ?_)); rotate_left; (next => ((try dsimp only); (try simp only [World.size_alloc, World.size_setCell, World.size_drew]); omega))) | ((with_reducible refine Below.trans ?_ (Below.mono hb3 ?_)); rotate_left; (next => ((try dsimp only); (try simp only [World.size_alloc, World.size_setCell, World.size_drew]); omega))) | ((with_reducible refine Below.trans ?_ (Below.mono hb2 ?_)); rotate_left; (next => ((try dsimp only); (try simp only [World.size_alloc, World.size_setCell, World.size_drew]); omega))) | ((with_reducible refine Below.trans ?_ (Below.mono hb1 ?_)); rotate_left; (next => ((try dsimp only); (try simp only [World.size_alloc, World.size_setCell, World.size_drew]); omega)))))⟩
end Go.Proofs.Ytnkeimpnnpndcaa
