import Derived.Test.YtlnagfmaiabhaaaDq
import Derived.Test.YtlnagfmaiabhaaaLdeclong
set_option linter.unusedSimpArgs false
set_option linter.unusedVariables false
namespace Go.Proofs.Ytlnagfmaiabhaaa
open Go Go.RowKit
theorem mkB_list (l : List Nat) : (mkB l).toList = l.map UInt8.ofNat := by rw [ByteArray.toList_eq]; simp [mkB]
theorem less_lex : ∀ (l m : List Nat), Bytes l → Bytes m → Op.bytesLess (l.map UInt8.ofNat) (m.map UInt8.ofNat) = lexLt l m := by
  intro l
  induction l with
  | nil => intro m _ _; cases m <;> rfl
  | cons x l ih =>
    intro m hl hm
    cases m with
    | nil => rfl
    | cons y m =>
      have hx : x < 256 := hl x (by simp)
      have hy : y < 256 := hm y (by simp)
      have h1 : (UInt8.ofNat x < UInt8.ofNat y) ↔ x < y := by
        rw [UInt8.lt_iff_toNat_lt]
        simp
        rw [Nat.mod_eq_of_lt hx, Nat.mod_eq_of_lt hy]
      have h2 : (UInt8.ofNat x = UInt8.ofNat y) ↔ x = y := by
        rw [← UInt8.toNat_inj]
        simp
        rw [Nat.mod_eq_of_lt hx, Nat.mod_eq_of_lt hy]
      simp only [List.map_cons, Op.bytesLess, lexLt]
      rw [ih m (fun b hb => hl b (by simp [hb])) (fun b hb => hm b (by simp [hb]))]
      have e1 : decide (UInt8.ofNat x < UInt8.ofNat y) = decide (x < y) := by simp only [h1]
      have e2 : (UInt8.ofNat x == UInt8.ofNat y) = (x == y) := by rw [Bool.eq_iff_iff, beq_iff_eq, beq_iff_eq]; exact h2
      rw [e1, e2]
theorem txt_two64 : mkB (txt 18446744073709551616) = ⟨#[49, 56, 52, 52, 54, 55, 52, 52, 48, 55, 51, 55, 48, 57, 53, 53, 49, 54, 49, 54]⟩ := by
  have h := txt_pv _ [49, 56, 52, 52, 54, 55, 52, 52, 48, 55, 51, 55, 48, 57, 53, 53, 49, 54, 49, 54] rfl ⟨by unfold Dig; decide, by simp, by simp⟩
  rw [show pv [49, 56, 52, 52, 54, 55, 52, 52, 48, 55, 51, 55, 48, 57, 53, 53, 49, 54, 49, 54] = 18446744073709551616 by decide] at h
  rw [h]
  rfl

theorem parse_any (s : ByteArray) (hm : s.size ≤ 9223372036854775807) :
    (∃ k : Int, ¬ k = 0 ∧ ∀ w, Calls Try.prog 28 #[.string s] w fun e w' => e = .returned (.tuple #[.agg #[.int .u64 0, .int .u64 0], .int .i64 k]) ∧ Below w.heap.size w w') ∨
    (∃ V : Nat, U128 (V : Int) ∧ txt V = byts s ∧ ∀ w, Calls Try.prog 28 #[.string s] w fun e w' => e = .returned (.tuple #[.agg #[.int .u64 (hi V), .int .u64 (lo V)], .int .i64 0]) ∧ Below w.heap.size w w') := by
  by_cases h0 : s.size = 0
  · exact .inl ⟨3, by omega, fun w => parse_empty s w h0⟩
  by_cases h1 : 1 < s.size ∧ (byts s).getD 0 0 = 48
  · exact .inl ⟨3, by omega, fun w => parse_lead s w h1.1 h1.2⟩
  by_cases hd : Dig (byts s)
  · have hn : Num (byts s) := ⟨hd, fun e => h0 (by have := congrArg List.length e; rw [byts_len] at this; simpa using this), fun h => by rw [byts_len] at h; exact fun e => h1 ⟨h, e⟩⟩
    by_cases hv : U128 ((pv (byts s) : Nat) : Int)
    · exact .inr ⟨pv (byts s), hv, txt_pv _ _ rfl hn, fun w => parse_val s _ _ w hm hn rfl (.inl ⟨hv, rfl⟩)⟩
    · exact .inl ⟨2, by omega, fun w => parse_val s _ _ w hm hn rfl (.inr ⟨hv, rfl⟩)⟩
  · exact .inl ⟨3, by omega, fun w => parse_bad s w hm (by omega) (by
      by_cases c : 1 < s.size
      · exact .inr ⟨c, fun e => h1 ⟨c, e⟩⟩
      · exact .inl (by omega)) hd⟩

set_option maxRecDepth 100000 in
set_option maxHeartbeats 8000000 in
theorem decBack_walk (a b : Int) (s : ByteArray) (w : World) (ha : U128 a) (hb : U128 b) (hs : s.size ≤ 140737488351232) :
    Calls Try.prog 12 #[.agg #[.int .u64 (hi a), .int .u64 (lo a)], .agg #[.int .u64 (hi b), .int .u64 (lo b)], .string s] w fun e w' =>
      e = .returned (.bool true) ∧ Below w.heap.size w w' := by
  obtain ⟨N, rfl⟩ := Int.eq_ofNat_of_zero_le ha.nonneg
  obtain ⟨M, rfl⟩ := Int.eq_ofNat_of_zero_le hb.nonneg
  have t0 : ∀ w, Calls Try.prog 29 #[.agg #[.int .u64 1, .int .u64 0]] w fun e w' => e = .returned (.string ⟨#[49, 56, 52, 52, 54, 55, 52, 52, 48, 55, 51, 55, 48, 57, 53, 53, 49, 54, 49, 54]⟩) ∧ Below w.heap.size w w' := fun w => by
    rw [← txt_two64]; exact text_ok 18446744073709551616 (by unfold Wd U128 hi lo; omega) w
  obtain ⟨ta, hta⟩ : ∃ s, mkB (txt N) = s := ⟨_, rfl⟩
  obtain ⟨tb, htb⟩ : ∃ s, mkB (txt M) = s := ⟨_, rfl⟩
  have ba : byts ta = txt N := by rw [← hta]; exact byts_mkB (dig_bytes (txt_dig N))
  have sa : ta.size = (txt N).length := by rw [← hta, mkB_size]
  have sb : tb.size = (txt M).length := by rw [← htb, mkB_size]
  have la := txt_len39 (n := N) (by unfold U128 at ha; omega)
  have lb := txt_len39 (n := M) (by unfold U128 at hb; omega)
  have hless : Op.bytesLess ta.toList tb.toList = lexLt (txt N) (txt M) := by
    rw [← hta, ← htb, mkB_list, mkB_list]
    exact less_lex _ _ (dig_bytes (txt_dig N)) (dig_bytes (txt_dig M))
  have t1 : ∀ w, _ := fun w => text_ok N (Wd.mk ha) w
  have t2 : ∀ w, _ := fun w => text_ok M (Wd.mk hb) w
  rw [hta] at t1
  rw [htb] at t2
  have p1 : ∀ w, Calls Try.prog 28 #[.string ta] w fun e w' => e = .returned (.tuple #[.agg #[.int .u64 (hi (N : Int)), .int .u64 (lo (N : Int))], .int .i64 0]) ∧ Below w.heap.size w w' := fun w =>
    parse_val ta N _ w (by omega) (by rw [ba]; exact txt_num N) (by rw [ba]; exact pv_txt N) (.inl ⟨ha, rfl⟩)
  have hz : ∃ z : Int, (∀ w, Calls Try.prog 15 #[.agg #[.int .u64 (hi (N : Int)), .int .u64 (lo (N : Int))], .agg #[.int .u64 (hi (M : Int)), .int .u64 (lo (M : Int))]] w fun e w' => e = .returned (.int .i64 z) ∧ Below w.heap.size w w') ∧
      ((z < 0 ∧ (ta.size : Int) < tb.size) ∨ (z < 0 ∧ ¬ (ta.size : Int) < tb.size ∧ (ta.size : Int) = tb.size ∧ Op.bytesLess ta.toList tb.toList = true) ∨ ¬ z < 0) := by
    rcases Nat.lt_trichotomy N M with c | c | c
    · refine ⟨-1, fun w => cmp_lt N M (Wd.mk ha) (Wd.mk hb) (by omega) w, ?_⟩
      rcases txt_order c with d | ⟨d, d2⟩
      · exact .inl ⟨by omega, by rw [sa, sb]; omega⟩
      · exact .inr (.inl ⟨by omega, by rw [sa, sb]; omega, by rw [sa, sb]; omega, by rw [hless]; exact d2⟩)
    · subst c
      exact ⟨0, fun w => cmp_eq N (Wd.mk ha) (Wd.mk ha) w, .inr (.inr (by omega))⟩
    · exact ⟨1, fun w => cmp_gt N M (Wd.mk ha) (Wd.mk hb) (by omega) w, .inr (.inr (by omega))⟩
  obtain ⟨z, hz, hcs⟩ := hz
  have hps := parse_any s (by omega)
  obtain ⟨X, hX⟩ : ∃ X, hi (N : Int) = X := ⟨_, rfl⟩
  obtain ⟨Y, hY⟩ : ∃ X, lo (N : Int) = X := ⟨_, rfl⟩
  obtain ⟨X', hX'⟩ : ∃ X, hi (M : Int) = X := ⟨_, rfl⟩
  obtain ⟨Y', hY'⟩ : ∃ X, lo (M : Int) = X := ⟨_, rfl⟩
  rw [hX, hY] at t1 p1
  rw [hX', hY'] at t2
  rw [hX, hY, hX', hY'] at hz
  rw [hX, hY, hX', hY']
  have T0 := Lib.hid t0
  have T1 := Lib.hid t1
  have T2 := Lib.hid t2
  have P1 := Lib.hid p1
  have Z := Lib.hid hz
  have qa := alloc_cells
  have qf := alloc_frozens
  clear t0 t1 t2 p1 hz hta htb ba sa sb la lb hless ha hb hX hY hX' hY'
  have hps2 : ∃ (k : Int) (h l : Int), ((¬ k = 0 ∧ h = 0 ∧ l = 0) ∨ (k = 0 ∧ ∀ w, Calls Try.prog 29 #[.agg #[.int .u64 h, .int .u64 l]] w fun e w' => e = .returned (.string s) ∧ Below w.heap.size w w')) ∧
      ∀ w, Calls Try.prog 28 #[.string s] w fun e w' => e = .returned (.tuple #[.agg #[.int .u64 h, .int .u64 l], .int .i64 k]) ∧ Below w.heap.size w w' := by
    rcases hps with ⟨k, hk, h⟩ | ⟨V, hV, ht, h⟩
    · exact ⟨k, 0, 0, .inl ⟨hk, rfl, rfl⟩, h⟩
    · refine ⟨0, hi V, lo V, .inr ⟨rfl, fun w => ?_⟩, h⟩
      have := text_ok V (Wd.mk hV) w
      rwa [ht, mkB_byts] at this
  obtain ⟨k, h, l, hkl, hps3⟩ := hps2
  have PS := Lib.hid hps3
  clear hps hps3
  rcases hkl with ⟨k0, rfl, rfl⟩ | ⟨rfl, ht⟩
  · rcases hcs with ⟨u1, u2⟩ | ⟨u1, u2, u3, u4⟩ | u1
    all_goals
      go_enter Try.func12, Try.ntmps12
      go_wp2_with fail
      refine (T0.out _).mono ?_
      rintro e w1 ⟨rfl, hb1⟩
      have z1 := hb1.size
      have c1 := Below.cells hb1
      have f1 := Below.frozens hb1
      try simp only [World.size_alloc, World.size_setCell, World.size_drew] at z1 c1 f1
      go_wp2_with fail
      refine wp_region_quiet_all (Ext _) (by kernel_rfl) (by kernel_rfl) (Ext.drawn _) ?_
      repeat (first | go_big_quiet_skip | go_big_quiet_step (fail) | (refine BigFrame.wpQuiet_want rfl (fun K hK => ?_); apply Exists.intro; refine ⟨fun w2 h2 => ?_, ?_⟩; (next => (have g1 := Below.cells h2.below; have g2 := Below.frozens h2.below; (try simp only [World.size_alloc, World.size_setCell] at g1 g2); first | (go_simp; (first | (go_at_call_of 29 (Value.agg #[Value.int IntKind.u64 X, Value.int IntKind.u64 Y]); refine h2.calls (T1.out _)) | (go_at_call_of 29 (Value.agg #[Value.int IntKind.u64 X', Value.int IntKind.u64 Y']); refine h2.calls (T2.out _)))) | (simp [go_sem, ↓IntWalk.iteOmega, *]; done) | (simp [go_sem, ↓IntWalk.iteOmega, *]; rfl)))); (go_simp; refine hK _ ?_; clear hK K))
      refine wpQuiet_nil ?_
      intro w2 h2
      have hb2 := h2.below
      clear h2
      have z2 := hb2.size
      have c2 := Below.cells hb2
      have f2 := Below.frozens hb2
      try simp only [World.size_alloc, World.size_setCell, World.size_drew] at z2 c2 f2
      go_wp2_with fail
      refine (P1.out _).mono ?_
      rintro e w3 ⟨rfl, hb3⟩
      have z3 := hb3.size
      have c3 := Below.cells hb3
      have f3 := Below.frozens hb3
      try simp only [World.size_alloc, World.size_setCell, World.size_drew] at z3 c3 f3
      go_wp2_with fail
      refine (Z.out _).mono ?_
      rintro e w4 ⟨rfl, hb4⟩
      have z4 := hb4.size
      have c4 := Below.cells hb4
      have f4 := Below.frozens hb4
      try simp only [World.size_alloc, World.size_setCell, World.size_drew] at z4 c4 f4
      go_wp2_with fail
      refine (PS.out _).mono ?_
      rintro e w5 ⟨rfl, hb5⟩
      have z5 := hb5.size
      have c5 := Below.cells hb5
      have f5 := Below.frozens hb5
      try simp only [World.size_alloc, World.size_setCell, World.size_drew] at z5 c5 f5
      go_wp2_with fail
      go_ret
      exact ⟨rfl, (by repeat (first | (with_reducible exact Below.refl _ _) | ((with_reducible refine Below.alloc ?_ ?_ _); rotate_left; (next => ((try dsimp only); (try simp only [World.size_alloc, World.size_setCell, World.size_drew]); omega))) | ((with_reducible refine Below.setCell ?_ ?_ _); rotate_left; (next => ((try dsimp only); (try simp only [World.size_alloc, World.size_setCell, World.size_drew]); omega))) | (with_reducible refine Below.drew ?_) | ((with_reducible refine Below.trans ?_ (Below.mono hb5 ?_)); rotate_left; (next => ((try dsimp only); (try simp only [World.size_alloc, World.size_setCell, World.size_drew]); omega))) | ((with_reducible refine Below.trans ?_ (Below.mono hb4 ?_)); rotate_left; (next => ((try dsimp only); (try simp only [World.size_alloc, World.size_setCell, World.size_drew]); omega))) | ((with_reducible refine Below.trans ?_ (Below.mono hb3 ?_)); rotate_left; (next => ((try dsimp only); (try simp only [World.size_alloc, World.size_setCell, World.size_drew]); omega))) | ((with_reducible refine Below.trans ?_ (Below.mono hb2 ?_)); rotate_left; (next => ((try dsimp only); (try simp only [World.size_alloc, World.size_setCell, World.size_drew]); omega))) | ((with_reducible refine Below.trans ?_ (Below.mono hb1 ?_)); rotate_left; (next => ((try dsimp only); (try simp only [World.size_alloc, World.size_setCell, World.size_drew]); omega)))))⟩
  · have HT := Lib.hid ht
    clear ht
    rcases hcs with ⟨u1, u2⟩ | ⟨u1, u2, u3, u4⟩ | u1
    all_goals
      go_enter Try.func12, Try.ntmps12
      go_wp2_with fail
      refine (T0.out _).mono ?_
      rintro e w1 ⟨rfl, hb1⟩
      have z1 := hb1.size
      have c1 := Below.cells hb1
      have f1 := Below.frozens hb1
      try simp only [World.size_alloc, World.size_setCell, World.size_drew] at z1 c1 f1
      go_wp2_with fail
      refine wp_region_quiet_all (Ext _) (by kernel_rfl) (by kernel_rfl) (Ext.drawn _) ?_
      repeat (first | go_big_quiet_skip | go_big_quiet_step (fail) | (refine BigFrame.wpQuiet_want rfl (fun K hK => ?_); apply Exists.intro; refine ⟨fun w2 h2 => ?_, ?_⟩; (next => (have g1 := Below.cells h2.below; have g2 := Below.frozens h2.below; (try simp only [World.size_alloc, World.size_setCell] at g1 g2); first | (go_simp; (first | (go_at_call_of 29 (Value.agg #[Value.int IntKind.u64 X, Value.int IntKind.u64 Y]); refine h2.calls (T1.out _)) | (go_at_call_of 29 (Value.agg #[Value.int IntKind.u64 X', Value.int IntKind.u64 Y']); refine h2.calls (T2.out _)))) | (simp [go_sem, ↓IntWalk.iteOmega, *]; done) | (simp [go_sem, ↓IntWalk.iteOmega, *]; rfl)))); (go_simp; refine hK _ ?_; clear hK K))
      refine wpQuiet_nil ?_
      intro w2 h2
      have hb2 := h2.below
      clear h2
      have z2 := hb2.size
      have c2 := Below.cells hb2
      have f2 := Below.frozens hb2
      try simp only [World.size_alloc, World.size_setCell, World.size_drew] at z2 c2 f2
      go_wp2_with fail
      refine (P1.out _).mono ?_
      rintro e w3 ⟨rfl, hb3⟩
      have z3 := hb3.size
      have c3 := Below.cells hb3
      have f3 := Below.frozens hb3
      try simp only [World.size_alloc, World.size_setCell, World.size_drew] at z3 c3 f3
      go_wp2_with fail
      refine (Z.out _).mono ?_
      rintro e w4 ⟨rfl, hb4⟩
      have z4 := hb4.size
      have c4 := Below.cells hb4
      have f4 := Below.frozens hb4
      try simp only [World.size_alloc, World.size_setCell, World.size_drew] at z4 c4 f4
      go_wp2_with fail
      refine (PS.out _).mono ?_
      rintro e w5 ⟨rfl, hb5⟩
      have z5 := hb5.size
      have c5 := Below.cells hb5
      have f5 := Below.frozens hb5
      try simp only [World.size_alloc, World.size_setCell, World.size_drew] at z5 c5 f5
      go_wp2_with fail
      refine (HT.out _).mono ?_
      rintro e w6 ⟨rfl, hb6⟩
      have z6 := hb6.size
      have c6 := Below.cells hb6
      have f6 := Below.frozens hb6
      try simp only [World.size_alloc, World.size_setCell, World.size_drew] at z6 c6 f6
      go_wp2_with fail
      go_ret
      exact ⟨by simp, (by repeat (first | (with_reducible exact Below.refl _ _) | ((with_reducible refine Below.alloc ?_ ?_ _); rotate_left; (next => ((try dsimp only); (try simp only [World.size_alloc, World.size_setCell, World.size_drew]); omega))) | ((with_reducible refine Below.setCell ?_ ?_ _); rotate_left; (next => ((try dsimp only); (try simp only [World.size_alloc, World.size_setCell, World.size_drew]); omega))) | (with_reducible refine Below.drew ?_) | ((with_reducible refine Below.trans ?_ (Below.mono hb6 ?_)); rotate_left; (next => ((try dsimp only); (try simp only [World.size_alloc, World.size_setCell, World.size_drew]); omega))) | ((with_reducible refine Below.trans ?_ (Below.mono hb5 ?_)); rotate_left; (next => ((try dsimp only); (try simp only [World.size_alloc, World.size_setCell, World.size_drew]); omega))) | ((with_reducible refine Below.trans ?_ (Below.mono hb4 ?_)); rotate_left; (next => ((try dsimp only); (try simp only [World.size_alloc, World.size_setCell, World.size_drew]); omega))) | ((with_reducible refine Below.trans ?_ (Below.mono hb3 ?_)); rotate_left; (next => ((try dsimp only); (try simp only [World.size_alloc, World.size_setCell, World.size_drew]); omega))) | ((with_reducible refine Below.trans ?_ (Below.mono hb2 ?_)); rotate_left; (next => ((try dsimp only); (try simp only [World.size_alloc, World.size_setCell, World.size_drew]); omega))) | ((with_reducible refine Below.trans ?_ (Below.mono hb1 ?_)); rotate_left; (next => ((try dsimp only); (try simp only [World.size_alloc, World.size_setCell, World.size_drew]); omega)))))⟩
end Go.Proofs.Ytlnagfmaiabhaaa
