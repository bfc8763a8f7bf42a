import Derived.Test.YtamncanlbopehaaBb
import Derived.Test.YtamncanlbopehaaFl
set_option linter.unusedSimpArgs false
set_option linter.unusedVariables false
namespace Go.Proofs.Ytamncanlbopehaa
open Go.RowKit
set_option maxRecDepth 100000 in
set_option maxHeartbeats 16000000 in
theorem beatBursts_walk (s : ByteArray) (i q p t : Int) (w : World) (hs : s.size ≤ maxLen) (_ : (Lit.int .i64 i).wf = true) (_ : (Lit.int .i64 q).wf = true) (_ : (Lit.int .i64 p).wf = true) (wt : (Lit.int .u32 t).wf = true) :
    Calls Try.prog 15 #[.agg #[.string s, .int .i64 i, .int .i64 q], .int .i64 p, .int .u32 t] w fun e w' =>
      e = .returned (.bool true) ∧ Below w.heap.size w w' := by
  have tb : 0 ≤ t ∧ t < 4294967296 := by simp [Lit.wf, IntKind.min, IntKind.max, IntKind.bits, IntKind.signed] at wt; omega
  obtain ⟨T, rfl⟩ := Int.eq_ofNat_of_zero_le tb.1
  have H0 := Lib.hid (fun w => beatBegun_ok w)
  have qa := alloc_cells
  have qf := alloc_frozens
  clear wt
  rcases encode_cases s i q hs with ⟨I, Q, rfl, rfl, hb, he⟩ | ⟨n, hn, he⟩
  · have hz : (mkB (encL (byts s) I Q)).size = 14 + s.size := by rw [mkB_size, encL_len, byts_len]
    have hs1 : 1 ≤ s.size := by have := hb.1.1; rwa [byts_len] at this
    have hs8 : s.size ≤ 8 := by have := hb.1.2.1; rwa [byts_len] at this
    by_cases hT : T = 0
    · subst hT
      obtain ⟨S, hS⟩ : ∃ S, mkB (encL (byts s) I Q) = S := ⟨_, rfl⟩
      rw [hS] at hz he
      have HE := Lib.hid he
      have x1 : (15 : Int) ≤ S.size := by omega
      clear hS hz he hb
      go_enter Try.func15, Try.ntmps15
      go_wp2_with fail
      refine (H0.out _).mono ?_
      rintro e w1 ⟨rfl, hb1⟩
      have z1 := hb1.size
      have c1 := Below.cells hb1
      have f1 := Below.frozens hb1
      try simp only [World.size_alloc, World.size_setCell, World.size_drew] at z1 c1 f1
      go_wp2_with fail
      refine (HE.out _).mono ?_
      rintro e w2 ⟨rfl, hb2⟩
      have z2 := hb2.size
      have c2 := Below.cells hb2
      have f2 := Below.frozens hb2
      try simp only [World.size_alloc, World.size_setCell, World.size_drew] at z2 c2 f2
      go_wp2_with fail
      go_ret
      exact ⟨rfl, (by repeat (first | (with_reducible exact Below.refl _ _) | ((with_reducible refine Below.alloc ?_ ?_ _); rotate_left; (next => ((try dsimp only); (try simp only [World.size_alloc, World.size_setCell, World.size_drew]); omega))) | ((with_reducible refine Below.setCell ?_ ?_ _); rotate_left; (next => ((try dsimp only); (try simp only [World.size_alloc, World.size_setCell, World.size_drew]); omega))) | (with_reducible refine Below.drew ?_) | ((with_reducible refine Below.trans ?_ (Below.mono hb2 ?_)); rotate_left; (next => ((try dsimp only); (try simp only [World.size_alloc, World.size_setCell, World.size_drew]); omega))) | ((with_reducible refine Below.trans ?_ (Below.mono hb1 ?_)); rotate_left; (next => ((try dsimp only); (try simp only [World.size_alloc, World.size_setCell, World.size_drew]); omega)))))⟩
    · have hT1 : ((T : Int) == 0) = false := by simpa using hT
      have b1 := within_bd p (n := 8 * (8 + (s.size : Int)) - 31) (by omega)
      obtain ⟨A, e_A⟩ : ∃ z_, within p (8 * (8 + (s.size : Int)) - 31) = z_ := ⟨_, rfl⟩
      rw [e_A] at b1
      have HA := Lib.hid e_A
      clear e_A
      obtain ⟨A, rfl⟩ := Int.eq_ofNat_of_zero_le b1.1
      have hA1 : A + 32 ≤ 8 * (8 + s.size) := by omega
      have hbs : byts (mkB (encL (byts s) I Q)) = encL (byts s) I Q := byts_mkB (encL_bytes hb.1)
      obtain ⟨S, hS⟩ : ∃ S, mkB (encL (byts s) I Q) = S := ⟨_, rfl⟩
      rw [hS] at hz he hbs
      have hpl := plainL_len (byts s) I Q
      rw [byts_len] at hpl
      have em : byts (S.extract 2 (10 + s.size)) = (plainL (byts s) I Q).drop 2 := by
        rw [byts_ext, hbs]
        congr 1
        unfold encL
        rw [List.take_append_of_le_length (by omega), List.take_of_length_le (by omega)]
      have e0 : byts (S.extract 0 2) = [72, (byts s).length] := by
        rw [byts_ext, hbs]; rfl
      have e4 : byts (S.extract (10 + s.size) S.size) = fourL (crcOf (plainL (byts s) I Q)) := by
        rw [byts_ext, hbs, List.take_of_length_le (by rw [encL_len, byts_len]; omega)]
        unfold encL
        rw [List.drop_append_of_le_length (by omega), List.drop_of_length_le (by omega)]
        rfl
      obtain ⟨l', htu, hbu⟩ := burst_one (S.extract 2 (10 + s.size)) A T (8 + s.size) w (by rw [ByteArray.size_extract]; omega) (by omega) hA1 (by omega)
      rw [em] at htu
      have hd9 := dec_turned hb.1 htu (by rw [byts_len]; exact hA1) (by omega) hT
      have zl : (mkB l').size = 8 + s.size := by rw [mkB_size, htu.1, List.length_drop]; omega
      have bl := byts_mkB htu.2.1
      obtain ⟨V, hV⟩ : ∃ V, mkB l' = V := ⟨_, rfl⟩
      rw [hV] at hbu zl bl
      obtain ⟨S0, hS0⟩ : ∃ V, S.extract 0 2 = V := ⟨_, rfl⟩
      obtain ⟨S1, hS1⟩ : ∃ V, S.extract 2 (10 + s.size) = V := ⟨_, rfl⟩
      obtain ⟨S4, hS4⟩ : ∃ V, S.extract (10 + s.size) S.size = V := ⟨_, rfl⟩
      rw [hS0] at e0
      rw [hS1] at hbu
      rw [hS4] at e4
      have z0 : S0.size = 2 := by rw [← hS0, ByteArray.size_extract]; omega
      have z4 : S4.size = 4 := by rw [← hS4, ByteArray.size_extract]; omega
      obtain ⟨U1, hU1⟩ : ∃ V', S0 ++ V = V' := ⟨_, rfl⟩
      have zu : U1.size = 10 + s.size := by rw [← hU1, ByteArray.size_append]; omega
      obtain ⟨U2, hU2⟩ : ∃ V', U1 ++ S4 = V' := ⟨_, rfl⟩
      have zu2 : U2.size = 14 + s.size := by rw [← hU2, ByteArray.size_append]; omega
      have p1 := str_add' (by omega) hU1
      have p2 := str_add' (by omega) hU2
      have hd := fun w => decode_bad U2 9 w (by omega) (by rw [← hU2, ← hU1, byts_app, byts_app, e0, bl, e4]; exact hd9) (by omega)
      have HE := Lib.hid he
      have HD := Lib.hid hd
      have HB := Lib.hid hbu
      have x0 : (S.size : Int) = ((14 + s.size : Nat) : Int) := by omega
      have x1 : ¬ (S.size : Int) < 15 := by omega
      have x2 : IntKind.i64.wrap ((S.size : Int) - 4) = ((10 + s.size : Nat) : Int) := by rw [x0]; have := IntWalk.i64_in (((14 + s.size : Nat) : Int) - 4) (by omega); rw [this]; omega
      have x3 : ((10 + s.size : Nat) : Int) ≤ S.size := by omega
      have x4 : (2 : Int) ≤ ((10 + s.size : Nat) : Int) := by omega
      have x5 : (0 : Int) ≤ ((10 + s.size : Nat) : Int) := by omega
      have x6 : (2 : Int) ≤ S.size := by omega
      have X0 := Lib.hid x0
      have Z := Lib.hid hz
      have x7 : (S.size : Int) ≤ 22 := by omega
      clear hS hz he hb hbs hpl em e0 e4 hbu htu hd9 bl hV hU1 hU2 hd x0
      go_enter Try.func15, Try.ntmps15
      go_wp2_with fail
      refine (H0.out _).mono ?_
      rintro e w1 ⟨rfl, hb1⟩
      have z1 := hb1.size
      have c1 := Below.cells hb1
      have f1 := Below.frozens hb1
      try simp only [World.size_alloc, World.size_setCell, World.size_drew] at z1 c1 f1
      go_wp2_with fail
      refine (HE.out _).mono ?_
      rintro e w2 ⟨rfl, hb2⟩
      have z2 := hb2.size
      have c2 := Below.cells hb2
      have f2 := Below.frozens hb2
      try simp only [World.size_alloc, World.size_setCell, World.size_drew] at z2 c2 f2
      go_wp2_with fail
      refine (within_any p (8 * ((S.size : Int) - 6) - 31) A _ (by have := X0.out; omega) (by have := X0.out; omega) (by rw [show 8 * ((S.size : Int) - 6) - 31 = 8 * (8 + (s.size : Int)) - 31 from by have := X0.out; omega]; exact HA.out)).mono ?_
      rintro e w' ⟨rfl, rfl⟩
      go_wp2_with fail
      refine wp_region_flow true (fun k => ([[], [], [], [], [], [], [], [], [], [], [], [], [], [], [], [], [], [], [], [], [], [21], [21]] : List (List Nat)).getD k []) (by kernel_rfl) (by kernel_rfl) ?_
      repeat (first | (refine flow_skip (fun _ => rfl) ?_; (try simp only [Act.put, List.setIfInBounds_toArray, List.set_cons_zero, List.set_cons_succ])) | (refine flow_mild (fun _ => rfl) (fun K hK => ?_); apply Exists.intro; refine ⟨fun B w2 h2 => ?_, ?_, ?_, ?_⟩; (next => (have h2' := Below.undrew h2.below; have g1 := Below.cells h2'; have g2 := Below.frozens h2'; (try simp only [World.size_alloc, World.size_setCell] at g1 g2); (try (obtain ⟨ql21, qc21, qf21, qh21, qz21⟩ := StF.cellsB h2 21 rfl rfl; (try simp only [World.size_alloc, World.size_setCell, World.size_drew] at ql21))); clear h2 h2'; unfold mildAt; first | (go_simp; simp only [mildUpon, true_and]; first | with_reducible exact HB.out _ | with_reducible exact HD.out _) | (simp [mildUpon, go_sem, ↓IntWalk.iteOmega, *]; done) | (simp [mildUpon, go_sem, ↓IntWalk.iteOmega, *]; (try go_ints); rfl))); (next => (first | (exact fun _ _ _ => rfl) | (intro B1 B2 hB; (try dsimp only); simp [hB]; done))); (next => (first | (intro k' hk'; cases hk'; done) | (intro k' hk'; simp at hk'; (try subst hk'); (try simp [Ress.put]); done) | (intro k' hk'; simp at hk'; (try rcases hk' with rfl | rfl); all_goals (simp [Ress.put])))); (go_simp; refine hK _ ?_; clear hK K)) | (refine flow_ptr (fun _ => rfl) (fun K hK => ?_); apply Exists.intro; apply Exists.intro; refine ⟨fun B w2 h2 => ?_, ?_, ?_, ?_⟩; (next => (have h2' := Below.undrew h2.below; have g1 := Below.cells h2'; have g2 := Below.frozens h2'; (try simp only [World.size_alloc, World.size_setCell] at g1 g2); (try (obtain ⟨ql21, qc21, qf21, qh21, qz21⟩ := StF.cellsB h2 21 rfl rfl; (try simp only [World.size_alloc, World.size_setCell, World.size_drew] at ql21))); clear h2 h2'; simp [go_sem, ptrOf, ↓IntWalk.iteOmega, *]; first | exact ⟨rfl, rfl⟩ | rfl)); (next => simp); (next => first | rfl | simp [Ress.put]); ((try simp only [Ress.put_def]); go_simp; refine hK _ _ ?_; clear hK K)) | (refine flow_slice (fun _ => rfl) (fun K hK => ?_); apply Exists.intro; apply Exists.intro; apply Exists.intro; refine ⟨fun B w2 h2 => ?_, ?_, ?_, ?_⟩; (next => (have h2' := Below.undrew h2.below; have g1 := Below.cells h2'; have g2 := Below.frozens h2'; (try simp only [World.size_alloc, World.size_setCell] at g1 g2); (try (obtain ⟨ql21, qc21, qf21, qh21, qz21⟩ := StF.cellsB h2 21 rfl rfl; (try simp only [World.size_alloc, World.size_setCell, World.size_drew] at ql21))); clear h2 h2'; simp [go_sem, ↓IntWalk.iteOmega, *]; first | exact ⟨rfl, rfl⟩ | rfl)); (next => simp); (next => first | rfl | simp [Ress.put]); ((try simp only [Ress.put_def]); go_simp; refine hK _ _ ?_; clear hK K)) | (refine flow_store3 21 0 (fun _ => rfl) rfl ?_ ?_ (fun K hK => ?_); (next => (simp; done)); (next => (first | (intro k' hk'; simp at hk'; (try subst hk'); simp [Ress.put]; done))); (repeat (apply Exists.intro)); (refine ⟨?_, fun B w2 h2 => ?_, ?_, ?_, ?_, ?_⟩); (next => first | rfl | (simp [Ress.put]; done)); (next => (have h2' := Below.undrew h2.below; have g1 := Below.cells h2'; have g2 := Below.frozens h2'; (try simp only [World.size_alloc, World.size_setCell] at g1 g2); (try (obtain ⟨ql21, qc21, qf21, qh21, qz21⟩ := StF.cellsB h2 21 rfl rfl; (try simp only [World.size_alloc, World.size_setCell, World.size_drew] at ql21))); clear h2 h2'; first | (simp [go_sem, ↓IntWalk.iteOmega, *]; done) | (simp [go_sem, ↓IntWalk.iteOmega, *]; rfl))); (next => (first | (exact fun _ _ _ => rfl) | (intro B1 B2 hB; (try dsimp only); simp [hB]; done))); (next => (first | (exact fun _ _ _ => rfl) | (intro B1 B2 hB; (try dsimp only); simp [hB]; done))); (next => (first | (exact fun _ _ _ => rfl) | (intro B1 B2 hB; (try dsimp only); simp [hB]; done))); ((try simp only [Ress.put_def]); go_simp; refine hK _ _ ?_; clear hK K)))
      refine flow_nil ?_
      intro B w3 h3
      dsimp only
      have hb3 := Below.undrew h3.below
      obtain ⟨lo3_21, up3_21, e3_21, fz3_21⟩ := StA.cells h3 21 rfl
      try dsimp only at e3_21
      generalize (B 21).1 = b3_21 at *
      clear h3
      clear B
      try simp only [World.size_alloc, World.size_setCell, World.size_drew] at lo3_21
      have z3 := hb3.size
      have c3 := Below.cells hb3
      have f3 := Below.frozens hb3
      try simp only [World.size_alloc, World.size_setCell, World.size_drew] at z3 c3 f3
      go_wp2_with fail
      go_ret
      exact ⟨rfl, (by repeat (first | (with_reducible exact Below.refl _ _) | ((with_reducible refine Below.alloc ?_ ?_ _); rotate_left; (next => ((try dsimp only); (try simp only [World.size_alloc, World.size_setCell, World.size_drew]); omega))) | ((with_reducible refine Below.setCell ?_ ?_ _); rotate_left; (next => ((try dsimp only); (try simp only [World.size_alloc, World.size_setCell, World.size_drew]); omega))) | (with_reducible refine Below.drew ?_) | ((with_reducible refine Below.trans ?_ (Below.mono hb3 ?_)); rotate_left; (next => ((try dsimp only); (try simp only [World.size_alloc, World.size_setCell, World.size_drew]); omega))) | ((with_reducible refine Below.trans ?_ (Below.mono hb2 ?_)); rotate_left; (next => ((try dsimp only); (try simp only [World.size_alloc, World.size_setCell, World.size_drew]); omega))) | ((with_reducible refine Below.trans ?_ (Below.mono hb1 ?_)); rotate_left; (next => ((try dsimp only); (try simp only [World.size_alloc, World.size_setCell, World.size_drew]); omega)))))⟩
  · have hk2 : (n == 0) = false := by simp; omega
    have hk3 : (n != 0) = true := by simp; omega
    have HE := Lib.hid he
    clear he hn
    go_enter Try.func15, Try.ntmps15
    go_wp2_with fail
    refine (H0.out _).mono ?_
    rintro e w1 ⟨rfl, hb1⟩
    have z1 := hb1.size
    have c1 := Below.cells hb1
    have f1 := Below.frozens hb1
    try simp only [World.size_alloc, World.size_setCell, World.size_drew] at z1 c1 f1
    go_wp2_with fail
    refine (HE.out _).mono ?_
    rintro e w2 ⟨rfl, hb2⟩
    have z2 := hb2.size
    have c2 := Below.cells hb2
    have f2 := Below.frozens hb2
    try simp only [World.size_alloc, World.size_setCell, World.size_drew] at z2 c2 f2
    go_wp2_with fail
    go_ret
    exact ⟨rfl, (by repeat (first | (with_reducible exact Below.refl _ _) | ((with_reducible refine Below.alloc ?_ ?_ _); rotate_left; (next => ((try dsimp only); (try simp only [World.size_alloc, World.size_setCell, World.size_drew]); omega))) | ((with_reducible refine Below.setCell ?_ ?_ _); rotate_left; (next => ((try dsimp only); (try simp only [World.size_alloc, World.size_setCell, World.size_drew]); omega))) | (with_reducible refine Below.drew ?_) | ((with_reducible refine Below.trans ?_ (Below.mono hb2 ?_)); rotate_left; (next => ((try dsimp only); (try simp only [World.size_alloc, World.size_setCell, World.size_drew]); omega))) | ((with_reducible refine Below.trans ?_ (Below.mono hb1 ?_)); rotate_left; (next => ((try dsimp only); (try simp only [World.size_alloc, World.size_setCell, World.size_drew]); omega)))))⟩
end Go.Proofs.Ytamncanlbopehaa
