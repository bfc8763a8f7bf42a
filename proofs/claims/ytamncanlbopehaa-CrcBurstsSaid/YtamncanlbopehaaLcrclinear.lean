import Derived.Test.YtamncanlbopehaaXo
set_option linter.unusedSimpArgs false
set_option linter.unusedVariables false
namespace Go.Proofs.Ytamncanlbopehaa
open Go.RowKit

theorem same_b {P : Program} {f : FuncId} {args : Array Value} {w : World} {v : Value} (h : Calls P f args w fun e w' => e = .returned v ∧ w = w') : Calls P f args w fun e w' => e = .returned v ∧ Below w.heap.size w w' :=
  h.mono fun _ _ ⟨he, hw⟩ => ⟨he, hw ▸ Below.refl _ _⟩
theorem ext_all (s : ByteArray) : s.extract 0 s.size = s := by simp
theorem byts_extract (s : ByteArray) (n : Nat) : byts (s.extract 0 n) = (byts s).take n := by
  unfold byts
  rw [← List.map_take]
  congr 1
  simp [ByteArray.data_extract]

set_option maxRecDepth 100000 in
set_option maxHeartbeats 8000000 in
theorem crcLinear_walk (s t u : ByteArray) (w : World) (hs : s.size ≤ 140737488351232) (ht : t.size ≤ 140737488351232) (hu : u.size ≤ 140737488351232) :
    Calls Try.prog 4 #[.string s, .string t, .string u] w fun e w' =>
      e = .returned (.bool true) ∧ Below w.heap.size w w' := by
  obtain ⟨n, hn⟩ : ∃ n, min (min s.size t.size) u.size = n := ⟨_, rfl⟩
  have n1 : n ≤ s.size := by omega
  have n2 : n ≤ t.size := by omega
  have n3 : n ≤ u.size := by omega
  have hcs : (n = s.size ∧ ¬ (t.size : Int) < s.size ∧ ¬ (u.size : Int) < s.size) ∨ (n = t.size ∧ (t.size : Int) < s.size ∧ ¬ (u.size : Int) < t.size) ∨
      (n = u.size ∧ ¬ (t.size : Int) < s.size ∧ (u.size : Int) < s.size) ∨ (n = u.size ∧ (t.size : Int) < s.size ∧ (u.size : Int) < t.size) := by omega
  have z1 : (s.extract 0 n).size = n := by rw [ByteArray.size_extract]; omega
  have z2 : (t.extract 0 n).size = n := by rw [ByteArray.size_extract]; omega
  have z3 : (u.extract 0 n).size = n := by rw [ByteArray.size_extract]; omega
  obtain ⟨a, ha⟩ : ∃ a, s.extract 0 n = a := ⟨_, rfl⟩
  obtain ⟨b, hb⟩ : ∃ a, t.extract 0 n = a := ⟨_, rfl⟩
  obtain ⟨c, hc⟩ : ∃ a, u.extract 0 n = a := ⟨_, rfl⟩
  rw [ha] at z1
  rw [hb] at z2
  rw [hc] at z3
  obtain ⟨d, hd⟩ : ∃ d, mkB (xor3 (byts a) (byts b) (byts c)) = d := ⟨_, rfl⟩
  have l1 : (byts a).length = (byts b).length := by rw [byts_len, byts_len, z1, z2]
  have l2 : (byts b).length = (byts c).length := by rw [byts_len, byts_len, z2, z3]
  have z4 : d.size = n := by rw [← hd, mkB_size, xor3_len _ _ _ l1 l2, byts_len, z1]
  have hx : ∀ w, _ := fun w => xor_ok a b c n w z1 z2 z3 (by omega)
  rw [hd] at hx
  have hA : crcOf (byts ⟨#[97]⟩) = 3904355907 := by kernel_rfl
  have h0 : ∀ w, _ := fun w => crc_ok ⟨#[97]⟩ 3904355907 w (by decide) hA
  have H0 := Lib.hid h0
  have HX := Lib.hid hx
  have qa := alloc_cells
  have qf := alloc_frozens
  clear hx h0 hA
  by_cases hbig : n ≤ 20000
  · obtain ⟨p, hp⟩ : ∃ p, crcOf (byts a) = p := ⟨_, rfl⟩
    obtain ⟨q, hq⟩ : ∃ p, crcOf (byts b) = p := ⟨_, rfl⟩
    obtain ⟨r, hr⟩ : ∃ p, crcOf (byts c) = p := ⟨_, rfl⟩
    have hv : crcOf (byts d) = p ^^^ q ^^^ r := by
      rw [← hd, byts_mkB (xor3_bytes _ _ _ (byts_bytes _) (byts_bytes _) (byts_bytes _)), crcOf_xor3 _ _ _ l1 l2, hp, hq, hr]
    have pb : p < 4294967296 := by rw [← hp]; exact crcOf_lt (byts_bytes _)
    have qb : q < 4294967296 := by rw [← hq]; exact crcOf_lt (byts_bytes _)
    have rb : r < 4294967296 := by rw [← hr]; exact crcOf_lt (byts_bytes _)
    have C1 := Lib.hid (fun w => crc_ok a p w (by omega) hp)
    have C2 := Lib.hid (fun w => crc_ok b q w (by omega) hq)
    have C3 := Lib.hid (fun w => crc_ok c r w (by omega) hr)
    obtain ⟨v1, hv1⟩ : ∃ v, p ^^^ q = v := ⟨_, rfl⟩
    have vb : v1 < 4294967296 := by rw [← hv1]; exact xor_lt32 pb qb
    obtain ⟨v2, hv2⟩ : ∃ v, v1 ^^^ r = v := ⟨_, rfl⟩
    rw [hv1, hv2] at hv
    have x1 : bits .xor .i64 (p : Int) (q : Int) = (v1 : Int) := by rw [i64_xor_nat _ _ (by omega) (by omega), hv1]
    have x2 : bits .xor .i64 (v1 : Int) (r : Int) = (v2 : Int) := by rw [i64_xor_nat _ _ (by omega) (by omega), hv2]
    have C4 := Lib.hid (fun w => crc_ok d v2 w (by omega) hv)
    clear hp hq hr hv hv1 hv2 l1 l2 hd z1 z2 z3 z4 hn n1 n2 n3 hs ht hu hbig
    rcases hcs with ⟨rfl, k1, k2⟩ | ⟨rfl, k1, k2⟩ | ⟨rfl, k1, k2⟩ | ⟨rfl, k1, k2⟩
    · rw [ext_all] at ha
      subst ha
      have k3 : (s.size : Int) ≤ t.size := by omega
      have k4 : (s.size : Int) ≤ u.size := by omega
      go_enter Try.func4, Try.ntmps4
      go_wp2_with fail
      refine (H0.out _).mono ?_
      rintro e w1 ⟨rfl, hb1⟩
      have z1 := hb1.size
      have c1 := Below.cells hb1
      have f1 := Below.frozens hb1
      try simp only [World.size_alloc, World.size_setCell, World.size_drew] at z1 c1 f1
      go_wp2_with fail
      refine (C1.out _).mono ?_
      rintro e w2 ⟨rfl, hb2⟩
      have z2 := hb2.size
      have c2 := Below.cells hb2
      have f2 := Below.frozens hb2
      try simp only [World.size_alloc, World.size_setCell, World.size_drew] at z2 c2 f2
      go_wp2_with fail
      refine (C2.out _).mono ?_
      rintro e w3 ⟨rfl, hb3⟩
      have z3 := hb3.size
      have c3 := Below.cells hb3
      have f3 := Below.frozens hb3
      try simp only [World.size_alloc, World.size_setCell, World.size_drew] at z3 c3 f3
      go_wp2_with fail
      refine (C3.out _).mono ?_
      rintro e w4 ⟨rfl, hb4⟩
      have z4 := hb4.size
      have c4 := Below.cells hb4
      have f4 := Below.frozens hb4
      try simp only [World.size_alloc, World.size_setCell, World.size_drew] at z4 c4 f4
      go_wp2_with fail
      refine wp_region_quiet_all (Ext _) (by kernel_rfl) (by kernel_rfl) (Ext.drawn _) ?_
      repeat (first | go_big_quiet_skip | go_big_quiet_step (fail) | (refine BigFrame.wpQuiet_want rfl (fun K hK => ?_); apply Exists.intro; refine ⟨fun w2 h2 => ?_, ?_⟩; (next => (have g1 := Below.cells h2.below; have g2 := Below.frozens h2.below; (try simp only [World.size_alloc, World.size_setCell] at g1 g2); first | (go_simp; (first | (go_at_call 21; with_reducible refine h2.calls (HX.out _)) | (go_at_call 20; refine h2.calls (C4.out _)))) | (simp [go_sem, ↓IntWalk.iteOmega, *]; done) | (simp [go_sem, ↓IntWalk.iteOmega, *]; rfl)))); (go_simp; refine hK _ ?_; clear hK K))
      refine wpQuiet_nil ?_
      intro w5 h5
      have hb5 := h5.below
      clear h5
      have z5 := hb5.size
      have c5 := Below.cells hb5
      have f5 := Below.frozens hb5
      try simp only [World.size_alloc, World.size_setCell, World.size_drew] at z5 c5 f5
      go_wp2_with fail
      go_ret
      exact ⟨rfl, (by repeat (first | (with_reducible exact Below.refl _ _) | ((with_reducible refine Below.alloc ?_ ?_ _); rotate_left; (next => ((try dsimp only); (try simp only [World.size_alloc, World.size_setCell, World.size_drew]); omega))) | ((with_reducible refine Below.setCell ?_ ?_ _); rotate_left; (next => ((try dsimp only); (try simp only [World.size_alloc, World.size_setCell, World.size_drew]); omega))) | (with_reducible refine Below.drew ?_) | ((with_reducible refine Below.trans ?_ (Below.mono hb5 ?_)); rotate_left; (next => ((try dsimp only); (try simp only [World.size_alloc, World.size_setCell, World.size_drew]); omega))) | ((with_reducible refine Below.trans ?_ (Below.mono hb4 ?_)); rotate_left; (next => ((try dsimp only); (try simp only [World.size_alloc, World.size_setCell, World.size_drew]); omega))) | ((with_reducible refine Below.trans ?_ (Below.mono hb3 ?_)); rotate_left; (next => ((try dsimp only); (try simp only [World.size_alloc, World.size_setCell, World.size_drew]); omega))) | ((with_reducible refine Below.trans ?_ (Below.mono hb2 ?_)); rotate_left; (next => ((try dsimp only); (try simp only [World.size_alloc, World.size_setCell, World.size_drew]); omega))) | ((with_reducible refine Below.trans ?_ (Below.mono hb1 ?_)); rotate_left; (next => ((try dsimp only); (try simp only [World.size_alloc, World.size_setCell, World.size_drew]); omega)))))⟩
    · rw [ext_all] at hb
      subst hb
      have k3 : (t.size : Int) ≤ s.size := by omega
      have k4 : (t.size : Int) ≤ u.size := by omega
      go_enter Try.func4, Try.ntmps4
      go_wp2_with fail
      refine (H0.out _).mono ?_
      rintro e w1 ⟨rfl, hb1⟩
      have z1 := hb1.size
      have c1 := Below.cells hb1
      have f1 := Below.frozens hb1
      try simp only [World.size_alloc, World.size_setCell, World.size_drew] at z1 c1 f1
      go_wp2_with fail
      refine (C1.out _).mono ?_
      rintro e w2 ⟨rfl, hb2⟩
      have z2 := hb2.size
      have c2 := Below.cells hb2
      have f2 := Below.frozens hb2
      try simp only [World.size_alloc, World.size_setCell, World.size_drew] at z2 c2 f2
      go_wp2_with fail
      refine (C2.out _).mono ?_
      rintro e w3 ⟨rfl, hb3⟩
      have z3 := hb3.size
      have c3 := Below.cells hb3
      have f3 := Below.frozens hb3
      try simp only [World.size_alloc, World.size_setCell, World.size_drew] at z3 c3 f3
      go_wp2_with fail
      refine (C3.out _).mono ?_
      rintro e w4 ⟨rfl, hb4⟩
      have z4 := hb4.size
      have c4 := Below.cells hb4
      have f4 := Below.frozens hb4
      try simp only [World.size_alloc, World.size_setCell, World.size_drew] at z4 c4 f4
      go_wp2_with fail
      refine wp_region_quiet_all (Ext _) (by kernel_rfl) (by kernel_rfl) (Ext.drawn _) ?_
      repeat (first | go_big_quiet_skip | go_big_quiet_step (fail) | (refine BigFrame.wpQuiet_want rfl (fun K hK => ?_); apply Exists.intro; refine ⟨fun w2 h2 => ?_, ?_⟩; (next => (have g1 := Below.cells h2.below; have g2 := Below.frozens h2.below; (try simp only [World.size_alloc, World.size_setCell] at g1 g2); first | (go_simp; (first | (go_at_call 21; with_reducible refine h2.calls (HX.out _)) | (go_at_call 20; refine h2.calls (C4.out _)))) | (simp [go_sem, ↓IntWalk.iteOmega, *]; done) | (simp [go_sem, ↓IntWalk.iteOmega, *]; rfl)))); (go_simp; refine hK _ ?_; clear hK K))
      refine wpQuiet_nil ?_
      intro w5 h5
      have hb5 := h5.below
      clear h5
      have z5 := hb5.size
      have c5 := Below.cells hb5
      have f5 := Below.frozens hb5
      try simp only [World.size_alloc, World.size_setCell, World.size_drew] at z5 c5 f5
      go_wp2_with fail
      go_ret
      exact ⟨rfl, (by repeat (first | (with_reducible exact Below.refl _ _) | ((with_reducible refine Below.alloc ?_ ?_ _); rotate_left; (next => ((try dsimp only); (try simp only [World.size_alloc, World.size_setCell, World.size_drew]); omega))) | ((with_reducible refine Below.setCell ?_ ?_ _); rotate_left; (next => ((try dsimp only); (try simp only [World.size_alloc, World.size_setCell, World.size_drew]); omega))) | (with_reducible refine Below.drew ?_) | ((with_reducible refine Below.trans ?_ (Below.mono hb5 ?_)); rotate_left; (next => ((try dsimp only); (try simp only [World.size_alloc, World.size_setCell, World.size_drew]); omega))) | ((with_reducible refine Below.trans ?_ (Below.mono hb4 ?_)); rotate_left; (next => ((try dsimp only); (try simp only [World.size_alloc, World.size_setCell, World.size_drew]); omega))) | ((with_reducible refine Below.trans ?_ (Below.mono hb3 ?_)); rotate_left; (next => ((try dsimp only); (try simp only [World.size_alloc, World.size_setCell, World.size_drew]); omega))) | ((with_reducible refine Below.trans ?_ (Below.mono hb2 ?_)); rotate_left; (next => ((try dsimp only); (try simp only [World.size_alloc, World.size_setCell, World.size_drew]); omega))) | ((with_reducible refine Below.trans ?_ (Below.mono hb1 ?_)); rotate_left; (next => ((try dsimp only); (try simp only [World.size_alloc, World.size_setCell, World.size_drew]); omega)))))⟩
    · rw [ext_all] at hc
      subst hc
      have k3 : (u.size : Int) ≤ s.size := by omega
      have k4 : (u.size : Int) ≤ t.size := by omega
      go_enter Try.func4, Try.ntmps4
      go_wp2_with fail
      refine (H0.out _).mono ?_
      rintro e w1 ⟨rfl, hb1⟩
      have z1 := hb1.size
      have c1 := Below.cells hb1
      have f1 := Below.frozens hb1
      try simp only [World.size_alloc, World.size_setCell, World.size_drew] at z1 c1 f1
      go_wp2_with fail
      refine (C1.out _).mono ?_
      rintro e w2 ⟨rfl, hb2⟩
      have z2 := hb2.size
      have c2 := Below.cells hb2
      have f2 := Below.frozens hb2
      try simp only [World.size_alloc, World.size_setCell, World.size_drew] at z2 c2 f2
      go_wp2_with fail
      refine (C2.out _).mono ?_
      rintro e w3 ⟨rfl, hb3⟩
      have z3 := hb3.size
      have c3 := Below.cells hb3
      have f3 := Below.frozens hb3
      try simp only [World.size_alloc, World.size_setCell, World.size_drew] at z3 c3 f3
      go_wp2_with fail
      refine (C3.out _).mono ?_
      rintro e w4 ⟨rfl, hb4⟩
      have z4 := hb4.size
      have c4 := Below.cells hb4
      have f4 := Below.frozens hb4
      try simp only [World.size_alloc, World.size_setCell, World.size_drew] at z4 c4 f4
      go_wp2_with fail
      refine wp_region_quiet_all (Ext _) (by kernel_rfl) (by kernel_rfl) (Ext.drawn _) ?_
      repeat (first | go_big_quiet_skip | go_big_quiet_step (fail) | (refine BigFrame.wpQuiet_want rfl (fun K hK => ?_); apply Exists.intro; refine ⟨fun w2 h2 => ?_, ?_⟩; (next => (have g1 := Below.cells h2.below; have g2 := Below.frozens h2.below; (try simp only [World.size_alloc, World.size_setCell] at g1 g2); first | (go_simp; (first | (go_at_call 21; with_reducible refine h2.calls (HX.out _)) | (go_at_call 20; refine h2.calls (C4.out _)))) | (simp [go_sem, ↓IntWalk.iteOmega, *]; done) | (simp [go_sem, ↓IntWalk.iteOmega, *]; rfl)))); (go_simp; refine hK _ ?_; clear hK K))
      refine wpQuiet_nil ?_
      intro w5 h5
      have hb5 := h5.below
      clear h5
      have z5 := hb5.size
      have c5 := Below.cells hb5
      have f5 := Below.frozens hb5
      try simp only [World.size_alloc, World.size_setCell, World.size_drew] at z5 c5 f5
      go_wp2_with fail
      go_ret
      exact ⟨rfl, (by repeat (first | (with_reducible exact Below.refl _ _) | ((with_reducible refine Below.alloc ?_ ?_ _); rotate_left; (next => ((try dsimp only); (try simp only [World.size_alloc, World.size_setCell, World.size_drew]); omega))) | ((with_reducible refine Below.setCell ?_ ?_ _); rotate_left; (next => ((try dsimp only); (try simp only [World.size_alloc, World.size_setCell, World.size_drew]); omega))) | (with_reducible refine Below.drew ?_) | ((with_reducible refine Below.trans ?_ (Below.mono hb5 ?_)); rotate_left; (next => ((try dsimp only); (try simp only [World.size_alloc, World.size_setCell, World.size_drew]); omega))) | ((with_reducible refine Below.trans ?_ (Below.mono hb4 ?_)); rotate_left; (next => ((try dsimp only); (try simp only [World.size_alloc, World.size_setCell, World.size_drew]); omega))) | ((with_reducible refine Below.trans ?_ (Below.mono hb3 ?_)); rotate_left; (next => ((try dsimp only); (try simp only [World.size_alloc, World.size_setCell, World.size_drew]); omega))) | ((with_reducible refine Below.trans ?_ (Below.mono hb2 ?_)); rotate_left; (next => ((try dsimp only); (try simp only [World.size_alloc, World.size_setCell, World.size_drew]); omega))) | ((with_reducible refine Below.trans ?_ (Below.mono hb1 ?_)); rotate_left; (next => ((try dsimp only); (try simp only [World.size_alloc, World.size_setCell, World.size_drew]); omega)))))⟩
    · rw [ext_all] at hc
      subst hc
      have k3 : (u.size : Int) ≤ s.size := by omega
      have k4 : (u.size : Int) ≤ t.size := by omega
      go_enter Try.func4, Try.ntmps4
      go_wp2_with fail
      refine (H0.out _).mono ?_
      rintro e w1 ⟨rfl, hb1⟩
      have z1 := hb1.size
      have c1 := Below.cells hb1
      have f1 := Below.frozens hb1
      try simp only [World.size_alloc, World.size_setCell, World.size_drew] at z1 c1 f1
      go_wp2_with fail
      refine (C1.out _).mono ?_
      rintro e w2 ⟨rfl, hb2⟩
      have z2 := hb2.size
      have c2 := Below.cells hb2
      have f2 := Below.frozens hb2
      try simp only [World.size_alloc, World.size_setCell, World.size_drew] at z2 c2 f2
      go_wp2_with fail
      refine (C2.out _).mono ?_
      rintro e w3 ⟨rfl, hb3⟩
      have z3 := hb3.size
      have c3 := Below.cells hb3
      have f3 := Below.frozens hb3
      try simp only [World.size_alloc, World.size_setCell, World.size_drew] at z3 c3 f3
      go_wp2_with fail
      refine (C3.out _).mono ?_
      rintro e w4 ⟨rfl, hb4⟩
      have z4 := hb4.size
      have c4 := Below.cells hb4
      have f4 := Below.frozens hb4
      try simp only [World.size_alloc, World.size_setCell, World.size_drew] at z4 c4 f4
      go_wp2_with fail
      refine wp_region_quiet_all (Ext _) (by kernel_rfl) (by kernel_rfl) (Ext.drawn _) ?_
      repeat (first | go_big_quiet_skip | go_big_quiet_step (fail) | (refine BigFrame.wpQuiet_want rfl (fun K hK => ?_); apply Exists.intro; refine ⟨fun w2 h2 => ?_, ?_⟩; (next => (have g1 := Below.cells h2.below; have g2 := Below.frozens h2.below; (try simp only [World.size_alloc, World.size_setCell] at g1 g2); first | (go_simp; (first | (go_at_call 21; with_reducible refine h2.calls (HX.out _)) | (go_at_call 20; refine h2.calls (C4.out _)))) | (simp [go_sem, ↓IntWalk.iteOmega, *]; done) | (simp [go_sem, ↓IntWalk.iteOmega, *]; rfl)))); (go_simp; refine hK _ ?_; clear hK K))
      refine wpQuiet_nil ?_
      intro w5 h5
      have hb5 := h5.below
      clear h5
      have z5 := hb5.size
      have c5 := Below.cells hb5
      have f5 := Below.frozens hb5
      try simp only [World.size_alloc, World.size_setCell, World.size_drew] at z5 c5 f5
      go_wp2_with fail
      go_ret
      exact ⟨rfl, (by repeat (first | (with_reducible exact Below.refl _ _) | ((with_reducible refine Below.alloc ?_ ?_ _); rotate_left; (next => ((try dsimp only); (try simp only [World.size_alloc, World.size_setCell, World.size_drew]); omega))) | ((with_reducible refine Below.setCell ?_ ?_ _); rotate_left; (next => ((try dsimp only); (try simp only [World.size_alloc, World.size_setCell, World.size_drew]); omega))) | (with_reducible refine Below.drew ?_) | ((with_reducible refine Below.trans ?_ (Below.mono hb5 ?_)); rotate_left; (next => ((try dsimp only); (try simp only [World.size_alloc, World.size_setCell, World.size_drew]); omega))) | ((with_reducible refine Below.trans ?_ (Below.mono hb4 ?_)); rotate_left; (next => ((try dsimp only); (try simp only [World.size_alloc, World.size_setCell, World.size_drew]); omega))) | ((with_reducible refine Below.trans ?_ (Below.mono hb3 ?_)); rotate_left; (next => ((try dsimp only); (try simp only [World.size_alloc, World.size_setCell, World.size_drew]); omega))) | ((with_reducible refine Below.trans ?_ (Below.mono hb2 ?_)); rotate_left; (next => ((try dsimp only); (try simp only [World.size_alloc, World.size_setCell, World.size_drew]); omega))) | ((with_reducible refine Below.trans ?_ (Below.mono hb1 ?_)); rotate_left; (next => ((try dsimp only); (try simp only [World.size_alloc, World.size_setCell, World.size_drew]); omega)))))⟩
  · have C1 := Lib.hid (fun w => same_b (crc_large a w (by omega) (by omega)))
    have C2 := Lib.hid (fun w => same_b (crc_large b w (by omega) (by omega)))
    have C3 := Lib.hid (fun w => same_b (crc_large c w (by omega) (by omega)))
    have C4 := Lib.hid (fun w => same_b (crc_large d w (by omega) (by omega)))
    clear l1 l2 hd z1 z2 z3 z4 hn n1 n2 n3 hs ht hu hbig
    rcases hcs with ⟨rfl, k1, k2⟩ | ⟨rfl, k1, k2⟩ | ⟨rfl, k1, k2⟩ | ⟨rfl, k1, k2⟩
    · rw [ext_all] at ha
      subst ha
      have k3 : (s.size : Int) ≤ t.size := by omega
      have k4 : (s.size : Int) ≤ u.size := by omega
      go_enter Try.func4, Try.ntmps4
      go_wp2_with fail
      refine (H0.out _).mono ?_
      rintro e w1 ⟨rfl, hb1⟩
      have z1 := hb1.size
      have c1 := Below.cells hb1
      have f1 := Below.frozens hb1
      try simp only [World.size_alloc, World.size_setCell, World.size_drew] at z1 c1 f1
      go_wp2_with fail
      refine (C1.out _).mono ?_
      rintro e w2 ⟨rfl, hb2⟩
      have z2 := hb2.size
      have c2 := Below.cells hb2
      have f2 := Below.frozens hb2
      try simp only [World.size_alloc, World.size_setCell, World.size_drew] at z2 c2 f2
      go_wp2_with fail
      refine (C2.out _).mono ?_
      rintro e w3 ⟨rfl, hb3⟩
      have z3 := hb3.size
      have c3 := Below.cells hb3
      have f3 := Below.frozens hb3
      try simp only [World.size_alloc, World.size_setCell, World.size_drew] at z3 c3 f3
      go_wp2_with fail
      refine (C3.out _).mono ?_
      rintro e w4 ⟨rfl, hb4⟩
      have z4 := hb4.size
      have c4 := Below.cells hb4
      have f4 := Below.frozens hb4
      try simp only [World.size_alloc, World.size_setCell, World.size_drew] at z4 c4 f4
      go_wp2_with fail
      refine wp_region_quiet_all (Ext _) (by kernel_rfl) (by kernel_rfl) (Ext.drawn _) ?_
      repeat (first | go_big_quiet_skip | go_big_quiet_step (fail) | (refine BigFrame.wpQuiet_want rfl (fun K hK => ?_); apply Exists.intro; refine ⟨fun w2 h2 => ?_, ?_⟩; (next => (have g1 := Below.cells h2.below; have g2 := Below.frozens h2.below; (try simp only [World.size_alloc, World.size_setCell] at g1 g2); first | (go_simp; (first | (go_at_call 21; with_reducible refine h2.calls (HX.out _)) | (go_at_call 20; refine h2.calls (C4.out _)))) | (simp [go_sem, ↓IntWalk.iteOmega, *]; done) | (simp [go_sem, ↓IntWalk.iteOmega, *]; rfl)))); (go_simp; refine hK _ ?_; clear hK K))
      refine wpQuiet_nil ?_
      intro w5 h5
      have hb5 := h5.below
      clear h5
      have z5 := hb5.size
      have c5 := Below.cells hb5
      have f5 := Below.frozens hb5
      try simp only [World.size_alloc, World.size_setCell, World.size_drew] at z5 c5 f5
      go_wp2_with fail
      go_ret
      exact ⟨rfl, (by repeat (first | (with_reducible exact Below.refl _ _) | ((with_reducible refine Below.alloc ?_ ?_ _); rotate_left; (next => ((try dsimp only); (try simp only [World.size_alloc, World.size_setCell, World.size_drew]); omega))) | ((with_reducible refine Below.setCell ?_ ?_ _); rotate_left; (next => ((try dsimp only); (try simp only [World.size_alloc, World.size_setCell, World.size_drew]); omega))) | (with_reducible refine Below.drew ?_) | ((with_reducible refine Below.trans ?_ (Below.mono hb5 ?_)); rotate_left; (next => ((try dsimp only); (try simp only [World.size_alloc, World.size_setCell, World.size_drew]); omega))) | ((with_reducible refine Below.trans ?_ (Below.mono hb4 ?_)); rotate_left; (next => ((try dsimp only); (try simp only [World.size_alloc, World.size_setCell, World.size_drew]); omega))) | ((with_reducible refine Below.trans ?_ (Below.mono hb3 ?_)); rotate_left; (next => ((try dsimp only); (try simp only [World.size_alloc, World.size_setCell, World.size_drew]); omega))) | ((with_reducible refine Below.trans ?_ (Below.mono hb2 ?_)); rotate_left; (next => ((try dsimp only); (try simp only [World.size_alloc, World.size_setCell, World.size_drew]); omega))) | ((with_reducible refine Below.trans ?_ (Below.mono hb1 ?_)); rotate_left; (next => ((try dsimp only); (try simp only [World.size_alloc, World.size_setCell, World.size_drew]); omega)))))⟩
    · rw [ext_all] at hb
      subst hb
      have k3 : (t.size : Int) ≤ s.size := by omega
      have k4 : (t.size : Int) ≤ u.size := by omega
      go_enter Try.func4, Try.ntmps4
      go_wp2_with fail
      refine (H0.out _).mono ?_
      rintro e w1 ⟨rfl, hb1⟩
      have z1 := hb1.size
      have c1 := Below.cells hb1
      have f1 := Below.frozens hb1
      try simp only [World.size_alloc, World.size_setCell, World.size_drew] at z1 c1 f1
      go_wp2_with fail
      refine (C1.out _).mono ?_
      rintro e w2 ⟨rfl, hb2⟩
      have z2 := hb2.size
      have c2 := Below.cells hb2
      have f2 := Below.frozens hb2
      try simp only [World.size_alloc, World.size_setCell, World.size_drew] at z2 c2 f2
      go_wp2_with fail
      refine (C2.out _).mono ?_
      rintro e w3 ⟨rfl, hb3⟩
      have z3 := hb3.size
      have c3 := Below.cells hb3
      have f3 := Below.frozens hb3
      try simp only [World.size_alloc, World.size_setCell, World.size_drew] at z3 c3 f3
      go_wp2_with fail
      refine (C3.out _).mono ?_
      rintro e w4 ⟨rfl, hb4⟩
      have z4 := hb4.size
      have c4 := Below.cells hb4
      have f4 := Below.frozens hb4
      try simp only [World.size_alloc, World.size_setCell, World.size_drew] at z4 c4 f4
      go_wp2_with fail
      refine wp_region_quiet_all (Ext _) (by kernel_rfl) (by kernel_rfl) (Ext.drawn _) ?_
      repeat (first | go_big_quiet_skip | go_big_quiet_step (fail) | (refine BigFrame.wpQuiet_want rfl (fun K hK => ?_); apply Exists.intro; refine ⟨fun w2 h2 => ?_, ?_⟩; (next => (have g1 := Below.cells h2.below; have g2 := Below.frozens h2.below; (try simp only [World.size_alloc, World.size_setCell] at g1 g2); first | (go_simp; (first | (go_at_call 21; with_reducible refine h2.calls (HX.out _)) | (go_at_call 20; refine h2.calls (C4.out _)))) | (simp [go_sem, ↓IntWalk.iteOmega, *]; done) | (simp [go_sem, ↓IntWalk.iteOmega, *]; rfl)))); (go_simp; refine hK _ ?_; clear hK K))
      refine wpQuiet_nil ?_
      intro w5 h5
      have hb5 := h5.below
      clear h5
      have z5 := hb5.size
      have c5 := Below.cells hb5
      have f5 := Below.frozens hb5
      try simp only [World.size_alloc, World.size_setCell, World.size_drew] at z5 c5 f5
      go_wp2_with fail
      go_ret
      exact ⟨rfl, (by repeat (first | (with_reducible exact Below.refl _ _) | ((with_reducible refine Below.alloc ?_ ?_ _); rotate_left; (next => ((try dsimp only); (try simp only [World.size_alloc, World.size_setCell, World.size_drew]); omega))) | ((with_reducible refine Below.setCell ?_ ?_ _); rotate_left; (next => ((try dsimp only); (try simp only [World.size_alloc, World.size_setCell, World.size_drew]); omega))) | (with_reducible refine Below.drew ?_) | ((with_reducible refine Below.trans ?_ (Below.mono hb5 ?_)); rotate_left; (next => ((try dsimp only); (try simp only [World.size_alloc, World.size_setCell, World.size_drew]); omega))) | ((with_reducible refine Below.trans ?_ (Below.mono hb4 ?_)); rotate_left; (next => ((try dsimp only); (try simp only [World.size_alloc, World.size_setCell, World.size_drew]); omega))) | ((with_reducible refine Below.trans ?_ (Below.mono hb3 ?_)); rotate_left; (next => ((try dsimp only); (try simp only [World.size_alloc, World.size_setCell, World.size_drew]); omega))) | ((with_reducible refine Below.trans ?_ (Below.mono hb2 ?_)); rotate_left; (next => ((try dsimp only); (try simp only [World.size_alloc, World.size_setCell, World.size_drew]); omega))) | ((with_reducible refine Below.trans ?_ (Below.mono hb1 ?_)); rotate_left; (next => ((try dsimp only); (try simp only [World.size_alloc, World.size_setCell, World.size_drew]); omega)))))⟩
    · rw [ext_all] at hc
      subst hc
      have k3 : (u.size : Int) ≤ s.size := by omega
      have k4 : (u.size : Int) ≤ t.size := by omega
      go_enter Try.func4, Try.ntmps4
      go_wp2_with fail
      refine (H0.out _).mono ?_
      rintro e w1 ⟨rfl, hb1⟩
      have z1 := hb1.size
      have c1 := Below.cells hb1
      have f1 := Below.frozens hb1
      try simp only [World.size_alloc, World.size_setCell, World.size_drew] at z1 c1 f1
      go_wp2_with fail
      refine (C1.out _).mono ?_
      rintro e w2 ⟨rfl, hb2⟩
      have z2 := hb2.size
      have c2 := Below.cells hb2
      have f2 := Below.frozens hb2
      try simp only [World.size_alloc, World.size_setCell, World.size_drew] at z2 c2 f2
      go_wp2_with fail
      refine (C2.out _).mono ?_
      rintro e w3 ⟨rfl, hb3⟩
      have z3 := hb3.size
      have c3 := Below.cells hb3
      have f3 := Below.frozens hb3
      try simp only [World.size_alloc, World.size_setCell, World.size_drew] at z3 c3 f3
      go_wp2_with fail
      refine (C3.out _).mono ?_
      rintro e w4 ⟨rfl, hb4⟩
      have z4 := hb4.size
      have c4 := Below.cells hb4
      have f4 := Below.frozens hb4
      try simp only [World.size_alloc, World.size_setCell, World.size_drew] at z4 c4 f4
      go_wp2_with fail
      refine wp_region_quiet_all (Ext _) (by kernel_rfl) (by kernel_rfl) (Ext.drawn _) ?_
      repeat (first | go_big_quiet_skip | go_big_quiet_step (fail) | (refine BigFrame.wpQuiet_want rfl (fun K hK => ?_); apply Exists.intro; refine ⟨fun w2 h2 => ?_, ?_⟩; (next => (have g1 := Below.cells h2.below; have g2 := Below.frozens h2.below; (try simp only [World.size_alloc, World.size_setCell] at g1 g2); first | (go_simp; (first | (go_at_call 21; with_reducible refine h2.calls (HX.out _)) | (go_at_call 20; refine h2.calls (C4.out _)))) | (simp [go_sem, ↓IntWalk.iteOmega, *]; done) | (simp [go_sem, ↓IntWalk.iteOmega, *]; rfl)))); (go_simp; refine hK _ ?_; clear hK K))
      refine wpQuiet_nil ?_
      intro w5 h5
      have hb5 := h5.below
      clear h5
      have z5 := hb5.size
      have c5 := Below.cells hb5
      have f5 := Below.frozens hb5
      try simp only [World.size_alloc, World.size_setCell, World.size_drew] at z5 c5 f5
      go_wp2_with fail
      go_ret
      exact ⟨rfl, (by repeat (first | (with_reducible exact Below.refl _ _) | ((with_reducible refine Below.alloc ?_ ?_ _); rotate_left; (next => ((try dsimp only); (try simp only [World.size_alloc, World.size_setCell, World.size_drew]); omega))) | ((with_reducible refine Below.setCell ?_ ?_ _); rotate_left; (next => ((try dsimp only); (try simp only [World.size_alloc, World.size_setCell, World.size_drew]); omega))) | (with_reducible refine Below.drew ?_) | ((with_reducible refine Below.trans ?_ (Below.mono hb5 ?_)); rotate_left; (next => ((try dsimp only); (try simp only [World.size_alloc, World.size_setCell, World.size_drew]); omega))) | ((with_reducible refine Below.trans ?_ (Below.mono hb4 ?_)); rotate_left; (next => ((try dsimp only); (try simp only [World.size_alloc, World.size_setCell, World.size_drew]); omega))) | ((with_reducible refine Below.trans ?_ (Below.mono hb3 ?_)); rotate_left; (next => ((try dsimp only); (try simp only [World.size_alloc, World.size_setCell, World.size_drew]); omega))) | ((with_reducible refine Below.trans ?_ (Below.mono hb2 ?_)); rotate_left; (next => ((try dsimp only); (try simp only [World.size_alloc, World.size_setCell, World.size_drew]); omega))) | ((with_reducible refine Below.trans ?_ (Below.mono hb1 ?_)); rotate_left; (next => ((try dsimp only); (try simp only [World.size_alloc, World.size_setCell, World.size_drew]); omega)))))⟩
    · rw [ext_all] at hc
      subst hc
      have k3 : (u.size : Int) ≤ s.size := by omega
      have k4 : (u.size : Int) ≤ t.size := by omega
      go_enter Try.func4, Try.ntmps4
      go_wp2_with fail
      refine (H0.out _).mono ?_
      rintro e w1 ⟨rfl, hb1⟩
      have z1 := hb1.size
      have c1 := Below.cells hb1
      have f1 := Below.frozens hb1
      try simp only [World.size_alloc, World.size_setCell, World.size_drew] at z1 c1 f1
      go_wp2_with fail
      refine (C1.out _).mono ?_
      rintro e w2 ⟨rfl, hb2⟩
      have z2 := hb2.size
      have c2 := Below.cells hb2
      have f2 := Below.frozens hb2
      try simp only [World.size_alloc, World.size_setCell, World.size_drew] at z2 c2 f2
      go_wp2_with fail
      refine (C2.out _).mono ?_
      rintro e w3 ⟨rfl, hb3⟩
      have z3 := hb3.size
      have c3 := Below.cells hb3
      have f3 := Below.frozens hb3
      try simp only [World.size_alloc, World.size_setCell, World.size_drew] at z3 c3 f3
      go_wp2_with fail
      refine (C3.out _).mono ?_
      rintro e w4 ⟨rfl, hb4⟩
      have z4 := hb4.size
      have c4 := Below.cells hb4
      have f4 := Below.frozens hb4
      try simp only [World.size_alloc, World.size_setCell, World.size_drew] at z4 c4 f4
      go_wp2_with fail
      refine wp_region_quiet_all (Ext _) (by kernel_rfl) (by kernel_rfl) (Ext.drawn _) ?_
      repeat (first | go_big_quiet_skip | go_big_quiet_step (fail) | (refine BigFrame.wpQuiet_want rfl (fun K hK => ?_); apply Exists.intro; refine ⟨fun w2 h2 => ?_, ?_⟩; (next => (have g1 := Below.cells h2.below; have g2 := Below.frozens h2.below; (try simp only [World.size_alloc, World.size_setCell] at g1 g2); first | (go_simp; (first | (go_at_call 21; with_reducible refine h2.calls (HX.out _)) | (go_at_call 20; refine h2.calls (C4.out _)))) | (simp [go_sem, ↓IntWalk.iteOmega, *]; done) | (simp [go_sem, ↓IntWalk.iteOmega, *]; rfl)))); (go_simp; refine hK _ ?_; clear hK K))
      refine wpQuiet_nil ?_
      intro w5 h5
      have hb5 := h5.below
      clear h5
      have z5 := hb5.size
      have c5 := Below.cells hb5
      have f5 := Below.frozens hb5
      try simp only [World.size_alloc, World.size_setCell, World.size_drew] at z5 c5 f5
      go_wp2_with fail
      go_ret
      exact ⟨rfl, (by repeat (first | (with_reducible exact Below.refl _ _) | ((with_reducible refine Below.alloc ?_ ?_ _); rotate_left; (next => ((try dsimp only); (try simp only [World.size_alloc, World.size_setCell, World.size_drew]); omega))) | ((with_reducible refine Below.setCell ?_ ?_ _); rotate_left; (next => ((try dsimp only); (try simp only [World.size_alloc, World.size_setCell, World.size_drew]); omega))) | (with_reducible refine Below.drew ?_) | ((with_reducible refine Below.trans ?_ (Below.mono hb5 ?_)); rotate_left; (next => ((try dsimp only); (try simp only [World.size_alloc, World.size_setCell, World.size_drew]); omega))) | ((with_reducible refine Below.trans ?_ (Below.mono hb4 ?_)); rotate_left; (next => ((try dsimp only); (try simp only [World.size_alloc, World.size_setCell, World.size_drew]); omega))) | ((with_reducible refine Below.trans ?_ (Below.mono hb3 ?_)); rotate_left; (next => ((try dsimp only); (try simp only [World.size_alloc, World.size_setCell, World.size_drew]); omega))) | ((with_reducible refine Below.trans ?_ (Below.mono hb2 ?_)); rotate_left; (next => ((try dsimp only); (try simp only [World.size_alloc, World.size_setCell, World.size_drew]); omega))) | ((with_reducible refine Below.trans ?_ (Below.mono hb1 ?_)); rotate_left; (next => ((try dsimp only); (try simp only [World.size_alloc, World.size_setCell, World.size_drew]); omega)))))⟩
end Go.Proofs.Ytamncanlbopehaa
